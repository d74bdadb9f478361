/- Part 26 of a proof: the statement CodesChooses: for every input its law returns true (its texts without what nothing here names). -/
import Derived.Test.YtimkchehdaadeaaZChooses12
import Derived.Test.YtimkchehdaadeaaZChooses14

section
namespace Go.Proofs.Ytimkchehdaadeaa.P
open Go.RowKit Go.Proofs.YtimkchehdaadeaaW.PrintWords Go.Proofs.YtimkchehdaadeaaW.PrintLast Go.Proofs.YtimkchehdaadeaaW.PrintMore
set_option linter.unusedVariables false
set_option linter.unusedSimpArgs false
theorem below_join {w w1 w2 : World} (h : Below w.heap.size w w1) (k : Below w1.heap.size w1 w2) : Below w.heap.size w w2 := below_then h h.size k
def sameB (a0 a1 a2 a3 a4 : Int) (a5 : List Int) (a6 : Bool) (b0 b1 b2 b3 b4 : Int) (b5 : List Int) (b6 : Bool) : Bool :=
  decide (a0 = b0) && (decide (a1 = b1) && (decide (a2 = b2) && (decide (a3 = b3) && (decide (a4 = b4) && ((a6 == b6) && decide (a5 = b5))))))
set_option maxHeartbeats 16000000 in
set_option maxRecDepth 100000 in
theorem isClue_k1 (W S A B N M : Int) (A5 : Option Addr) (c5 : Nat) (G : List Int) (nt : Bool) (w : World) (hl : okLock W S) (hr : Kd.C (Kd.int .i64) w A5 G.length G) (hc : G.length ≤ c5) :
    Calls Try.prog 69 #[.agg #[.int .i64 W, .int .i64 S], .agg #[.int .i64 1, .int .i64 A, .int .i64 B, .int .i64 N, .int .i64 M, .slice A5 G.length c5, .bool nt]] w fun e w' => e = .returned (.bool (inRange 0 (W - 1) A && (inRange 0 (S - 1) N && sameB 1 A B N M G nt 1 A 0 N 0 [] nt))) ∧ Below w.heap.size w w' := by
  have hu36 := Try.underlying36
  have hu23 := Try.underlying23
  have HI := Aside0.mk fun x lo hi w0 => padlockref01_Within.calls x lo hi _ w0 (Within_eq x lo hi)
  obtain ⟨kk, hkk⟩ := (SameClue_ev 1 A B N M G nt 1 A 0 N 0 [] nt (Kd.C_max hr)).rounds
  have HSC : Aside0 (padlockref01_SameClue.f kk 1 A B N M G nt 1 A 0 N 0 [] nt = some (sameB 1 A B N M G nt 1 A 0 N 0 [] nt)) := ⟨hkk⟩
  obtain ⟨kc, hkc⟩ := (isCode_ev W S hl G (Kd.C_max hr)).rounds
  have HC : Aside0 (∀ w0, Below w.heap.size w w0 → _) := Aside0.mk fun w0 hb0 => padlockref01_isCode.calls kc W S A5 c5 G _ w0 (Kd.C_below hr hb0) hc hkc
  obtain ⟨hW1, hW2, hS1, hS2⟩ := hl
  have HR := Aside0.mk hr
  clear hr hkk hkc
  obtain ⟨sv, hsv⟩ : ∃ sv, sv = sameB 1 A B N M G nt 1 A 0 N 0 [] nt := ⟨_, rfl⟩
  rw [← hsv] at HSC ⊢
  clear hsv
  cases h0 : inRange 0 (W - 1) A with
  | false =>
    simp only [Bool.false_and]
    go_enter Try.func69, Try.ntmps69
    go_wp2
    go_quiet (first | (go_at_call 67; (with_reducible refine (HI.out _ _ _ _).mono ?_); rintro e w' ⟨rfl, ⟨nd, rfl⟩⟩; (try first | exact ⟨rfl, _, World.drewN_drewN _ _ _⟩ | exact ⟨rfl, _, Eq.trans (World.drewN_drewN _ _ _) (congrArg (World.drewN _) (Nat.add_assoc _ _ _))⟩)))
    go_wp2_with (first | (go_at_call 67; (with_reducible refine (HI.out _ _ _ _).mono ?_); rintro e w' ⟨rfl, ⟨nd, rfl⟩⟩))
    go_ret
    exact ⟨rfl, by repeat (first | exact HB.out | exact Below.refl _ _ | apply below_alloc | apply pw_below_drewN | apply below_drew1 | (refine below_set ?_ (by omega)))⟩
  | true =>
    simp only [Bool.true_and]
    cases h1 : inRange 0 (S - 1) N with
    | false =>
      simp only [Bool.false_and]
      go_enter Try.func69, Try.ntmps69
      go_wp2
      go_quiet (first | (go_at_call 67; (with_reducible refine (HI.out _ _ _ _).mono ?_); rintro e w' ⟨rfl, ⟨nd, rfl⟩⟩; (try first | exact ⟨rfl, _, World.drewN_drewN _ _ _⟩ | exact ⟨rfl, _, Eq.trans (World.drewN_drewN _ _ _) (congrArg (World.drewN _) (Nat.add_assoc _ _ _))⟩)))
      go_wp2_with (first | (go_at_call 67; (with_reducible refine (HI.out _ _ _ _).mono ?_); rintro e w' ⟨rfl, ⟨nd, rfl⟩⟩))
      go_ret
      exact ⟨rfl, by repeat (first | exact HB.out | exact Below.refl _ _ | apply below_alloc | apply pw_below_drewN | apply below_drew1 | (refine below_set ?_ (by omega)))⟩
    | true =>
      simp only [Bool.true_and]
      go_enter Try.func69, Try.ntmps69
      go_wp2
      go_quiet (first | (go_at_call 67; (with_reducible refine (HI.out _ _ _ _).mono ?_); rintro e w' ⟨rfl, ⟨nd, rfl⟩⟩; (try first | exact ⟨rfl, _, World.drewN_drewN _ _ _⟩ | exact ⟨rfl, _, Eq.trans (World.drewN_drewN _ _ _) (congrArg (World.drewN _) (Nat.add_assoc _ _ _))⟩)))
      go_wp2_with (first | (go_at_call 67; (with_reducible refine (HI.out _ _ _ _).mono ?_); rintro e w' ⟨rfl, ⟨nd, rfl⟩⟩) | (go_at_call 98; (refine (padlockref01_SameClue.calls kk _ _ _ _ _ _ _ _ _ _ _ _ _ _ _ _ _ _ _ _ ?s1 ?s2 ?s3 ?s4 HSC.out).mono ?_); (case s1 => refine Kd.C_below HR.out ?_; repeat (first | exact HB.out | exact Below.refl _ _ | apply below_alloc | apply pw_below_drewN | apply below_drew1 | (refine below_set ?_ (by omega)))); (case s2 => exact hc); (case s3 => exact Kd.C_nil _ _); (case s4 => exact Nat.zero_le _); rintro e w3 ⟨rfl, hb3⟩; have HX := Aside0.mk (below_join (w := w) (by repeat (first | exact HB.out | exact Below.refl _ _ | apply below_alloc | apply pw_below_drewN | apply below_drew1 | (refine below_set ?_ (by omega)))) hb3)))
      go_ret
      exact ⟨rfl, HX.out⟩
set_option maxHeartbeats 16000000 in
set_option maxRecDepth 100000 in
theorem isClue_k2 (W S A B N M : Int) (A5 : Option Addr) (c5 : Nat) (G : List Int) (nt : Bool) (w : World) (hl : okLock W S) (hr : Kd.C (Kd.int .i64) w A5 G.length G) (hc : G.length ≤ c5) :
    Calls Try.prog 69 #[.agg #[.int .i64 W, .int .i64 S], .agg #[.int .i64 2, .int .i64 A, .int .i64 B, .int .i64 N, .int .i64 M, .slice A5 G.length c5, .bool nt]] w fun e w' => e = .returned (.bool (inRange 0 (W - 1) A && (inRange 0 (W - 1) B && (decide (A ≤ B) && (inRange 0 100 N && sameB 2 A B N M G nt 2 A B N 0 [] nt))))) ∧ Below w.heap.size w w' := by
  have hu36 := Try.underlying36
  have hu23 := Try.underlying23
  have HI := Aside0.mk fun x lo hi w0 => padlockref01_Within.calls x lo hi _ w0 (Within_eq x lo hi)
  obtain ⟨kk, hkk⟩ := (SameClue_ev 2 A B N M G nt 2 A B N 0 [] nt (Kd.C_max hr)).rounds
  have HSC : Aside0 (padlockref01_SameClue.f kk 2 A B N M G nt 2 A B N 0 [] nt = some (sameB 2 A B N M G nt 2 A B N 0 [] nt)) := ⟨hkk⟩
  obtain ⟨kc, hkc⟩ := (isCode_ev W S hl G (Kd.C_max hr)).rounds
  have HC : Aside0 (∀ w0, Below w.heap.size w w0 → _) := Aside0.mk fun w0 hb0 => padlockref01_isCode.calls kc W S A5 c5 G _ w0 (Kd.C_below hr hb0) hc hkc
  obtain ⟨hW1, hW2, hS1, hS2⟩ := hl
  have HR := Aside0.mk hr
  clear hr hkk hkc
  obtain ⟨sv, hsv⟩ : ∃ sv, sv = sameB 2 A B N M G nt 2 A B N 0 [] nt := ⟨_, rfl⟩
  rw [← hsv] at HSC ⊢
  clear hsv
  cases h0 : inRange 0 (W - 1) A with
  | false =>
    simp only [Bool.false_and]
    go_enter Try.func69, Try.ntmps69
    go_wp2
    go_quiet (first | (go_at_call 67; (with_reducible refine (HI.out _ _ _ _).mono ?_); rintro e w' ⟨rfl, ⟨nd, rfl⟩⟩; (try first | exact ⟨rfl, _, World.drewN_drewN _ _ _⟩ | exact ⟨rfl, _, Eq.trans (World.drewN_drewN _ _ _) (congrArg (World.drewN _) (Nat.add_assoc _ _ _))⟩)))
    go_wp2_with (first | (go_at_call 67; (with_reducible refine (HI.out _ _ _ _).mono ?_); rintro e w' ⟨rfl, ⟨nd, rfl⟩⟩))
    go_ret
    exact ⟨rfl, by repeat (first | exact HB.out | exact Below.refl _ _ | apply below_alloc | apply pw_below_drewN | apply below_drew1 | (refine below_set ?_ (by omega)))⟩
  | true =>
    simp only [Bool.true_and]
    cases h1 : inRange 0 (W - 1) B with
    | false =>
      simp only [Bool.false_and]
      go_enter Try.func69, Try.ntmps69
      go_wp2
      go_quiet (first | (go_at_call 67; (with_reducible refine (HI.out _ _ _ _).mono ?_); rintro e w' ⟨rfl, ⟨nd, rfl⟩⟩; (try first | exact ⟨rfl, _, World.drewN_drewN _ _ _⟩ | exact ⟨rfl, _, Eq.trans (World.drewN_drewN _ _ _) (congrArg (World.drewN _) (Nat.add_assoc _ _ _))⟩)))
      go_wp2_with (first | (go_at_call 67; (with_reducible refine (HI.out _ _ _ _).mono ?_); rintro e w' ⟨rfl, ⟨nd, rfl⟩⟩))
      go_ret
      exact ⟨rfl, by repeat (first | exact HB.out | exact Below.refl _ _ | apply below_alloc | apply pw_below_drewN | apply below_drew1 | (refine below_set ?_ (by omega)))⟩
    | true =>
      simp only [Bool.true_and]
      cases h2 : decide (A ≤ B) with
      | false =>
        simp only [Bool.false_and]
        go_enter Try.func69, Try.ntmps69
        go_wp2
        go_quiet (first | (go_at_call 67; (with_reducible refine (HI.out _ _ _ _).mono ?_); rintro e w' ⟨rfl, ⟨nd, rfl⟩⟩; (try first | exact ⟨rfl, _, World.drewN_drewN _ _ _⟩ | exact ⟨rfl, _, Eq.trans (World.drewN_drewN _ _ _) (congrArg (World.drewN _) (Nat.add_assoc _ _ _))⟩)))
        go_wp2_with (first | (go_at_call 67; (with_reducible refine (HI.out _ _ _ _).mono ?_); rintro e w' ⟨rfl, ⟨nd, rfl⟩⟩))
        go_ret
        exact ⟨rfl, by repeat (first | exact HB.out | exact Below.refl _ _ | apply below_alloc | apply pw_below_drewN | apply below_drew1 | (refine below_set ?_ (by omega)))⟩
      | true =>
        simp only [Bool.true_and]
        cases h3 : inRange 0 100 N with
        | false =>
          simp only [Bool.false_and]
          go_enter Try.func69, Try.ntmps69
          go_wp2
          go_quiet (first | (go_at_call 67; (with_reducible refine (HI.out _ _ _ _).mono ?_); rintro e w' ⟨rfl, ⟨nd, rfl⟩⟩; (try first | exact ⟨rfl, _, World.drewN_drewN _ _ _⟩ | exact ⟨rfl, _, Eq.trans (World.drewN_drewN _ _ _) (congrArg (World.drewN _) (Nat.add_assoc _ _ _))⟩)))
          go_wp2_with (first | (go_at_call 67; (with_reducible refine (HI.out _ _ _ _).mono ?_); rintro e w' ⟨rfl, ⟨nd, rfl⟩⟩))
          go_ret
          exact ⟨rfl, by repeat (first | exact HB.out | exact Below.refl _ _ | apply below_alloc | apply pw_below_drewN | apply below_drew1 | (refine below_set ?_ (by omega)))⟩
        | true =>
          simp only [Bool.true_and]
          go_enter Try.func69, Try.ntmps69
          go_wp2
          go_quiet (first | (go_at_call 67; (with_reducible refine (HI.out _ _ _ _).mono ?_); rintro e w' ⟨rfl, ⟨nd, rfl⟩⟩; (try first | exact ⟨rfl, _, World.drewN_drewN _ _ _⟩ | exact ⟨rfl, _, Eq.trans (World.drewN_drewN _ _ _) (congrArg (World.drewN _) (Nat.add_assoc _ _ _))⟩)))
          go_wp2_with (first | (go_at_call 67; (with_reducible refine (HI.out _ _ _ _).mono ?_); rintro e w' ⟨rfl, ⟨nd, rfl⟩⟩) | (go_at_call 98; (refine (padlockref01_SameClue.calls kk _ _ _ _ _ _ _ _ _ _ _ _ _ _ _ _ _ _ _ _ ?s1 ?s2 ?s3 ?s4 HSC.out).mono ?_); (case s1 => refine Kd.C_below HR.out ?_; repeat (first | exact HB.out | exact Below.refl _ _ | apply below_alloc | apply pw_below_drewN | apply below_drew1 | (refine below_set ?_ (by omega)))); (case s2 => exact hc); (case s3 => exact Kd.C_nil _ _); (case s4 => exact Nat.zero_le _); rintro e w3 ⟨rfl, hb3⟩; have HX := Aside0.mk (below_join (w := w) (by repeat (first | exact HB.out | exact Below.refl _ _ | apply below_alloc | apply pw_below_drewN | apply below_drew1 | (refine below_set ?_ (by omega)))) hb3)))
          go_ret
          exact ⟨rfl, HX.out⟩
set_option maxHeartbeats 16000000 in
set_option maxRecDepth 100000 in
theorem isClue_k3 (W S A B N M : Int) (A5 : Option Addr) (c5 : Nat) (G : List Int) (nt : Bool) (w : World) (hl : okLock W S) (hr : Kd.C (Kd.int .i64) w A5 G.length G) (hc : G.length ≤ c5) :
    Calls Try.prog 69 #[.agg #[.int .i64 W, .int .i64 S], .agg #[.int .i64 3, .int .i64 A, .int .i64 B, .int .i64 N, .int .i64 M, .slice A5 G.length c5, .bool nt]] w fun e w' => e = .returned (.bool (inRange 0 (W - 1) A && (inRange 0 (W - 1) B && ((A != B) && sameB 3 A B N M G nt 3 A B 0 0 [] nt)))) ∧ Below w.heap.size w w' := by
  have hu36 := Try.underlying36
  have hu23 := Try.underlying23
  have HI := Aside0.mk fun x lo hi w0 => padlockref01_Within.calls x lo hi _ w0 (Within_eq x lo hi)
  obtain ⟨kk, hkk⟩ := (SameClue_ev 3 A B N M G nt 3 A B 0 0 [] nt (Kd.C_max hr)).rounds
  have HSC : Aside0 (padlockref01_SameClue.f kk 3 A B N M G nt 3 A B 0 0 [] nt = some (sameB 3 A B N M G nt 3 A B 0 0 [] nt)) := ⟨hkk⟩
  obtain ⟨kc, hkc⟩ := (isCode_ev W S hl G (Kd.C_max hr)).rounds
  have HC : Aside0 (∀ w0, Below w.heap.size w w0 → _) := Aside0.mk fun w0 hb0 => padlockref01_isCode.calls kc W S A5 c5 G _ w0 (Kd.C_below hr hb0) hc hkc
  obtain ⟨hW1, hW2, hS1, hS2⟩ := hl
  have HR := Aside0.mk hr
  clear hr hkk hkc
  obtain ⟨sv, hsv⟩ : ∃ sv, sv = sameB 3 A B N M G nt 3 A B 0 0 [] nt := ⟨_, rfl⟩
  rw [← hsv] at HSC ⊢
  clear hsv
  cases h0 : inRange 0 (W - 1) A with
  | false =>
    simp only [Bool.false_and]
    go_enter Try.func69, Try.ntmps69
    go_wp2
    go_quiet (first | (go_at_call 67; (with_reducible refine (HI.out _ _ _ _).mono ?_); rintro e w' ⟨rfl, ⟨nd, rfl⟩⟩; (try first | exact ⟨rfl, _, World.drewN_drewN _ _ _⟩ | exact ⟨rfl, _, Eq.trans (World.drewN_drewN _ _ _) (congrArg (World.drewN _) (Nat.add_assoc _ _ _))⟩)))
    go_wp2_with (first | (go_at_call 67; (with_reducible refine (HI.out _ _ _ _).mono ?_); rintro e w' ⟨rfl, ⟨nd, rfl⟩⟩))
    go_ret
    exact ⟨rfl, by repeat (first | exact HB.out | exact Below.refl _ _ | apply below_alloc | apply pw_below_drewN | apply below_drew1 | (refine below_set ?_ (by omega)))⟩
  | true =>
    simp only [Bool.true_and]
    cases h1 : inRange 0 (W - 1) B with
    | false =>
      simp only [Bool.false_and]
      go_enter Try.func69, Try.ntmps69
      go_wp2
      go_quiet (first | (go_at_call 67; (with_reducible refine (HI.out _ _ _ _).mono ?_); rintro e w' ⟨rfl, ⟨nd, rfl⟩⟩; (try first | exact ⟨rfl, _, World.drewN_drewN _ _ _⟩ | exact ⟨rfl, _, Eq.trans (World.drewN_drewN _ _ _) (congrArg (World.drewN _) (Nat.add_assoc _ _ _))⟩)))
      go_wp2_with (first | (go_at_call 67; (with_reducible refine (HI.out _ _ _ _).mono ?_); rintro e w' ⟨rfl, ⟨nd, rfl⟩⟩))
      go_ret
      exact ⟨rfl, by repeat (first | exact HB.out | exact Below.refl _ _ | apply below_alloc | apply pw_below_drewN | apply below_drew1 | (refine below_set ?_ (by omega)))⟩
    | true =>
      simp only [Bool.true_and]
      cases h2 : (A != B) with
      | false =>
        simp only [Bool.false_and]
        go_enter Try.func69, Try.ntmps69
        go_wp2
        go_quiet (first | (go_at_call 67; (with_reducible refine (HI.out _ _ _ _).mono ?_); rintro e w' ⟨rfl, ⟨nd, rfl⟩⟩; (try first | exact ⟨rfl, _, World.drewN_drewN _ _ _⟩ | exact ⟨rfl, _, Eq.trans (World.drewN_drewN _ _ _) (congrArg (World.drewN _) (Nat.add_assoc _ _ _))⟩)))
        go_wp2_with (first | (go_at_call 67; (with_reducible refine (HI.out _ _ _ _).mono ?_); rintro e w' ⟨rfl, ⟨nd, rfl⟩⟩))
        go_ret
        exact ⟨rfl, by repeat (first | exact HB.out | exact Below.refl _ _ | apply below_alloc | apply pw_below_drewN | apply below_drew1 | (refine below_set ?_ (by omega)))⟩
      | true =>
        simp only [Bool.true_and]
        go_enter Try.func69, Try.ntmps69
        go_wp2
        go_quiet (first | (go_at_call 67; (with_reducible refine (HI.out _ _ _ _).mono ?_); rintro e w' ⟨rfl, ⟨nd, rfl⟩⟩; (try first | exact ⟨rfl, _, World.drewN_drewN _ _ _⟩ | exact ⟨rfl, _, Eq.trans (World.drewN_drewN _ _ _) (congrArg (World.drewN _) (Nat.add_assoc _ _ _))⟩)))
        go_wp2_with (first | (go_at_call 67; (with_reducible refine (HI.out _ _ _ _).mono ?_); rintro e w' ⟨rfl, ⟨nd, rfl⟩⟩) | (go_at_call 98; (refine (padlockref01_SameClue.calls kk _ _ _ _ _ _ _ _ _ _ _ _ _ _ _ _ _ _ _ _ ?s1 ?s2 ?s3 ?s4 HSC.out).mono ?_); (case s1 => refine Kd.C_below HR.out ?_; repeat (first | exact HB.out | exact Below.refl _ _ | apply below_alloc | apply pw_below_drewN | apply below_drew1 | (refine below_set ?_ (by omega)))); (case s2 => exact hc); (case s3 => exact Kd.C_nil _ _); (case s4 => exact Nat.zero_le _); rintro e w3 ⟨rfl, hb3⟩; have HX := Aside0.mk (below_join (w := w) (by repeat (first | exact HB.out | exact Below.refl _ _ | apply below_alloc | apply pw_below_drewN | apply below_drew1 | (refine below_set ?_ (by omega)))) hb3)))
        go_ret
        exact ⟨rfl, HX.out⟩
set_option maxHeartbeats 16000000 in
set_option maxRecDepth 100000 in
theorem isClue_k4 (W S A B N M : Int) (A5 : Option Addr) (c5 : Nat) (G : List Int) (nt : Bool) (w : World) (hl : okLock W S) (hr : Kd.C (Kd.int .i64) w A5 G.length G) (hc : G.length ≤ c5) :
    Calls Try.prog 69 #[.agg #[.int .i64 W, .int .i64 S], .agg #[.int .i64 4, .int .i64 A, .int .i64 B, .int .i64 N, .int .i64 M, .slice A5 G.length c5, .bool nt]] w fun e w' => e = .returned (.bool (inRange 0 (W - 1) A && (inRange 0 (W - 1) B && ((A != B) && sameB 4 A B N M G nt 4 A B 0 0 [] nt)))) ∧ Below w.heap.size w w' := by
  have hu36 := Try.underlying36
  have hu23 := Try.underlying23
  have HI := Aside0.mk fun x lo hi w0 => padlockref01_Within.calls x lo hi _ w0 (Within_eq x lo hi)
  obtain ⟨kk, hkk⟩ := (SameClue_ev 4 A B N M G nt 4 A B 0 0 [] nt (Kd.C_max hr)).rounds
  have HSC : Aside0 (padlockref01_SameClue.f kk 4 A B N M G nt 4 A B 0 0 [] nt = some (sameB 4 A B N M G nt 4 A B 0 0 [] nt)) := ⟨hkk⟩
  obtain ⟨kc, hkc⟩ := (isCode_ev W S hl G (Kd.C_max hr)).rounds
  have HC : Aside0 (∀ w0, Below w.heap.size w w0 → _) := Aside0.mk fun w0 hb0 => padlockref01_isCode.calls kc W S A5 c5 G _ w0 (Kd.C_below hr hb0) hc hkc
  obtain ⟨hW1, hW2, hS1, hS2⟩ := hl
  have HR := Aside0.mk hr
  clear hr hkk hkc
  obtain ⟨sv, hsv⟩ : ∃ sv, sv = sameB 4 A B N M G nt 4 A B 0 0 [] nt := ⟨_, rfl⟩
  rw [← hsv] at HSC ⊢
  clear hsv
  cases h0 : inRange 0 (W - 1) A with
  | false =>
    simp only [Bool.false_and]
    go_enter Try.func69, Try.ntmps69
    go_wp2
    go_quiet (first | (go_at_call 67; (with_reducible refine (HI.out _ _ _ _).mono ?_); rintro e w' ⟨rfl, ⟨nd, rfl⟩⟩; (try first | exact ⟨rfl, _, World.drewN_drewN _ _ _⟩ | exact ⟨rfl, _, Eq.trans (World.drewN_drewN _ _ _) (congrArg (World.drewN _) (Nat.add_assoc _ _ _))⟩)))
    go_wp2_with (first | (go_at_call 67; (with_reducible refine (HI.out _ _ _ _).mono ?_); rintro e w' ⟨rfl, ⟨nd, rfl⟩⟩))
    go_ret
    exact ⟨rfl, by repeat (first | exact HB.out | exact Below.refl _ _ | apply below_alloc | apply pw_below_drewN | apply below_drew1 | (refine below_set ?_ (by omega)))⟩
  | true =>
    simp only [Bool.true_and]
    cases h1 : inRange 0 (W - 1) B with
    | false =>
      simp only [Bool.false_and]
      go_enter Try.func69, Try.ntmps69
      go_wp2
      go_quiet (first | (go_at_call 67; (with_reducible refine (HI.out _ _ _ _).mono ?_); rintro e w' ⟨rfl, ⟨nd, rfl⟩⟩; (try first | exact ⟨rfl, _, World.drewN_drewN _ _ _⟩ | exact ⟨rfl, _, Eq.trans (World.drewN_drewN _ _ _) (congrArg (World.drewN _) (Nat.add_assoc _ _ _))⟩)))
      go_wp2_with (first | (go_at_call 67; (with_reducible refine (HI.out _ _ _ _).mono ?_); rintro e w' ⟨rfl, ⟨nd, rfl⟩⟩))
      go_ret
      exact ⟨rfl, by repeat (first | exact HB.out | exact Below.refl _ _ | apply below_alloc | apply pw_below_drewN | apply below_drew1 | (refine below_set ?_ (by omega)))⟩
    | true =>
      simp only [Bool.true_and]
      cases h2 : (A != B) with
      | false =>
        simp only [Bool.false_and]
        go_enter Try.func69, Try.ntmps69
        go_wp2
        go_quiet (first | (go_at_call 67; (with_reducible refine (HI.out _ _ _ _).mono ?_); rintro e w' ⟨rfl, ⟨nd, rfl⟩⟩; (try first | exact ⟨rfl, _, World.drewN_drewN _ _ _⟩ | exact ⟨rfl, _, Eq.trans (World.drewN_drewN _ _ _) (congrArg (World.drewN _) (Nat.add_assoc _ _ _))⟩)))
        go_wp2_with (first | (go_at_call 67; (with_reducible refine (HI.out _ _ _ _).mono ?_); rintro e w' ⟨rfl, ⟨nd, rfl⟩⟩))
        go_ret
        exact ⟨rfl, by repeat (first | exact HB.out | exact Below.refl _ _ | apply below_alloc | apply pw_below_drewN | apply below_drew1 | (refine below_set ?_ (by omega)))⟩
      | true =>
        simp only [Bool.true_and]
        go_enter Try.func69, Try.ntmps69
        go_wp2
        go_quiet (first | (go_at_call 67; (with_reducible refine (HI.out _ _ _ _).mono ?_); rintro e w' ⟨rfl, ⟨nd, rfl⟩⟩; (try first | exact ⟨rfl, _, World.drewN_drewN _ _ _⟩ | exact ⟨rfl, _, Eq.trans (World.drewN_drewN _ _ _) (congrArg (World.drewN _) (Nat.add_assoc _ _ _))⟩)))
        go_wp2_with (first | (go_at_call 67; (with_reducible refine (HI.out _ _ _ _).mono ?_); rintro e w' ⟨rfl, ⟨nd, rfl⟩⟩) | (go_at_call 98; (refine (padlockref01_SameClue.calls kk _ _ _ _ _ _ _ _ _ _ _ _ _ _ _ _ _ _ _ _ ?s1 ?s2 ?s3 ?s4 HSC.out).mono ?_); (case s1 => refine Kd.C_below HR.out ?_; repeat (first | exact HB.out | exact Below.refl _ _ | apply below_alloc | apply pw_below_drewN | apply below_drew1 | (refine below_set ?_ (by omega)))); (case s2 => exact hc); (case s3 => exact Kd.C_nil _ _); (case s4 => exact Nat.zero_le _); rintro e w3 ⟨rfl, hb3⟩; have HX := Aside0.mk (below_join (w := w) (by repeat (first | exact HB.out | exact Below.refl _ _ | apply below_alloc | apply pw_below_drewN | apply below_drew1 | (refine below_set ?_ (by omega)))) hb3)))
        go_ret
        exact ⟨rfl, HX.out⟩
set_option maxHeartbeats 16000000 in
set_option maxRecDepth 100000 in
theorem isClue_k5 (W S A B N M : Int) (A5 : Option Addr) (c5 : Nat) (G : List Int) (nt : Bool) (w : World) (hl : okLock W S) (hr : Kd.C (Kd.int .i64) w A5 G.length G) (hc : G.length ≤ c5) :
    Calls Try.prog 69 #[.agg #[.int .i64 W, .int .i64 S], .agg #[.int .i64 5, .int .i64 A, .int .i64 B, .int .i64 N, .int .i64 M, .slice A5 G.length c5, .bool nt]] w fun e w' => e = .returned (.bool (inRange 0 (S - 1) N && (inRange 0 W M && sameB 5 A B N M G nt 5 0 0 N M [] nt))) ∧ Below w.heap.size w w' := by
  have hu36 := Try.underlying36
  have hu23 := Try.underlying23
  have HI := Aside0.mk fun x lo hi w0 => padlockref01_Within.calls x lo hi _ w0 (Within_eq x lo hi)
  obtain ⟨kk, hkk⟩ := (SameClue_ev 5 A B N M G nt 5 0 0 N M [] nt (Kd.C_max hr)).rounds
  have HSC : Aside0 (padlockref01_SameClue.f kk 5 A B N M G nt 5 0 0 N M [] nt = some (sameB 5 A B N M G nt 5 0 0 N M [] nt)) := ⟨hkk⟩
  obtain ⟨kc, hkc⟩ := (isCode_ev W S hl G (Kd.C_max hr)).rounds
  have HC : Aside0 (∀ w0, Below w.heap.size w w0 → _) := Aside0.mk fun w0 hb0 => padlockref01_isCode.calls kc W S A5 c5 G _ w0 (Kd.C_below hr hb0) hc hkc
  obtain ⟨hW1, hW2, hS1, hS2⟩ := hl
  have HR := Aside0.mk hr
  clear hr hkk hkc
  obtain ⟨sv, hsv⟩ : ∃ sv, sv = sameB 5 A B N M G nt 5 0 0 N M [] nt := ⟨_, rfl⟩
  rw [← hsv] at HSC ⊢
  clear hsv
  cases h0 : inRange 0 (S - 1) N with
  | false =>
    simp only [Bool.false_and]
    go_enter Try.func69, Try.ntmps69
    go_wp2
    go_quiet (first | (go_at_call 67; (with_reducible refine (HI.out _ _ _ _).mono ?_); rintro e w' ⟨rfl, ⟨nd, rfl⟩⟩; (try first | exact ⟨rfl, _, World.drewN_drewN _ _ _⟩ | exact ⟨rfl, _, Eq.trans (World.drewN_drewN _ _ _) (congrArg (World.drewN _) (Nat.add_assoc _ _ _))⟩)))
    go_wp2_with (first | (go_at_call 67; (with_reducible refine (HI.out _ _ _ _).mono ?_); rintro e w' ⟨rfl, ⟨nd, rfl⟩⟩))
    go_ret
    exact ⟨rfl, by repeat (first | exact HB.out | exact Below.refl _ _ | apply below_alloc | apply pw_below_drewN | apply below_drew1 | (refine below_set ?_ (by omega)))⟩
  | true =>
    simp only [Bool.true_and]
    cases h1 : inRange 0 W M with
    | false =>
      simp only [Bool.false_and]
      go_enter Try.func69, Try.ntmps69
      go_wp2
      go_quiet (first | (go_at_call 67; (with_reducible refine (HI.out _ _ _ _).mono ?_); rintro e w' ⟨rfl, ⟨nd, rfl⟩⟩; (try first | exact ⟨rfl, _, World.drewN_drewN _ _ _⟩ | exact ⟨rfl, _, Eq.trans (World.drewN_drewN _ _ _) (congrArg (World.drewN _) (Nat.add_assoc _ _ _))⟩)))
      go_wp2_with (first | (go_at_call 67; (with_reducible refine (HI.out _ _ _ _).mono ?_); rintro e w' ⟨rfl, ⟨nd, rfl⟩⟩))
      go_ret
      exact ⟨rfl, by repeat (first | exact HB.out | exact Below.refl _ _ | apply below_alloc | apply pw_below_drewN | apply below_drew1 | (refine below_set ?_ (by omega)))⟩
    | true =>
      simp only [Bool.true_and]
      go_enter Try.func69, Try.ntmps69
      go_wp2
      go_quiet (first | (go_at_call 67; (with_reducible refine (HI.out _ _ _ _).mono ?_); rintro e w' ⟨rfl, ⟨nd, rfl⟩⟩; (try first | exact ⟨rfl, _, World.drewN_drewN _ _ _⟩ | exact ⟨rfl, _, Eq.trans (World.drewN_drewN _ _ _) (congrArg (World.drewN _) (Nat.add_assoc _ _ _))⟩)))
      go_wp2_with (first | (go_at_call 67; (with_reducible refine (HI.out _ _ _ _).mono ?_); rintro e w' ⟨rfl, ⟨nd, rfl⟩⟩) | (go_at_call 98; (refine (padlockref01_SameClue.calls kk _ _ _ _ _ _ _ _ _ _ _ _ _ _ _ _ _ _ _ _ ?s1 ?s2 ?s3 ?s4 HSC.out).mono ?_); (case s1 => refine Kd.C_below HR.out ?_; repeat (first | exact HB.out | exact Below.refl _ _ | apply below_alloc | apply pw_below_drewN | apply below_drew1 | (refine below_set ?_ (by omega)))); (case s2 => exact hc); (case s3 => exact Kd.C_nil _ _); (case s4 => exact Nat.zero_le _); rintro e w3 ⟨rfl, hb3⟩; have HX := Aside0.mk (below_join (w := w) (by repeat (first | exact HB.out | exact Below.refl _ _ | apply below_alloc | apply pw_below_drewN | apply below_drew1 | (refine below_set ?_ (by omega)))) hb3)))
      go_ret
      exact ⟨rfl, HX.out⟩
set_option maxHeartbeats 16000000 in
set_option maxRecDepth 100000 in
theorem isClue_k6 (W S A B N M : Int) (A5 : Option Addr) (c5 : Nat) (G : List Int) (nt : Bool) (w : World) (hl : okLock W S) (hr : Kd.C (Kd.int .i64) w A5 G.length G) (hc : G.length ≤ c5) :
    Calls Try.prog 69 #[.agg #[.int .i64 W, .int .i64 S], .agg #[.int .i64 6, .int .i64 A, .int .i64 B, .int .i64 N, .int .i64 M, .slice A5 G.length c5, .bool nt]] w fun e w' => e = .returned (.bool (isCodeB W S G && (inRange 0 W N && (inRange 0 W M && sameB 6 A B N M G nt 6 0 0 N M G nt)))) ∧ Below w.heap.size w w' := by
  have hu36 := Try.underlying36
  have hu23 := Try.underlying23
  have HI := Aside0.mk fun x lo hi w0 => padlockref01_Within.calls x lo hi _ w0 (Within_eq x lo hi)
  obtain ⟨kk, hkk⟩ := (SameClue_ev 6 A B N M G nt 6 0 0 N M G nt (Kd.C_max hr)).rounds
  have HSC : Aside0 (padlockref01_SameClue.f kk 6 A B N M G nt 6 0 0 N M G nt = some (sameB 6 A B N M G nt 6 0 0 N M G nt)) := ⟨hkk⟩
  obtain ⟨kc, hkc⟩ := (isCode_ev W S hl G (Kd.C_max hr)).rounds
  have HC : Aside0 (∀ w0, Below w.heap.size w w0 → _) := Aside0.mk fun w0 hb0 => padlockref01_isCode.calls kc W S A5 c5 G _ w0 (Kd.C_below hr hb0) hc hkc
  obtain ⟨hW1, hW2, hS1, hS2⟩ := hl
  have HR := Aside0.mk hr
  clear hr hkk hkc
  obtain ⟨sv, hsv⟩ : ∃ sv, sv = sameB 6 A B N M G nt 6 0 0 N M G nt := ⟨_, rfl⟩
  rw [← hsv] at HSC ⊢
  clear hsv
  cases h0 : isCodeB W S G with
  | false =>
    simp only [Bool.false_and]
    go_enter Try.func69, Try.ntmps69
    go_wp2
    go_quiet (first | (go_at_call 67; (with_reducible refine (HI.out _ _ _ _).mono ?_); rintro e w' ⟨rfl, ⟨nd, rfl⟩⟩; (try first | exact ⟨rfl, _, World.drewN_drewN _ _ _⟩ | exact ⟨rfl, _, Eq.trans (World.drewN_drewN _ _ _) (congrArg (World.drewN _) (Nat.add_assoc _ _ _))⟩)))
    go_wp2_with (first | (go_at_call 67; (with_reducible refine (HI.out _ _ _ _).mono ?_); rintro e w' ⟨rfl, ⟨nd, rfl⟩⟩) | (go_at_call 64; (with_reducible refine (HC.out _ ?t1).mono ?_); (case t1 => repeat (first | exact HB.out | exact Below.refl _ _ | apply below_alloc | apply pw_below_drewN | apply below_drew1 | (refine below_set ?_ (by omega)))); rintro e w1 ⟨rfl, hb1⟩; obtain ⟨hB, k0, k1, k2⟩ := start3 (w := w) hb1 rfl rfl rfl rfl; have HB := Aside0.mk hB; clear hB; have k3 := cells2 k0; have k4 := cells7 k1; have k5 := cells7 k2; obtain ⟨f00, f01⟩ := k3; obtain ⟨f10, f11, f12, f13, f14, f15, f16⟩ := k4; obtain ⟨f20, f21, f22, f23, f24, f25, f26⟩ := k5; have z20 := blk_frozen k2 3; have z21 := blk_frozen k2 4; have z22 := blk_frozen k2 5; have hsz := blk_lt k2; clear k0 k1 k2 hb1))
    go_ret
    exact ⟨rfl, by repeat (first | exact HB.out | exact Below.refl _ _ | apply below_alloc | apply pw_below_drewN | apply below_drew1 | (refine below_set ?_ (by omega)))⟩
  | true =>
    simp only [Bool.true_and]
    cases h1 : inRange 0 W N with
    | false =>
      simp only [Bool.false_and]
      go_enter Try.func69, Try.ntmps69
      go_wp2
      go_quiet (first | (go_at_call 67; (with_reducible refine (HI.out _ _ _ _).mono ?_); rintro e w' ⟨rfl, ⟨nd, rfl⟩⟩; (try first | exact ⟨rfl, _, World.drewN_drewN _ _ _⟩ | exact ⟨rfl, _, Eq.trans (World.drewN_drewN _ _ _) (congrArg (World.drewN _) (Nat.add_assoc _ _ _))⟩)))
      go_wp2_with (first | (go_at_call 67; (with_reducible refine (HI.out _ _ _ _).mono ?_); rintro e w' ⟨rfl, ⟨nd, rfl⟩⟩) | (go_at_call 64; (with_reducible refine (HC.out _ ?t1).mono ?_); (case t1 => repeat (first | exact HB.out | exact Below.refl _ _ | apply below_alloc | apply pw_below_drewN | apply below_drew1 | (refine below_set ?_ (by omega)))); rintro e w1 ⟨rfl, hb1⟩; obtain ⟨hB, k0, k1, k2⟩ := start3 (w := w) hb1 rfl rfl rfl rfl; have HB := Aside0.mk hB; clear hB; have k3 := cells2 k0; have k4 := cells7 k1; have k5 := cells7 k2; obtain ⟨f00, f01⟩ := k3; obtain ⟨f10, f11, f12, f13, f14, f15, f16⟩ := k4; obtain ⟨f20, f21, f22, f23, f24, f25, f26⟩ := k5; have z20 := blk_frozen k2 3; have z21 := blk_frozen k2 4; have z22 := blk_frozen k2 5; have hsz := blk_lt k2; clear k0 k1 k2 hb1))
      go_ret
      exact ⟨rfl, by repeat (first | exact HB.out | exact Below.refl _ _ | apply below_alloc | apply pw_below_drewN | apply below_drew1 | (refine below_set ?_ (by omega)))⟩
    | true =>
      simp only [Bool.true_and]
      cases h2 : inRange 0 W M with
      | false =>
        simp only [Bool.false_and]
        go_enter Try.func69, Try.ntmps69
        go_wp2
        go_quiet (first | (go_at_call 67; (with_reducible refine (HI.out _ _ _ _).mono ?_); rintro e w' ⟨rfl, ⟨nd, rfl⟩⟩; (try first | exact ⟨rfl, _, World.drewN_drewN _ _ _⟩ | exact ⟨rfl, _, Eq.trans (World.drewN_drewN _ _ _) (congrArg (World.drewN _) (Nat.add_assoc _ _ _))⟩)))
        go_wp2_with (first | (go_at_call 67; (with_reducible refine (HI.out _ _ _ _).mono ?_); rintro e w' ⟨rfl, ⟨nd, rfl⟩⟩) | (go_at_call 64; (with_reducible refine (HC.out _ ?t1).mono ?_); (case t1 => repeat (first | exact HB.out | exact Below.refl _ _ | apply below_alloc | apply pw_below_drewN | apply below_drew1 | (refine below_set ?_ (by omega)))); rintro e w1 ⟨rfl, hb1⟩; obtain ⟨hB, k0, k1, k2⟩ := start3 (w := w) hb1 rfl rfl rfl rfl; have HB := Aside0.mk hB; clear hB; have k3 := cells2 k0; have k4 := cells7 k1; have k5 := cells7 k2; obtain ⟨f00, f01⟩ := k3; obtain ⟨f10, f11, f12, f13, f14, f15, f16⟩ := k4; obtain ⟨f20, f21, f22, f23, f24, f25, f26⟩ := k5; have z20 := blk_frozen k2 3; have z21 := blk_frozen k2 4; have z22 := blk_frozen k2 5; have hsz := blk_lt k2; clear k0 k1 k2 hb1))
        go_ret
        exact ⟨rfl, by repeat (first | exact HB.out | exact Below.refl _ _ | apply below_alloc | apply pw_below_drewN | apply below_drew1 | (refine below_set ?_ (by omega)))⟩
      | true =>
        simp only [Bool.true_and]
        go_enter Try.func69, Try.ntmps69
        go_wp2
        go_quiet (first | (go_at_call 67; (with_reducible refine (HI.out _ _ _ _).mono ?_); rintro e w' ⟨rfl, ⟨nd, rfl⟩⟩; (try first | exact ⟨rfl, _, World.drewN_drewN _ _ _⟩ | exact ⟨rfl, _, Eq.trans (World.drewN_drewN _ _ _) (congrArg (World.drewN _) (Nat.add_assoc _ _ _))⟩)))
        go_wp2_with (first | (go_at_call 67; (with_reducible refine (HI.out _ _ _ _).mono ?_); rintro e w' ⟨rfl, ⟨nd, rfl⟩⟩) | (go_at_call 64; (with_reducible refine (HC.out _ ?t1).mono ?_); (case t1 => repeat (first | exact HB.out | exact Below.refl _ _ | apply below_alloc | apply pw_below_drewN | apply below_drew1 | (refine below_set ?_ (by omega)))); rintro e w1 ⟨rfl, hb1⟩; obtain ⟨hB, k0, k1, k2⟩ := start3 (w := w) hb1 rfl rfl rfl rfl; have HB := Aside0.mk hB; clear hB; have k3 := cells2 k0; have k4 := cells7 k1; have k5 := cells7 k2; obtain ⟨f00, f01⟩ := k3; obtain ⟨f10, f11, f12, f13, f14, f15, f16⟩ := k4; obtain ⟨f20, f21, f22, f23, f24, f25, f26⟩ := k5; have z20 := blk_frozen k2 3; have z21 := blk_frozen k2 4; have z22 := blk_frozen k2 5; have hsz := blk_lt k2; clear k0 k1 k2 hb1) | (go_at_call 98; (refine (padlockref01_SameClue.calls kk _ _ _ _ _ _ _ _ _ _ _ _ _ _ _ _ _ _ _ _ ?s1 ?s2 ?s3 ?s4 HSC.out).mono ?_); (case s1 => refine Kd.C_below HR.out ?_; repeat (first | exact HB.out | exact Below.refl _ _ | apply below_alloc | apply pw_below_drewN | apply below_drew1 | (refine below_set ?_ (by omega)))); (case s2 => exact hc); (case s3 => refine Kd.C_below HR.out ?_; repeat (first | exact HB.out | exact Below.refl _ _ | apply below_alloc | apply pw_below_drewN | apply below_drew1 | (refine below_set ?_ (by omega)))); (case s4 => exact hc); rintro e w3 ⟨rfl, hb3⟩; have HX := Aside0.mk (below_join (w := w) (by repeat (first | exact HB.out | exact Below.refl _ _ | apply below_alloc | apply pw_below_drewN | apply below_drew1 | (refine below_set ?_ (by omega)))) hb3)))
        go_ret
        exact ⟨rfl, HX.out⟩
set_option maxHeartbeats 16000000 in
set_option maxRecDepth 100000 in
theorem isClue_k7 (W S A B N M : Int) (A5 : Option Addr) (c5 : Nat) (G : List Int) (nt : Bool) (w : World) (hl : okLock W S) (hr : Kd.C (Kd.int .i64) w A5 G.length G) (hc : G.length ≤ c5) :
    Calls Try.prog 69 #[.agg #[.int .i64 W, .int .i64 S], .agg #[.int .i64 7, .int .i64 A, .int .i64 B, .int .i64 N, .int .i64 M, .slice A5 G.length c5, .bool nt]] w fun e w' => e = .returned (.bool (inRange 0 (W - 1) A && (inRange 2 10 N && (inRange 0 (N - 1) M && sameB 7 A B N M G nt 7 A 0 N M [] nt)))) ∧ Below w.heap.size w w' := by
  have hu36 := Try.underlying36
  have hu23 := Try.underlying23
  have HI := Aside0.mk fun x lo hi w0 => padlockref01_Within.calls x lo hi _ w0 (Within_eq x lo hi)
  obtain ⟨kk, hkk⟩ := (SameClue_ev 7 A B N M G nt 7 A 0 N M [] nt (Kd.C_max hr)).rounds
  have HSC : Aside0 (padlockref01_SameClue.f kk 7 A B N M G nt 7 A 0 N M [] nt = some (sameB 7 A B N M G nt 7 A 0 N M [] nt)) := ⟨hkk⟩
  obtain ⟨kc, hkc⟩ := (isCode_ev W S hl G (Kd.C_max hr)).rounds
  have HC : Aside0 (∀ w0, Below w.heap.size w w0 → _) := Aside0.mk fun w0 hb0 => padlockref01_isCode.calls kc W S A5 c5 G _ w0 (Kd.C_below hr hb0) hc hkc
  obtain ⟨hW1, hW2, hS1, hS2⟩ := hl
  have HR := Aside0.mk hr
  clear hr hkk hkc
  obtain ⟨sv, hsv⟩ : ∃ sv, sv = sameB 7 A B N M G nt 7 A 0 N M [] nt := ⟨_, rfl⟩
  rw [← hsv] at HSC ⊢
  clear hsv
  cases h0 : inRange 0 (W - 1) A with
  | false =>
    simp only [Bool.false_and]
    go_enter Try.func69, Try.ntmps69
    go_wp2
    go_quiet (first | (go_at_call 67; (with_reducible refine (HI.out _ _ _ _).mono ?_); rintro e w' ⟨rfl, ⟨nd, rfl⟩⟩; (try first | exact ⟨rfl, _, World.drewN_drewN _ _ _⟩ | exact ⟨rfl, _, Eq.trans (World.drewN_drewN _ _ _) (congrArg (World.drewN _) (Nat.add_assoc _ _ _))⟩)))
    go_wp2_with (first | (go_at_call 67; (with_reducible refine (HI.out _ _ _ _).mono ?_); rintro e w' ⟨rfl, ⟨nd, rfl⟩⟩))
    go_ret
    exact ⟨rfl, by repeat (first | exact HB.out | exact Below.refl _ _ | apply below_alloc | apply pw_below_drewN | apply below_drew1 | (refine below_set ?_ (by omega)))⟩
  | true =>
    simp only [Bool.true_and]
    cases h1 : inRange 2 10 N with
    | false =>
      simp only [Bool.false_and]
      go_enter Try.func69, Try.ntmps69
      go_wp2
      go_quiet (first | (go_at_call 67; (with_reducible refine (HI.out _ _ _ _).mono ?_); rintro e w' ⟨rfl, ⟨nd, rfl⟩⟩; (try first | exact ⟨rfl, _, World.drewN_drewN _ _ _⟩ | exact ⟨rfl, _, Eq.trans (World.drewN_drewN _ _ _) (congrArg (World.drewN _) (Nat.add_assoc _ _ _))⟩)))
      go_wp2_with (first | (go_at_call 67; (with_reducible refine (HI.out _ _ _ _).mono ?_); rintro e w' ⟨rfl, ⟨nd, rfl⟩⟩))
      go_ret
      exact ⟨rfl, by repeat (first | exact HB.out | exact Below.refl _ _ | apply below_alloc | apply pw_below_drewN | apply below_drew1 | (refine below_set ?_ (by omega)))⟩
    | true =>
      simp only [Bool.true_and]
      have hN := inRange_iff.1 h1
      have hN1 := hN.1
      have hN2 := hN.2
      clear hN
      cases h2 : inRange 0 (N - 1) M with
      | false =>
        simp only [Bool.false_and]
        go_enter Try.func69, Try.ntmps69
        go_wp2
        go_quiet (first | (go_at_call 67; (with_reducible refine (HI.out _ _ _ _).mono ?_); rintro e w' ⟨rfl, ⟨nd, rfl⟩⟩; (try first | exact ⟨rfl, _, World.drewN_drewN _ _ _⟩ | exact ⟨rfl, _, Eq.trans (World.drewN_drewN _ _ _) (congrArg (World.drewN _) (Nat.add_assoc _ _ _))⟩)))
        go_wp2_with (first | (go_at_call 67; (with_reducible refine (HI.out _ _ _ _).mono ?_); rintro e w' ⟨rfl, ⟨nd, rfl⟩⟩))
        go_ret
        exact ⟨rfl, by repeat (first | exact HB.out | exact Below.refl _ _ | apply below_alloc | apply pw_below_drewN | apply below_drew1 | (refine below_set ?_ (by omega)))⟩
      | true =>
        simp only [Bool.true_and]
        go_enter Try.func69, Try.ntmps69
        go_wp2
        go_quiet (first | (go_at_call 67; (with_reducible refine (HI.out _ _ _ _).mono ?_); rintro e w' ⟨rfl, ⟨nd, rfl⟩⟩; (try first | exact ⟨rfl, _, World.drewN_drewN _ _ _⟩ | exact ⟨rfl, _, Eq.trans (World.drewN_drewN _ _ _) (congrArg (World.drewN _) (Nat.add_assoc _ _ _))⟩)))
        go_wp2_with (first | (go_at_call 67; (with_reducible refine (HI.out _ _ _ _).mono ?_); rintro e w' ⟨rfl, ⟨nd, rfl⟩⟩) | (go_at_call 98; (refine (padlockref01_SameClue.calls kk _ _ _ _ _ _ _ _ _ _ _ _ _ _ _ _ _ _ _ _ ?s1 ?s2 ?s3 ?s4 HSC.out).mono ?_); (case s1 => refine Kd.C_below HR.out ?_; repeat (first | exact HB.out | exact Below.refl _ _ | apply below_alloc | apply pw_below_drewN | apply below_drew1 | (refine below_set ?_ (by omega)))); (case s2 => exact hc); (case s3 => exact Kd.C_nil _ _); (case s4 => exact Nat.zero_le _); rintro e w3 ⟨rfl, hb3⟩; have HX := Aside0.mk (below_join (w := w) (by repeat (first | exact HB.out | exact Below.refl _ _ | apply below_alloc | apply pw_below_drewN | apply below_drew1 | (refine below_set ?_ (by omega)))) hb3)))
        go_ret
        exact ⟨rfl, HX.out⟩
set_option maxHeartbeats 16000000 in
set_option maxRecDepth 100000 in
theorem isClue_else (W S k A B N M : Int) (A5 : Option Addr) (c5 : Nat) (G : List Int) (nt : Bool) (w : World) (hl : okLock W S) (h1 : (k == 1) = false) (h2 : (k == 2) = false) (h3 : (k == 3) = false) (h4 : (k == 4) = false) (h5 : (k == 5) = false) (h6 : (k == 6) = false) (h7 : (k == 7) = false) :
    Calls Try.prog 69 #[.agg #[.int .i64 W, .int .i64 S], .agg #[.int .i64 k, .int .i64 A, .int .i64 B, .int .i64 N, .int .i64 M, .slice A5 G.length c5, .bool nt]] w fun e w' => e = .returned (.bool false) ∧ Below w.heap.size w w' := by
  have hu36 := Try.underlying36
  have hu23 := Try.underlying23
  have HI := Aside0.mk fun x lo hi w0 => padlockref01_Within.calls x lo hi _ w0 (Within_eq x lo hi)
  obtain ⟨hW1, hW2, hS1, hS2⟩ := hl
  go_enter Try.func69, Try.ntmps69
  go_wp2
  go_quiet (first | (go_at_call 67; (with_reducible refine (HI.out _ _ _ _).mono ?_); rintro e w' ⟨rfl, ⟨nd, rfl⟩⟩; (try first | exact ⟨rfl, _, World.drewN_drewN _ _ _⟩ | exact ⟨rfl, _, Eq.trans (World.drewN_drewN _ _ _) (congrArg (World.drewN _) (Nat.add_assoc _ _ _))⟩)))
  go_wp2_with (first | (go_at_call 67; (with_reducible refine (HI.out _ _ _ _).mono ?_); rintro e w' ⟨rfl, ⟨nd, rfl⟩⟩))
  go_ret
  exact ⟨rfl, by repeat (first | exact HB.out | exact Below.refl _ _ | apply below_alloc | apply pw_below_drewN | apply below_drew1 | (refine below_set ?_ (by omega)))⟩
end Go.Proofs.Ytimkchehdaadeaa.P
end
section
namespace Go.Proofs.Ytimkchehdaadeaa.P
open Go.RowKit Go.Proofs.YtimkchehdaadeaaW.PrintWords Go.Proofs.YtimkchehdaadeaaW.PrintLast Go.Proofs.YtimkchehdaadeaaW.PrintMore
set_option linter.unusedVariables false
set_option linter.unusedSimpArgs false
def padlockref01_isClue.f (W S k A B N M : Int) (G : List Int) (nt : Bool) : Option Bool := if okLock W S then some (validB W S k A B N M G) else none
theorem beqd (x y : Int) : (x == y) = decide (x = y) := by by_cases h : x = y <;> simp [h]
theorem len_zero' (G : List Int) : decide ((G.length : Int) = 0) = decide (G = []) := by rw [← beqd, len_zero]
theorem same_now (b : Bool) : (b == b) = true := by cases b <;> rfl
theorem padlockref01_isClue.calls (a0_0 : Int) (a0_1 : Int) (a1_0 : Int) (a1_1 : Int) (a1_2 : Int) (a1_3 : Int) (a1_4 : Int) (A1_5 : Option Addr) (c1_5 : Nat) (l1_5 : List Int) (a1_6 : Bool) (r : Bool) (w : World) (hr1_5 : Kd.C (Kd.int .i64) w A1_5 l1_5.length l1_5) (hc1_5 : l1_5.length ≤ c1_5) (h : padlockref01_isClue.f a0_0 a0_1 a1_0 a1_1 a1_2 a1_3 a1_4 l1_5 a1_6 = some r) :
    Calls Try.prog 69 #[.agg #[.int .i64 a0_0, .int .i64 a0_1], .agg #[.int .i64 a1_0, .int .i64 a1_1, .int .i64 a1_2, .int .i64 a1_3, .int .i64 a1_4, .slice A1_5 l1_5.length c1_5, .bool a1_6]] w fun e w' => e = .returned (.bool r) ∧ Below w.heap.size w w' := by
  unfold padlockref01_isClue.f at h
  split at h
  case isFalse => cases h
  case isTrue hl =>
  obtain rfl := Option.some.inj h
  clear h
  have key : ∀ {b b' : Bool}, b = b' → (fun (e : Ending) (w' : World) => e = .returned (.bool b) ∧ Below w.heap.size w w') = fun e w' => e = .returned (.bool b') ∧ Below w.heap.size w w' := fun h => by rw [h]
  unfold validB
  by_cases h1 : a1_0 = 1
  · subst h1; rw [if_pos rfl]; refine Eq.mp (congrArg _ (key ?_)) (isClue_k1 _ _ _ _ _ _ _ _ _ _ _ hl hr1_5 hc1_5)
    simp only [sameB, same_now, decide_true, Bool.true_and, Bool.and_true, beqd, len_zero', Bool.and_assoc]
  rw [if_neg h1]
  by_cases h2 : a1_0 = 2
  · subst h2; rw [if_pos rfl]; refine Eq.mp (congrArg _ (key ?_)) (isClue_k2 _ _ _ _ _ _ _ _ _ _ _ hl hr1_5 hc1_5)
    simp only [sameB, same_now, decide_true, Bool.true_and, Bool.and_true, beqd, len_zero', Bool.and_assoc]
  rw [if_neg h2]
  by_cases h3 : a1_0 = 3
  · subst h3; rw [if_pos rfl]; refine Eq.mp (congrArg _ (key ?_)) (isClue_k3 _ _ _ _ _ _ _ _ _ _ _ hl hr1_5 hc1_5)
    simp only [sameB, same_now, decide_true, Bool.true_and, Bool.and_true, beqd, len_zero', Bool.and_assoc]
  rw [if_neg h3]
  by_cases h4 : a1_0 = 4
  · subst h4; rw [if_pos rfl]; refine Eq.mp (congrArg _ (key ?_)) (isClue_k4 _ _ _ _ _ _ _ _ _ _ _ hl hr1_5 hc1_5)
    simp only [sameB, same_now, decide_true, Bool.true_and, Bool.and_true, beqd, len_zero', Bool.and_assoc]
  rw [if_neg h4]
  by_cases h5 : a1_0 = 5
  · subst h5; rw [if_pos rfl]; refine Eq.mp (congrArg _ (key ?_)) (isClue_k5 _ _ _ _ _ _ _ _ _ _ _ hl hr1_5 hc1_5)
    simp only [sameB, same_now, decide_true, Bool.true_and, Bool.and_true, beqd, len_zero', Bool.and_assoc]
  rw [if_neg h5]
  by_cases h6 : a1_0 = 6
  · subst h6; rw [if_pos rfl]; refine Eq.mp (congrArg _ (key ?_)) (isClue_k6 _ _ _ _ _ _ _ _ _ _ _ hl hr1_5 hc1_5)
    simp only [sameB, same_now, decide_true, Bool.true_and, Bool.and_true, beqd]
    cases isCodeB a0_0 a0_1 l1_5 <;> cases inRange 0 a0_0 a1_3 <;> cases inRange 0 a0_0 a1_4 <;> simp
  rw [if_neg h6]
  by_cases h7 : a1_0 = 7
  · subst h7; rw [if_pos rfl]; refine Eq.mp (congrArg _ (key ?_)) (isClue_k7 _ _ _ _ _ _ _ _ _ _ _ hl hr1_5 hc1_5)
    simp only [sameB, same_now, decide_true, Bool.true_and, Bool.and_true, beqd, len_zero', Bool.and_assoc]
  rw [if_neg h7]
  exact isClue_else _ _ _ _ _ _ _ _ _ _ _ _ hl (beq_eq_false_iff_ne.mpr h1) (beq_eq_false_iff_ne.mpr h2) (beq_eq_false_iff_ne.mpr h3) (beq_eq_false_iff_ne.mpr h4) (beq_eq_false_iff_ne.mpr h5) (beq_eq_false_iff_ne.mpr h6) (beq_eq_false_iff_ne.mpr h7)
end Go.Proofs.Ytimkchehdaadeaa.P
end
