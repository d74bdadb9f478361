/- Part 14 of a proof: the statement TopPortraits: for every input its law returns true (its texts without what nothing here names). -/
import Derived.Test.YtimkchehdaadeaaZTop10
import Derived.Test.YtimkchehdaadeaaZTop12
import Derived.Test.YtimkchehdaadeaaZTop13

section
namespace Go.Proofs.Ytimkchehdaadeaa.P
open Go.RowKit Go.Shelf Go.Proofs.YtimkchehdaadeaaW.PrintWords Go.Proofs.YtimkchehdaadeaaW.PrintLast Go.Proofs.YtimkchehdaadeaaW.PrintMore
set_option linter.unusedVariables false
set_option linter.unusedSimpArgs false
theorem pz_within_eq (a lo hi : Int) : puzzles_within.f a lo hi = some (inRange lo hi a) := by
  unfold puzzles_within.f inRange
  by_cases h : a ≥ lo
  · rw [if_pos h]; simp [show lo ≤ a from h]
  · rw [if_neg h]; simp [show ¬ lo ≤ a from h]
set_option maxHeartbeats 4000000 in
set_option maxRecDepth 100000 in
theorem index_port (g : Nat) (lb : Array Value) (eg : ∀ args w, (callFunc g args).run Try.prog w = .ok (.enter g args) w) (p : S57 → Bool) (A : Option Addr) (c : Nat) (xs : List S57) (w : World)
    (hr : Kd.C k57 w A xs.length xs) (hc : xs.length ≤ c) (hp : ∀ x ∈ xs, ∀ W, Below w.heap.size w W → Asks g lb (.agg #[.int .i64 x.f0, .int .i64 x.f1, .int .i64 x.f2, .int .i64 x.f3, .bool x.f4]) (p x) W) :
    Calls Try.prog 114 #[.slice A xs.length c, .func (.func g) #[] lb] w fun e w' => e = .returned (.int .i64 (idxI p xs)) ∧ Below w.heap.size w w' := by
  have hmx := Kd.C_max hr
  have HR := Aside0.mk hr
  have HP := Aside0.mk hp
  clear hr hp
  go_enter Try.func114, Try.ntmps114
  go_wp2
  go_loopw [8] (fun v8 wr => ∃ k : Nat, Aside0 (k ≤ xs.length) ∧ v8 = .int .i64 k ∧ Aside0 (∀ j (hj : j < k) (hx : j < xs.length), p xs[j] = false) ∧ Aside0 (Below w.heap.size w wr)) (fun v8 _ => xs.length - (intOf v8).toNat)
  case atStart => exact ⟨0, ⟨Nat.zero_le _⟩, rfl, ⟨fun j hj => absurd hj (Nat.not_lt_zero _)⟩, ⟨Below.refl _ _⟩⟩
  case round =>
    obtain ⟨k, hk, rfl, HN, HB⟩ := hrel
    by_cases hlt : k < xs.length
    · obtain ⟨ad, e0, hc0, hc1, hc2, hc3, hc4⟩ := at_T57 HR.out (k : Int) (by omega) (by omega)
      rw [Int.toNat_natCast] at hc0 hc1 hc2 hc3 hc4
      replace hc0 := (HB.out.cell (World.block_lt_of_cell? w _ hc0)).trans hc0
      replace hc1 := (HB.out.cell (World.block_lt_of_cell? w _ hc1)).trans hc1
      replace hc2 := (HB.out.cell (World.block_lt_of_cell? w _ hc2)).trans hc2
      replace hc3 := (HB.out.cell (World.block_lt_of_cell? w _ hc3)).trans hc3
      replace hc4 := (HB.out.cell (World.block_lt_of_cell? w _ hc4)).trans hc4
      subst e0
      have hx : rd_T57 xs k = xs[k] := by simp [rd_T57, List.getD_eq_getElem?_getD, List.getElem?_eq_getElem hlt]
      rw [hx] at hc0 hc1 hc2 hc3 hc4
      have hask := HP.out xs[k] (List.getElem_mem hlt) wr HB.out
      obtain ⟨x, hxx⟩ : ∃ x, x = xs[k] := ⟨_, rfl⟩
      rw [← hxx] at hc0 hc1 hc2 hc3 hc4 hask
      unfold Asks at hask
      obtain ⟨b, hb⟩ : ∃ b, b = p x := ⟨_, rfl⟩
      rw [← hb] at hask
      have HX := Aside0.mk hxx
      have HPB := Aside0.mk hb
      clear hxx hb hx
      have hask' := Aside0.mk hask
      clear hask
      cases b with
      | true =>
        go_wp2_with (go_at_fn g; refine hask'.out.mono ?_; rintro e w' ⟨rfl, hb'⟩)
        go_ret
        refine ⟨?_, below_then HB.out HB.out.size hb'⟩
        exact ret_int (Eq.symm <| idxI_hit p xs k hlt (by rw [← HX.out]; exact HPB.out.symm) (fun j hj => HN.out j hj (by omega)))
      | false =>
        go_wp2_with (go_at_fn g; refine hask'.out.mono ?_; rintro e w' ⟨rfl, hb'⟩)
        go_roundw
        case rel =>
          refine ⟨k + 1, ⟨by omega⟩, by go_num, ⟨fun j hj hx => ?_⟩, ⟨below_then HB.out HB.out.size hb'⟩⟩
          by_cases e : j = k
          · subst e; rw [← HX.out]; exact HPB.out.symm
          · exact HN.out j (by omega) hx
        case measure => simp [intOf]; omega
    · have hk' : k = xs.length := by have := hk.out; omega
      subst hk'
      go_wp2
      go_ret
      refine ⟨?_, HB.out⟩
      exact ret_int (Eq.symm <| idxI_miss p xs (fun x hx => by obtain ⟨j, hj, rfl⟩ := List.getElem_of_mem hx; exact HN.out j hj hj))
set_option maxHeartbeats 4000000 in
set_option maxRecDepth 100000 in
theorem contains_port (g : Nat) (lb : Array Value) (eg : ∀ args w, (callFunc g args).run Try.prog w = .ok (.enter g args) w) (p : S57 → Bool) (A : Option Addr) (c : Nat) (xs : List S57) (w : World)
    (hr : Kd.C k57 w A xs.length xs) (hc : xs.length ≤ c) (hp : ∀ x ∈ xs, ∀ W, Below w.heap.size w W → Asks g lb (.agg #[.int .i64 x.f0, .int .i64 x.f1, .int .i64 x.f2, .int .i64 x.f3, .bool x.f4]) (p x) W) :
    Calls Try.prog 101 #[.slice A xs.length c, .func (.func g) #[] lb] w fun e w' => e = .returned (.bool (xs.any p)) ∧ Below w.heap.size w w' := by
  have HI := Aside0.mk (index_port g lb eg p A c xs w hr hc hp)
  have HN := Aside0.mk (idxI_nonneg p xs)
  obtain ⟨n, hn⟩ : ∃ n, n = idxI p xs := ⟨_, rfl⟩
  rw [← hn] at HI HN
  clear hn hr hp
  go_enter Try.func101, Try.ntmps101
  go_wp2_with (go_at_call 114; refine HI.out.mono ?_; rintro e w' ⟨rfl, hb'⟩)
  go_ret
  exact ⟨ret_bool HN.out, hb'⟩
def saidB (n : Nat) (q : S57) : Bool := inRange 0 ((n : Int) - 1) q.f1 && (decide (q.f2 = 0) && inRange 0 ((n : Int) - 1) q.f3)
set_option maxHeartbeats 8000000 in
set_option maxRecDepth 100000 in
theorem said_hangs (n : Nat) (hn : 1 ≤ n ∧ n ≤ 6) (a b m : Int) (nt : Bool) (w : World) :
    Calls Try.prog 103 #[.agg #[.int .i64 1, .int .i64 a, .int .i64 b, .int .i64 m, .bool nt], .int .i64 (n : Int)] w fun e w' => e = .returned (.bool (saidB n ⟨1, a, b, m, nt⟩)) ∧ Below w.heap.size w w' := by
  have hu57 := Try.underlying57
  have HI := Aside0.mk fun x lo hi w0 => puzzles_within.calls x lo hi _ w0 (pz_within_eq x lo hi)
  obtain ⟨hn1, hn2⟩ := hn
  have hw : wrap64 ((n : Int) - 1) = (n : Int) - 1 := by unfold wrap64; omega
  unfold saidB
  simp only
  obtain ⟨r1, hr1⟩ : ∃ r1, r1 = inRange 0 ((n : Int) - 1) a := ⟨_, rfl⟩
  obtain ⟨r2, hr2⟩ : ∃ r2, r2 = inRange 0 ((n : Int) - 1) b := ⟨_, rfl⟩
  obtain ⟨r3, hr3⟩ : ∃ r3, r3 = inRange 0 ((n : Int) - 1) m := ⟨_, rfl⟩
  have H1 : Aside0 (∀ w0, Calls Try.prog 78 #[.int .i64 a, .int .i64 0, .int .i64 ((n : Int) - 1)] w0 fun e w' => e = .returned (.bool r1) ∧ Drawn0 w0 w') := ⟨fun w0 => by rw [hr1]; exact HI.out a 0 _ w0⟩
  have H2 : Aside0 (∀ w0, Calls Try.prog 78 #[.int .i64 b, .int .i64 0, .int .i64 ((n : Int) - 1)] w0 fun e w' => e = .returned (.bool r2) ∧ Drawn0 w0 w') := ⟨fun w0 => by rw [hr2]; exact HI.out b 0 _ w0⟩
  have H3 : Aside0 (∀ w0, Calls Try.prog 78 #[.int .i64 m, .int .i64 0, .int .i64 ((n : Int) - 1)] w0 fun e w' => e = .returned (.bool r3) ∧ Drawn0 w0 w') := ⟨fun w0 => by rw [hr3]; exact HI.out m 0 _ w0⟩
  rw [← hr1, ← hr3]
  clear hr1 hr2 hr3 HI
  have hb0 : (decide (b = 0) = true ∧ (b == 0) = true) ∨ (decide (b = 0) = false ∧ (b == 0) = false) := by
    by_cases h : b = 0
    · exact .inl ⟨decide_eq_true h, beq_iff_eq.mpr h⟩
    · exact .inr ⟨decide_eq_false h, beq_eq_false_iff_ne.mpr h⟩
  have hSZ : ∀ r2 : Bool, r2 = r2 := fun _ => rfl
  clear hSZ
  rcases hb0 with ⟨b1, b2⟩ | ⟨b1, b2⟩ <;> rw [b1] <;> cases r1 <;> cases r2
  all_goals
    clear b1
    go_enter Try.func103, Try.ntmps103
    go_wp2
    go_quiet (first
      | (go_at_call 78; (with_reducible refine (H1.out _).mono ?_); rintro e w' ⟨rfl, ⟨nd, rfl⟩⟩; (try first | exact ⟨rfl, _, World.drewN_drewN _ _ _⟩ | exact ⟨rfl, _, Eq.trans (World.drewN_drewN _ _ _) (congrArg (World.drewN _) (Nat.add_assoc _ _ _))⟩))
      | (go_at_call 78; (with_reducible refine (H2.out _).mono ?_); rintro e w' ⟨rfl, ⟨nd, rfl⟩⟩; (try first | exact ⟨rfl, _, World.drewN_drewN _ _ _⟩ | exact ⟨rfl, _, Eq.trans (World.drewN_drewN _ _ _) (congrArg (World.drewN _) (Nat.add_assoc _ _ _))⟩)))
    go_wp2_with (first | (go_at_call 78; (with_reducible refine (H3.out _).mono ?_); rintro e w' ⟨rfl, ⟨nd, rfl⟩⟩))
    go_ret
    refine ⟨?_, by repeat (first | exact Below.refl _ _ | apply below_alloc | apply pw_below_drewN | apply below_drew1)⟩
    first | rfl | (cases r3 <;> rfl)
end Go.Proofs.Ytimkchehdaadeaa.P
end
section
namespace Go.Proofs.Ytimkchehdaadeaa.P
open Go.RowKit Go.Shelf Go.Proofs.YtimkchehdaadeaaW.PrintWords Go.Proofs.YtimkchehdaadeaaW.PrintLast Go.Proofs.YtimkchehdaadeaaW.PrintMore
set_option linter.unusedVariables false
set_option linter.unusedSimpArgs false
set_option maxHeartbeats 4000000 in
set_option maxRecDepth 100000 in
theorem ask_check1 (B n : Nat) (hn : 1 ≤ n ∧ n ≤ 6) (x : S57) (hx : x.f0 = 1) (w : World) (hb : w.heap[B]? = some (.cells #[.int .i64 (n : Int)] 3 (0, 0))) :
    Asks 102 #[.pointer (some ⟨B, 0, none⟩)] (.agg #[.int .i64 x.f0, .int .i64 x.f1, .int .i64 x.f2, .int .i64 x.f3, .bool x.f4]) (!saidB n x) w := by
  have hu57 := Try.underlying57
  obtain ⟨k, a, b, m, nt⟩ := x
  simp only at hx ⊢
  subst hx
  have hb2 := blk_alloc hb (.cells #[.int .i64 1, .int .i64 a, .int .i64 b, .int .i64 m, .bool nt] 57)
  have h0 := (blk_cell hb2 0).trans rfl
  have HC := Aside0.mk fun w1 => said_hangs n hn a b m nt w1
  obtain ⟨r, hr⟩ : ∃ r, r = saidB n ⟨1, a, b, m, nt⟩ := ⟨_, rfl⟩
  rw [← hr] at HC ⊢
  have HB := Aside0.mk ((Below.refl w.heap.size w).alloc (Nat.le_refl _) (.cells #[.int .i64 1, .int .i64 a, .int .i64 b, .int .i64 m, .bool nt] 57))
  clear hb hb2 hr hn
  unfold Asks
  go_enter Try.func102, Try.ntmps102
  go_wp2_with (go_at_call 103; refine (HC.out _).mono ?_; rintro e w' ⟨rfl, hb'⟩)
  go_ret
  exact ⟨rfl, below_then HB.out HB.out.size hb'⟩
set_option maxHeartbeats 4000000 in
set_option maxRecDepth 100000 in
theorem pz_check.calls (n : Nat) (hn : 1 ≤ n ∧ n ≤ 6) (A : Option Addr) (c : Nat) (l : List S57) (w : World) (hC : Kd.C k57 w A l.length l) (hc : l.length ≤ c) (hk : ∀ x ∈ l, x.f0 = 1) (hl : l.length ≤ 20) :
    Calls Try.prog 76 #[.int .i64 (n : Int), .slice A l.length c] w fun e w' => e = .returned (.int .i64 (if l.all (saidB n) then 0 else 31)) ∧ Below w.heap.size w w' := by
  have hw78 := Aside0.mk (fun w0 => puzzles_within.calls (n : Int) 1 6 _ w0 (pz_within_eq n 1 6))
  have hr1 : inRange 1 6 (n : Int) = true := inRange_iff.2 ⟨by omega, by omega⟩
  rw [hr1] at hw78
  have hd : decide ((20 : Int) < l.length) = false := decide_eq_false (by omega)
  have hcall := contains_port 102 #[.pointer (some ⟨w.heap.size, 0, none⟩)] (enters_of Try.func102 (by kernel_rfl) rfl) (fun x => !saidB n x) A c l
  have HC := Aside0.mk (fun w1 (h1 : Below w.heap.size w w1) (h2 : w1.heap[w.heap.size]? = some (.cells #[.int .i64 (n : Int)] 3 (0, 0))) => hcall w1 (Kd.C_below hC h1) hc (fun x hx W hW => ask_check1 w.heap.size n hn x (hk x hx) W (blk_below h2 hW)))
  have hall : l.all (saidB n) = !(l.any fun x => !saidB n x) := by rw [List.all_eq_not_any_not]
  rw [hall]
  obtain ⟨b, hb⟩ : ∃ b, b = l.any fun x => !saidB n x := ⟨_, rfl⟩
  rw [← hb] at HC ⊢
  have K0 := Aside0.mk (blk_new w (.cells #[.int .i64 (n : Int)] 3))
  have HB := Aside0.mk ((Below.refl w.heap.size w).alloc (Nat.le_refl _) (.cells #[.int .i64 (n : Int)] 3))
  have z0 := (blk_cell K0.out 0).trans rfl
  clear hb hall hcall hC hk hr1 hn
  cases b
  all_goals
    go_enter Try.func76, Try.ntmps76
    go_wp2_with (first
      | (go_at_call 101; refine (HC.out _ HB6.out K6.out).mono ?_; rintro e w7 ⟨rfl, h7⟩; have HB7 := Aside0.mk (below_then HB6.out HB6.out.size h7); clear h7)
      | (go_at_call 78; refine (hw78.out _).mono ?_; rintro e w6 ⟨rfl, h6⟩; have HB6 := Aside0.mk (below_then HB.out HB.out.size h6.below); have K6 := Aside0.mk (blk_below K0.out h6.below); clear h6))
    go_ret
    exact ⟨rfl, HB7.out⟩
def hangsB (place : List Int) (q : S57) : Bool := (rd place q.f1 == q.f3) != q.f4
set_option maxHeartbeats 4000000 in
set_option maxRecDepth 100000 in
theorem holds_hangs (a b m : Int) (nt : Bool) (A : Option Addr) (c : Nat) (place : List Int) (w : World) (ha : 0 ≤ a ∧ a < place.length) (hC : Kd.C (Kd.int .i64) w A place.length place) (hc : place.length ≤ c) :
    Calls Try.prog 108 #[.agg #[.int .i64 1, .int .i64 a, .int .i64 b, .int .i64 m, .bool nt], .slice A place.length c] w fun e w' => e = .returned (.bool (hangsB place ⟨1, a, b, m, nt⟩)) ∧ Below w.heap.size w w' := by
  have hu57 := Try.underlying57
  obtain ⟨ha0, ha1⟩ := ha
  obtain ⟨ad, rfl, hcell⟩ := Kd.at_int hC a ha0 (by omega)
  replace hcell := (((Below.refl w.heap.size w).alloc (Nat.le_refl _) (.cells #[.int .i64 1, .int .i64 a, .int .i64 b, .int .i64 m, .bool nt] 57)).cell (World.block_lt_of_cell? w _ hcell)).trans hcell
  have hmx := Kd.C_max hC
  have HB := Aside0.mk ((Below.refl w.heap.size w).alloc (Nat.le_refl _) (.cells #[.int .i64 1, .int .i64 a, .int .i64 b, .int .i64 m, .bool nt] 57))
  unfold hangsB
  simp only
  obtain ⟨x, hx⟩ : ∃ x, x = rd place a := ⟨_, rfl⟩
  rw [← hx] at hcell ⊢
  clear hx hC
  go_enter Try.func108, Try.ntmps108
  go_wp2
  go_ret
  exact ⟨rfl, by repeat (first | exact HB.out | exact Below.refl _ _ | apply below_alloc | apply pw_below_drewN | apply below_drew1)⟩
set_option maxHeartbeats 4000000 in
set_option maxRecDepth 100000 in
theorem ask_hangs1 (B : Nat) (x : S57) (hx : x.f0 = 1) (A : Option Addr) (c : Nat) (place : List Int) (w : World) (ha : 0 ≤ x.f1 ∧ x.f1 < place.length) (hC : Kd.C (Kd.int .i64) w A place.length place) (hc : place.length ≤ c) (hb : w.heap[B]? = some (.cells #[.slice A place.length c] 24 (0, 0))) :
    Asks 107 #[.pointer (some ⟨B, 0, none⟩)] (.agg #[.int .i64 x.f0, .int .i64 x.f1, .int .i64 x.f2, .int .i64 x.f3, .bool x.f4]) (!hangsB place x) w := by
  have hu57 := Try.underlying57
  obtain ⟨k, a, b, m, nt⟩ := x
  simp only at hx ha ⊢
  subst hx
  have hb2 := blk_alloc hb (.cells #[.int .i64 1, .int .i64 a, .int .i64 b, .int .i64 m, .bool nt] 57)
  have h0 := (blk_cell hb2 0).trans rfl
  have HC := Aside0.mk (fun w1 h1 => holds_hangs a b m nt A c place w1 ha h1 hc)
  have HP := Aside0.mk (Kd.C_alloc hC (.cells #[.int .i64 1, .int .i64 a, .int .i64 b, .int .i64 m, .bool nt] 57))
  obtain ⟨r, hr⟩ : ∃ r, r = hangsB place ⟨1, a, b, m, nt⟩ := ⟨_, rfl⟩
  rw [← hr] at HC ⊢
  have HB := Aside0.mk ((Below.refl w.heap.size w).alloc (Nat.le_refl _) (.cells #[.int .i64 1, .int .i64 a, .int .i64 b, .int .i64 m, .bool nt] 57))
  clear hb hb2 hr ha hC
  unfold Asks
  go_enter Try.func107, Try.ntmps107
  go_wp2_with (go_at_call 108; refine (HC.out _ HP.out).mono ?_; rintro e w' ⟨rfl, hb'⟩)
  go_ret
  exact ⟨rfl, below_then HB.out HB.out.size hb'⟩
end Go.Proofs.Ytimkchehdaadeaa.P
end
