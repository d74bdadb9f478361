/- CodesImplies: what the law comes to. -/
import Derived.Test.YtimkchehdaadeaaHPure4
import Derived.Test.YtimkchehdaadeaaPx11
import Derived.Test.YtimkchehdaadeaaHImplies
namespace Go.Proofs.Ytimkchehdaadeaa.P
open Go.RowKit Go.Proofs.YtimkchehdaadeaaW.PrintWords Go.Proofs.YtimkchehdaadeaaW.PrintLast Go.Proofs.YtimkchehdaadeaaW.PrintMore
set_option linter.unusedVariables false
set_option linter.unusedSimpArgs false
theorem rdL_get (l : List (List Int)) (i : Nat) (h : i < l.length) : rd_L2 l i = l[i] := by simp [rd_L2, List.getD_eq_getElem?_getD, List.getElem?_eq_getElem h]
def impliesR (q : S36) (al : List (List Int)) : List Int × Bool × Int := match al.find? (fun c => !holdsC q c) with
    | some c => (c, false, 0)
    | none => ([], true, 0)
theorem Implies_l0 (al : List (List Int)) (q : S36) (hn : al.length ≤ 9223372036854775807) (hok : ∀ c ∈ al, okC q c ∧ c.length ≤ 1000000) (d : Nat) : ∀ i : Nat, i ≤ al.length → al.length - i = d →
    Ev (fun k => padlockref01_Implies.l0 k al i q.f0 q.f1 q.f2 q.f3 q.f4 q.f5 q.f6) (impliesR q (al.drop i)) := by
  induction d with
  | zero =>
    intro i h0 h1
    refine Ev.step (f := fun _ => some ([], true, 0)) (fun k => ?_) ?_
    · simp only [padlockref01_Implies.l0]; rw [if_neg (by omega)]
    · rw [List.drop_of_length_le (by omega)]; exact Ev.now _
  | succ d ih =>
    intro i h0 h1
    have hi : i < al.length := by omega
    obtain ⟨ho, hl⟩ := hok al[i] (List.getElem_mem hi)
    have hT := True_ev q al[i] ho hl
    have := ih (i + 1) (by omega) (by omega)
    refine Ev.step (f := fun k => (padlockref01_True.f k q.f0 q.f1 q.f2 q.f3 q.f4 q.f5 q.f6 al[i]).bind fun t => if t = true then padlockref01_Implies.l0 k al ((i + 1 : Nat) : Int) q.f0 q.f1 q.f2 q.f3 q.f4 q.f5 q.f6 else some (al[i], false, 0)) (fun k => ?_) ?_
    · simp only [padlockref01_Implies.l0]
      rw [if_pos (by omega), if_pos (by omega), rdL_get al i hi, wrap_next hi hn]
    · refine Ev.bind hT ?_
      rw [List.drop_eq_getElem_cons hi]
      unfold impliesR
      by_cases hb : holdsC q al[i] = true
      · rw [List.find?_cons_of_neg (by simp [hb])]
        simp only [hb, if_true]
        exact this
      · rw [List.find?_cons_of_pos (by simp [hb])]
        simp only [hb]
        exact Ev.now _
theorem RImplies_ev (W S : Int) (l : List S36) (q : S36) (h1 : l.length ≤ 9223372036854775807) : Ev (fun k => padlockref01_Implies.f k W S l q.f0 q.f1 q.f2 q.f3 q.f4 q.f5 q.f6) (impliesS W S l q) := by
  unfold padlockref01_Implies.f impliesS
  refine Ev.bind (RCheckClues_ev W S l h1) ?_
  by_cases h : checkCluesS W S l = 0
  · obtain ⟨hl, hm, hv⟩ := checkClues_ok h
    simp only [if_pos h, isClue_eq W S hl, Option.bind_some]
    unfold checkClueS
    rw [if_pos hl]
    by_cases hq : validC W S q = true
    · simp only [hq, if_true]
      refine Ev.bind (All_ev hl hv h1) ?_
      obtain ⟨n, s, rfl, rfl, hn1, hn4, hs2, hs10⟩ := lock_nat hl
      simp only [Int.toNat_natCast]
      have hmany := codes_many hn4 hs10
      have hlen : (readingsL s n l).length ≤ 10000 := Nat.le_trans (List.length_filter_le _ _) hmany
      have := Implies_l0 (readingsL s n l) q (by omega) (fun c hc => by
        have hm := (List.mem_filter.1 hc).1
        have hcode := allCodes_isCode (by omega) hm
        exact ⟨okC_of_valid hl hq hcode, by have := (isCodeB_iff.1 hcode).1; omega⟩) _ 0 (Nat.zero_le _) rfl
      exact this
    · simp only [Bool.eq_false_iff.mpr hq, Bool.false_eq_true, if_false]
      exact Ev.now _
  · simp only [if_neg h]
    exact Ev.now _
theorem impliesS_len (W S : Int) (l : List S36) (q : S36) : (impliesS W S l q).1.length ≤ 10 := by
  unfold impliesS
  split
  case isFalse => simp
  case isTrue h =>
  obtain ⟨hl, hm, hv⟩ := checkClues_ok h
  split
  case isFalse => simp
  case isTrue h2 =>
  split
  case h_2 => simp
  case h_1 c hc =>
  have hmem := (List.mem_filter.1 (List.mem_of_find?_eq_some hc)).1
  obtain ⟨n, s, rfl, rfl, hn1, hn4, hs2, hs10⟩ := lock_nat hl
  simp only [Int.toNat_natCast] at hmem
  have := (isCodeB_iff.1 (allCodes_isCode (by omega) hmem)).1
  simp only
  omega
set_option maxHeartbeats 8000000 in
set_option maxRecDepth 100000 in
theorem CodesImplies_calls (W S : Int) (A1 : Option Addr) (c1 : Nat) (l : List S36) (q : S36) (A2 : Option Addr) (c2 : Nat) (w : World) (g1 : Kd.C k36 w A1 l.length l) (e1 : l.length ≤ c1) (g2 : Kd.C (Kd.int .i64) w A2 q.f5.length q.f5) (e2 : q.f5.length ≤ c2) :
    Calls Try.prog 7 #[.agg #[.int .i64 W, .int .i64 S], .slice A1 l.length c1, .agg #[.int .i64 q.f0, .int .i64 q.f1, .int .i64 q.f2, .int .i64 q.f3, .int .i64 q.f4, .slice A2 q.f5.length c2, .bool q.f6]] w fun e w' => e = .returned (.bool true) ∧ Below w.heap.size w w' := by
  obtain ⟨k, hk⟩ := (RImplies_ev W S l q (Kd.C_max g1)).rounds
  have hlen := impliesS_len W S l q
  obtain ⟨⟨r1, r2, r3⟩, hr⟩ : ∃ r, r = impliesS W S l q := ⟨_, rfl⟩
  rw [← hr] at hk hlen
  simp only at hlen
  obtain ⟨k2, hk2⟩ := (SameInts_ev r1 r1 (by omega)).rounds
  rw [decide_eq_true rfl] at hk2
  have H32 := Aside0.mk fun w1 (h1 : Below w.heap.size w w1) => codes_Implies.calls W S A1 c1 l q.f0 q.f1 q.f2 q.f3 q.f4 A2 c2 q.f5 q.f6 r1 r2 r3 w1 (Kd.C_below g1 h1) e1 (Kd.C_below g2 h1) e2 (by rw [hr]; rfl)
  have H33 := Aside0.mk fun w1 (h1 : Below w.heap.size w w1) => padlockref01_Implies.calls k W S A1 c1 l q.f0 q.f1 q.f2 q.f3 q.f4 A2 c2 q.f5 q.f6 r1 r2 r3 w1 (Kd.C_below g1 h1) e1 (Kd.C_below g2 h1) e2 hk
  have H21 := Aside0.mk fun A c A' c' w1 h1 h2 h3 h4 => padlockref01_SameInts.calls k2 A c r1 A' c' r1 true w1 h1 h2 h3 h4 hk2
  have hu23 := Try.underlying23
  have hu36 := Try.underlying36
  have K0 := Aside0.mk (blk_alloc (blk_new w (.cells #[.int .i64 W, .int .i64 S] 23)) (.cells #[.int .i64 q.f0, .int .i64 q.f1, .int .i64 q.f2, .int .i64 q.f3, .int .i64 q.f4, .slice A2 q.f5.length c2, .bool q.f6] 36))
  have K1 := blk_new (w.alloc (.cells #[.int .i64 W, .int .i64 S] 23)) (.cells #[.int .i64 q.f0, .int .i64 q.f1, .int .i64 q.f2, .int .i64 q.f3, .int .i64 q.f4, .slice A2 q.f5.length c2, .bool q.f6] 36)
  rw [World.size_alloc] at K1
  have K1 := Aside0.mk K1
  have HB := Aside0.mk (((Below.refl w.heap.size w).alloc (Nat.le_refl _) (.cells #[.int .i64 W, .int .i64 S] 23)).alloc (by simp) (.cells #[.int .i64 q.f0, .int .i64 q.f1, .int .i64 q.f2, .int .i64 q.f3, .int .i64 q.f4, .slice A2 q.f5.length c2, .bool q.f6] 36))
  clear hk hk2 hr g1 g2
  go_enter Try.func7, Try.ntmps7
  go_wp2_with (first
    | (go_at_call 32; refine (H32.out _ HB.out).mono ?_; rintro e w1 ⟨v, rfl, ho, hb⟩; obtain ⟨Av, cv, rfl, hlv, hcv⟩ := Kd.R_reads ho; have HV := Aside0.mk hcv; have HL := Aside0.mk hlv; have HB1 := Aside0.mk (below_then HB.out HB.out.size hb); have K0' := blk_below K0.out hb; have K1' := blk_below K1.out hb; obtain ⟨a0, a1⟩ := cells2 K0'; obtain ⟨b0, b1, b2, b3, b4, b5, b6⟩ := cells7 K1'; clear ho hcv hlv hb K0' K1')
    | (go_at_call 33; refine (H33.out _ HB1.out).mono ?_; rintro e w2 ⟨v2, rfl, ho, hb⟩; obtain ⟨Av2, cv2, rfl, hlv, hcv⟩ := Kd.R_reads ho; have HV2 := Aside0.mk hcv; have HL2 := Aside0.mk hlv; have HB2 := Aside0.mk (below_then HB1.out HB1.out.size hb); have HV1 := Aside0.mk (Kd.C_below HV.out hb); clear ho hcv hlv hb)
    | (go_at_call 21; refine (H21.out _ _ _ _ _ HV1.out HL.out HV2.out HL2.out).mono ?_; rintro e w3 ⟨rfl, hd⟩)
    | (go_at_call 20; refine (padlocklaw01_works.calls true _ rfl).mono ?_; rintro e w4 ⟨rfl, hb4⟩))
  go_ret
  obtain ⟨⟨m, rfl⟩⟩ := hd
  exact ⟨rfl, below_then (pw_below_drewN HB2.out m) HB2.out.size hb4⟩
end Go.Proofs.Ytimkchehdaadeaa.P
