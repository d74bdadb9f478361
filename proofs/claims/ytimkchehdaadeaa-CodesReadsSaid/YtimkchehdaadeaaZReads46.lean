/- Part 46 of a proof: the statement CodesReads: for every input its law returns true (its texts without what nothing here names). -/
import Derived.Test.YtimkchehdaadeaaZReads42
import Derived.Test.YtimkchehdaadeaaZReads45

namespace Go.Proofs.Ytimkchehdaadeaa.P
open Go.RowKit Go.Proofs.YtimkchehdaadeaaW.PrintWords Go.Proofs.YtimkchehdaadeaaW.PrintLast Go.Proofs.YtimkchehdaadeaaW.PrintMore
set_option linter.unusedVariables false
set_option linter.unusedSimpArgs false
theorem sameLists_l0 (L : List (List Int)) (hn : L.length ≤ 9223372036854775807) (hm : ∀ x ∈ L, x.length ≤ 9223372036854775807) (d : Nat) : ∀ i : Nat, i ≤ L.length → L.length - i = d → Ev (fun k => padlocklaw01_sameLists.l0 k L L i) true := by
  induction d with
  | zero =>
    intro i h0 h1
    refine Ev.step (f := fun _ => some true) (fun k => ?_) (Ev.now _)
    simp only [padlocklaw01_sameLists.l0]
    rw [if_neg (by omega)]
  | succ d ih =>
    intro i h0 h1
    have hi : i < L.length := by omega
    have hS := SameInts_ev (rd_L2 L i) (rd_L2 L i) (by rw [rdL_get2 L i hi]; exact hm _ (List.getElem_mem _))
    rw [decide_eq_true rfl] at hS
    have := ih (i + 1) (by omega) (by omega)
    refine Ev.step (f := fun k => (padlockref01_SameInts.f k (rd_L2 L i) (rd_L2 L i)).bind fun t => if t = true then padlocklaw01_sameLists.l0 k L L ((i + 1 : Nat) : Int) else some false) (fun k => ?_) ?_
    · simp only [padlocklaw01_sameLists.l0]
      rw [if_pos (by omega), if_pos (by omega), if_pos (by omega), wrap_next hi hn]
    · refine Ev.bind hS ?_
      simp only [if_true]
      exact this
theorem sameLists_ev (L : List (List Int)) (hn : L.length ≤ 9223372036854775807) (hm : ∀ x ∈ L, x.length ≤ 9223372036854775807) : Ev (fun k => padlocklaw01_sameLists.f k L L) true := by
  refine Ev.congr (f := fun k => padlocklaw01_sameLists.l0 k L L ((0 : Nat) : Int)) (fun k => by unfold padlocklaw01_sameLists.f; rw [if_pos rfl]; rfl) ?_
  exact sameLists_l0 L hn hm _ 0 (Nat.zero_le _) rfl
theorem RReadings_ev (W S : Int) (l : List S36) (most : Int) (h1 : l.length ≤ 9223372036854775807) : Ev (fun k => padlockref01_Readings.f k W S l most) (readS W S l most) := by
  unfold padlockref01_Readings.f readS
  refine Ev.bind (RCheckClues_ev W S l h1) ?_
  by_cases h : checkCluesS W S l = 0
  · obtain ⟨hl, hm, hv⟩ := checkClues_ok h
    simp only [if_pos h, Within_eq, Option.bind_some]
    by_cases hr : inRange 1 64 most = true
    · simp only [hr, if_true]
      refine Ev.bind (All_ev hl hv h1) ?_
      obtain ⟨h2, h3⟩ := inRange_iff.1 hr
      obtain ⟨al, hal⟩ : ∃ al, al = readingsL S.toNat W.toNat l := ⟨_, rfl⟩
      rw [← hal]
      have e0 : 0 ≤ mn (al.length : Int) most := by unfold mn; split <;> omega
      have e1 : mn (al.length : Int) most ≤ (al.length : Int) := by unfold mn; split <;> omega
      have e2 : al.take (mn (al.length : Int) most).toNat = al.take most.toNat := by
        unfold mn
        split
        · rfl
        · rw [Int.toNat_natCast, List.take_length, List.take_of_length_le (by omega)]
      simp only [if_pos e0, if_pos e1, e2]
      exact Ev.now _
    · simp only [Bool.eq_false_iff.mpr hr, Bool.false_eq_true, if_false]
      exact Ev.now _
  · simp only [if_neg h]
    exact Ev.now _
theorem symsTo_more (L : List (List Int)) (i s : Nat) (hs : s ≤ 10) (h : ∀ j, s ≤ j → showB L i j = false) : symsTo L i 10 = symsTo L i s := by
  unfold symsTo
  rw [show 10 = s + (10 - s) by omega, List.range_add, List.filter_append]
  have : ((List.range (10 - s)).map (s + ·)).filter (showB L i) = [] := by
    rw [List.filter_eq_nil_iff]
    intro j hj
    obtain ⟨k, _, rfl⟩ := List.mem_map.1 hj
    rw [h (s + k) (by omega)]; decide
  rw [this, List.append_nil]
theorem shows_eq (W S : Int) (l : List S36) : showsS W S l S.toNat = showsS W S l 10 := by
  unfold showsS
  by_cases h : checkCluesS W S l = 0
  · rw [if_pos h, if_pos h]
    obtain ⟨hl, hm, hv⟩ := checkClues_ok h
    obtain ⟨n, s, rfl, rfl, hn1, hn4, hs2, hs10⟩ := lock_nat hl
    simp only [Int.toNat_natCast]
    have hno : ∀ i j, s ≤ j → showB (readingsL s n l) i j = false := fun i j hj => by
      unfold showB
      rw [List.any_eq_false]
      intro c hc
      have hd := (isCodeB_iff.1 (allCodes_isCode (by omega) (List.mem_filter.1 hc).1)).2
      simp only [Bool.and_eq_true, decide_eq_true_eq, beq_iff_eq, not_and]
      intro hi e
      have := hd (c[i]) (List.getElem_mem _)
      rw [rd_get c i hi] at e
      omega
    unfold rowsTo
    congr 1
    apply List.map_congr_left
    intro k hk
    have hk := List.mem_range.1 hk
    rw [if_pos hk, if_pos hk, symsTo_more _ k s hs10 (hno k)]
  · rw [if_neg h, if_neg h]
theorem readS_len (W S : Int) (l : List S36) (most : Int) : (readS W S l most).1.length ≤ 10000 ∧ ∀ x ∈ (readS W S l most).1, x.length ≤ 10 := by
  unfold readS
  by_cases h : checkCluesS W S l = 0
  · rw [if_pos h]
    obtain ⟨hl, hm, hv⟩ := checkClues_ok h
    obtain ⟨n, s, rfl, rfl, hn1, hn4, hs2, hs10⟩ := lock_nat hl
    simp only [Int.toNat_natCast]
    split
    · have h1 : (readingsL s n l).length ≤ 10000 := Nat.le_trans (List.length_filter_le _ _) (codes_many hn4 hs10)
      refine ⟨by simp only [List.length_take]; omega, fun x hx => ?_⟩
      have := (isCodeB_iff.1 (allCodes_isCode (by omega) (List.mem_filter.1 (List.mem_of_mem_take hx)).1)).1
      omega
    · simp
  · rw [if_neg h]; simp
theorem showsS_len (W S : Int) (l : List S36) : (showsS W S l 10).1.length ≤ 10000 ∧ ∀ x ∈ (showsS W S l 10).1, x.length ≤ 10 := by
  unfold showsS
  by_cases h : checkCluesS W S l = 0
  · rw [if_pos h]
    obtain ⟨hl, hm, hv⟩ := checkClues_ok h
    obtain ⟨n, s, rfl, rfl, hn1, hn4, hs2, hs10⟩ := lock_nat hl
    simp only [Int.toNat_natCast]
    refine ⟨by rw [rowsTo_len]; omega, fun x hx => ?_⟩
    obtain ⟨k, hk, rfl⟩ := List.mem_map.1 hx
    rw [if_pos (List.mem_range.1 hk)]
    exact symsTo_len _ _ _
  · rw [if_neg h]; simp
set_option maxHeartbeats 8000000 in
set_option maxRecDepth 100000 in
theorem CodesReads_calls {P : Prop} (W S : Int) (A1 : Option Addr) (c1 : Nat) (l : List S36) (most : Int) (w : World) (g1 : Kd.C k36 w A1 l.length l) (e1 : l.length ≤ c1) (_ : P) :
    Calls Try.prog 11 #[.agg #[.int .i64 W, .int .i64 S], .slice A1 l.length c1, .int .i64 most] w fun e w' => e = .returned (.bool true) ∧ Below w.heap.size w w' := by
  obtain ⟨k, hk⟩ := (RCount_ev W S l (Kd.C_max g1)).rounds
  obtain ⟨k3, hk3⟩ := (RReadings_ev W S l most (Kd.C_max g1)).rounds
  obtain ⟨ka, hka⟩ := RCheckClues_ev W S l (Kd.C_max g1)
  have hAl : ∃ K, ∀ k, K ≤ k → checkCluesS W S l = 0 → padlockref01_All.f k W S l = some (readingsL S.toNat W.toNat l) := by
    by_cases h : checkCluesS W S l = 0
    · obtain ⟨hl, hm, hv⟩ := checkClues_ok h
      obtain ⟨K, hK⟩ := All_ev hl hv (Kd.C_max g1)
      exact ⟨K, fun k hk _ => hK k hk⟩
    · exact ⟨0, fun k _ h' => absurd h' h⟩
  obtain ⟨kb, hkb⟩ := hAl
  obtain ⟨hr1, hr2⟩ := readS_len W S l most
  obtain ⟨hs1, hs2⟩ := showsS_len W S l
  have hse := shows_eq W S l
  obtain ⟨⟨r1, r2⟩, hr⟩ : ∃ r, r = readS W S l most := ⟨_, rfl⟩
  obtain ⟨⟨s1, s2⟩, hs⟩ : ∃ r, r = showsS W S l 10 := ⟨_, rfl⟩
  obtain ⟨⟨n1, n2⟩, hn⟩ : ∃ r, r = countS W S l := ⟨_, rfl⟩
  rw [← hr] at hr1 hr2 hk3
  rw [← hs] at hs1 hs2 hse
  rw [← hn] at hk
  simp only at hr1 hr2 hs1 hs2
  obtain ⟨k4, hk4⟩ := (sameLists_ev r1 (by omega) (fun x hx => by have := hr2 x hx; omega)).rounds
  obtain ⟨k5, hk5⟩ := (sameLists_ev s1 (by omega) (fun x hx => by have := hs2 x hx; omega)).rounds
  have HR := Aside0.mk hr
  have HS := Aside0.mk hs
  have HSE := Aside0.mk hse
  have HN := Aside0.mk hn
  have hu23 := Try.underlying23
  have K0 := Aside0.mk (blk_new w (.cells #[.int .i64 W, .int .i64 S] 23))
  have HB := Aside0.mk ((Below.refl w.heap.size w).alloc (Nat.le_refl _) (.cells #[.int .i64 W, .int .i64 S] 23))
  have H35 := Aside0.mk (codes_Count.calls W S A1 c1 l n1 n2 _ (Kd.C_below g1 HB.out) e1 (by rw [Count_eq, ← HN.out]))
  have H42 := Aside0.mk fun w1 (h1 : Below w.heap.size w w1) => padlockref01_Count.calls k W S A1 c1 l n1 n2 w1 (Kd.C_below g1 h1) e1 hk
  have H36 := Aside0.mk fun w1 (h1 : Below w.heap.size w w1) => codes_Readings.calls W S A1 c1 l most r1 r2 w1 (Kd.C_below g1 h1) e1 HR.out.symm
  have H45 := Aside0.mk fun w1 (h1 : Below w.heap.size w w1) => padlockref01_Readings.calls k3 W S A1 c1 l most r1 r2 w1 (Kd.C_below g1 h1) e1 hk3
  have H47 := Aside0.mk fun w1 (h1 : Below w.heap.size w w1) => codes_Shows.calls W S A1 c1 l s1 s2 w1 (Kd.C_below g1 h1) e1 HS.out.symm
  have H48 := Aside0.mk fun w1 (h1 : Below w.heap.size w w1) => padlockref01_Shows.calls (max ka kb) W S A1 c1 l s1 s2 w1 (Kd.C_below g1 h1) e1 (hka _ (Nat.le_max_left _ _)) (hkb _ (Nat.le_max_right _ _)) HSE.out
  have H46 := Aside0.mk fun A c A' c' w1 h1 h2 h3 h4 => padlocklaw01_sameLists.calls k4 A c r1 A' c' r1 true w1 h1 h2 h3 h4 hk4
  have H46s := Aside0.mk fun A c A' c' w1 h1 h2 h3 h4 => padlocklaw01_sameLists.calls k5 A c s1 A' c' s1 true w1 h1 h2 h3 h4 hk5
  clear hk hk3 hk4 hk5 hka hkb hr1 hr2 hs1 hs2 hse hr hs hn g1
  go_enter Try.func11, Try.ntmps11
  go_wp2_with (first
    | (go_at_call 35; refine H35.out.mono ?_; rintro e wa ⟨rfl, hb⟩; have HBa := Aside0.mk (below_then HB.out HB.out.size hb); have Ka := Aside0.mk (blk_below K0.out hb); obtain ⟨a0, a1⟩ := cells2 Ka.out; clear hb)
    | (go_at_call 42; refine (H42.out _ HBa.out).mono ?_; rintro e wb ⟨rfl, hb⟩; have HBb := Aside0.mk (below_then HBa.out HBa.out.size hb); have Kb := Aside0.mk (blk_below Ka.out hb); clear a0 a1; obtain ⟨a0, a1⟩ := cells2 Kb.out; clear hb)
    | (go_at_call 36; refine (H36.out _ HBb.out).mono ?_; rintro e wc ⟨v, rfl, ho, hb⟩; obtain ⟨Av, cv, rfl, hlv, hcv⟩ := Kd.R_reads ho; have HLV := Aside0.mk hlv; have HCV := Aside0.mk hcv; have HBc := Aside0.mk (below_then HBb.out HBb.out.size hb); have Kc := Aside0.mk (blk_below Kb.out hb); clear a0 a1; obtain ⟨a0, a1⟩ := cells2 Kc.out; clear hb ho hlv hcv)
    | (go_at_call 45; refine (H45.out _ HBc.out).mono ?_; rintro e wd ⟨v, rfl, ho, hb⟩; obtain ⟨Aw, cw, rfl⟩ := Kd.S_slice ho; obtain ⟨hlw, hcw⟩ := (Kd.S_reads' ho).2; have HLW := Aside0.mk hlw; have HCW := Aside0.mk hcw; have HCV2 := Aside0.mk (Kd.C_below HCV.out hb); have HBd := Aside0.mk (below_then HBc.out HBc.out.size hb); have Kd_ := Aside0.mk (blk_below Kc.out hb); clear a0 a1; obtain ⟨a0, a1⟩ := cells2 Kd_.out; clear hb ho hlw hcw)
    | (go_at_call 46; refine (H46s.out _ _ _ _ _ HCX2.out HLX.out HCY.out HLY.out).mono ?_; rintro e wh ⟨rfl, ⟨⟨m2, rfl⟩⟩⟩)
    | (go_at_call 46; refine (H46.out _ _ _ _ _ HCV2.out HLV.out HCW.out HLW.out).mono ?_; rintro e we ⟨rfl, ⟨⟨m1, rfl⟩⟩⟩; have HBe := Aside0.mk (pw_below_drewN HBd.out m1); have Ke := Aside0.mk (blk_drewN Kd_.out m1); clear a0 a1; obtain ⟨a0, a1⟩ := cells2 Ke.out)
    | (go_at_call 47; refine (H47.out _ HBe.out).mono ?_; rintro e wf ⟨v, rfl, ho, hb⟩; obtain ⟨Ax, cx, rfl⟩ := Kd.S_slice ho; obtain ⟨hlx, hcx⟩ := (Kd.S_reads' ho).2; have HLX := Aside0.mk hlx; have HCX := Aside0.mk hcx; have HBf := Aside0.mk (below_then HBe.out HBe.out.size hb); have Kf := Aside0.mk (blk_below Ke.out hb); clear a0 a1; obtain ⟨a0, a1⟩ := cells2 Kf.out; clear hb ho hlx hcx)
    | (go_at_call 48; refine (H48.out _ HBf.out).mono ?_; rintro e wg ⟨v, rfl, ho, hb⟩; obtain ⟨Ay, cy, rfl⟩ := Kd.S_slice ho; obtain ⟨hly, hcy⟩ := (Kd.S_reads' ho).2; have HLY := Aside0.mk hly; have HCY := Aside0.mk hcy; have HCX2 := Aside0.mk (Kd.C_below HCX.out hb); have HBg := Aside0.mk (below_then HBf.out HBf.out.size hb); clear hb ho hly hcy a0 a1)
    | (go_at_call 20; refine (padlocklaw01_works.calls true _ rfl).mono ?_; rintro e wz ⟨rfl, hb4⟩))
  go_ret
  exact ⟨rfl, below_then (pw_below_drewN HBg.out m2) HBg.out.size hb4⟩
end Go.Proofs.Ytimkchehdaadeaa.P
