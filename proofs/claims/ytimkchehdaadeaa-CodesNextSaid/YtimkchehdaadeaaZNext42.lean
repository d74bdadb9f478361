/- Part 42 of a proof: the statement CodesNext: for every input its law returns true (its texts without what nothing here names). -/
import Derived.Test.YtimkchehdaadeaaZNext33
import Derived.Test.YtimkchehdaadeaaZNext35
import Derived.Test.YtimkchehdaadeaaZNext39
import Derived.Test.YtimkchehdaadeaaZNext40
import Derived.Test.YtimkchehdaadeaaZNext41

namespace Go.Proofs.Ytimkchehdaadeaa.P
open Go.RowKit Go.Proofs.YtimkchehdaadeaaW.PrintWords Go.Proofs.YtimkchehdaadeaaW.PrintLast Go.Proofs.YtimkchehdaadeaaW.PrintMore
set_option linter.unusedVariables false
set_option linter.unusedSimpArgs false
theorem RCount_ev (W S : Int) (l : List S36) (h1 : l.length ≤ 9223372036854775807) : Ev (fun k => padlockref01_Count.f k W S l) (countS W S l) := by
  unfold padlockref01_Count.f countS
  refine Ev.bind (RCheckClues_ev W S l h1) ?_
  by_cases h : checkCluesS W S l = 0
  · obtain ⟨hl, hm, hv⟩ := checkClues_ok h
    simp only [if_pos h]
    refine Ev.bind (All_ev hl hv h1) ?_
    exact Ev.now _
  · simp only [if_neg h]
    exact Ev.now _
theorem nextS_len (W S : Int) (l : List S36) : (nextS W S l).1.length ≤ 10 := by
  unfold nextS
  split
  case isFalse => simp
  case isTrue h =>
  obtain ⟨hl, hm, hv⟩ := checkClues_ok h
  split
  case isTrue => simp
  case isFalse h0 =>
  split
  case isTrue => simp
  case isFalse h2 =>
  obtain ⟨n, s, rfl, rfl, hn1, hn4, hs2, hs10⟩ := lock_nat hl
  simp only [Int.toNat_natCast] at h0 h2 ⊢
  obtain ⟨g, hg, e⟩ := bestTo_some (readingsL s n l) _ (by omega) (Nat.le_refl _)
  rw [e]
  have := (isCodeB_iff.1 (allCodes_isCode (by omega) (List.mem_filter.1 hg).1)).1
  simp only
  omega
theorem worst_all {W S : Int} {l : List S36} (x : List Int) (hx : x ∈ readingsL S.toNat W.toNat l) (h : checkCluesS W S l = 0) : ∃ k, padlockref01_worst.f k (readingsL S.toNat W.toNat l) x = some ((worstOf (readingsL S.toNat W.toNat l) x : Nat) : Int) := by
  obtain ⟨hl, hm, hv⟩ := checkClues_ok h
  obtain ⟨n, s, rfl, rfl, hn1, hn4, hs2, hs10⟩ := lock_nat hl
  simp only [Int.toNat_natCast] at hx ⊢
  have hlen : (readingsL s n l).length ≤ 10000 := Nat.le_trans (List.length_filter_le _ _) (codes_many hn4 hs10)
  exact (worst_ev (al := readingsL s n l) hn4 hs10 (by omega) (fun c hc => (List.mem_filter.1 hc).1) (List.mem_filter.1 hx).1 (by omega : (readingsL s n l).length ≤ 100000)).rounds
set_option maxHeartbeats 8000000 in
set_option maxRecDepth 100000 in
theorem CodesNext_calls (W S : Int) (A1 : Option Addr) (c1 : Nat) (l : List S36) (w : World) (g1 : Kd.C k36 w A1 l.length l) (e1 : l.length ≤ c1) :
    Calls Try.prog 10 #[.agg #[.int .i64 W, .int .i64 S], .slice A1 l.length c1] w fun e w' => e = .returned (.bool true) ∧ Below w.heap.size w w' := by
  obtain ⟨k, hk⟩ := (RCount_ev W S l (Kd.C_max g1)).rounds
  obtain ⟨ka, hka⟩ := RCheckClues_ev W S l (Kd.C_max g1)
  have hAl : ∃ K, ∀ k, K ≤ k → checkCluesS W S l = 0 → padlockref01_All.f k W S l = some (readingsL S.toNat W.toNat l) := by
    by_cases h : checkCluesS W S l = 0
    · obtain ⟨hl, hm, hv⟩ := checkClues_ok h
      obtain ⟨K, hK⟩ := All_ev hl hv (Kd.C_max g1)
      exact ⟨K, fun k hk _ => hK k hk⟩
    · exact ⟨0, fun k _ h' => absurd h' h⟩
  obtain ⟨kb, hkb⟩ := hAl
  have hlen := nextS_len W S l
  obtain ⟨⟨r1, r2, r3⟩, hr⟩ : ∃ r, r = nextS W S l := ⟨_, rfl⟩
  rw [← hr] at hlen
  simp only at hlen
  obtain ⟨k2, hk2⟩ := (SameInts_ev r1 r1 (by omega)).rounds
  rw [decide_eq_true rfl] at hk2
  obtain ⟨⟨n1, n2⟩, hn⟩ : ∃ r, r = countS W S l := ⟨_, rfl⟩
  rw [← hn] at hk
  have HR := Aside0.mk hr
  have hu23 := Try.underlying23
  have K0 := Aside0.mk (blk_new w (.cells #[.int .i64 W, .int .i64 S] 23))
  have HB := Aside0.mk ((Below.refl w.heap.size w).alloc (Nat.le_refl _) (.cells #[.int .i64 W, .int .i64 S] 23))
  have H42 := Aside0.mk (padlockref01_Count.calls k W S A1 c1 l n1 n2 _ (Kd.C_below g1 HB.out) e1 hk)
  have H43 := Aside0.mk fun w1 (h1 : Below w.heap.size w w1) => codes_Next.calls W S A1 c1 l r1 r2 r3 w1 (Kd.C_below g1 h1) e1 HR.out.symm
  have H44 := Aside0.mk fun w1 (h1 : Below w.heap.size w w1) => padlockref01_Next.calls (max ka kb) W S A1 c1 l r1 r2 r3 w1 (Kd.C_below g1 h1) e1 (hka _ (Nat.le_max_left _ _)) (hkb _ (Nat.le_max_right _ _)) worst_all HR.out.symm
  have H21 := Aside0.mk fun A c A' c' w1 h1 h2 h3 h4 => padlockref01_SameInts.calls k2 A c r1 A' c' r1 true w1 h1 h2 h3 h4 hk2
  clear hk hk2 hr g1 hn hka hkb
  have hcases : ((n2 == 0) = true ∧ (decide ((60 : Int) < n1)) = true ∧ decide (n1 ≤ 200) = true) ∨ ((n2 == 0) = false) ∨ ((n2 == 0) = true ∧ (decide ((60 : Int) < n1)) = false) ∨ ((n2 == 0) = true ∧ (decide ((60 : Int) < n1)) = true ∧ decide (n1 ≤ 200) = false) := by
    cases (n2 == 0) <;> cases (decide ((60 : Int) < n1)) <;> cases (decide (n1 ≤ 200)) <;> simp
  rcases hcases with ⟨d1, d2, d3⟩ | d1 | ⟨d1, d2⟩ | ⟨d1, d2, d3⟩
  · go_enter Try.func10, Try.ntmps10
    go_wp2_with (first
      | (go_at_call 42; refine H42.out.mono ?_; rintro e w1 ⟨rfl, hb⟩; have HB1 := Aside0.mk (below_then HB.out HB.out.size hb); clear hb)
      | (go_at_call 20; refine (padlocklaw01_works.calls true _ rfl).mono ?_; rintro e w4 ⟨rfl, hb4⟩))
    go_ret
    exact ⟨rfl, below_then HB1.out HB1.out.size hb4⟩
  all_goals
    go_enter Try.func10, Try.ntmps10
    go_wp2_with (first
      | (go_at_call 42; refine H42.out.mono ?_; rintro e w1 ⟨rfl, hb⟩; have HB1 := Aside0.mk (below_then HB.out HB.out.size hb); have K0' := Aside0.mk (blk_below K0.out hb); obtain ⟨a0, a1⟩ := cells2 K0'.out; clear hb)
      | (go_at_call 43; refine (H43.out _ HB1.out).mono ?_; rintro e w2 ⟨Av, cv, rfl, hlv, hcv, hb⟩; have HV := Aside0.mk hcv; have HL := Aside0.mk hlv; have HB2 := Aside0.mk (below_then HB1.out HB1.out.size hb); obtain ⟨b0, b1⟩ := cells2 (blk_below K0'.out hb); clear hcv hlv hb)
      | (go_at_call 44; refine (H44.out _ HB2.out).mono ?_; rintro e w3 ⟨Av2, cv2, rfl, hlv, hcv, hb⟩; have HV2 := Aside0.mk hcv; have HL2 := Aside0.mk hlv; have HB3 := Aside0.mk (below_then HB2.out HB2.out.size hb); have HV1 := Aside0.mk (Kd.C_below HV.out hb); clear hcv hlv hb)
      | (go_at_call 21; refine (H21.out _ _ _ _ _ HV1.out HL.out HV2.out HL2.out).mono ?_; rintro e w4 ⟨rfl, hd⟩)
      | (go_at_call 20; refine (padlocklaw01_works.calls true _ rfl).mono ?_; rintro e w5 ⟨rfl, hb4⟩))
    go_ret
    obtain ⟨⟨m, rfl⟩⟩ := hd
    exact ⟨rfl, below_then (pw_below_drewN HB3.out m) HB3.out.size hb4⟩
end Go.Proofs.Ytimkchehdaadeaa.P
