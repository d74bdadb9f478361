/- Part 53 of a proof: the statement CodesCores: for every input its law returns true (its texts without what nothing here names). -/
import Derived.Test.YtimkchehdaadeaaZCores46
import Derived.Test.YtimkchehdaadeaaZCores49
import Derived.Test.YtimkchehdaadeaaZCores51
import Derived.Test.YtimkchehdaadeaaZCores52

namespace Go.Proofs.Ytimkchehdaadeaa.P
open Go.RowKit Go.Proofs.YtimkchehdaadeaaW.PrintWords Go.Proofs.YtimkchehdaadeaaW.PrintLast Go.Proofs.YtimkchehdaadeaaW.PrintMore
set_option linter.unusedVariables false
set_option linter.unusedSimpArgs false
theorem idleS_len (W S : Int) (l : List S36) : (idleS W S l).1.length ≤ 100 := by
  unfold idleS
  by_cases h : checkCluesS W S l = 0
  · rw [if_pos h]
    have := (checkClues_ok h).2.1
    have := idleTo_len S.toNat W.toNat l l.length
    simp only; omega
  · rw [if_neg h]; simp
theorem coreS_len (W S : Int) (l : List S36) : (coreS W S l).1.length ≤ 100 := by
  unfold coreS
  by_cases h : checkCluesS W S l = 0
  · rw [if_pos h]
    have := (checkClues_ok h).2.1
    have := (coreTo_len S.toNat W.toNat l l.length (Nat.le_refl _)).2
    simp only; omega
  · rw [if_neg h]; simp
theorem getD_len {al : List (List Int)} {N : Nat} (h : ∀ c ∈ al, c.length ≤ N) (i : Nat) : (al.getD i []).length ≤ N := by
  rw [List.getD_eq_getElem?_getD]
  by_cases hi : i < al.length
  · rw [List.getElem?_eq_getElem hi]; exact h _ (List.getElem_mem hi)
  · rw [List.getElem?_eq_none (by omega)]; simp
theorem pairS_len (W S : Int) (l : List S36) : (pairS W S l).1.length ≤ 100 ∧ (pairS W S l).2.1.length ≤ 100 := by
  unfold pairS
  by_cases h : checkCluesS W S l = 0
  · rw [if_pos h]
    obtain ⟨hl, hm, hv⟩ := checkClues_ok h
    obtain ⟨n, s, rfl, rfl, hn1, hn4, hs2, hs10⟩ := lock_nat hl
    simp only [Int.toNat_natCast]
    have hall : ∀ c ∈ readingsL s n l, c.length ≤ 100 := fun c hc => by
      have := (isCodeB_iff.1 (allCodes_isCode (by omega) (List.mem_filter.1 hc).1)).1; omega
    split
    · simp
    · exact ⟨getD_len hall _, getD_len hall _⟩
  · rw [if_neg h]; simp
set_option maxHeartbeats 8000000 in
set_option maxRecDepth 100000 in
theorem CodesCores_calls (W S : Int) (A1 : Option Addr) (c1 : Nat) (l : List S36) (w : World) (g1 : Kd.C k36 w A1 l.length l) (e1 : l.length ≤ c1) :
    Calls Try.prog 13 #[.agg #[.int .i64 W, .int .i64 S], .slice A1 l.length c1] w fun e w' => e = .returned (.bool true) ∧ Below w.heap.size w w' := by
  obtain ⟨k1, hk1⟩ := (RIdle_ev W S l (Kd.C_max g1)).rounds
  obtain ⟨k2, hk2⟩ := (RCore_ev W S l (Kd.C_max g1)).rounds
  obtain ⟨ka, hka⟩ := RCheckClues_ev W S l (Kd.C_max g1)
  have hAl : ∃ K, ∀ k, K ≤ k → checkCluesS W S l = 0 → padlockref01_All.f k W S l = some (readingsL S.toNat W.toNat l) := by
    by_cases h : checkCluesS W S l = 0
    · obtain ⟨hl, hm, hv⟩ := checkClues_ok h
      obtain ⟨K, hK⟩ := All_ev hl hv (Kd.C_max g1)
      exact ⟨K, fun k hk _ => hK k hk⟩
    · exact ⟨0, fun k _ h' => absurd h' h⟩
  obtain ⟨kb, hkb⟩ := hAl
  have hi := idleS_len W S l
  have hc := coreS_len W S l
  obtain ⟨hp, hq⟩ := pairS_len W S l
  obtain ⟨⟨i1, i2⟩, hI⟩ : ∃ r, r = idleS W S l := ⟨_, rfl⟩
  obtain ⟨⟨o1, o2⟩, hO⟩ : ∃ r, r = coreS W S l := ⟨_, rfl⟩
  obtain ⟨⟨p1, p2, p3⟩, hP⟩ : ∃ r, r = pairS W S l := ⟨_, rfl⟩
  rw [← hI] at hi hk1
  rw [← hO] at hc hk2
  rw [← hP] at hp hq
  simp only at hi hc hp hq
  obtain ⟨ki, hki⟩ := (SameInts_ev i1 i1 (by omega)).rounds
  obtain ⟨ko, hko⟩ := (SameInts_ev o1 o1 (by omega)).rounds
  obtain ⟨kp, hkp⟩ := (SameInts_ev p1 p1 (by omega)).rounds
  obtain ⟨kq, hkq⟩ := (SameInts_ev p2 p2 (by omega)).rounds
  rw [decide_eq_true rfl] at hki hko hkp hkq
  have HI := Aside0.mk hI
  have HO := Aside0.mk hO
  have HP := Aside0.mk hP
  have hu23 := Try.underlying23
  have K0 := Aside0.mk (blk_new w (.cells #[.int .i64 W, .int .i64 S] 23))
  have HB := Aside0.mk ((Below.refl w.heap.size w).alloc (Nat.le_refl _) (.cells #[.int .i64 W, .int .i64 S] 23))
  have H49 := Aside0.mk (codes_Idle.calls W S A1 c1 l i1 i2 _ (Kd.C_below g1 HB.out) e1 HI.out.symm)
  have H50 := Aside0.mk fun w1 (h1 : Below w.heap.size w w1) => padlockref01_Idle.calls k1 W S A1 c1 l i1 i2 w1 (Kd.C_below g1 h1) e1 hk1
  have H51 := Aside0.mk fun w1 (h1 : Below w.heap.size w w1) => codes_Core.calls W S A1 c1 l o1 o2 w1 (Kd.C_below g1 h1) e1 HO.out.symm
  have H52 := Aside0.mk fun w1 (h1 : Below w.heap.size w w1) => padlockref01_Core.calls k2 W S A1 c1 l o1 o2 w1 (Kd.C_below g1 h1) e1 hk2
  have H53 := Aside0.mk fun w1 (h1 : Below w.heap.size w w1) => codes_Pair.calls W S A1 c1 l p1 p2 p3 w1 (Kd.C_below g1 h1) e1 HP.out.symm
  have H54 := Aside0.mk fun w1 (h1 : Below w.heap.size w w1) => padlockref01_Pair.calls (max ka kb) W S A1 c1 l p1 p2 p3 w1 (Kd.C_below g1 h1) e1 (hka _ (Nat.le_max_left _ _)) (hkb _ (Nat.le_max_right _ _)) HP.out.symm
  have Si := Aside0.mk fun A c A' c' w1 h1 h2 h3 h4 => padlockref01_SameInts.calls ki A c i1 A' c' i1 true w1 h1 h2 h3 h4 hki
  have So := Aside0.mk fun A c A' c' w1 h1 h2 h3 h4 => padlockref01_SameInts.calls ko A c o1 A' c' o1 true w1 h1 h2 h3 h4 hko
  have Sp := Aside0.mk fun A c A' c' w1 h1 h2 h3 h4 => padlockref01_SameInts.calls kp A c p1 A' c' p1 true w1 h1 h2 h3 h4 hkp
  have Sq := Aside0.mk fun A c A' c' w1 h1 h2 h3 h4 => padlockref01_SameInts.calls kq A c p2 A' c' p2 true w1 h1 h2 h3 h4 hkq
  clear hk1 hk2 hka hkb hi hc hp hq hI hO hP hki hko hkp hkq g1
  have hcases : (decide ((8 : Int) < l.length) = true ∧ decide ((l.length : Int) ≤ 20) = true) ∨ decide ((8 : Int) < l.length) = false ∨ (decide ((8 : Int) < l.length) = true ∧ decide ((l.length : Int) ≤ 20) = false) := by
    cases (decide ((8 : Int) < l.length)) <;> cases (decide ((l.length : Int) ≤ 20)) <;> simp
  rcases hcases with ⟨d1, d2⟩ | d1 | ⟨d1, d2⟩
  · go_enter Try.func13, Try.ntmps13
    go_wp2_with (go_at_call 20; refine (padlocklaw01_works.calls true _ rfl).mono ?_; rintro e wz ⟨rfl, hb4⟩)
    go_ret
    exact ⟨rfl, below_then HB.out HB.out.size hb4⟩
  all_goals
    go_enter Try.func13, Try.ntmps13
    go_wp2_with (first
      | (go_at_call 49; refine H49.out.mono ?_; rintro e wa ⟨v, rfl, ho, hb⟩; obtain ⟨Aa, ca, rfl, hla, hca⟩ := Kd.R_reads ho; have HLa := Aside0.mk hla; have HCa := Aside0.mk hca; have HBa := Aside0.mk (below_then HB.out HB.out.size hb); have Ka := Aside0.mk (blk_below K0.out hb); obtain ⟨a0, a1⟩ := cells2 Ka.out; clear hb ho hla hca)
      | (go_at_call 50; refine (H50.out _ HBa.out).mono ?_; rintro e wb ⟨v, rfl, ho, hb⟩; obtain ⟨Ab, cb, rfl, hlb, hcb⟩ := Kd.R_reads ho; have HLb := Aside0.mk hlb; have HCb := Aside0.mk hcb; have HCa2 := Aside0.mk (Kd.C_below HCa.out hb); have HBb := Aside0.mk (below_then HBa.out HBa.out.size hb); have Kb := Aside0.mk (blk_below Ka.out hb); clear hb ho hlb hcb a0 a1)
      | (go_at_call 21; refine (Sq.out _ _ _ _ _ HCq1.out HLe2.out HCq2.out HLf2.out).mono ?_; rintro e wq ⟨rfl, ⟨⟨mq, rfl⟩⟩⟩; have HBq := Aside0.mk (pw_below_drewN HBp.out mq))
      | (go_at_call 21; refine (Sp.out _ _ _ _ _ HCe3.out HLe.out HCf.out HLf.out).mono ?_; rintro e wp ⟨rfl, ⟨⟨mp, rfl⟩⟩⟩; have HBp := Aside0.mk (pw_below_drewN HBf.out mp); have HCq1 := Aside0.mk (Kd.C_drewN HCe4.out mp); have HCq2 := Aside0.mk (Kd.C_drewN HCf2.out mp))
      | (go_at_call 21; refine (So.out _ _ _ _ _ HCc2.out HLc.out HCd.out HLd.out).mono ?_; rintro e wo ⟨rfl, ⟨⟨mo, rfl⟩⟩⟩; have HBo := Aside0.mk (pw_below_drewN HBd.out mo); have Ko := Aside0.mk (blk_drewN Kd_.out mo); obtain ⟨a0, a1⟩ := cells2 Ko.out)
      | (go_at_call 21; refine (Si.out _ _ _ _ _ HCa2.out HLa.out HCb.out HLb.out).mono ?_; rintro e wi ⟨rfl, ⟨⟨mi, rfl⟩⟩⟩; have HBi := Aside0.mk (pw_below_drewN HBb.out mi); have Ki := Aside0.mk (blk_drewN Kb.out mi); obtain ⟨a0, a1⟩ := cells2 Ki.out)
      | (go_at_call 51; refine (H51.out _ HBi.out).mono ?_; rintro e wc ⟨v, rfl, ho, hb⟩; obtain ⟨Ac, cc, rfl, hlc, hcc⟩ := Kd.R_reads ho; have HLc := Aside0.mk hlc; have HCc := Aside0.mk hcc; have HBc := Aside0.mk (below_then HBi.out HBi.out.size hb); have Kc := Aside0.mk (blk_below Ki.out hb); clear a0 a1; obtain ⟨a0, a1⟩ := cells2 Kc.out; clear hb ho hlc hcc)
      | (go_at_call 52; refine (H52.out _ HBc.out).mono ?_; rintro e wd ⟨v, rfl, ho, hb⟩; obtain ⟨Ad, cd_, rfl, hld, hcd⟩ := Kd.R_reads ho; have HLd := Aside0.mk hld; have HCd := Aside0.mk hcd; have HCc2 := Aside0.mk (Kd.C_below HCc.out hb); have HBd := Aside0.mk (below_then HBc.out HBc.out.size hb); have Kd_ := Aside0.mk (blk_below Kc.out hb); clear hb ho hld hcd a0 a1)
      | (go_at_call 53; refine (H53.out _ HBo.out).mono ?_; rintro e we ⟨Ae, ce, Ae2, ce2, rfl, hle, hce, hle2, hce2, hb⟩; have HLe := Aside0.mk hle; have HCe := Aside0.mk hce; have HLe2 := Aside0.mk hle2; have HCe2 := Aside0.mk hce2; have HBe := Aside0.mk (below_then HBo.out HBo.out.size hb); have Ke := Aside0.mk (blk_below Ko.out hb); clear a0 a1; obtain ⟨a0, a1⟩ := cells2 Ke.out; clear hb hle hce hle2 hce2)
      | (go_at_call 54; refine (H54.out _ HBe.out).mono ?_; rintro e wf ⟨Af, cf, Af2, cf2, rfl, hlf, hcf, hlf2, hcf2, hb⟩; have HLf := Aside0.mk hlf; have HCf := Aside0.mk hcf; have HLf2 := Aside0.mk hlf2; have HCf2 := Aside0.mk hcf2; have HCe3 := Aside0.mk (Kd.C_below HCe.out hb); have HCe4 := Aside0.mk (Kd.C_below HCe2.out hb); have HBf := Aside0.mk (below_then HBe.out HBe.out.size hb); clear hb hlf hcf hlf2 hcf2 a0 a1)
      | (go_at_call 20; refine (padlocklaw01_works.calls true _ rfl).mono ?_; rintro e wz ⟨rfl, hb4⟩))
    go_ret
    exact ⟨rfl, below_then (pw_below_drewN HBf.out (mp + mq)) HBf.out.size hb4⟩
end Go.Proofs.Ytimkchehdaadeaa.P
