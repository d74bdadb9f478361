/- Part 52 of a proof: the statement CodesChooses: for every input its law returns true (its texts without what nothing here names). -/
import Derived.Test.YtimkchehdaadeaaZChooses25
import Derived.Test.YtimkchehdaadeaaZChooses33
import Derived.Test.YtimkchehdaadeaaZChooses46
import Derived.Test.YtimkchehdaadeaaZChooses51

section
namespace Go.Proofs.Ytimkchehdaadeaa.P
open Go.RowKit Go.Shelf Go.Proofs.YtimkchehdaadeaaW.PrintWords Go.Proofs.YtimkchehdaadeaaW.PrintLast Go.Proofs.YtimkchehdaadeaaW.PrintMore
set_option linter.unusedVariables false
set_option linter.unusedSimpArgs false
theorem codes_two {s n : Nat} (hn : 1 ≤ n) (hs : 2 ≤ s) : 2 ≤ (allCodes s n).length := by
  unfold allCodes codesN
  rw [List.length_map, List.length_range]
  calc 2 ≤ s := hs
    _ = s ^ 1 := (Nat.pow_one s).symm
    _ ≤ s ^ n := Nat.pow_le_pow_right (by omega) hn
theorem oneT_nil {s n : Nat} (hn : 1 ≤ n) (hs : 2 ≤ s) (l : List S36) : oneT s n l [] = false := by
  unfold oneT
  have e : readingsL s n (pick l []) = allCodes s n := by
    unfold readingsL
    rw [List.filter_eq_self]
    intro c _
    rfl
  rw [e]
  have := codes_two hn hs
  exact beq_eq_false_iff_ne.mpr (by omega)
theorem findN_from0 {s n : Nat} (hn : 1 ≤ n) (hs : 2 ≤ s) (l : List S36) (us : List Nat) (L : Nat) (hu : us.length ≤ L) : findN (fun m => srch (oneT s n l) m [] us) 0 (L + 1) = findN (fun m => srch (oneT s n l) m [] us) 1 us.length := by
  rw [findN_miss (by show srch (oneT s n l) 0 [] us = none; rw [srch_zero, oneT_nil hn hs]; rfl), show L = us.length + (L - us.length) by omega]
  exact findN_add us.length 1 (L - us.length) (fun j h1 h2 => srch_big _ _ _ _ (by omega))
set_option maxHeartbeats 8000000 in
set_option maxRecDepth 100000 in
theorem ref_Choose.calls (W S : Int) (A1 : Option Addr) (c1 : Nat) (l : List S36) (A2 : Option Addr) (c2 : Nat) (code : List Int) (w : World) (g1 : Kd.C k36 w A1 l.length l) (e1 : l.length ≤ c1) (g2 : Kd.C (Kd.int .i64) w A2 code.length code) (e2 : code.length ≤ c2) :
    Calls Try.prog 57 #[.agg #[.int .i64 W, .int .i64 S], .slice A1 l.length c1, .slice A2 code.length c2] w (ChoosePost (chooseS W S l code) w) := by
  have hu23 := Try.underlying23
  have hu36 := Try.underlying36
  have hu24 := Try.underlying24
  have hmx := Kd.C_max g1
  have hmx2 := Kd.C_max g2
  have K0 := Aside0.mk (blk_new w (.cells #[.int .i64 W, .int .i64 S] 23))
  have HB := Aside0.mk ((Below.refl w.heap.size w).alloc (Nat.le_refl _) (.cells #[.int .i64 W, .int .i64 S] 23))
  have G1 := Aside0.mk g1
  have G2 := Aside0.mk g2
  clear g1 g2
  have C25 := Aside0.mk (fun w1 => padlockref01_Check.calls W S _ w1 (RCheck_eq W S))
  obtain ⟨k1, hk1⟩ := (RCheckClues_ev W S l hmx).rounds
  have C34 := Aside0.mk (fun w1 (h1 : Below w.heap.size w w1) => padlockref01_CheckClues.calls k1 W S A1 c1 l _ w1 (Kd.C_below G1.out h1) e1 hk1)
  clear hk1
  by_cases hl : okLock W S
  case neg =>
    have hS : chooseS W S l code = ([], 10) := by unfold chooseS; rw [if_neg hl]
    rw [hS]
    rw [if_neg hl] at C25
    clear hS hl
    go_enter Try.func57, Try.ntmps57
    go_wp2_with (first | (go_at_call 25; refine (C25.out _).mono ?_; rintro e w6 ⟨rfl, h6⟩; have HB6 := Aside0.mk (below_then HB.out HB.out.size h6); clear h6))
    go_ret2
    exact ChoosePost.nil HB6.out
  obtain ⟨k2, hk2⟩ := (isCode_ev W S hl code hmx2).rounds
  have C64 := Aside0.mk (fun w1 (h1 : Below w.heap.size w w1) => padlockref01_isCode.calls k2 W S A2 c2 code _ w1 (Kd.C_below G2.out h1) e2 hk2)
  clear hk2
  rw [if_pos hl] at C25
  by_cases h12 : 12 < l.length
  · have hS : chooseS W S l code = ([], 2) := by unfold chooseS; rw [if_pos hl, if_pos h12]
    have d12 : decide ((12 : Int) < l.length) = true := decide_eq_true (by omega)
    rw [hS]
    clear hS hl h12
    go_enter Try.func57, Try.ntmps57
    go_wp2_with (first | (go_at_call 25; refine (C25.out _).mono ?_; rintro e w6 ⟨rfl, h6⟩; have HB6 := Aside0.mk (below_then HB.out HB.out.size h6); clear h6))
    go_ret2
    exact ChoosePost.nil HB6.out
  have d12 : decide ((12 : Int) < l.length) = false := decide_eq_false (by omega)
  by_cases hch : checkCluesS W S l = 0
  case neg =>
    have hS : chooseS W S l code = ([], checkCluesS W S l) := by unfold chooseS; rw [if_pos hl, if_neg h12, if_neg hch]
    rw [hS]
    have hne : (checkCluesS W S l != 0) = true := bne_iff_ne.mpr hch
    obtain ⟨ex, hex⟩ : ∃ ex, ex = checkCluesS W S l := ⟨_, rfl⟩
    rw [← hex] at C34 hne ⊢
    clear hS hl h12 hex hch
    go_enter Try.func57, Try.ntmps57
    go_wp2_with (first
      | (go_at_call 34; refine (C34.out _ HB6.out).mono ?_; rintro e w7 ⟨rfl, h7⟩; have HB7 := Aside0.mk (below_then HB6.out HB6.out.size h7); clear h7)
      | (go_at_call 25; refine (C25.out _).mono ?_; rintro e w6 ⟨rfl, h6⟩; have HB6 := Aside0.mk (below_then HB.out HB.out.size h6); obtain ⟨b0, b1⟩ := cells2 (blk_below K0.out h6); clear h6))
    go_ret2
    exact ChoosePost.nil HB7.out
  rw [hch] at C34
  by_cases hcd : isCodeB W S code = true
  case neg =>
    have hS : chooseS W S l code = ([], 12) := by unfold chooseS; rw [if_pos hl, if_neg h12, if_pos hch, if_neg hcd]
    have hcd' : isCodeB W S code = false := by simpa using hcd
    rw [hcd'] at C64
    rw [hS]
    clear hS hl h12 hch hcd hcd'
    go_enter Try.func57, Try.ntmps57
    go_wp2_with (first
      | (go_at_call 64; refine (C64.out _ HB7.out).mono ?_; rintro e w8 ⟨rfl, h8⟩; have HB8 := Aside0.mk (below_then HB7.out HB7.out.size h8); clear h8)
      | (go_at_call 34; refine (C34.out _ HB6.out).mono ?_; rintro e w7 ⟨rfl, h7⟩; have HB7 := Aside0.mk (below_then HB6.out HB6.out.size h7); clear b0 b1; obtain ⟨b0, b1⟩ := cells2 (blk_below K6.out h7); clear h7)
      | (go_at_call 25; refine (C25.out _).mono ?_; rintro e w6 ⟨rfl, h6⟩; have HB6 := Aside0.mk (below_then HB.out HB.out.size h6); have K6 := Aside0.mk (blk_below K0.out h6); obtain ⟨b0, b1⟩ := cells2 K6.out; clear h6))
    go_ret2
    exact ChoosePost.nil HB8.out
  rw [hcd] at C64
  obtain ⟨_, _, hv⟩ := checkClues_ok hch
  have hl2 := hl
  obtain ⟨n, s, rfl, rfl, hn1, hn4, hs2, hs10⟩ := lock_nat hl
  have hS : chooseS n s l code = foundS (findN (fun m => srch (oneT s n l) m [] (usable l code l.length)) 1 (usable l code l.length).length) := by unfold chooseS; rw [if_pos hl, if_neg h12, if_pos hch, if_pos hcd]; simp only [Int.toNat_natCast]
  rw [hS]
  have h12' : l.length ≤ 12 := by omega
  have CC := Aside0.mk (fun many w1 (h1 : Below w.heap.size w w1) (hm : many ≤ 20) => ref_choose.calls n s hl2 l hv h12' code hcd A1 c1 A2 c2 e1 e2 many none 0 [] 0 w1 (Kd.C_below G1.out h1) (Kd.C_below G2.out h1) (fun i hi => by cases hi) (Kd.C_nil _ _) (Nat.le_refl _) (Nat.zero_le _) (by simp; omega))
  rw [usf_zero] at CC
  have hf0 := findN_from0 hn1 hs2 l (usable l code l.length) l.length (usable_len l code l.length)
  rw [← hf0]
  obtain ⟨us, hus⟩ : ∃ us, us = usable l code l.length := ⟨_, rfl⟩
  rw [← hus] at CC ⊢
  obtain ⟨o, ho⟩ : ∃ o, o = findN (fun m => srch (oneT s n l) m [] us) 0 (l.length + 1) := ⟨_, rfl⟩
  rw [← ho]
  have HO := Aside0.mk ho
  clear hS hl hl2 h12 hch hcd hv hf0 hus ho
  go_enter Try.func57, Try.ntmps57
  go_wp2_with (first
      | (go_at_call 64; refine (C64.out _ HB7.out).mono ?_; rintro e w8 ⟨rfl, h8⟩; have HB8 := Aside0.mk (below_then HB7.out HB7.out.size h8); have K8 := Aside0.mk (blk_below K7.out h8); clear h8 b0 b1)
      | (go_at_call 34; refine (C34.out _ HB6.out).mono ?_; rintro e w7 ⟨rfl, h7⟩; have HB7 := Aside0.mk (below_then HB6.out HB6.out.size h7); clear b0 b1; have K7 := Aside0.mk (blk_below K6.out h7); obtain ⟨b0, b1⟩ := cells2 K7.out; clear h7)
      | (go_at_call 25; refine (C25.out _).mono ?_; rintro e w6 ⟨rfl, h6⟩; have HB6 := Aside0.mk (below_then HB.out HB.out.size h6); have K6 := Aside0.mk (blk_below K0.out h6); obtain ⟨b0, b1⟩ := cells2 K6.out; clear h6))
  go_loopw [10] (fun v10 wr => ∃ m : Nat, Aside0 (m ≤ l.length + 1) ∧ v10 = .int .i64 m ∧ Aside0 (o = findN (fun m => srch (oneT s n l) m [] us) m (l.length + 1 - m)) ∧ Aside0 (Below w8.heap.size w8 wr)) (fun v10 _ => l.length + 1 - (intOf v10).toNat)
  case atStart => exact ⟨0, ⟨by omega⟩, rfl, HO, ⟨Below.refl _ _⟩⟩
  case round =>
    clear HO
    obtain ⟨m, hm, rfl, HF, HBX⟩ := hrel
    have HBWr := Aside0.mk (HB8.out.trans (HBX.out.mono HB8.out.size))
    by_cases hlt : m ≤ l.length
    · have C87 := Aside0.mk (CC.out m wr HBWr.out (by omega))
      obtain ⟨b0, b1⟩ := cells2 (blk_below K8.out HBX.out)
      obtain ⟨o2, hs⟩ : ∃ o2, srch (oneT s n l) m [] us = o2 := ⟨_, rfl⟩
      rw [hs] at C87
      have hcnt : l.length + 1 - m = (l.length + 1 - (m + 1)) + 1 := by omega
      rcases o2 with _ | b
      · have HF2 := Aside0.mk (HF.out.trans (by rw [hcnt, findN_miss hs]))
        clear hs hcnt
        go_wp2_with (go_at_call 87; refine C87.out.mono ?_; rintro e w9 ⟨A9, c9, r9, rfl, hr9, hl9, hC9, hB9⟩; have HB9 := Aside0.mk (below_then HBX.out HBX.out.size hB9); clear hB9 hr9 hl9 hC9)
        refine ⟨⟨m + 1, ⟨by omega⟩, by go_num, HF2, HB9⟩, ?_⟩
        simp [intOf]; omega
      · have HF2 := Aside0.mk (HF.out.trans (by rw [hcnt, findN_hit hs]))
        clear hs hcnt
        go_wp2_with (go_at_call 87; refine C87.out.mono ?_; rintro e w9 ⟨A9, c9, r9, rfl, hr9, hl9, hC9, hB9⟩; obtain rfl := hr9 b rfl; have HC9 := Aside0.mk hC9; have HL9 := Aside0.mk hl9; have HB9 := Aside0.mk (below_then HBWr.out HBWr.out.size hB9); clear hB9 hr9 hl9 hC9)
        go_ret2
        rw [HF2.out]
        have hcb : (castL b).length = b.length := castL_len b
        refine ⟨A9, c9, by show _ = Ending.returned (.tuple #[.slice A9 (castL b).length c9, .int .i64 0]); rw [hcb]; rfl, by show (castL b).length ≤ c9; rw [hcb]; exact HL9.out, ?_, HB9.out⟩
        show Kd.C (Kd.int .i64) _ A9 (castL b).length (castL b)
        rw [hcb]
        exact HC9.out
    · have hme : m = l.length + 1 := by have := hm.out; omega
      have hF := HF.out
      rw [hme, Nat.sub_self, findN_zero] at hF
      have HF2 := Aside0.mk hF
      have hdm : decide ((m : Int) ≤ l.length) = false := decide_eq_false (by omega)
      clear hF hme
      go_wp2
      go_ret2
      rw [HF2.out]
      exact ChoosePost.nil HBWr.out
end Go.Proofs.Ytimkchehdaadeaa.P
end
section
namespace Go.Proofs.Ytimkchehdaadeaa.P
open Go.RowKit Go.Proofs.YtimkchehdaadeaaW.PrintWords Go.Proofs.YtimkchehdaadeaaW.PrintLast Go.Proofs.YtimkchehdaadeaaW.PrintMore
set_option linter.unusedVariables false
set_option linter.unusedSimpArgs false
theorem vast_l0 (a s : Int) (n : Nat) (hn : n ≤ 1000) (d : Nat) : ∀ (i : Nat) (x : Int), i ≤ n → n - i = d → ∃ k r, padlocklaw01_vast.l0 k a x (i : Int) (n : Int) s = some r := by
  induction d with
  | zero =>
    intro i x h0 h1
    exact ⟨1, _, by unfold padlocklaw01_vast.l0; rw [if_neg (by omega)]⟩
  | succ d ih =>
    intro i x h0 h1
    obtain ⟨k, r, h⟩ := ih (i + 1) (wrap64 (x * s)) (by omega) (by omega)
    exact ⟨k + 1, r, by unfold padlocklaw01_vast.l0; rw [if_pos (by omega), wrap_next (n := 2000) (by omega) (by omega)]; exact h⟩
theorem vast_ends (W S a : Int) : ∃ k r, padlocklaw01_vast.f k W S a = some r := by
  by_cases hl : okLock W S
  · obtain ⟨n, s, rfl, rfl, hn1, hn4, hs2, hs10⟩ := lock_nat hl
    obtain ⟨k, r, h⟩ := vast_l0 a s n (by omega) n 0 1 (by omega) rfl
    exact ⟨k, r, by unfold padlocklaw01_vast.f; rw [RCheck_eq, if_pos hl]; simp only [Option.bind_some, if_true]; exact h⟩
  · exact ⟨0, false, by unfold padlocklaw01_vast.f; rw [RCheck_eq, if_neg hl]; rfl⟩
theorem chooseS_len (W S : Int) (l : List S36) (code : List Int) : (chooseS W S l code).1.length ≤ 100 := by
  unfold chooseS
  split
  case isFalse => simp
  split
  case isTrue => simp
  split
  case isFalse => simp
  split
  case isFalse => simp
  unfold foundS
  split
  case h_2 => simp
  case h_1 h12 _ _ _ b hb =>
    obtain ⟨j, h1, h2, h3, _⟩ := findN_some _ _ _ hb
    obtain ⟨x, rfl, hx, hs, _⟩ := srch_some _ _ _ _ _ h3
    have hul := usable_len l code l.length
    have hsl := hs.length_le
    simp only [castL_len, List.nil_append]
    omega
set_option maxHeartbeats 8000000 in
set_option maxRecDepth 100000 in
theorem CodesChooses_calls (W S : Int) (A1 : Option Addr) (c1 : Nat) (l : List S36) (A2 : Option Addr) (c2 : Nat) (code : List Int) (w : World) (g1 : Kd.C k36 w A1 l.length l) (e1 : l.length ≤ c1) (g2 : Kd.C (Kd.int .i64) w A2 code.length code) (e2 : code.length ≤ c2) :
    Calls Try.prog 14 #[.agg #[.int .i64 W, .int .i64 S], .slice A1 l.length c1, .slice A2 code.length c2] w fun e w' => e = .returned (.bool true) ∧ Below w.heap.size w w' := by
  have hu23 := Try.underlying23
  have hmx := Kd.C_max g1
  have K0 := Aside0.mk (blk_new w (.cells #[.int .i64 W, .int .i64 S] 23))
  have HB := Aside0.mk ((Below.refl w.heap.size w).alloc (Nat.le_refl _) (.cells #[.int .i64 W, .int .i64 S] 23))
  obtain ⟨kv, rv, hvast⟩ := vast_ends W S 300
  have C55 := Aside0.mk (fun w1 => padlocklaw01_vast.calls kv W S 300 rv w1 hvast)
  have C56 := Aside0.mk (fun w1 (h1 : Below w.heap.size w w1) => codes_Choose.calls W S A1 c1 l A2 c2 code w1 (Kd.C_below g1 h1) e1 (Kd.C_below g2 h1) e2)
  have C57 := Aside0.mk (fun w1 (h1 : Below w.heap.size w w1) => ref_Choose.calls W S A1 c1 l A2 c2 code w1 (Kd.C_below g1 h1) e1 (Kd.C_below g2 h1) e2)
  have hlen := chooseS_len W S l code
  obtain ⟨⟨r1, r2⟩, hr⟩ : ∃ r, r = chooseS W S l code := ⟨_, rfl⟩
  rw [← hr] at C56 C57 hlen
  simp only at hlen
  obtain ⟨ks, hks⟩ := (SameInts_ev r1 r1 (by omega)).rounds
  rw [decide_eq_true rfl] at hks
  have C21 := Aside0.mk fun A c A' c' w1 h1 h2 h3 h4 => padlockref01_SameInts.calls ks A c r1 A' c' r1 true w1 h1 h2 h3 h4 hks
  have hq : (r2 == r2) = true := by simp
  clear hvast hr hks g1 g2
  obtain ⟨a0, a1⟩ := cells2 K0.out
  by_cases h7 : 7 < l.length ∧ l.length ≤ 12
  · have d7 : decide ((7 : Int) < l.length) = true := decide_eq_true (by omega)
    have d12 : decide ((l.length : Int) ≤ 12) = true := decide_eq_true (by omega)
    clear h7
    go_enter Try.func14, Try.ntmps14
    go_wp2_with (go_at_call 20; refine (padlocklaw01_works.calls true _ rfl).mono ?_; rintro e wz ⟨rfl, hb4⟩)
    go_ret
    exact ⟨rfl, below_then HB.out HB.out.size hb4⟩
  · have hsplit : (decide ((7 : Int) < l.length) = false) ∨ (decide ((7 : Int) < l.length) = true ∧ decide ((l.length : Int) ≤ 12) = false) := by
      by_cases h : 7 < l.length
      · exact .inr ⟨decide_eq_true (by omega), decide_eq_false (by omega)⟩
      · exact .inl (decide_eq_false (by omega))
    clear h7
    cases rv
    · rcases hsplit with d7 | ⟨d7, d12⟩
      all_goals
        go_enter Try.func14, Try.ntmps14
        go_wp2_with (first
          | (go_at_call 20; refine (padlocklaw01_works.calls true _ rfl).mono ?_; rintro e wz ⟨rfl, hb4⟩)
          | (go_at_call 21; refine (C21.out _ _ _ _ _ (Kd.C_below HC7.out HBL8.out) HL7.out HC8.out HL8.out).mono ?_; rintro e w9 ⟨rfl, hd9⟩; have HB9 := Aside0.mk (below_then HB8.out HB8.out.size hd9.below); clear hd9)
          | (go_at_call 57; refine (C57.out _ HB7.out).mono ?_; rintro e w8 ⟨A8, c8, rfl, hl8, hc8, hb8⟩; simp only at hl8 hc8; have HC8 := Aside0.mk hc8; have HL8 := Aside0.mk hl8; have HBL8 := Aside0.mk hb8; have HB8 := Aside0.mk (below_then HB7.out HB7.out.size hb8); clear hl8 hc8 hb8)
          | (go_at_call 56; refine (C56.out _ HB6.out).mono ?_; rintro e w7 ⟨A7, c7, rfl, hl7, hc7, hb7⟩; simp only at hl7 hc7; have HC7 := Aside0.mk hc7; have HL7 := Aside0.mk hl7; have HB7 := Aside0.mk (below_then HB6.out HB6.out.size hb7); obtain ⟨q0, q1⟩ := cells2 (blk_below K6.out hb7); clear hl7 hc7 hb7 p0 p1)
          | (go_at_call 55; refine (C55.out _).mono ?_; rintro e w6 ⟨rfl, h6⟩; have HB6 := Aside0.mk (below_then HB.out HB.out.size h6); have K6 := Aside0.mk (blk_below K0.out h6); obtain ⟨p0, p1⟩ := cells2 K6.out; clear h6))
        go_ret
        exact ⟨rfl, below_then HB9.out HB9.out.size hb4⟩
    · rcases hsplit with d7 | ⟨d7, d12⟩
      all_goals
        go_enter Try.func14, Try.ntmps14
        go_wp2_with (first
          | (go_at_call 20; refine (padlocklaw01_works.calls true _ rfl).mono ?_; rintro e wz ⟨rfl, hb4⟩)
          | (go_at_call 55; refine (C55.out _).mono ?_; rintro e w6 ⟨rfl, h6⟩; have HB6 := Aside0.mk (below_then HB.out HB.out.size h6); clear h6))
        go_ret
        exact ⟨rfl, below_then HB6.out HB6.out.size hb4⟩
end Go.Proofs.Ytimkchehdaadeaa.P
end
