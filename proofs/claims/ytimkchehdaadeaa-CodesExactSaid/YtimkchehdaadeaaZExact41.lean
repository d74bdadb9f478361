/- Part 41 of a proof: the statement CodesExact: for every input its law returns true (its texts without what nothing here names). -/
import Derived.Test.YtimkchehdaadeaaZExact27
import Derived.Test.YtimkchehdaadeaaZExact29
import Derived.Test.YtimkchehdaadeaaZExact38
import Derived.Test.YtimkchehdaadeaaZExact39
import Derived.Test.YtimkchehdaadeaaZExact40

namespace Go.Proofs.Ytimkchehdaadeaa.P
open Go.RowKit Go.Proofs.YtimkchehdaadeaaW.PrintWords Go.Proofs.YtimkchehdaadeaaW.PrintLast Go.Proofs.YtimkchehdaadeaaW.PrintMore
set_option linter.unusedVariables false
set_option linter.unusedSimpArgs false
attribute [local go_sem] max2_int min2_int max_two min_two max_three min_three max_four min_four
theorem ex_add (a b N : Nat) (h : a + b = N) (hb : N ≤ 10000) : wrap64 ((a : Int) + (b : Int)) = (N : Int) := by rw [wrap_small (by omega) (by omega)]; omega
theorem ex_min (al T : List (List Int)) (h : T = al.take 64) : ((T.length : Int) != if (64 : Int) < (al.length : Int) then 64 else (al.length : Int)) = false := by
  rw [h, List.length_take]
  split <;> simp <;> omega
theorem ex_len (z : List Int) (n : Nat) (hn : n ≤ 4) (h : (z.length : Int) = n) : z.length ≤ 9223372036854775807 := by omega
theorem ex_sub (i j : Nat) (h : j = i - 1) (h0 : 0 < i) (hb : i ≤ 100000) : wrap64 ((i : Int) - 1) = (j : Int) := by rw [wrap_small (by omega) (by omega)]; omega
theorem ex_sorted (al T : List (List Int)) (hs : al.Pairwise (fun a b => lexLt a b = true)) (hT : T = al.take 64) (j : Nat) (h : j + 1 < T.length) : lexLt (T[j]'(by omega)) (T[j + 1]'h) = true := by
  subst hT
  exact sorted_next hs j h
theorem ex_next (T : List (List Int)) (c : List Int) (i : Nat) (h : i < T.length) : decide (c ∈ T.take (i + 1)) = (decide (c ∈ T.take i) || decide (T[i] = c)) := by
  rw [List.take_succ_eq_append_getElem h, Bool.eq_iff_iff]
  simp only [decide_eq_true_eq, Bool.or_eq_true, List.mem_append, List.mem_singleton]
  exact ⟨fun h => h.imp id Eq.symm, fun h => h.imp id Eq.symm⟩
theorem ex_core (al T : List (List Int)) (hs : al.Pairwise (fun a b => lexLt a b = true)) (hT : T = al.take 64) (c : List Int) (isb b : Bool) (h1 : isb = true ↔ c ∈ al) (h2 : b = decide (c ∈ T)) :
    (T.length < al.length → T.length = 64 ∧ ∀ (j : Nat) (h : j < T.length), j = 63 → (isb = false ∧ b = false) ∨ (isb = true ∧ b = true) ∨ (isb = true ∧ b = false ∧ lexLt c T[j] = false)) ∧ (¬ T.length < al.length → (isb = false ∧ b = false) ∨ (isb = true ∧ b = true)) := by
  have hsub : c ∈ T → c ∈ al := fun h => List.mem_of_mem_take (hT ▸ h)
  constructor
  · intro hlt
    have h64 : 64 < al.length ∧ T.length = 64 := by
      rw [hT, List.length_take] at hlt
      rw [hT, List.length_take]; omega
    refine ⟨h64.2, fun j hj hj63 => ?_⟩
    subst hj63
    cases isb with
    | false =>
      refine .inl ⟨rfl, ?_⟩
      rw [h2]
      exact decide_eq_false fun h => by have := h1.2 (hsub h); cases this
    | true =>
      by_cases hc : c ∈ T
      · exact .inr (.inl ⟨rfl, by rw [h2]; exact decide_eq_true hc⟩)
      · refine .inr (.inr ⟨rfl, by rw [h2]; exact decide_eq_false hc, ?_⟩)
        have := beyond_last hs (h1.1 rfl) (by rw [← hT]; exact hc) h64.1
        have e : T[63] = al[63]'(by omega) := by subst hT; simp
        rw [e]; exact this
  · intro hlt
    have hTa : T = al := by
      rw [hT, List.take_of_length_le]
      rw [hT, List.length_take] at hlt; omega
    rw [hTa] at h2
    cases isb with
    | false => exact .inl ⟨rfl, by rw [h2]; exact decide_eq_false fun h => by have := h1.2 h; cases this⟩
    | true => exact .inr ⟨rfl, by rw [h2]; exact decide_eq_true (h1.1 rfl)⟩
theorem ex_le (a b N : Nat) (h : a + b = N) : ¬ (N < a) := by omega
theorem cells8 {w : World} {g : Nat} {t : TypeId} {a0 a1 a2 a3 a4 a5 a6 a7 : Value} (h : w.heap[g]? = some (.cells #[a0, a1, a2, a3, a4, a5, a6, a7] t (0, 0))) :
    w.cell? ⟨g, 0, none⟩ = some a0 ∧ w.cell? ⟨g, 1, none⟩ = some a1 ∧ w.cell? ⟨g, 2, none⟩ = some a2 ∧ w.cell? ⟨g, 3, none⟩ = some a3 ∧ w.cell? ⟨g, 4, none⟩ = some a4 ∧ w.cell? ⟨g, 5, none⟩ = some a5 ∧ w.cell? ⟨g, 6, none⟩ = some a6 ∧ w.cell? ⟨g, 7, none⟩ = some a7 :=
  ⟨(blk_cell h 0).trans rfl, (blk_cell h 1).trans rfl, (blk_cell h 2).trans rfl, (blk_cell h 3).trans rfl, (blk_cell h 4).trans rfl, (blk_cell h 5).trans rfl, (blk_cell h 6).trans rfl, (blk_cell h 7).trans rfl⟩
set_option maxHeartbeats 8000000 in
set_option maxRecDepth 100000 in
theorem CodesExact_calls (W S : Int) (A1 : Option Addr) (c1 : Nat) (l : List S36) (y : S36) (A2 : Option Addr) (c2 : Nat) (A3 : Option Addr) (c3 : Nat) (cd : List Int) (w : World) (g1 : Kd.C k36 w A1 l.length l) (e1 : l.length ≤ c1) (g2 : Kd.C (Kd.int .i64) w A2 y.f5.length y.f5) (e2 : y.f5.length ≤ c2) (g3 : Kd.C (Kd.int .i64) w A3 cd.length cd) (e3 : cd.length ≤ c3) :
    Calls Try.prog 8 #[.agg #[.int .i64 W, .int .i64 S], .slice A1 l.length c1, .agg #[.int .i64 y.f0, .int .i64 y.f1, .int .i64 y.f2, .int .i64 y.f3, .int .i64 y.f4, .slice A2 y.f5.length c2, .bool y.f6, .slice A3 cd.length c3]] w fun e w' => e = .returned (.bool true) ∧ Below w.heap.size w w' := by
  have hu23 := Try.underlying23
  have hu36 := Try.underlying36
  have hu47 := Try.underlying47
  obtain ⟨k34, hk34⟩ := (RCheckClues_ev W S l (Kd.C_max g1)).rounds
  obtain ⟨k29, hk29⟩ := (RCheckCode_ev W S cd (Kd.C_max g3)).rounds
  have K0 := Aside0.mk (blk_alloc (blk_new w (.cells #[.int .i64 W, .int .i64 S] 23)) (.cells #[.int .i64 y.f0, .int .i64 y.f1, .int .i64 y.f2, .int .i64 y.f3, .int .i64 y.f4, .slice A2 y.f5.length c2, .bool y.f6, .slice A3 cd.length c3] 47))
  have K1 := blk_new (w.alloc (.cells #[.int .i64 W, .int .i64 S] 23)) (.cells #[.int .i64 y.f0, .int .i64 y.f1, .int .i64 y.f2, .int .i64 y.f3, .int .i64 y.f4, .slice A2 y.f5.length c2, .bool y.f6, .slice A3 cd.length c3] 47)
  rw [World.size_alloc] at K1
  have K1 := Aside0.mk K1
  have HB := Aside0.mk (((Below.refl w.heap.size w).alloc (Nat.le_refl _) (.cells #[.int .i64 W, .int .i64 S] 23)).alloc (by simp) (.cells #[.int .i64 y.f0, .int .i64 y.f1, .int .i64 y.f2, .int .i64 y.f3, .int .i64 y.f4, .slice A2 y.f5.length c2, .bool y.f6, .slice A3 cd.length c3] 47))
  have G1 := Aside0.mk g1
  have G2 := Aside0.mk g2
  have G3 := Aside0.mk g3
  clear g1 g2 g3
  have H34 := Aside0.mk fun w1 (h1 : Below w.heap.size w w1) => padlockref01_CheckClues.calls k34 W S A1 c1 l _ w1 (Kd.C_below G1.out h1) e1 hk34
  have H27 := Aside0.mk fun w1 (h1 : Below w.heap.size w w1) => padlockref01_CheckClue.calls W S y.f0 y.f1 y.f2 y.f3 y.f4 A2 c2 y.f5 y.f6 _ w1 (Kd.C_below G2.out h1) e2 (RCheckClue_eq W S y)
  have H29 := Aside0.mk fun w1 (h1 : Below w.heap.size w w1) => padlockref01_CheckCode.calls k29 W S A3 c3 cd _ w1 (Kd.C_below G3.out h1) e3 hk29
  clear hk34 hk29
  have hcases : ((checkCluesS W S l != 0) = true) ∨ ((checkCluesS W S l != 0) = false ∧ (checkClueS W S y != 0) = true) ∨ ((checkCluesS W S l != 0) = false ∧ (checkClueS W S y != 0) = false ∧ decide ((20 : Int) ≤ l.length) = true) ∨ ((checkCluesS W S l != 0) = false ∧ (checkClueS W S y != 0) = false ∧ decide ((20 : Int) ≤ l.length) = false) := by
    cases (checkCluesS W S l != 0) <;> cases (checkClueS W S y != 0) <;> cases (decide ((20 : Int) ≤ l.length)) <;> simp
  rcases hcases with d1 | ⟨d1, d2⟩ | ⟨d1, d2, d3⟩ | ⟨d1, d2, d3⟩
  case inr.inr.inr =>
    have hch : checkCluesS W S l = 0 := by simpa using d1
    have hcc : checkClueS W S y = 0 := by simpa using d2
    have hlen : l.length < 20 := by have := of_decide_eq_false d3; omega
    obtain ⟨hl, hm, hv⟩ := checkClues_ok hch
    have hvy : validC W S y = true := by
      unfold checkClueS at hcc
      rw [if_pos hl] at hcc
      by_cases h : validC W S y = true
      · exact h
      · rw [if_neg h] at hcc; cases hcc
    obtain ⟨n, s, rfl, rfl, hw1, hw4, hs2, hs10⟩ := lock_nat hl
    rw [hch] at H34 d1
    rw [hcc] at H27 d2
    have hs0 : 0 < s := by omega
    obtain ⟨al, hal⟩ : ∃ al, al = readingsL s n l := ⟨_, rfl⟩
    have hmem : ∀ c, isCodeB (n : Int) (s : Int) c = true → (fitsAll l c = true ↔ c ∈ al) := fun c h1 => by
      rw [hal]; exact ⟨fun h2 => List.mem_filter.2 ⟨mem_allCodes (by omega) h1, h2⟩, fun h2 => (List.mem_filter.1 h2).2⟩
    have hsort := hal ▸ readings_sorted (n := n) hs0 l
    have hbig : al.length ≤ 10000 := hal ▸ Nat.le_trans (List.length_filter_le _ _) (codes_many hw4 hs10)
    have hall : ∀ c ∈ al, isCodeB (n : Int) (s : Int) c = true := fun c hc => allCodes_isCode hs0 (List.mem_filter.1 (hal ▸ hc)).1
    have hcnt : countS n s l = ((al.length : Int), 0) := by unfold countS; rw [if_pos hch]; simp only [Int.toNat_natCast]; rw [hal]
    have hcq : ∀ q, validC (n : Int) (s : Int) q = true → codes_Count.f (n : Int) (s : Int) (l ++ [q]) = some ((((al.filter (holdsC q)).length : Nat) : Int), 0) := fun q hq => by
      rw [Count_eq]; unfold countS
      rw [if_pos (checkClues_snoc hch hlen hq)]
      simp only [Int.toNat_natCast]
      rw [readings_snoc, hal]
    have hread : readS n s l 64 = (al.take 64, 0) := by
      unfold readS
      rw [if_pos hch, if_pos (by decide)]
      simp only [Int.toNat_natCast]
      rw [hal]; rfl
    have hfit : ∀ c, isCodeB (n : Int) (s : Int) c = true → fitsS (n : Int) (s : Int) l c = (idxI (fun q => !holdsC q c) l, fitsAll l c, 0) := fun c h => fitsS_code hch h
    have hfit1 : ∀ c ∈ al, fitsS (n : Int) (s : Int) l c = (-1, true, 0) := fun c hc => by
      have h1 := hall c hc
      have h2 := (hmem c h1).2 hc
      rw [hfit c h1, h2, idxI_miss]
      intro q hq
      unfold fitsAll at h2
      rw [Bool.not_eq_true', List.any_eq_false] at h2
      simpa using h2 q hq
    obtain ⟨T, hT⟩ : ∃ T, T = al.take 64 := ⟨_, rfl⟩
    rw [← hT] at hread
    have hmn := ex_min al T hT
    have HT := Aside0.mk hT
    have hTm : ∀ c ∈ T, c ∈ al := fun c hc => List.mem_of_mem_take (hT ▸ hc)
    have HTM := Aside0.mk hTm
    have htl : T.length ≤ 64 := by rw [hT, List.length_take]; omega
    have HSX : Aside0 (∀ (j : Nat) (h : j + 1 < T.length), lexLt (T[j]'(by omega)) (T[j + 1]'h) = true) := ⟨ex_sorted al T hsort hT⟩
    have HL := Aside0.mk hl
    clear hT hTm
    have H35 := Aside0.mk fun w1 (h1 : Below w.heap.size w w1) => codes_Count.calls n s A1 c1 l _ _ w1 (Kd.C_below G1.out h1) e1 ((Count_eq n s l).trans (congrArg some hcnt))
    have H35q := Aside0.mk fun A c w1 hC hle => codes_Count.calls n s A c (l ++ [y]) _ _ w1 hC hle (hcq y hvy)
    have H35n := Aside0.mk fun A c w1 hC hle => codes_Count.calls n s A c (l ++ [notC y]) _ _ w1 hC hle (hcq (notC y) (valid_not hvy))
    have H36 := Aside0.mk fun w1 (h1 : Below w.heap.size w w1) => codes_Readings.calls n s A1 c1 l 64 _ _ w1 (Kd.C_below G1.out h1) e1 hread
    have H22a := Aside0.mk fun c (hc : c ∈ al) A cc w1 (h1 : Below w.heap.size w w1) hC hle => codes_Fits.calls n s A1 c1 l A cc c (-1) true 0 w1 (Kd.C_below G1.out h1) e1 hC hle (by rw [Fits_eq, hfit1 c hc])
    have hsp := split_not al y
    obtain ⟨nw, hnw⟩ : ∃ nw, nw = (al.filter (holdsC y)).length := ⟨_, rfl⟩
    obtain ⟨no, hno⟩ : ∃ no, no = (al.filter (holdsC (notC y))).length := ⟨_, rfl⟩
    rw [← hnw] at H35q hsp
    rw [← hno] at H35n hsp
    have HLEN := Aside0.mk hlen
    have HSORT := Aside0.mk hsort
    have HALL := Aside0.mk hall
    have HMEM := Aside0.mk hmem
    have HFIT := Aside0.mk hfit
    have hadd := ex_add nw no al.length hsp hbig
    have hle8 := ex_le nw no al.length hsp
    have HBIG := Aside0.mk hbig
    clear hch hcc hlen hl hm hv hvy hal hmem hsort hall hcnt hcq hread hfit hfit1 hsp hnw hno hbig
    go_enter Try.func8, Try.ntmps8
    go_wp2_with (first
      | (go_at_call 34; refine (H34.out _ HB.out).mono ?_; rintro e wa ⟨rfl, hb⟩; have HBa := Aside0.mk (below_then HB.out HB.out.size hb); have K0a := Aside0.mk (blk_below K0.out hb); have K1a := Aside0.mk (blk_below K1.out hb); obtain ⟨a0, a1⟩ := cells2 K0a.out; obtain ⟨b0, b1, b2, b3, b4, b5, b6, b7⟩ := cells8 K1a.out; clear hb)
      | (go_at_call 27; refine (H27.out _ HBa.out).mono ?_; rintro e wb ⟨rfl, hb⟩; have HBb := Aside0.mk (below_then HBa.out HBa.out.size hb); have K0b := Aside0.mk (blk_below K0a.out hb); have K1b := Aside0.mk (blk_below K1a.out hb); clear a0 a1 b0 b1 b2 b3 b4 b5 b6 b7; obtain ⟨b0, b1, b2, b3, b4, b5, b6, b7⟩ := cells8 K1b.out; have K0c := Aside0.mk (blk_alloc K0b.out (.cells #[.int .i64 y.f0, .int .i64 y.f1, .int .i64 y.f2, .int .i64 y.f3, .int .i64 y.f4, .slice A2 y.f5.length c2, .bool (!y.f6)] 36)); have K1c := Aside0.mk (blk_alloc K1b.out (.cells #[.int .i64 y.f0, .int .i64 y.f1, .int .i64 y.f2, .int .i64 y.f3, .int .i64 y.f4, .slice A2 y.f5.length c2, .bool (!y.f6)] 36)); have K2c := Aside0.mk (blk_new wb (.cells #[.int .i64 y.f0, .int .i64 y.f1, .int .i64 y.f2, .int .i64 y.f3, .int .i64 y.f4, .slice A2 y.f5.length c2, .bool (!y.f6)] 36)); obtain ⟨a0, a1⟩ := cells2 K0c.out; have HBc := Aside0.mk (HBb.out.alloc HBb.out.size (.cells #[.int .i64 y.f0, .int .i64 y.f1, .int .i64 y.f2, .int .i64 y.f3, .int .i64 y.f4, .slice A2 y.f5.length c2, .bool (!y.f6)] 36)); clear hb)
      | (go_at_call 35; refine (H35.out _ HBc.out).mono ?_; rintro e wc ⟨rfl, hb⟩; have HBd := Aside0.mk (below_then HBc.out HBc.out.size hb); have K0d := Aside0.mk (blk_below K0c.out hb); have K1d := Aside0.mk (blk_below K1c.out hb); have K2d := Aside0.mk (blk_below K2c.out hb); clear hb a0 a1 b0 b1 b2 b3 b4 b5 b6 b7))
    obtain ⟨nb, hnb⟩ : ∃ nb, nb = wb.heap.size := ⟨_, rfl⟩
    rw [← hnb] at K2d ⊢
    clear hnb K0a K1a K0b K1b K0c K1c K2c HBa HBb HBc
    refine start_ (n := 13) (S := fun w' => w'.heap[w.heap.size]? = some (.cells #[.int .i64 (n : Int), .int .i64 (s : Int)] 23 (0, 0)) ∧ w'.heap[w.heap.size + 1]? = some (.cells #[.int .i64 y.f0, .int .i64 y.f1, .int .i64 y.f2, .int .i64 y.f3, .int .i64 y.f4, .slice A2 y.f5.length c2, .bool y.f6, .slice A3 cd.length c3] 47 (0, 0)) ∧ w'.heap[nb]? = some (.cells #[.int .i64 y.f0, .int .i64 y.f1, .int .i64 y.f2, .int .i64 y.f3, .int .i64 y.f4, .slice A2 y.f5.length c2, .bool (!y.f6)] 36 (0, 0))) (ds := []) #[false, false, false, false, false, false, false, false, false, false, false, false, false] (by kernel_rfl) rfl rfl ⟨K0d.out, K1d.out, K2d.out⟩ (fun hHeld => ?_)
    have GD := Aside0.mk (Kd.C_F k36_heap (Kd.C_drew (Kd.C_below G1.out HBd.out)))
    have QF := Aside0.mk (k36_mkF wc.drew _ y e2 (Kd.C_F (Kd.heap_int .i64) (Kd.C_drew (Kd.C_below G2.out HBd.out))))
    have SB := Aside0.mk fun w' (h : Below wc.drew.heap.size wc.drew w') => And.intro ((h.block _ (blk_lt hHeld.1)).trans hHeld.1) (And.intro ((h.block _ (blk_lt hHeld.2.1)).trans hHeld.2.1) ((h.block _ (blk_lt hHeld.2.2)).trans hHeld.2.2))
    have HBe := Aside0.mk (below_drew1 HBd.out)
    generalize wc.drew = wd at hHeld HBe GD QF SB ⊢
    refine take_ (i := 0) (N := some 54) (v := ?_) (a' := ?_) #[true, false, false, false, false, false, false, false, false, false, false, false, false] rfl rfl (by kernel_rfl) (fun _ _ _ h => h) (Or.inl ⟨by rfl, ?_⟩) hHeld ?_ ?_
    rotate_left
    · rintro w' ⟨s0, s1, s2⟩
      obtain ⟨t0, t1⟩ := cells2 s0
      obtain ⟨u0, u1, u2, u3, u4, u5, u6, u7⟩ := cells8 s1
      obtain ⟨v0, v1, v2, v3, v4, v5, v6⟩ := cells7 s2
      go_simp
      with_reducible rfl
    rotate_left
    · simp only [Act.put, List.setIfInBounds_toArray, List.set_cons_zero, List.set_cons_succ, i64_w, i32_w]
      rfl
    refine pure_ (i := 1) (N := some 55) (v := ?_) (a' := ?_) #[true, true, false, false, false, false, false, false, false, false, false, false, false] rfl rfl (by kernel_rfl) (fun _ _ _ h => h) (Or.inl ⟨by rfl, ?_⟩) ?_ ?_
    rotate_left
    · intro w'
      go_simp
      with_reducible rfl
    rotate_left
    · simp only [Act.put, List.setIfInBounds_toArray, List.set_cons_zero, List.set_cons_succ, i64_w, i32_w]
      rfl
    refine pure_ (i := 3) (N := some 57) (v := ?_) (a' := ?_) #[true, true, false, true, false, false, false, false, false, false, false, false, false] rfl rfl (by kernel_rfl) (fun _ _ _ h => h) (Or.inl ⟨by rfl, ?_⟩) ?_ ?_
    rotate_left
    · intro w'
      go_simp
      with_reducible rfl
    rotate_left
    · simp only [Act.put, List.setIfInBounds_toArray, List.set_cons_zero, List.set_cons_succ, i64_w, i32_w]
      rfl
    refine take_ (i := 4) (N := some 58) (v := ?_) (a' := ?_) #[true, true, false, true, true, false, false, false, false, false, false, false, false] rfl rfl (by kernel_rfl) (fun _ _ _ h => h) (Or.inl ⟨by rfl, ?_⟩) hHeld ?_ ?_
    rotate_left
    · rintro w' ⟨s0, s1, s2⟩
      obtain ⟨t0, t1⟩ := cells2 s0
      obtain ⟨u0, u1, u2, u3, u4, u5, u6, u7⟩ := cells8 s1
      obtain ⟨v0, v1, v2, v3, v4, v5, v6⟩ := cells7 s2
      go_simp
      with_reducible rfl
    rotate_left
    · simp only [Act.put, List.setIfInBounds_toArray, List.set_cons_zero, List.set_cons_succ, i64_w, i32_w]
      rfl
    refine join_ (σ := Value × Value × Option Addr × Nat) 6 #[true, true, true, true, true, true, true, false, false, false, false, false, false] (fun s => [(56, s.1), (59, s.2.1), (60, .slice s.2.2.1 (l ++ [y] : List S36).length s.2.2.2)]) (fun s w' => (l ++ [y] : List S36).length ≤ s.2.2.2 ∧ Kd.C k36 w' s.2.2.1 (l ++ [y] : List S36).length (l ++ [y] : List S36) ∧ Below wd.heap.size wd w') ?_ ?_
    rotate_left
    · intro hcont
      refine two_ (i := 2) (j := 5) (Ni := some 56) (Nj := some 59) #[true, true, true, true, true, false, false, false, false, false, false, false, false] #[true, true, false, true, true, true, false, false, false, false, false, false, false] rfl rfl rfl rfl (by kernel_rfl) (by decide) (by decide) (fun K hK => ?_) (fun K hK => ?_)
      · refine Kd.N_append_rows_step k36 (w0 := wd) (W := wd) wd.heap.size rfl (.const (.slice none 0 0)) (.tmp 55) 31 36 _ 72 rfl Try.underlying31 info36 rfl (by decide) (by omega) (.slice none 0 0) [] l A1 l.length c1 (fun _ => True) (fun k => k < wd.heap.size) rfl rfl (Kd.N_nil _ _ _ _ _) GD.out (fun k _ => ⟨trivial, by simp [Value.ownBlock]⟩) (fun _ _ => trivial) (Below.refl _ _) (Nat.le_refl _) (by have := HLEN.out; simp; omega) ?_
        intro v1 w6 hN1 hB6 hg6 hat6
        rw [List.nil_append] at hN1
        have hown : ∀ k, k < wd.heap.size → True ∧ some k ≠ v1.ownBlock := fun k hk => ⟨trivial, fun e => by
          rcases hat6 with h | ⟨b, h, hb⟩
          · rw [h] at e; simp [Value.ownBlock] at e
          · rw [h] at e; injection e with e; omega⟩
        refine hK.out _ _ (SB.out _ hB6) (fun hHeld => ?_)
        clear hK K hat6 hg6
        obtain ⟨Aa, ca_, rfl⟩ := Kd.N_slice hN1
        refine one_ (i := 5) (N := some 59) #[true, true, true, true, true, true, false, false, false, false, false, false, false] rfl rfl (by kernel_rfl) (by decide) (fun K hK => ?_)
        rw [if_pos (by rfl)]
        go_simp
        refine hK.out _ _ (SB.out _ (hB6.alloc hB6.size _)) (fun hHeld => ?_)
        clear hK K
        refine one_ (i := 6) (N := some 60) #[true, true, true, true, true, true, true, false, false, false, false, false, false] rfl rfl (by kernel_rfl) (by decide) (fun K hK => ?_)
        refine Kd.N_append_step k36 (w0 := wd) (W := w6) wd.heap.size rfl (.tmp 56) (.tmp 59) 31 36 _ 72 rfl Try.underlying31 info36 rfl (by decide) (by omega) _ l y _ (fun _ => True) (fun k => k < wd.heap.size) rfl rfl (Kd.FK_step QF.out (fun k _ hk => hB6.block k hk)) hown (fun _ _ => trivial) hN1 hB6 hB6.size (by have := HLEN.out; omega) ?_
        intro v2 w7 hN2 hB7 hg7 hat7
        obtain ⟨A7, c7, rfl, hl7, hC7⟩ := Kd.N_reads hN2
        refine hK.out _ _ (SB.out _ hB7) (fun _ => ?_)
        exact norm_ rfl (hcont (.slice Aa l.length ca_, .slice (some ⟨w6.heap.size, 0, none⟩) 1 1, A7, c7) w7 ⟨hl7, hC7, hB7⟩)
      · rw [if_pos (by rfl)]
        go_simp
        have hBb := (Below.refl wd.heap.size wd).alloc (Nat.le_refl _) (.cells [.int .i64 y.f0, .int .i64 y.f1, .int .i64 y.f2, .int .i64 y.f3, .int .i64 y.f4, .slice A2 y.f5.length c2, .bool y.f6].toArray 36)
        refine hK.out _ _ (SB.out _ hBb) (fun hHeld => ?_)
        clear hK K
        refine one_ (i := 2) (N := some 56) #[true, true, true, true, true, true, false, false, false, false, false, false, false] rfl rfl (by kernel_rfl) (by decide) (fun K hK => ?_)
        refine Kd.N_append_rows_step k36 (w0 := wd) wd.heap.size rfl (.const (.slice none 0 0)) (.tmp 55) 31 36 _ 72 rfl Try.underlying31 info36 rfl (by decide) (by omega) (.slice none 0 0) [] l A1 l.length c1 (fun _ => True) (fun k => k < wd.heap.size) rfl rfl (Kd.N_nil _ _ _ _ _) (Kd.F_alloc GD.out _) (fun k _ => ⟨trivial, by simp [Value.ownBlock]⟩) (fun _ _ => trivial) hBb (by simp) (by have := HLEN.out; simp; omega) ?_
        intro v1 w6 hN1 hB6 hg6 hat6
        rw [List.nil_append] at hN1
        have hown : ∀ k, k < wd.heap.size + 1 → True ∧ some k ≠ v1.ownBlock := fun k hk => ⟨trivial, fun e => by
          rcases hat6 with h | ⟨b, h, hb⟩
          · rw [h] at e; simp [Value.ownBlock] at e
          · rw [h] at e; injection e with e; rw [World.size_alloc] at hb; omega⟩
        have hrow : Kd.F k36 w6 (fun k => k < wd.heap.size + 1) (some ⟨wd.heap.size, 0, none⟩) 1 [y] := F_one ((hg6.block _ (by simp) (by simp [Value.ownBlock])).trans (blk_new wd _)) (by omega) (by have := hB6.size; have := hg6.size; simp at this; omega) (Kd.FK_mono (Kd.FK_step QF.out (fun k _ hk => hB6.block k hk)) (fun k hk => by omega))
        refine hK.out _ _ (SB.out _ hB6) (fun hHeld => ?_)
        clear hK K hat6 hg6
        obtain ⟨Aa, ca_, rfl⟩ := Kd.N_slice hN1
        refine one_ (i := 6) (N := some 60) #[true, true, true, true, true, true, true, false, false, false, false, false, false] rfl rfl (by kernel_rfl) (by decide) (fun K hK => ?_)
        refine Kd.N_append_rows_step k36 (w0 := wd) (W := w6) wd.heap.size rfl (.tmp 56) (.tmp 59) 31 36 _ 72 rfl Try.underlying31 info36 rfl (by decide) (by omega) _ l [y] (some ⟨wd.heap.size, 0, none⟩) 1 1 (fun _ => True) (fun k => k < wd.heap.size + 1) rfl rfl hN1 hrow hown (fun _ _ => trivial) hB6 hB6.size (by have := HLEN.out; omega) ?_
        intro v2 w7 hN2 hB7 hg7 hat7
        obtain ⟨A7, c7, rfl, hl7, hC7⟩ := Kd.N_reads hN2
        refine hK.out _ _ (SB.out _ hB7) (fun _ => ?_)
        exact norm_ rfl (hcont (.slice Aa l.length ca_, .slice (some ⟨wd.heap.size, 0, none⟩) 1 1, A7, c7) w7 ⟨hl7, hC7, hB7⟩)
    rintro ⟨v1, vb, A7, c7⟩ w7 ⟨hl7, hC7, hB7⟩
    have hHeld := SB.out _ hB7
    refine norm_ (a' := ?_) ?_ ?_
    rotate_left
    · show putAll _ _ = _
      simp only [putAll, Act.put, List.setIfInBounds_toArray, List.set_cons_zero, List.set_cons_succ, i64_w, i32_w]
      rfl
    refine one_ (i := 7) (N := some 61) #[true, true, true, true, true, true, true, true, false, false, false, false, false] rfl rfl (by kernel_rfl) (by decide) (fun K hK => ?_)
    refine goes_ Try.func35 (by kernel_rfl) rfl #[.agg #[.int .i64 (n : Int), .int .i64 (s : Int)], .slice A7 (l ++ [y] : List S36).length c7] (by rfl) rfl rfl (by (try simp only [List.map_toArray, List.map_cons, List.map_nil]); first | done | rfl) ?_
    refine (H35q.out _ _ _ hC7 hl7).mono ?_
    rintro e w8 ⟨rfl, h8⟩
    refine ⟨_, rfl, ?_⟩
    have HB8 := Aside0.mk (below_then (below_then HBe.out HBe.out.size hB7) (Nat.le_trans HBe.out.size hB7.size) h8)
    refine hK.out _ _ ⟨(h8.block _ (blk_lt hHeld.1)).trans hHeld.1, (h8.block _ (blk_lt hHeld.2.1)).trans hHeld.2.1, (h8.block _ (blk_lt hHeld.2.2)).trans hHeld.2.2⟩ (fun hHeld => ?_)
    clear hK K
    refine norm_ (a' := ?_) ?_ ?_
    rotate_left
    · show Act.put _ (some 61) _ = _
      simp only [Act.put, List.setIfInBounds_toArray, List.set_cons_zero, List.set_cons_succ, i64_w, i32_w]
      rfl
    refine pure_ (i := 8) (N := some 53) (v := ?_) (a' := ?_) #[true, true, true, true, true, true, true, true, true, false, false, false, false] rfl rfl (by kernel_rfl) (fun _ _ _ h => h) (Or.inl ⟨by rfl, ?_⟩) ?_ ?_
    rotate_left
    · intro w'
      go_simp
      with_reducible rfl
    rotate_left
    · simp only [Act.put, List.setIfInBounds_toArray, List.set_cons_zero, List.set_cons_succ, i64_w, i32_w]
      rfl
    refine pure_ (i := 9) (N := some 62) (v := ?_) (a' := ?_) #[true, true, true, true, true, true, true, true, true, true, false, false, false] rfl rfl (by kernel_rfl) (fun _ _ _ h => h) (Or.inl ⟨by rfl, ?_⟩) ?_ ?_
    rotate_left
    · intro w'
      go_simp
      with_reducible rfl
    rotate_left
    · simp only [Act.put, List.setIfInBounds_toArray, List.set_cons_zero, List.set_cons_succ, i64_w, i32_w]
      rfl
    refine pure_ (i := 10) (N := some 63) (v := ?_) (a' := ?_) #[true, true, true, true, true, true, true, true, true, true, true, false, false] rfl rfl (by kernel_rfl) (fun _ _ _ h => h) (Or.inl ⟨by rfl, ?_⟩) ?_ ?_
    rotate_left
    · intro w'
      go_simp
      with_reducible rfl
    rotate_left
    · simp only [Act.put, List.setIfInBounds_toArray, List.set_cons_zero, List.set_cons_succ, i64_w, i32_w]
      rfl
    refine pure_ (i := 11) (N := some 10) (v := ?_) (a' := ?_) #[true, true, true, true, true, true, true, true, true, true, true, true, false] rfl rfl (by kernel_rfl) (fun _ _ _ h => h) (Or.inl ⟨by rfl, ?_⟩) ?_ ?_
    rotate_left
    · intro w'
      go_simp
      with_reducible rfl
    rotate_left
    · simp only [Act.put, List.setIfInBounds_toArray, List.set_cons_zero, List.set_cons_succ, i64_w, i32_w]
      rfl
    refine pure_ (i := 12) (N := some 11) (v := ?_) (a' := ?_) #[true, true, true, true, true, true, true, true, true, true, true, true, true] rfl rfl (by kernel_rfl) (fun _ _ _ h => h) (Or.inl ⟨by rfl, ?_⟩) ?_ ?_
    rotate_left
    · intro w'
      go_simp
      with_reducible rfl
    rotate_left
    · simp only [Act.put, List.setIfInBounds_toArray, List.set_cons_zero, List.set_cons_succ, i64_w, i32_w]
      rfl
    refine done_ (by kernel_rfl) ?_
    have K0e := Aside0.mk hHeld.1
    have K1e := Aside0.mk hHeld.2.1
    have K2e := Aside0.mk hHeld.2.2
    clear hC7 hB7 h8 hHeld GD QF SB HBe HBd K0d K1d K2d
    go_wp2
    refine start_ (n := 12) (S := fun w' => w'.heap[w.heap.size]? = some (.cells #[.int .i64 (n : Int), .int .i64 (s : Int)] 23 (0, 0)) ∧ w'.heap[w.heap.size + 1]? = some (.cells #[.int .i64 y.f0, .int .i64 y.f1, .int .i64 y.f2, .int .i64 y.f3, .int .i64 y.f4, .slice A2 y.f5.length c2, .bool y.f6, .slice A3 cd.length c3] 47 (0, 0)) ∧ w'.heap[nb]? = some (.cells #[.int .i64 y.f0, .int .i64 y.f1, .int .i64 y.f2, .int .i64 y.f3, .int .i64 y.f4, .slice A2 y.f5.length c2, .bool (!y.f6)] 36 (0, 0))) (ds := []) #[false, false, false, false, false, false, false, false, false, false, false, false] (by kernel_rfl) rfl rfl ⟨K0e.out, K1e.out, K2e.out⟩ (fun hHeld => ?_)
    have GD := Aside0.mk (Kd.C_F k36_heap (Kd.C_drew (Kd.C_below G1.out HB8.out)))
    have QF := Aside0.mk (k36_mkF w8.drew _ (notC y) e2 (Kd.C_F (Kd.heap_int .i64) (Kd.C_drew (Kd.C_below G2.out HB8.out))))
    have SB := Aside0.mk fun w' (h : Below w8.drew.heap.size w8.drew w') => And.intro ((h.block _ (blk_lt hHeld.1)).trans hHeld.1) (And.intro ((h.block _ (blk_lt hHeld.2.1)).trans hHeld.2.1) ((h.block _ (blk_lt hHeld.2.2)).trans hHeld.2.2))
    have HBe := Aside0.mk (below_drew1 HB8.out)
    generalize w8.drew = wf at hHeld HBe GD QF SB ⊢
    refine take_ (i := 0) (N := some 65) (v := ?_) (a' := ?_) #[true, false, false, false, false, false, false, false, false, false, false, false] rfl rfl (by kernel_rfl) (fun _ _ _ h => h) (Or.inl ⟨by rfl, ?_⟩) hHeld ?_ ?_
    rotate_left
    · rintro w' ⟨s0, s1, s2⟩
      obtain ⟨t0, t1⟩ := cells2 s0
      obtain ⟨u0, u1, u2, u3, u4, u5, u6, u7⟩ := cells8 s1
      obtain ⟨v0, v1, v2, v3, v4, v5, v6⟩ := cells7 s2
      go_simp
      with_reducible rfl
    rotate_left
    · simp only [Act.put, List.setIfInBounds_toArray, List.set_cons_zero, List.set_cons_succ, i64_w, i32_w]
      rfl
    refine pure_ (i := 1) (N := some 66) (v := ?_) (a' := ?_) #[true, true, false, false, false, false, false, false, false, false, false, false] rfl rfl (by kernel_rfl) (fun _ _ _ h => h) (Or.inl ⟨by rfl, ?_⟩) ?_ ?_
    rotate_left
    · intro w'
      go_simp
      with_reducible rfl
    rotate_left
    · simp only [Act.put, List.setIfInBounds_toArray, List.set_cons_zero, List.set_cons_succ, i64_w, i32_w]
      rfl
    refine take_ (i := 3) (N := some 68) (v := ?_) (a' := ?_) #[true, true, false, true, false, false, false, false, false, false, false, false] rfl rfl (by kernel_rfl) (fun _ _ _ h => h) (Or.inl ⟨by rfl, ?_⟩) hHeld ?_ ?_
    rotate_left
    · rintro w' ⟨s0, s1, s2⟩
      obtain ⟨t0, t1⟩ := cells2 s0
      obtain ⟨u0, u1, u2, u3, u4, u5, u6, u7⟩ := cells8 s1
      obtain ⟨v0, v1, v2, v3, v4, v5, v6⟩ := cells7 s2
      go_simp
      with_reducible rfl
    rotate_left
    · simp only [Act.put, List.setIfInBounds_toArray, List.set_cons_zero, List.set_cons_succ, i64_w, i32_w]
      rfl
    refine join_ (σ := Value × Value × Option Addr × Nat) 6 #[true, true, true, true, true, true, false, false, false, false, false, false] (fun s => [(67, s.1), (69, s.2.1), (70, .slice s.2.2.1 (l ++ [(notC y)] : List S36).length s.2.2.2)]) (fun s w' => (l ++ [(notC y)] : List S36).length ≤ s.2.2.2 ∧ Kd.C k36 w' s.2.2.1 (l ++ [(notC y)] : List S36).length (l ++ [(notC y)] : List S36) ∧ Below wf.heap.size wf w') ?_ ?_
    rotate_left
    · intro hcont
      refine two_ (i := 2) (j := 4) (Ni := some 67) (Nj := some 69) #[true, true, true, true, false, false, false, false, false, false, false, false] #[true, true, false, true, true, false, false, false, false, false, false, false] rfl rfl rfl rfl (by kernel_rfl) (by decide) (by decide) (fun K hK => ?_) (fun K hK => ?_)
      · refine Kd.N_append_rows_step k36 (w0 := wf) (W := wf) wf.heap.size rfl (.const (.slice none 0 0)) (.tmp 66) 31 36 _ 72 rfl Try.underlying31 info36 rfl (by decide) (by omega) (.slice none 0 0) [] l A1 l.length c1 (fun _ => True) (fun k => k < wf.heap.size) rfl rfl (Kd.N_nil _ _ _ _ _) GD.out (fun k _ => ⟨trivial, by simp [Value.ownBlock]⟩) (fun _ _ => trivial) (Below.refl _ _) (Nat.le_refl _) (by have := HLEN.out; simp; omega) ?_
        intro v1 w6 hN1 hB6 hg6 hat6
        rw [List.nil_append] at hN1
        have hown : ∀ k, k < wf.heap.size → True ∧ some k ≠ v1.ownBlock := fun k hk => ⟨trivial, fun e => by
          rcases hat6 with h | ⟨b, h, hb⟩
          · rw [h] at e; simp [Value.ownBlock] at e
          · rw [h] at e; injection e with e; omega⟩
        refine hK.out _ _ (SB.out _ hB6) (fun hHeld => ?_)
        clear hK K hat6 hg6
        obtain ⟨Aa, ca_, rfl⟩ := Kd.N_slice hN1
        refine one_ (i := 4) (N := some 69) #[true, true, true, true, true, false, false, false, false, false, false, false] rfl rfl (by kernel_rfl) (by decide) (fun K hK => ?_)
        rw [if_pos (by rfl)]
        go_simp
        refine hK.out _ _ (SB.out _ (hB6.alloc hB6.size _)) (fun hHeld => ?_)
        clear hK K
        refine one_ (i := 5) (N := some 70) #[true, true, true, true, true, true, false, false, false, false, false, false] rfl rfl (by kernel_rfl) (by decide) (fun K hK => ?_)
        refine Kd.N_append_step k36 (w0 := wf) (W := w6) wf.heap.size rfl (.tmp 67) (.tmp 69) 31 36 _ 72 rfl Try.underlying31 info36 rfl (by decide) (by omega) _ l (notC y) _ (fun _ => True) (fun k => k < wf.heap.size) rfl rfl (Kd.FK_step QF.out (fun k _ hk => hB6.block k hk)) hown (fun _ _ => trivial) hN1 hB6 hB6.size (by have := HLEN.out; omega) ?_
        intro v2 w7 hN2 hB7 hg7 hat7
        obtain ⟨A7, c7, rfl, hl7, hC7⟩ := Kd.N_reads hN2
        refine hK.out _ _ (SB.out _ hB7) (fun _ => ?_)
        exact norm_ rfl (hcont (.slice Aa l.length ca_, .slice (some ⟨w6.heap.size, 0, none⟩) 1 1, A7, c7) w7 ⟨hl7, hC7, hB7⟩)
      · rw [if_pos (by rfl)]
        go_simp
        have hBb := (Below.refl wf.heap.size wf).alloc (Nat.le_refl _) (.cells [.int .i64 y.f0, .int .i64 y.f1, .int .i64 y.f2, .int .i64 y.f3, .int .i64 y.f4, .slice A2 y.f5.length c2, .bool (!y.f6)].toArray 36)
        refine hK.out _ _ (SB.out _ hBb) (fun hHeld => ?_)
        clear hK K
        refine one_ (i := 2) (N := some 67) #[true, true, true, true, true, false, false, false, false, false, false, false] rfl rfl (by kernel_rfl) (by decide) (fun K hK => ?_)
        refine Kd.N_append_rows_step k36 (w0 := wf) wf.heap.size rfl (.const (.slice none 0 0)) (.tmp 66) 31 36 _ 72 rfl Try.underlying31 info36 rfl (by decide) (by omega) (.slice none 0 0) [] l A1 l.length c1 (fun _ => True) (fun k => k < wf.heap.size) rfl rfl (Kd.N_nil _ _ _ _ _) (Kd.F_alloc GD.out _) (fun k _ => ⟨trivial, by simp [Value.ownBlock]⟩) (fun _ _ => trivial) hBb (by simp) (by have := HLEN.out; simp; omega) ?_
        intro v1 w6 hN1 hB6 hg6 hat6
        rw [List.nil_append] at hN1
        have hown : ∀ k, k < wf.heap.size + 1 → True ∧ some k ≠ v1.ownBlock := fun k hk => ⟨trivial, fun e => by
          rcases hat6 with h | ⟨b, h, hb⟩
          · rw [h] at e; simp [Value.ownBlock] at e
          · rw [h] at e; injection e with e; rw [World.size_alloc] at hb; omega⟩
        have hrow : Kd.F k36 w6 (fun k => k < wf.heap.size + 1) (some ⟨wf.heap.size, 0, none⟩) 1 [(notC y)] := F_one ((hg6.block _ (by simp) (by simp [Value.ownBlock])).trans (blk_new wf _)) (by omega) (by have := hB6.size; have := hg6.size; simp at this; omega) (Kd.FK_mono (Kd.FK_step QF.out (fun k _ hk => hB6.block k hk)) (fun k hk => by omega))
        refine hK.out _ _ (SB.out _ hB6) (fun hHeld => ?_)
        clear hK K hat6 hg6
        obtain ⟨Aa, ca_, rfl⟩ := Kd.N_slice hN1
        refine one_ (i := 5) (N := some 70) #[true, true, true, true, true, true, false, false, false, false, false, false] rfl rfl (by kernel_rfl) (by decide) (fun K hK => ?_)
        refine Kd.N_append_rows_step k36 (w0 := wf) (W := w6) wf.heap.size rfl (.tmp 67) (.tmp 69) 31 36 _ 72 rfl Try.underlying31 info36 rfl (by decide) (by omega) _ l [(notC y)] (some ⟨wf.heap.size, 0, none⟩) 1 1 (fun _ => True) (fun k => k < wf.heap.size + 1) rfl rfl hN1 hrow hown (fun _ _ => trivial) hB6 hB6.size (by have := HLEN.out; omega) ?_
        intro v2 w7 hN2 hB7 hg7 hat7
        obtain ⟨A7, c7, rfl, hl7, hC7⟩ := Kd.N_reads hN2
        refine hK.out _ _ (SB.out _ hB7) (fun _ => ?_)
        exact norm_ rfl (hcont (.slice Aa l.length ca_, .slice (some ⟨wf.heap.size, 0, none⟩) 1 1, A7, c7) w7 ⟨hl7, hC7, hB7⟩)
    rintro ⟨v1, vb, A7, c7⟩ w7 ⟨hl7, hC7, hB7⟩
    have hHeld := SB.out _ hB7
    refine norm_ (a' := ?_) ?_ ?_
    rotate_left
    · show putAll _ _ = _
      simp only [putAll, Act.put, List.setIfInBounds_toArray, List.set_cons_zero, List.set_cons_succ, i64_w, i32_w]
      rfl
    refine one_ (i := 6) (N := some 71) #[true, true, true, true, true, true, true, false, false, false, false, false] rfl rfl (by kernel_rfl) (by decide) (fun K hK => ?_)
    refine goes_ Try.func35 (by kernel_rfl) rfl #[.agg #[.int .i64 (n : Int), .int .i64 (s : Int)], .slice A7 (l ++ [(notC y)] : List S36).length c7] (by rfl) rfl rfl (by (try simp only [List.map_toArray, List.map_cons, List.map_nil]); first | done | rfl) ?_
    refine (H35n.out _ _ _ hC7 hl7).mono ?_
    rintro e w9 ⟨rfl, h9⟩
    refine ⟨_, rfl, ?_⟩
    have HB9 := Aside0.mk (below_then (below_then HBe.out HBe.out.size hB7) (Nat.le_trans HBe.out.size hB7.size) h9)
    refine hK.out _ _ ⟨(h9.block _ (blk_lt hHeld.1)).trans hHeld.1, (h9.block _ (blk_lt hHeld.2.1)).trans hHeld.2.1, (h9.block _ (blk_lt hHeld.2.2)).trans hHeld.2.2⟩ (fun hHeld => ?_)
    clear hK K
    refine norm_ (a' := ?_) ?_ ?_
    rotate_left
    · show Act.put _ (some 71) _ = _
      simp only [Act.put, List.setIfInBounds_toArray, List.set_cons_zero, List.set_cons_succ, i64_w, i32_w]
      rfl
    refine pure_ (i := 7) (N := some 64) (v := ?_) (a' := ?_) #[true, true, true, true, true, true, true, true, false, false, false, false] rfl rfl (by kernel_rfl) (fun _ _ _ h => h) (Or.inl ⟨by rfl, ?_⟩) ?_ ?_
    rotate_left
    · intro w'
      go_simp
      with_reducible rfl
    rotate_left
    · simp only [Act.put, List.setIfInBounds_toArray, List.set_cons_zero, List.set_cons_succ, i64_w, i32_w]
      rfl
    refine pure_ (i := 8) (N := some 72) (v := ?_) (a' := ?_) #[true, true, true, true, true, true, true, true, true, false, false, false] rfl rfl (by kernel_rfl) (fun _ _ _ h => h) (Or.inl ⟨by rfl, ?_⟩) ?_ ?_
    rotate_left
    · intro w'
      go_simp
      with_reducible rfl
    rotate_left
    · simp only [Act.put, List.setIfInBounds_toArray, List.set_cons_zero, List.set_cons_succ, i64_w, i32_w]
      rfl
    refine pure_ (i := 9) (N := some 73) (v := ?_) (a' := ?_) #[true, true, true, true, true, true, true, true, true, true, false, false] rfl rfl (by kernel_rfl) (fun _ _ _ h => h) (Or.inl ⟨by rfl, ?_⟩) ?_ ?_
    rotate_left
    · intro w'
      go_simp
      with_reducible rfl
    rotate_left
    · simp only [Act.put, List.setIfInBounds_toArray, List.set_cons_zero, List.set_cons_succ, i64_w, i32_w]
      rfl
    refine pure_ (i := 10) (N := some 12) (v := ?_) (a' := ?_) #[true, true, true, true, true, true, true, true, true, true, true, false] rfl rfl (by kernel_rfl) (fun _ _ _ h => h) (Or.inl ⟨by rfl, ?_⟩) ?_ ?_
    rotate_left
    · intro w'
      go_simp
      with_reducible rfl
    rotate_left
    · simp only [Act.put, List.setIfInBounds_toArray, List.set_cons_zero, List.set_cons_succ, i64_w, i32_w]
      rfl
    refine pure_ (i := 11) (N := some 13) (v := ?_) (a' := ?_) #[true, true, true, true, true, true, true, true, true, true, true, true] rfl rfl (by kernel_rfl) (fun _ _ _ h => h) (Or.inl ⟨by rfl, ?_⟩) ?_ ?_
    rotate_left
    · intro w'
      go_simp
      with_reducible rfl
    rotate_left
    · simp only [Act.put, List.setIfInBounds_toArray, List.set_cons_zero, List.set_cons_succ, i64_w, i32_w]
      rfl
    refine done_ (by kernel_rfl) ?_
    have K0f := Aside0.mk hHeld.1
    have K1f := Aside0.mk hHeld.2.1
    clear hC7 hB7 h9 hHeld GD QF SB HBe K0e K1e K2e HB8
    obtain ⟨a0, a1⟩ := cells2 K0f.out
    obtain ⟨b0, b1, b2, b3, b4, b5, b6, b7⟩ := cells8 K1f.out
    go_wp2_with (go_at_call 36; refine (H36.out _ HB9.out).mono ?_; rintro e wg ⟨v, rfl, ho, hb⟩; obtain ⟨Av, cv, rfl, hlv, hcv⟩ := Kd.R_reads ho; have HCV := Aside0.mk hcv; have HLV := Aside0.mk hlv; have HBg := Aside0.mk (below_then HB9.out HB9.out.size hb); have K0g := Aside0.mk (blk_below K0f.out hb); have K1g := Aside0.mk (blk_below K1f.out hb); clear ho hcv hlv hb a0 a1 b0 b1 b2 b3 b4 b5 b6 b7)
    all_goals
      obtain ⟨a0, a1⟩ := cells2 K0g.out
      go_loopw [15] (fun v15 wr => ∃ i : Nat, Aside0 (i ≤ T.length) ∧ v15 = .int .i64 i ∧ Aside0 (Below wg.heap.size wg wr)) (fun v15 _ => T.length - (intOf v15).toNat)
      case atStart => exact ⟨0, ⟨Nat.zero_le _⟩, rfl, ⟨Below.refl _ _⟩⟩
      case round =>
        obtain ⟨i, hi, rfl, HBR⟩ := hrel
        by_cases hlt : i < T.length
        · obtain ⟨adv, Ax, cx, e0, hcx, hlx, hix⟩ := at_L2 HCV.out (i : Int) (by omega) (by omega)
          subst e0
          rw [Int.toNat_natCast] at hcx
          have hcg := hcx
          replace hcx := (HBR.out.cell (World.block_lt_of_cell? wg _ hcx)).trans hcx
          rw [rdL_get' T i hlt] at hcx hlx hix hcg
          obtain ⟨x, hx⟩ : ∃ x, x = T[i] := ⟨_, rfl⟩
          rw [← hx] at hcx hlx hix hcg
          have hxm : x ∈ al := HTM.out x (by rw [hx]; exact List.getElem_mem _)
          have HX := Aside0.mk hx
          have HLX := Aside0.mk hlx
          have HIX := Aside0.mk hix
          have HBW := Aside0.mk (below_then HBg.out HBg.out.size HBR.out)
          have CF := Aside0.mk (H22a.out x hxm Ax cx wr.drew (below_drew1 HBW.out) (Kd.C_drew (Kd.C_below hix HBR.out)) hlx)
          have r0 := (HBR.out.cell (World.block_lt_of_cell? wg _ a0)).trans a0
          have r1 := (HBR.out.cell (World.block_lt_of_cell? wg _ a1)).trans a1
          clear hx hix hxm hlx
          go_wp2
          refine start_ (n := 14) (S := fun w' => w'.cell? ⟨w.heap.size, 0, none⟩ = some (.int .i64 (n : Int)) ∧ w'.cell? ⟨w.heap.size, 1, none⟩ = some (.int .i64 (s : Int)) ∧ w'.cell? (adv.add i) = some (.slice Ax x.length cx)) (ds := []) #[false, false, false, false, false, false, false, false, false, false, false, false, false, false] (by kernel_rfl) rfl rfl ⟨r0, r1, hcx⟩ (fun hHeld => ?_)
          refine take_ (i := 0) (N := some 118) (v := ?_) (a' := ?_) #[true, false, false, false, false, false, false, false, false, false, false, false, false, false] rfl rfl (by kernel_rfl) (fun _ _ _ h => h) (Or.inl ⟨by rfl, ?_⟩) hHeld ?_ ?_
          rotate_left
          · rintro w' ⟨s0, s1, s2⟩
            go_simp
            with_reducible rfl
          rotate_left
          · simp only [Act.put, List.setIfInBounds_toArray, List.set_cons_zero, List.set_cons_succ, i64_w, i32_w]
            rfl
          refine pure_ (i := 1) (N := some 119) (v := ?_) (a' := ?_) #[true, true, false, false, false, false, false, false, false, false, false, false, false, false] rfl rfl (by kernel_rfl) (fun _ _ _ h => h) (Or.inl ⟨by rfl, ?_⟩) ?_ ?_
          rotate_left
          · intro w'
            go_simp
            with_reducible rfl
          rotate_left
          · simp only [Act.put, List.setIfInBounds_toArray, List.set_cons_zero, List.set_cons_succ, i64_w, i32_w]
            rfl
          refine pure_ (i := 2) (N := some 120) (v := ?_) (a' := ?_) #[true, true, true, false, false, false, false, false, false, false, false, false, false, false] rfl rfl (by kernel_rfl) (fun _ _ _ h => h) (Or.inl ⟨by rfl, ?_⟩) ?_ ?_
          rotate_left
          · intro w'
            go_simp
            with_reducible rfl
          rotate_left
          · simp only [Act.put, List.setIfInBounds_toArray, List.set_cons_zero, List.set_cons_succ, i64_w, i32_w]
            rfl
          refine pure_ (i := 3) (N := some 121) (v := ?_) (a' := ?_) #[true, true, true, true, false, false, false, false, false, false, false, false, false, false] rfl rfl (by kernel_rfl) (fun _ _ _ h => h) (Or.inl ⟨by rfl, ?_⟩) ?_ ?_
          rotate_left
          · intro w'
            go_simp
            with_reducible rfl
          rotate_left
          · simp only [Act.put, List.setIfInBounds_toArray, List.set_cons_zero, List.set_cons_succ, i64_w, i32_w]
            rfl
          refine pure_ (i := 4) (N := some 122) (v := ?_) (a' := ?_) #[true, true, true, true, true, false, false, false, false, false, false, false, false, false] rfl rfl (by kernel_rfl) (fun _ _ _ h => h) (Or.inl ⟨by rfl, ?_⟩) ?_ ?_
          rotate_left
          · intro w'
            go_simp
            with_reducible rfl
          rotate_left
          · simp only [Act.put, List.setIfInBounds_toArray, List.set_cons_zero, List.set_cons_succ, i64_w, i32_w]
            rfl
          refine take_ (i := 5) (N := some 123) (v := ?_) (a' := ?_) #[true, true, true, true, true, true, false, false, false, false, false, false, false, false] rfl rfl (by kernel_rfl) (fun _ _ _ h => h) (Or.inl ⟨by rfl, ?_⟩) hHeld ?_ ?_
          rotate_left
          · rintro w' ⟨s0, s1, s2⟩
            go_simp
            with_reducible rfl
          rotate_left
          · simp only [Act.put, List.setIfInBounds_toArray, List.set_cons_zero, List.set_cons_succ, i64_w, i32_w]
            rfl
          refine one_ (i := 6) (N := some 124) #[true, true, true, true, true, true, true, false, false, false, false, false, false, false] rfl rfl (by kernel_rfl) (by decide) (fun K hK => ?_)
          refine goes_ Try.func22 (by kernel_rfl) rfl #[.agg #[.int .i64 (n : Int), .int .i64 (s : Int)], .slice A1 l.length c1, .slice Ax x.length cx] (by rfl) rfl rfl (by (try simp only [List.map_toArray, List.map_cons, List.map_nil]); first | done | rfl) ?_
          refine CF.out.mono ?_
          rintro e wh ⟨rfl, hb⟩
          refine ⟨_, rfl, ?_⟩
          have HBh := Aside0.mk (below_then (below_drew1 HBR.out) (by have := HBR.out.size; simp; omega) hb)
          refine hK.out _ _ ⟨(hb.cell (World.block_lt_of_cell? _ _ hHeld.1)).trans hHeld.1, (hb.cell (World.block_lt_of_cell? _ _ hHeld.2.1)).trans hHeld.2.1, (hb.cell (World.block_lt_of_cell? _ _ hHeld.2.2)).trans hHeld.2.2⟩ (fun hHeld => ?_)
          clear hK K
          refine norm_ (a' := ?_) ?_ ?_
          rotate_left
          · show Act.put _ (some 124) _ = _
            simp only [Act.put, List.setIfInBounds_toArray, List.set_cons_zero, List.set_cons_succ, i64_w, i32_w]
            rfl
          refine pure_ (i := 7) (N := some 117) (v := ?_) (a' := ?_) #[true, true, true, true, true, true, true, true, false, false, false, false, false, false] rfl rfl (by kernel_rfl) (fun _ _ _ h => h) (Or.inl ⟨by rfl, ?_⟩) ?_ ?_
          rotate_left
          · intro w'
            go_simp
            with_reducible rfl
          rotate_left
          · simp only [Act.put, List.setIfInBounds_toArray, List.set_cons_zero, List.set_cons_succ, i64_w, i32_w]
            rfl
          refine pure_ (i := 8) (N := some 125) (v := ?_) (a' := ?_) #[true, true, true, true, true, true, true, true, true, false, false, false, false, false] rfl rfl (by kernel_rfl) (fun _ _ _ h => h) (Or.inl ⟨by rfl, ?_⟩) ?_ ?_
          rotate_left
          · intro w'
            go_simp
            with_reducible rfl
          rotate_left
          · simp only [Act.put, List.setIfInBounds_toArray, List.set_cons_zero, List.set_cons_succ, i64_w, i32_w]
            rfl
          refine pure_ (i := 9) (N := some 126) (v := ?_) (a' := ?_) #[true, true, true, true, true, true, true, true, true, true, false, false, false, false] rfl rfl (by kernel_rfl) (fun _ _ _ h => h) (Or.inl ⟨by rfl, ?_⟩) ?_ ?_
          rotate_left
          · intro w'
            go_simp
            with_reducible rfl
          rotate_left
          · simp only [Act.put, List.setIfInBounds_toArray, List.set_cons_zero, List.set_cons_succ, i64_w, i32_w]
            rfl
          refine pure_ (i := 10) (N := some 127) (v := ?_) (a' := ?_) #[true, true, true, true, true, true, true, true, true, true, true, false, false, false] rfl rfl (by kernel_rfl) (fun _ _ _ h => h) (Or.inl ⟨by rfl, ?_⟩) ?_ ?_
          rotate_left
          · intro w'
            go_simp
            with_reducible rfl
          rotate_left
          · simp only [Act.put, List.setIfInBounds_toArray, List.set_cons_zero, List.set_cons_succ, i64_w, i32_w]
            rfl
          refine pure_ (i := 11) (N := some 16) (v := ?_) (a' := ?_) #[true, true, true, true, true, true, true, true, true, true, true, true, false, false] rfl rfl (by kernel_rfl) (fun _ _ _ h => h) (Or.inl ⟨by rfl, ?_⟩) ?_ ?_
          rotate_left
          · intro w'
            go_simp
            with_reducible rfl
          rotate_left
          · simp only [Act.put, List.setIfInBounds_toArray, List.set_cons_zero, List.set_cons_succ, i64_w, i32_w]
            rfl
          refine pure_ (i := 12) (N := some 17) (v := ?_) (a' := ?_) #[true, true, true, true, true, true, true, true, true, true, true, true, true, false] rfl rfl (by kernel_rfl) (fun _ _ _ h => h) (Or.inl ⟨by rfl, ?_⟩) ?_ ?_
          rotate_left
          · intro w'
            go_simp
            with_reducible rfl
          rotate_left
          · simp only [Act.put, List.setIfInBounds_toArray, List.set_cons_zero, List.set_cons_succ, i64_w, i32_w]
            rfl
          refine pure_ (i := 13) (N := some 18) (v := ?_) (a' := ?_) #[true, true, true, true, true, true, true, true, true, true, true, true, true, true] rfl rfl (by kernel_rfl) (fun _ _ _ h => h) (Or.inl ⟨by rfl, ?_⟩) ?_ ?_
          rotate_left
          · intro w'
            go_simp
            with_reducible rfl
          rotate_left
          · simp only [Act.put, List.setIfInBounds_toArray, List.set_cons_zero, List.set_cons_succ, i64_w, i32_w]
            rfl
          refine done_ (by kernel_rfl) ?_
          have hcy := hHeld.2.2
          clear hHeld hb r0 r1 hcx
          go_wp2
          rcases Nat.eq_zero_or_pos i with hi0 | hi0
          · subst hi0
            refine start_ (n := 27) (S := fun _ => True) (ds := []) #[false, false, false, false, false, false, false, false, false, false, false, false, false, false, false, false, false, false, false, false, false, false, false, false, false, false, false] (by kernel_rfl) rfl rfl trivial (fun hHeld => ?_)
            refine pure_ (i := 0) (N := some 128) (v := ?_) (a' := ?_) #[true, false, false, false, false, false, false, false, false, false, false, false, false, false, false, false, false, false, false, false, false, false, false, false, false, false, false] rfl rfl (by kernel_rfl) (fun _ _ _ h => h) (Or.inl ⟨by rfl, ?_⟩) ?_ ?_
            rotate_left
            · intro w'
              go_simp
              with_reducible rfl
            rotate_left
            · simp only [Act.put, List.setIfInBounds_toArray, List.set_cons_zero, List.set_cons_succ, i64_w, i32_w]
              rfl
            refine pure_ (i := 1) (N := some 129) (v := ?_) (a' := ?_) #[true, true, false, false, false, false, false, false, false, false, false, false, false, false, false, false, false, false, false, false, false, false, false, false, false, false, false] rfl rfl (by kernel_rfl) (fun _ _ _ h => h) (Or.inl ⟨by rfl, ?_⟩) ?_ ?_
            rotate_left
            · intro w'
              go_simp
              with_reducible rfl
            rotate_left
            · simp only [Act.put, List.setIfInBounds_toArray, List.set_cons_zero, List.set_cons_succ, i64_w, i32_w]
              rfl
            refine pure_ (i := 2) (N := some 130) (v := ?_) (a' := ?_) #[true, true, true, false, false, false, false, false, false, false, false, false, false, false, false, false, false, false, false, false, false, false, false, false, false, false, false] rfl rfl (by kernel_rfl) (fun _ _ _ h => h) (Or.inl ⟨by rfl, ?_⟩) ?_ ?_
            rotate_left
            · intro w'
              go_simp
              with_reducible rfl
            rotate_left
            · simp only [Act.put, List.setIfInBounds_toArray, List.set_cons_zero, List.set_cons_succ, i64_w, i32_w]
              rfl
            refine pure_ (i := 3) (N := some 131) (v := ?_) (a' := ?_) #[true, true, true, true, false, false, false, false, false, false, false, false, false, false, false, false, false, false, false, false, false, false, false, false, false, false, false] rfl rfl (by kernel_rfl) (fun _ _ _ h => h) (Or.inl ⟨by rfl, ?_⟩) ?_ ?_
            rotate_left
            · intro w'
              go_simp
              with_reducible rfl
            rotate_left
            · simp only [Act.put, List.setIfInBounds_toArray, List.set_cons_zero, List.set_cons_succ, i64_w, i32_w]
              rfl
            refine pure_ (i := 4) (N := some 132) (v := ?_) (a' := ?_) #[true, true, true, true, true, false, false, false, false, false, false, false, false, false, false, false, false, false, false, false, false, false, false, false, false, false, false] rfl rfl (by kernel_rfl) (fun _ _ _ h => h) (Or.inl ⟨by rfl, ?_⟩) ?_ ?_
            rotate_left
            · intro w'
              go_simp
              with_reducible rfl
            rotate_left
            · simp only [Act.put, List.setIfInBounds_toArray, List.set_cons_zero, List.set_cons_succ, i64_w, i32_w]
              rfl
            refine pure_ (i := 5) (N := some 133) (v := ?_) (a' := ?_) #[true, true, true, true, true, true, false, false, false, false, false, false, false, false, false, false, false, false, false, false, false, false, false, false, false, false, false] rfl rfl (by kernel_rfl) (fun _ _ _ h => h) (Or.inl ⟨by rfl, ?_⟩) ?_ ?_
            rotate_left
            · intro w'
              go_simp
              with_reducible rfl
            rotate_left
            · simp only [Act.put, List.setIfInBounds_toArray, List.set_cons_zero, List.set_cons_succ, i64_w, i32_w]
              rfl
            refine pure_ (i := 6) (N := some 134) (v := ?_) (a' := ?_) #[true, true, true, true, true, true, true, false, false, false, false, false, false, false, false, false, false, false, false, false, false, false, false, false, false, false, false] rfl rfl (by kernel_rfl) (fun _ _ _ h => h) (Or.inl ⟨by rfl, ?_⟩) ?_ ?_
            rotate_left
            · intro w'
              go_simp
              with_reducible rfl
            rotate_left
            · simp only [Act.put, List.setIfInBounds_toArray, List.set_cons_zero, List.set_cons_succ, i64_w, i32_w]
              rfl
            refine pure_ (i := 7) (N := some 135) (v := ?_) (a' := ?_) #[true, true, true, true, true, true, true, true, false, false, false, false, false, false, false, false, false, false, false, false, false, false, false, false, false, false, false] rfl rfl (by kernel_rfl) (fun _ _ _ h => h) (Or.inl ⟨by rfl, ?_⟩) ?_ ?_
            rotate_left
            · intro w'
              go_simp
              with_reducible rfl
            rotate_left
            · simp only [Act.put, List.setIfInBounds_toArray, List.set_cons_zero, List.set_cons_succ, i64_w, i32_w]
              rfl
            refine pure_ (i := 8) (N := some 136) (v := ?_) (a' := ?_) #[true, true, true, true, true, true, true, true, true, false, false, false, false, false, false, false, false, false, false, false, false, false, false, false, false, false, false] rfl rfl (by kernel_rfl) (fun _ _ _ h => h) (Or.inl ⟨by rfl, ?_⟩) ?_ ?_
            rotate_left
            · intro w'
              go_simp
              with_reducible rfl
            rotate_left
            · simp only [Act.put, List.setIfInBounds_toArray, List.set_cons_zero, List.set_cons_succ, i64_w, i32_w]
              rfl
            refine pure_ (i := 9) (N := some 137) (v := ?_) (a' := ?_) #[true, true, true, true, true, true, true, true, true, true, false, false, false, false, false, false, false, false, false, false, false, false, false, false, false, false, false] rfl rfl (by kernel_rfl) (fun _ _ _ h => h) (Or.inl ⟨by rfl, ?_⟩) ?_ ?_
            rotate_left
            · intro w'
              go_simp
              with_reducible rfl
            rotate_left
            · simp only [Act.put, List.setIfInBounds_toArray, List.set_cons_zero, List.set_cons_succ, i64_w, i32_w]
              rfl
            refine pure_ (i := 10) (N := some 138) (v := ?_) (a' := ?_) #[true, true, true, true, true, true, true, true, true, true, true, false, false, false, false, false, false, false, false, false, false, false, false, false, false, false, false] rfl rfl (by kernel_rfl) (fun _ _ _ h => h) (Or.inl ⟨by rfl, ?_⟩) ?_ ?_
            rotate_left
            · intro w'
              go_simp
              with_reducible rfl
            rotate_left
            · simp only [Act.put, List.setIfInBounds_toArray, List.set_cons_zero, List.set_cons_succ, i64_w, i32_w]
              rfl
            refine pure_ (i := 11) (N := some 139) (v := ?_) (a' := ?_) #[true, true, true, true, true, true, true, true, true, true, true, true, false, false, false, false, false, false, false, false, false, false, false, false, false, false, false] rfl rfl (by kernel_rfl) (fun _ _ _ h => h) (Or.inl ⟨by rfl, ?_⟩) ?_ ?_
            rotate_left
            · intro w'
              go_simp
              with_reducible rfl
            rotate_left
            · simp only [Act.put, List.setIfInBounds_toArray, List.set_cons_zero, List.set_cons_succ, i64_w, i32_w]
              rfl
            refine pure_ (i := 12) (N := some 140) (v := ?_) (a' := ?_) #[true, true, true, true, true, true, true, true, true, true, true, true, true, false, false, false, false, false, false, false, false, false, false, false, false, false, false] rfl rfl (by kernel_rfl) (fun _ _ _ h => h) (Or.inl ⟨by rfl, ?_⟩) ?_ ?_
            rotate_left
            · intro w'
              go_simp
              with_reducible rfl
            rotate_left
            · simp only [Act.put, List.setIfInBounds_toArray, List.set_cons_zero, List.set_cons_succ, i64_w, i32_w]
              rfl
            refine pure_ (i := 13) (N := some 141) (v := ?_) (a' := ?_) #[true, true, true, true, true, true, true, true, true, true, true, true, true, true, false, false, false, false, false, false, false, false, false, false, false, false, false] rfl rfl (by kernel_rfl) (fun _ _ _ h => h) (Or.inl ⟨by rfl, ?_⟩) ?_ ?_
            rotate_left
            · intro w'
              go_simp
              with_reducible rfl
            rotate_left
            · simp only [Act.put, List.setIfInBounds_toArray, List.set_cons_zero, List.set_cons_succ, i64_w, i32_w]
              rfl
            refine pure_ (i := 14) (N := some 142) (v := undef) (a' := ?_) #[true, true, true, true, true, true, true, true, true, true, true, true, true, true, true, false, false, false, false, false, false, false, false, false, false, false, false] rfl rfl (by kernel_rfl) (fun _ _ _ h => h) (Or.inr ⟨by rfl, rfl⟩) ?_ ?_
            rotate_left
            · simp only [Act.put, List.setIfInBounds_toArray, List.set_cons_zero, List.set_cons_succ, i64_w, i32_w]
              rfl
            refine pure_ (i := 15) (N := some 143) (v := undef) (a' := ?_) #[true, true, true, true, true, true, true, true, true, true, true, true, true, true, true, true, false, false, false, false, false, false, false, false, false, false, false] rfl rfl (by kernel_rfl) (fun _ _ _ h => h) (Or.inr ⟨by rfl, rfl⟩) ?_ ?_
            rotate_left
            · simp only [Act.put, List.setIfInBounds_toArray, List.set_cons_zero, List.set_cons_succ, i64_w, i32_w]
              rfl
            refine pure_ (i := 16) (N := some 144) (v := undef) (a' := ?_) #[true, true, true, true, true, true, true, true, true, true, true, true, true, true, true, true, true, false, false, false, false, false, false, false, false, false, false] rfl rfl (by kernel_rfl) (fun _ _ _ h => h) (Or.inr ⟨by rfl, rfl⟩) ?_ ?_
            rotate_left
            · simp only [Act.put, List.setIfInBounds_toArray, List.set_cons_zero, List.set_cons_succ, i64_w, i32_w]
              rfl
            refine pure_ (i := 17) (N := some 145) (v := undef) (a' := ?_) #[true, true, true, true, true, true, true, true, true, true, true, true, true, true, true, true, true, true, false, false, false, false, false, false, false, false, false] rfl rfl (by kernel_rfl) (fun _ _ _ h => h) (Or.inr ⟨by rfl, rfl⟩) ?_ ?_
            rotate_left
            · simp only [Act.put, List.setIfInBounds_toArray, List.set_cons_zero, List.set_cons_succ, i64_w, i32_w]
              rfl
            refine pure_ (i := 18) (N := some 146) (v := undef) (a' := ?_) #[true, true, true, true, true, true, true, true, true, true, true, true, true, true, true, true, true, true, true, false, false, false, false, false, false, false, false] rfl rfl (by kernel_rfl) (fun _ _ _ h => h) (Or.inr ⟨by rfl, rfl⟩) ?_ ?_
            rotate_left
            · simp only [Act.put, List.setIfInBounds_toArray, List.set_cons_zero, List.set_cons_succ, i64_w, i32_w]
              rfl
            refine pure_ (i := 19) (N := some 147) (v := undef) (a' := ?_) #[true, true, true, true, true, true, true, true, true, true, true, true, true, true, true, true, true, true, true, true, false, false, false, false, false, false, false] rfl rfl (by kernel_rfl) (fun _ _ _ h => h) (Or.inr ⟨by rfl, rfl⟩) ?_ ?_
            rotate_left
            · simp only [Act.put, List.setIfInBounds_toArray, List.set_cons_zero, List.set_cons_succ, i64_w, i32_w]
              rfl
            refine pure_ (i := 20) (N := some 148) (v := undef) (a' := ?_) #[true, true, true, true, true, true, true, true, true, true, true, true, true, true, true, true, true, true, true, true, true, false, false, false, false, false, false] rfl rfl (by kernel_rfl) (fun _ _ _ h => h) (Or.inr ⟨by rfl, rfl⟩) ?_ ?_
            rotate_left
            · simp only [Act.put, List.setIfInBounds_toArray, List.set_cons_zero, List.set_cons_succ, i64_w, i32_w]
              rfl
            refine pure_ (i := 21) (N := some 149) (v := undef) (a' := ?_) #[true, true, true, true, true, true, true, true, true, true, true, true, true, true, true, true, true, true, true, true, true, true, false, false, false, false, false] rfl rfl (by kernel_rfl) (fun _ _ _ h => h) (Or.inr ⟨by rfl, rfl⟩) ?_ ?_
            rotate_left
            · simp only [Act.put, List.setIfInBounds_toArray, List.set_cons_zero, List.set_cons_succ, i64_w, i32_w]
              rfl
            refine pure_ (i := 22) (N := some 150) (v := undef) (a' := ?_) #[true, true, true, true, true, true, true, true, true, true, true, true, true, true, true, true, true, true, true, true, true, true, true, false, false, false, false] rfl rfl (by kernel_rfl) (fun _ _ _ h => h) (Or.inr ⟨by rfl, rfl⟩) ?_ ?_
            rotate_left
            · simp only [Act.put, List.setIfInBounds_toArray, List.set_cons_zero, List.set_cons_succ, i64_w, i32_w]
              rfl
            refine pure_ (i := 23) (N := some 151) (v := undef) (a' := ?_) #[true, true, true, true, true, true, true, true, true, true, true, true, true, true, true, true, true, true, true, true, true, true, true, true, false, false, false] rfl rfl (by kernel_rfl) (fun _ _ _ h => h) (Or.inr ⟨by rfl, rfl⟩) ?_ ?_
            rotate_left
            · simp only [Act.put, List.setIfInBounds_toArray, List.set_cons_zero, List.set_cons_succ, i64_w, i32_w]
              rfl
            refine pure_ (i := 24) (N := some 152) (v := undef) (a' := ?_) #[true, true, true, true, true, true, true, true, true, true, true, true, true, true, true, true, true, true, true, true, true, true, true, true, true, false, false] rfl rfl (by kernel_rfl) (fun _ _ _ h => h) (Or.inr ⟨by rfl, rfl⟩) ?_ ?_
            rotate_left
            · simp only [Act.put, List.setIfInBounds_toArray, List.set_cons_zero, List.set_cons_succ, i64_w, i32_w]
              rfl
            refine pure_ (i := 25) (N := some 153) (v := ?_) (a' := ?_) #[true, true, true, true, true, true, true, true, true, true, true, true, true, true, true, true, true, true, true, true, true, true, true, true, true, true, false] rfl rfl (by kernel_rfl) (fun _ _ _ h => h) (Or.inl ⟨by rfl, ?_⟩) ?_ ?_
            rotate_left
            · intro w'
              go_simp
              with_reducible rfl
            rotate_left
            · simp only [Act.put, List.setIfInBounds_toArray, List.set_cons_zero, List.set_cons_succ, i64_w, i32_w]
              rfl
            refine pure_ (i := 26) (N := some 154) (v := ?_) (a' := ?_) #[true, true, true, true, true, true, true, true, true, true, true, true, true, true, true, true, true, true, true, true, true, true, true, true, true, true, true] rfl rfl (by kernel_rfl) (fun _ _ _ h => h) (Or.inl ⟨by rfl, ?_⟩) ?_ ?_
            rotate_left
            · intro w'
              go_simp
              with_reducible rfl
            rotate_left
            · simp only [Act.put, List.setIfInBounds_toArray, List.set_cons_zero, List.set_cons_succ, i64_w, i32_w]
              rfl
            refine done_ (by kernel_rfl) ?_
            go_wp2
            refine ⟨⟨0 + 1, ⟨by omega⟩, by go_num, ⟨below_drew1 HBh.out⟩⟩, ?_⟩
            simp [intOf]; omega
          · obtain ⟨j, hj⟩ : ∃ j, j = i - 1 := ⟨_, rfl⟩
            have hjT : j < T.length := by omega
            obtain ⟨adw, Aj, cj, ej, hcj, hlj, hij⟩ := at_L2 HCV.out (j : Int) (by omega) (by omega)
            obtain rfl : adv = adw := by injection ej
            rw [Int.toNat_natCast] at hcj
            rw [rdL_get' T j hjT] at hcj hlj hij
            have hbef : lexLt T[j] x = true := by
              have h1 := HSX.out j (by omega)
              have h2 : T[j + 1]'(by omega) = T[i] := by simp only [show j + 1 = i by omega]
              rw [HX.out, ← h2]; exact h1
            have hjm : T[j] ∈ al := HTM.out _ (List.getElem_mem _)
            obtain ⟨z, hz⟩ : ∃ z, z = T[j] := ⟨_, rfl⟩
            rw [← hz] at hcj hlj hij hbef hjm
            have hzl : z.length ≤ 9223372036854775807 := by
              have := (isCodeB_iff.1 (HALL.out z hjm)).1
              exact ex_len z n hw4 this
            obtain ⟨kb, hkb⟩ := (before_ev z x hzl).rounds
            rw [hbef] at hkb
            have CB := Aside0.mk (padlocklaw01_before.calls kb Aj cj z Ax cx x true wh.drew (Kd.C_drew (Kd.C_below hij HBh.out)) hlj (Kd.C_drew (Kd.C_below HIX.out HBh.out)) HLX.out hkb)
            have hsub := ex_sub i j hj hi0 (by omega)
            have hcjw := (HBh.out.cell (World.block_lt_of_cell? wg _ hcj)).trans hcj
            clear hz hbef hjm hzl hkb hlj hij hcj hj
            refine start_ (n := 27) (S := fun w' => w'.cell? (adv.add j) = some (.slice Aj z.length cj) ∧ w'.cell? (adv.add i) = some (.slice Ax x.length cx)) (ds := []) #[false, false, false, false, false, false, false, false, false, false, false, false, false, false, false, false, false, false, false, false, false, false, false, false, false, false, false] (by kernel_rfl) rfl rfl ⟨hcjw, hcy⟩ (fun hHeld => ?_)
            refine pure_ (i := 0) (N := some 128) (v := ?_) (a' := ?_) #[true, false, false, false, false, false, false, false, false, false, false, false, false, false, false, false, false, false, false, false, false, false, false, false, false, false, false] rfl rfl (by kernel_rfl) (fun _ _ _ h => h) (Or.inl ⟨by rfl, ?_⟩) ?_ ?_
            rotate_left
            · intro w'
              go_simp
              with_reducible rfl
            rotate_left
            · simp only [Act.put, List.setIfInBounds_toArray, List.set_cons_zero, List.set_cons_succ, i64_w, i32_w]
              rfl
            refine pure_ (i := 1) (N := some 129) (v := ?_) (a' := ?_) #[true, true, false, false, false, false, false, false, false, false, false, false, false, false, false, false, false, false, false, false, false, false, false, false, false, false, false] rfl rfl (by kernel_rfl) (fun _ _ _ h => h) (Or.inl ⟨by rfl, ?_⟩) ?_ ?_
            rotate_left
            · intro w'
              go_simp
              with_reducible rfl
            rotate_left
            · simp only [Act.put, List.setIfInBounds_toArray, List.set_cons_zero, List.set_cons_succ, i64_w, i32_w]
              rfl
            refine pure_ (i := 2) (N := some 130) (v := ?_) (a' := ?_) #[true, true, true, false, false, false, false, false, false, false, false, false, false, false, false, false, false, false, false, false, false, false, false, false, false, false, false] rfl rfl (by kernel_rfl) (fun _ _ _ h => h) (Or.inl ⟨by rfl, ?_⟩) ?_ ?_
            rotate_left
            · intro w'
              go_simp
              with_reducible rfl
            rotate_left
            · simp only [Act.put, List.setIfInBounds_toArray, List.set_cons_zero, List.set_cons_succ, i64_w, i32_w]
              rfl
            refine pure_ (i := 3) (N := some 131) (v := ?_) (a' := ?_) #[true, true, true, true, false, false, false, false, false, false, false, false, false, false, false, false, false, false, false, false, false, false, false, false, false, false, false] rfl rfl (by kernel_rfl) (fun _ _ _ h => h) (Or.inl ⟨by rfl, ?_⟩) ?_ ?_
            rotate_left
            · intro w'
              go_simp
              with_reducible rfl
            rotate_left
            · simp only [Act.put, List.setIfInBounds_toArray, List.set_cons_zero, List.set_cons_succ, i64_w, i32_w]
              rfl
            refine pure_ (i := 4) (N := some 132) (v := ?_) (a' := ?_) #[true, true, true, true, true, false, false, false, false, false, false, false, false, false, false, false, false, false, false, false, false, false, false, false, false, false, false] rfl rfl (by kernel_rfl) (fun _ _ _ h => h) (Or.inl ⟨by rfl, ?_⟩) ?_ ?_
            rotate_left
            · intro w'
              go_simp
              with_reducible rfl
            rotate_left
            · simp only [Act.put, List.setIfInBounds_toArray, List.set_cons_zero, List.set_cons_succ, i64_w, i32_w]
              rfl
            refine pure_ (i := 5) (N := some 133) (v := ?_) (a' := ?_) #[true, true, true, true, true, true, false, false, false, false, false, false, false, false, false, false, false, false, false, false, false, false, false, false, false, false, false] rfl rfl (by kernel_rfl) (fun _ _ _ h => h) (Or.inl ⟨by rfl, ?_⟩) ?_ ?_
            rotate_left
            · intro w'
              go_simp
              with_reducible rfl
            rotate_left
            · simp only [Act.put, List.setIfInBounds_toArray, List.set_cons_zero, List.set_cons_succ, i64_w, i32_w]
              rfl
            refine pure_ (i := 6) (N := some 134) (v := ?_) (a' := ?_) #[true, true, true, true, true, true, true, false, false, false, false, false, false, false, false, false, false, false, false, false, false, false, false, false, false, false, false] rfl rfl (by kernel_rfl) (fun _ _ _ h => h) (Or.inl ⟨by rfl, ?_⟩) ?_ ?_
            rotate_left
            · intro w'
              go_simp
              with_reducible rfl
            rotate_left
            · simp only [Act.put, List.setIfInBounds_toArray, List.set_cons_zero, List.set_cons_succ, i64_w, i32_w]
              rfl
            refine pure_ (i := 7) (N := some 135) (v := ?_) (a' := ?_) #[true, true, true, true, true, true, true, true, false, false, false, false, false, false, false, false, false, false, false, false, false, false, false, false, false, false, false] rfl rfl (by kernel_rfl) (fun _ _ _ h => h) (Or.inl ⟨by rfl, ?_⟩) ?_ ?_
            rotate_left
            · intro w'
              go_simp
              with_reducible rfl
            rotate_left
            · simp only [Act.put, List.setIfInBounds_toArray, List.set_cons_zero, List.set_cons_succ, i64_w, i32_w]
              rfl
            refine pure_ (i := 8) (N := some 136) (v := ?_) (a' := ?_) #[true, true, true, true, true, true, true, true, true, false, false, false, false, false, false, false, false, false, false, false, false, false, false, false, false, false, false] rfl rfl (by kernel_rfl) (fun _ _ _ h => h) (Or.inl ⟨by rfl, ?_⟩) ?_ ?_
            rotate_left
            · intro w'
              go_simp
              with_reducible rfl
            rotate_left
            · simp only [Act.put, List.setIfInBounds_toArray, List.set_cons_zero, List.set_cons_succ, i64_w, i32_w]
              rfl
            refine pure_ (i := 9) (N := some 137) (v := ?_) (a' := ?_) #[true, true, true, true, true, true, true, true, true, true, false, false, false, false, false, false, false, false, false, false, false, false, false, false, false, false, false] rfl rfl (by kernel_rfl) (fun _ _ _ h => h) (Or.inl ⟨by rfl, ?_⟩) ?_ ?_
            rotate_left
            · intro w'
              go_simp
              with_reducible rfl
            rotate_left
            · simp only [Act.put, List.setIfInBounds_toArray, List.set_cons_zero, List.set_cons_succ, i64_w, i32_w]
              rfl
            refine pure_ (i := 10) (N := some 138) (v := ?_) (a' := ?_) #[true, true, true, true, true, true, true, true, true, true, true, false, false, false, false, false, false, false, false, false, false, false, false, false, false, false, false] rfl rfl (by kernel_rfl) (fun _ _ _ h => h) (Or.inl ⟨by rfl, ?_⟩) ?_ ?_
            rotate_left
            · intro w'
              go_simp
              with_reducible rfl
            rotate_left
            · simp only [Act.put, List.setIfInBounds_toArray, List.set_cons_zero, List.set_cons_succ, i64_w, i32_w]
              rfl
            refine pure_ (i := 11) (N := some 139) (v := ?_) (a' := ?_) #[true, true, true, true, true, true, true, true, true, true, true, true, false, false, false, false, false, false, false, false, false, false, false, false, false, false, false] rfl rfl (by kernel_rfl) (fun _ _ _ h => h) (Or.inl ⟨by rfl, ?_⟩) ?_ ?_
            rotate_left
            · intro w'
              go_simp
              with_reducible rfl
            rotate_left
            · simp only [Act.put, List.setIfInBounds_toArray, List.set_cons_zero, List.set_cons_succ, i64_w, i32_w]
              rfl
            refine pure_ (i := 12) (N := some 140) (v := ?_) (a' := ?_) #[true, true, true, true, true, true, true, true, true, true, true, true, true, false, false, false, false, false, false, false, false, false, false, false, false, false, false] rfl rfl (by kernel_rfl) (fun _ _ _ h => h) (Or.inl ⟨by rfl, ?_⟩) ?_ ?_
            rotate_left
            · intro w'
              go_simp
              with_reducible rfl
            rotate_left
            · simp only [Act.put, List.setIfInBounds_toArray, List.set_cons_zero, List.set_cons_succ, i64_w, i32_w]
              rfl
            refine pure_ (i := 13) (N := some 141) (v := ?_) (a' := ?_) #[true, true, true, true, true, true, true, true, true, true, true, true, true, true, false, false, false, false, false, false, false, false, false, false, false, false, false] rfl rfl (by kernel_rfl) (fun _ _ _ h => h) (Or.inl ⟨by rfl, ?_⟩) ?_ ?_
            rotate_left
            · intro w'
              go_simp
              with_reducible rfl
            rotate_left
            · simp only [Act.put, List.setIfInBounds_toArray, List.set_cons_zero, List.set_cons_succ, i64_w, i32_w]
              rfl
            refine pure_ (i := 14) (N := some 142) (v := ?_) (a' := ?_) #[true, true, true, true, true, true, true, true, true, true, true, true, true, true, true, false, false, false, false, false, false, false, false, false, false, false, false] rfl rfl (by kernel_rfl) (fun _ _ _ h => h) (Or.inl ⟨by rfl, ?_⟩) ?_ ?_
            rotate_left
            · intro w'
              go_simp
              with_reducible rfl
            rotate_left
            · simp only [Act.put, List.setIfInBounds_toArray, List.set_cons_zero, List.set_cons_succ, i64_w, i32_w]
              rfl
            refine pure_ (i := 15) (N := some 143) (v := ?_) (a' := ?_) #[true, true, true, true, true, true, true, true, true, true, true, true, true, true, true, true, false, false, false, false, false, false, false, false, false, false, false] rfl rfl (by kernel_rfl) (fun _ _ _ h => h) (Or.inl ⟨by rfl, ?_⟩) ?_ ?_
            rotate_left
            · intro w'
              go_simp
              with_reducible rfl
            rotate_left
            · simp only [Act.put, List.setIfInBounds_toArray, List.set_cons_zero, List.set_cons_succ, i64_w, i32_w]
              rfl
            refine pure_ (i := 16) (N := some 144) (v := ?_) (a' := ?_) #[true, true, true, true, true, true, true, true, true, true, true, true, true, true, true, true, true, false, false, false, false, false, false, false, false, false, false] rfl rfl (by kernel_rfl) (fun _ _ _ h => h) (Or.inl ⟨by rfl, ?_⟩) ?_ ?_
            rotate_left
            · intro w'
              go_simp
              with_reducible rfl
            rotate_left
            · simp only [Act.put, List.setIfInBounds_toArray, List.set_cons_zero, List.set_cons_succ, i64_w, i32_w]
              rfl
            refine pure_ (i := 17) (N := some 145) (v := ?_) (a' := ?_) #[true, true, true, true, true, true, true, true, true, true, true, true, true, true, true, true, true, true, false, false, false, false, false, false, false, false, false] rfl rfl (by kernel_rfl) (fun _ _ _ h => h) (Or.inl ⟨by rfl, ?_⟩) ?_ ?_
            rotate_left
            · intro w'
              go_simp
              with_reducible rfl
            rotate_left
            · simp only [Act.put, List.setIfInBounds_toArray, List.set_cons_zero, List.set_cons_succ, i64_w, i32_w]
              rfl
            refine take_ (i := 18) (N := some 146) (v := ?_) (a' := ?_) #[true, true, true, true, true, true, true, true, true, true, true, true, true, true, true, true, true, true, true, false, false, false, false, false, false, false, false] rfl rfl (by kernel_rfl) (fun _ _ _ h => h) (Or.inl ⟨by rfl, ?_⟩) hHeld ?_ ?_
            rotate_left
            · rintro w' ⟨s0, s1⟩
              go_simp
              with_reducible rfl
            rotate_left
            · simp only [Act.put, List.setIfInBounds_toArray, List.set_cons_zero, List.set_cons_succ, i64_w, i32_w]
              rfl
            refine pure_ (i := 19) (N := some 147) (v := ?_) (a' := ?_) #[true, true, true, true, true, true, true, true, true, true, true, true, true, true, true, true, true, true, true, true, false, false, false, false, false, false, false] rfl rfl (by kernel_rfl) (fun _ _ _ h => h) (Or.inl ⟨by rfl, ?_⟩) ?_ ?_
            rotate_left
            · intro w'
              go_simp
              with_reducible rfl
            rotate_left
            · simp only [Act.put, List.setIfInBounds_toArray, List.set_cons_zero, List.set_cons_succ, i64_w, i32_w]
              rfl
            refine pure_ (i := 20) (N := some 148) (v := ?_) (a' := ?_) #[true, true, true, true, true, true, true, true, true, true, true, true, true, true, true, true, true, true, true, true, true, false, false, false, false, false, false] rfl rfl (by kernel_rfl) (fun _ _ _ h => h) (Or.inl ⟨by rfl, ?_⟩) ?_ ?_
            rotate_left
            · intro w'
              go_simp
              with_reducible rfl
            rotate_left
            · simp only [Act.put, List.setIfInBounds_toArray, List.set_cons_zero, List.set_cons_succ, i64_w, i32_w]
              rfl
            refine pure_ (i := 21) (N := some 149) (v := ?_) (a' := ?_) #[true, true, true, true, true, true, true, true, true, true, true, true, true, true, true, true, true, true, true, true, true, true, false, false, false, false, false] rfl rfl (by kernel_rfl) (fun _ _ _ h => h) (Or.inl ⟨by rfl, ?_⟩) ?_ ?_
            rotate_left
            · intro w'
              go_simp
              with_reducible rfl
            rotate_left
            · simp only [Act.put, List.setIfInBounds_toArray, List.set_cons_zero, List.set_cons_succ, i64_w, i32_w]
              rfl
            refine take_ (i := 22) (N := some 150) (v := ?_) (a' := ?_) #[true, true, true, true, true, true, true, true, true, true, true, true, true, true, true, true, true, true, true, true, true, true, true, false, false, false, false] rfl rfl (by kernel_rfl) (fun _ _ _ h => h) (Or.inl ⟨by rfl, ?_⟩) hHeld ?_ ?_
            rotate_left
            · rintro w' ⟨s0, s1⟩
              go_simp
              with_reducible rfl
            rotate_left
            · simp only [Act.put, List.setIfInBounds_toArray, List.set_cons_zero, List.set_cons_succ, i64_w, i32_w]
              rfl
            refine one_ (i := 23) (N := some 151) #[true, true, true, true, true, true, true, true, true, true, true, true, true, true, true, true, true, true, true, true, true, true, true, true, false, false, false] rfl rfl (by kernel_rfl) (by decide) (fun K hK => ?_)
            refine goes_ Try.func37 (by kernel_rfl) rfl #[.slice Aj z.length cj, .slice Ax x.length cx] (by rfl) rfl rfl (by (try simp only [List.map_toArray, List.map_cons, List.map_nil]); first | done | rfl) ?_
            refine CB.out.mono ?_
            rintro e wj ⟨rfl, ⟨⟨m, rfl⟩⟩⟩
            refine ⟨_, rfl, ?_⟩
            refine hK.out _ _ hHeld (fun hHeld => ?_)
            clear hK K
            refine norm_ (a' := ?_) ?_ ?_
            rotate_left
            · show Act.put _ (some 151) _ = _
              simp only [Act.put, List.setIfInBounds_toArray, List.set_cons_zero, List.set_cons_succ, i64_w, i32_w]
              rfl
            refine pure_ (i := 24) (N := some 152) (v := ?_) (a' := ?_) #[true, true, true, true, true, true, true, true, true, true, true, true, true, true, true, true, true, true, true, true, true, true, true, true, true, false, false] rfl rfl (by kernel_rfl) (fun _ _ _ h => h) (Or.inl ⟨by rfl, ?_⟩) ?_ ?_
            rotate_left
            · intro w'
              go_simp
              with_reducible rfl
            rotate_left
            · simp only [Act.put, List.setIfInBounds_toArray, List.set_cons_zero, List.set_cons_succ, i64_w, i32_w]
              rfl
            refine pure_ (i := 25) (N := some 153) (v := ?_) (a' := ?_) #[true, true, true, true, true, true, true, true, true, true, true, true, true, true, true, true, true, true, true, true, true, true, true, true, true, true, false] rfl rfl (by kernel_rfl) (fun _ _ _ h => h) (Or.inl ⟨by rfl, ?_⟩) ?_ ?_
            rotate_left
            · intro w'
              go_simp
              with_reducible rfl
            rotate_left
            · simp only [Act.put, List.setIfInBounds_toArray, List.set_cons_zero, List.set_cons_succ, i64_w, i32_w]
              rfl
            refine pure_ (i := 26) (N := some 154) (v := ?_) (a' := ?_) #[true, true, true, true, true, true, true, true, true, true, true, true, true, true, true, true, true, true, true, true, true, true, true, true, true, true, true] rfl rfl (by kernel_rfl) (fun _ _ _ h => h) (Or.inl ⟨by rfl, ?_⟩) ?_ ?_
            rotate_left
            · intro w'
              go_simp
              with_reducible rfl
            rotate_left
            · simp only [Act.put, List.setIfInBounds_toArray, List.set_cons_zero, List.set_cons_succ, i64_w, i32_w]
              rfl
            refine done_ (by kernel_rfl) ?_
            have HBj := Aside0.mk (pw_below_drewN HBh.out (1 + m))
            go_wp2
            refine ⟨⟨i + 1, ⟨by omega⟩, by go_num, ⟨HBj.out⟩⟩, ?_⟩
            simp [intOf]; omega
        · have hie : i = T.length := by have := hi.out; omega
          subst hie
          have HBW := Aside0.mk (below_then HBg.out HBg.out.size HBR.out)
          have K0r := Aside0.mk (blk_below K0g.out HBR.out)
          have K1r := Aside0.mk (blk_below K1g.out HBR.out)
          obtain ⟨r0, r1⟩ := cells2 K0r.out
          obtain ⟨b0, b1, b2, b3, b4, b5, b6, b7⟩ := cells8 K1r.out
          have HCR := Aside0.mk (Kd.C_below HCV.out HBR.out)
          have H29' := H29.out
          simp only [if_pos HL.out] at H29'
          by_cases hcd : isCodeB (n : Int) (s : Int) cd = true
          case neg =>
            simp only [if_neg hcd] at H29'
            have CC := Aside0.mk (H29' wr HBW.out)
            clear H29' hcd
            go_wp2_with (first
              | (go_at_call 29; refine CC.out.mono ?_; rintro e wk ⟨rfl, hb⟩; have HBk := Aside0.mk (below_then HBW.out HBW.out.size hb); clear hb)
              | (go_at_call 20; refine (padlocklaw01_works.calls true _ rfl).mono ?_; rintro e w5 ⟨rfl, hb4⟩))
            go_ret
            exact ⟨rfl, below_then HBk.out HBk.out.size hb4⟩
          case pos =>
            simp only [if_pos hcd] at H29'
            have CC := Aside0.mk (H29' wr HBW.out)
            have hfc := HFIT.out cd hcd
            have hiff := HMEM.out cd hcd
            obtain ⟨ix, hix⟩ : ∃ ix, ix = idxI (fun q => !holdsC q cd) l := ⟨_, rfl⟩
            rw [← hix] at hfc
            obtain ⟨isb, hisb⟩ : ∃ b, b = fitsAll l cd := ⟨_, rfl⟩
            rw [← hisb] at hfc hiff
            have HIFF := Aside0.mk hiff
            have H22c := Aside0.mk fun w1 (h1 : Below w.heap.size w w1) => codes_Fits.calls n s A1 c1 l A3 c3 cd ix isb 0 w1 (Kd.C_below G1.out h1) e1 (Kd.C_below G3.out h1) e3 (by rw [Fits_eq, hfc])
            clear H29' hcd hfc hiff hix hisb
            go_wp2_with (first
              | (go_at_call 29; refine CC.out.mono ?_; rintro e wk ⟨rfl, hb⟩; have HBk := Aside0.mk (below_then HBW.out HBW.out.size hb); have HCk := Aside0.mk (Kd.C_below HCR.out hb); have K0k := Aside0.mk (blk_below K0r.out hb); have K1k := Aside0.mk (blk_below K1r.out hb); clear hb r0 r1 b0 b1 b2 b3 b4 b5 b6 b7; obtain ⟨r0, r1⟩ := cells2 K0k.out; obtain ⟨b0, b1, b2, b3, b4, b5, b6, b7⟩ := cells8 K1k.out)
              | (go_at_call 22; refine (H22c.out _ HBk.out).mono ?_; rintro e wm ⟨rfl, hb⟩; have HBm := Aside0.mk (below_then HBk.out HBk.out.size hb); have HCm := Aside0.mk (Kd.C_below HCk.out hb); have K1m := Aside0.mk (blk_below K1k.out hb); clear hb r0 r1 b0 b1 b2 b3 b4 b5 b6 b7))
            go_loopw [21, 22] (fun v21 v22 wr => ∃ (i : Nat) (b : Bool), Aside0 (i ≤ T.length) ∧ v22 = .int .i64 i ∧ v21 = .bool b ∧ Aside0 (b = decide (cd ∈ T.take i)) ∧ Aside0 (Below wm.heap.size wm wr)) (fun _ v22 _ => T.length - (intOf v22).toNat)
            case atStart => exact ⟨0, false, ⟨Nat.zero_le _⟩, rfl, rfl, ⟨by simp⟩, ⟨Below.refl _ _⟩⟩
            case round =>
              clear HBR hi hlt HBk HCk K0k K1k K0r K1r HCR HBW CC K0g K1g HBg
              obtain ⟨i, b, hi, rfl, rfl, HBI, HBR⟩ := hrel
              by_cases hlt : i < T.length
              · obtain ⟨adv, Ax, cx, e0, hcx, hlx, hix⟩ := at_L2 HCm.out (i : Int) (by omega) (by omega)
                subst e0
                rw [Int.toNat_natCast] at hcx
                replace hcx := (HBR.out.cell (World.block_lt_of_cell? wm _ hcx)).trans hcx
                rw [rdL_get' T i hlt] at hcx hlx hix
                have hnext : decide (cd ∈ T.take (i + 1)) = (decide (cd ∈ T.take i) || decide (T[i] = cd)) := ex_next T cd i hlt
                rw [← HBI.out] at hnext
                obtain ⟨x, hx⟩ : ∃ x, x = T[i] := ⟨_, rfl⟩
                rw [← hx] at hcx hlx hix hnext
                have HN := Aside0.mk hnext
                have hxm : x.length ≤ 9223372036854775807 := Kd.C_max hix
                obtain ⟨ks, hks⟩ := (SameInts_ev x cd hxm).rounds
                have CS := Aside0.mk (padlockref01_SameInts.calls ks Ax cx x A3 c3 cd _ wr.drew (Kd.C_drew (Kd.C_below hix HBR.out)) hlx (Kd.C_drew (Kd.C_below G3.out (below_then HBm.out HBm.out.size HBR.out))) e3 hks)
                obtain ⟨r0, r1, r2, r3, r4, r5, r6, hc7⟩ := cells8 (blk_below K1m.out HBR.out)
                clear hx hix hxm hks hnext r0 r1 r2 r3 r4 r5 r6
                go_wp2
                cases b
                · skip
                  refine start_ (n := 11) (S := fun w' => w'.cell? (adv.add i) = some (.slice Ax x.length cx) ∧ w'.cell? ⟨w.heap.size + 1, 7, none⟩ = some (.slice A3 cd.length c3)) (ds := []) #[false, false, false, false, false, false, false, false, false, false, false] (by kernel_rfl) rfl rfl ⟨hcx, hc7⟩ (fun hHeld => ?_)
                  refine pure_ (i := 0) (N := some 176) (v := ?_) (a' := ?_) #[true, false, false, false, false, false, false, false, false, false, false] rfl rfl (by kernel_rfl) (fun _ _ _ h => h) (Or.inl ⟨by rfl, ?_⟩) ?_ ?_
                  rotate_left
                  · intro w'
                    go_simp
                    with_reducible rfl
                  rotate_left
                  · simp only [Act.put, List.setIfInBounds_toArray, List.set_cons_zero, List.set_cons_succ, i64_w, i32_w]
                    rfl
                  refine pure_ (i := 1) (N := some 177) (v := ?_) (a' := ?_) #[true, true, false, false, false, false, false, false, false, false, false] rfl rfl (by kernel_rfl) (fun _ _ _ h => h) (Or.inl ⟨by rfl, ?_⟩) ?_ ?_
                  rotate_left
                  · intro w'
                    go_simp
                    with_reducible rfl
                  rotate_left
                  · simp only [Act.put, List.setIfInBounds_toArray, List.set_cons_zero, List.set_cons_succ, i64_w, i32_w]
                    rfl
                  refine pure_ (i := 2) (N := some 178) (v := ?_) (a' := ?_) #[true, true, true, false, false, false, false, false, false, false, false] rfl rfl (by kernel_rfl) (fun _ _ _ h => h) (Or.inl ⟨by rfl, ?_⟩) ?_ ?_
                  rotate_left
                  · intro w'
                    go_simp
                    with_reducible rfl
                  rotate_left
                  · simp only [Act.put, List.setIfInBounds_toArray, List.set_cons_zero, List.set_cons_succ, i64_w, i32_w]
                    rfl
                  refine pure_ (i := 3) (N := some 179) (v := ?_) (a' := ?_) #[true, true, true, true, false, false, false, false, false, false, false] rfl rfl (by kernel_rfl) (fun _ _ _ h => h) (Or.inl ⟨by rfl, ?_⟩) ?_ ?_
                  rotate_left
                  · intro w'
                    go_simp
                    with_reducible rfl
                  rotate_left
                  · simp only [Act.put, List.setIfInBounds_toArray, List.set_cons_zero, List.set_cons_succ, i64_w, i32_w]
                    rfl
                  refine pure_ (i := 4) (N := some 180) (v := ?_) (a' := ?_) #[true, true, true, true, true, false, false, false, false, false, false] rfl rfl (by kernel_rfl) (fun _ _ _ h => h) (Or.inl ⟨by rfl, ?_⟩) ?_ ?_
                  rotate_left
                  · intro w'
                    go_simp
                    with_reducible rfl
                  rotate_left
                  · simp only [Act.put, List.setIfInBounds_toArray, List.set_cons_zero, List.set_cons_succ, i64_w, i32_w]
                    rfl
                  refine take_ (i := 5) (N := some 181) (v := ?_) (a' := ?_) #[true, true, true, true, true, true, false, false, false, false, false] rfl rfl (by kernel_rfl) (fun _ _ _ h => h) (Or.inl ⟨by rfl, ?_⟩) hHeld ?_ ?_
                  rotate_left
                  · rintro w' ⟨s0, s1⟩
                    go_simp
                    with_reducible rfl
                  rotate_left
                  · simp only [Act.put, List.setIfInBounds_toArray, List.set_cons_zero, List.set_cons_succ, i64_w, i32_w]
                    rfl
                  refine pure_ (i := 6) (N := some 182) (v := ?_) (a' := ?_) #[true, true, true, true, true, true, true, false, false, false, false] rfl rfl (by kernel_rfl) (fun _ _ _ h => h) (Or.inl ⟨by rfl, ?_⟩) ?_ ?_
                  rotate_left
                  · intro w'
                    go_simp
                    with_reducible rfl
                  rotate_left
                  · simp only [Act.put, List.setIfInBounds_toArray, List.set_cons_zero, List.set_cons_succ, i64_w, i32_w]
                    rfl
                  refine take_ (i := 7) (N := some 183) (v := ?_) (a' := ?_) #[true, true, true, true, true, true, true, true, false, false, false] rfl rfl (by kernel_rfl) (fun _ _ _ h => h) (Or.inl ⟨by rfl, ?_⟩) hHeld ?_ ?_
                  rotate_left
                  · rintro w' ⟨s0, s1⟩
                    go_simp
                    with_reducible rfl
                  rotate_left
                  · simp only [Act.put, List.setIfInBounds_toArray, List.set_cons_zero, List.set_cons_succ, i64_w, i32_w]
                    rfl
                  refine one_ (i := 8) (N := some 184) #[true, true, true, true, true, true, true, true, true, false, false] rfl rfl (by kernel_rfl) (by decide) (fun K hK => ?_)
                  refine goes_ Try.func21 (by kernel_rfl) rfl #[.slice Ax x.length cx, .slice A3 cd.length c3] (by rfl) rfl rfl (by (try simp only [List.map_toArray, List.map_cons, List.map_nil]); first | done | rfl) ?_
                  refine CS.out.mono ?_
                  rintro e wj ⟨rfl, ⟨⟨m, rfl⟩⟩⟩
                  refine ⟨_, rfl, ?_⟩
                  refine hK.out _ _ hHeld (fun hHeld => ?_)
                  clear hK K
                  refine norm_ (a' := ?_) ?_ ?_
                  rotate_left
                  · show Act.put _ (some 184) _ = _
                    simp only [Act.put, List.setIfInBounds_toArray, List.set_cons_zero, List.set_cons_succ, i64_w, i32_w]
                    rfl
                  refine pure_ (i := 9) (N := some 185) (v := ?_) (a' := ?_) #[true, true, true, true, true, true, true, true, true, true, false] rfl rfl (by kernel_rfl) (fun _ _ _ h => h) (Or.inl ⟨by rfl, ?_⟩) ?_ ?_
                  rotate_left
                  · intro w'
                    go_simp
                    with_reducible rfl
                  rotate_left
                  · simp only [Act.put, List.setIfInBounds_toArray, List.set_cons_zero, List.set_cons_succ, i64_w, i32_w]
                    rfl
                  refine pure_ (i := 10) (N := some 21) (v := ?_) (a' := ?_) #[true, true, true, true, true, true, true, true, true, true, true] rfl rfl (by kernel_rfl) (fun _ _ _ h => h) (Or.inl ⟨by rfl, ?_⟩) ?_ ?_
                  rotate_left
                  · intro w'
                    go_simp
                    with_reducible rfl
                  rotate_left
                  · simp only [Act.put, List.setIfInBounds_toArray, List.set_cons_zero, List.set_cons_succ, i64_w, i32_w]
                    rfl
                  refine done_ (by kernel_rfl) ?_
                  have HBj := Aside0.mk (pw_below_drewN HBR.out (1 + m))
                  go_wp2
                  refine ⟨⟨i + 1, decide (x = cd), ⟨by omega⟩, by go_num, rfl, ⟨by rw [HN.out]; rfl⟩, ⟨HBj.out⟩⟩, ?_⟩
                  simp [intOf]; omega
                · skip
                  refine start_ (n := 11) (S := fun _ => True) (ds := []) #[false, false, false, false, false, false, false, false, false, false, false] (by kernel_rfl) rfl rfl trivial (fun hHeld => ?_)
                  refine pure_ (i := 0) (N := some 176) (v := ?_) (a' := ?_) #[true, false, false, false, false, false, false, false, false, false, false] rfl rfl (by kernel_rfl) (fun _ _ _ h => h) (Or.inl ⟨by rfl, ?_⟩) ?_ ?_
                  rotate_left
                  · intro w'
                    go_simp
                    with_reducible rfl
                  rotate_left
                  · simp only [Act.put, List.setIfInBounds_toArray, List.set_cons_zero, List.set_cons_succ, i64_w, i32_w]
                    rfl
                  refine pure_ (i := 1) (N := some 177) (v := ?_) (a' := ?_) #[true, true, false, false, false, false, false, false, false, false, false] rfl rfl (by kernel_rfl) (fun _ _ _ h => h) (Or.inl ⟨by rfl, ?_⟩) ?_ ?_
                  rotate_left
                  · intro w'
                    go_simp
                    with_reducible rfl
                  rotate_left
                  · simp only [Act.put, List.setIfInBounds_toArray, List.set_cons_zero, List.set_cons_succ, i64_w, i32_w]
                    rfl
                  refine pure_ (i := 2) (N := some 178) (v := undef) (a' := ?_) #[true, true, true, false, false, false, false, false, false, false, false] rfl rfl (by kernel_rfl) (fun _ _ _ h => h) (Or.inr ⟨by rfl, rfl⟩) ?_ ?_
                  rotate_left
                  · simp only [Act.put, List.setIfInBounds_toArray, List.set_cons_zero, List.set_cons_succ, i64_w, i32_w]
                    rfl
                  refine pure_ (i := 3) (N := some 179) (v := undef) (a' := ?_) #[true, true, true, true, false, false, false, false, false, false, false] rfl rfl (by kernel_rfl) (fun _ _ _ h => h) (Or.inr ⟨by rfl, rfl⟩) ?_ ?_
                  rotate_left
                  · simp only [Act.put, List.setIfInBounds_toArray, List.set_cons_zero, List.set_cons_succ, i64_w, i32_w]
                    rfl
                  refine pure_ (i := 4) (N := some 180) (v := undef) (a' := ?_) #[true, true, true, true, true, false, false, false, false, false, false] rfl rfl (by kernel_rfl) (fun _ _ _ h => h) (Or.inr ⟨by rfl, rfl⟩) ?_ ?_
                  rotate_left
                  · simp only [Act.put, List.setIfInBounds_toArray, List.set_cons_zero, List.set_cons_succ, i64_w, i32_w]
                    rfl
                  refine pure_ (i := 5) (N := some 181) (v := undef) (a' := ?_) #[true, true, true, true, true, true, false, false, false, false, false] rfl rfl (by kernel_rfl) (fun _ _ _ h => h) (Or.inr ⟨by rfl, rfl⟩) ?_ ?_
                  rotate_left
                  · simp only [Act.put, List.setIfInBounds_toArray, List.set_cons_zero, List.set_cons_succ, i64_w, i32_w]
                    rfl
                  refine pure_ (i := 6) (N := some 182) (v := undef) (a' := ?_) #[true, true, true, true, true, true, true, false, false, false, false] rfl rfl (by kernel_rfl) (fun _ _ _ h => h) (Or.inr ⟨by rfl, rfl⟩) ?_ ?_
                  rotate_left
                  · simp only [Act.put, List.setIfInBounds_toArray, List.set_cons_zero, List.set_cons_succ, i64_w, i32_w]
                    rfl
                  refine pure_ (i := 7) (N := some 183) (v := undef) (a' := ?_) #[true, true, true, true, true, true, true, true, false, false, false] rfl rfl (by kernel_rfl) (fun _ _ _ h => h) (Or.inr ⟨by rfl, rfl⟩) ?_ ?_
                  rotate_left
                  · simp only [Act.put, List.setIfInBounds_toArray, List.set_cons_zero, List.set_cons_succ, i64_w, i32_w]
                    rfl
                  refine pure_ (i := 8) (N := some 184) (v := undef) (a' := ?_) #[true, true, true, true, true, true, true, true, true, false, false] rfl rfl (by kernel_rfl) (fun _ _ _ h => h) (Or.inr ⟨by rfl, rfl⟩) ?_ ?_
                  rotate_left
                  · simp only [Act.put, List.setIfInBounds_toArray, List.set_cons_zero, List.set_cons_succ, i64_w, i32_w]
                    rfl
                  refine pure_ (i := 9) (N := some 185) (v := ?_) (a' := ?_) #[true, true, true, true, true, true, true, true, true, true, false] rfl rfl (by kernel_rfl) (fun _ _ _ h => h) (Or.inl ⟨by rfl, ?_⟩) ?_ ?_
                  rotate_left
                  · intro w'
                    go_simp
                    with_reducible rfl
                  rotate_left
                  · simp only [Act.put, List.setIfInBounds_toArray, List.set_cons_zero, List.set_cons_succ, i64_w, i32_w]
                    rfl
                  refine pure_ (i := 10) (N := some 21) (v := ?_) (a' := ?_) #[true, true, true, true, true, true, true, true, true, true, true] rfl rfl (by kernel_rfl) (fun _ _ _ h => h) (Or.inl ⟨by rfl, ?_⟩) ?_ ?_
                  rotate_left
                  · intro w'
                    go_simp
                    with_reducible rfl
                  rotate_left
                  · simp only [Act.put, List.setIfInBounds_toArray, List.set_cons_zero, List.set_cons_succ, i64_w, i32_w]
                    rfl
                  refine done_ (by kernel_rfl) ?_
                  go_wp2
                  refine ⟨⟨i + 1, true, ⟨by omega⟩, by go_num, rfl, ⟨by rw [HN.out]; rfl⟩, ⟨below_drew1 HBR.out⟩⟩, ?_⟩
                  simp [intOf]; omega
              · have hie : i = T.length := by have := hi.out; omega
                have hbt := HBI.out
                rw [hie, List.take_length] at hbt
                have hcore := ex_core al T HSORT.out HT.out cd isb b HIFF.out hbt
                subst hie
                clear HBI hbt
                have HBW := Aside0.mk (below_then HBm.out HBm.out.size HBR.out)
                by_cases hbig : T.length < al.length
                · have hgt : decide (T.length < al.length) = true := decide_eq_true hbig
                  obtain ⟨hT64, hc2⟩ := hcore.1 hbig
                  obtain ⟨j, hj⟩ : ∃ j, j = T.length - 1 := ⟨_, rfl⟩
                  have hjT : j < T.length := by omega
                  have hsub := ex_sub T.length j hj (by omega) (by omega)
                  obtain ⟨adv, Aj, cj, ej, hcj, hlj, hij⟩ := at_L2 HCm.out (j : Int) (by omega) (by omega)
                  subst ej
                  rw [Int.toNat_natCast] at hcj
                  rw [rdL_get' T j hjT] at hcj hlj hij
                  replace hc2 := hc2 j hjT (by omega)
                  obtain ⟨z, hz⟩ : ∃ z, z = T[j] := ⟨_, rfl⟩
                  rw [← hz] at hcj hlj hij hc2
                  obtain ⟨kb, hkb⟩ := (before_ev cd z (Kd.C_max G3.out)).rounds
                  obtain ⟨lb, hlb⟩ : ∃ lb, lb = lexLt cd z := ⟨_, rfl⟩
                  rw [← hlb] at hkb hc2
                  have hcjw := (HBR.out.cell (World.block_lt_of_cell? wm _ hcj)).trans hcj
                  have CB := Aside0.mk (padlocklaw01_before.calls kb A3 c3 cd Aj cj z lb wr.drew (Kd.C_drew (Kd.C_below G3.out HBW.out)) e3 (Kd.C_drew (Kd.C_below hij HBR.out)) hlj hkb)
                  obtain ⟨r0, r1, r2, r3, r4, r5, r6, hc7⟩ := cells8 (blk_below K1m.out HBR.out)
                  have HC2 := Aside0.mk hc2
                  clear hT64 hc2 hz hlb hkb hlj hij hcj hj r0 r1 r2 r3 r4 r5 r6 hcore
                  go_wp2
                  refine start_ (n := 17) (S := fun w' => w'.cell? (adv.add j) = some (.slice Aj z.length cj) ∧ w'.cell? ⟨w.heap.size + 1, 7, none⟩ = some (.slice A3 cd.length c3)) (ds := []) #[false, false, false, false, false, false, false, false, false, false, false, false, false, false, false, false, false] (by kernel_rfl) rfl rfl ⟨hcjw, hc7⟩ (fun hHeld => ?_)
                  refine pure_ (i := 0) (N := some 186) (v := ?_) (a' := ?_) #[true, false, false, false, false, false, false, false, false, false, false, false, false, false, false, false, false] rfl rfl (by kernel_rfl) (fun _ _ _ h => h) (Or.inl ⟨by rfl, ?_⟩) ?_ ?_
                  rotate_left
                  · intro w'
                    go_simp
                    with_reducible rfl
                  rotate_left
                  · simp only [Act.put, List.setIfInBounds_toArray, List.set_cons_zero, List.set_cons_succ, i64_w, i32_w]
                    rfl
                  refine pure_ (i := 1) (N := some 187) (v := ?_) (a' := ?_) #[true, true, false, false, false, false, false, false, false, false, false, false, false, false, false, false, false] rfl rfl (by kernel_rfl) (fun _ _ _ h => h) (Or.inl ⟨by rfl, ?_⟩) ?_ ?_
                  rotate_left
                  · intro w'
                    go_simp
                    with_reducible rfl
                  rotate_left
                  · simp only [Act.put, List.setIfInBounds_toArray, List.set_cons_zero, List.set_cons_succ, i64_w, i32_w]
                    rfl
                  refine pure_ (i := 2) (N := some 188) (v := ?_) (a' := ?_) #[true, true, true, false, false, false, false, false, false, false, false, false, false, false, false, false, false] rfl rfl (by kernel_rfl) (fun _ _ _ h => h) (Or.inl ⟨by rfl, ?_⟩) ?_ ?_
                  rotate_left
                  · intro w'
                    go_simp
                    with_reducible rfl
                  rotate_left
                  · simp only [Act.put, List.setIfInBounds_toArray, List.set_cons_zero, List.set_cons_succ, i64_w, i32_w]
                    rfl
                  refine pure_ (i := 3) (N := some 189) (v := ?_) (a' := ?_) #[true, true, true, true, false, false, false, false, false, false, false, false, false, false, false, false, false] rfl rfl (by kernel_rfl) (fun _ _ _ h => h) (Or.inl ⟨by rfl, ?_⟩) ?_ ?_
                  rotate_left
                  · intro w'
                    go_simp
                    with_reducible rfl
                  rotate_left
                  · simp only [Act.put, List.setIfInBounds_toArray, List.set_cons_zero, List.set_cons_succ, i64_w, i32_w]
                    rfl
                  refine pure_ (i := 4) (N := some 190) (v := ?_) (a' := ?_) #[true, true, true, true, true, false, false, false, false, false, false, false, false, false, false, false, false] rfl rfl (by kernel_rfl) (fun _ _ _ h => h) (Or.inl ⟨by rfl, ?_⟩) ?_ ?_
                  rotate_left
                  · intro w'
                    go_simp
                    with_reducible rfl
                  rotate_left
                  · simp only [Act.put, List.setIfInBounds_toArray, List.set_cons_zero, List.set_cons_succ, i64_w, i32_w]
                    rfl
                  refine pure_ (i := 5) (N := some 191) (v := ?_) (a' := ?_) #[true, true, true, true, true, true, false, false, false, false, false, false, false, false, false, false, false] rfl rfl (by kernel_rfl) (fun _ _ _ h => h) (Or.inl ⟨by rfl, ?_⟩) ?_ ?_
                  rotate_left
                  · intro w'
                    go_simp
                    with_reducible rfl
                  rotate_left
                  · simp only [Act.put, List.setIfInBounds_toArray, List.set_cons_zero, List.set_cons_succ, i64_w, i32_w]
                    rfl
                  refine take_ (i := 6) (N := some 192) (v := ?_) (a' := ?_) #[true, true, true, true, true, true, true, false, false, false, false, false, false, false, false, false, false] rfl rfl (by kernel_rfl) (fun _ _ _ h => h) (Or.inl ⟨by rfl, ?_⟩) hHeld ?_ ?_
                  rotate_left
                  · rintro w' ⟨s0, s1⟩
                    go_simp
                    with_reducible rfl
                  rotate_left
                  · simp only [Act.put, List.setIfInBounds_toArray, List.set_cons_zero, List.set_cons_succ, i64_w, i32_w]
                    rfl
                  refine pure_ (i := 7) (N := some 193) (v := ?_) (a' := ?_) #[true, true, true, true, true, true, true, true, false, false, false, false, false, false, false, false, false] rfl rfl (by kernel_rfl) (fun _ _ _ h => h) (Or.inl ⟨by rfl, ?_⟩) ?_ ?_
                  rotate_left
                  · intro w'
                    go_simp
                    with_reducible rfl
                  rotate_left
                  · simp only [Act.put, List.setIfInBounds_toArray, List.set_cons_zero, List.set_cons_succ, i64_w, i32_w]
                    rfl
                  refine pure_ (i := 8) (N := some 194) (v := ?_) (a' := ?_) #[true, true, true, true, true, true, true, true, true, false, false, false, false, false, false, false, false] rfl rfl (by kernel_rfl) (fun _ _ _ h => h) (Or.inl ⟨by rfl, ?_⟩) ?_ ?_
                  rotate_left
                  · intro w'
                    go_simp
                    with_reducible rfl
                  rotate_left
                  · simp only [Act.put, List.setIfInBounds_toArray, List.set_cons_zero, List.set_cons_succ, i64_w, i32_w]
                    rfl
                  refine pure_ (i := 9) (N := some 195) (v := ?_) (a' := ?_) #[true, true, true, true, true, true, true, true, true, true, false, false, false, false, false, false, false] rfl rfl (by kernel_rfl) (fun _ _ _ h => h) (Or.inl ⟨by rfl, ?_⟩) ?_ ?_
                  rotate_left
                  · intro w'
                    go_simp
                    with_reducible rfl
                  rotate_left
                  · simp only [Act.put, List.setIfInBounds_toArray, List.set_cons_zero, List.set_cons_succ, i64_w, i32_w]
                    rfl
                  refine pure_ (i := 10) (N := some 196) (v := ?_) (a' := ?_) #[true, true, true, true, true, true, true, true, true, true, true, false, false, false, false, false, false] rfl rfl (by kernel_rfl) (fun _ _ _ h => h) (Or.inl ⟨by rfl, ?_⟩) ?_ ?_
                  rotate_left
                  · intro w'
                    go_simp
                    with_reducible rfl
                  rotate_left
                  · simp only [Act.put, List.setIfInBounds_toArray, List.set_cons_zero, List.set_cons_succ, i64_w, i32_w]
                    rfl
                  refine pure_ (i := 11) (N := some 197) (v := ?_) (a' := ?_) #[true, true, true, true, true, true, true, true, true, true, true, true, false, false, false, false, false] rfl rfl (by kernel_rfl) (fun _ _ _ h => h) (Or.inl ⟨by rfl, ?_⟩) ?_ ?_
                  rotate_left
                  · intro w'
                    go_simp
                    with_reducible rfl
                  rotate_left
                  · simp only [Act.put, List.setIfInBounds_toArray, List.set_cons_zero, List.set_cons_succ, i64_w, i32_w]
                    rfl
                  refine take_ (i := 12) (N := some 198) (v := ?_) (a' := ?_) #[true, true, true, true, true, true, true, true, true, true, true, true, true, false, false, false, false] rfl rfl (by kernel_rfl) (fun _ _ _ h => h) (Or.inl ⟨by rfl, ?_⟩) hHeld ?_ ?_
                  rotate_left
                  · rintro w' ⟨s0, s1⟩
                    go_simp
                    with_reducible rfl
                  rotate_left
                  · simp only [Act.put, List.setIfInBounds_toArray, List.set_cons_zero, List.set_cons_succ, i64_w, i32_w]
                    rfl
                  refine one_ (i := 13) (N := some 199) #[true, true, true, true, true, true, true, true, true, true, true, true, true, true, false, false, false] rfl rfl (by kernel_rfl) (by decide) (fun K hK => ?_)
                  refine goes_ Try.func37 (by kernel_rfl) rfl #[.slice A3 cd.length c3, .slice Aj z.length cj] (by rfl) rfl rfl (by (try simp only [List.map_toArray, List.map_cons, List.map_nil]); first | done | rfl) ?_
                  refine CB.out.mono ?_
                  rintro e wj ⟨rfl, ⟨⟨m, rfl⟩⟩⟩
                  refine ⟨_, rfl, ?_⟩
                  refine hK.out _ _ hHeld (fun hHeld => ?_)
                  clear hK K
                  refine norm_ (a' := ?_) ?_ ?_
                  rotate_left
                  · show Act.put _ (some 199) _ = _
                    simp only [Act.put, List.setIfInBounds_toArray, List.set_cons_zero, List.set_cons_succ, i64_w, i32_w]
                    rfl
                  refine pure_ (i := 14) (N := some 200) (v := ?_) (a' := ?_) #[true, true, true, true, true, true, true, true, true, true, true, true, true, true, true, false, false] rfl rfl (by kernel_rfl) (fun _ _ _ h => h) (Or.inl ⟨by rfl, ?_⟩) ?_ ?_
                  rotate_left
                  · intro w'
                    go_simp
                    with_reducible rfl
                  rotate_left
                  · simp only [Act.put, List.setIfInBounds_toArray, List.set_cons_zero, List.set_cons_succ, i64_w, i32_w]
                    rfl
                  refine pure_ (i := 15) (N := some 201) (v := ?_) (a' := ?_) #[true, true, true, true, true, true, true, true, true, true, true, true, true, true, true, true, false] rfl rfl (by kernel_rfl) (fun _ _ _ h => h) (Or.inl ⟨by rfl, ?_⟩) ?_ ?_
                  rotate_left
                  · intro w'
                    go_simp
                    with_reducible rfl
                  rotate_left
                  · simp only [Act.put, List.setIfInBounds_toArray, List.set_cons_zero, List.set_cons_succ, i64_w, i32_w]
                    rfl
                  refine pure_ (i := 16) (N := some 23) (v := ?_) (a' := ?_) #[true, true, true, true, true, true, true, true, true, true, true, true, true, true, true, true, true] rfl rfl (by kernel_rfl) (fun _ _ _ h => h) (Or.inl ⟨by rfl, ?_⟩) ?_ ?_
                  rotate_left
                  · intro w'
                    go_simp
                    with_reducible rfl
                  rotate_left
                  · simp only [Act.put, List.setIfInBounds_toArray, List.set_cons_zero, List.set_cons_succ, i64_w, i32_w]
                    rfl
                  refine done_ (by kernel_rfl) ?_
                  have HBj := Aside0.mk (pw_below_drewN HBW.out (1 + m))
                  rcases HC2.out with ⟨rfl, rfl⟩ | ⟨rfl, rfl⟩ | ⟨rfl, rfl, rfl⟩
                  all_goals
                    go_wp2_with (go_at_call 20; refine (padlocklaw01_works.calls true _ rfl).mono ?_; rintro e wz ⟨rfl, hb4⟩)
                    go_ret
                    exact ⟨rfl, below_then HBj.out HBj.out.size hb4⟩
                · have hgt : decide (T.length < al.length) = false := decide_eq_false hbig
                  have hc2 := hcore.2 hbig
                  have HC2 := Aside0.mk hc2
                  clear hcore hc2
                  go_wp2
                  refine start_ (n := 17) (S := fun _ => True) (ds := []) #[false, false, false, false, false, false, false, false, false, false, false, false, false, false, false, false, false] (by kernel_rfl) rfl rfl trivial (fun hHeld => ?_)
                  refine pure_ (i := 0) (N := some 186) (v := ?_) (a' := ?_) #[true, false, false, false, false, false, false, false, false, false, false, false, false, false, false, false, false] rfl rfl (by kernel_rfl) (fun _ _ _ h => h) (Or.inl ⟨by rfl, ?_⟩) ?_ ?_
                  rotate_left
                  · intro w'
                    go_simp
                    with_reducible rfl
                  rotate_left
                  · simp only [Act.put, List.setIfInBounds_toArray, List.set_cons_zero, List.set_cons_succ, i64_w, i32_w]
                    rfl
                  refine pure_ (i := 1) (N := some 187) (v := ?_) (a' := ?_) #[true, true, false, false, false, false, false, false, false, false, false, false, false, false, false, false, false] rfl rfl (by kernel_rfl) (fun _ _ _ h => h) (Or.inl ⟨by rfl, ?_⟩) ?_ ?_
                  rotate_left
                  · intro w'
                    go_simp
                    with_reducible rfl
                  rotate_left
                  · simp only [Act.put, List.setIfInBounds_toArray, List.set_cons_zero, List.set_cons_succ, i64_w, i32_w]
                    rfl
                  refine pure_ (i := 2) (N := some 188) (v := ?_) (a' := ?_) #[true, true, true, false, false, false, false, false, false, false, false, false, false, false, false, false, false] rfl rfl (by kernel_rfl) (fun _ _ _ h => h) (Or.inl ⟨by rfl, ?_⟩) ?_ ?_
                  rotate_left
                  · intro w'
                    go_simp
                    with_reducible rfl
                  rotate_left
                  · simp only [Act.put, List.setIfInBounds_toArray, List.set_cons_zero, List.set_cons_succ, i64_w, i32_w]
                    rfl
                  refine pure_ (i := 3) (N := some 189) (v := ?_) (a' := ?_) #[true, true, true, true, false, false, false, false, false, false, false, false, false, false, false, false, false] rfl rfl (by kernel_rfl) (fun _ _ _ h => h) (Or.inl ⟨by rfl, ?_⟩) ?_ ?_
                  rotate_left
                  · intro w'
                    go_simp
                    with_reducible rfl
                  rotate_left
                  · simp only [Act.put, List.setIfInBounds_toArray, List.set_cons_zero, List.set_cons_succ, i64_w, i32_w]
                    rfl
                  refine pure_ (i := 4) (N := some 190) (v := ?_) (a' := ?_) #[true, true, true, true, true, false, false, false, false, false, false, false, false, false, false, false, false] rfl rfl (by kernel_rfl) (fun _ _ _ h => h) (Or.inl ⟨by rfl, ?_⟩) ?_ ?_
                  rotate_left
                  · intro w'
                    go_simp
                    with_reducible rfl
                  rotate_left
                  · simp only [Act.put, List.setIfInBounds_toArray, List.set_cons_zero, List.set_cons_succ, i64_w, i32_w]
                    rfl
                  refine pure_ (i := 5) (N := some 191) (v := undef) (a' := ?_) #[true, true, true, true, true, true, false, false, false, false, false, false, false, false, false, false, false] rfl rfl (by kernel_rfl) (fun _ _ _ h => h) (Or.inr ⟨by rfl, rfl⟩) ?_ ?_
                  rotate_left
                  · simp only [Act.put, List.setIfInBounds_toArray, List.set_cons_zero, List.set_cons_succ, i64_w, i32_w]
                    rfl
                  refine pure_ (i := 6) (N := some 192) (v := undef) (a' := ?_) #[true, true, true, true, true, true, true, false, false, false, false, false, false, false, false, false, false] rfl rfl (by kernel_rfl) (fun _ _ _ h => h) (Or.inr ⟨by rfl, rfl⟩) ?_ ?_
                  rotate_left
                  · simp only [Act.put, List.setIfInBounds_toArray, List.set_cons_zero, List.set_cons_succ, i64_w, i32_w]
                    rfl
                  refine pure_ (i := 7) (N := some 193) (v := undef) (a' := ?_) #[true, true, true, true, true, true, true, true, false, false, false, false, false, false, false, false, false] rfl rfl (by kernel_rfl) (fun _ _ _ h => h) (Or.inr ⟨by rfl, rfl⟩) ?_ ?_
                  rotate_left
                  · simp only [Act.put, List.setIfInBounds_toArray, List.set_cons_zero, List.set_cons_succ, i64_w, i32_w]
                    rfl
                  refine pure_ (i := 8) (N := some 194) (v := undef) (a' := ?_) #[true, true, true, true, true, true, true, true, true, false, false, false, false, false, false, false, false] rfl rfl (by kernel_rfl) (fun _ _ _ h => h) (Or.inr ⟨by rfl, rfl⟩) ?_ ?_
                  rotate_left
                  · simp only [Act.put, List.setIfInBounds_toArray, List.set_cons_zero, List.set_cons_succ, i64_w, i32_w]
                    rfl
                  refine pure_ (i := 9) (N := some 195) (v := undef) (a' := ?_) #[true, true, true, true, true, true, true, true, true, true, false, false, false, false, false, false, false] rfl rfl (by kernel_rfl) (fun _ _ _ h => h) (Or.inr ⟨by rfl, rfl⟩) ?_ ?_
                  rotate_left
                  · simp only [Act.put, List.setIfInBounds_toArray, List.set_cons_zero, List.set_cons_succ, i64_w, i32_w]
                    rfl
                  refine pure_ (i := 10) (N := some 196) (v := undef) (a' := ?_) #[true, true, true, true, true, true, true, true, true, true, true, false, false, false, false, false, false] rfl rfl (by kernel_rfl) (fun _ _ _ h => h) (Or.inr ⟨by rfl, rfl⟩) ?_ ?_
                  rotate_left
                  · simp only [Act.put, List.setIfInBounds_toArray, List.set_cons_zero, List.set_cons_succ, i64_w, i32_w]
                    rfl
                  refine pure_ (i := 11) (N := some 197) (v := undef) (a' := ?_) #[true, true, true, true, true, true, true, true, true, true, true, true, false, false, false, false, false] rfl rfl (by kernel_rfl) (fun _ _ _ h => h) (Or.inr ⟨by rfl, rfl⟩) ?_ ?_
                  rotate_left
                  · simp only [Act.put, List.setIfInBounds_toArray, List.set_cons_zero, List.set_cons_succ, i64_w, i32_w]
                    rfl
                  refine pure_ (i := 12) (N := some 198) (v := undef) (a' := ?_) #[true, true, true, true, true, true, true, true, true, true, true, true, true, false, false, false, false] rfl rfl (by kernel_rfl) (fun _ _ _ h => h) (Or.inr ⟨by rfl, rfl⟩) ?_ ?_
                  rotate_left
                  · simp only [Act.put, List.setIfInBounds_toArray, List.set_cons_zero, List.set_cons_succ, i64_w, i32_w]
                    rfl
                  refine pure_ (i := 13) (N := some 199) (v := undef) (a' := ?_) #[true, true, true, true, true, true, true, true, true, true, true, true, true, true, false, false, false] rfl rfl (by kernel_rfl) (fun _ _ _ h => h) (Or.inr ⟨by rfl, rfl⟩) ?_ ?_
                  rotate_left
                  · simp only [Act.put, List.setIfInBounds_toArray, List.set_cons_zero, List.set_cons_succ, i64_w, i32_w]
                    rfl
                  refine pure_ (i := 14) (N := some 200) (v := undef) (a' := ?_) #[true, true, true, true, true, true, true, true, true, true, true, true, true, true, true, false, false] rfl rfl (by kernel_rfl) (fun _ _ _ h => h) (Or.inr ⟨by rfl, rfl⟩) ?_ ?_
                  rotate_left
                  · simp only [Act.put, List.setIfInBounds_toArray, List.set_cons_zero, List.set_cons_succ, i64_w, i32_w]
                    rfl
                  refine pure_ (i := 15) (N := some 201) (v := ?_) (a' := ?_) #[true, true, true, true, true, true, true, true, true, true, true, true, true, true, true, true, false] rfl rfl (by kernel_rfl) (fun _ _ _ h => h) (Or.inl ⟨by rfl, ?_⟩) ?_ ?_
                  rotate_left
                  · intro w'
                    go_simp
                    with_reducible rfl
                  rotate_left
                  · simp only [Act.put, List.setIfInBounds_toArray, List.set_cons_zero, List.set_cons_succ, i64_w, i32_w]
                    rfl
                  refine pure_ (i := 16) (N := some 23) (v := ?_) (a' := ?_) #[true, true, true, true, true, true, true, true, true, true, true, true, true, true, true, true, true] rfl rfl (by kernel_rfl) (fun _ _ _ h => h) (Or.inl ⟨by rfl, ?_⟩) ?_ ?_
                  rotate_left
                  · intro w'
                    go_simp
                    with_reducible rfl
                  rotate_left
                  · simp only [Act.put, List.setIfInBounds_toArray, List.set_cons_zero, List.set_cons_succ, i64_w, i32_w]
                    rfl
                  refine done_ (by kernel_rfl) ?_
                  have HBj := Aside0.mk (below_drew1 HBW.out)
                  rcases HC2.out with ⟨rfl, rfl⟩ | ⟨rfl, rfl⟩
                  all_goals
                    go_wp2_with (go_at_call 20; refine (padlocklaw01_works.calls true _ rfl).mono ?_; rintro e wz ⟨rfl, hb4⟩)
                    go_ret
                    exact ⟨rfl, below_then HBj.out HBj.out.size hb4⟩
  all_goals
    go_enter Try.func8, Try.ntmps8
    go_wp2_with (first
      | (go_at_call 34; refine (H34.out _ HB.out).mono ?_; rintro e wa ⟨rfl, hb⟩; have HBa := Aside0.mk (below_then HB.out HB.out.size hb); have K0a := Aside0.mk (blk_below K0.out hb); have K1a := Aside0.mk (blk_below K1.out hb); obtain ⟨a0, a1⟩ := cells2 K0a.out; obtain ⟨b0, b1, b2, b3, b4, b5, b6, b7⟩ := cells8 K1a.out; clear hb)
      | (go_at_call 27; refine (H27.out _ HBa.out).mono ?_; rintro e wb ⟨rfl, hb⟩; have HBb := Aside0.mk (below_then HBa.out HBa.out.size hb); clear hb)
      | (go_at_call 20; refine (padlocklaw01_works.calls true _ rfl).mono ?_; rintro e wz ⟨rfl, hb4⟩))
    go_ret
    first
      | exact ⟨rfl, below_then HBb.out HBb.out.size hb4⟩
      | exact ⟨rfl, below_then HBa.out HBa.out.size hb4⟩
end Go.Proofs.Ytimkchehdaadeaa.P
