/- Part 52 of a proof: the statement CodesCores: for every input its law returns true (its texts without what nothing here names). -/
import Derived.Test.YtimkchehdaadeaaZCores28
import Derived.Test.YtimkchehdaadeaaZCores29
import Derived.Test.YtimkchehdaadeaaZCores34
import Derived.Test.YtimkchehdaadeaaZCores50

namespace Go.Proofs.Ytimkchehdaadeaa.P
open Go.RowKit Go.Shelf Go.Proofs.YtimkchehdaadeaaW.PrintWords Go.Proofs.YtimkchehdaadeaaW.PrintLast Go.Proofs.YtimkchehdaadeaaW.PrintMore
set_option linter.unusedVariables false
set_option linter.unusedSimpArgs false
theorem rdL_get6 (l : List (List Int)) (i : Nat) : rd_L2 l (i : Int) = l.getD i [] := by simp [rd_L2]
set_option maxHeartbeats 8000000 in
set_option maxRecDepth 100000 in
theorem padlockref01_Pair.calls (k0 : Nat) (a0_0 : Int) (a0_1 : Int) (A1 : Option Addr) (c1 : Nat) (l1 : List S36) (r1 r2 : List Int) (r3 : Int) (w : World) (hr1 : Kd.C k36 w A1 l1.length l1) (hc1 : l1.length ≤ c1) (hCh : padlockref01_CheckClues.f k0 a0_0 a0_1 l1 = some (checkCluesS a0_0 a0_1 l1)) (hAl : checkCluesS a0_0 a0_1 l1 = 0 → padlockref01_All.f k0 a0_0 a0_1 l1 = some (readingsL a0_1.toNat a0_0.toNat l1)) (h : pairS a0_0 a0_1 l1 = (r1, r2, r3)) :
    Calls Try.prog 54 #[.agg #[.int .i64 a0_0, .int .i64 a0_1], .slice A1 l1.length c1] w fun e w' => ∃ (A : Option Addr) (c : Nat) (A' : Option Addr) (c' : Nat), e = .returned (.tuple #[.slice A r1.length c, .slice A' r2.length c', .int .i64 r3]) ∧ r1.length ≤ c ∧ Kd.C (Kd.int .i64) w' A r1.length r1 ∧ r2.length ≤ c' ∧ Kd.C (Kd.int .i64) w' A' r2.length r2 ∧ Below w.heap.size w w' := by
  have hu23 := Try.underlying23
  have hb0 := blk_new w (.cells #[.int .i64 a0_0, .int .i64 a0_1] 23)
  have hB0 := (Below.refl w.heap.size w).alloc (Nat.le_refl _) (.cells #[.int .i64 a0_0, .int .i64 a0_1] 23)
  have C34 := Aside0.mk (padlockref01_CheckClues.calls k0 a0_0 a0_1 A1 c1 l1 _ _ (Kd.C_below hr1 hB0) hc1 hCh)
  have HB0 := Aside0.mk hB0
  have K0 := Aside0.mk hb0
  have H := h
  clear hb0 hB0 h
  unfold pairS at H
  by_cases he : checkCluesS a0_0 a0_1 l1 = 0
  case neg =>
    rw [if_neg he] at H
    have hne : (checkCluesS a0_0 a0_1 l1 != 0) = true := bne_iff_ne.mpr he
    obtain ⟨e1, he1⟩ : ∃ e1, e1 = checkCluesS a0_0 a0_1 l1 := ⟨_, rfl⟩
    rw [← he1] at H C34 hne
    clear he he1 hr1 hCh hAl
    simp only [Prod.mk.injEq] at H
    obtain ⟨rfl, rfl, rfl⟩ := H
    go_enter Try.func54, Try.ntmps54
    go_wp2_with (first | (go_at_call 34; refine C34.out.mono ?_; rintro e w6 ⟨rfl, h6⟩))
    go_ret3
    exact ⟨none, 0, none, 0, rfl, Nat.le_refl 0, Kd.C_nil _ _, Nat.le_refl 0, Kd.C_nil _ _, below_then HB0.out HB0.out.size h6⟩
  obtain ⟨hl, hm, hv⟩ := checkClues_ok he
  rw [if_pos he] at H
  rw [he] at C34
  have C74 := Aside0.mk fun w1 (h1 : Below w.heap.size w w1) => padlockref01_All.calls k0 a0_0 a0_1 A1 c1 l1 _ w1 (Kd.C_below hr1 h1) hc1 (hAl he)
  obtain ⟨n, s, rfl, rfl, hn1, hn4, hs2, hs10⟩ := lock_nat hl
  simp only [Int.toNat_natCast] at H C74
  have hbig : (readingsL s n l1).length ≤ 10000 := Nat.le_trans (List.length_filter_le _ _) (codes_many hn4 hs10)
  obtain ⟨al, hal⟩ : ∃ al, al = readingsL s n l1 := ⟨_, rfl⟩
  rw [← hal] at H C74 hbig
  clear hal he hl hv hr1 hCh hAl
  by_cases h0 : al.length < 2
  · rw [if_pos h0] at H
    simp only [Prod.mk.injEq] at H
    obtain ⟨rfl, rfl, rfl⟩ := H
    have hd : decide ((al.length : Int) < 2) = true := decide_eq_true (by omega)
    have H0 := Aside0.mk h0
    clear h0
    go_enter Try.func54, Try.ntmps54
    go_wp2_with (first | (go_at_call 34; refine C34.out.mono ?_; rintro e w6 ⟨rfl, h6⟩; obtain ⟨a0, a1⟩ := cells2 (blk_below K0.out h6); have HB6 := Aside0.mk (below_then HB0.out HB0.out.size h6); clear h6) | (go_at_call 74; refine (C74.out _ HB6.out).mono ?_; rintro e w7 ⟨v, rfl, ho, h7⟩; obtain ⟨Av, cv, rfl⟩ := Kd.S_slice ho; obtain ⟨hlv, hcv⟩ := (Kd.S_reads' ho).2; have HB7 := Aside0.mk (below_then HB6.out HB6.out.size h7); clear ho hcv h7))
    go_ret3
    exact ⟨none, 0, none, 0, rfl, Nat.le_refl 0, Kd.C_nil _ _, Nat.le_refl 0, Kd.C_nil _ _, HB7.out⟩
  rw [if_neg h0] at H
  have hd : decide ((al.length : Int) < 2) = false := decide_eq_false (by omega)
  have hpos : 1 < al.length := by omega
  have hpos0 : 0 < al.length := by omega
  obtain ⟨j, hj⟩ : ∃ j, j = al.length - 1 := ⟨_, rfl⟩
  have hjl : j < al.length := by omega
  have hsub := pair_sub al.length j hj hpos hbig
  rw [← hj] at H
  simp only [Prod.mk.injEq] at H
  obtain ⟨hra, hrb, rfl⟩ := H
  clear h0 hj hbig
  go_enter Try.func54, Try.ntmps54
  go_wp2_with (first | (go_at_call 34; refine C34.out.mono ?_; rintro e w6 ⟨rfl, h6⟩; obtain ⟨a0, a1⟩ := cells2 (blk_below K0.out h6); have HB6 := Aside0.mk (below_then HB0.out HB0.out.size h6); clear h6) | (go_at_call 74; refine (C74.out _ HB6.out).mono ?_; rintro e w7 ⟨v, rfl, ho, h7⟩; obtain ⟨Av, cv, rfl⟩ := Kd.S_slice ho; obtain ⟨hlv, hcv⟩ := (Kd.S_reads' ho).2; have HCV := Aside0.mk hcv; have HB7 := Aside0.mk (below_then HB6.out HB6.out.size h7); clear ho hcv h7))
  obtain ⟨ad, Aa, ca, e0, hca, hla, hia⟩ := at_L2 HCV.out ((0 : Nat) : Int) (by omega) (by omega)
  subst e0
  obtain ⟨ad2, Ab, cb, e0, hcb, hlb, hib⟩ := at_L2 HCV.out (j : Int) (by omega) (by omega)
  obtain rfl : ad = ad2 := by injection e0
  rw [rdL_get6, hra] at hca hla hia
  rw [rdL_get6, hrb, Int.toNat_natCast] at *
  replace hca : w7.cell? ad = some (.slice Aa r1.length ca) := hca
  have HLA := Aside0.mk hla
  have HIA := Aside0.mk hia
  have HLB := Aside0.mk hlb
  have HIB := Aside0.mk hib
  clear hla hia hlb hib hra hrb
  refine start_ (n := 12) (S := fun w' => w'.cell? ad = some (.slice Aa r1.length ca) ∧ w'.cell? (ad.add j) = some (.slice Ab r2.length cb)) (ds := []) #[false, false, false, false, false, false, false, false, false, false, false, false] (by kernel_rfl) rfl rfl ⟨hca, hcb⟩ (fun hHeld => ?_)
  refine pure_ (i := 0) (N := some 21) (v := ?_) (a' := ?_) #[true, false, false, false, false, false, false, false, false, false, false, false] rfl rfl (by kernel_rfl) (fun _ _ _ h => h) (Or.inl ⟨by rfl, ?_⟩) ?_ ?_
  rotate_left
  · intro w'
    go_simp
    with_reducible rfl
  rotate_left
  · simp only [Act.put, List.setIfInBounds_toArray, List.set_cons_zero, List.set_cons_succ, i64_w, i32_w]
    rfl
  refine pure_ (i := 1) (N := some 22) (v := ?_) (a' := ?_) #[true, true, false, false, false, false, false, false, false, false, false, false] rfl rfl (by kernel_rfl) (fun _ _ _ h => h) (Or.inl ⟨by rfl, ?_⟩) ?_ ?_
  rotate_left
  · intro w'
    go_simp
    with_reducible rfl
  rotate_left
  · simp only [Act.put, List.setIfInBounds_toArray, List.set_cons_zero, List.set_cons_succ, i64_w, i32_w]
    rfl
  refine take_ (i := 2) (N := some 23) (v := ?_) (a' := ?_) #[true, true, true, false, false, false, false, false, false, false, false, false] rfl rfl (by kernel_rfl) (fun _ _ _ h => h) (Or.inl ⟨by rfl, ?_⟩) hHeld ?_ ?_
  rotate_left
  · rintro w' ⟨s0, s1⟩
    go_simp
    with_reducible rfl
  rotate_left
  · simp only [Act.put, List.setIfInBounds_toArray, List.set_cons_zero, List.set_cons_succ, i64_w, i32_w]
    rfl
  refine pure_ (i := 3) (N := some 24) (v := ?_) (a' := ?_) #[true, true, true, true, false, false, false, false, false, false, false, false] rfl rfl (by kernel_rfl) (fun _ _ _ h => h) (Or.inl ⟨by rfl, ?_⟩) ?_ ?_
  rotate_left
  · intro w'
    go_simp
    with_reducible rfl
  rotate_left
  · simp only [Act.put, List.setIfInBounds_toArray, List.set_cons_zero, List.set_cons_succ, i64_w, i32_w]
    rfl
  refine pure_ (i := 4) (N := some 25) (v := ?_) (a' := ?_) #[true, true, true, true, true, false, false, false, false, false, false, false] rfl rfl (by kernel_rfl) (fun _ _ _ h => h) (Or.inl ⟨by rfl, ?_⟩) ?_ ?_
  rotate_left
  · intro w'
    go_simp
    with_reducible rfl
  rotate_left
  · simp only [Act.put, List.setIfInBounds_toArray, List.set_cons_zero, List.set_cons_succ, i64_w, i32_w]
    rfl
  refine pure_ (i := 5) (N := some 26) (v := ?_) (a' := ?_) #[true, true, true, true, true, true, false, false, false, false, false, false] rfl rfl (by kernel_rfl) (fun _ _ _ h => h) (Or.inl ⟨by rfl, ?_⟩) ?_ ?_
  rotate_left
  · intro w'
    go_simp
    with_reducible rfl
  rotate_left
  · simp only [Act.put, List.setIfInBounds_toArray, List.set_cons_zero, List.set_cons_succ, i64_w, i32_w]
    rfl
  refine pure_ (i := 6) (N := some 27) (v := ?_) (a' := ?_) #[true, true, true, true, true, true, true, false, false, false, false, false] rfl rfl (by kernel_rfl) (fun _ _ _ h => h) (Or.inl ⟨by rfl, ?_⟩) ?_ ?_
  rotate_left
  · intro w'
    go_simp
    with_reducible rfl
  rotate_left
  · simp only [Act.put, List.setIfInBounds_toArray, List.set_cons_zero, List.set_cons_succ, i64_w, i32_w]
    rfl
  refine pure_ (i := 7) (N := some 28) (v := ?_) (a' := ?_) #[true, true, true, true, true, true, true, true, false, false, false, false] rfl rfl (by kernel_rfl) (fun _ _ _ h => h) (Or.inl ⟨by rfl, ?_⟩) ?_ ?_
  rotate_left
  · intro w'
    go_simp
    with_reducible rfl
  rotate_left
  · simp only [Act.put, List.setIfInBounds_toArray, List.set_cons_zero, List.set_cons_succ, i64_w, i32_w]
    rfl
  refine take_ (i := 8) (N := some 29) (v := ?_) (a' := ?_) #[true, true, true, true, true, true, true, true, true, false, false, false] rfl rfl (by kernel_rfl) (fun _ _ _ h => h) (Or.inl ⟨by rfl, ?_⟩) hHeld ?_ ?_
  rotate_left
  · rintro w' ⟨s0, s1⟩
    go_simp
    with_reducible rfl
  rotate_left
  · simp only [Act.put, List.setIfInBounds_toArray, List.set_cons_zero, List.set_cons_succ, i64_w, i32_w]
    rfl
  refine pure_ (i := 9) (N := some 4) (v := ?_) (a' := ?_) #[true, true, true, true, true, true, true, true, true, true, false, false] rfl rfl (by kernel_rfl) (fun _ _ _ h => h) (Or.inl ⟨by rfl, ?_⟩) ?_ ?_
  rotate_left
  · intro w'
    go_simp
    with_reducible rfl
  rotate_left
  · simp only [Act.put, List.setIfInBounds_toArray, List.set_cons_zero, List.set_cons_succ, i64_w, i32_w]
    rfl
  refine pure_ (i := 10) (N := some 5) (v := ?_) (a' := ?_) #[true, true, true, true, true, true, true, true, true, true, true, false] rfl rfl (by kernel_rfl) (fun _ _ _ h => h) (Or.inl ⟨by rfl, ?_⟩) ?_ ?_
  rotate_left
  · intro w'
    go_simp
    with_reducible rfl
  rotate_left
  · simp only [Act.put, List.setIfInBounds_toArray, List.set_cons_zero, List.set_cons_succ, i64_w, i32_w]
    rfl
  refine pure_ (i := 11) (N := some 6) (v := ?_) (a' := ?_) #[true, true, true, true, true, true, true, true, true, true, true, true] rfl rfl (by kernel_rfl) (fun _ _ _ h => h) (Or.inl ⟨by rfl, ?_⟩) ?_ ?_
  rotate_left
  · intro w'
    go_simp
    with_reducible rfl
  rotate_left
  · simp only [Act.put, List.setIfInBounds_toArray, List.set_cons_zero, List.set_cons_succ, i64_w, i32_w]
    rfl
  refine done_ (by kernel_rfl) ?_
  go_wp2
  go_ret3
  exact ⟨Aa, ca, Ab, cb, rfl, HLA.out, Kd.C_drew HIA.out, HLB.out, Kd.C_drew HIB.out, below_drew1 HB7.out⟩
end Go.Proofs.Ytimkchehdaadeaa.P
