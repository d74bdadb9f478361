/- Part 40 of a proof: the statement CodesNext: for every input its law returns true (its texts without what nothing here names). -/
import Derived.Test.YtimkchehdaadeaaZNext15
import Derived.Test.YtimkchehdaadeaaZNext28
import Derived.Test.YtimkchehdaadeaaZNext31
import Derived.Test.YtimkchehdaadeaaZNext32
import Derived.Test.YtimkchehdaadeaaZNext34

namespace Go.Proofs.Ytimkchehdaadeaa.P
open Go.RowKit Go.Shelf Go.Proofs.YtimkchehdaadeaaW.PrintWords Go.Proofs.YtimkchehdaadeaaW.PrintLast Go.Proofs.YtimkchehdaadeaaW.PrintMore
set_option linter.unusedVariables false
set_option linter.unusedSimpArgs false
theorem rdL_get2 (l : List (List Int)) (i : Nat) (h : i < l.length) : rd_L2 l i = l[i] := by simp [rd_L2, List.getD_eq_getElem?_getD, List.getElem?_eq_getElem h]
set_option maxHeartbeats 8000000 in
set_option maxRecDepth 100000 in
theorem padlockref01_Next.calls (k0 : Nat) (a0_0 : Int) (a0_1 : Int) (A1 : Option Addr) (c1 : Nat) (l1 : List S36) (r1 : List Int) (r2 r3 : Int) (w : World) (hr1 : Kd.C k36 w A1 l1.length l1) (hc1 : l1.length ≤ c1)
    (hCh : padlockref01_CheckClues.f k0 a0_0 a0_1 l1 = some (checkCluesS a0_0 a0_1 l1)) (hAl : checkCluesS a0_0 a0_1 l1 = 0 → padlockref01_All.f k0 a0_0 a0_1 l1 = some (readingsL a0_1.toNat a0_0.toNat l1))
    (hWo : ∀ x ∈ readingsL a0_1.toNat a0_0.toNat l1, checkCluesS a0_0 a0_1 l1 = 0 → ∃ k, padlockref01_worst.f k (readingsL a0_1.toNat a0_0.toNat l1) x = some ((worstOf (readingsL a0_1.toNat a0_0.toNat l1) x : Nat) : Int))
    (h : nextS a0_0 a0_1 l1 = (r1, r2, r3)) :
    Calls Try.prog 44 #[.agg #[.int .i64 a0_0, .int .i64 a0_1], .slice A1 l1.length c1] w fun e w' => ∃ (A : Option Addr) (c : Nat), e = .returned (.tuple #[.slice A r1.length c, .int .i64 r2, .int .i64 r3]) ∧ r1.length ≤ c ∧ Kd.C (Kd.int .i64) w' A r1.length r1 ∧ Below w.heap.size w w' := by
  have hu23 := Try.underlying23
  have hb0 := blk_new w (.cells #[.int .i64 a0_0, .int .i64 a0_1] 23)
  have hB0 := (Below.refl w.heap.size w).alloc (Nat.le_refl _) (.cells #[.int .i64 a0_0, .int .i64 a0_1] 23)
  have C34 := Aside0.mk (padlockref01_CheckClues.calls k0 a0_0 a0_1 A1 c1 l1 _ _ (Kd.C_below hr1 hB0) hc1 hCh)
  have HB0 := Aside0.mk hB0
  have K0 := Aside0.mk hb0
  have H := h
  clear hb0 hB0 h
  unfold nextS at H
  by_cases he : checkCluesS a0_0 a0_1 l1 = 0
  case neg =>
    rw [if_neg he] at H
    have hne : (checkCluesS a0_0 a0_1 l1 != 0) = true := bne_iff_ne.mpr he
    clear hCh hAl hWo
    obtain ⟨e1, he1⟩ : ∃ e1, e1 = checkCluesS a0_0 a0_1 l1 := ⟨_, rfl⟩
    rw [← he1] at H C34 hne
    clear he he1 hr1
    simp only [Prod.mk.injEq] at H
    obtain ⟨rfl, rfl, rfl⟩ := H
    go_enter Try.func44, Try.ntmps44
    go_wp2_with (first | (go_at_call 34; refine C34.out.mono ?_; rintro e w6 ⟨rfl, h6⟩))
    go_ret3
    exact ⟨none, 0, rfl, Nat.le_refl 0, Kd.C_nil _ _, below_then HB0.out HB0.out.size h6⟩
  obtain ⟨hl, hm, hv⟩ := checkClues_ok he
  rw [if_pos he] at H
  rw [he] at C34
  have C74 := Aside0.mk fun w1 (h1 : Below w.heap.size w w1) => padlockref01_All.calls k0 a0_0 a0_1 A1 c1 l1 _ w1 (Kd.C_below hr1 h1) hc1 (hAl he)
  replace hWo := fun x hx => hWo x hx he
  clear hAl hCh
  obtain ⟨n, s, rfl, rfl, hn1, hn4, hs2, hs10⟩ := lock_nat hl
  simp only [Int.toNat_natCast] at H C74 hWo
  obtain ⟨al, hal⟩ : ∃ al, al = readingsL s n l1 := ⟨_, rfl⟩
  rw [← hal] at H C74 hWo
  have HW := Aside0.mk hWo
  clear hal hWo he hl hv hr1
  by_cases h0 : al.length = 0
  · rw [if_pos h0] at H
    simp only [Prod.mk.injEq] at H
    obtain ⟨rfl, rfl, rfl⟩ := H
    have hd : ((al.length : Int) == 0) = true := by simp [h0]
    have H0 := Aside0.mk h0
    clear h0
    go_enter Try.func44, Try.ntmps44
    go_wp2_with (first | (go_at_call 34; refine C34.out.mono ?_; rintro e w6 ⟨rfl, h6⟩; obtain ⟨a0, a1⟩ := cells2 (blk_below K0.out h6); have HB6 := Aside0.mk (below_then HB0.out HB0.out.size h6); clear h6) | (go_at_call 74; refine (C74.out _ HB6.out).mono ?_; rintro e w7 ⟨v, rfl, ho, h7⟩; obtain ⟨Av, cv, rfl⟩ := Kd.S_slice ho; have HB7 := Aside0.mk (below_then HB6.out HB6.out.size h7); clear ho h7))
    go_ret3
    exact ⟨none, 0, rfl, Nat.le_refl 0, Kd.C_nil _ _, HB7.out⟩
  rw [if_neg h0] at H
  have hd : ((al.length : Int) == 0) = false := beq_eq_false_iff_ne.mpr (by omega)
  by_cases h2 : 200 < al.length
  · rw [if_pos h2] at H
    simp only [Prod.mk.injEq] at H
    obtain ⟨rfl, rfl, rfl⟩ := H
    have hd2 : decide ((200 : Int) < al.length) = true := decide_eq_true (by omega)
    clear h0 h2
    go_enter Try.func44, Try.ntmps44
    go_wp2_with (first | (go_at_call 34; refine C34.out.mono ?_; rintro e w6 ⟨rfl, h6⟩; obtain ⟨a0, a1⟩ := cells2 (blk_below K0.out h6); have HB6 := Aside0.mk (below_then HB0.out HB0.out.size h6); clear h6) | (go_at_call 74; refine (C74.out _ HB6.out).mono ?_; rintro e w7 ⟨v, rfl, ho, h7⟩; obtain ⟨Av, cv, rfl⟩ := Kd.S_slice ho; have HB7 := Aside0.mk (below_then HB6.out HB6.out.size h7); clear ho h7))
    go_ret3
    exact ⟨none, 0, rfl, Nat.le_refl 0, Kd.C_nil _ _, HB7.out⟩
  rw [if_neg h2] at H
  have hd2 : decide ((200 : Int) < al.length) = false := decide_eq_false (by omega)
  have hpos : 0 < al.length := by omega
  have h200 : al.length ≤ 200 := by omega
  have HH := Aside0.mk H
  clear h0 h2 H
  go_enter Try.func44, Try.ntmps44
  go_wp2_with (first | (go_at_call 34; refine C34.out.mono ?_; rintro e w6 ⟨rfl, h6⟩; obtain ⟨a0, a1⟩ := cells2 (blk_below K0.out h6); have HB6 := Aside0.mk (below_then HB0.out HB0.out.size h6); clear h6) | (go_at_call 74; refine (C74.out _ HB6.out).mono ?_; rintro e w7 ⟨v, rfl, ho, h7⟩; obtain ⟨Av, cv, rfl⟩ := Kd.S_slice ho; obtain ⟨hlv, hcv⟩ := (Kd.S_reads' ho).2; have HCV := Aside0.mk hcv; have HLV := Aside0.mk hlv; have HB7 := Aside0.mk (below_then HB6.out HB6.out.size h7); clear ho hcv hlv h7))
  obtain ⟨ad0, A0, c0, e0, hc0, hl0, hi0⟩ := at_L2 HCV.out ((0 : Nat) : Int) (by omega) (by omega)
  cases e0
  rw [rdL_get2 al 0 hpos] at hc0 hl0 hi0
  replace hc0 : w7.cell? ad0 = some (.slice A0 al[0].length c0) := hc0
  obtain ⟨x0, hx0⟩ : ∃ x, x = al[0] := ⟨_, rfl⟩
  rw [← hx0] at hc0 hl0 hi0
  obtain ⟨k1, hk1⟩ := HW.out x0 (by rw [hx0]; exact List.getElem_mem _)
  have HX0 := Aside0.mk hx0
  have HL0 := Aside0.mk hl0
  have HI0 := Aside0.mk hi0
  have CW := Aside0.mk (padlockref01_worst.calls k1 (some ad0) cv al A0 c0 x0 _ w7.drew (Kd.C_drew HCV.out) HLV.out (Kd.C_drew HI0.out) HL0.out hk1)
  clear hx0 hl0 hi0 hk1
  refine start_ (n := 10) (S := fun w' => w'.cell? ad0 = some (.slice A0 x0.length c0)) (ds := []) #[false, false, false, false, false, false, false, false, false, false] (by kernel_rfl) rfl rfl hc0 (fun hHeld => ?_)
  refine pure_ (i := 0) (N := some 28) (v := ?_) (a' := ?_) #[true, false, false, false, false, false, false, false, false, false] rfl rfl (by kernel_rfl) (fun _ _ _ h => h) (Or.inl ⟨by rfl, ?_⟩) ?_ ?_
  rotate_left
  · intro w'
    go_simp
    with_reducible rfl
  rotate_left
  · simp only [Act.put, List.setIfInBounds_toArray, List.set_cons_zero, List.set_cons_succ, i64_w, i32_w]
    rfl
  refine pure_ (i := 1) (N := some 29) (v := ?_) (a' := ?_) #[true, true, false, false, false, false, false, false, false, false] rfl rfl (by kernel_rfl) (fun _ _ _ h => h) (Or.inl ⟨by rfl, ?_⟩) ?_ ?_
  rotate_left
  · intro w'
    go_simp
    with_reducible rfl
  rotate_left
  · simp only [Act.put, List.setIfInBounds_toArray, List.set_cons_zero, List.set_cons_succ, i64_w, i32_w]
    rfl
  refine take_ (i := 2) (N := some 30) (v := ?_) (a' := ?_) #[true, true, true, false, false, false, false, false, false, false] rfl rfl (by kernel_rfl) (fun _ _ _ h => h) (Or.inl ⟨by rfl, ?_⟩) hHeld ?_ ?_
  rotate_left
  · rintro w' s0
    go_simp
    with_reducible rfl
  rotate_left
  · simp only [Act.put, List.setIfInBounds_toArray, List.set_cons_zero, List.set_cons_succ, i64_w, i32_w]
    rfl
  refine pure_ (i := 3) (N := some 31) (v := ?_) (a' := ?_) #[true, true, true, true, false, false, false, false, false, false] rfl rfl (by kernel_rfl) (fun _ _ _ h => h) (Or.inl ⟨by rfl, ?_⟩) ?_ ?_
  rotate_left
  · intro w'
    go_simp
    with_reducible rfl
  rotate_left
  · simp only [Act.put, List.setIfInBounds_toArray, List.set_cons_zero, List.set_cons_succ, i64_w, i32_w]
    rfl
  refine pure_ (i := 4) (N := some 32) (v := ?_) (a' := ?_) #[true, true, true, true, true, false, false, false, false, false] rfl rfl (by kernel_rfl) (fun _ _ _ h => h) (Or.inl ⟨by rfl, ?_⟩) ?_ ?_
  rotate_left
  · intro w'
    go_simp
    with_reducible rfl
  rotate_left
  · simp only [Act.put, List.setIfInBounds_toArray, List.set_cons_zero, List.set_cons_succ, i64_w, i32_w]
    rfl
  refine pure_ (i := 5) (N := some 33) (v := ?_) (a' := ?_) #[true, true, true, true, true, true, false, false, false, false] rfl rfl (by kernel_rfl) (fun _ _ _ h => h) (Or.inl ⟨by rfl, ?_⟩) ?_ ?_
  rotate_left
  · intro w'
    go_simp
    with_reducible rfl
  rotate_left
  · simp only [Act.put, List.setIfInBounds_toArray, List.set_cons_zero, List.set_cons_succ, i64_w, i32_w]
    rfl
  refine take_ (i := 6) (N := some 34) (v := ?_) (a' := ?_) #[true, true, true, true, true, true, true, false, false, false] rfl rfl (by kernel_rfl) (fun _ _ _ h => h) (Or.inl ⟨by rfl, ?_⟩) hHeld ?_ ?_
  rotate_left
  · rintro w' s0
    go_simp
    with_reducible rfl
  rotate_left
  · simp only [Act.put, List.setIfInBounds_toArray, List.set_cons_zero, List.set_cons_succ, i64_w, i32_w]
    rfl
  refine one_ (i := 7) (N := some 35) #[true, true, true, true, true, true, true, true, false, false] rfl rfl (by kernel_rfl) (by decide) (fun K hK => ?_)
  refine goes_ Try.func80 (by kernel_rfl) rfl #[.slice (some ad0) al.length cv, .slice A0 x0.length c0] (by rfl) rfl rfl (by (try simp only [List.map_toArray, List.map_cons, List.map_nil]); first | done | rfl) ?_
  refine CW.out.mono ?_
  rintro e w8 ⟨rfl, h8⟩
  refine ⟨_, rfl, ?_⟩
  have hc8 := (h8.cell (World.block_lt_of_cell? _ _ hHeld)).trans hHeld
  refine hK.out _ _ hc8 (fun hHeld => ?_)
  clear hK K
  refine norm_ (a' := ?_) ?_ ?_
  rotate_left
  · show Act.put _ (some 35) _ = _
    simp only [Act.put, List.setIfInBounds_toArray, List.set_cons_zero, List.set_cons_succ, i64_w, i32_w]
    rfl
  refine pure_ (i := 8) (N := some 9) (v := ?_) (a' := ?_) #[true, true, true, true, true, true, true, true, true, false] rfl rfl (by kernel_rfl) (fun _ _ _ h => h) (Or.inl ⟨by rfl, ?_⟩) ?_ ?_
  rotate_left
  · intro w'
    go_simp
    with_reducible rfl
  rotate_left
  · simp only [Act.put, List.setIfInBounds_toArray, List.set_cons_zero, List.set_cons_succ, i64_w, i32_w]
    rfl
  refine pure_ (i := 9) (N := some 10) (v := ?_) (a' := ?_) #[true, true, true, true, true, true, true, true, true, true] rfl rfl (by kernel_rfl) (fun _ _ _ h => h) (Or.inl ⟨by rfl, ?_⟩) ?_ ?_
  rotate_left
  · intro w'
    go_simp
    with_reducible rfl
  rotate_left
  · simp only [Act.put, List.setIfInBounds_toArray, List.set_cons_zero, List.set_cons_succ, i64_w, i32_w]
    rfl
  refine done_ (by kernel_rfl) ?_
  have HB8 := Aside0.mk (below_then (below_drew1 (Below.refl w7.heap.size w7)) (by simp) h8)
  have HBT := Aside0.mk (show bestTo al 1 = some (x0, worstOf al x0) by rw [bestTo_succ al 0 hpos, bestTo_zero, ← HX0.out]; rfl)
  go_wp2
  go_loopw [9, 10, 11] (fun v9 v10 v11 wr => ∃ k : Nat, ∃ (A : Option Addr) (c : Nat) (g : List Int) (b : Nat), Aside0 (1 ≤ k ∧ k ≤ al.length) ∧ v11 = .int .i64 k ∧ v9 = .slice A g.length c ∧ v10 = .int .i64 b ∧ Aside0 (bestTo al k = some (g, b) ∧ g.length ≤ c ∧ Kd.C (Kd.int .i64) w7 A g.length g) ∧ Aside0 (Below w7.heap.size w7 wr)) (fun _ _ v11 _ => al.length - (intOf v11).toNat)
  case atStart => exact ⟨1, A0, c0, x0, worstOf al x0, ⟨Nat.le_refl _, by omega⟩, rfl, rfl, rfl, ⟨HBT.out, HL0.out, HI0.out⟩, HB8⟩
  case round =>
    obtain ⟨k, A, c, g, b, hk, rfl, rfl, rfl, HG, HBR⟩ := hrel
    by_cases hlt : k < al.length
    · obtain ⟨adv, Ax, cx, e1, hcx, hlx, hix⟩ := at_L2 HCV.out (k : Int) (by omega) (by omega)
      cases e1
      rw [Int.toNat_natCast] at hcx
      replace hcx := (HBR.out.cell (World.block_lt_of_cell? w7 _ hcx)).trans hcx
      have hbs := bestTo_succ al k hlt
      rw [rdL_get2 al k hlt] at hcx hlx hix
      obtain ⟨k2, hk2⟩ := HW.out al[k] (List.getElem_mem _)
      obtain ⟨x, hx⟩ : ∃ x, x = al[k] := ⟨_, rfl⟩
      rw [← hx] at hcx hlx hix hbs hk2
      obtain ⟨wst, hws⟩ : ∃ wst, wst = worstOf al x := ⟨_, rfl⟩
      rw [← hws] at hbs hk2
      rw [HG.out.1] at hbs
      have HBS := Aside0.mk hbs
      have HLX := Aside0.mk hlx
      have HIX := Aside0.mk hix
      have CW := Aside0.mk (padlockref01_worst.calls k2 _ cv al Ax cx x _ wr (Kd.C_below HCV.out HBR.out) HLV.out (Kd.C_below hix HBR.out) hlx hk2)
      clear hx hws hbs hlx hix hk2
      go_wp2_with (go_at_call 80; refine CW.out.mono ?_; rintro e w9 ⟨rfl, h9⟩; have HB9 := Aside0.mk (below_then HBR.out HBR.out.size h9); have hcy := (h9.cell (World.block_lt_of_cell? _ _ hcx)).trans hcx; clear h9)
      · rename_i hw
        have hw : wst < b := by omega
        have HN := Aside0.mk (show bestTo al (k + 1) = some (x, wst) by have := HBS.out; simp only [nextStep] at this; rw [if_pos hw] at this; exact this)
        refine ⟨⟨k + 1, Ax, cx, x, wst, ⟨by omega, by omega⟩, by go_num, rfl, rfl, ⟨HN.out, HLX.out, HIX.out⟩, HB9⟩, ?_⟩
        simp [intOf]; omega
      · rename_i hw
        have hw : ¬ wst < b := by omega
        have HN := Aside0.mk (show bestTo al (k + 1) = some (g, b) by have := HBS.out; simp only [nextStep] at this; rw [if_neg hw] at this; exact this)
        refine ⟨⟨k + 1, A, c, g, b, ⟨by omega, by omega⟩, by go_num, rfl, rfl, ⟨HN.out, HG.out.2.1, HG.out.2.2⟩, HB9⟩, ?_⟩
        simp [intOf]; omega
    · have hk' : k = al.length := by have := hk.out.2; omega
      obtain ⟨hbt, hgc, hgC⟩ := HG.out
      have HE := HH.out
      rw [hk'] at hbt
      rw [hbt] at HE
      simp only [Prod.mk.injEq] at HE
      obtain ⟨rfl, rfl, rfl⟩ := HE
      have HGC := Aside0.mk (Kd.C_below hgC HBR.out)
      have HBZ := Aside0.mk (below_then HB7.out HB7.out.size HBR.out)
      have HGL := Aside0.mk hgc
      clear hbt hgC hgc HG HBR HB7 HB6
      subst hk'
      go_wp2
      go_ret3
      exact ⟨A, c, rfl, HGL.out, HGC.out, HBZ.out⟩
end Go.Proofs.Ytimkchehdaadeaa.P
