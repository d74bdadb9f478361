/- Part 48 of a proof: the statement CodesDecoys: for every input its law returns true (its texts without what nothing here names). -/
import Derived.Test.YtimkchehdaadeaaZDecoys36
import Derived.Test.YtimkchehdaadeaaZDecoys44
import Derived.Test.YtimkchehdaadeaaZDecoys47

namespace Go.Proofs.Ytimkchehdaadeaa.P
open Go.RowKit Go.Proofs.YtimkchehdaadeaaW.PrintWords Go.Proofs.YtimkchehdaadeaaW.PrintLast Go.Proofs.YtimkchehdaadeaaW.PrintMore
set_option linter.unusedVariables false
set_option linter.unusedSimpArgs false
theorem fewTo_len (L : List Nat) (b : Int) (i : Nat) : (fewTo L b i).length ≤ i := by
  unfold fewTo
  rw [List.length_map]
  exact Nat.le_trans (List.length_filter_le _ _) (by simp)
theorem fewTo_mem (L : List Nat) (b : Int) (i : Nat) (h : i ≤ L.length) : ∀ x ∈ fewTo L b i, x ∈ L := fun x hx => by
  obtain ⟨j, hj, rfl⟩ := List.mem_map.1 hx
  have hj := List.mem_range.1 (List.mem_filter.1 hj).1
  rw [List.getD_eq_getElem?_getD, List.getElem?_eq_getElem (show j < L.length by omega)]
  exact List.getElem_mem _
theorem pick_len (l : List S36) (L : List Nat) : (pick l L).length = L.length := by simp [pick]
theorem pick_snoc (l : List S36) (L : List Nat) (j : Nat) : pick l (L ++ [j]) = pick l L ++ [rd_T36 l (j : Int)] := by simp [pick]
theorem pick_valid {W S : Int} {l : List S36} (hv : l.all (validC W S) = true) {L : List Nat} (hL : ∀ j ∈ L, j < l.length) : (pick l L).all (validC W S) = true := by
  rw [List.all_eq_true] at hv ⊢
  intro q hq
  obtain ⟨j, hj, rfl⟩ := List.mem_map.1 hq
  have := hL j hj
  refine hv _ ?_
  have e : rd_T36 l (j : Int) = l[j] := by simp [rd_T36, List.getD_eq_getElem?_getD, List.getElem?_eq_getElem this]
  rw [e]; exact List.getElem_mem _
theorem count_pick {n s : Nat} {l : List S36} (hch : checkCluesS (n : Int) (s : Int) l = 0) (L : List Nat) (hL : ∀ j ∈ L, j < l.length) (hl20 : L.length ≤ 20) : codes_Count.f (n : Int) (s : Int) (pick l L) = some ((((readingsL s n (pick l L)).length : Nat) : Int), 0) := by
  obtain ⟨hl, hm, hv⟩ := checkClues_ok hch
  rw [Count_eq]
  unfold countS
  rw [if_pos (by unfold checkCluesS; rw [if_pos hl, if_neg (by rw [pick_len]; omega), if_pos (pick_valid hv hL)])]
  simp only [Int.toNat_natCast]
set_option maxHeartbeats 8000000 in
set_option maxRecDepth 100000 in
theorem CodesDecoys_calls (W S : Int) (A1 : Option Addr) (c1 : Nat) (l : List S36) (w : World) (g1 : Kd.C k36 w A1 l.length l) (e1 : l.length ≤ c1) :
    Calls Try.prog 15 #[.agg #[.int .i64 W, .int .i64 S], .slice A1 l.length c1] w fun e w' => e = .returned (.bool true) ∧ Below w.heap.size w w' := by
  have hu23 := Try.underlying23
  have hu36 := Try.underlying36
  have K0 := Aside0.mk (blk_new w (.cells #[.int .i64 W, .int .i64 S] 23))
  have HB := Aside0.mk ((Below.refl w.heap.size w).alloc (Nat.le_refl _) (.cells #[.int .i64 W, .int .i64 S] 23))
  have G1 := Aside0.mk g1
  clear g1
  have H51g := Aside0.mk fun r1 r2 (h : coreS W S l = (r1, r2)) => codes_Core.calls W S A1 c1 l r1 r2 _ (Kd.C_below G1.out HB.out) e1 h
  have H49g := Aside0.mk fun r1 r2 (h : idleS W S l = (r1, r2)) w1 (h1 : Below w.heap.size w w1) => codes_Idle.calls W S A1 c1 l r1 r2 w1 (Kd.C_below G1.out h1) e1 h
  have H35g := Aside0.mk fun r1 r2 (h : countS W S l = (r1, r2)) w1 (h1 : Below w.heap.size w w1) => codes_Count.calls W S A1 c1 l r1 r2 w1 (Kd.C_below G1.out h1) e1 ((Count_eq W S l).trans (congrArg some h))
  by_cases h8 : 8 < l.length
  · have d8 : decide ((8 : Int) < l.length) = true := decide_eq_true (by omega)
    clear h8
    go_enter Try.func15, Try.ntmps15
    go_wp2_with (go_at_call 20; refine (padlocklaw01_works.calls true _ rfl).mono ?_; rintro e wz ⟨rfl, hb4⟩)
    go_ret
    exact ⟨rfl, below_then HB.out HB.out.size hb4⟩
  have d8 : decide ((8 : Int) < l.length) = false := decide_eq_false (by omega)
  have H8 := Aside0.mk h8
  by_cases hch : checkCluesS W S l = 0
  case neg =>
    have H51 := Aside0.mk (H51g.out [] (checkCluesS W S l) (by unfold coreS; rw [if_neg hch]))
    have H49 := Aside0.mk (H49g.out [] (checkCluesS W S l) (by unfold idleS; rw [if_neg hch]))
    have H35 := Aside0.mk (H35g.out 0 (checkCluesS W S l) (by unfold countS; rw [if_neg hch]))
    have hne : (checkCluesS W S l != 0) = true := bne_iff_ne.mpr hch
    obtain ⟨er, her⟩ : ∃ er, er = checkCluesS W S l := ⟨_, rfl⟩
    rw [← her] at H51 H49 H35 hne
    clear hch her h8 H51g H49g H35g
    go_enter Try.func15, Try.ntmps15
    go_wp2_with (first
      | (go_at_call 51; refine H51.out.mono ?_; rintro e wa ⟨v, rfl, ho, hb⟩; obtain ⟨Aa, ca, rfl, hla, hca⟩ := Kd.R_reads ho; have HBa := Aside0.mk (below_then HB.out HB.out.size hb); have Ka := Aside0.mk (blk_below K0.out hb); obtain ⟨a0, a1⟩ := cells2 Ka.out; clear hb ho hla hca)
      | (go_at_call 49; refine (H49.out _ HBa.out).mono ?_; rintro e wb ⟨v, rfl, ho, hb⟩; obtain ⟨Ab, cb, rfl, hlb, hcb⟩ := Kd.R_reads ho; have HBb := Aside0.mk (below_then HBa.out HBa.out.size hb); have Kb := Aside0.mk (blk_below Ka.out hb); clear a0 a1; obtain ⟨a0, a1⟩ := cells2 Kb.out; clear hb ho hlb hcb)
      | (go_at_call 35; refine (H35.out _ HBb.out).mono ?_; rintro e wc ⟨rfl, hb⟩; have HBc := Aside0.mk (below_then HBb.out HBb.out.size hb); clear hb)
      | (go_at_call 20; refine (padlocklaw01_works.calls true _ rfl).mono ?_; rintro e wz ⟨rfl, hb4⟩))
    go_ret
    exact ⟨rfl, below_then HBc.out HBc.out.size hb4⟩
  obtain ⟨hl, hm, hv⟩ := checkClues_ok hch
  obtain ⟨n, s, rfl, rfl, hw1, hw4, hs2, hs10⟩ := lock_nat hl
  obtain ⟨Yn, hY1, hY2, hY3, hY4, hY5⟩ := core_end s n l
  have H51 := Aside0.mk (H51g.out (castL Yn) 0 (by unfold coreS; rw [if_pos hch]; simp only [Int.toNat_natCast]; rw [hY1]))
  have H49 := Aside0.mk (H49g.out (idleTo s n l l.length) 0 (by unfold idleS; rw [if_pos hch]; simp only [Int.toNat_natCast]))
  have H35 := Aside0.mk (H35g.out ((readingsL s n l).length : Nat) 0 (by unfold countS; rw [if_pos hch]; simp only [Int.toNat_natCast]))
  have hYl : Yn.length ≤ l.length := by
    have h1 := (coreTo_len s n l l.length (Nat.le_refl _)).2
    rw [hY1, castL_len] at h1; exact h1
  have HY2 := Aside0.mk hY2
  have HY3 := Aside0.mk hY3
  have hcp := fun L hL h20 => count_pick hch L hL h20
  have himp := fun i (h : i < l.length) => decoy_implies (n := n) (s := s) hch h
  obtain ⟨N, hN⟩ : ∃ N, N = (readingsL s n l).length := ⟨_, rfl⟩
  have HN := Aside0.mk hN
  rw [← hN] at hY4 hY5 H35
  have HY4 := Aside0.mk hY4
  have HY5 := Aside0.mk hY5
  have HCP := Aside0.mk fun L (hL : ∀ j ∈ L, j < l.length) (h20 : L.length ≤ 20) A c w1 hC hle => codes_Count.calls n s A c (pick l L) _ _ w1 hC hle (hcp L hL h20)
  have HIM := Aside0.mk himp
  have HV := Aside0.mk hv
  have HCL := Aside0.mk (castL_len Yn)
  have h8l : l.length ≤ 8 := by omega
  clear h8 hch hm hv hl H51g H49g H35g hY1 hY2 hY3 hY4 hY5 hcp himp hN
  go_enter Try.func15, Try.ntmps15
  go_wp2_with (first
    | (go_at_call 51; refine H51.out.mono ?_; rintro e wa ⟨v, rfl, ho, hb⟩; obtain ⟨Aa, ca, rfl, hla, hca⟩ := Kd.R_reads ho; rw [HCL.out] at hla hca ⊢; have HCa := Aside0.mk hca; have HBa := Aside0.mk (below_then HB.out HB.out.size hb); have Ka := Aside0.mk (blk_below K0.out hb); obtain ⟨a0, a1⟩ := cells2 Ka.out; clear hb ho hla hca)
    | (go_at_call 49; refine (H49.out _ HBa.out).mono ?_; rintro e wb ⟨v, rfl, ho, hb⟩; obtain ⟨Ab, cb, rfl, hlb, hcb⟩ := Kd.R_reads ho; have HCb := Aside0.mk hcb; have HCa2 := Aside0.mk (Kd.C_below HCa.out hb); have HBb := Aside0.mk (below_then HBa.out HBa.out.size hb); have Kb := Aside0.mk (blk_below Ka.out hb); clear a0 a1; obtain ⟨a0, a1⟩ := cells2 Kb.out; clear hb ho hlb hcb)
    | (go_at_call 35; refine (H35.out _ HBb.out).mono ?_; rintro e wc ⟨rfl, hb⟩; have HCz := Aside0.mk (Kd.C_below HCa2.out hb); have HIz := Aside0.mk (Kd.C_below HCb.out hb); have HBz := Aside0.mk (below_then HBb.out HBb.out.size hb); have Kz := Aside0.mk (blk_below Kb.out hb); clear hb a0 a1))
  clear HCa HCa2 HCb HBa HBb Ka Kb
  go_loopw [11] (fun v11 wr => ∃ b : Nat, Aside0 (b ≤ Yn.length + 1) ∧ v11 = .int .i64 ((b : Int) - 1) ∧ Aside0 (Below wc.heap.size wc wr)) (fun v11 _ => Yn.length - (intOf v11).toNat + (if intOf v11 < 0 then 1 else 0))
  case atStart => exact ⟨0, ⟨Nat.zero_le _⟩, rfl, ⟨Below.refl _ _⟩⟩
  case round =>
    obtain ⟨b, hb, rfl, HBR⟩ := hrel
    obtain ⟨sk, hsk⟩ : ∃ sk : Int, sk = (b : Int) - 1 := ⟨_, rfl⟩
    rw [← hsk]
    have HSK := Aside0.mk hsk
    by_cases hlt : sk < (Yn.length : Int)
    · have hsr : -1 ≤ sk ∧ sk ≤ 100 := by omega
      clear hsk
      go_wp2
      go_loopw [12, 13] (fun v12 v13 wr => ∃ (i : Nat) (A : Option Addr) (c : Nat), Aside0 (i ≤ Yn.length) ∧ v13 = .int .i64 i ∧ v12 = .slice A (pick l (fewTo Yn sk i)).length c ∧ Aside0 (Kd.N k36 36 wr wc.heap.size (fun _ => True) (.slice A (pick l (fewTo Yn sk i)).length c) (pick l (fewTo Yn sk i))) ∧ Aside0 (Below wc.heap.size wc wr)) (fun _ v13 _ => Yn.length - (intOf v13).toNat)
      case atStart => exact ⟨0, none, 0, ⟨Nat.zero_le _⟩, rfl, rfl, ⟨Kd.N_nil _ _ _ _ _⟩, HBR⟩
      case round =>
        clear HBR
        obtain ⟨i, A, c, hi, rfl, rfl, HO, HBR⟩ := hrel
        by_cases hlt2 : i < Yn.length
        · have hyl := HY3.out _ (List.getElem_mem hlt2)
          obtain ⟨adc, ec, hce⟩ := Kd.at_int HCz.out (i : Int) (by omega) (by omega)
          subst ec
          rw [Int.toNat_natCast, castL_rd Yn i hlt2] at hce
          replace hce := (HBR.out.cell (World.block_lt_of_cell? wc _ hce)).trans hce
          have hsuc := fewTo_succ Yn sk i hlt2
          have hfl := fewTo_len Yn sk i
          obtain ⟨X, hX⟩ : ∃ X, X = fewTo Yn sk i := ⟨_, rfl⟩
          rw [← hX] at hsuc hfl HO ⊢
          obtain ⟨y, hy⟩ : ∃ y, y = Yn[i] := ⟨_, rfl⟩
          rw [← hy] at hyl hce hsuc
          have HYY := Aside0.mk hy
          have HSUC := Aside0.mk hsuc
          have hPL := pick_len l X
          obtain ⟨XL, hXL⟩ : ∃ XL, XL = (pick l X).length := ⟨_, rfl⟩
          rw [← hXL] at hPL HO ⊢
          have HXL := Aside0.mk hXL
          have hXl8 : XL ≤ 8 := by omega
          clear hX hy hsuc hXL hPL hfl
          obtain ⟨adl, A5, c5, el, k0, k1, k2, k3, k4, k5, k6, hl5, hg5⟩ := at_T36 G1.out (y : Int) (by omega) (by omega)
          subst el
          obtain ⟨q, hq⟩ : ∃ q, q = rd_T36 l (y : Int) := ⟨_, rfl⟩
          rw [← hq] at k0 k1 k2 k3 k4 k5 k6 hl5 hg5
          rw [Int.toNat_natCast] at k0 k1 k2 k3 k4 k5 k6
          have HBW := Aside0.mk (below_then HBz.out HBz.out.size HBR.out)
          have HQ := Aside0.mk hq
          have mv := fun (a : Addr) (v : Value) (h : w.cell? a = some v) => (HBW.out.cell (World.block_lt_of_cell? w _ h)).trans h
          replace k0 := mv _ _ k0
          replace k1 := mv _ _ k1
          replace k2 := mv _ _ k2
          replace k3 := mv _ _ k3
          replace k4 := mv _ _ k4
          replace k5 := mv _ _ k5
          replace k6 := mv _ _ k6
          have HQF := Aside0.mk (k36_mkF w _ q hl5 (Kd.C_F (Kd.heap_int .i64) hg5))
          clear mv hq hl5 hg5
          have hy0 : decide ((y : Int) < 0) = false := decide_eq_false (by omega)
          have hy1 : decide (l.length ≤ y) = false := decide_eq_false (by omega)
          have hyi : decide ((l.length : Int) ≤ (y : Int)) = false := decide_eq_false (by omega)
          go_wp2
          rcases Nat.eq_zero_or_pos i with hi0 | hi0
          · have hgt : decide (0 < i) = false := decide_eq_false (by omega)
            clear hi0
            refine start_ (n := 30) (S := fun w' => w'.cell? (adc.add i) = some (.int .i64 (y : Int))) (ds := []) #[false, false, false, false, false, false, false, false, false, false, false, false, false, false, false, false, false, false, false, false, false, false, false, false, false, false, false, false, false, false] (by kernel_rfl) rfl rfl hce (fun hHeld => ?_)
            refine pure_ (i := 0) (N := some 78) (v := ?_) (a' := ?_) #[true, false, false, false, false, false, false, false, false, false, false, false, false, false, false, false, false, false, false, false, false, false, false, false, false, false, false, false, false, false] rfl rfl (by kernel_rfl) (fun _ _ _ h => h) (Or.inl ⟨by rfl, ?_⟩) ?_ ?_
            rotate_left
            · intro w'
              go_simp
              with_reducible rfl
            rotate_left
            · simp only [Act.put, List.setIfInBounds_toArray, List.set_cons_zero, List.set_cons_succ, i64_w, i32_w]
              rfl
            refine pure_ (i := 1) (N := some 79) (v := ?_) (a' := ?_) #[true, true, false, false, false, false, false, false, false, false, false, false, false, false, false, false, false, false, false, false, false, false, false, false, false, false, false, false, false, false] rfl rfl (by kernel_rfl) (fun _ _ _ h => h) (Or.inl ⟨by rfl, ?_⟩) ?_ ?_
            rotate_left
            · intro w'
              go_simp
              with_reducible rfl
            rotate_left
            · simp only [Act.put, List.setIfInBounds_toArray, List.set_cons_zero, List.set_cons_succ, i64_w, i32_w]
              rfl
            refine pure_ (i := 2) (N := some 80) (v := ?_) (a' := ?_) #[true, true, true, false, false, false, false, false, false, false, false, false, false, false, false, false, false, false, false, false, false, false, false, false, false, false, false, false, false, false] rfl rfl (by kernel_rfl) (fun _ _ _ h => h) (Or.inl ⟨by rfl, ?_⟩) ?_ ?_
            rotate_left
            · intro w'
              go_simp
              with_reducible rfl
            rotate_left
            · simp only [Act.put, List.setIfInBounds_toArray, List.set_cons_zero, List.set_cons_succ, i64_w, i32_w]
              rfl
            refine take_ (i := 3) (N := some 81) (v := ?_) (a' := ?_) #[true, true, true, true, false, false, false, false, false, false, false, false, false, false, false, false, false, false, false, false, false, false, false, false, false, false, false, false, false, false] rfl rfl (by kernel_rfl) (fun _ _ _ h => h) (Or.inl ⟨by rfl, ?_⟩) hHeld ?_ ?_
            rotate_left
            · rintro w' s0
              go_simp
              with_reducible rfl
            rotate_left
            · simp only [Act.put, List.setIfInBounds_toArray, List.set_cons_zero, List.set_cons_succ, i64_w, i32_w]
              rfl
            refine pure_ (i := 4) (N := some 82) (v := ?_) (a' := ?_) #[true, true, true, true, true, false, false, false, false, false, false, false, false, false, false, false, false, false, false, false, false, false, false, false, false, false, false, false, false, false] rfl rfl (by kernel_rfl) (fun _ _ _ h => h) (Or.inl ⟨by rfl, ?_⟩) ?_ ?_
            rotate_left
            · intro w'
              go_simp
              with_reducible rfl
            rotate_left
            · simp only [Act.put, List.setIfInBounds_toArray, List.set_cons_zero, List.set_cons_succ, i64_w, i32_w]
              rfl
            refine pure_ (i := 5) (N := some 83) (v := ?_) (a' := ?_) #[true, true, true, true, true, true, false, false, false, false, false, false, false, false, false, false, false, false, false, false, false, false, false, false, false, false, false, false, false, false] rfl rfl (by kernel_rfl) (fun _ _ _ h => h) (Or.inl ⟨by rfl, ?_⟩) ?_ ?_
            rotate_left
            · intro w'
              go_simp
              with_reducible rfl
            rotate_left
            · simp only [Act.put, List.setIfInBounds_toArray, List.set_cons_zero, List.set_cons_succ, i64_w, i32_w]
              rfl
            refine pure_ (i := 6) (N := some 84) (v := ?_) (a' := ?_) #[true, true, true, true, true, true, true, false, false, false, false, false, false, false, false, false, false, false, false, false, false, false, false, false, false, false, false, false, false, false] rfl rfl (by kernel_rfl) (fun _ _ _ h => h) (Or.inl ⟨by rfl, ?_⟩) ?_ ?_
            rotate_left
            · intro w'
              go_simp
              with_reducible rfl
            rotate_left
            · simp only [Act.put, List.setIfInBounds_toArray, List.set_cons_zero, List.set_cons_succ, i64_w, i32_w]
              rfl
            refine pure_ (i := 7) (N := some 85) (v := ?_) (a' := ?_) #[true, true, true, true, true, true, true, true, false, false, false, false, false, false, false, false, false, false, false, false, false, false, false, false, false, false, false, false, false, false] rfl rfl (by kernel_rfl) (fun _ _ _ h => h) (Or.inl ⟨by rfl, ?_⟩) ?_ ?_
            rotate_left
            · intro w'
              go_simp
              with_reducible rfl
            rotate_left
            · simp only [Act.put, List.setIfInBounds_toArray, List.set_cons_zero, List.set_cons_succ, i64_w, i32_w]
              rfl
            refine pure_ (i := 8) (N := some 86) (v := ?_) (a' := ?_) #[true, true, true, true, true, true, true, true, true, false, false, false, false, false, false, false, false, false, false, false, false, false, false, false, false, false, false, false, false, false] rfl rfl (by kernel_rfl) (fun _ _ _ h => h) (Or.inl ⟨by rfl, ?_⟩) ?_ ?_
            rotate_left
            · intro w'
              go_simp
              with_reducible rfl
            rotate_left
            · simp only [Act.put, List.setIfInBounds_toArray, List.set_cons_zero, List.set_cons_succ, i64_w, i32_w]
              rfl
            refine take_ (i := 9) (N := some 87) (v := ?_) (a' := ?_) #[true, true, true, true, true, true, true, true, true, true, false, false, false, false, false, false, false, false, false, false, false, false, false, false, false, false, false, false, false, false] rfl rfl (by kernel_rfl) (fun _ _ _ h => h) (Or.inl ⟨by rfl, ?_⟩) hHeld ?_ ?_
            rotate_left
            · rintro w' s0
              go_simp
              with_reducible rfl
            rotate_left
            · simp only [Act.put, List.setIfInBounds_toArray, List.set_cons_zero, List.set_cons_succ, i64_w, i32_w]
              rfl
            refine pure_ (i := 10) (N := some 88) (v := ?_) (a' := ?_) #[true, true, true, true, true, true, true, true, true, true, true, false, false, false, false, false, false, false, false, false, false, false, false, false, false, false, false, false, false, false] rfl rfl (by kernel_rfl) (fun _ _ _ h => h) (Or.inl ⟨by rfl, ?_⟩) ?_ ?_
            rotate_left
            · intro w'
              go_simp
              with_reducible rfl
            rotate_left
            · simp only [Act.put, List.setIfInBounds_toArray, List.set_cons_zero, List.set_cons_succ, i64_w, i32_w]
              rfl
            refine pure_ (i := 11) (N := some 89) (v := ?_) (a' := ?_) #[true, true, true, true, true, true, true, true, true, true, true, true, false, false, false, false, false, false, false, false, false, false, false, false, false, false, false, false, false, false] rfl rfl (by kernel_rfl) (fun _ _ _ h => h) (Or.inl ⟨by rfl, ?_⟩) ?_ ?_
            rotate_left
            · intro w'
              go_simp
              with_reducible rfl
            rotate_left
            · simp only [Act.put, List.setIfInBounds_toArray, List.set_cons_zero, List.set_cons_succ, i64_w, i32_w]
              rfl
            refine pure_ (i := 12) (N := some 90) (v := ?_) (a' := ?_) #[true, true, true, true, true, true, true, true, true, true, true, true, true, false, false, false, false, false, false, false, false, false, false, false, false, false, false, false, false, false] rfl rfl (by kernel_rfl) (fun _ _ _ h => h) (Or.inl ⟨by rfl, ?_⟩) ?_ ?_
            rotate_left
            · intro w'
              go_simp
              with_reducible rfl
            rotate_left
            · simp only [Act.put, List.setIfInBounds_toArray, List.set_cons_zero, List.set_cons_succ, i64_w, i32_w]
              rfl
            refine pure_ (i := 13) (N := some 91) (v := ?_) (a' := ?_) #[true, true, true, true, true, true, true, true, true, true, true, true, true, true, false, false, false, false, false, false, false, false, false, false, false, false, false, false, false, false] rfl rfl (by kernel_rfl) (fun _ _ _ h => h) (Or.inl ⟨by rfl, ?_⟩) ?_ ?_
            rotate_left
            · intro w'
              go_simp
              with_reducible rfl
            rotate_left
            · simp only [Act.put, List.setIfInBounds_toArray, List.set_cons_zero, List.set_cons_succ, i64_w, i32_w]
              rfl
            refine pure_ (i := 14) (N := some 92) (v := ?_) (a' := ?_) #[true, true, true, true, true, true, true, true, true, true, true, true, true, true, true, false, false, false, false, false, false, false, false, false, false, false, false, false, false, false] rfl rfl (by kernel_rfl) (fun _ _ _ h => h) (Or.inl ⟨by rfl, ?_⟩) ?_ ?_
            rotate_left
            · intro w'
              go_simp
              with_reducible rfl
            rotate_left
            · simp only [Act.put, List.setIfInBounds_toArray, List.set_cons_zero, List.set_cons_succ, i64_w, i32_w]
              rfl
            refine pure_ (i := 15) (N := some 93) (v := ?_) (a' := ?_) #[true, true, true, true, true, true, true, true, true, true, true, true, true, true, true, true, false, false, false, false, false, false, false, false, false, false, false, false, false, false] rfl rfl (by kernel_rfl) (fun _ _ _ h => h) (Or.inl ⟨by rfl, ?_⟩) ?_ ?_
            rotate_left
            · intro w'
              go_simp
              with_reducible rfl
            rotate_left
            · simp only [Act.put, List.setIfInBounds_toArray, List.set_cons_zero, List.set_cons_succ, i64_w, i32_w]
              rfl
            refine pure_ (i := 16) (N := some 94) (v := ?_) (a' := ?_) #[true, true, true, true, true, true, true, true, true, true, true, true, true, true, true, true, true, false, false, false, false, false, false, false, false, false, false, false, false, false] rfl rfl (by kernel_rfl) (fun _ _ _ h => h) (Or.inl ⟨by rfl, ?_⟩) ?_ ?_
            rotate_left
            · intro w'
              go_simp
              with_reducible rfl
            rotate_left
            · simp only [Act.put, List.setIfInBounds_toArray, List.set_cons_zero, List.set_cons_succ, i64_w, i32_w]
              rfl
            refine pure_ (i := 17) (N := some 95) (v := ?_) (a' := ?_) #[true, true, true, true, true, true, true, true, true, true, true, true, true, true, true, true, true, true, false, false, false, false, false, false, false, false, false, false, false, false] rfl rfl (by kernel_rfl) (fun _ _ _ h => h) (Or.inl ⟨by rfl, ?_⟩) ?_ ?_
            rotate_left
            · intro w'
              go_simp
              with_reducible rfl
            rotate_left
            · simp only [Act.put, List.setIfInBounds_toArray, List.set_cons_zero, List.set_cons_succ, i64_w, i32_w]
              rfl
            refine pure_ (i := 18) (N := some 96) (v := undef) (a' := ?_) #[true, true, true, true, true, true, true, true, true, true, true, true, true, true, true, true, true, true, true, false, false, false, false, false, false, false, false, false, false, false] rfl rfl (by kernel_rfl) (fun _ _ _ h => h) (Or.inr ⟨by rfl, rfl⟩) ?_ ?_
            rotate_left
            · simp only [Act.put, List.setIfInBounds_toArray, List.set_cons_zero, List.set_cons_succ, i64_w, i32_w]
              rfl
            refine pure_ (i := 19) (N := some 97) (v := undef) (a' := ?_) #[true, true, true, true, true, true, true, true, true, true, true, true, true, true, true, true, true, true, true, true, false, false, false, false, false, false, false, false, false, false] rfl rfl (by kernel_rfl) (fun _ _ _ h => h) (Or.inr ⟨by rfl, rfl⟩) ?_ ?_
            rotate_left
            · simp only [Act.put, List.setIfInBounds_toArray, List.set_cons_zero, List.set_cons_succ, i64_w, i32_w]
              rfl
            refine pure_ (i := 20) (N := some 98) (v := undef) (a' := ?_) #[true, true, true, true, true, true, true, true, true, true, true, true, true, true, true, true, true, true, true, true, true, false, false, false, false, false, false, false, false, false] rfl rfl (by kernel_rfl) (fun _ _ _ h => h) (Or.inr ⟨by rfl, rfl⟩) ?_ ?_
            rotate_left
            · simp only [Act.put, List.setIfInBounds_toArray, List.set_cons_zero, List.set_cons_succ, i64_w, i32_w]
              rfl
            refine pure_ (i := 21) (N := some 99) (v := undef) (a' := ?_) #[true, true, true, true, true, true, true, true, true, true, true, true, true, true, true, true, true, true, true, true, true, true, false, false, false, false, false, false, false, false] rfl rfl (by kernel_rfl) (fun _ _ _ h => h) (Or.inr ⟨by rfl, rfl⟩) ?_ ?_
            rotate_left
            · simp only [Act.put, List.setIfInBounds_toArray, List.set_cons_zero, List.set_cons_succ, i64_w, i32_w]
              rfl
            refine pure_ (i := 22) (N := some 100) (v := undef) (a' := ?_) #[true, true, true, true, true, true, true, true, true, true, true, true, true, true, true, true, true, true, true, true, true, true, true, false, false, false, false, false, false, false] rfl rfl (by kernel_rfl) (fun _ _ _ h => h) (Or.inr ⟨by rfl, rfl⟩) ?_ ?_
            rotate_left
            · simp only [Act.put, List.setIfInBounds_toArray, List.set_cons_zero, List.set_cons_succ, i64_w, i32_w]
              rfl
            refine pure_ (i := 23) (N := some 101) (v := undef) (a' := ?_) #[true, true, true, true, true, true, true, true, true, true, true, true, true, true, true, true, true, true, true, true, true, true, true, true, false, false, false, false, false, false] rfl rfl (by kernel_rfl) (fun _ _ _ h => h) (Or.inr ⟨by rfl, rfl⟩) ?_ ?_
            rotate_left
            · simp only [Act.put, List.setIfInBounds_toArray, List.set_cons_zero, List.set_cons_succ, i64_w, i32_w]
              rfl
            refine pure_ (i := 24) (N := some 102) (v := undef) (a' := ?_) #[true, true, true, true, true, true, true, true, true, true, true, true, true, true, true, true, true, true, true, true, true, true, true, true, true, false, false, false, false, false] rfl rfl (by kernel_rfl) (fun _ _ _ h => h) (Or.inr ⟨by rfl, rfl⟩) ?_ ?_
            rotate_left
            · simp only [Act.put, List.setIfInBounds_toArray, List.set_cons_zero, List.set_cons_succ, i64_w, i32_w]
              rfl
            refine pure_ (i := 25) (N := some 103) (v := undef) (a' := ?_) #[true, true, true, true, true, true, true, true, true, true, true, true, true, true, true, true, true, true, true, true, true, true, true, true, true, true, false, false, false, false] rfl rfl (by kernel_rfl) (fun _ _ _ h => h) (Or.inr ⟨by rfl, rfl⟩) ?_ ?_
            rotate_left
            · simp only [Act.put, List.setIfInBounds_toArray, List.set_cons_zero, List.set_cons_succ, i64_w, i32_w]
              rfl
            refine pure_ (i := 26) (N := some 104) (v := undef) (a' := ?_) #[true, true, true, true, true, true, true, true, true, true, true, true, true, true, true, true, true, true, true, true, true, true, true, true, true, true, true, false, false, false] rfl rfl (by kernel_rfl) (fun _ _ _ h => h) (Or.inr ⟨by rfl, rfl⟩) ?_ ?_
            rotate_left
            · simp only [Act.put, List.setIfInBounds_toArray, List.set_cons_zero, List.set_cons_succ, i64_w, i32_w]
              rfl
            refine pure_ (i := 27) (N := some 105) (v := undef) (a' := ?_) #[true, true, true, true, true, true, true, true, true, true, true, true, true, true, true, true, true, true, true, true, true, true, true, true, true, true, true, true, false, false] rfl rfl (by kernel_rfl) (fun _ _ _ h => h) (Or.inr ⟨by rfl, rfl⟩) ?_ ?_
            rotate_left
            · simp only [Act.put, List.setIfInBounds_toArray, List.set_cons_zero, List.set_cons_succ, i64_w, i32_w]
              rfl
            refine pure_ (i := 28) (N := some 106) (v := ?_) (a' := ?_) #[true, true, true, true, true, true, true, true, true, true, true, true, true, true, true, true, true, true, true, true, true, true, true, true, true, true, true, true, true, false] rfl rfl (by kernel_rfl) (fun _ _ _ h => h) (Or.inl ⟨by rfl, ?_⟩) ?_ ?_
            rotate_left
            · intro w'
              go_simp
              with_reducible rfl
            rotate_left
            · simp only [Act.put, List.setIfInBounds_toArray, List.set_cons_zero, List.set_cons_succ, i64_w, i32_w]
              rfl
            refine pure_ (i := 29) (N := some 107) (v := ?_) (a' := ?_) #[true, true, true, true, true, true, true, true, true, true, true, true, true, true, true, true, true, true, true, true, true, true, true, true, true, true, true, true, true, true] rfl rfl (by kernel_rfl) (fun _ _ _ h => h) (Or.inl ⟨by rfl, ?_⟩) ?_ ?_
            rotate_left
            · intro w'
              go_simp
              with_reducible rfl
            rotate_left
            · simp only [Act.put, List.setIfInBounds_toArray, List.set_cons_zero, List.set_cons_succ, i64_w, i32_w]
              rfl
            refine done_ (by kernel_rfl) ?_
            clear hHeld hgt
            by_cases hs : (i : Int) = sk
            · have q1 : ((i : Int) != sk) = false := by rw [hs]; simp
              have hS1 := HSUC.out
              rw [if_pos hs] at hS1
              have HS1 := Aside0.mk hS1
              clear hS1 hs
              go_wp2
              refine ⟨⟨i + 1, A, c, ⟨by omega⟩, by go_num, by rw [HS1.out, ← HXL.out], ⟨by rw [HS1.out, ← HXL.out]; exact Kd.N_drew HO.out⟩, ⟨below_drew1 HBR.out⟩⟩, ?_⟩
              simp [intOf]; omega
            · have q1 : ((i : Int) != sk) = true := bne_iff_ne.mpr hs
              have hS1 := HSUC.out
              rw [if_neg hs] at hS1
              have hv : pick l (fewTo Yn sk (i + 1)) = pick l X ++ [q] := by rw [hS1, pick_snoc, HQ.out]
              have HV1 := Aside0.mk hv
              have hokp : ∀ k, k < w.heap.size → True ∧ some k ≠ (Value.slice A XL c).ownBlock := fun k hk => ⟨trivial, fun e => by have h1 := Kd.N_base HO.out k e.symm; have h2 := HBz.out.size; omega⟩
              have HOK := Aside0.mk hokp
              have hql : (pick l X).length = XL := HXL.out.symm
              have HQL := Aside0.mk hql
              clear hS1 hs hv hokp hql
              go_wp2_with (first | ((with_reducible refine gate_builtin (b := .append) (xs := #[.tmp 111, .tmp 119]) rfl ?_); at_builtin; refine Kd.N_append k36 (w0 := wc) wc.heap.size rfl (.tmp 111) (.tmp 119) 31 36 _ 72 rfl Try.underlying31 info36 rfl (by decide) (by omega) (.slice A XL c) (pick l X) q _ (fun _ => True) (fun k => k < w.heap.size) rfl rfl (Kd.FK_step HQF.out (fun k hk _ => (below_drew1 HBW.out).block k hk)) HOK.out (fun _ _ => trivial) (Kd.N_drew HO.out) (below_drew1 HBR.out) (below_drew1 HBR.out).size (by rw [HQL.out]; omega) ?_; intro v1 w1 hN hb1 hg hat; obtain ⟨A1_, c1_, rfl⟩ := Kd.N_slice hN; have HN1 := Aside0.mk hN; have HB1_ := Aside0.mk hb1; clear hN hb1 hg hat))
              try go_wp2
              refine ⟨⟨i + 1, A1_, c1_, ⟨by omega⟩, by go_num, by rw [HV1.out]; simp, ⟨by rw [HV1.out]; exact HN1.out⟩, HB1_⟩, ?_⟩
              simp [intOf]; omega
          · obtain ⟨j, hj⟩ : ∃ j, j = i - 1 := ⟨_, rfl⟩
            have hjY : j < Yn.length := by omega
            obtain ⟨adz, e2, hcj⟩ := Kd.at_int HCz.out (j : Int) (by omega) (by omega)
            obtain rfl : adc = adz := by injection e2
            rw [Int.toNat_natCast, castL_rd Yn j hjY] at hcj
            replace hcj := (HBR.out.cell (World.block_lt_of_cell? wc _ hcj)).trans hcj
            have hlt3 : Yn[j] < y := by
              have := List.pairwise_iff_getElem.1 HY2.out j i hjY hlt2 (by omega)
              rw [HYY.out]; exact this
            obtain ⟨z, hz⟩ : ∃ z, z = Yn[j] := ⟨_, rfl⟩
            rw [← hz] at hcj hlt3
            have hle : decide ((y : Int) ≤ (z : Int)) = false := decide_eq_false (by omega)
            have hlen_ : decide (y ≤ z) = false := decide_eq_false (by omega)
            have hsub := ex_sub i j hj hi0 (by omega)
            clear hj hz hlt3
            refine start_ (n := 30) (S := fun w' => w'.cell? (adc.add i) = some (.int .i64 (y : Int)) ∧ w'.cell? (adc.add j) = some (.int .i64 (z : Int))) (ds := []) #[false, false, false, false, false, false, false, false, false, false, false, false, false, false, false, false, false, false, false, false, false, false, false, false, false, false, false, false, false, false] (by kernel_rfl) rfl rfl ⟨hce, hcj⟩ (fun hHeld => ?_)
            refine pure_ (i := 0) (N := some 78) (v := ?_) (a' := ?_) #[true, false, false, false, false, false, false, false, false, false, false, false, false, false, false, false, false, false, false, false, false, false, false, false, false, false, false, false, false, false] rfl rfl (by kernel_rfl) (fun _ _ _ h => h) (Or.inl ⟨by rfl, ?_⟩) ?_ ?_
            rotate_left
            · intro w'
              go_simp
              with_reducible rfl
            rotate_left
            · simp only [Act.put, List.setIfInBounds_toArray, List.set_cons_zero, List.set_cons_succ, i64_w, i32_w]
              rfl
            refine pure_ (i := 1) (N := some 79) (v := ?_) (a' := ?_) #[true, true, false, false, false, false, false, false, false, false, false, false, false, false, false, false, false, false, false, false, false, false, false, false, false, false, false, false, false, false] rfl rfl (by kernel_rfl) (fun _ _ _ h => h) (Or.inl ⟨by rfl, ?_⟩) ?_ ?_
            rotate_left
            · intro w'
              go_simp
              with_reducible rfl
            rotate_left
            · simp only [Act.put, List.setIfInBounds_toArray, List.set_cons_zero, List.set_cons_succ, i64_w, i32_w]
              rfl
            refine pure_ (i := 2) (N := some 80) (v := ?_) (a' := ?_) #[true, true, true, false, false, false, false, false, false, false, false, false, false, false, false, false, false, false, false, false, false, false, false, false, false, false, false, false, false, false] rfl rfl (by kernel_rfl) (fun _ _ _ h => h) (Or.inl ⟨by rfl, ?_⟩) ?_ ?_
            rotate_left
            · intro w'
              go_simp
              with_reducible rfl
            rotate_left
            · simp only [Act.put, List.setIfInBounds_toArray, List.set_cons_zero, List.set_cons_succ, i64_w, i32_w]
              rfl
            refine take_ (i := 3) (N := some 81) (v := ?_) (a' := ?_) #[true, true, true, true, false, false, false, false, false, false, false, false, false, false, false, false, false, false, false, false, false, false, false, false, false, false, false, false, false, false] rfl rfl (by kernel_rfl) (fun _ _ _ h => h) (Or.inl ⟨by rfl, ?_⟩) hHeld ?_ ?_
            rotate_left
            · rintro w' ⟨s0, s1⟩
              go_simp
              with_reducible rfl
            rotate_left
            · simp only [Act.put, List.setIfInBounds_toArray, List.set_cons_zero, List.set_cons_succ, i64_w, i32_w]
              rfl
            refine pure_ (i := 4) (N := some 82) (v := ?_) (a' := ?_) #[true, true, true, true, true, false, false, false, false, false, false, false, false, false, false, false, false, false, false, false, false, false, false, false, false, false, false, false, false, false] rfl rfl (by kernel_rfl) (fun _ _ _ h => h) (Or.inl ⟨by rfl, ?_⟩) ?_ ?_
            rotate_left
            · intro w'
              go_simp
              with_reducible rfl
            rotate_left
            · simp only [Act.put, List.setIfInBounds_toArray, List.set_cons_zero, List.set_cons_succ, i64_w, i32_w]
              rfl
            refine pure_ (i := 5) (N := some 83) (v := ?_) (a' := ?_) #[true, true, true, true, true, true, false, false, false, false, false, false, false, false, false, false, false, false, false, false, false, false, false, false, false, false, false, false, false, false] rfl rfl (by kernel_rfl) (fun _ _ _ h => h) (Or.inl ⟨by rfl, ?_⟩) ?_ ?_
            rotate_left
            · intro w'
              go_simp
              with_reducible rfl
            rotate_left
            · simp only [Act.put, List.setIfInBounds_toArray, List.set_cons_zero, List.set_cons_succ, i64_w, i32_w]
              rfl
            refine pure_ (i := 6) (N := some 84) (v := ?_) (a' := ?_) #[true, true, true, true, true, true, true, false, false, false, false, false, false, false, false, false, false, false, false, false, false, false, false, false, false, false, false, false, false, false] rfl rfl (by kernel_rfl) (fun _ _ _ h => h) (Or.inl ⟨by rfl, ?_⟩) ?_ ?_
            rotate_left
            · intro w'
              go_simp
              with_reducible rfl
            rotate_left
            · simp only [Act.put, List.setIfInBounds_toArray, List.set_cons_zero, List.set_cons_succ, i64_w, i32_w]
              rfl
            refine pure_ (i := 7) (N := some 85) (v := ?_) (a' := ?_) #[true, true, true, true, true, true, true, true, false, false, false, false, false, false, false, false, false, false, false, false, false, false, false, false, false, false, false, false, false, false] rfl rfl (by kernel_rfl) (fun _ _ _ h => h) (Or.inl ⟨by rfl, ?_⟩) ?_ ?_
            rotate_left
            · intro w'
              go_simp
              with_reducible rfl
            rotate_left
            · simp only [Act.put, List.setIfInBounds_toArray, List.set_cons_zero, List.set_cons_succ, i64_w, i32_w]
              rfl
            refine pure_ (i := 8) (N := some 86) (v := ?_) (a' := ?_) #[true, true, true, true, true, true, true, true, true, false, false, false, false, false, false, false, false, false, false, false, false, false, false, false, false, false, false, false, false, false] rfl rfl (by kernel_rfl) (fun _ _ _ h => h) (Or.inl ⟨by rfl, ?_⟩) ?_ ?_
            rotate_left
            · intro w'
              go_simp
              with_reducible rfl
            rotate_left
            · simp only [Act.put, List.setIfInBounds_toArray, List.set_cons_zero, List.set_cons_succ, i64_w, i32_w]
              rfl
            refine take_ (i := 9) (N := some 87) (v := ?_) (a' := ?_) #[true, true, true, true, true, true, true, true, true, true, false, false, false, false, false, false, false, false, false, false, false, false, false, false, false, false, false, false, false, false] rfl rfl (by kernel_rfl) (fun _ _ _ h => h) (Or.inl ⟨by rfl, ?_⟩) hHeld ?_ ?_
            rotate_left
            · rintro w' ⟨s0, s1⟩
              go_simp
              with_reducible rfl
            rotate_left
            · simp only [Act.put, List.setIfInBounds_toArray, List.set_cons_zero, List.set_cons_succ, i64_w, i32_w]
              rfl
            refine pure_ (i := 10) (N := some 88) (v := ?_) (a' := ?_) #[true, true, true, true, true, true, true, true, true, true, true, false, false, false, false, false, false, false, false, false, false, false, false, false, false, false, false, false, false, false] rfl rfl (by kernel_rfl) (fun _ _ _ h => h) (Or.inl ⟨by rfl, ?_⟩) ?_ ?_
            rotate_left
            · intro w'
              go_simp
              with_reducible rfl
            rotate_left
            · simp only [Act.put, List.setIfInBounds_toArray, List.set_cons_zero, List.set_cons_succ, i64_w, i32_w]
              rfl
            refine pure_ (i := 11) (N := some 89) (v := ?_) (a' := ?_) #[true, true, true, true, true, true, true, true, true, true, true, true, false, false, false, false, false, false, false, false, false, false, false, false, false, false, false, false, false, false] rfl rfl (by kernel_rfl) (fun _ _ _ h => h) (Or.inl ⟨by rfl, ?_⟩) ?_ ?_
            rotate_left
            · intro w'
              go_simp
              with_reducible rfl
            rotate_left
            · simp only [Act.put, List.setIfInBounds_toArray, List.set_cons_zero, List.set_cons_succ, i64_w, i32_w]
              rfl
            refine pure_ (i := 12) (N := some 90) (v := ?_) (a' := ?_) #[true, true, true, true, true, true, true, true, true, true, true, true, true, false, false, false, false, false, false, false, false, false, false, false, false, false, false, false, false, false] rfl rfl (by kernel_rfl) (fun _ _ _ h => h) (Or.inl ⟨by rfl, ?_⟩) ?_ ?_
            rotate_left
            · intro w'
              go_simp
              with_reducible rfl
            rotate_left
            · simp only [Act.put, List.setIfInBounds_toArray, List.set_cons_zero, List.set_cons_succ, i64_w, i32_w]
              rfl
            refine pure_ (i := 13) (N := some 91) (v := ?_) (a' := ?_) #[true, true, true, true, true, true, true, true, true, true, true, true, true, true, false, false, false, false, false, false, false, false, false, false, false, false, false, false, false, false] rfl rfl (by kernel_rfl) (fun _ _ _ h => h) (Or.inl ⟨by rfl, ?_⟩) ?_ ?_
            rotate_left
            · intro w'
              go_simp
              with_reducible rfl
            rotate_left
            · simp only [Act.put, List.setIfInBounds_toArray, List.set_cons_zero, List.set_cons_succ, i64_w, i32_w]
              rfl
            refine pure_ (i := 14) (N := some 92) (v := ?_) (a' := ?_) #[true, true, true, true, true, true, true, true, true, true, true, true, true, true, true, false, false, false, false, false, false, false, false, false, false, false, false, false, false, false] rfl rfl (by kernel_rfl) (fun _ _ _ h => h) (Or.inl ⟨by rfl, ?_⟩) ?_ ?_
            rotate_left
            · intro w'
              go_simp
              with_reducible rfl
            rotate_left
            · simp only [Act.put, List.setIfInBounds_toArray, List.set_cons_zero, List.set_cons_succ, i64_w, i32_w]
              rfl
            refine pure_ (i := 15) (N := some 93) (v := ?_) (a' := ?_) #[true, true, true, true, true, true, true, true, true, true, true, true, true, true, true, true, false, false, false, false, false, false, false, false, false, false, false, false, false, false] rfl rfl (by kernel_rfl) (fun _ _ _ h => h) (Or.inl ⟨by rfl, ?_⟩) ?_ ?_
            rotate_left
            · intro w'
              go_simp
              with_reducible rfl
            rotate_left
            · simp only [Act.put, List.setIfInBounds_toArray, List.set_cons_zero, List.set_cons_succ, i64_w, i32_w]
              rfl
            refine pure_ (i := 16) (N := some 94) (v := ?_) (a' := ?_) #[true, true, true, true, true, true, true, true, true, true, true, true, true, true, true, true, true, false, false, false, false, false, false, false, false, false, false, false, false, false] rfl rfl (by kernel_rfl) (fun _ _ _ h => h) (Or.inl ⟨by rfl, ?_⟩) ?_ ?_
            rotate_left
            · intro w'
              go_simp
              with_reducible rfl
            rotate_left
            · simp only [Act.put, List.setIfInBounds_toArray, List.set_cons_zero, List.set_cons_succ, i64_w, i32_w]
              rfl
            refine pure_ (i := 17) (N := some 95) (v := ?_) (a' := ?_) #[true, true, true, true, true, true, true, true, true, true, true, true, true, true, true, true, true, true, false, false, false, false, false, false, false, false, false, false, false, false] rfl rfl (by kernel_rfl) (fun _ _ _ h => h) (Or.inl ⟨by rfl, ?_⟩) ?_ ?_
            rotate_left
            · intro w'
              go_simp
              with_reducible rfl
            rotate_left
            · simp only [Act.put, List.setIfInBounds_toArray, List.set_cons_zero, List.set_cons_succ, i64_w, i32_w]
              rfl
            refine pure_ (i := 18) (N := some 96) (v := ?_) (a' := ?_) #[true, true, true, true, true, true, true, true, true, true, true, true, true, true, true, true, true, true, true, false, false, false, false, false, false, false, false, false, false, false] rfl rfl (by kernel_rfl) (fun _ _ _ h => h) (Or.inl ⟨by rfl, ?_⟩) ?_ ?_
            rotate_left
            · intro w'
              go_simp
              with_reducible rfl
            rotate_left
            · simp only [Act.put, List.setIfInBounds_toArray, List.set_cons_zero, List.set_cons_succ, i64_w, i32_w]
              rfl
            refine pure_ (i := 19) (N := some 97) (v := ?_) (a' := ?_) #[true, true, true, true, true, true, true, true, true, true, true, true, true, true, true, true, true, true, true, true, false, false, false, false, false, false, false, false, false, false] rfl rfl (by kernel_rfl) (fun _ _ _ h => h) (Or.inl ⟨by rfl, ?_⟩) ?_ ?_
            rotate_left
            · intro w'
              go_simp
              with_reducible rfl
            rotate_left
            · simp only [Act.put, List.setIfInBounds_toArray, List.set_cons_zero, List.set_cons_succ, i64_w, i32_w]
              rfl
            refine pure_ (i := 20) (N := some 98) (v := ?_) (a' := ?_) #[true, true, true, true, true, true, true, true, true, true, true, true, true, true, true, true, true, true, true, true, true, false, false, false, false, false, false, false, false, false] rfl rfl (by kernel_rfl) (fun _ _ _ h => h) (Or.inl ⟨by rfl, ?_⟩) ?_ ?_
            rotate_left
            · intro w'
              go_simp
              with_reducible rfl
            rotate_left
            · simp only [Act.put, List.setIfInBounds_toArray, List.set_cons_zero, List.set_cons_succ, i64_w, i32_w]
              rfl
            refine take_ (i := 21) (N := some 99) (v := ?_) (a' := ?_) #[true, true, true, true, true, true, true, true, true, true, true, true, true, true, true, true, true, true, true, true, true, true, false, false, false, false, false, false, false, false] rfl rfl (by kernel_rfl) (fun _ _ _ h => h) (Or.inl ⟨by rfl, ?_⟩) hHeld ?_ ?_
            rotate_left
            · rintro w' ⟨s0, s1⟩
              go_simp
              with_reducible rfl
            rotate_left
            · simp only [Act.put, List.setIfInBounds_toArray, List.set_cons_zero, List.set_cons_succ, i64_w, i32_w]
              rfl
            refine pure_ (i := 22) (N := some 100) (v := ?_) (a' := ?_) #[true, true, true, true, true, true, true, true, true, true, true, true, true, true, true, true, true, true, true, true, true, true, true, false, false, false, false, false, false, false] rfl rfl (by kernel_rfl) (fun _ _ _ h => h) (Or.inl ⟨by rfl, ?_⟩) ?_ ?_
            rotate_left
            · intro w'
              go_simp
              with_reducible rfl
            rotate_left
            · simp only [Act.put, List.setIfInBounds_toArray, List.set_cons_zero, List.set_cons_succ, i64_w, i32_w]
              rfl
            refine pure_ (i := 23) (N := some 101) (v := ?_) (a' := ?_) #[true, true, true, true, true, true, true, true, true, true, true, true, true, true, true, true, true, true, true, true, true, true, true, true, false, false, false, false, false, false] rfl rfl (by kernel_rfl) (fun _ _ _ h => h) (Or.inl ⟨by rfl, ?_⟩) ?_ ?_
            rotate_left
            · intro w'
              go_simp
              with_reducible rfl
            rotate_left
            · simp only [Act.put, List.setIfInBounds_toArray, List.set_cons_zero, List.set_cons_succ, i64_w, i32_w]
              rfl
            refine pure_ (i := 24) (N := some 102) (v := ?_) (a' := ?_) #[true, true, true, true, true, true, true, true, true, true, true, true, true, true, true, true, true, true, true, true, true, true, true, true, true, false, false, false, false, false] rfl rfl (by kernel_rfl) (fun _ _ _ h => h) (Or.inl ⟨by rfl, ?_⟩) ?_ ?_
            rotate_left
            · intro w'
              go_simp
              with_reducible rfl
            rotate_left
            · simp only [Act.put, List.setIfInBounds_toArray, List.set_cons_zero, List.set_cons_succ, i64_w, i32_w]
              rfl
            refine pure_ (i := 25) (N := some 103) (v := ?_) (a' := ?_) #[true, true, true, true, true, true, true, true, true, true, true, true, true, true, true, true, true, true, true, true, true, true, true, true, true, true, false, false, false, false] rfl rfl (by kernel_rfl) (fun _ _ _ h => h) (Or.inl ⟨by rfl, ?_⟩) ?_ ?_
            rotate_left
            · intro w'
              go_simp
              with_reducible rfl
            rotate_left
            · simp only [Act.put, List.setIfInBounds_toArray, List.set_cons_zero, List.set_cons_succ, i64_w, i32_w]
              rfl
            refine take_ (i := 26) (N := some 104) (v := ?_) (a' := ?_) #[true, true, true, true, true, true, true, true, true, true, true, true, true, true, true, true, true, true, true, true, true, true, true, true, true, true, true, false, false, false] rfl rfl (by kernel_rfl) (fun _ _ _ h => h) (Or.inl ⟨by rfl, ?_⟩) hHeld ?_ ?_
            rotate_left
            · rintro w' ⟨s0, s1⟩
              go_simp
              with_reducible rfl
            rotate_left
            · simp only [Act.put, List.setIfInBounds_toArray, List.set_cons_zero, List.set_cons_succ, i64_w, i32_w]
              rfl
            refine pure_ (i := 27) (N := some 105) (v := ?_) (a' := ?_) #[true, true, true, true, true, true, true, true, true, true, true, true, true, true, true, true, true, true, true, true, true, true, true, true, true, true, true, true, false, false] rfl rfl (by kernel_rfl) (fun _ _ _ h => h) (Or.inl ⟨by rfl, ?_⟩) ?_ ?_
            rotate_left
            · intro w'
              go_simp
              with_reducible rfl
            rotate_left
            · simp only [Act.put, List.setIfInBounds_toArray, List.set_cons_zero, List.set_cons_succ, i64_w, i32_w]
              rfl
            refine pure_ (i := 28) (N := some 106) (v := ?_) (a' := ?_) #[true, true, true, true, true, true, true, true, true, true, true, true, true, true, true, true, true, true, true, true, true, true, true, true, true, true, true, true, true, false] rfl rfl (by kernel_rfl) (fun _ _ _ h => h) (Or.inl ⟨by rfl, ?_⟩) ?_ ?_
            rotate_left
            · intro w'
              go_simp
              with_reducible rfl
            rotate_left
            · simp only [Act.put, List.setIfInBounds_toArray, List.set_cons_zero, List.set_cons_succ, i64_w, i32_w]
              rfl
            refine pure_ (i := 29) (N := some 107) (v := ?_) (a' := ?_) #[true, true, true, true, true, true, true, true, true, true, true, true, true, true, true, true, true, true, true, true, true, true, true, true, true, true, true, true, true, true] rfl rfl (by kernel_rfl) (fun _ _ _ h => h) (Or.inl ⟨by rfl, ?_⟩) ?_ ?_
            rotate_left
            · intro w'
              go_simp
              with_reducible rfl
            rotate_left
            · simp only [Act.put, List.setIfInBounds_toArray, List.set_cons_zero, List.set_cons_succ, i64_w, i32_w]
              rfl
            refine done_ (by kernel_rfl) ?_
            clear hHeld hcj hle hlen_ hsub
            by_cases hs : (i : Int) = sk
            · have q1 : ((i : Int) != sk) = false := by rw [hs]; simp
              have hS1 := HSUC.out
              rw [if_pos hs] at hS1
              have HS1 := Aside0.mk hS1
              clear hS1 hs
              go_wp2
              refine ⟨⟨i + 1, A, c, ⟨by omega⟩, by go_num, by rw [HS1.out, ← HXL.out], ⟨by rw [HS1.out, ← HXL.out]; exact Kd.N_drew HO.out⟩, ⟨below_drew1 HBR.out⟩⟩, ?_⟩
              simp [intOf]; omega
            · have q1 : ((i : Int) != sk) = true := bne_iff_ne.mpr hs
              have hS1 := HSUC.out
              rw [if_neg hs] at hS1
              have hv : pick l (fewTo Yn sk (i + 1)) = pick l X ++ [q] := by rw [hS1, pick_snoc, HQ.out]
              have HV1 := Aside0.mk hv
              have hokp : ∀ k, k < w.heap.size → True ∧ some k ≠ (Value.slice A XL c).ownBlock := fun k hk => ⟨trivial, fun e => by have h1 := Kd.N_base HO.out k e.symm; have h2 := HBz.out.size; omega⟩
              have HOK := Aside0.mk hokp
              have hql : (pick l X).length = XL := HXL.out.symm
              have HQL := Aside0.mk hql
              clear hS1 hs hv hokp hql
              go_wp2_with (first | ((with_reducible refine gate_builtin (b := .append) (xs := #[.tmp 111, .tmp 119]) rfl ?_); at_builtin; refine Kd.N_append k36 (w0 := wc) wc.heap.size rfl (.tmp 111) (.tmp 119) 31 36 _ 72 rfl Try.underlying31 info36 rfl (by decide) (by omega) (.slice A XL c) (pick l X) q _ (fun _ => True) (fun k => k < w.heap.size) rfl rfl (Kd.FK_step HQF.out (fun k hk _ => (below_drew1 HBW.out).block k hk)) HOK.out (fun _ _ => trivial) (Kd.N_drew HO.out) (below_drew1 HBR.out) (below_drew1 HBR.out).size (by rw [HQL.out]; omega) ?_; intro v1 w1 hN hb1 hg hat; obtain ⟨A1_, c1_, rfl⟩ := Kd.N_slice hN; have HN1 := Aside0.mk hN; have HB1_ := Aside0.mk hb1; clear hN hb1 hg hat))
              try go_wp2
              refine ⟨⟨i + 1, A1_, c1_, ⟨by omega⟩, by go_num, by rw [HV1.out]; simp, ⟨by rw [HV1.out]; exact HN1.out⟩, HB1_⟩, ?_⟩
              simp [intOf]; omega
        · have hie : i = Yn.length := by have := hi.out; omega
          subst hie
          obtain ⟨a0, a1⟩ := cells2 (blk_below Kz.out HBR.out)
          obtain ⟨_, hAc, hCf⟩ := Kd.N_reads' HO.out
          have hfl := fewTo_len Yn sk Yn.length
          have CQ := Aside0.mk (HCP.out (fewTo Yn sk Yn.length) (fun x hx => HY3.out x (fewTo_mem Yn sk _ (Nat.le_refl _) x hx)) (by omega) A c wr hCf hAc)
          have hfin : (sk = -1 ∧ (readingsL s n (pick l (fewTo Yn sk Yn.length))).length = N) ∨ (0 ≤ sk ∧ N < (readingsL s n (pick l (fewTo Yn sk Yn.length))).length) := by
            have hs := HSK.out
            rcases b with _ | b'
            · left
              have : sk = -1 := by omega
              rw [this, fewTo_none]
              exact ⟨rfl, HY4.out⟩
            · right
              have : sk = (b' : Int) := by omega
              rw [this, fewTo_skip]
              exact ⟨by omega, HY5.out b' (by omega)⟩
          obtain ⟨M, hM⟩ : ∃ M, M = (readingsL s n (pick l (fewTo Yn sk Yn.length))).length := ⟨_, rfl⟩
          rw [← hM] at CQ hfin
          have hsk1 := HSK.out
          have HB1 := Aside0.mk (show sk + 1 = ((b + 1 : Nat) : Int) - 1 by omega)
          have HB2 := Aside0.mk (show b + 1 ≤ Yn.length + 1 by omega)
          have HMS := Aside0.mk (show Yn.length - (sk + 1).toNat + (if sk + 1 < 0 then 1 else 0) < Yn.length - sk.toNat + (if sk < 0 then 1 else 0) by split <;> split <;> omega)
          clear hM hAc hCf hfl hsk1
          rcases hfin with ⟨h1, h2⟩ | ⟨h1, h2⟩
          · have q1 : ((M : Int) == (N : Int)) = true := by rw [h2]; exact beq_self_eq_true _
            have q2 : decide (sk < 0) = true := decide_eq_true (by omega)
            have q3 : decide ((M : Int) < (N : Int)) = false := decide_eq_false (by omega)
            have q3n : decide (M < N) = false := decide_eq_false (by omega)
            clear h1 h2
            go_wp2_with (go_at_call 35; refine CQ.out.mono ?_; rintro e wq ⟨rfl, hbq⟩; have HBq := Aside0.mk (below_then HBR.out HBR.out.size hbq); clear hbq)
            refine ⟨⟨b + 1, HB2, by rw [HB1.out], HBq⟩, ?_⟩
            exact HMS.out
          · have q1 : ((M : Int) == (N : Int)) = false := beq_eq_false_iff_ne.mpr (by omega)
            have q1n : ¬ M = N := by omega
            have q2 : decide (sk < 0) = false := decide_eq_false (by omega)
            have q3 : decide ((M : Int) < (N : Int)) = false := decide_eq_false (by omega)
            have q3n : decide (M < N) = false := decide_eq_false (by omega)
            clear h1 h2
            go_wp2_with (go_at_call 35; refine CQ.out.mono ?_; rintro e wq ⟨rfl, hbq⟩; have HBq := Aside0.mk (below_then HBR.out HBR.out.size hbq); clear hbq)
            refine ⟨⟨b + 1, HB2, by rw [HB1.out], HBq⟩, ?_⟩
            exact HMS.out
    · obtain ⟨D, hD⟩ : ∃ D, D = (idleTo s n l l.length).length := ⟨_, rfl⟩
      have HD := Aside0.mk hD
      have HIw := Aside0.mk (Kd.C_below HIz.out HBR.out)
      have HBw := Aside0.mk (below_then HBz.out HBz.out.size HBR.out)
      have Kw := Aside0.mk (blk_below Kz.out HBR.out)
      obtain ⟨wx, hwx⟩ : ∃ wx, wx = wr := ⟨_, rfl⟩
      subst hwx
      rw [← hD] at HIw ⊢
      clear hD hb hsk HBR HIz HBz Kz HCz HCP HY4 HY5
      go_wp2
      go_loopw [16, 17] (fun v16 v17 wr => ∃ i : Nat, Aside0 (i ≤ l.length) ∧ v17 = .int .i64 i ∧ v16 = .int .i64 ((idleTo s n l i).length : Nat) ∧ Aside0 (Below wx.heap.size wx wr)) (fun _ v17 _ => l.length - (intOf v17).toNat)
      case atStart => exact ⟨0, ⟨Nat.zero_le _⟩, rfl, rfl, ⟨Below.refl _ _⟩⟩
      case round =>
        obtain ⟨i, hi, rfl, rfl, HBR⟩ := hrel
        by_cases hlt : i < l.length
        · have HBW := Aside0.mk (below_then HBw.out HBw.out.size HBR.out)
          have Kr := Aside0.mk (blk_below Kw.out HBR.out)
          obtain ⟨rc, hrc⟩ := HIM.out i hlt
          obtain ⟨hat1, hat2⟩ := idle_at s n l i hlt
          have hsuc := idleTo_succ s n l i
          rw [show l[i] = rd_T36 l (i : Int) by simp [rd_T36, List.getD_eq_getElem?_getD, List.getElem?_eq_getElem hlt]] at hrc
          obtain ⟨adl, A5, c5, el, k0, k1, k2, k3, k4, k5, k6, hl5, hg5⟩ := at_T36 G1.out (i : Int) (by omega) (by omega)
          subst el
          obtain ⟨q, hq⟩ : ∃ q, q = rd_T36 l (i : Int) := ⟨_, rfl⟩
          rw [← hq] at k0 k1 k2 k3 k4 k5 k6 hl5 hg5 hrc
          rw [Int.toNat_natCast] at k0 k1 k2 k3 k4 k5 k6
          have FL := Aside0.mk (Kd.F_step (Kd.C_F k36_heap G1.out) (fun k hk hlt => (below_drew1 HBW.out).block k hlt) : Kd.F k36 wr.drew (fun k => k < w.heap.size) (some adl) l.length l)
          have FT0 := Kd.F_take (m := i) FL.out (by omega)
          have FD0 := (Kd.F_cut (m := i + 1) (c := c1) FL.out (by omega) e1)
          have hti : (l.take i).length = i := by rw [List.length_take]; omega
          have hdi : (l.drop (i + 1)).length = l.length - (i + 1) := List.length_drop
          rw [hti] at FT0
          rw [hdi] at FD0
          have FT := Aside0.mk FT0
          have FD : Aside0 (Kd.F k36 wr.drew (fun k => k < w.heap.size) (if c1 = i + 1 then some adl else some (adl.add ((i + 1) * 7))) (l.length - (i + 1)) (l.drop (i + 1))) := ⟨FD0⟩
          have HTI := Aside0.mk hti
          have HDI := Aside0.mk hdi
          have hic : i ≤ c1 := by omega
          have hi1 : (i : Int) + 1 ≤ (l.length : Int) := by omega
          have h01 : (0 : Int) ≤ (i : Int) + 1 := by omega
          have hwn := wrap_next (i := i) (n := 100) (by omega) (by omega)
          have HRC := Aside0.mk hrc
          have HQ := Aside0.mk hq
          have HAT1 := Aside0.mk hat1
          have HAT2 := Aside0.mk hat2
          have HSUC := Aside0.mk hsuc
          have HG5 := Aside0.mk hg5
          have HL5 := Aside0.mk hl5
          clear hrc hq hat1 hat2 hsuc hg5 hl5 hti hdi FT0 FD0
          go_wp2
          obtain ⟨AD, hAD⟩ : ∃ AD, (if c1 = i + 1 then some adl else some (adl.add ((i + 1) * 7))) = AD := ⟨_, rfl⟩
          have FDA : Aside0 (Kd.F k36 wr.drew (fun k => k < w.heap.size) AD (l.length - (i + 1)) (l.drop (i + 1))) := ⟨by rw [← hAD]; exact FD.out⟩
          clear FD
          refine start_ (n := 10) (S := fun _ => True) (ds := []) #[false, false, false, false, false, false, false, false, false, false] (by kernel_rfl) rfl rfl trivial (fun hHeld => ?_)
          refine pure_ (i := 0) (N := some 148) (v := ?_) (a' := ?_) #[true, false, false, false, false, false, false, false, false, false] rfl rfl (by kernel_rfl) (fun _ _ _ h => h) (Or.inl ⟨by rfl, ?_⟩) ?_ ?_
          rotate_left
          · intro w'
            go_simp
            with_reducible rfl
          rotate_left
          · simp only [Act.put, List.setIfInBounds_toArray, List.set_cons_zero, List.set_cons_succ, i64_w, i32_w]
            rfl
          refine pure_ (i := 1) (N := some 149) (v := ?_) (a' := ?_) #[true, true, false, false, false, false, false, false, false, false] rfl rfl (by kernel_rfl) (fun _ _ _ h => h) (Or.inl ⟨by rfl, ?_⟩) ?_ ?_
          rotate_left
          · intro w'
            go_simp
            with_reducible rfl
          rotate_left
          · simp only [Act.put, List.setIfInBounds_toArray, List.set_cons_zero, List.set_cons_succ, i64_w, i32_w]
            rfl
          refine pure_ (i := 2) (N := some 150) (v := ?_) (a' := ?_) #[true, true, true, false, false, false, false, false, false, false] rfl rfl (by kernel_rfl) (fun _ _ _ h => h) (Or.inl ⟨by rfl, ?_⟩) ?_ ?_
          rotate_left
          · intro w'
            go_simp
            with_reducible rfl
          rotate_left
          · simp only [Act.put, List.setIfInBounds_toArray, List.set_cons_zero, List.set_cons_succ, i64_w, i32_w]
            rfl
          refine pure_ (i := 4) (N := some 152) (v := ?_) (a' := ?_) #[true, true, true, false, true, false, false, false, false, false] rfl rfl (by kernel_rfl) (fun _ _ _ h => h) (Or.inl ⟨by rfl, ?_⟩) ?_ ?_
          rotate_left
          · intro w'
            go_simp
            with_reducible rfl
          rotate_left
          · simp only [Act.put, List.setIfInBounds_toArray, List.set_cons_zero, List.set_cons_succ, i64_w, i32_w]
            rfl
          refine pure_ (i := 5) (N := some 153) (v := ?_) (a' := ?_) #[true, true, true, false, true, true, false, false, false, false] rfl rfl (by kernel_rfl) (fun _ _ _ h => h) (Or.inl ⟨by rfl, ?_⟩) ?_ ?_
          rotate_left
          · intro w'
            go_simp
            with_reducible rfl
          rotate_left
          · simp only [Act.put, List.setIfInBounds_toArray, List.set_cons_zero, List.set_cons_succ, i64_w, i32_w]
            rfl
          refine pure_ (i := 6) (N := some 154) (v := ?_) (a' := ?_) #[true, true, true, false, true, true, true, false, false, false] rfl rfl (by kernel_rfl) (fun _ _ _ h => h) (Or.inl ⟨by rfl, ?_⟩) ?_ ?_
          rotate_left
          · intro w'
            go_simp
            with_reducible rfl
          rotate_left
          · simp only [Act.put, List.setIfInBounds_toArray, List.set_cons_zero, List.set_cons_succ, i64_w, i32_w]
            rfl
          refine pure_ (i := 7) (N := some 155) (v := ?_) (a' := ?_) #[true, true, true, false, true, true, true, true, false, false] rfl rfl (by kernel_rfl) (fun _ _ _ h => h) (Or.inl ⟨by rfl, ?_⟩) ?_ ?_
          rotate_left
          · intro w'
            go_simp
            with_reducible rfl
          rotate_left
          · simp only [Act.put, List.setIfInBounds_toArray, List.set_cons_zero, List.set_cons_succ, i64_w, i32_w]
            rfl
          clear hAD
          refine one_ (i := 3) (N := some 151) #[true, true, true, true, true, true, true, true, false, false] rfl rfl (by kernel_rfl) (by decide) (fun K hK => ?_)
          refine Kd.N_append_rows_step k36 (w0 := wr.drew) (W := wr.drew) wr.drew.heap.size rfl (.const (.slice none 0 0)) (.tmp 150) 31 36 _ 72 rfl Try.underlying31 info36 rfl (by decide) (by omega) (.slice none 0 0) [] (l.take i) (some adl) i c1 (fun _ => True) (fun k => k < w.heap.size) rfl rfl (Kd.N_nil _ _ _ _ _) FT.out (fun k _ => ⟨trivial, by simp [Value.ownBlock]⟩) (fun _ _ => trivial) (Below.refl _ _) (Nat.le_refl _) (by simp; omega) ?_
          intro v1 w6 hN1 hB6 hg6 hat6
          rw [List.nil_append] at hN1
          have hwle : w.heap.size ≤ wr.drew.heap.size := (below_drew1 HBW.out).size
          have hown : ∀ k, k < w.heap.size → True ∧ some k ≠ v1.ownBlock := fun k hk => ⟨trivial, fun e => by
            rcases hat6 with h | ⟨b, h, hb⟩
            · rw [h] at e; simp [Value.ownBlock] at e
            · rw [h] at e; injection e with e; omega⟩
          refine hK.out _ _ trivial (fun hHeld => ?_)
          clear hK K hat6 hg6
          obtain ⟨Aa, ca_, rfl⟩ := Kd.N_slice hN1
          refine norm_ (a' := ?_) ?_ ?_
          rotate_left
          · show Act.put _ (some 151) _ = _
            simp only [Act.put, List.setIfInBounds_toArray, List.set_cons_zero, List.set_cons_succ, i64_w, i32_w]
            rfl
          refine one_ (i := 8) (N := some 156) #[true, true, true, true, true, true, true, true, true, false] rfl rfl (by kernel_rfl) (by decide) (fun K hK => ?_)
          refine Kd.N_append_rows_step k36 (w0 := wr.drew) (W := w6) wr.drew.heap.size rfl (.tmp 151) (.tmp 155) 31 36 _ 72 rfl Try.underlying31 info36 rfl (by decide) (by omega) _ (l.take i) (l.drop (i + 1)) AD (l.length - (i + 1)) (c1 - (i + 1)) (fun _ => True) (fun k => k < w.heap.size) rfl rfl hN1 (Kd.F_step FDA.out (fun k _ hk => hB6.block k hk)) hown (fun _ _ => trivial) hB6 hB6.size (by rw [HTI.out]; omega) ?_
          intro v2 w7 hN2 hB7 hg7 hat7
          rw [← List.eraseIdx_eq_take_drop_succ] at hN2
          obtain ⟨A7, c7, rfl, hl7, hC7⟩ := Kd.N_reads hN2
          refine hK.out _ _ trivial (fun hHeld => ?_)
          clear hK K hown hwle
          refine norm_ (a' := ?_) ?_ ?_
          rotate_left
          · show Act.put _ (some 156) _ = _
            simp only [Act.put, List.setIfInBounds_toArray, List.set_cons_zero, List.set_cons_succ, i64_w, i32_w]
            rfl
          refine pure_ (i := 9) (N := some 18) (v := ?_) (a' := ?_) #[true, true, true, true, true, true, true, true, true, true] rfl rfl (by kernel_rfl) (fun _ _ _ h => h) (Or.inl ⟨by rfl, ?_⟩) ?_ ?_
          rotate_left
          · intro w'
            go_simp
            with_reducible rfl
          rotate_left
          · simp only [Act.put, List.setIfInBounds_toArray, List.set_cons_zero, List.set_cons_succ, i64_w, i32_w]
            rfl
          refine done_ (by kernel_rfl) ?_
          have HB7 := Aside0.mk (below_then (below_drew1 HBR.out) (below_drew1 HBR.out).size hB7)
          have HBW7 := Aside0.mk (below_then (below_drew1 HBW.out) (below_drew1 HBW.out).size hB7)
          have HC7 := Aside0.mk hC7
          have HL7 := Aside0.mk hl7
          obtain ⟨a0, a1⟩ := cells2 (blk_below Kw.out HB7.out)
          have mv := fun (a : Addr) (v : Value) (h : w.cell? a = some v) => (HBW7.out.cell (World.block_lt_of_cell? w _ h)).trans h
          replace k0 := mv _ _ k0
          replace k1 := mv _ _ k1
          replace k2 := mv _ _ k2
          replace k3 := mv _ _ k3
          replace k4 := mv _ _ k4
          replace k5 := mv _ _ k5
          replace k6 := mv _ _ k6
          have C32 := Aside0.mk (codes_Implies.calls n s A7 c7 (l.eraseIdx i) q.f0 q.f1 q.f2 q.f3 q.f4 A5 c5 q.f5 q.f6 rc (idleP s n l i) 0 w7.drew (Kd.C_drew HC7.out) HL7.out (Kd.C_drew (Kd.C_below HG5.out HBW7.out)) HL5.out (by unfold codes_Implies.f; rw [HRC.out]))
          clear mv hN1 hN2 hB6 hB7 hg7 hat7 hC7 hl7
          repeat go_step
          refine start_ (n := 14) (S := fun w' => w'.cell? ⟨w.heap.size, 0, none⟩ = some (.int .i64 (n : Int)) ∧ w'.cell? ⟨w.heap.size, 1, none⟩ = some (.int .i64 (s : Int)) ∧ w'.cell? (adl.add (i * 7)) = some (.int .i64 q.f0) ∧ w'.cell? ⟨(adl.add (i * 7)).block, (adl.add (i * 7)).off + 1, none⟩ = some (.int .i64 q.f1) ∧ w'.cell? ⟨(adl.add (i * 7)).block, (adl.add (i * 7)).off + 2, none⟩ = some (.int .i64 q.f2) ∧ w'.cell? ⟨(adl.add (i * 7)).block, (adl.add (i * 7)).off + 3, none⟩ = some (.int .i64 q.f3) ∧ w'.cell? ⟨(adl.add (i * 7)).block, (adl.add (i * 7)).off + 4, none⟩ = some (.int .i64 q.f4) ∧ w'.cell? ⟨(adl.add (i * 7)).block, (adl.add (i * 7)).off + 5, none⟩ = some (.slice A5 q.f5.length c5) ∧ w'.cell? ⟨(adl.add (i * 7)).block, (adl.add (i * 7)).off + 6, none⟩ = some (.bool q.f6)) (ds := []) #[false, false, false, false, false, false, false, false, false, false, false, false, false, false] (by kernel_rfl) rfl rfl ⟨a0, a1, k0, k1, k2, k3, k4, k5, k6⟩ (fun hHeld => ?_)
          refine take_ (i := 0) (N := some 158) (v := ?_) (a' := ?_) #[true, false, false, false, false, false, false, false, false, false, false, false, false, false] rfl rfl (by kernel_rfl) (fun _ _ _ h => h) (Or.inl ⟨by rfl, ?_⟩) hHeld ?_ ?_
          rotate_left
          · rintro w' ⟨s0, s1, t0, t1, t2, t3, t4, t5, t6⟩
            go_simp
            with_reducible rfl
          rotate_left
          · simp only [Act.put, List.setIfInBounds_toArray, List.set_cons_zero, List.set_cons_succ, i64_w, i32_w]
            rfl
          refine pure_ (i := 1) (N := some 159) (v := ?_) (a' := ?_) #[true, true, false, false, false, false, false, false, false, false, false, false, false, false] rfl rfl (by kernel_rfl) (fun _ _ _ h => h) (Or.inl ⟨by rfl, ?_⟩) ?_ ?_
          rotate_left
          · intro w'
            go_simp
            with_reducible rfl
          rotate_left
          · simp only [Act.put, List.setIfInBounds_toArray, List.set_cons_zero, List.set_cons_succ, i64_w, i32_w]
            rfl
          refine pure_ (i := 2) (N := some 160) (v := ?_) (a' := ?_) #[true, true, true, false, false, false, false, false, false, false, false, false, false, false] rfl rfl (by kernel_rfl) (fun _ _ _ h => h) (Or.inl ⟨by rfl, ?_⟩) ?_ ?_
          rotate_left
          · intro w'
            go_simp
            with_reducible rfl
          rotate_left
          · simp only [Act.put, List.setIfInBounds_toArray, List.set_cons_zero, List.set_cons_succ, i64_w, i32_w]
            rfl
          refine pure_ (i := 3) (N := some 161) (v := ?_) (a' := ?_) #[true, true, true, true, false, false, false, false, false, false, false, false, false, false] rfl rfl (by kernel_rfl) (fun _ _ _ h => h) (Or.inl ⟨by rfl, ?_⟩) ?_ ?_
          rotate_left
          · intro w'
            go_simp
            with_reducible rfl
          rotate_left
          · simp only [Act.put, List.setIfInBounds_toArray, List.set_cons_zero, List.set_cons_succ, i64_w, i32_w]
            rfl
          refine pure_ (i := 4) (N := some 162) (v := ?_) (a' := ?_) #[true, true, true, true, true, false, false, false, false, false, false, false, false, false] rfl rfl (by kernel_rfl) (fun _ _ _ h => h) (Or.inl ⟨by rfl, ?_⟩) ?_ ?_
          rotate_left
          · intro w'
            go_simp
            with_reducible rfl
          rotate_left
          · simp only [Act.put, List.setIfInBounds_toArray, List.set_cons_zero, List.set_cons_succ, i64_w, i32_w]
            rfl
          refine take_ (i := 5) (N := some 163) (v := ?_) (a' := ?_) #[true, true, true, true, true, true, false, false, false, false, false, false, false, false] rfl rfl (by kernel_rfl) (fun _ _ _ h => h) (Or.inl ⟨by rfl, ?_⟩) hHeld ?_ ?_
          rotate_left
          · rintro w' ⟨s0, s1, t0, t1, t2, t3, t4, t5, t6⟩
            go_simp
            with_reducible rfl
          rotate_left
          · simp only [Act.put, List.setIfInBounds_toArray, List.set_cons_zero, List.set_cons_succ, i64_w, i32_w]
            rfl
          refine one_ (i := 6) (N := some 164) #[true, true, true, true, true, true, true, false, false, false, false, false, false, false] rfl rfl (by kernel_rfl) (by decide) (fun K hK => ?_)
          refine goes_ Try.func32 (by kernel_rfl) rfl #[.agg #[.int .i64 (n : Int), .int .i64 (s : Int)], .slice A7 (l.eraseIdx i).length c7, .agg #[.int .i64 q.f0, .int .i64 q.f1, .int .i64 q.f2, .int .i64 q.f3, .int .i64 q.f4, .slice A5 q.f5.length c5, .bool q.f6]] (by rfl) rfl rfl (by (try simp only [List.map_toArray, List.map_cons, List.map_nil]); first | done | rfl) ?_
          refine C32.out.mono ?_
          rintro e w8 ⟨v8, rfl, ho8, hb8⟩
          refine ⟨_, rfl, ?_⟩
          have HB8 := Aside0.mk (below_then (below_drew1 HB7.out) (below_drew1 HB7.out).size hb8)
          have mv := fun (a : Addr) (v : Value) (h : w7.drew.cell? a = some v) => (hb8.cell (World.block_lt_of_cell? w7.drew _ h)).trans h
          refine hK.out _ _ ⟨mv _ _ hHeld.1, mv _ _ hHeld.2.1, mv _ _ hHeld.2.2.1, mv _ _ hHeld.2.2.2.1, mv _ _ hHeld.2.2.2.2.1, mv _ _ hHeld.2.2.2.2.2.1, mv _ _ hHeld.2.2.2.2.2.2.1, mv _ _ hHeld.2.2.2.2.2.2.2.1, mv _ _ hHeld.2.2.2.2.2.2.2.2⟩ (fun hHeld => ?_)
          obtain ⟨A8, c8, rfl, hl8_, hc8_⟩ := Kd.R_reads ho8
          clear hK K mv ho8 hb8 hHeld hl8_ hc8_ a0 a1 k0 k1 k2 k3 k4 k5 k6
          refine norm_ (a' := ?_) ?_ ?_
          rotate_left
          · show Act.put _ (some 164) _ = _
            simp only [Act.put, List.setIfInBounds_toArray, List.set_cons_zero, List.set_cons_succ, i64_w, i32_w]
            rfl
          refine pure_ (i := 7) (N := some 157) (v := ?_) (a' := ?_) #[true, true, true, true, true, true, true, true, false, false, false, false, false, false] rfl rfl (by kernel_rfl) (fun _ _ _ h => h) (Or.inl ⟨by rfl, ?_⟩) ?_ ?_
          rotate_left
          · intro w'
            go_simp
            with_reducible rfl
          rotate_left
          · simp only [Act.put, List.setIfInBounds_toArray, List.set_cons_zero, List.set_cons_succ, i64_w, i32_w]
            rfl
          refine pure_ (i := 8) (N := some 165) (v := ?_) (a' := ?_) #[true, true, true, true, true, true, true, true, true, false, false, false, false, false] rfl rfl (by kernel_rfl) (fun _ _ _ h => h) (Or.inl ⟨by rfl, ?_⟩) ?_ ?_
          rotate_left
          · intro w'
            go_simp
            with_reducible rfl
          rotate_left
          · simp only [Act.put, List.setIfInBounds_toArray, List.set_cons_zero, List.set_cons_succ, i64_w, i32_w]
            rfl
          refine pure_ (i := 9) (N := some 166) (v := ?_) (a' := ?_) #[true, true, true, true, true, true, true, true, true, true, false, false, false, false] rfl rfl (by kernel_rfl) (fun _ _ _ h => h) (Or.inl ⟨by rfl, ?_⟩) ?_ ?_
          rotate_left
          · intro w'
            go_simp
            with_reducible rfl
          rotate_left
          · simp only [Act.put, List.setIfInBounds_toArray, List.set_cons_zero, List.set_cons_succ, i64_w, i32_w]
            rfl
          refine pure_ (i := 10) (N := some 167) (v := ?_) (a' := ?_) #[true, true, true, true, true, true, true, true, true, true, true, false, false, false] rfl rfl (by kernel_rfl) (fun _ _ _ h => h) (Or.inl ⟨by rfl, ?_⟩) ?_ ?_
          rotate_left
          · intro w'
            go_simp
            with_reducible rfl
          rotate_left
          · simp only [Act.put, List.setIfInBounds_toArray, List.set_cons_zero, List.set_cons_succ, i64_w, i32_w]
            rfl
          refine pure_ (i := 11) (N := some 19) (v := ?_) (a' := ?_) #[true, true, true, true, true, true, true, true, true, true, true, true, false, false] rfl rfl (by kernel_rfl) (fun _ _ _ h => h) (Or.inl ⟨by rfl, ?_⟩) ?_ ?_
          rotate_left
          · intro w'
            go_simp
            with_reducible rfl
          rotate_left
          · simp only [Act.put, List.setIfInBounds_toArray, List.set_cons_zero, List.set_cons_succ, i64_w, i32_w]
            rfl
          refine pure_ (i := 12) (N := some 20) (v := ?_) (a' := ?_) #[true, true, true, true, true, true, true, true, true, true, true, true, true, false] rfl rfl (by kernel_rfl) (fun _ _ _ h => h) (Or.inl ⟨by rfl, ?_⟩) ?_ ?_
          rotate_left
          · intro w'
            go_simp
            with_reducible rfl
          rotate_left
          · simp only [Act.put, List.setIfInBounds_toArray, List.set_cons_zero, List.set_cons_succ, i64_w, i32_w]
            rfl
          refine pure_ (i := 13) (N := some 21) (v := ?_) (a' := ?_) #[true, true, true, true, true, true, true, true, true, true, true, true, true, true] rfl rfl (by kernel_rfl) (fun _ _ _ h => h) (Or.inl ⟨by rfl, ?_⟩) ?_ ?_
          rotate_left
          · intro w'
            go_simp
            with_reducible rfl
          rotate_left
          · simp only [Act.put, List.setIfInBounds_toArray, List.set_cons_zero, List.set_cons_succ, i64_w, i32_w]
            rfl
          refine done_ (by kernel_rfl) ?_
          obtain ⟨at_, hat_⟩ : ∃ at_, at_ = (idleTo s n l i).length := ⟨_, rfl⟩
          have hsu := HSUC.out
          have hl1 : (idleTo s n l (i + 1)).length = if idleP s n l i = true then at_ + 1 else at_ := by
            rw [hsu, hat_]; split <;> simp
          have HL1 := Aside0.mk hl1
          have ha1 := HAT1.out
          have ha2 := HAT2.out
          have hIl := idleTo_len s n l i
          rw [← hat_] at hIl ⊢
          have hI := HIw.out
          rw [HD.out] at hI
          by_cases had : at_ < (idleTo s n l l.length).length
          · obtain ⟨adi, ei, hci⟩ := Kd.at_int hI (at_ : Int) (by omega) (by omega)
            subst ei
            rw [Int.toNat_natCast, rd_get _ at_ had] at hci
            replace hci := (HB8.out.cell (World.block_lt_of_cell? wx _ hci)).trans hci
            have hdd : decide (at_ < D) = true := decide_eq_true (by rw [HD.out]; exact had)
            have hdD : at_ < D := by rw [HD.out]; exact had
            cases hp : idleP s n l i
            · have hx : ((idleTo s n l l.length)[at_] == (i : Int)) = false := by
                refine beq_eq_false_iff_ne.mpr ?_
                have := ha2 hp
                simp only [← hat_] at this
                exact this had
              obtain ⟨x, hx_⟩ : ∃ x, x = (idleTo s n l l.length)[at_] := ⟨_, rfl⟩
              rw [← hx_] at hci hx
              rw [hp] at hl1
              have HL2 := Aside0.mk hl1
              clear hx_ hI ha1 ha2 hp hl1 hsu hat_ had
              go_wp2
              refine ⟨⟨i + 1, ⟨by omega⟩, by go_num, by rw [HL2.out]; rfl, HB8⟩, ?_⟩
              simp [intOf]; omega
            · have hx : (idleTo s n l l.length)[at_] = (i : Int) := by
                obtain ⟨_, e⟩ := ha1 hp
                simp only [← hat_] at e
                exact e
              rw [hx] at hci
              rw [hp] at hl1
              have HL2 := Aside0.mk hl1
              clear hx hI ha1 ha2 hp hl1 hsu hat_ had
              go_wp2
              refine ⟨⟨i + 1, ⟨by omega⟩, by go_num, by rw [HL2.out]; simp, HB8⟩, ?_⟩
              simp [intOf]; omega
          · have hdd : decide (at_ < D) = false := decide_eq_false (by rw [HD.out]; exact had)
            have hdD : ¬ at_ < D := by rw [HD.out]; exact had
            have hp : idleP s n l i = false := by
              cases hp : idleP s n l i
              · rfl
              · obtain ⟨h1, _⟩ := ha1 hp
                rw [← hat_] at h1
                exact absurd h1 had
            rw [hp] at hl1 ⊢
            have HL2 := Aside0.mk hl1
            clear hI ha1 ha2 hp hl1 hsu hat_ had
            go_wp2
            refine ⟨⟨i + 1, ⟨by omega⟩, by go_num, by rw [HL2.out]; rfl, HB8⟩, ?_⟩
            simp [intOf]; omega
        · have hie : i = l.length := by have := hi.out; omega
          subst hie
          have HBW := Aside0.mk (below_then HBw.out HBw.out.size HBR.out)
          rw [← HD.out]
          go_wp2_with (go_at_call 20; refine (padlocklaw01_works.calls true _ rfl).mono ?_; rintro e wz ⟨rfl, hb4⟩)
          go_ret
          exact ⟨rfl, below_then HBW.out HBW.out.size hb4⟩
end Go.Proofs.Ytimkchehdaadeaa.P
