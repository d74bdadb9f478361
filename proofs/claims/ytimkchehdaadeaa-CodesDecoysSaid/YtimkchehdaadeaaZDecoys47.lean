/- Part 47 of a proof: the statement CodesDecoys: for every input its law returns true (its texts without what nothing here names). -/
import Derived.Test.YtimkchehdaadeaaZDecoys20
import Derived.Test.YtimkchehdaadeaaZDecoys37
import Derived.Test.YtimkchehdaadeaaZDecoys45
import Derived.Test.YtimkchehdaadeaaZDecoys46

section
namespace Go.Proofs.Ytimkchehdaadeaa.P
open Go.RowKit Go.Shelf Go.Proofs.YtimkchehdaadeaaW.PrintWords Go.Proofs.YtimkchehdaadeaaW.PrintLast Go.Proofs.YtimkchehdaadeaaW.PrintMore
set_option linter.unusedVariables false
set_option linter.unusedSimpArgs false
set_option maxHeartbeats 8000000 in
set_option maxRecDepth 100000 in
theorem codes_Idle.calls (a0_0 : Int) (a0_1 : Int) (A1 : Option Addr) (c1 : Nat) (l1 : List S36) (r1 : List Int) (r2 : Int) (w : World) (hr1 : Kd.C k36 w A1 l1.length l1) (hc1 : l1.length ≤ c1) (h : idleS a0_0 a0_1 l1 = (r1, r2)) :
    Calls Try.prog 49 #[.agg #[.int .i64 a0_0, .int .i64 a0_1], .slice A1 l1.length c1] w fun e w' => ∃ v : Value, e = .returned (.tuple #[v, .int .i64 r2]) ∧ Kd.R (Kd.int .i64) 3 w' w.heap.size (fun _ => True) v r1 ∧ Below w.heap.size w w' := by
  have hu23 := Try.underlying23
  have hb0 := blk_new w (.cells #[.int .i64 a0_0, .int .i64 a0_1] 23)
  have hB0 := (Below.refl w.heap.size w).alloc (Nat.le_refl _) (.cells #[.int .i64 a0_0, .int .i64 a0_1] 23)
  have C62 := Aside0.mk (codes_checkClues.calls a0_0 a0_1 A1 c1 l1 _ _ (Kd.C_below hr1 hB0) hc1 (checkClues_eq a0_0 a0_1 l1))
  have HB0 := Aside0.mk hB0
  have K0 := Aside0.mk hb0
  have HR1 := Aside0.mk hr1
  have H := h
  clear hb0 hB0 h hr1
  unfold idleS at H
  by_cases he : checkCluesS a0_0 a0_1 l1 = 0
  case neg =>
    rw [if_neg he] at H
    have hne : (checkCluesS a0_0 a0_1 l1 != 0) = true := bne_iff_ne.mpr he
    obtain ⟨e1, he1⟩ : ∃ e1, e1 = checkCluesS a0_0 a0_1 l1 := ⟨_, rfl⟩
    rw [← he1] at H C62 hne
    clear he he1
    simp only [Prod.mk.injEq] at H
    obtain ⟨rfl, rfl⟩ := H
    go_enter Try.func49, Try.ntmps49
    go_wp2_with (first | (go_at_call 62; refine C62.out.mono ?_; rintro e w6 ⟨rfl, h6⟩))
    go_ret2
    exact ⟨_, rfl, Kd.R_nil _ _ _ _ _, below_then HB0.out HB0.out.size h6⟩
  obtain ⟨hl, hm, hv⟩ := checkClues_ok he
  rw [if_pos he] at H
  rw [he] at C62
  obtain ⟨n, s, rfl, rfl, hn1, hn4, hs2, hs10⟩ := lock_nat hl
  simp only [Int.toNat_natCast, Prod.mk.injEq] at H
  obtain ⟨hr_, rfl⟩ := H
  have C75 := Aside0.mk fun l' (hv' : l'.all (validC (n : Int) (s : Int)) = true) A c w1 hC hle => codes_lock_count.calls n s A c l' _ w1 hC hle (show codes_lock_count.f n s l' = some (((readingsL s n l').length : Nat) : Int) by unfold codes_lock_count.f; rw [if_pos ⟨hl, hv'⟩]; simp only [Int.toNat_natCast])
  have HV := Aside0.mk hv
  obtain ⟨N, hN⟩ : ∃ N, N = (readingsL s n l1).length := ⟨_, rfl⟩
  have HN := Aside0.mk hN
  have HM := Aside0.mk hm
  have HRR := Aside0.mk hr_
  have C75a := Aside0.mk fun w1 (h1 : Below w.heap.size w w1) => C75.out l1 HV.out A1 c1 w1 (Kd.C_below HR1.out h1) hc1
  rw [← hN] at C75a
  clear he hl hv hN hr_
  go_enter Try.func49, Try.ntmps49
  go_wp2_with (first
    | (go_at_call 62; refine C62.out.mono ?_; rintro e w6 ⟨rfl, h6⟩; have K6 := Aside0.mk (blk_below K0.out h6); obtain ⟨a0, a1⟩ := cells2 K6.out; have HB6 := Aside0.mk (below_then HB0.out HB0.out.size h6); clear h6)
    | (go_at_call 75; refine (C75a.out _ HB6.out).mono ?_; rintro e w7 ⟨rfl, h7⟩; have HB7 := Aside0.mk (below_then HB6.out HB6.out.size h7); have K7 := Aside0.mk (blk_below K6.out h7); clear h7 a0 a1))
  go_loopw [4, 20] (fun v4 v20 wr => ∃ (i : Nat) (A : Option Addr) (c : Nat), Aside0 (i ≤ l1.length) ∧ v20 = .int .i64 i ∧ v4 = .slice A (idleTo s n l1 i).length c ∧ Aside0 (Kd.R (Kd.int .i64) 3 wr w7.heap.size (fun _ => True) (.slice A (idleTo s n l1 i).length c) (idleTo s n l1 i)) ∧ Aside0 (Below w7.heap.size w7 wr)) (fun _ v20 _ => l1.length - (intOf v20).toNat)
  case atStart => exact ⟨0, none, 0, ⟨Nat.zero_le _⟩, rfl, rfl, ⟨Kd.R_nil _ _ _ _ _⟩, ⟨Below.refl _ _⟩⟩
  case round =>
    obtain ⟨i, A, c, hi, rfl, rfl, HO, HBR⟩ := hrel
    obtain ⟨a0, a1⟩ := cells2 (blk_below K7.out HBR.out)
    by_cases hlt : i < l1.length
    · have HBW := Aside0.mk (below_then HB7.out HB7.out.size HBR.out)
      have C82 := Aside0.mk (slices_Clone_Clue.calls _ A1 c1 l1 wr.drew (Kd.C_F k36_heap (Kd.C_drew (Kd.C_below HR1.out HBW.out))) (fun _ h => h) hc1 (by have := HM.out; omega))
      have hlen := idleTo_len s n l1 i
      have hsuc := idleTo_succ s n l1 i
      obtain ⟨Y, hY⟩ : ∃ Y, Y = idleTo s n l1 i := ⟨_, rfl⟩
      rw [← hY] at HO hlen hsuc ⊢
      have HSUC := Aside0.mk hsuc
      clear hsuc hY
      go_wp2
      refine start_ (n := 10) (S := fun w' => w'.cell? ⟨w.heap.size, 0, none⟩ = some (.int .i64 (n : Int)) ∧ w'.cell? ⟨w.heap.size, 1, none⟩ = some (.int .i64 (s : Int))) (ds := []) #[false, false, false, false, false, false, false, false, false, false] (by kernel_rfl) rfl rfl ⟨a0, a1⟩ (fun hHeld => ?_)
      refine take_ (i := 0) (N := some 23) (v := ?_) (a' := ?_) #[true, false, false, false, false, false, false, false, false, false] rfl rfl (by kernel_rfl) (fun _ _ _ h => h) (Or.inl ⟨by rfl, ?_⟩) hHeld ?_ ?_
      rotate_left
      · rintro w' ⟨s0, s1⟩
        go_simp
        with_reducible rfl
      rotate_left
      · simp only [Act.put, List.setIfInBounds_toArray, List.set_cons_zero, List.set_cons_succ, i64_w, i32_w]
        rfl
      refine pure_ (i := 1) (N := some 24) (v := ?_) (a' := ?_) #[true, true, false, false, false, false, false, false, false, false] rfl rfl (by kernel_rfl) (fun _ _ _ h => h) (Or.inl ⟨by rfl, ?_⟩) ?_ ?_
      rotate_left
      · intro w'
        go_simp
        with_reducible rfl
      rotate_left
      · simp only [Act.put, List.setIfInBounds_toArray, List.set_cons_zero, List.set_cons_succ, i64_w, i32_w]
        rfl
      refine pure_ (i := 3) (N := some 26) (v := ?_) (a' := ?_) #[true, true, false, true, false, false, false, false, false, false] rfl rfl (by kernel_rfl) (fun _ _ _ h => h) (Or.inl ⟨by rfl, ?_⟩) ?_ ?_
      rotate_left
      · intro w'
        go_simp
        with_reducible rfl
      rotate_left
      · simp only [Act.put, List.setIfInBounds_toArray, List.set_cons_zero, List.set_cons_succ, i64_w, i32_w]
        rfl
      refine pure_ (i := 4) (N := some 27) (v := ?_) (a' := ?_) #[true, true, false, true, true, false, false, false, false, false] rfl rfl (by kernel_rfl) (fun _ _ _ h => h) (Or.inl ⟨by rfl, ?_⟩) ?_ ?_
      rotate_left
      · intro w'
        go_simp
        with_reducible rfl
      rotate_left
      · simp only [Act.put, List.setIfInBounds_toArray, List.set_cons_zero, List.set_cons_succ, i64_w, i32_w]
        rfl
      refine pure_ (i := 5) (N := some 28) (v := ?_) (a' := ?_) #[true, true, false, true, true, true, false, false, false, false] rfl rfl (by kernel_rfl) (fun _ _ _ h => h) (Or.inl ⟨by rfl, ?_⟩) ?_ ?_
      rotate_left
      · intro w'
        go_simp
        with_reducible rfl
      rotate_left
      · simp only [Act.put, List.setIfInBounds_toArray, List.set_cons_zero, List.set_cons_succ, i64_w, i32_w]
        rfl
      refine pure_ (i := 8) (N := some 31) (v := ?_) (a' := ?_) #[true, true, false, true, true, true, false, false, true, false] rfl rfl (by kernel_rfl) (fun _ _ _ h => h) (Or.inl ⟨by rfl, ?_⟩) ?_ ?_
      rotate_left
      · intro w'
        go_simp
        with_reducible rfl
      rotate_left
      · simp only [Act.put, List.setIfInBounds_toArray, List.set_cons_zero, List.set_cons_succ, i64_w, i32_w]
        rfl
      refine one_ (i := 2) (N := some 25) #[true, true, true, true, true, true, false, false, true, false] rfl rfl (by kernel_rfl) (by decide) (fun K hK => ?_)
      refine goes_ Try.func82 (by kernel_rfl) rfl #[.slice A1 l1.length c1] (by rfl) rfl rfl (by (try simp only [List.map_toArray, List.map_cons, List.map_nil]); first | done | rfl) ?_
      refine C82.out.mono ?_
      rintro e wa ⟨v, rfl, hva, hba⟩
      refine ⟨_, rfl, ?_⟩
      obtain ⟨g, cap, rfl, hgb, hglt, _⟩ := Kd.N_form hva (by omega)
      refine hK.out _ _ ⟨(hba.cell (World.block_lt_of_cell? _ _ hHeld.1)).trans hHeld.1, (hba.cell (World.block_lt_of_cell? _ _ hHeld.2)).trans hHeld.2⟩ (fun hHeld => ?_)
      clear hK K
      have C81 := slices_Delete_Clue.calls _ g l1.length cap i l1 wr.drew.heap.size wa hva hlt (by have := HM.out; omega) hba.size
      rw [← wrap_next hlt (by have := HM.out; omega)] at C81
      replace C81 := Aside0.mk C81
      refine norm_ (a' := ?_) ?_ ?_
      rotate_left
      · show Act.put _ (some 25) _ = _
        simp only [Act.put, List.setIfInBounds_toArray, List.set_cons_zero, List.set_cons_succ, i64_w, i32_w]
        rfl
      refine one_ (i := 6) (N := some 29) #[true, true, true, true, true, true, true, false, true, false] rfl rfl (by kernel_rfl) (by decide) (fun K hK => ?_)
      refine goes_ Try.func81 (by kernel_rfl) rfl #[.slice (some ⟨g, 0, none⟩) l1.length cap, .int .i64 (i : Int), .int .i64 (wrap64 ((i : Int) + 1))] (by rfl) rfl rfl (by (try simp only [List.map_toArray, List.map_cons, List.map_nil]); first | done | rfl) ?_
      refine C81.out.mono ?_
      rintro e wb ⟨rfl, hvb, hbb⟩
      have hle1 := (Kd.N_reads' hvb).1
      rw [hle1] at hvb ⊢
      obtain ⟨_, hlc, hC⟩ := Kd.N_reads' hvb
      have hAB := hba.trans hbb
      refine ⟨_, rfl, ?_⟩
      refine hK.out _ _ ⟨(hAB.cell (World.block_lt_of_cell? _ _ a0)).trans a0, (hAB.cell (World.block_lt_of_cell? _ _ a1)).trans a1⟩ (fun hHeld => ?_)
      clear hK K hle1
      have C75b := Aside0.mk (C75.out (l1.eraseIdx i) (all_erase HV.out i) (some ⟨g, 0, none⟩) cap wb hC hlc)
      refine norm_ (a' := ?_) ?_ ?_
      rotate_left
      · show Act.put _ (some 29) _ = _
        simp only [Act.put, List.setIfInBounds_toArray, List.set_cons_zero, List.set_cons_succ, i64_w, i32_w]
        rfl
      refine one_ (i := 7) (N := some 30) #[true, true, true, true, true, true, true, true, true, false] rfl rfl (by kernel_rfl) (by decide) (fun K hK => ?_)
      refine goes_ Try.func75 (by kernel_rfl) rfl #[.agg #[.int .i64 (n : Int), .int .i64 (s : Int)], .slice (some ⟨g, 0, none⟩) (l1.eraseIdx i).length cap] (by rfl) rfl rfl (by (try simp only [List.map_toArray, List.map_cons, List.map_nil]); first | done | rfl) ?_
      refine C75b.out.mono ?_
      rintro e wc ⟨rfl, hbc⟩
      refine ⟨_, rfl, ?_⟩
      refine hK.out _ _ ⟨(hbc.cell (World.block_lt_of_cell? _ _ hHeld.1)).trans hHeld.1, (hbc.cell (World.block_lt_of_cell? _ _ hHeld.2)).trans hHeld.2⟩ (fun hHeld => ?_)
      clear hK K
      have hAC : Below wr.drew.heap.size wr.drew wc := below_then hAB hAB.size hbc
      have HO2 := Aside0.mk (Kd.R_below (Kd.R_drew HO.out) hAC)
      have HBC := Aside0.mk (below_then (below_drew1 HBR.out) (by have := HBR.out.size; simp; omega) hAC)
      have hid : idleP s n l1 i = ((readingsL s n (l1.eraseIdx i)).length == N) := by unfold idleP; rw [HN.out]
      obtain ⟨M, hM⟩ : ∃ M, M = (readingsL s n (l1.eraseIdx i)).length := ⟨_, rfl⟩
      rw [← hM] at hid ⊢
      have HSU := HSUC.out
      rw [hid] at HSU
      replace HSU := Aside0.mk HSU
      clear hM hid hAC hAB hba hbb hbc hva hvb hC hHeld a0 a1
      refine norm_ (a' := ?_) ?_ ?_
      rotate_left
      · show Act.put _ (some 30) _ = _
        simp only [Act.put, List.setIfInBounds_toArray, List.set_cons_zero, List.set_cons_succ, i64_w, i32_w]
        rfl
      refine pure_ (i := 9) (N := some 32) (v := ?_) (a' := ?_) #[true, true, true, true, true, true, true, true, true, true] rfl rfl (by kernel_rfl) (fun _ _ _ h => h) (Or.inl ⟨by rfl, ?_⟩) ?_ ?_
      rotate_left
      · intro w'
        go_simp
        with_reducible rfl
      rotate_left
      · simp only [Act.put, List.setIfInBounds_toArray, List.set_cons_zero, List.set_cons_succ, i64_w, i32_w]
        rfl
      refine done_ (by kernel_rfl) ?_
      by_cases hq : M = N
      · have q1 : ((M : Int) == (N : Int)) = true := by rw [hq]; exact beq_self_eq_true _
        have hS1 := HSU.out
        rw [if_pos (beq_iff_eq.2 hq)] at hS1
        have HS1 := Aside0.mk hS1
        clear hS1 hq HSU
        go_wp2_with (first | ((with_reducible refine gate_builtin (b := .append) (xs := #[.tmp 33, .tmp 35]) rfl ?_); at_builtin; refine Kd.R_append (Kd.int .i64) (w0 := w7) w7.heap.size rfl (.tmp 33) (.tmp 35) 24 3 (.int .i64 0) 8 rfl Try.underlying24 info3 rfl (by decide) (by omega) (.slice A Y.length c) Y (i : Int) [.int .i64 (i : Int)] (fun _ => True) (fun _ => False) rfl rfl rfl (fun _ hk => hk.elim) (fun _ _ => trivial) HO2.out HBC.out HBC.out.size (by have := HM.out; omega) ?_; intro v1 w1 ho hb1 hg hat; obtain ⟨A1_, c1_, rfl, hl1_, hC1_⟩ := Kd.R_reads ho; have HO3 := Aside0.mk ho; have HB3 := Aside0.mk hb1; clear hb1 hg hat ho hC1_))
        refine ⟨⟨i + 1, A1_, c1_, ⟨by omega⟩, by go_num, by rw [HS1.out, List.length_append, List.length_singleton], ⟨by rw [HS1.out]; exact HO3.out⟩, HB3⟩, ?_⟩
        simp [intOf]; omega
      · have q1 : ((M : Int) == (N : Int)) = false := beq_eq_false_iff_ne.mpr (by omega)
        have hS1 := HSU.out
        rw [if_neg (fun e => hq (beq_iff_eq.1 e))] at hS1
        have HS1 := Aside0.mk hS1
        have hqn : ¬ M = N := hq
        clear hS1 HSU
        go_wp2
        refine ⟨⟨i + 1, A, c, ⟨by omega⟩, by go_num, by rw [HS1.out], ⟨by rw [HS1.out]; exact HO2.out⟩, HBC⟩, ?_⟩
        simp [intOf]; omega
    · have hie : i = l1.length := by have := hi.out; omega
      subst hie
      have hrr := HRR.out
      have HBZ := Aside0.mk (below_then HB7.out HB7.out.size HBR.out)
      rw [hrr] at HO ⊢
      clear hrr
      go_wp2
      go_ret2
      exact ⟨_, rfl, Kd.R_lower HO.out HB7.out.size, HBZ.out⟩
end Go.Proofs.Ytimkchehdaadeaa.P
end
section
namespace Go.Proofs.Ytimkchehdaadeaa.P
open Go.RowKit Go.Shelf Go.Proofs.YtimkchehdaadeaaW.PrintWords Go.Proofs.YtimkchehdaadeaaW.PrintLast Go.Proofs.YtimkchehdaadeaaW.PrintMore
set_option linter.unusedVariables false
set_option linter.unusedSimpArgs false
set_option maxHeartbeats 8000000 in
set_option maxRecDepth 100000 in
theorem codes_Core.calls (a0_0 : Int) (a0_1 : Int) (A1 : Option Addr) (c1 : Nat) (l1 : List S36) (r1 : List Int) (r2 : Int) (w : World) (hr1 : Kd.C k36 w A1 l1.length l1) (hc1 : l1.length ≤ c1) (h : coreS a0_0 a0_1 l1 = (r1, r2)) :
    Calls Try.prog 51 #[.agg #[.int .i64 a0_0, .int .i64 a0_1], .slice A1 l1.length c1] w fun e w' => ∃ v : Value, e = .returned (.tuple #[v, .int .i64 r2]) ∧ Kd.R (Kd.int .i64) 3 w' w.heap.size (fun _ => True) v r1 ∧ Below w.heap.size w w' := by
  have hu23 := Try.underlying23
  have hb0 := blk_new w (.cells #[.int .i64 a0_0, .int .i64 a0_1] 23)
  have hB0 := (Below.refl w.heap.size w).alloc (Nat.le_refl _) (.cells #[.int .i64 a0_0, .int .i64 a0_1] 23)
  have C62 := Aside0.mk (codes_checkClues.calls a0_0 a0_1 A1 c1 l1 _ _ (Kd.C_below hr1 hB0) hc1 (checkClues_eq a0_0 a0_1 l1))
  have HB0 := Aside0.mk hB0
  have K0 := Aside0.mk hb0
  have HR1 := Aside0.mk hr1
  have H := h
  clear hb0 hB0 h hr1
  unfold coreS at H
  by_cases he : checkCluesS a0_0 a0_1 l1 = 0
  case neg =>
    rw [if_neg he] at H
    have hne : (checkCluesS a0_0 a0_1 l1 != 0) = true := bne_iff_ne.mpr he
    obtain ⟨e1, he1⟩ : ∃ e1, e1 = checkCluesS a0_0 a0_1 l1 := ⟨_, rfl⟩
    rw [← he1] at H C62 hne
    clear he he1
    simp only [Prod.mk.injEq] at H
    obtain ⟨rfl, rfl⟩ := H
    go_enter Try.func51, Try.ntmps51
    go_wp2_with (first | (go_at_call 62; refine C62.out.mono ?_; rintro e w6 ⟨rfl, h6⟩))
    go_ret2
    exact ⟨_, rfl, Kd.R_nil _ _ _ _ _, below_then HB0.out HB0.out.size h6⟩
  obtain ⟨hl, hm, hv⟩ := checkClues_ok he
  rw [if_pos he] at H
  rw [he] at C62
  obtain ⟨n, s, rfl, rfl, hn1, hn4, hs2, hs10⟩ := lock_nat hl
  simp only [Int.toNat_natCast, Prod.mk.injEq] at H
  obtain ⟨hr_, rfl⟩ := H
  have C75 := Aside0.mk fun l' (hv' : l'.all (validC (n : Int) (s : Int)) = true) A c w1 hC hle => codes_lock_count.calls n s A c l' _ w1 hC hle (show codes_lock_count.f n s l' = some (((readingsL s n l').length : Nat) : Int) by unfold codes_lock_count.f; rw [if_pos ⟨hl, hv'⟩]; simp only [Int.toNat_natCast])
  have HV := Aside0.mk hv
  obtain ⟨N, hN⟩ : ∃ N, N = (readingsL s n l1).length := ⟨_, rfl⟩
  have HN := Aside0.mk hN
  have HM := Aside0.mk hm
  have HRR := Aside0.mk hr_
  have C75a := Aside0.mk fun w1 (h1 : Below w.heap.size w w1) => C75.out l1 HV.out A1 c1 w1 (Kd.C_below HR1.out h1) hc1
  rw [← hN] at C75a
  clear he hl hv hN hr_
  have HV0 := Aside0.mk (Kd.C_F k36_heap HR1.out)
  go_enter Try.func51, Try.ntmps51
  go_wp2_with (first
    | (go_at_call 62; refine C62.out.mono ?_; rintro e w6 ⟨rfl, h6⟩; have K6 := Aside0.mk (blk_below K0.out h6); obtain ⟨a0, a1⟩ := cells2 K6.out; have HB6 := Aside0.mk (below_then HB0.out HB0.out.size h6); clear h6)
    | (go_at_call 75; refine (C75a.out _ HB6.out).mono ?_; rintro e w7 ⟨rfl, h7⟩; have HB7 := Aside0.mk (below_then HB6.out HB6.out.size h7); have K7 := Aside0.mk (blk_below K6.out h7); clear h7 a0 a1)
    | (go_at_call 82; refine (slices_Clone_Clue.calls (fun k => k < w7.heap.size) A1 c1 l1 w7 (Kd.C_F k36_heap (Kd.C_below HR1.out HB7.out)) (fun _ h => h) hc1 (by have := HM.out; omega)).mono ?_; rintro e w8 ⟨v, rfl, hv8, h8⟩; obtain ⟨AL0, cL0, rfl⟩ := Kd.N_slice hv8; have HL0 := Aside0.mk (Kd.F_bound (Kd.N_F hv8)); have HLC := Aside0.mk (Kd.N_reads' hv8).2.1; have HB8 := Aside0.mk (below_then HB7.out HB7.out.size h8); have K8 := Aside0.mk (blk_below K7.out h8); clear hv8 h8))
  go_loopw [4, 8, 24] (fun v4 v8 v24 wr => ∃ (i : Nat) (A : Option Addr) (c : Nat) (AL : Option Addr) (cL : Nat) (okL : Nat → Prop), Aside0 (i ≤ l1.length) ∧ v24 = .int .i64 i ∧ v4 = .slice A (coreTo s n l1 i).2.length c ∧ v8 = .slice AL (coreTo s n l1 i).1.length cL ∧ Aside0 (Kd.R (Kd.int .i64) 3 wr w8.heap.size (fun _ => True) (.slice A (coreTo s n l1 i).2.length c) (coreTo s n l1 i).2) ∧ Aside0 ((coreTo s n l1 i).1.length ≤ cL) ∧ Aside0 (Kd.F k36 wr okL AL (coreTo s n l1 i).1.length (coreTo s n l1 i).1) ∧ Aside0 (∀ k, okL k → k < wr.heap.size ∧ some k ≠ (Value.slice A (coreTo s n l1 i).2.length c).ownBlock) ∧ Aside0 (Below w8.heap.size w8 wr)) (fun _ _ v24 _ => l1.length - (intOf v24).toNat)
  case atStart => exact ⟨0, none, 0, AL0, cL0, _, ⟨Nat.zero_le _⟩, rfl, rfl, rfl, ⟨Kd.R_nil _ _ _ _ _⟩, HLC, HL0, ⟨fun k hk => ⟨hk.2, by simp [Value.ownBlock]⟩⟩, ⟨Below.refl _ _⟩⟩
  case round =>
    clear HL0 HLC
    obtain ⟨i, A, c, AL, cL, okL, hi, rfl, rfl, rfl, HO, HLC, HL, HOK, HBR⟩ := hrel
    obtain ⟨a0, a1⟩ := cells2 (blk_below K8.out HBR.out)
    by_cases hlt : i < l1.length
    · have HBW := Aside0.mk (below_then HB8.out HB8.out.size HBR.out)
      obtain ⟨hk1, hk2⟩ := coreTo_len s n l1 i (by omega)
      have hva := coreTo_all s n HV.out i
      have hsuc := coreTo_succ s n l1 i
      rw [← HN.out] at hsuc
      obtain ⟨⟨X, Y⟩, hXY⟩ : ∃ p, p = coreTo s n l1 i := ⟨_, rfl⟩
      rw [← hXY] at HO HLC HL HOK hk1 hk2 hva hsuc ⊢
      simp only at HO HLC HL HOK hk1 hk2 hva hsuc ⊢
      have HSUC := Aside0.mk hsuc
      have HVA := Aside0.mk hva
      have hXl : X.length ≤ 1000 := by have := HM.out; omega
      have hYX : Y.length < X.length := by omega
      have hYl : Y.length ≤ 1000 := by omega
      have C82 := Aside0.mk (slices_Clone_Clue.calls okL AL cL X wr HL.out (fun k hk => (HOK.out k hk).1) HLC.out hXl)
      obtain ⟨M, hM⟩ : ∃ M, M = (readingsL s n (X.eraseIdx Y.length)).length := ⟨_, rfl⟩
      have hC75 := fun A c w1 hC hle => C75.out (X.eraseIdx Y.length) (all_erase hva _) A c w1 hC hle
      rw [← hM] at hC75
      have C75c := Aside0.mk hC75
      unfold coreStep at hsuc
      simp only at hsuc
      rw [← hM] at hsuc
      have hXe : (X.eraseIdx Y.length).length ≤ 1000 := Nat.le_trans (List.length_eraseIdx_le _ _) hXl
      clear hXY hva hk1 hM hC75 HSUC a0 a1
      by_cases hq : M = N
      · have q1 : ((M : Int) == (N : Int)) = true := by rw [hq]; exact beq_self_eq_true _
        rw [if_pos hq] at hsuc
        have HS1 := Aside0.mk hsuc
        clear hsuc hq
        go_wp2_with (first
        | (go_at_call 82; refine C82.out.mono ?_; rintro e wa ⟨v, rfl, hva, hba⟩; obtain ⟨g, cap, rfl, hgb, hglt, _⟩ := Kd.N_form hva (by omega); have C81 := slices_Delete_Clue.calls _ g X.length cap Y.length X wr.heap.size wa hva hYX hXl hba.size; rw [show ((Y.length + 1 : Nat) : Int) = (Y.length : Int) + 1 from rfl] at C81; replace C81 := Aside0.mk C81; have HBA := Aside0.mk hba; clear hva hba)
        | (go_at_call 81; refine C81.out.mono ?_; rintro e wb ⟨rfl, hvb, hbb⟩; have hle1 := (Kd.N_reads' hvb).1; rw [hle1] at hvb ⊢; obtain ⟨_, hlc, hC⟩ := Kd.N_reads' hvb; have HAB := Aside0.mk (HBA.out.trans hbb); have HVB := Aside0.mk hvb; have HLB := Aside0.mk hlc; have C75b := Aside0.mk (C75c.out (some ⟨g, 0, none⟩) cap wb hC hlc); obtain ⟨a0, a1⟩ := cells2 (blk_below K8.out (HBR.out.trans (HAB.out.mono HBR.out.size))); clear hvb hbb hle1 hlc hC)
        | (go_at_call 75; refine C75b.out.mono ?_; rintro e wc ⟨rfl, hbc⟩; have HAC := Aside0.mk (below_then HAB.out HAB.out.size hbc); have HBCC := Aside0.mk hbc; clear hbc))
        refine ⟨⟨i + 1, A, c, some ⟨g, 0, none⟩, cap, (fun k => (okL k ∨ wr.heap.size ≤ k) ∧ k < wb.heap.size), ⟨by omega⟩, by go_num, by rw [HS1.out], by rw [HS1.out], ⟨by rw [HS1.out]; exact Kd.R_below HO.out HAC.out⟩, ⟨by rw [HS1.out]; exact HLB.out⟩, ⟨by rw [HS1.out]; exact Kd.F_below (Kd.F_bound (Kd.N_F HVB.out)) HBCC.out⟩, ⟨fun k hk => ⟨by have := HBCC.out.size; have := hk.2; omega, fun e => ?_⟩⟩, ⟨HBR.out.trans (HAC.out.mono HBR.out.size)⟩⟩, ?_⟩
        · rw [HS1.out] at e
          rcases hk.1 with h | h
          · exact (HOK.out k h).2 e
          · have := Kd.R_lt HO.out k e.symm; omega
        · simp [intOf]; omega
      · have q1 : ((M : Int) == (N : Int)) = false := beq_eq_false_iff_ne.mpr (by omega)
        have hqn : ¬ M = N := hq
        rw [if_neg hq] at hsuc
        have HS1 := Aside0.mk hsuc
        clear hsuc hq
        go_wp2_with (first
        | (go_at_call 82; refine C82.out.mono ?_; rintro e wa ⟨v, rfl, hva, hba⟩; obtain ⟨g, cap, rfl, hgb, hglt, _⟩ := Kd.N_form hva (by omega); have C81 := slices_Delete_Clue.calls _ g X.length cap Y.length X wr.heap.size wa hva hYX hXl hba.size; rw [show ((Y.length + 1 : Nat) : Int) = (Y.length : Int) + 1 from rfl] at C81; replace C81 := Aside0.mk C81; have HBA := Aside0.mk hba; clear hva hba)
        | (go_at_call 81; refine C81.out.mono ?_; rintro e wb ⟨rfl, hvb, hbb⟩; have hle1 := (Kd.N_reads' hvb).1; rw [hle1] at hvb ⊢; obtain ⟨_, hlc, hC⟩ := Kd.N_reads' hvb; have HAB := Aside0.mk (HBA.out.trans hbb); have HVB := Aside0.mk hvb; have HLB := Aside0.mk hlc; have C75b := Aside0.mk (C75c.out (some ⟨g, 0, none⟩) cap wb hC hlc); obtain ⟨a0, a1⟩ := cells2 (blk_below K8.out (HBR.out.trans (HAB.out.mono HBR.out.size))); clear hvb hbb hle1 hlc hC)
        | (go_at_call 75; refine C75b.out.mono ?_; rintro e wc ⟨rfl, hbc⟩; have HAC := Aside0.mk (below_then HAB.out HAB.out.size hbc); have HBCC := Aside0.mk hbc; clear hbc)
        | ((with_reducible refine gate_builtin (b := .append) (xs := #[.tmp 41, .tmp 43]) rfl ?_); at_builtin; refine Kd.R_append (Kd.int .i64) (w0 := w8) w8.heap.size rfl (.tmp 41) (.tmp 43) 24 3 (.int .i64 0) 8 rfl Try.underlying24 info3 rfl (by decide) (by omega) (.slice A Y.length c) Y (i : Int) [.int .i64 (i : Int)] (fun _ => True) (fun _ => False) rfl rfl rfl (fun _ hk => hk.elim) (fun _ _ => trivial) (Kd.R_below HO.out HAC.out) (HBR.out.trans (HAC.out.mono HBR.out.size)) (Nat.le_trans HBR.out.size HAC.out.size) (by omega) ?_; intro v1 w1 ho hb1 hg hat; obtain ⟨A1_, c1_, rfl, hl1_, hC1_⟩ := Kd.R_reads ho; have HO3 := Aside0.mk ho; have HB3 := Aside0.mk hb1; have HG3 := Aside0.mk hg; have HAT := Aside0.mk hat; clear hb1 hg hat ho hC1_))
        refine ⟨⟨i + 1, A1_, c1_, AL, cL, (fun k => okL k ∧ k < wc.heap.size), ⟨by omega⟩, by go_num, by rw [HS1.out, List.length_append, List.length_singleton], by rw [HS1.out], ⟨by rw [HS1.out]; exact HO3.out⟩, ⟨by rw [HS1.out]; exact HLC.out⟩, ⟨by rw [HS1.out]; exact Kd.F_grown (Kd.F_bound (Kd.F_below HL.out HAC.out)) HG3.out (fun k hk => (HOK.out k hk.1).2)⟩, ⟨fun k hk => ⟨by have := HG3.out.size; have := hk.2; omega, fun e => ?_⟩⟩, ⟨HB3.out⟩⟩, ?_⟩
        · rw [HS1.out, List.length_append, List.length_singleton] at e
          have e2 : some k = (Value.slice A1_ (Y ++ [(i : Int)]).length c1_).ownBlock := by rw [List.length_append, List.length_singleton]; exact e
          rcases HAT.out with h | ⟨b, h, hb⟩
          · rw [h] at e2; exact (HOK.out k hk.1).2 e2
          · rw [h] at e2; injection e2 with e3; have := hk.2; omega
        · simp [intOf]; omega
    · have hie : i = l1.length := by have := hi.out; omega
      subst hie
      have hrr := HRR.out
      have HBZ := Aside0.mk (below_then HB8.out HB8.out.size HBR.out)
      have HO9 := Aside0.mk (Kd.R_lower HO.out HB8.out.size)
      clear HL HOK HLC
      rw [hrr] at HO9 ⊢
      clear hrr HO
      go_wp2
      go_ret2
      exact ⟨_, rfl, HO9.out, HBZ.out⟩
end Go.Proofs.Ytimkchehdaadeaa.P
end
