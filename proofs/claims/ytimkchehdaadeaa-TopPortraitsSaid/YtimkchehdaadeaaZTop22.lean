/- Part 22 of a proof: the statement TopPortraits: for every input its law returns true (its texts without what nothing here names). -/
import Derived.Test.YtimkchehdaadeaaZTop18

namespace Go.Proofs.Ytimkchehdaadeaa.P
open Go.RowKit Go.Shelf Go.Pad Go.Proofs.YtimkchehdaadeaaW.PrintWords Go.Proofs.YtimkchehdaadeaaW.PrintLast Go.Proofs.YtimkchehdaadeaaW.PrintMore
attribute [local go_sem] Oper.semAt_some
set_option linter.unusedVariables false
set_option linter.unusedSimpArgs false
def Lent (D : Nat) (x : List Int) (W : World) : Prop := W.heap[D]? = some (.cells (ints x) 3 (0, 0))
theorem run_makeInts (n : Nat) (w : World) (h : n ≤ 1000) : (Instr.makeSlice 24 (.int .i64 (n : Int)) (.int .i64 (n : Int))).run Try.prog w = .ok (.slice (some ⟨w.heap.size, 0, none⟩) n n) (w.alloc (.cells (ints (List.replicate n 0)) 3)) := by
  obtain ⟨i0, hi, hz0, hz1, hz2⟩ := info_parts info3
  have := run_makeSlice (P := Try.prog) w 24 3 i0 (.int .i64 0) Try.underlying24 hi hz0 .i64 .i64 (n : Int) (n : Int) (by omega) (by omega) (by rw [hz1]; omega) (by rw [hz2]; omega) (by omega)
  rw [this, hz1]
  simp only [Int.toNat_natCast]
  have e : madeCells (Value.int .i64 0).cells (n * 1) = ints (List.replicate n 0) := by
    unfold ints madeCells
    rw [List.map_replicate]
    apply Array.ext'
    simp only [Nat.mul_one, Array.toList_map, Array.toList_range]
    apply List.ext_getElem
    · simp
    · intro i h1 h2
      simp [Value.cells, Nat.mod_one]
  rw [e]
set_option maxHeartbeats 8000000 in
set_option maxRecDepth 100000 in
theorem codes_iter (n s : Nat) (hn : n ≤ 4) (hs : 2 ≤ s ∧ s ≤ 10) (B : Nat) (M : Nat → Prop) (w : World) (hb : w.heap[B]? = some (.cells #[.int .i64 n, .int .i64 s] 83 (0, 0))) (hMB : ¬ M B) (hM : ∀ b, M b → b < w.heap.size) :
    Iters Try.prog 109 #[.pointer (some ⟨B, 0, none⟩)] (fun _ : List Int => #[.slice (some ⟨w.heap.size, 0, none⟩) n n]) (Lent w.heap.size) (allCodes s n) 1 M w := by
  intro l J Jx hJ hJx hY hJ0
  obtain ⟨hs0, hs9⟩ := hs
  obtain ⟨h0, h1⟩ := cells2 hb
  have hBlt : B < w.heap.size := blk_lt hb
  have hmk := run_makeInts n w (by omega)
  have hJ1 := hJ _ _ _ hJ0 ((Apart.refl w.heap.size (w.heap.size + 1) w).alloc (.cells (ints (List.replicate n 0)) 3))
  have hB1 := blk_alloc hb (.cells (ints (List.replicate n 0)) 3)
  have hD1 := blk_new w (.cells (ints (List.replicate n 0)) 3)
  rw [← codeAt_zero s n] at hmk hJ1 hB1 hD1
  have hs1 : (w.alloc (.cells (ints (codeAt s n 0)) 3)).heap.size = w.heap.size + 1 := by simp
  obtain ⟨w1, hw1⟩ : ∃ w1, w1 = w.alloc (.cells (ints (codeAt s n 0)) 3) := ⟨_, rfl⟩
  rw [← hw1] at hmk hJ1 hB1 hD1 hs1
  have HJ := Aside0.mk hJ
  have HJX := Aside0.mk hJx
  have HY := Aside0.mk hY
  have HM := Aside0.mk hM
  have HJ1 := Aside0.mk hJ1
  have HB1 := Aside0.mk hB1
  have HD1 := Aside0.mk hD1
  clear hJ hJx hY hM hJ1 hB1 hD1 hJ0 hb hw1
  obtain ⟨D, hD⟩ : ∃ D, D = w.heap.size := ⟨_, rfl⟩
  rw [← hD] at HJ HJX HY HM HD1 hs1 hmk hBlt
  have HDD := Aside0.mk hD
  clear hD
  refine (callsIn_wide (n := 1)).1 (callsIn_of_wp Try.func109 rfl trivial ?_ rfl)
  simp only [Try.ntmps109, List.size_toArray, List.length_cons, List.length_nil, Nat.reduceAdd, Nat.reduceSub, Array.replicate_succ, Array.replicate_zero, List.push_toArray, List.append_toArray, List.nil_append, List.cons_append]
  gi_wp2
  gi_loopw [4] (fun v4 wr => ∃ m : Nat, Aside0 (m < s ^ n) ∧ Aside0 (J (codesN s n m) wr) ∧ Aside0 (wr.heap[B]? = some (.cells #[.int .i64 n, .int .i64 s] 83 (0, 0))) ∧ Aside0 (Lent D (codeAt s n m) wr) ∧ Aside0 (D + 1 ≤ wr.heap.size)) (fun _ wr => s ^ n - heapVal s D wr)
  case atStart => exact ⟨0, ⟨Nat.pow_pos (by omega)⟩, HJ1, HB1, HD1, ⟨by omega⟩⟩
  case round =>
    obtain ⟨m, hm, HJm, HB, HD, hsz⟩ := hrel
    have HV := Aside0.mk ((heapVal_eq HD.out).trans (valOf_codeAt s (by omega) n m hm.out))
    obtain ⟨fn, tmps, assign, body, hy, hR⟩ := yieldAt_wide (m := 0) (HY.out (codesN s n m) (codeAt s n m) wr (by rw [← codesN_succ]; exact codesN_prefix s n hm.out) HJm.out HD.out hsz.out)
    gi_wp2
    refine hR.mono ?_
    rintro e W3 (⟨rfl, hJ3, hk3⟩ | ⟨rfl, hJx3, _⟩)
    · have HB3 := Aside0.mk ((hk3.block B (by omega) hMB).trans HB.out)
      have HD3 := Aside0.mk ((hk3.block D (by omega) (fun h => absurd (HM.out D h) (Nat.lt_irrefl D))).trans HD.out)
      have HJ3 : Aside0 (J (codesN s n (m + 1)) W3) := ⟨by rw [codesN_succ]; exact hJ3⟩
      have hsz3 : Aside0 (D + 1 ≤ W3.heap.size) := ⟨Nat.le_trans hsz.out hk3.size⟩
      obtain ⟨h30, h31⟩ := cells2 HB3.out
      clear hk3 hJ3 hy hR HJm HB HD hsz
      obtain ⟨c, hc⟩ : ∃ c, c = codeAt s n m := ⟨_, rfl⟩
      have hcl : c.length = n := by rw [hc]; exact codeAt_length s n m
      rw [← hc] at HD3
      have HC := Aside0.mk hc
      clear hc
      gi_wp2
      gi_loopw [4] (fun v4 wr => ∃ k : Nat, Aside0 (k ≤ n) ∧ v4 = .int .i64 ((k : Int) - 1) ∧ Aside0 (∀ j : Nat, k ≤ j → j < n → rd c j = (s : Int) - 1) ∧ Aside0 (J (codesN s n (m + 1)) wr) ∧ Aside0 (wr.heap[B]? = some (.cells #[.int .i64 n, .int .i64 s] 83 (0, 0))) ∧ Aside0 (Lent D (c.take k ++ List.replicate (n - k) 0) wr) ∧ Aside0 (D + 1 ≤ wr.heap.size)) (fun v4 wr => (intOf v4 + 1).toNat)
      case atStart =>
        refine ⟨n, ⟨Nat.le_refl _⟩, rfl, ⟨fun j h1 h2 => absurd h1 (by omega)⟩, HJ3, HB3, ⟨?_⟩, hsz3⟩
        rw [List.take_of_length_le (Nat.le_of_eq hcl), Nat.sub_self, List.replicate_zero, List.append_nil]; exact HD3.out
      case round =>
        clear HB3 HD3 HJ3 hsz3 h30 h31
        obtain ⟨k, hk, rfl, HL, HJ3, HB3, HD3, hsz3⟩ := hrel
        obtain ⟨h30, h31⟩ := cells2 HB3.out
        rcases k with _ | j
        · rw [show (((0 : Nat) : Int) - 1) = -1 from rfl]
          gi_wp2
          gi_quiet (fail)
          gi_wp2
          refine bodyPost_ret (results_none rfl _ _ _) rfl ?_
          have e : m + 1 = s ^ n := codeAt_last s (by omega) n m hm.out (fun j hj => by rw [← HC.out]; exact HL.out j (Nat.zero_le _) hj)
          refine ⟨⟨_, rfl⟩, .inl ?_⟩
          unfold allCodes
          rw [← e]
          exact HJ.out _ _ _ HJ3.out ((Apart.refl _ _ _).drewN _)
        · have e : (((j + 1 : Nat) : Int) - 1) = (j : Int) := by omega
          rw [e]
          have hj : j < n := hk.out
          have hcj := (blk_cell HD3.out j).trans (ints_get _ j (by rw [odo_len c n (j + 1) hcl hk.out]; exact hj))
          have hfj := blk_frozen HD3.out j
          rw [odo_rd c n j hcl hj] at hcj
          obtain ⟨x, hx⟩ : ∃ x, x = rd c j := ⟨_, rfl⟩
          have hxr : 0 ≤ x ∧ x < s := by
            have := codeAt_range s (by omega) n m (c[j]'(by omega)) (by rw [← HC.out]; exact List.getElem_mem _)
            have e2 : rd c j = c[j]'(by omega) := by simp [rd, List.getD_eq_getElem?_getD, List.getElem?_eq_getElem (show j < c.length by omega)]
            rw [hx, e2]; exact this
          obtain ⟨hx0, hx1⟩ := hxr
          rw [← hx] at hcj
          have HX := Aside0.mk hx
          clear hx
          by_cases hxs : x = (s : Int) - 1
          · have hxb : (x == (s : Int) - 1) = true := beq_iff_eq.mpr hxs
            have HXS := Aside0.mk hxs
            clear hxs
            gi_wp2
            gi_quiet (fail)
            gi_wp2
            go_roundw
            case rel =>
              refine ⟨j, ⟨by omega⟩, by go_num, ⟨fun i h1 h2 => ?_⟩, ⟨HJ.out _ _ _ HJ3.out (((Apart.refl _ _ _).drewN _).setCell _ _ (.inl ⟨Nat.le_refl _, Nat.lt_succ_self _⟩))⟩, ⟨blk_far HB3.out (by show B ≠ D; omega) _⟩, ⟨blk_put HD3.out _ _ ?_⟩, ⟨by simpa [World.setCell] using hsz3.out⟩⟩
              · by_cases e3 : i = j
                · subst e3; rw [← HX.out]; exact HXS.out
                · exact HL.out i (by omega) h2
              · rw [ints_set, odo_set c n j hcl hj]
            case measure => first | (simp [intOf]; done) | (simp [intOf]; omega)
          · have hxb : (x == (s : Int) - 1) = false := beq_eq_false_iff_ne.mpr hxs
            have HXS := Aside0.mk hxs
            clear hxs
            gi_wp2
            gi_quiet (fail)
            gi_wp2
            have hnx : codeAt s n (m + 1) = c.take j ++ [x + 1] ++ List.replicate (n - 1 - j) 0 := by
              rw [codeAt_inc s (by omega) n m j hj (fun i h1 h2 => by rw [← HC.out]; exact HL.out i h1 h2) (by rw [← HC.out, ← HX.out]; exact HXS.out), ← HC.out, ← HX.out]
            have hlt : m + 1 < s ^ n := by
              rcases Nat.lt_or_ge (m + 1) (s ^ n) with h | h
              · exact h
              · exact absurd (codeAt_top s (by omega) n m (by have := hm.out; omega) j hj) (by rw [← HC.out, ← HX.out]; exact HXS.out)
            have hD4 : ((wr.drewN nq).setCell ⟨D, j, none⟩ (.int .i64 (x + 1))).heap[D]? = some (.cells (ints (codeAt s n (m + 1))) 3 (0, 0)) :=
              blk_put HD3.out _ _ (by rw [ints_set, hnx, odo_inc c n j _ hcl hj])
            refine ⟨⟨m + 1, ⟨hlt⟩, ⟨HJ.out _ _ _ HJ3.out (((Apart.refl _ _ _).drewN _).setCell _ _ (.inl ⟨Nat.le_refl _, Nat.lt_succ_self _⟩))⟩, ⟨blk_far HB3.out (by show B ≠ D; omega) _⟩, ⟨hD4⟩, ⟨by simpa [World.setCell] using hsz3.out⟩⟩, ?_⟩
            rw [heapVal_eq hD4, valOf_codeAt s (by omega) n (m + 1) hlt, HV.out]
            omega
    · gi_wp2
      refine bodyPost_ret (results_none rfl _ _ _) rfl ?_
      exact ⟨⟨_, rfl⟩, .inr ⟨_, by rw [codesN_succ]; simp, codesN_prefix s n (Nat.succ_le_of_lt hm.out), by rw [codesN_succ]; exact hJx3⟩⟩
end Go.Proofs.Ytimkchehdaadeaa.P
