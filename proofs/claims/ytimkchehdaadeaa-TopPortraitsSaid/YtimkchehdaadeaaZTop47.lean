/- Part 47 of a proof: the statement TopPortraits: for every input its law returns true (its texts without what nothing here names). -/
import Derived.Test.YtimkchehdaadeaaZTop15
import Derived.Test.YtimkchehdaadeaaZTop22
import Derived.Laws.CopyRow
import Derived.Shelf.Spec.SlicesInsert
namespace Go.Proofs.Ytimkchehdaadeaa.P
open Go.RowKit Go.Shelf Go.Proofs.YtimkchehdaadeaaW.PrintWords Go.Proofs.YtimkchehdaadeaaW.PrintLast Go.Proofs.YtimkchehdaadeaaW.PrintMore
set_option linter.unusedVariables false
set_option linter.unusedSimpArgs false
set_option maxHeartbeats 4000000 in
set_option maxRecDepth 100000 in
theorem bits_Mul_one (n : Nat) (hn : n = 2 ∨ n = 3 ∨ n = 4) (w : World) :
    Calls Try.prog 115 #[.int .u64 1, .int .u64 (n : Int)] w fun e w' => e = .returned (.tuple #[.int .u64 0, .int .u64 (n : Int)]) ∧ Below w.heap.size w w' := by
  rcases hn with rfl | rfl | rfl
  all_goals
    go_enter Try.func115, Try.ntmps115
    go_wp2
    go_ret2
    exact ⟨rfl, by repeat (first | exact Below.refl _ _ | apply below_alloc | apply pw_below_drewN | apply below_drew1)⟩
def repTo (n m : Nat) : List Int := List.replicate m (-1) ++ List.replicate (n - m) 0
theorem repTo_len (n m : Nat) (h : m ≤ n) : (repTo n m).length = n := by simp [repTo]; omega
theorem repTo_put (n m c : Nat) (h : m + c ≤ n) : ((ints (repTo n m)).toList.take m ++ List.replicate c (Value.int .i64 (-1)) ++ (ints (repTo n m)).toList.drop (m + (List.replicate c (Value.int .i64 (-1))).length)).toArray = ints (repTo n (m + c)) := by
  unfold ints repTo
  apply Array.ext'
  simp only [List.map_append, List.map_replicate, List.length_replicate]
  apply List.ext_getElem?
  intro k
  simp only [List.getElem?_append, List.getElem?_take, List.getElem?_drop, List.getElem?_replicate, List.length_append, List.length_take, List.length_replicate, List.length_drop]
  repeat' split
  all_goals first | rfl | omega | (congr 1; omega) | skip
theorem copy_rep (n m c g : Nat) (a : Addr) (sLen sCap dCap : Nat) (w : World) (hg : w.heap[g]? = some (.cells (ints (repTo n m)) 3 (0, 0))) (hm : m + c ≤ n) (hc : c = min sLen (n - m)) (hsrc : ∀ j, j < c → w.cell? (a.add j) = some (.int .i64 (-1))) :
    (Builtin.copy_ #[24, 24] 3 #[.slice (some ⟨g, m, none⟩) (n - m) dCap, .slice (some a) sLen sCap]).run Try.prog w = .ok (.int .i64 (c : Int)) (w.setRow g (ints (repTo n (m + c)))) := by
  have := run_copy_row (P := Try.prog) w 24 24 3 3 g m (n - m) dCap a sLen sCap (ints (repTo n m)) 3 (List.replicate c (.int .i64 (-1))) Try.underlying24 (by kernel_rfl) hg (by rw [List.length_replicate]; exact hc) (fun j v hv => by
    rw [List.getElem?_replicate] at hv
    split at hv
    · rename_i hj
      obtain rfl := Option.some.inj hv
      exact hsrc j hj
    · cases hv) (by rw [List.length_replicate]; unfold ints; simp [repTo]; omega) (fun v hv => by rw [List.eq_of_mem_replicate hv]; rfl)
  rw [repTo_put n m c hm, List.length_replicate] at this
  exact this
theorem below_setRow {B g : Nat} {w W : World} (h : Below B w W) (hg : B ≤ g) (cs : Array Value) : Below B w (W.setRow g cs) :=
  ⟨h.os, h.tape, h.output, by rw [setRow_size]; exact h.size, fun k hk => (setRow_other W g k cs (by omega)).trans (h.block k hk)⟩
set_option maxHeartbeats 8000000 in
set_option maxRecDepth 100000 in
theorem slices_Repeat.calls (n : Nat) (hn : n = 2 ∨ n = 3 ∨ n = 4) (B : Nat) (w : World) (hb : w.heap[B]? = some (.cells #[.int .i64 (-1)] 3 (0, 0))) :
    Calls Try.prog 105 #[.slice (some ⟨B, 0, none⟩) 1 1, .int .i64 (n : Int)] w fun e w' => ∃ g : Nat, e = .returned (.slice (some ⟨g, 0, none⟩) n n) ∧ w.heap.size ≤ g ∧ w'.heap[g]? = some (.cells (ints (List.replicate n (-1))) 3 (0, 0)) ∧ Below w.heap.size w w' := by
  have hu24 := Try.underlying24
  have hs3 : (Try.prog.info? 3).map (·.size) = some 1 := by kernel_rfl
  have CM := Aside0.mk (bits_Mul_one n hn)
  have h14 : 2 ≤ n ∧ n ≤ 4 := by omega
  obtain ⟨h1, h4⟩ := h14
  have hmk := fun w1 : World => run_makeInts n w1 (by omega)
  have hw64 : (IntKind.u64).wrap (n : Int) = (n : Int) := by
    rcases hn with rfl | rfl | rfl <;> rfl
  have hwi : (IntKind.i64).wrap (n : Int) = (n : Int) := by
    rcases hn with rfl | rfl | rfl <;> rfl
  have hw1 : (IntKind.u64).wrap (1 : Int) = 1 := rfl
  have HBK := Aside0.mk hb
  clear hn hb
  go_enter Try.func105, Try.ntmps105
  have HC1 := Aside0.mk (fun (w6 : World) (h6 : Below w.heap.size w w6) => copy_rep n 0 1 w6.heap.size ⟨B, 0, none⟩ 1 1 n (w6.alloc (.cells (ints (List.replicate n 0)) 3)) (by have := blk_new w6 (.cells (ints (List.replicate n 0)) 3); unfold repTo; rw [Nat.sub_zero, List.replicate_zero, List.nil_append]; exact this) (by omega) (by omega) (fun j hj => by
    obtain rfl : j = 0 := by omega
    exact (blk_cell (blk_alloc (blk_below HBK.out h6) _) 0).trans rfl))
  simp only [Nat.zero_add, Nat.sub_zero] at HC1
  go_wp2_with (first
    | ((with_reducible refine gate_builtin (b := .copy) (xs := #[.tmp 31, .tmp 32]) rfl ?_); refine wpList_copy_runI _ rfl (.tmp 31) (.tmp 32) 24 24 rfl (.slice (some ⟨w6.heap.size, 0, none⟩) n n) (.slice (some ⟨B, 0, none⟩) 1 1) rfl rfl (HC1.out w6 HB6.out) ?_)
    | (go_at_call 115; refine (CM.out _).mono ?_; rintro e w6 ⟨rfl, h6⟩; have HB6 := Aside0.mk h6; clear h6))
  obtain ⟨g, hg⟩ : ∃ g, g = w6.heap.size := ⟨_, rfl⟩
  have hbg : w.heap.size ≤ g := by rw [hg]; exact HB6.out.size
  obtain ⟨w7, hw7⟩ : ∃ w7, w7 = (w6.alloc (.cells (ints (List.replicate n 0)) 3)).setRow g (ints (repTo n 1)) := ⟨_, rfl⟩
  have HG : Aside0 (w7.heap[g]? = some (.cells (ints (repTo n 1)) 3 (0, 0))) := ⟨by rw [hw7, hg]; exact setRow_heap _ _ _ _ 3 (0, 0) (blk_new w6 _)⟩
  have HB7 : Aside0 (Below w.heap.size w w7) := ⟨by rw [hw7]; exact below_setRow (HB6.out.alloc HB6.out.size _) hbg _⟩
  rw [← hg, ← hw7]
  clear hg hw7 HC1
  go_loopw [8] (fun v8 wr => ∃ m : Nat, Aside0 (1 ≤ m ∧ m ≤ n) ∧ v8 = .int .i64 m ∧ Aside0 (wr.heap[g]? = some (.cells (ints (repTo n m)) 3 (0, 0))) ∧ Aside0 (Below w.heap.size w wr)) (fun v8 _ => n - (intOf v8).toNat)
  case atStart => exact ⟨1, ⟨by omega⟩, rfl, HG, HB7⟩
  case round =>
    clear HG HB7
    obtain ⟨m, hm, rfl, HG, HB⟩ := hrel
    obtain ⟨hm1, hm2⟩ := hm.out
    by_cases hlt : m < n
    · obtain ⟨c, hc⟩ : ∃ c, c = min m (n - m) := ⟨_, rfl⟩
      have hc1 : m + c ≤ n := by omega
      have hc0 : 1 ≤ c := by omega
      have HC2 := Aside0.mk (copy_rep n m c g ⟨g, 0, none⟩ m n (n - m) wr.drew (blk_drew HG.out) hc1 hc (fun j hj => by
        have := blk_cell (blk_drew HG.out) j
        rw [add_plain, this, ints_get _ j (by rw [repTo_len n m hm2]; omega)]
        have e : rd (repTo n m) (j : Int) = -1 := by
          unfold repTo rd
          rw [Int.toNat_natCast, List.getD_eq_getElem?_getD, List.getElem?_append_left (by rw [List.length_replicate]; omega), List.getElem?_replicate, if_pos (by omega)]; rfl
        rw [e]))
      have hnm : ¬ n = m := by omega
      have hmn : (m : Int) ≤ (n : Int) := by omega
      have hadd : (⟨g, 0, none⟩ : Addr).add m = ⟨g, m, none⟩ := add_plain g m
      go_wp2
      refine start_ (n := 10) (S := fun _ => True) (ds := []) #[false, false, false, false, false, false, false, false, false, false] (by kernel_rfl) rfl rfl trivial (fun hHeld => ?_)
      refine pure_ (i := 0) (N := some 38) (v := ?_) (a' := ?_) #[true, false, false, false, false, false, false, false, false, false] rfl rfl (by kernel_rfl) (fun _ _ _ h => h) (Or.inl ⟨by rfl, ?_⟩) ?_ ?_
      rotate_left
      · intro w'
        go_simp
        with_reducible rfl
      rotate_left
      · simp only [Act.put, List.setIfInBounds_toArray, List.set_cons_zero, List.set_cons_succ, i64_w, i32_w]
        rfl
      refine pure_ (i := 1) (N := some 39) (v := ?_) (a' := ?_) #[true, true, false, false, false, false, false, false, false, false] rfl rfl (by kernel_rfl) (fun _ _ _ h => h) (Or.inl ⟨by rfl, ?_⟩) ?_ ?_
      rotate_left
      · intro w'
        go_simp
        with_reducible rfl
      rotate_left
      · simp only [Act.put, List.setIfInBounds_toArray, List.set_cons_zero, List.set_cons_succ, i64_w, i32_w]
        rfl
      refine pure_ (i := 2) (N := some 40) (v := ?_) (a' := ?_) #[true, true, true, false, false, false, false, false, false, false] rfl rfl (by kernel_rfl) (fun _ _ _ h => h) (Or.inl ⟨by rfl, ?_⟩) ?_ ?_
      rotate_left
      · intro w'
        go_simp
        with_reducible rfl
      rotate_left
      · simp only [Act.put, List.setIfInBounds_toArray, List.set_cons_zero, List.set_cons_succ, i64_w, i32_w]
        rfl
      refine pure_ (i := 3) (N := some 41) (v := ?_) (a' := ?_) #[true, true, true, true, false, false, false, false, false, false] rfl rfl (by kernel_rfl) (fun _ _ _ h => h) (Or.inl ⟨by rfl, ?_⟩) ?_ ?_
      rotate_left
      · intro w'
        go_simp
        with_reducible rfl
      rotate_left
      · simp only [Act.put, List.setIfInBounds_toArray, List.set_cons_zero, List.set_cons_succ, i64_w, i32_w]
        rfl
      refine pure_ (i := 4) (N := some 42) (v := ?_) (a' := ?_) #[true, true, true, true, true, false, false, false, false, false] rfl rfl (by kernel_rfl) (fun _ _ _ h => h) (Or.inl ⟨by rfl, ?_⟩) ?_ ?_
      rotate_left
      · intro w'
        go_simp
        with_reducible rfl
      rotate_left
      · simp only [Act.put, List.setIfInBounds_toArray, List.set_cons_zero, List.set_cons_succ, i64_w, i32_w]
        rfl
      refine pure_ (i := 5) (N := some 43) (v := ?_) (a' := ?_) #[true, true, true, true, true, true, false, false, false, false] rfl rfl (by kernel_rfl) (fun _ _ _ h => h) (Or.inl ⟨by rfl, ?_⟩) ?_ ?_
      rotate_left
      · intro w'
        go_simp
        with_reducible rfl
      rotate_left
      · simp only [Act.put, List.setIfInBounds_toArray, List.set_cons_zero, List.set_cons_succ, i64_w, i32_w]
        rfl
      refine pure_ (i := 6) (N := some 44) (v := ?_) (a' := ?_) #[true, true, true, true, true, true, true, false, false, false] rfl rfl (by kernel_rfl) (fun _ _ _ h => h) (Or.inl ⟨by rfl, ?_⟩) ?_ ?_
      rotate_left
      · intro w'
        go_simp
        with_reducible rfl
      rotate_left
      · simp only [Act.put, List.setIfInBounds_toArray, List.set_cons_zero, List.set_cons_succ, i64_w, i32_w]
        rfl
      have hsum : wrap64 ((m : Int) + (c : Int)) = ((m + c : Nat) : Int) := by unfold wrap64; omega
      have HSUM := Aside0.mk hsum
      clear hsum hc hnm hmn hadd
      refine one_ (i := 7) (N := some 45) #[true, true, true, true, true, true, true, true, false, false] rfl rfl (by kernel_rfl) (by decide) (fun K hK => ?_)
      refine step_copy_runI rfl (.tmp 41) (.tmp 44) 24 24 rfl (.slice (some ⟨g, m, none⟩) (n - m) (n - m)) (.slice (some ⟨g, 0, none⟩) m n) rfl rfl HC2.out ?_
      refine hK.out _ _ trivial (fun hHeld => ?_)
      clear hK K
      refine norm_ (a' := ?_) ?_ ?_
      rotate_left
      · show Act.put _ (some 45) _ = _
        simp only [Act.put, List.setIfInBounds_toArray, List.set_cons_zero, List.set_cons_succ, i64_w, i32_w]
        rfl
      refine pure_ (i := 8) (N := some 46) (v := ?_) (a' := ?_) #[true, true, true, true, true, true, true, true, true, false] rfl rfl (by kernel_rfl) (fun _ _ _ h => h) (Or.inl ⟨by rfl, ?_⟩) ?_ ?_
      rotate_left
      · intro w'
        go_simp
        with_reducible rfl
      rotate_left
      · simp only [Act.put, List.setIfInBounds_toArray, List.set_cons_zero, List.set_cons_succ, i64_w, i32_w]
        rfl
      refine pure_ (i := 9) (N := some 8) (v := ?_) (a' := ?_) #[true, true, true, true, true, true, true, true, true, true] rfl rfl (by kernel_rfl) (fun _ _ _ h => h) (Or.inl ⟨by rfl, ?_⟩) ?_ ?_
      rotate_left
      · intro w'
        go_simp
        with_reducible rfl
      rotate_left
      · simp only [Act.put, List.setIfInBounds_toArray, List.set_cons_zero, List.set_cons_succ, i64_w, i32_w]
        rfl
      refine done_ (by kernel_rfl) ?_
      go_wp2
      refine ⟨⟨m + c, ⟨by omega⟩, by rw [HSUM.out], ⟨setRow_heap _ _ _ _ 3 (0, 0) (blk_drew HG.out)⟩, ⟨below_setRow HB.out.drew hbg _⟩⟩, ?_⟩
      rw [HSUM.out]
      simp [intOf]; omega
    · have hme : m = n := by omega
      subst hme
      have hG2 : wr.heap[g]? = some (.cells (ints (List.replicate m (-1))) 3 (0, 0)) := by
        have h := HG.out
        unfold repTo at h
        rw [Nat.sub_self, List.replicate_zero, List.append_nil] at h
        exact h
      have HG2 := Aside0.mk hG2
      clear hG2
      go_wp2
      go_ret
      exact ⟨g, rfl, hbg, HG2.out, HB.out⟩
end Go.Proofs.Ytimkchehdaadeaa.P
