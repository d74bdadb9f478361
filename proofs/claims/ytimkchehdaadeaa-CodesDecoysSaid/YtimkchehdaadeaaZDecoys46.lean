/- Part 46 of a proof: the statement CodesDecoys: for every input its law returns true (its texts without what nothing here names). -/
import Derived.Test.YtimkchehdaadeaaZDecoys6
import Derived.Test.YtimkchehdaadeaaZDecoys9
import Derived.Lib.SliceRun
import Derived.Lib.LazyBuf
namespace Go.Proofs.Ytimkchehdaadeaa.P
open Go.RowKit Go.Proofs.YtimkchehdaadeaaW.PrintWords Go.Proofs.YtimkchehdaadeaaW.PrintLast Go.Proofs.YtimkchehdaadeaaW.PrintMore
set_option linter.unusedVariables false
set_option linter.unusedSimpArgs false
theorem own_tail1 {W : World} {base e size g n cap o : Nat} {v : Value} {xs : List Value} (h : W.ownsRow base e size (.slice (some ⟨g, 0, none⟩) n cap) n xs) (ho : n * size ≤ o) : (W.setCell ⟨g, o, none⟩ v).ownsRow base e size (.slice (some ⟨g, 0, none⟩) n cap) n xs := by
  obtain ⟨hl, ⟨h1, _⟩ | ⟨g', cap', cur, hv, hb, hh, hnc, hcm, hcs, htake⟩⟩ := h
  · cases h1
  · injection hv with ha _ hc
    injection ha with ha
    injection ha with hg
    subst hg
    subst hc
    refine ⟨hl, .inr ⟨g, cap, cur.setIfInBounds o v, rfl, hb, blk_put hh o v rfl, hnc, hcm, by simpa using hcs, ?_⟩⟩
    rw [Array.toList_setIfInBounds, List.take_set_of_le ho]
    exact htake
theorem own_tail {base e size g n cap : Nat} {xs : List Value} : ∀ (vs : List Value) (o : Nat) (W : World), W.ownsRow base e size (.slice (some ⟨g, 0, none⟩) n cap) n xs → n * size ≤ o → (W.setCells g o vs).ownsRow base e size (.slice (some ⟨g, 0, none⟩) n cap) n xs
  | [], _, _, h, _ => h
  | v :: r, o, W, h, ho => own_tail r (o + 1) _ (own_tail1 h ho) (by omega)
theorem heap_setCells_ne (g k : Nat) (hk : k ≠ g) : ∀ (vs : List Value) (o : Nat) (W : World), (W.setCells g o vs).heap[k]? = W.heap[k]?
  | [], _, _ => rfl
  | v :: r, o, W => (heap_setCells_ne g k hk r (o + 1) _).trans (Below.heap_setCell W _ _ _ hk)
theorem N_tail {ok : Nat → Prop} {W : World} {base g n cap o : Nat} {xs : List S36} (vs : List Value) (h : Kd.N k36 36 W base ok (.slice (some ⟨g, 0, none⟩) n cap) xs) (ho : n * 7 ≤ o) : Kd.N k36 36 (W.setCells g o vs) base ok (.slice (some ⟨g, 0, none⟩) n cap) xs := by
  have hlen := (Kd.N_reads' h).1
  obtain ⟨h0, rows, hlr, hR, hf⟩ := h
  refine ⟨h0, rows, hlr, ?_, fun j x c hx hc => Kd.FK_step (hf j x c hx hc) (fun k hk _ => heap_setCells_ne g k (fun e => hk.2 (by simp [Value.ownBlock, e])) vs o W)⟩
  obtain ⟨h1, inner, hown, hr⟩ := hR
  have e : rows.length = n := by omega
  rw [e] at hown
  exact ⟨h1, inner, by rw [e]; exact own_tail vs o W hown ho, hr⟩
theorem N_erase {ok : Nat → Prop} {W W1 : World} {base g n cap i : Nat} {xs : List S36} (h : Kd.N k36 36 W base ok (.slice (some ⟨g, 0, none⟩) n cap) xs) {rows : List (List Value)} (hlr : rows.length = xs.length)
    (hf : ∀ (j : Nat) (x : S36) (c : List Value), xs[j]? = some x → rows[j]? = some c → Kd.FK k36 W (fun k => ok k ∧ some k ≠ (Value.slice (some ⟨g, 0, none⟩) n cap).ownBlock) x c)
    (hR : (Kd.raw 7).R 36 W1 base (fun k => some k = (Value.slice (some ⟨g, 0, none⟩) n cap).ownBlock) (.slice (some ⟨g, 0, none⟩) (n - 1) cap) (rows.eraseIdx i)) (hg : W.grownBy W1 (some g)) : Kd.N k36 36 W1 base ok (.slice (some ⟨g, 0, none⟩) (n - 1) cap) (xs.eraseIdx i) := by
  refine ⟨fun k hk => h.1 k (by simpa [Value.ownBlock] using hk), rows.eraseIdx i, by rw [List.length_eraseIdx, List.length_eraseIdx, hlr], hR, fun j x c hx hc => ?_⟩
  rw [List.getElem?_eraseIdx] at hx hc
  have key : ∀ j', xs[j']? = some x → rows[j']? = some c → Kd.FK k36 W1 (fun k => ok k ∧ some k ≠ (Value.slice (some ⟨g, 0, none⟩) (n - 1) cap).ownBlock) x c := fun j' h1 h2 => Kd.FK_grown (hf j' x c h1 h2) hg (fun k hk => hk.2)
  by_cases hj : j < i
  · rw [if_pos hj] at hx hc; exact key j hx hc
  · rw [if_neg hj] at hx hc; exact key (j + 1) hx hc
theorem del_addr (g i cap : Nat) : (if cap = i + 1 then some (⟨g, 0, none⟩ : Addr) else some ⟨g, (i + 1) * 7, none⟩) = if cap = i + 1 then some ⟨g, 0, none⟩ else (some (⟨g, 0, none⟩ : Addr)).map (·.add ((i + 1) * (Kd.raw 7).sz)) := by
  have h : (i + 1) * (Kd.raw 7).sz = (i + 1) * 7 := rfl
  rw [h]
  simp [Addr.add]
def zero7 : List Value := [.int .i64 0, .int .i64 0, .int .i64 0, .int .i64 0, .int .i64 0, .slice none 0 0, .bool false]
theorem zero36 (w : World) : (zeroValue 36).run Try.prog w = .ok (.agg #[.int .i64 0, .int .i64 0, .int .i64 0, .int .i64 0, .int .i64 0, .slice none 0 0, .bool false]) w := by
  obtain ⟨i0, hi, hz⟩ := Option.map_eq_some_iff.1 info36
  simp only [Prod.mk.injEq] at hz
  simp [zeroValue, typeInfo, hi, hz.1]
theorem run_clear36 (W : World) (g o m c : Nat) (hm : m = 1) (hc : ∀ j, j < 7 → (W.cell? ⟨g, o + j, none⟩).isSome = true) (hf : ∀ j, j < 7 → W.frozen? ⟨g, o + j, none⟩ = false) :
    (Builtin.clear_ #[31] 0 #[.slice (some ⟨g, o, none⟩) m c]).run Try.prog W = .ok (.tuple #[]) (W.setCells g o zero7) := by
  subst hm
  have hst := run_storeCells_cells (P := Try.prog) g o zero7 0 W (by simpa [zero7] using hc) (by simpa [zero7] using hf) (by intro v hv; simp [zero7] at hv; rcases hv with rfl | rfl | rfl <;> rfl)
  simp only [Nat.add_zero] at hst
  have hzc : (Builtin.zeroCells (Value.cells (.agg #[.int .i64 0, .int .i64 0, .int .i64 0, .int .i64 0, .int .i64 0, .slice none 0 0, .bool false])) 1).toList = zero7 := by
    simp [Builtin.zeroCells, Value.cells, zero7, List.range, List.range.loop]
  simp [Builtin.clear_, run_underlying Try.underlying31, zero36, hzc, hst]
theorem size36 : (Try.prog.info? 36).map (·.size) = some 7 := by kernel_rfl
set_option maxHeartbeats 8000000 in
set_option maxRecDepth 100000 in
theorem slices_Delete_Clue.calls (ok : Nat → Prop) (g n cap i : Nat) (l : List S36) (base : Nat) (w : World) (hN : Kd.N k36 36 w base ok (.slice (some ⟨g, 0, none⟩) n cap) l) (hi : i < n) (hn : n ≤ 1000) (hbase : base ≤ w.heap.size) :
    Calls Try.prog 81 #[.slice (some ⟨g, 0, none⟩) n cap, .int .i64 (i : Int), .int .i64 ((i + 1 : Nat) : Int)] w fun e w' => e = .returned (.slice (some ⟨g, 0, none⟩) (n - 1) cap) ∧ Kd.N k36 36 w' base ok (.slice (some ⟨g, 0, none⟩) (n - 1) cap) (l.eraseIdx i) ∧ Below base w w' := by
  obtain ⟨hnl, hnc, _⟩ := Kd.N_reads' hN
  have hbg := Kd.N_base hN g (by simp [Value.ownBlock])
  obtain ⟨cells, hblk⟩ := Kd.N_typed hN g (by simp [Value.ownBlock])
  have HN := Aside0.mk hN
  have HNL := Aside0.mk hnl
  have hic : i ≤ cap := by omega
  have hi1 : (i : Int) + 1 ≤ (n : Int) := by omega
  have h01 : (0 : Int) ≤ (i : Int) + 1 := by omega
  clear hN hnl
  go_enter Try.func81, Try.ntmps81
  go_wp2
  obtain ⟨h0, rows, hlr, hR, hf⟩ := Kd.N_drew HN.out
  have hHN := Aside0.mk (Kd.N_drew HN.out)
  have HRR := Aside0.mk hR
  have HLR := Aside0.mk hlr
  have HF := Aside0.mk hf
  clear h0 hR hlr hf
  refine start_ (n := 8) (S := fun _ => True) (ds := []) #[false, false, false, false, false, false, false, false] (by kernel_rfl) rfl rfl trivial (fun hHeld => ?_)
  refine pure_ (i := 0) (N := some 20) (v := ?_) (a' := ?_) #[true, false, false, false, false, false, false, false] rfl rfl (by kernel_rfl) (fun _ _ _ h => h) (Or.inl ⟨by rfl, ?_⟩) ?_ ?_
  rotate_left
  · intro w'
    go_simp
    with_reducible rfl
  rotate_left
  · simp only [Act.put, List.setIfInBounds_toArray, List.set_cons_zero, List.set_cons_succ, i64_w, i32_w]
    rfl
  refine pure_ (i := 1) (N := some 21) (v := ?_) (a' := ?_) #[true, true, false, false, false, false, false, false] rfl rfl (by kernel_rfl) (fun _ _ _ h => h) (Or.inl ⟨by rfl, ?_⟩) ?_ ?_
  rotate_left
  · intro w'
    go_simp
    with_reducible rfl
  rotate_left
  · simp only [Act.put, List.setIfInBounds_toArray, List.set_cons_zero, List.set_cons_succ, i64_w, i32_w]
    rfl
  refine pure_ (i := 2) (N := some 22) (v := ?_) (a' := ?_) #[true, true, true, false, false, false, false, false] rfl rfl (by kernel_rfl) (fun _ _ _ h => h) (Or.inl ⟨by rfl, ?_⟩) ?_ ?_
  rotate_left
  · intro w'
    go_simp
    with_reducible rfl
  rotate_left
  · simp only [Act.put, List.setIfInBounds_toArray, List.set_cons_zero, List.set_cons_succ, i64_w, i32_w]
    rfl
  refine pure_ (i := 3) (N := some 23) (v := ?_) (a' := ?_) #[true, true, true, true, false, false, false, false] rfl rfl (by kernel_rfl) (fun _ _ _ h => h) (Or.inl ⟨by rfl, ?_⟩) ?_ ?_
  rotate_left
  · intro w'
    go_simp
    with_reducible rfl
  rotate_left
  · simp only [Act.put, List.setIfInBounds_toArray, List.set_cons_zero, List.set_cons_succ, i64_w, i32_w]
    rfl
  refine pure_ (i := 4) (N := some 24) (v := ?_) (a' := ?_) #[true, true, true, true, true, false, false, false] rfl rfl (by kernel_rfl) (fun _ _ _ h => h) (Or.inl ⟨by rfl, ?_⟩) ?_ ?_
  rotate_left
  · intro w'
    go_simp
    with_reducible rfl
  rotate_left
  · simp only [Act.put, List.setIfInBounds_toArray, List.set_cons_zero, List.set_cons_succ, i64_w, i32_w]
    rfl
  refine pure_ (i := 5) (N := some 25) (v := ?_) (a' := ?_) #[true, true, true, true, true, true, false, false] rfl rfl (by kernel_rfl) (fun _ _ _ h => h) (Or.inl ⟨by rfl, ?_⟩) ?_ ?_
  rotate_left
  · intro w'
    go_simp
    with_reducible rfl
  rotate_left
  · simp only [Act.put, List.setIfInBounds_toArray, List.set_cons_zero, List.set_cons_succ, i64_w, i32_w]
    rfl
  refine one_ (i := 6) (N := some 26) #[true, true, true, true, true, true, true, false] rfl rfl (by kernel_rfl) (by decide) (fun K hK => ?_)
  refine Kd.R_delete_step (Kd.raw 7) (w0 := w) (W := w.drew) base rfl (.tmp 22) (.tmp 25) 31 36 rfl Try.underlying31 size36 rfl rfl (del_addr g i cap) rfl HRR.out hi (below_drew1 (Below.refl _ _)) hbase ?_
  intro w1 hR1 hB1 hg1
  refine hK.out _ _ trivial (fun hHeld => ?_)
  clear hK K
  refine pure_ (i := 7) (N := some 0) (v := ?_) (a' := ?_) #[true, true, true, true, true, true, true, true] rfl rfl (by kernel_rfl) (fun _ _ _ h => h) (Or.inl ⟨by rfl, ?_⟩) ?_ ?_
  rotate_left
  · intro w'
    go_simp
    with_reducible rfl
  rotate_left
  · simp only [Act.put, List.setIfInBounds_toArray, List.set_cons_zero, List.set_cons_succ, i64_w, i32_w]
    rfl
  refine done_ (by kernel_rfl) ?_
  have hN1 := N_erase hHN.out HLR.out HF.out hR1 hg1
  have hNL := HNL.out
  have HN1 := Aside0.mk hN1
  have hcells : (∀ j, j < 7 → (w1.cell? ⟨g, (n - 1) * 7 + j, none⟩).isSome = true) ∧ (∀ j, j < 7 → w1.frozen? ⟨g, (n - 1) * 7 + j, none⟩ = false) := by
    obtain ⟨_, inner, hown, _⟩ := hR1
    obtain ⟨_, ⟨hv, _⟩ | ⟨g', cap', cur, hv, hb, hh, _, _, hcs, _⟩⟩ := hown
    · cases hv
    injection hv with ha _ hcap
    injection ha with ha
    injection ha with hgg
    subst hgg
    subst hcap
    refine ⟨fun j hj => ?_, fun j hj => blk_frozen hh _⟩
    rw [blk_cell hh]
    have : (n - 1) * 7 + j < cur.size := by
      rw [hcs]
      have : (n - 1 + 1) * 7 ≤ cap * 7 := Nat.mul_le_mul_right 7 (by omega)
      show (n - 1) * 7 + j < cap * 7
      omega
    simp [this]
  have hclr := fun c => run_clear36 w1 g ((n - 1) * 7) (n - (n - 1)) c (by omega) hcells.1 hcells.2
  have HB1 := Aside0.mk hB1
  clear hcells hNL hN1 hR1 hg1 hB1
  go_wp2
  all_goals
    go_ret
    first
      | exact ⟨rfl, N_tail zero7 HN1.out (Nat.le_refl _), below_setCells hbg zero7 _ _ HB1.out⟩
      | (have hcc : cap = i + 1 := by omega
         subst hcc
         exact ⟨rfl, N_tail zero7 HN1.out (Nat.le_refl _), below_setCells hbg zero7 _ _ HB1.out⟩)
end Go.Proofs.Ytimkchehdaadeaa.P
