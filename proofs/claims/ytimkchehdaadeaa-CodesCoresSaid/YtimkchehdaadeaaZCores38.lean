/- Part 38 of a proof: the statement CodesCores: for every input its law returns true (its texts without what nothing here names). -/
import Derived.Test.YtimkchehdaadeaaZCores15
import Derived.Test.YtimkchehdaadeaaZCores23
import Derived.Test.YtimkchehdaadeaaZCores36
import Derived.Test.YtimkchehdaadeaaZCores37

namespace Go.Proofs.Ytimkchehdaadeaa.P
open Go.RowKit Go.Shelf Go.Pad Go.Proofs.YtimkchehdaadeaaW.PrintWords Go.Proofs.YtimkchehdaadeaaW.PrintLast Go.Proofs.YtimkchehdaadeaaW.PrintMore
attribute [local go_sem] Oper.semAt_some
set_option linter.unusedVariables false
set_option linter.unusedSimpArgs false
def codes_lock_all.f (W S : Int) (l : List S36) : Option (List (List Int)) := if okLock W S ∧ l.all (validC W S) = true then some (readingsL S.toNat W.toNat l) else none
set_option maxHeartbeats 8000000 in
set_option maxRecDepth 100000 in
theorem codes_lock_all.calls (a0_0 : Int) (a0_1 : Int) (A1 : Option Addr) (c1 : Nat) (l1 : List S36) (r : List (List Int)) (w : World) (hr1 : Kd.C k36 w A1 l1.length l1) (hc1 : l1.length ≤ c1) (h : codes_lock_all.f a0_0 a0_1 l1 = some r) :
    Calls Try.prog 79 #[.agg #[.int .i64 a0_0, .int .i64 a0_1], .slice A1 l1.length c1] w fun e w' => ∃ v : Value, e = .returned v ∧ Kd.R (Kd.slice 3 (Kd.int .i64)) 24 w' w.heap.size (fun _ => True) v r ∧ Below w.heap.size w w' := by
  unfold codes_lock_all.f at h
  split at h
  case isFalse => cases h
  case isTrue hk =>
  obtain rfl := Option.some.inj h
  clear h
  obtain ⟨hl, hv⟩ := hk
  obtain ⟨n, s, rfl, rfl, hn1, hn4, hs2, hs10⟩ := lock_nat hl
  have hok := ok_all hl hv
  simp only [Int.toNat_natCast]
  have hlen : (readingsL s n l1).length ≤ 10000 := Nat.le_trans (List.length_filter_le _ _) (codes_many hn4 hs10)
  have HR := Aside0.mk hr1
  have HOK := Aside0.mk hok
  have HLEN := Aside0.mk hlen
  clear hr1 hok hlen hl hv
  refine (callsIn_wide (n := 5)).1 (callsIn_of_wp_marks Try.func79 rfl trivial ?_ rfl)
  simp only [Try.ntmps79, List.size_toArray, List.length_cons, List.length_nil, Nat.reduceAdd, Nat.reduceSub, Array.replicate_succ, Array.replicate_zero, List.push_toArray, List.append_toArray, List.nil_append, List.cons_append]
  gi_wp2_with (first | (refine ⟨trivial, ?_⟩; gi_at_call 72; refine (callsIn_wide.2 (codes_readings.calls _ _ _ rfl _)).mono ?_; rintro e w1 ⟨rfl, rfl⟩))
  obtain ⟨w2, hw2⟩ : ∃ w2, w2 = (((w.alloc (.cells #[.int .i64 n, .int .i64 s] 83)).alloc (.cells #[.slice none 0 0] 51)).alloc (.cells #[.int .i64 n, .int .i64 s] 83)).alloc (.cells #[.slice A1 l1.length c1] 31) := ⟨_, rfl⟩
  have hz2 : w2.heap.size = w.heap.size + 4 := by rw [hw2]; simp
  have hnb : w2.heap[w.heap.size + 1]? = some (.cells #[.slice none 0 0] 51 (0, 0)) := by
    rw [hw2]; have := blk_new (w.alloc (.cells #[.int .i64 n, .int .i64 s] 83)) (.cells #[.slice none 0 0] 51); rw [World.size_alloc] at this; exact blk_alloc (blk_alloc this _) _
  have hlb : w2.heap[w.heap.size + 1 + 1]? = some (.cells #[.int .i64 n, .int .i64 s] 83 (0, 0)) := by
    rw [hw2]; have := blk_new ((w.alloc (.cells #[.int .i64 n, .int .i64 s] 83)).alloc (.cells #[.slice none 0 0] 51)) (.cells #[.int .i64 n, .int .i64 s] 83); rw [World.size_alloc, World.size_alloc] at this; exact blk_alloc this _
  have hcb : w2.heap[w.heap.size + 1 + 1 + 1]? = some (.cells #[.slice A1 l1.length c1] 31 (0, 0)) := by
    rw [hw2]; have := blk_new (((w.alloc (.cells #[.int .i64 n, .int .i64 s] 83)).alloc (.cells #[.slice none 0 0] 51)).alloc (.cells #[.int .i64 n, .int .i64 s] 83)) (.cells #[.slice A1 l1.length c1] 31); rw [World.size_alloc, World.size_alloc, World.size_alloc] at this; exact this
  have hB2 : Below w.heap.size w w2 := by
    rw [hw2]; exact ((((Below.refl _ w).alloc (Nat.le_refl _) _).alloc (by simp) _).alloc (by simp; omega) _).alloc (by simp; omega) _
  have hz2' : w.heap.size + 4 ≤ w2.heap.size := Nat.le_of_eq hz2.symm
  have hz2'' : w2.heap.size ≤ w.heap.size + 4 := Nat.le_of_eq hz2
  rw [← hw2]
  clear hw2 hz2
  refine wpIn_iter (k := 5) (M := fun b => b = w.heap.size + 1) (gf := 100) (lb := #[.pointer (some ⟨w.heap.size + 1 + 1, 0, none⟩), .pointer (some ⟨w.heap.size + 1 + 1 + 1, 0, none⟩)]) rfl (enters_of Try.func100 (by kernel_rfl) rfl)
    (readings_hit n s hn4 ⟨hs2, hs10⟩ l1 A1 c1 _ _ _ w w2 hlb hcb HR.out hc1 hB2 (fun b h => by omega) (fun b h => by omega) (by omega) (by omega) HOK.out)
    (fun b h => by omega) (fun _ => rfl) (fun x A B h hab => lent_apart h hab (by omega))
    (fun pre W => (∃ v, W.heap[w.heap.size + 1]? = some (.cells #[v] 51 (0, 0)) ∧ Kd.R (Kd.slice 3 (Kd.int .i64)) 24 W (w2.heap.size + 7) (fun _ => True) v pre) ∧ Below w.heap.size w W) (fun _ _ _ => False) ?hI ?hIx ⟨⟨_, hnb, Kd.R_nil _ _ _ _ _⟩, hB2⟩
    (fun x => { tmps := #[.agg #[.int .i64 n, .int .i64 s], .slice A1 l1.length c1, .pointer (some ⟨w.heap.size, 0, none⟩), undef, .pointer (some ⟨w.heap.size + 1, 0, none⟩), .slice (some ⟨w2.heap.size + 6, 0, none⟩) n n, .agg #[.int .i64 n, .int .i64 s], .slice A1 l1.length c1, .func (.func 100) #[] #[.pointer (some ⟨w.heap.size + 1 + 1, 0, none⟩), .pointer (some ⟨w.heap.size + 1 + 1 + 1, 0, none⟩)], .slice (some ⟨w2.heap.size + 6, 0, none⟩) n n, undef, undef, undef, undef, undef, undef], defers := [] }) ?assign ?body ?done ?stop
  case hI =>
    rintro pre A B ⟨⟨v, h1, h3⟩, h2⟩ hab
    exact ⟨⟨v, (hab.block _ (blk_lt h1) (.inl (by omega))).trans h1, Kd.R_mono (Kd.R_move (Kd.R_bound h3) (fun k hk => hab.block k hk.2.2.1 (.inr (by omega)))) (fun _ _ => trivial)⟩, below_of_apart h2 hab (by omega) h2.size⟩
  case hIx => exact fun _ _ _ _ h _ => h.elim
  case assign =>
    intro l' x W K hK
    gi_wp2
    exact hK
  case body =>
    rintro l' pre x W hpre ⟨⟨v, h1, h3⟩, h2⟩ hx hsz
    obtain ⟨Av, cv, rfl, hlv, hcv⟩ := Kd.R_reads h3
    have hmem : x ∈ allCodes s n := (List.mem_filter.1 (hpre.subset (by simp) : x ∈ readingsL s n l1)).1
    have hxl : x.length = n := by
      have := (isCodeB_iff.1 (allCodes_isCode (by omega) hmem)).1; omega
    have hcl : Calls Try.prog 73 #[.slice (some ⟨w2.heap.size + 6, 0, none⟩) n n] W.drew fun e w' => ∃ v : Value, e = .returned v ∧ Kd.R (Kd.int .i64) 3 w' W.heap.size (fun _ => True) v x ∧ Below W.heap.size W.drew w' := by
      have := slices_Clone_int_int.calls (some ⟨w2.heap.size + 6, 0, none⟩) n x x W.drew (Kd.C_drew (lent_C hx (by omega))) (by omega) (by unfold slices_Clone_int_int.f; rw [if_pos (by omega)])
      rwa [hxl] at this
    have hple : pre.length + 1 ≤ 10000 := by
      have := hpre.length_le
      simp at this
      have := HLEN.out
      omega
    have HX := Aside0.mk hx
    have HSZ := Aside0.mk hsz
    have H1 := Aside0.mk h1
    have H2 := Aside0.mk h2
    have H3 := Aside0.mk h3
    have CL := Aside0.mk hcl
    clear hcl hx hsz h2 h3 hcv
    gi_wp2
    refine startR_ (n := 6) (S := fun w' => w'.cell? ⟨w.heap.size + 1, 0, none⟩ = some (.slice Av pre.length cv)) (ds := [5]) #[false, false, false, false, false, false] (by kernel_rfl) rfl rfl (noDefer_spec (by kernel_rfl)) (by rintro ⟨a, w, h⟩; exact h) ((blk_cell (blk_drew H1.out) 0).trans rfl) (fun hHeld => ?_)
    refine pure_ (i := 1) (N := some 11) (v := ?_) (a' := ?_) #[false, true, false, false, false, false] rfl rfl (by kernel_rfl) (fun _ _ _ h => h) (Or.inl ⟨by rfl, ?_⟩) ?_ ?_
    rotate_left
    · intro w'
      go_simp
      with_reducible rfl
    rotate_left
    · simp only [Act.put, List.setIfInBounds_toArray, List.set_cons_zero, List.set_cons_succ]
      rfl
    refine take_ (i := 0) (N := some 10) (v := ?_) (a' := ?_) #[true, true, false, false, false, false] rfl rfl (by kernel_rfl) (fun _ _ _ h => h) (Or.inl ⟨by rfl, ?_⟩) hHeld ?_ ?_
    rotate_left
    · rintro w' s0
      go_simp
      with_reducible rfl
    rotate_left
    · simp only [Act.put, List.setIfInBounds_toArray, List.set_cons_zero, List.set_cons_succ]
      rfl
    refine one_ (i := 2) (N := some 12) #[true, true, true, false, false, false] rfl rfl (by kernel_rfl) (by decide) (fun K hK => ?_)
    refine goes_ Try.func73 (by kernel_rfl) rfl #[.slice (some ⟨w2.heap.size + 6, 0, none⟩) n n] (by rfl) rfl rfl (by (try simp only [List.map_toArray, List.map_cons, List.map_nil]); first | done | rfl) ?_
    refine CL.out.mono ?_
    rintro e w5 ⟨vx, rfl, ho, hb⟩
    refine ⟨_, rfl, ?_⟩
    have h15 := blk_below (blk_drew H1.out) hb
    refine hK.out _ _ ((blk_cell h15 0).trans rfl) (fun hHeld => ?_)
    clear hK K
    refine norm_ (a' := ?_) ?_ ?_
    rotate_left
    · show Act.put _ (some 12) _ = _
      simp only [Act.put, List.setIfInBounds_toArray, List.set_cons_zero, List.set_cons_succ]
      rfl
    obtain ⟨Ax, cx, rfl, hlx, hcx⟩ := Kd.R_reads ho
    refine one_ (i := 3) (N := some 13) #[true, true, true, true, false, false] rfl rfl (by kernel_rfl) (by decide) (fun K hK => ?_)
    rw [if_pos (by rfl)]
    go_simp
    refine hK.out _ _ ((blk_cell (blk_alloc h15 _) 0).trans rfl) (fun hHeld => ?_)
    clear hK K
    have hsz' := HSZ.out
    rw [hxl] at ho
    have hxR : Kd.R (Kd.int .i64) 3 w5 (w2.heap.size + 7) (fun k => some k ≠ (.slice Av pre.length cv : Value).ownBlock) (.slice Ax n cx) x :=
      Kd.R_lower (Kd.R_mono (Kd.R_bound ho) (fun k hk e => by have h1 := Kd.R_lt H3.out k e.symm; have h2 := hk.2.1; omega)) (by omega)
    have hbW : Below (w2.heap.size + 7) W w5 := ((below_drew1 (Below.refl W.heap.size W)).trans hb).mono (by omega)
    refine one_ (i := 4) (N := some 14) #[true, true, true, true, true, false] rfl rfl (by kernel_rfl) (by decide) (fun K hK => ?_)
    refine Kd.R_append_step (Kd.slice 3 (Kd.int .i64)) (w0 := W) (W := w5) (w2.heap.size + 7) rfl (.tmp 10) (.tmp 13) 51 24 (.slice none 0 0) 24 rfl Try.underlying51 info24 rfl (by decide) (by omega) (.slice Av pre.length cv) pre x [.slice Ax n cx] (fun _ => True) (fun k => some k ≠ (.slice Av pre.length cv : Value).ownBlock) rfl rfl ⟨_, rfl, hxR⟩ (fun k hk => ⟨trivial, hk⟩) (fun _ _ => trivial)
      (Kd.R_below (Kd.R_drew H3.out) hb) hbW (by have := hb.size; simp at this; omega) (by omega) ?_
    intro v1 w6 hR6 hb6 hg6 hat6
    obtain ⟨A6, c6, rfl, hl6, hc6⟩ := Kd.R_reads hR6
    rw [show (pre ++ [x]).length = pre.length + 1 by simp] at hR6
    have h16 : w6.heap[w.heap.size + 1]? = some (.cells #[.slice Av pre.length cv] 51 (0, 0)) := (hb6.block _ (by omega)).trans H1.out
    refine hK.out _ _ ((blk_cell h16 0).trans rfl) (fun hHeld => ?_)
    clear hK K
    have hf6 := blk_frozen h16 0
    refine last_ (i := 5) (N := none) #[true, true, true, true, true, true] rfl rfl (by kernel_rfl) (by decide) (fun K hK => ?_)
    rw [if_pos (by rfl)]
    go_simp
    refine hK.out _ _ ?_
    refine done_ (by kernel_rfl) ?_
    refine ⟨⟨⟨_, blk_put h16 0 _ rfl, ?_⟩, ?_⟩, ?_⟩
    · exact Kd.R_mono (Kd.R_move (Kd.R_bound hR6) (fun k hk => Below.heap_setCell _ _ _ k (by have := hk.2.1; show k ≠ w.heap.size + 1; omega))) (fun _ _ => trivial)
    · exact (H2.out.trans (hb6.mono (by omega))).setCell (p := ⟨w.heap.size + 1, 0, none⟩) (by show w.heap.size ≤ w.heap.size + 1; omega) _
    · exact KeepM.setCell ⟨hb6.os, hb6.tape, hb6.output, hb6.size, fun k hk _ => hb6.block k hk⟩ _ _ (.inl rfl)
  case done =>
    rintro W ⟨⟨v, h1, h3⟩, h2⟩ hK
    obtain ⟨Av, cv, rfl, hlv, hcv⟩ := Kd.R_reads h3
    have hc := (blk_cell h1 0).trans rfl
    have hf := blk_frozen h1 0
    have H3 := Aside0.mk h3
    clear h3 hcv
    gi_wp2
    obtain ⟨W', hW'⟩ : ∃ W', W' = W.setCell ⟨w.heap.size + 1, 0, none⟩ (.slice Av (readingsL s n l1).length cv) := ⟨_, rfl⟩
    have hK2 : W'.heap[w2.heap.size]? = some (.deferred (some [])) := by rw [hW']; exact (Below.heap_setCell W _ _ _ (by show w2.heap.size ≠ w.heap.size + 1; omega)).trans hK
    have h4 : W'.heap[w.heap.size + 1]? = some (.cells #[.slice Av (readingsL s n l1).length cv] 51 (0, 0)) := by rw [hW']; exact blk_put h1 0 _ rfl
    have hR4 : Kd.R (Kd.slice 3 (Kd.int .i64)) 24 W' (w2.heap.size + 7) (fun _ => True) (.slice Av (readingsL s n l1).length cv) (readingsL s n l1) := by
      rw [hW']; exact Kd.R_mono (Kd.R_move (Kd.R_bound H3.out) (fun k hk => Below.heap_setCell _ _ _ k (by have := hk.2.1; show k ≠ w.heap.size + 1; omega))) (fun _ _ => trivial)
    have hB4 : Below w.heap.size w W' := by rw [hW']; exact h2.setCell (p := ⟨w.heap.size + 1, 0, none⟩) (by show w.heap.size ≤ w.heap.size + 1; omega) _
    rw [← hW']
    refine ⟨by simp, .inl ⟨_, _, rfl, run_takeDeferred hK2, ?_⟩⟩
    have h5 : (W'.putObj w2.heap.size (.deferred none)).heap[w.heap.size + 1]? = some (.cells #[.slice Av (readingsL s n l1).length cv] 51 (0, 0)) := (World.putObj_heap_other (by omega)).trans h4
    have hc5 := (blk_cell h5 0).trans rfl
    refine ⟨.slice Av (readingsL s n l1).length cv, ?_, _, rfl, ?_, ?_⟩
    · simp [results, Try.f79, go_sem, hc5]
    · exact Kd.R_lower (Kd.R_mono (Kd.R_move (Kd.R_bound hR4) (fun k hk => World.putObj_heap_other (by have := hk.2.1; omega))) (fun _ _ => trivial)) (by omega)
    · exact below_of_apart hB4 ((Apart.refl w.heap.size (w2.heap.size + 1) _).putObj _ _ (by omega) (by omega)) (Nat.le_refl _) hB4.size
  case stop => exact fun _ _ _ _ _ h _ => h.elim
end Go.Proofs.Ytimkchehdaadeaa.P
