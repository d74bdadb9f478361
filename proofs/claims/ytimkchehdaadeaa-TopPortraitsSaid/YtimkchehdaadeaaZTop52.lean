/- Part 52 of a proof: the statement TopPortraits: for every input its law returns true (its texts without what nothing here names). -/
import Derived.Test.YtimkchehdaadeaaZTop25
import Derived.Test.YtimkchehdaadeaaZTop31
import Derived.Test.YtimkchehdaadeaaZTop36
import Derived.Test.YtimkchehdaadeaaZTop37

namespace Go.Proofs.Ytimkchehdaadeaa.P
open Go.RowKit Go.Shelf Go.Pad Go.Proofs.YtimkchehdaadeaaW.PrintWords Go.Proofs.YtimkchehdaadeaaW.PrintLast Go.Proofs.YtimkchehdaadeaaW.PrintMore
attribute [local go_sem] Oper.semAt_some
set_option linter.unusedVariables false
set_option linter.unusedSimpArgs false
def readS (W S : Int) (l : List S36) (most : Int) : List (List Int) × Int :=
  if checkCluesS W S l = 0 then (if inRange 1 64 most = true then ((readingsL S.toNat W.toNat l).take most.toNat, 0) else ([], 1)) else ([], checkCluesS W S l)
theorem fin36 (w : World) (v : Value) (c : Int) (W : World) (h2 : W.heap[w.heap.size + 1 + 1]? = some (.cells #[v] 51 (0, 0))) (tmps : Array Value) (e6 : tmps[6]?.getD undef = .pointer (some ⟨w.heap.size + 1 + 1, 0, none⟩)) (e7 : tmps[7]?.getD undef = .int .i64 c) {R : Ending → World → Prop} (hR : R (.returned (.tuple #[v, .int .i64 c])) W) :
    LeavesInM Fence.wide 5 Try.prog Try.f36 tmps R [] .returning W := by
  have c2 := (blk_cell h2 0).trans rfl
  refine ⟨.tuple #[v, .int .i64 c], ?_, hR⟩
  simp [results, Try.f36, go_sem, e6, e7, c2]
set_option maxHeartbeats 8000000 in
set_option maxRecDepth 100000 in
theorem codes_Readings.calls (a0_0 : Int) (a0_1 : Int) (A1 : Option Addr) (c1 : Nat) (l1 : List S36) (a2 : Int) (r1 : List (List Int)) (r2 : Int) (w : World) (hr1 : Kd.C k36 w A1 l1.length l1) (hc1 : l1.length ≤ c1) (h : readS a0_0 a0_1 l1 a2 = (r1, r2)) :
    Calls Try.prog 36 #[.agg #[.int .i64 a0_0, .int .i64 a0_1], .slice A1 l1.length c1, .int .i64 a2] w fun e w' => ∃ v : Value, e = .returned (.tuple #[v, .int .i64 r2]) ∧ Kd.R (Kd.slice 3 (Kd.int .i64)) 24 w' w.heap.size (fun _ => True) v r1 ∧ Below w.heap.size w w' := by
  have hu23 := Try.underlying23
  obtain ⟨w5, hw5⟩ : ∃ w5, w5 = ((w.alloc (.cells #[.int .i64 a0_0, .int .i64 a0_1] 23)).alloc (.cells #[.int .i64 a2] 3)).alloc (.cells #[.slice none 0 0] 51) := ⟨_, rfl⟩
  have hB5 : Below w.heap.size w w5 := by rw [hw5]; exact (((Below.refl _ w).alloc (Nat.le_refl _) _).alloc (by simp) _).alloc (by simp; omega) _
  have k0 : w5.heap[w.heap.size]? = some (.cells #[.int .i64 a0_0, .int .i64 a0_1] 23 (0, 0)) := by
    rw [hw5]; exact blk_alloc (blk_alloc (blk_new w _) _) _
  have k1 : w5.heap[w.heap.size + 1]? = some (.cells #[.int .i64 a2] 3 (0, 0)) := by
    rw [hw5]; refine blk_alloc ?_ _
    have := blk_new (w.alloc (.cells #[.int .i64 a0_0, .int .i64 a0_1] 23)) (.cells #[.int .i64 a2] 3); rwa [World.size_alloc] at this
  have k2 : w5.heap[w.heap.size + 1 + 1]? = some (.cells #[.slice none 0 0] 51 (0, 0)) := by
    rw [hw5]
    have := blk_new ((w.alloc (.cells #[.int .i64 a0_0, .int .i64 a0_1] 23)).alloc (.cells #[.int .i64 a2] 3)) (.cells #[.slice none 0 0] 51); rwa [World.size_alloc, World.size_alloc] at this
  have hws5 : w.heap.size + 3 ≤ w5.heap.size := by rw [hw5]; simp
  have HW5 := Aside0.mk hw5
  have HB5 := Aside0.mk hB5
  have K0 := Aside0.mk k0
  have K1 := Aside0.mk k1
  have K2 := Aside0.mk k2
  have C62 := Aside0.mk (codes_checkClues.calls a0_0 a0_1 A1 c1 l1 _ w5 (Kd.C_below hr1 hB5) hc1 (checkClues_eq a0_0 a0_1 l1))
  have C66 := Aside0.mk fun w6 => codes_within.calls a2 1 64 _ w6 (within_eq a2 1 64)
  have HR1 := Aside0.mk hr1
  have H := h
  clear hw5 hB5 k0 k1 k2 hr1 h
  unfold readS at H
  refine (callsIn_wide (n := 5)).1 (callsIn_of_wp_marks Try.func36 rfl trivial ?_ rfl)
  simp only [Try.ntmps36, List.size_toArray, List.length_cons, List.length_nil, Nat.reduceAdd, Nat.reduceSub, Array.replicate_succ, Array.replicate_zero, List.push_toArray, List.append_toArray, List.nil_append, List.cons_append]
  by_cases he : checkCluesS a0_0 a0_1 l1 = 0
  case neg =>
    rw [if_neg he] at H
    have hne : (checkCluesS a0_0 a0_1 l1 != 0) = true := bne_iff_ne.mpr he
    obtain ⟨e1, he1⟩ : ∃ e1, e1 = checkCluesS a0_0 a0_1 l1 := ⟨_, rfl⟩
    rw [← he1] at H C62 hne
    clear he he1
    simp only [Prod.mk.injEq] at H
    obtain ⟨rfl, rfl⟩ := H
    gi_wp2_with (first | (refine ⟨trivial, ?_⟩; gi_at_call 62; rw [← HW5.out]; refine (callsIn_wide.2 C62.out).mono ?_; rintro e w6 ⟨rfl, h6⟩; have k26 := blk_below K2.out h6; have c2 := (blk_cell k26 0).trans rfl; have f2 := blk_frozen k26 0))
    exact fin36 w _ _ _ (blk_put k26 0 _ rfl) _ rfl rfl ⟨_, rfl, Kd.R_nil _ _ _ _ _, (below_then HB5.out HB5.out.size h6).setCell (p := ⟨w.heap.size + 1 + 1, 0, none⟩) (by show w.heap.size ≤ w.heap.size + 1 + 1; omega) _⟩
  obtain ⟨hl, hm, hv⟩ := checkClues_ok he
  rw [if_pos he] at H
  rw [he] at C62
  by_cases hmo : inRange 1 64 a2 = true
  case neg =>
    rw [if_neg hmo] at H
    rw [Bool.eq_false_iff.mpr hmo] at C66
    clear he hl hv
    simp only [Prod.mk.injEq] at H
    obtain ⟨rfl, rfl⟩ := H
    gi_wp2_with (first
      | (refine ⟨trivial, ?_⟩; gi_at_call 62; rw [← HW5.out]; refine (callsIn_wide.2 C62.out).mono ?_; rintro e w6 ⟨rfl, h6⟩; have k26 := blk_below K2.out h6; have c1_ := (blk_cell (blk_below K1.out h6) 0).trans rfl; have HB6 := Aside0.mk (below_then HB5.out HB5.out.size h6); clear h6)
      | (refine ⟨trivial, ?_⟩; gi_at_call 66; refine (callsIn_wide.2 (C66.out _)).mono ?_; rintro e w7 ⟨rfl, ⟨⟨m7, rfl⟩⟩⟩; have k27 := blk_drewN k26 m7; have c2 := (blk_cell k27 0).trans rfl; have f2 := blk_frozen k27 0))
    exact fin36 w _ _ _ (blk_put k27 0 _ rfl) _ rfl rfl ⟨_, rfl, Kd.R_nil _ _ _ _ _, (pw_below_drewN HB6.out m7).setCell (p := ⟨w.heap.size + 1 + 1, 0, none⟩) (by show w.heap.size ≤ w.heap.size + 1 + 1; omega) _⟩
  rw [if_pos hmo] at H
  rw [hmo] at C66
  obtain ⟨hm1, hm2⟩ := inRange_iff.1 hmo
  clear hmo
  obtain ⟨n, s, rfl, rfl, hn1, hn4, hs2, hs10⟩ := lock_nat hl
  have HOK := Aside0.mk (ok_all hl hv)
  simp only [Int.toNat_natCast] at H
  have HH := Aside0.mk H
  clear H hl hv he
  gi_wp2_with (first
      | (refine ⟨trivial, ?_⟩; gi_at_call 62; rw [← HW5.out]; refine (callsIn_wide.2 C62.out).mono ?_; rintro e w6 ⟨rfl, h6⟩; have HB6 := Aside0.mk (below_then HB5.out HB5.out.size h6); have k06 := Aside0.mk (blk_below K0.out h6); have k16 := Aside0.mk (blk_below K1.out h6); have k26 := Aside0.mk (blk_below K2.out h6); have c1_ := (blk_cell k16.out 0).trans rfl; have z6 := h6.size; clear h6)
      | (refine ⟨trivial, ?_⟩; gi_at_call 66; refine (callsIn_wide.2 (C66.out _)).mono ?_; rintro e w7 ⟨rfl, ⟨⟨m7, rfl⟩⟩⟩; have k07 := Aside0.mk (blk_drewN k06.out m7); have k17 := Aside0.mk (blk_drewN k16.out m7); have k27 := Aside0.mk (blk_drewN k26.out m7); have HB7 := Aside0.mk (pw_below_drewN HB6.out m7); obtain ⟨d0, d1⟩ := cells2 k07.out)
      | (refine ⟨trivial, ?_⟩; gi_at_call 72; refine (callsIn_wide.2 (codes_readings.calls _ _ _ rfl _)).mono ?_; rintro e w1 ⟨rfl, rfl⟩))
  obtain ⟨w9, hw9⟩ : ∃ w9, w9 = ((w6.drewN m7).alloc (.cells #[.int .i64 n, .int .i64 s] 83)).alloc (.cells #[.slice A1 l1.length c1] 31) := ⟨_, rfl⟩
  have hz9 : w6.heap.size + 2 ≤ w9.heap.size := by rw [hw9]; simp
  have hl9 : w9.heap[w6.heap.size]? = some (.cells #[.int .i64 n, .int .i64 s] 83 (0, 0)) := by rw [hw9]; exact blk_alloc (blk_new (w6.drewN m7) _) _
  have hc9 : w9.heap[w6.heap.size + 1]? = some (.cells #[.slice A1 l1.length c1] 31 (0, 0)) := by
    rw [hw9]; have := blk_new ((w6.drewN m7).alloc (.cells #[.int .i64 n, .int .i64 s] 83)) (.cells #[.slice A1 l1.length c1] 31); rwa [World.size_alloc] at this
  have k19 : w9.heap[w.heap.size + 1]? = some (.cells #[.int .i64 a2] 3 (0, 0)) := by rw [hw9]; exact blk_alloc (blk_alloc k17.out _) _
  have k29 : w9.heap[w.heap.size + 1 + 1]? = some (.cells #[.slice none 0 0] 51 (0, 0)) := by rw [hw9]; exact blk_alloc (blk_alloc k27.out _) _
  have hB9 : Below w.heap.size w w9 := by rw [hw9]; exact (HB7.out.alloc HB7.out.size _).alloc (by have := HB7.out.size; simp at this ⊢; omega) _
  have hws : w.heap.size + 3 ≤ w6.heap.size := by omega
  rw [← hw9]
  clear hw9
  refine wpIn_iter (k := 5) (M := fun b => b = w.heap.size + 1 + 1) (gf := 100) (lb := #[.pointer (some ⟨w6.heap.size, 0, none⟩), .pointer (some ⟨w6.heap.size + 1, 0, none⟩)]) rfl (enters_of Try.func100 (by kernel_rfl) rfl)
    (readings_hit n s hn4 ⟨hs2, hs10⟩ l1 A1 c1 _ _ _ w w9 hl9 hc9 HR1.out hc1 hB9 (fun b h => by omega) (fun b h => by omega) (by omega) (by omega) HOK.out)
    (fun b h => by omega) (fun _ => rfl) (fun x A B h hab => lent_apart h hab (by omega))
    (fun pre W => (pre.length : Int) < a2 ∧ W.heap[w.heap.size + 1]? = some (.cells #[.int .i64 a2] 3 (0, 0)) ∧ (∃ v, W.heap[w.heap.size + 1 + 1]? = some (.cells #[v] 51 (0, 0)) ∧ Kd.R (Kd.slice 3 (Kd.int .i64)) 24 W (w9.heap.size + 7) (fun _ => True) v pre) ∧ Below w.heap.size w W)
    (fun c pre W => c = .exit 0 ∧ (pre.length : Int) = a2 ∧ (∃ v, W.heap[w.heap.size + 1 + 1]? = some (.cells #[v] 51 (0, 0)) ∧ Kd.R (Kd.slice 3 (Kd.int .i64)) 24 W (w9.heap.size + 7) (fun _ => True) v pre) ∧ Below w.heap.size w W) ?hI ?hIx ⟨by show (0 : Int) < a2; omega, k19, ⟨_, k29, Kd.R_nil _ _ _ _ _⟩, hB9⟩
    (fun x => { tmps := #[.agg #[.int .i64 n, .int .i64 s], .slice A1 l1.length c1, .int .i64 a2, .pointer (some ⟨w.heap.size, 0, none⟩), undef, .pointer (some ⟨w.heap.size + 1, 0, none⟩), .pointer (some ⟨w.heap.size + 1 + 1, 0, none⟩), .int .i64 0, .int .i64 0, .slice (some ⟨w9.heap.size + 6, 0, none⟩) n n, .agg #[.int .i64 n, .int .i64 s], .slice A1 l1.length c1, .int .i64 0, .int .i64 0, .bool false, undef, .int .i64 a2, .bool true, .bool false, .agg #[.int .i64 n, .int .i64 s], .slice A1 l1.length c1, .func (.func 100) #[] #[.pointer (some ⟨w6.heap.size, 0, none⟩), .pointer (some ⟨w6.heap.size + 1, 0, none⟩)], .slice (some ⟨w9.heap.size + 6, 0, none⟩) n n, undef, undef, undef, undef, undef, undef, undef, undef, undef, undef], defers := [] }) ?assign ?body ?done ?stop
  case hI =>
    rintro pre A B ⟨h0, h4, ⟨v, h1, h3⟩, h2⟩ hab
    exact ⟨h0, (hab.block _ (blk_lt h4) (.inl (by omega))).trans h4, ⟨v, (hab.block _ (blk_lt h1) (.inl (by omega))).trans h1, Kd.R_mono (Kd.R_move (Kd.R_bound h3) (fun k hk => hab.block k hk.2.2.1 (.inr (by omega)))) (fun _ _ => trivial)⟩, below_of_apart h2 hab (by omega) h2.size⟩
  case hIx =>
    rintro c pre A B ⟨h0, h4, ⟨v, h1, h3⟩, h2⟩ hab
    exact ⟨h0, h4, ⟨v, (hab.block _ (blk_lt h1) (.inl (by omega))).trans h1, Kd.R_mono (Kd.R_move (Kd.R_bound h3) (fun k hk => hab.block k hk.2.2.1 (.inr (by omega)))) (fun _ _ => trivial)⟩, below_of_apart h2 hab (by omega) h2.size⟩
  case assign =>
    intro l' x W K hK
    gi_wp2
    exact hK
  case body =>
    rintro l' pre x W hpre ⟨h0, h4, ⟨v, h1, h3⟩, h2⟩ hx hsz
    obtain ⟨Av, cv, rfl, hlv, hcv⟩ := Kd.R_reads h3
    have hmem : x ∈ allCodes s n := (List.mem_filter.1 (hpre.subset (by simp) : x ∈ readingsL s n l1)).1
    have hxl : x.length = n := by
      have := (isCodeB_iff.1 (allCodes_isCode (by omega) hmem)).1; omega
    have hcl : Calls Try.prog 73 #[.slice (some ⟨w9.heap.size + 6, 0, none⟩) n n] W.drew fun e w' => ∃ v : Value, e = .returned v ∧ Kd.R (Kd.int .i64) 3 w' W.heap.size (fun _ => True) v x ∧ Below W.heap.size W.drew w' := by
      have := slices_Clone_int_int.calls (some ⟨w9.heap.size + 6, 0, none⟩) n x x W.drew (Kd.C_drew (lent_C hx (by omega))) (by omega) (by unfold slices_Clone_int_int.f; rw [if_pos (by omega)])
      rwa [hxl] at this
    have HX := Aside0.mk hx
    have HSZ := Aside0.mk hsz
    have H1 := Aside0.mk h1
    have H2 := Aside0.mk h2
    have H3 := Aside0.mk h3
    have H4 := Aside0.mk h4
    have CL := Aside0.mk hcl
    clear hcl hx hsz h2 h3 hcv h4
    gi_wp2
    refine startR_ (n := 6) (S := fun w' => w'.cell? ⟨w.heap.size + 1 + 1, 0, none⟩ = some (.slice Av pre.length cv)) (ds := [5]) #[false, false, false, false, false, false] (by kernel_rfl) rfl rfl (noDefer_spec (by kernel_rfl)) (by rintro ⟨a, w, h⟩; exact h) ((blk_cell (blk_drew H1.out) 0).trans rfl) (fun hHeld => ?_)
    refine pure_ (i := 1) (N := some 24) (v := ?_) (a' := ?_) #[false, true, false, false, false, false] rfl rfl (by kernel_rfl) (fun _ _ _ h => h) (Or.inl ⟨by rfl, ?_⟩) ?_ ?_
    rotate_left
    · intro w'
      go_simp
      with_reducible rfl
    rotate_left
    · simp only [Act.put, List.setIfInBounds_toArray, List.set_cons_zero, List.set_cons_succ]
      rfl
    refine take_ (i := 0) (N := some 23) (v := ?_) (a' := ?_) #[true, true, false, false, false, false] rfl rfl (by kernel_rfl) (fun _ _ _ h => h) (Or.inl ⟨by rfl, ?_⟩) hHeld ?_ ?_
    rotate_left
    · rintro w' s0
      go_simp
      with_reducible rfl
    rotate_left
    · simp only [Act.put, List.setIfInBounds_toArray, List.set_cons_zero, List.set_cons_succ]
      rfl
    refine one_ (i := 2) (N := some 25) #[true, true, true, false, false, false] rfl rfl (by kernel_rfl) (by decide) (fun K hK => ?_)
    refine goes_ Try.func73 (by kernel_rfl) rfl #[.slice (some ⟨w9.heap.size + 6, 0, none⟩) n n] (by rfl) rfl rfl (by (try simp only [List.map_toArray, List.map_cons, List.map_nil]); first | done | rfl) ?_
    refine CL.out.mono ?_
    rintro e w5 ⟨vx, rfl, ho, hb⟩
    refine ⟨_, rfl, ?_⟩
    have h15 := blk_below (blk_drew H1.out) hb
    refine hK.out _ _ ((blk_cell h15 0).trans rfl) (fun hHeld => ?_)
    clear hK K
    refine norm_ (a' := ?_) ?_ ?_
    rotate_left
    · show Act.put _ (some 25) _ = _
      simp only [Act.put, List.setIfInBounds_toArray, List.set_cons_zero, List.set_cons_succ]
      rfl
    obtain ⟨Ax, cx, rfl, hlx, hcx⟩ := Kd.R_reads ho
    refine one_ (i := 3) (N := some 26) #[true, true, true, true, false, false] rfl rfl (by kernel_rfl) (by decide) (fun K hK => ?_)
    rw [if_pos (by rfl)]
    go_simp
    refine hK.out _ _ ((blk_cell (blk_alloc h15 _) 0).trans rfl) (fun hHeld => ?_)
    clear hK K
    have hsz' := HSZ.out
    rw [hxl] at ho
    have hxR : Kd.R (Kd.int .i64) 3 w5 (w9.heap.size + 7) (fun k => some k ≠ (.slice Av pre.length cv : Value).ownBlock) (.slice Ax n cx) x :=
      Kd.R_lower (Kd.R_mono (Kd.R_bound ho) (fun k hk e => by have h1 := Kd.R_lt H3.out k e.symm; have h2 := hk.2.1; omega)) (by omega)
    have hbW : Below (w9.heap.size + 7) W w5 := ((below_drew1 (Below.refl W.heap.size W)).trans hb).mono (by omega)
    refine one_ (i := 4) (N := some 27) #[true, true, true, true, true, false] rfl rfl (by kernel_rfl) (by decide) (fun K hK => ?_)
    refine Kd.R_append_step (Kd.slice 3 (Kd.int .i64)) (w0 := W) (W := w5) (w9.heap.size + 7) rfl (.tmp 23) (.tmp 26) 51 24 (.slice none 0 0) 24 rfl Try.underlying51 info24 rfl (by decide) (by omega) (.slice Av pre.length cv) pre x [.slice Ax n cx] (fun _ => True) (fun k => some k ≠ (.slice Av pre.length cv : Value).ownBlock) rfl rfl ⟨_, rfl, hxR⟩ (fun k hk => ⟨trivial, hk⟩) (fun _ _ => trivial)
      (Kd.R_below (Kd.R_drew H3.out) hb) hbW (by have := hb.size; simp at this; omega) (by omega) ?_
    intro v1 w66 hR6 hb6 hg6 hat6
    obtain ⟨A6, c6, rfl, hl6, hc6⟩ := Kd.R_reads hR6
    rw [show (pre ++ [x]).length = pre.length + 1 by simp] at hR6
    have h16 : w66.heap[w.heap.size + 1 + 1]? = some (.cells #[.slice Av pre.length cv] 51 (0, 0)) := (hb6.block _ (by omega)).trans H1.out
    refine hK.out _ _ ((blk_cell h16 0).trans rfl) (fun hHeld => ?_)
    clear hK K
    have hf6 := blk_frozen h16 0
    refine last_ (i := 5) (N := none) #[true, true, true, true, true, true] rfl rfl (by kernel_rfl) (by decide) (fun K hK => ?_)
    rw [if_pos (by rfl)]
    go_simp
    refine hK.out _ _ ?_
    refine done_ (by kernel_rfl) ?_
    have k14 : (w66.setCell ⟨w.heap.size + 1 + 1, 0, none⟩ (.slice A6 (pre.length + 1) c6)).heap[w.heap.size + 1]? = some (.cells #[.int .i64 a2] 3 (0, 0)) := blk_far ((hb6.block _ (by omega)).trans H4.out) (by show w.heap.size + 1 ≠ w.heap.size + 1 + 1; omega) _
    have hout := blk_put h16 0 (.slice A6 (pre.length + 1) c6) rfl
    have hRn : Kd.R (Kd.slice 3 (Kd.int .i64)) 24 (w66.setCell ⟨w.heap.size + 1 + 1, 0, none⟩ (.slice A6 (pre.length + 1) c6)) (w9.heap.size + 7) (fun _ => True) (.slice A6 (pre.length + 1) c6) (pre ++ [x]) := Kd.R_mono (Kd.R_move (Kd.R_bound hR6) (fun k hk => Below.heap_setCell _ _ _ k (by have := hk.2.1; show k ≠ w.heap.size + 1 + 1; omega))) (fun _ _ => trivial)
    have hBn := (H2.out.trans (hb6.mono (show w.heap.size ≤ w9.heap.size + 7 by omega))).setCell (p := ⟨w.heap.size + 1 + 1, 0, none⟩) (by show w.heap.size ≤ w.heap.size + 1 + 1; omega) (.slice A6 (pre.length + 1) c6)
    have hKn : ∀ M : Nat → Prop, M (w.heap.size + 1 + 1) → KeepM (w9.heap.size + 7) M W (w66.setCell ⟨w.heap.size + 1 + 1, 0, none⟩ (.slice A6 (pre.length + 1) c6)) := fun M hM => KeepM.setCell ⟨hb6.os, hb6.tape, hb6.output, hb6.size, fun k hk _ => hb6.block k hk⟩ _ _ (.inl hM)
    obtain ⟨W', hW'⟩ : ∃ W', W' = w66.setCell ⟨w.heap.size + 1 + 1, 0, none⟩ (.slice A6 (pre.length + 1) c6) := ⟨_, rfl⟩
    rw [← hW'] at hout k14 hRn hBn hKn ⊢
    have hco := (blk_cell hout 0).trans rfl
    have hcm := (blk_cell k14 0).trans rfl
    have HRN := Aside0.mk hRn
    have HOUT := Aside0.mk hout
    have K14 := Aside0.mk k14
    have HBN := Aside0.mk hBn
    have HKN := Aside0.mk hKn
    clear hW' hRn hout k14 hBn hKn
    by_cases hq : (pre.length : Int) + 1 = a2
    · have hqb : ((pre.length : Int) + 1 == a2) = true := beq_iff_eq.mpr hq
      have HQ := Aside0.mk hq
      clear hq
      gi_wp2
      exact ⟨⟨rfl, by rw [List.length_append]; exact HQ.out, ⟨_, HOUT.out, HRN.out⟩, HBN.out⟩, (HKN.out (fun b => b < w9.heap.size) (by omega)).mono (by omega) (fun _ h => h)⟩
    · have hqb : ((pre.length : Int) + 1 == a2) = false := beq_eq_false_iff_ne.mpr hq
      have HQ := Aside0.mk hq
      clear hq
      gi_wp2
      refine ⟨⟨?_, K14.out, ⟨_, HOUT.out, HRN.out⟩, HBN.out⟩, (HKN.out (fun b => b = w.heap.size + 1 + 1) rfl).mono (by omega) (fun _ h => h)⟩
      have := HQ.out
      rw [List.length_append, List.length_singleton]; omega
  case done =>
    rintro W ⟨h0, h4_, ⟨v, h1, h3⟩, h2⟩ hK
    have HE := HH.out
    rw [List.take_of_length_le (by omega)] at HE
    simp only [Prod.mk.injEq] at HE
    obtain ⟨rfl, rfl⟩ := HE
    obtain ⟨Av, cv, rfl, hlv, hcv⟩ := Kd.R_reads h3
    have hc := (blk_cell h1 0).trans rfl
    have hf := blk_frozen h1 0
    have H3 := Aside0.mk h3
    clear h3 hcv
    gi_wp2
    obtain ⟨W', hW'⟩ : ∃ W', W' = W.setCell ⟨w.heap.size + 1 + 1, 0, none⟩ (.slice Av (readingsL s n l1).length cv) := ⟨_, rfl⟩
    have hK2 : W'.heap[w9.heap.size]? = some (.deferred (some [])) := by rw [hW']; exact (Below.heap_setCell W _ _ _ (by show w9.heap.size ≠ w.heap.size + 1 + 1; omega)).trans hK
    have h4 : W'.heap[w.heap.size + 1 + 1]? = some (.cells #[.slice Av (readingsL s n l1).length cv] 51 (0, 0)) := by rw [hW']; exact blk_put h1 0 _ rfl
    have hR4 : Kd.R (Kd.slice 3 (Kd.int .i64)) 24 W' (w9.heap.size + 7) (fun _ => True) (.slice Av (readingsL s n l1).length cv) (readingsL s n l1) := by
      rw [hW']; exact Kd.R_mono (Kd.R_move (Kd.R_bound H3.out) (fun k hk => Below.heap_setCell _ _ _ k (by have := hk.2.1; show k ≠ w.heap.size + 1 + 1; omega))) (fun _ _ => trivial)
    have hB4 : Below w.heap.size w W' := by rw [hW']; exact h2.setCell (p := ⟨w.heap.size + 1 + 1, 0, none⟩) (by show w.heap.size ≤ w.heap.size + 1 + 1; omega) _
    rw [← hW']
    refine ⟨by simp, .inl ⟨_, _, rfl, run_takeDeferred hK2, ?_⟩⟩
    refine fin36 w _ _ _ ((World.putObj_heap_other (by omega)).trans h4) _ rfl rfl ⟨_, rfl, ?_, ?_⟩
    · exact Kd.R_lower (Kd.R_mono (Kd.R_move (Kd.R_bound hR4) (fun k hk => World.putObj_heap_other (by have := hk.2.1; omega))) (fun _ _ => trivial)) (by omega)
    · exact below_of_apart hB4 ((Apart.refl w.heap.size (w9.heap.size + 1) _).putObj _ _ (by omega) (by omega)) (Nat.le_refl _) hB4.size
  case stop =>
    rintro c pre W hne hpre ⟨rfl, h0, ⟨v, h1, h3⟩, h2⟩ hK
    have HE := HH.out
    rw [show (readingsL s n l1).take a2.toNat = pre by
      obtain ⟨post, hp⟩ := hpre
      rw [← hp, show a2.toNat = pre.length by omega, List.take_left]] at HE
    simp only [Prod.mk.injEq] at HE
    obtain ⟨rfl, rfl⟩ := HE
    obtain ⟨Av, cv, rfl, hlv, hcv⟩ := Kd.R_reads h3
    have hc := (blk_cell h1 0).trans rfl
    have hf := blk_frozen h1 0
    have H3 := Aside0.mk h3
    clear h3 hcv
    gi_wp2
    obtain ⟨W', hW'⟩ : ∃ W', W' = W.setCell ⟨w.heap.size + 1 + 1, 0, none⟩ (.slice Av (pre).length cv) := ⟨_, rfl⟩
    have hK2 : W'.heap[w9.heap.size]? = some (.deferred (some [])) := by rw [hW']; exact (Below.heap_setCell W _ _ _ (by show w9.heap.size ≠ w.heap.size + 1 + 1; omega)).trans hK
    have h4 : W'.heap[w.heap.size + 1 + 1]? = some (.cells #[.slice Av (pre).length cv] 51 (0, 0)) := by rw [hW']; exact blk_put h1 0 _ rfl
    have hR4 : Kd.R (Kd.slice 3 (Kd.int .i64)) 24 W' (w9.heap.size + 7) (fun _ => True) (.slice Av (pre).length cv) (pre) := by
      rw [hW']; exact Kd.R_mono (Kd.R_move (Kd.R_bound H3.out) (fun k hk => Below.heap_setCell _ _ _ k (by have := hk.2.1; show k ≠ w.heap.size + 1 + 1; omega))) (fun _ _ => trivial)
    have hB4 : Below w.heap.size w W' := by rw [hW']; exact h2.setCell (p := ⟨w.heap.size + 1 + 1, 0, none⟩) (by show w.heap.size ≤ w.heap.size + 1 + 1; omega) _
    rw [← hW']
    refine ⟨by simp, .inl ⟨_, _, rfl, run_takeDeferred hK2, ?_⟩⟩
    refine fin36 w _ _ _ ((World.putObj_heap_other (by omega)).trans h4) _ rfl rfl ⟨_, rfl, ?_, ?_⟩
    · exact Kd.R_lower (Kd.R_mono (Kd.R_move (Kd.R_bound hR4) (fun k hk => World.putObj_heap_other (by have := hk.2.1; omega))) (fun _ _ => trivial)) (by omega)
    · exact below_of_apart hB4 ((Apart.refl w.heap.size (w9.heap.size + 1) _).putObj _ _ (by omega) (by omega)) (Nat.le_refl _) hB4.size
end Go.Proofs.Ytimkchehdaadeaa.P
