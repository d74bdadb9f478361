/- Part 44 of a proof: the statement CodesDecoys: for every input its law returns true (its texts without what nothing here names). -/
import Derived.Test.YtimkchehdaadeaaZDecoys26
import Derived.Test.YtimkchehdaadeaaZDecoys31
import Derived.Test.YtimkchehdaadeaaZDecoys37
import Derived.Test.YtimkchehdaadeaaZDecoys38
import Derived.Test.YtimkchehdaadeaaZDecoys41
import Derived.Test.YtimkchehdaadeaaZDecoys43

section
namespace Go.Proofs.Ytimkchehdaadeaa.P
open Go.RowKit Go.Proofs.YtimkchehdaadeaaW.PrintWords Go.Proofs.YtimkchehdaadeaaW.PrintLast Go.Proofs.YtimkchehdaadeaaW.PrintMore
set_option linter.unusedVariables false
set_option linter.unusedSimpArgs false
def castL (l : List Nat) : List Int := l.map fun i : Nat => (i : Int)
def pick (l : List S36) (L : List Nat) : List S36 := L.map fun i : Nat => rd_T36 l (i : Int)
theorem castL_len (l : List Nat) : (castL l).length = l.length := by simp [castL]
theorem castL_snoc (l : List Nat) (x : Nat) : castL (l ++ [x]) = castL l ++ [(x : Int)] := by simp [castL]
theorem castL_rd (l : List Nat) (i : Nat) (h : i < l.length) : rd (castL l) (i : Int) = (l[i] : Int) := by
  rw [rd_get _ i (by rw [castL_len]; exact h)]; simp [castL]
section
variable {n s : Nat} (hl : okLock (n : Int) (s : Int)) {l : List S36} (hv : l.all (validC (n : Int) (s : Int)) = true) (hm : l.length ≤ 20)
include hl hv hm
end
end Go.Proofs.Ytimkchehdaadeaa.P
end
section
namespace Go.Proofs.Ytimkchehdaadeaa.P
open Go.RowKit Go.Proofs.YtimkchehdaadeaaW.PrintWords Go.Proofs.YtimkchehdaadeaaW.PrintLast Go.Proofs.YtimkchehdaadeaaW.PrintMore
set_option linter.unusedVariables false
set_option linter.unusedSimpArgs false
set_option linter.unusedSectionVars false
theorem pick_all (l : List S36) : pick l (List.range l.length) = l := by
  unfold pick
  apply List.ext_getElem?
  intro k
  rw [List.getElem?_map]
  by_cases hk : k < l.length
  · rw [List.getElem?_range hk]
    simp [rd_T36, List.getD_eq_getElem?_getD, hk]
  · simp [hk]
theorem pick_few (l : List S36) (Yn : List Nat) (i r : Nat) : (pick l (Yn ++ List.range' i (r + 1))).eraseIdx (castL Yn).length = pick l (Yn ++ List.range' (i + 1) r) := by
  unfold pick
  rw [List.map_append, List.map_append, castL_len, List.eraseIdx_append_of_length_le (by simp), List.range'_succ]
  simp
section
variable {n s : Nat} (hl : okLock (n : Int) (s : Int)) {l : List S36} (hm : l.length ≤ 20)
include hl hm
end
end Go.Proofs.Ytimkchehdaadeaa.P
end
section
namespace Go.Proofs.Ytimkchehdaadeaa.P
open Go.RowKit Go.Shelf Go.Pad Go.Proofs.YtimkchehdaadeaaW.PrintWords Go.Proofs.YtimkchehdaadeaaW.PrintLast Go.Proofs.YtimkchehdaadeaaW.PrintMore
attribute [local go_sem] Oper.semAt_some
set_option linter.unusedVariables false
set_option linter.unusedSimpArgs false
def impliesS (W S : Int) (l : List S36) (q : S36) : List Int × Bool × Int :=
  if checkCluesS W S l = 0 then (if checkClueS W S q = 0 then (match (readingsL S.toNat W.toNat l).find? (fun c => !holdsC q c) with
    | some c => (c, false, 0)
    | none => ([], true, 0)) else ([], false, checkClueS W S q)) else ([], false, checkCluesS W S l)
def codes_Implies.f (W S : Int) (l : List S36) (k A B N M : Int) (G : List Int) (nt : Bool) : Option (List Int × Bool × Int) := some (impliesS W S l ⟨k, A, B, N, M, G, nt⟩)
theorem fin3a (w : World) (a b c : Value) (W : World) (h2' : W.heap[w.heap.size + 1 + 1]? = some (.cells #[a] 24 (0, 0))) (h3' : W.heap[w.heap.size + 1 + 1 + 1]? = some (.cells #[b] 4 (0, 0))) (h4' : W.heap[w.heap.size + 1 + 1 + 1 + 1]? = some (.cells #[c] 25 (0, 0)))
    (tmps : Array Value) (e6 : tmps[6]?.getD undef = .pointer (some ⟨w.heap.size + 1 + 1, 0, none⟩)) (e7 : tmps[7]?.getD undef = .pointer (some ⟨w.heap.size + 1 + 1 + 1, 0, none⟩)) (e8 : tmps[8]?.getD undef = .pointer (some ⟨w.heap.size + 1 + 1 + 1 + 1, 0, none⟩)) {R : Ending → World → Prop}
    (hR : R (.returned (.tuple #[a, b, c])) W) : LeavesInM Fence.wide 5 Try.prog Try.f32 tmps R [] .returning W := by
  have c2 := (blk_cell h2' 0).trans rfl
  have c3 := (blk_cell h3' 0).trans rfl
  have c4 := (blk_cell h4' 0).trans rfl
  refine ⟨.tuple #[a, b, c], ?_, hR⟩
  simp [results, Try.f32, go_sem, e6, e7, e8, c2, c3, c4]
theorem put3 (w : World) (a b c : Value) (W : World) {a0 b0 c0 : Value} (h2 : W.heap[w.heap.size + 1 + 1]? = some (.cells #[a0] 24 (0, 0))) (h3 : W.heap[w.heap.size + 1 + 1 + 1]? = some (.cells #[b0] 4 (0, 0))) (h4 : W.heap[w.heap.size + 1 + 1 + 1 + 1]? = some (.cells #[c0] 25 (0, 0))) (hB : Below w.heap.size w W) :
    ∃ W', W' = (((W.setCell ⟨w.heap.size + 1 + 1, 0, none⟩ a).setCell ⟨w.heap.size + 1 + 1 + 1, 0, none⟩ b).setCell ⟨w.heap.size + 1 + 1 + 1 + 1, 0, none⟩ c) ∧ W'.heap[w.heap.size + 1 + 1]? = some (.cells #[a] 24 (0, 0)) ∧ W'.heap[w.heap.size + 1 + 1 + 1]? = some (.cells #[b] 4 (0, 0)) ∧ W'.heap[w.heap.size + 1 + 1 + 1 + 1]? = some (.cells #[c] 25 (0, 0)) ∧ Below w.heap.size w W' ∧ (∀ k, w.heap.size + 5 ≤ k → W'.heap[k]? = W.heap[k]?) ∧ W'.heap.size = W.heap.size ∧ W'.os = W.os ∧ W'.tape = W.tape ∧ W'.output = W.output := by
  refine ⟨_, rfl, ?_, ?_, ?_, ?_, ?_, by simp [World.setCell], rfl, rfl, rfl⟩
  · exact blk_far (p := ⟨w.heap.size + 1 + 1 + 1 + 1, 0, none⟩) (blk_far (p := ⟨w.heap.size + 1 + 1 + 1, 0, none⟩) (blk_put h2 0 a rfl) (by show w.heap.size + 1 + 1 ≠ w.heap.size + 1 + 1 + 1; omega) b) (by show w.heap.size + 1 + 1 ≠ w.heap.size + 1 + 1 + 1 + 1; omega) c
  · exact blk_far (p := ⟨w.heap.size + 1 + 1 + 1 + 1, 0, none⟩) (blk_put (blk_far (p := ⟨w.heap.size + 1 + 1, 0, none⟩) h3 (by show w.heap.size + 1 + 1 + 1 ≠ w.heap.size + 1 + 1; omega) a) 0 b rfl) (by show w.heap.size + 1 + 1 + 1 ≠ w.heap.size + 1 + 1 + 1 + 1; omega) c
  · exact blk_put (blk_far (p := ⟨w.heap.size + 1 + 1 + 1, 0, none⟩) (blk_far (p := ⟨w.heap.size + 1 + 1, 0, none⟩) h4 (by show w.heap.size + 1 + 1 + 1 + 1 ≠ w.heap.size + 1 + 1; omega) a) (by show w.heap.size + 1 + 1 + 1 + 1 ≠ w.heap.size + 1 + 1 + 1; omega) b) 0 c rfl
  · exact ((hB.setCell (p := ⟨w.heap.size + 1 + 1, 0, none⟩) (by show w.heap.size ≤ w.heap.size + 1 + 1; omega) _).setCell (p := ⟨w.heap.size + 1 + 1 + 1, 0, none⟩) (by show w.heap.size ≤ w.heap.size + 1 + 1 + 1; omega) _).setCell (p := ⟨w.heap.size + 1 + 1 + 1 + 1, 0, none⟩) (by show w.heap.size ≤ w.heap.size + 1 + 1 + 1 + 1; omega) _
  · intro k hk
    rw [Below.heap_setCell _ _ _ k (by show k ≠ w.heap.size + 1 + 1 + 1 + 1; omega), Below.heap_setCell _ _ _ k (by show k ≠ w.heap.size + 1 + 1 + 1; omega), Below.heap_setCell _ _ _ k (by show k ≠ w.heap.size + 1 + 1; omega)]
theorem fin3 (w : World) (a b c : Value) (W : World) {a0 b0 c0 : Value} (h2 : W.heap[w.heap.size + 1 + 1]? = some (.cells #[a0] 24 (0, 0))) (h3 : W.heap[w.heap.size + 1 + 1 + 1]? = some (.cells #[b0] 4 (0, 0))) (h4 : W.heap[w.heap.size + 1 + 1 + 1 + 1]? = some (.cells #[c0] 25 (0, 0))) (hB : Below w.heap.size w W)
    (tmps : Array Value) (e6 : tmps[6]?.getD undef = .pointer (some ⟨w.heap.size + 1 + 1, 0, none⟩)) (e7 : tmps[7]?.getD undef = .pointer (some ⟨w.heap.size + 1 + 1 + 1, 0, none⟩)) (e8 : tmps[8]?.getD undef = .pointer (some ⟨w.heap.size + 1 + 1 + 1 + 1, 0, none⟩)) {R : Ending → World → Prop}
    (hR : ∀ W', Below w.heap.size w W' → R (.returned (.tuple #[a, b, c])) W') :
    LeavesInM Fence.wide 5 Try.prog Try.f32 tmps R [] .returning (((W.setCell ⟨w.heap.size + 1 + 1, 0, none⟩ a).setCell ⟨w.heap.size + 1 + 1 + 1, 0, none⟩ b).setCell ⟨w.heap.size + 1 + 1 + 1 + 1, 0, none⟩ c) := by
  obtain ⟨W', rfl, h2', h3', h4', hB', _⟩ := put3 w a b c W h2 h3 h4 hB
  exact fin3a w a b c _ h2' h3' h4' tmps e6 e7 e8 (hR _ hB')
set_option maxHeartbeats 8000000 in
set_option maxRecDepth 100000 in
theorem codes_Implies.calls (a0_0 : Int) (a0_1 : Int) (A1 : Option Addr) (c1 : Nat) (l1 : List S36) (a2_0 a2_1 a2_2 a2_3 a2_4 : Int) (A2_5 : Option Addr) (c2_5 : Nat) (l2_5 : List Int) (a2_6 : Bool) (r1 : List Int) (r2 : Bool) (r3 : Int) (w : World)
    (hr1 : Kd.C k36 w A1 l1.length l1) (hc1 : l1.length ≤ c1) (hr2_5 : Kd.C (Kd.int .i64) w A2_5 l2_5.length l2_5) (hc2_5 : l2_5.length ≤ c2_5) (h : codes_Implies.f a0_0 a0_1 l1 a2_0 a2_1 a2_2 a2_3 a2_4 l2_5 a2_6 = some (r1, r2, r3)) :
    Calls Try.prog 32 #[.agg #[.int .i64 a0_0, .int .i64 a0_1], .slice A1 l1.length c1, .agg #[.int .i64 a2_0, .int .i64 a2_1, .int .i64 a2_2, .int .i64 a2_3, .int .i64 a2_4, .slice A2_5 l2_5.length c2_5, .bool a2_6]] w
      fun e w' => ∃ v0_ : Value, e = .returned (.tuple #[v0_, .bool r2, .int .i64 r3]) ∧ Kd.R (Kd.int .i64) 3 w' w.heap.size (fun _ => True) v0_ r1 ∧ Below w.heap.size w w' := by
  have H := Option.some.inj h
  clear h
  have hu23 := Try.underlying23
  have hu36 := Try.underlying36
  obtain ⟨w5, hw5⟩ : ∃ w5, w5 = ((((w.alloc (.cells #[.int .i64 a0_0, .int .i64 a0_1] 23)).alloc (.cells #[.int .i64 a2_0, .int .i64 a2_1, .int .i64 a2_2, .int .i64 a2_3, .int .i64 a2_4, .slice A2_5 l2_5.length c2_5, .bool a2_6] 36)).alloc (.cells #[.slice none 0 0] 24)).alloc (.cells #[.bool false] 4)).alloc (.cells #[.int .i64 0] 25) := ⟨_, rfl⟩
  have hz5 : w5.heap.size = w.heap.size + 5 := by rw [hw5]; simp
  have hB5 : Below w.heap.size w w5 := by rw [hw5]; exact (((((Below.refl _ w).alloc (Nat.le_refl _) _).alloc (by simp) _).alloc (by simp; omega) _).alloc (by simp; omega) _).alloc (by simp; omega) _
  have k0 : w5.heap[w.heap.size]? = some (.cells #[.int .i64 a0_0, .int .i64 a0_1] 23 (0, 0)) := by
    rw [hw5]; exact blk_alloc (blk_alloc (blk_alloc (blk_alloc (blk_new w _) _) _) _) _
  have k1 : w5.heap[w.heap.size + 1]? = some (.cells #[.int .i64 a2_0, .int .i64 a2_1, .int .i64 a2_2, .int .i64 a2_3, .int .i64 a2_4, .slice A2_5 l2_5.length c2_5, .bool a2_6] 36 (0, 0)) := by
    rw [hw5]; refine blk_alloc (blk_alloc (blk_alloc ?_ _) _) _
    have := blk_new (w.alloc (.cells #[.int .i64 a0_0, .int .i64 a0_1] 23)) (.cells #[.int .i64 a2_0, .int .i64 a2_1, .int .i64 a2_2, .int .i64 a2_3, .int .i64 a2_4, .slice A2_5 l2_5.length c2_5, .bool a2_6] 36); rwa [World.size_alloc] at this
  have k2 : w5.heap[w.heap.size + 1 + 1]? = some (.cells #[.slice none 0 0] 24 (0, 0)) := by
    rw [hw5]; refine blk_alloc (blk_alloc ?_ _) _
    have := blk_new ((w.alloc (.cells #[.int .i64 a0_0, .int .i64 a0_1] 23)).alloc (.cells #[.int .i64 a2_0, .int .i64 a2_1, .int .i64 a2_2, .int .i64 a2_3, .int .i64 a2_4, .slice A2_5 l2_5.length c2_5, .bool a2_6] 36)) (.cells #[.slice none 0 0] 24); rwa [World.size_alloc, World.size_alloc] at this
  have k3 : w5.heap[w.heap.size + 1 + 1 + 1]? = some (.cells #[.bool false] 4 (0, 0)) := by
    rw [hw5]; refine blk_alloc ?_ _
    have := blk_new (((w.alloc (.cells #[.int .i64 a0_0, .int .i64 a0_1] 23)).alloc (.cells #[.int .i64 a2_0, .int .i64 a2_1, .int .i64 a2_2, .int .i64 a2_3, .int .i64 a2_4, .slice A2_5 l2_5.length c2_5, .bool a2_6] 36)).alloc (.cells #[.slice none 0 0] 24)) (.cells #[.bool false] 4); rwa [World.size_alloc, World.size_alloc, World.size_alloc] at this
  have k4 : w5.heap[w.heap.size + 1 + 1 + 1 + 1]? = some (.cells #[.int .i64 0] 25 (0, 0)) := by
    rw [hw5]
    have := blk_new ((((w.alloc (.cells #[.int .i64 a0_0, .int .i64 a0_1] 23)).alloc (.cells #[.int .i64 a2_0, .int .i64 a2_1, .int .i64 a2_2, .int .i64 a2_3, .int .i64 a2_4, .slice A2_5 l2_5.length c2_5, .bool a2_6] 36)).alloc (.cells #[.slice none 0 0] 24)).alloc (.cells #[.bool false] 4)) (.cells #[.int .i64 0] 25); rwa [World.size_alloc, World.size_alloc, World.size_alloc, World.size_alloc] at this
  have HW5 := Aside0.mk hw5
  have HB5 := Aside0.mk hB5
  have K0 := Aside0.mk k0
  have K1 := Aside0.mk k1
  have K2 := Aside0.mk k2
  have K3 := Aside0.mk k3
  have K4 := Aside0.mk k4
  have C62 := Aside0.mk (codes_checkClues.calls a0_0 a0_1 A1 c1 l1 _ w5 (Kd.C_below hr1 hB5) hc1 (checkClues_eq a0_0 a0_1 l1))
  have C26 := Aside0.mk fun w6 (h6 : Below w.heap.size w w6) => codes_CheckClue.calls a0_0 a0_1 a2_0 a2_1 a2_2 a2_3 a2_4 A2_5 c2_5 l2_5 a2_6 _ w6 (Kd.C_below hr2_5 h6) hc2_5 (CheckClue_eq a0_0 a0_1 ⟨a2_0, a2_1, a2_2, a2_3, a2_4, l2_5, a2_6⟩)
  have HR1 := Aside0.mk hr1
  have HR2 := Aside0.mk hr2_5
  clear hw5 hB5 k0 k1 k2 k3 k4 hr1 hr2_5
  unfold impliesS at H
  refine (callsIn_wide (n := 5)).1 (callsIn_of_wp_marks Try.func32 rfl trivial ?_ rfl)
  simp only [Try.ntmps32, List.size_toArray, List.length_cons, List.length_nil, Nat.reduceAdd, Nat.reduceSub, Array.replicate_succ, Array.replicate_zero, List.push_toArray, List.append_toArray, List.nil_append, List.cons_append]
  by_cases he : checkCluesS a0_0 a0_1 l1 = 0
  case neg =>
    rw [if_neg he] at H
    have hne : (checkCluesS a0_0 a0_1 l1 != 0) = true := bne_iff_ne.mpr he
    obtain ⟨e1, he1⟩ : ∃ e1, e1 = checkCluesS a0_0 a0_1 l1 := ⟨_, rfl⟩
    rw [← he1] at H C62 hne
    clear he he1
    simp only [Prod.mk.injEq] at H
    obtain ⟨rfl, rfl, rfl⟩ := H
    gi_wp2_with (first | (refine ⟨trivial, ?_⟩; gi_at_call 62; rw [← HW5.out]; refine (callsIn_wide.2 C62.out).mono ?_; rintro e w6 ⟨rfl, h6⟩; have k26 := blk_below K2.out h6; have k36_ := blk_below K3.out h6; have k46 := blk_below K4.out h6; have c2 := (blk_cell k26 0).trans rfl; have f2 := blk_frozen k26 0; have c3 := (blk_cell k36_ 0).trans rfl; have f3 := blk_frozen k36_ 0; have c4 := (blk_cell k46 0).trans rfl; have f4 := blk_frozen k46 0))
    exact fin3 w (.slice none 0 0) (.bool false) (.int .i64 e1) w6 (blk_below K2.out h6) (blk_below K3.out h6) (blk_below K4.out h6) (below_then HB5.out HB5.out.size h6) _ rfl rfl rfl (fun W' hW => ⟨_, rfl, Kd.R_nil _ _ _ _ _, hW⟩)
  obtain ⟨hl, hm, hv⟩ := checkClues_ok he
  rw [if_pos he] at H
  rw [he] at C62
  by_cases he2 : checkClueS a0_0 a0_1 ⟨a2_0, a2_1, a2_2, a2_3, a2_4, l2_5, a2_6⟩ = 0
  case neg =>
    rw [if_neg he2] at H
    have hne : (checkClueS a0_0 a0_1 ⟨a2_0, a2_1, a2_2, a2_3, a2_4, l2_5, a2_6⟩ != 0) = true := bne_iff_ne.mpr he2
    obtain ⟨e1, he1⟩ : ∃ e1, e1 = checkClueS a0_0 a0_1 ⟨a2_0, a2_1, a2_2, a2_3, a2_4, l2_5, a2_6⟩ := ⟨_, rfl⟩
    rw [← he1] at H C26 hne
    clear he he1 he2 hl hv
    simp only [Prod.mk.injEq] at H
    obtain ⟨rfl, rfl, rfl⟩ := H
    gi_wp2_with (first
      | (refine ⟨trivial, ?_⟩; gi_at_call 62; rw [← HW5.out]; refine (callsIn_wide.2 C62.out).mono ?_; rintro e w6 ⟨rfl, h6⟩; have HB6 := Aside0.mk (below_then HB5.out HB5.out.size h6); have k06 := blk_below K0.out h6; have k16 := blk_below K1.out h6; obtain ⟨a0, a1⟩ := cells2 k06; obtain ⟨b0, b1, b2, b3, b4, b5, b6⟩ := cells7 k16; have k26 := Aside0.mk (blk_below K2.out h6); have k36_ := Aside0.mk (blk_below K3.out h6); have k46 := Aside0.mk (blk_below K4.out h6))
      | (refine ⟨trivial, ?_⟩; gi_at_call 26; refine (callsIn_wide.2 (C26.out _ HB6.out)).mono ?_; rintro e w7 ⟨rfl, h7⟩; have k27 := blk_below k26.out h7; have k37 := blk_below k36_.out h7; have k47 := blk_below k46.out h7; have c2 := (blk_cell k27 0).trans rfl; have f2 := blk_frozen k27 0; have c3 := (blk_cell k37 0).trans rfl; have f3 := blk_frozen k37 0; have c4 := (blk_cell k47 0).trans rfl; have f4 := blk_frozen k47 0))
    exact fin3 w (.slice none 0 0) (.bool false) (.int .i64 e1) w7 k27 k37 k47 (below_then HB6.out HB6.out.size h7) _ rfl rfl rfl (fun W' hW => ⟨_, rfl, Kd.R_nil _ _ _ _ _, hW⟩)
  rw [if_pos he2] at H
  rw [he2] at C26
  have hvq : validC a0_0 a0_1 ⟨a2_0, a2_1, a2_2, a2_3, a2_4, l2_5, a2_6⟩ = true := by
    unfold checkClueS at he2
    rw [if_pos hl] at he2
    by_cases e : validC a0_0 a0_1 ⟨a2_0, a2_1, a2_2, a2_3, a2_4, l2_5, a2_6⟩ = true
    · exact e
    · rw [if_neg e] at he2; omega
  obtain ⟨q, hq⟩ : ∃ q : S36, q = ⟨a2_0, a2_1, a2_2, a2_3, a2_4, l2_5, a2_6⟩ := ⟨_, rfl⟩
  rw [← hq] at H hvq
  have CH := Aside0.mk fun A c x w1 (h1 : Kd.C (Kd.int .i64) w1 A x.length x) (hx : x.length ≤ c) (hb : Below w.heap.size w w1) (ho : okC q x) => codes_holds.calls a2_0 a2_1 a2_2 a2_3 a2_4 A2_5 c2_5 l2_5 a2_6 A c x (holdsC q x) w1 (Kd.C_below HR2.out hb) hc2_5 h1 hx (by have := holds_eq q x ho; rw [hq] at this; rw [hq]; exact this)
  clear hq he he2
  obtain ⟨n, s, rfl, rfl, hn1, hn4, hs2, hs10⟩ := lock_nat hl
  have HOK := Aside0.mk (ok_all hl hv)
  have HOQ := Aside0.mk fun c (hc : c ∈ allCodes s n) => okC_of_valid hl hvq (allCodes_isCode (show 0 < s by omega) hc)
  simp only [Int.toNat_natCast] at H
  have HH := Aside0.mk H
  clear H hl hv hvq
  gi_wp2_with (first
      | (refine ⟨trivial, ?_⟩; gi_at_call 62; rw [← HW5.out]; refine (callsIn_wide.2 C62.out).mono ?_; rintro e w6 ⟨rfl, h6⟩; have HB6 := Aside0.mk (below_then HB5.out HB5.out.size h6); have k06 := Aside0.mk (blk_below K0.out h6); have k16 := Aside0.mk (blk_below K1.out h6); obtain ⟨a0, a1⟩ := cells2 k06.out; obtain ⟨b0, b1, b2, b3, b4, b5, b6⟩ := cells7 k16.out; have k26 := Aside0.mk (blk_below K2.out h6); have k36_ := Aside0.mk (blk_below K3.out h6); have k46 := Aside0.mk (blk_below K4.out h6); have z6 := h6.size; clear h6)
      | (refine ⟨trivial, ?_⟩; gi_at_call 26; refine (callsIn_wide.2 (C26.out _ HB6.out)).mono ?_; rintro e w7 ⟨rfl, h7⟩; have HB7 := Aside0.mk (below_then HB6.out HB6.out.size h7); have k07 := Aside0.mk (blk_below k06.out h7); have k17 := Aside0.mk (blk_below k16.out h7); have k27 := Aside0.mk (blk_below k26.out h7); have k37 := Aside0.mk (blk_below k36_.out h7); have k47 := Aside0.mk (blk_below k46.out h7); obtain ⟨d0, d1⟩ := cells2 k07.out; have z7 := h7.size; clear h7)
      | (refine ⟨trivial, ?_⟩; gi_at_call 72; refine (callsIn_wide.2 (codes_readings.calls _ _ _ rfl _)).mono ?_; rintro e w1 ⟨rfl, rfl⟩))
  obtain ⟨w9, hw9⟩ : ∃ w9, w9 = (w7.alloc (.cells #[.int .i64 n, .int .i64 s] 83)).alloc (.cells #[.slice A1 l1.length c1] 31) := ⟨_, rfl⟩
  have hz9 : w7.heap.size + 2 ≤ w9.heap.size := by rw [hw9]; simp
  have hl9 : w9.heap[w7.heap.size]? = some (.cells #[.int .i64 n, .int .i64 s] 83 (0, 0)) := by rw [hw9]; exact blk_alloc (blk_new w7 _) _
  have hc9 : w9.heap[w7.heap.size + 1]? = some (.cells #[.slice A1 l1.length c1] 31 (0, 0)) := by
    rw [hw9]; have := blk_new (w7.alloc (.cells #[.int .i64 n, .int .i64 s] 83)) (.cells #[.slice A1 l1.length c1] 31); rwa [World.size_alloc] at this
  have k19 : Aside0 (w9.heap[w.heap.size + 1]? = some (.cells #[.int .i64 a2_0, .int .i64 a2_1, .int .i64 a2_2, .int .i64 a2_3, .int .i64 a2_4, .slice A2_5 l2_5.length c2_5, .bool a2_6] 36 (0, 0))) := ⟨by rw [hw9]; exact blk_alloc (blk_alloc k17.out _) _⟩
  have k29 : Aside0 (w9.heap[w.heap.size + 1 + 1]? = some (.cells #[.slice none 0 0] 24 (0, 0))) := ⟨by rw [hw9]; exact blk_alloc (blk_alloc k27.out _) _⟩
  have k39 : Aside0 (w9.heap[w.heap.size + 1 + 1 + 1]? = some (.cells #[.bool false] 4 (0, 0))) := ⟨by rw [hw9]; exact blk_alloc (blk_alloc k37.out _) _⟩
  have k49 : Aside0 (w9.heap[w.heap.size + 1 + 1 + 1 + 1]? = some (.cells #[.int .i64 0] 25 (0, 0))) := ⟨by rw [hw9]; exact blk_alloc (blk_alloc k47.out _) _⟩
  have hB9 : Below w.heap.size w w9 := by rw [hw9]; exact (HB7.out.alloc HB7.out.size _).alloc (by have := HB7.out.size; simp; omega) _
  have hws : w.heap.size + 5 ≤ w7.heap.size := by omega
  have HB9 := Aside0.mk hB9
  rw [← hw9]
  clear hw9
  refine wpIn_iter (k := 5) (M := fun _ => False) (gf := 100) (lb := #[.pointer (some ⟨w7.heap.size, 0, none⟩), .pointer (some ⟨w7.heap.size + 1, 0, none⟩)]) rfl (enters_of Try.func100 (by kernel_rfl) rfl)
    (readings_hit n s hn4 ⟨hs2, hs10⟩ l1 A1 c1 _ _ (fun _ => False) w w9 hl9 hc9 HR1.out hc1 hB9 (fun b h => h.elim) (fun b h => h.elim) (fun h => h) (fun h => h) HOK.out)
    (fun b h => h.elim) (fun _ => rfl) (fun x A B h hab => lent_apart h hab (by omega))
    (fun pre W => (∀ c ∈ pre, holdsC q c = true) ∧ Below w9.heap.size w9 W)
    (fun c pre W => c = .ret ∧ ∃ pre0 x, pre = pre0 ++ [x] ∧ (∀ c ∈ pre0, holdsC q c = true) ∧ holdsC q x = false ∧ Below w.heap.size w W ∧ (∃ v, W.heap[w.heap.size + 1 + 1]? = some (.cells #[v] 24 (0, 0)) ∧ Kd.R (Kd.int .i64) 3 W (w9.heap.size + 7) (fun _ => True) v x) ∧ W.heap[w.heap.size + 1 + 1 + 1]? = some (.cells #[.bool false] 4 (0, 0)) ∧ W.heap[w.heap.size + 1 + 1 + 1 + 1]? = some (.cells #[.int .i64 0] 25 (0, 0))) ?hI ?hIx ⟨fun c hc => (by cases hc), Below.refl _ _⟩
    (fun x => { tmps := #[.agg #[.int .i64 n, .int .i64 s], .slice A1 l1.length c1, .agg #[.int .i64 a2_0, .int .i64 a2_1, .int .i64 a2_2, .int .i64 a2_3, .int .i64 a2_4, .slice A2_5 l2_5.length c2_5, .bool a2_6], .pointer (some ⟨w.heap.size, 0, none⟩), undef, .pointer (some ⟨w.heap.size + 1, 0, none⟩), .pointer (some ⟨w.heap.size + 1 + 1, 0, none⟩), .pointer (some ⟨w.heap.size + 1 + 1 + 1, 0, none⟩), .pointer (some ⟨w.heap.size + 1 + 1 + 1 + 1, 0, none⟩), .int .i64 0, .int .i64 0, .slice (some ⟨w9.heap.size + 6, 0, none⟩) n n, .agg #[.int .i64 n, .int .i64 s], .slice A1 l1.length c1, .int .i64 0, .int .i64 0, .bool false, undef, .agg #[.int .i64 n, .int .i64 s], .agg #[.int .i64 a2_0, .int .i64 a2_1, .int .i64 a2_2, .int .i64 a2_3, .int .i64 a2_4, .slice A2_5 l2_5.length c2_5, .bool a2_6], .int .i64 0, .int .i64 0, .bool false, undef, .agg #[.int .i64 n, .int .i64 s], .slice A1 l1.length c1, .func (.func 100) #[] #[.pointer (some ⟨w7.heap.size, 0, none⟩), .pointer (some ⟨w7.heap.size + 1, 0, none⟩)], .slice (some ⟨w9.heap.size + 6, 0, none⟩) n n, undef, undef, undef, undef, undef, undef], defers := [] }) ?assign ?body ?done ?stop
  case hI =>
    rintro pre A B ⟨h1, h2⟩ hab
    exact ⟨h1, below_of_apart h2 hab (Nat.le_refl _) h2.size⟩
  case hIx =>
    rintro c pre A B ⟨h1, pre0, x, h2, h3, h4, h5, ⟨v, h6, h7⟩, h8, h9⟩ hab
    refine ⟨h1, pre0, x, h2, h3, h4, below_of_apart h5 hab (by omega) h5.size, ⟨v, (hab.block _ (blk_lt h6) (.inl (by omega))).trans h6, ?_⟩, (hab.block _ (blk_lt h8) (.inl (by omega))).trans h8, (hab.block _ (blk_lt h9) (.inl (by omega))).trans h9⟩
    exact Kd.R_mono (Kd.R_move (Kd.R_bound h7) (fun k hk => hab.block k hk.2.2.1 (.inr (by omega)))) (fun _ _ => trivial)
  case assign =>
    intro l' x W K hK
    gi_wp2
    exact hK
  case body =>
    rintro l' pre x W hpre ⟨h1, h2⟩ hx hsz
    have hmem0 : x ∈ readingsL s n l1 := hpre.subset (by simp)
    have hmem : x ∈ allCodes s n := (List.mem_filter.1 hmem0).1
    have hxl : x.length = n := by
      have := (isCodeB_iff.1 (allCodes_isCode (by omega) hmem)).1; omega
    have hB2 : Below w.heap.size w W := HB9.out.trans (h2.mono HB9.out.size)
    have hh := CH.out (some ⟨w9.heap.size + 6, 0, none⟩) n x W (lent_C hx (by omega)) (by omega) hB2 (HOQ.out x hmem)
    rw [hxl] at hh
    have HHH := Aside0.mk hh
    have hcl : ∀ w10, Below W.heap.size W w10 → Calls Try.prog 73 #[.slice (some ⟨w9.heap.size + 6, 0, none⟩) n n] w10 fun e w' => ∃ v : Value, e = .returned v ∧ Kd.R (Kd.int .i64) 3 w' w10.heap.size (fun _ => True) v x ∧ Below w10.heap.size w10 w' := fun w10 hb => by
      have := slices_Clone_int_int.calls (some ⟨w9.heap.size + 6, 0, none⟩) n x x w10 (lent_C (blk_below hx hb) (by omega)) (by omega) (by unfold slices_Clone_int_int.f; rw [if_pos (by omega)])
      rwa [hxl] at this
    have CL := Aside0.mk hcl
    have hk1 := blk_below k19.out h2
    obtain ⟨b0, b1, b2, b3, b4, b5, b6⟩ := cells7 hk1
    have H1 := Aside0.mk h1
    have H2 := Aside0.mk h2
    have HB2 := Aside0.mk hB2
    have HX := Aside0.mk hx
    have HSZ := Aside0.mk hsz
    clear hh hk1 h1 h2 hx hsz hB2 hcl
    by_cases hq : holdsC q x = true
    · rw [hq] at HHH
      gi_wp2_with (first | (refine ⟨trivial, rfl, ?_⟩; gi_at_call 70; refine (CallsIn.inRound l' (callsIn_wide.2 HHH.out)).mono ?_; rintro e w10 ⟨rfl, hb10⟩; have hb11 := Aside0.mk hb10; clear hb10))
      refine ⟨⟨fun c hc => ?_, H2.out.trans (hb11.out.mono H2.out.size)⟩, (KeepM.refl _ _ W).of_below hb11.out HSZ.out⟩
      rcases List.mem_append.1 hc with h | h
      · exact H1.out c h
      · rw [List.mem_singleton.1 h]; exact hq
    · have hq' : holdsC q x = false := by simpa using hq
      rw [hq'] at HHH
      gi_wp2_with (first | (refine ⟨trivial, rfl, ?_⟩; gi_at_call 70; refine (CallsIn.inRound l' (callsIn_wide.2 HHH.out)).mono ?_; rintro e w10 ⟨rfl, hb10⟩; have hb11 := Aside0.mk hb10; clear hb10) | (refine ⟨trivial, rfl, ?_⟩; gi_at_call 73; refine (CallsIn.inRound l' (callsIn_wide.2 (CL.out _ hb11.out))).mono ?_; rintro e w11 ⟨v, rfl, ho, hb12⟩; obtain ⟨Av, cv, rfl, hlv, hcv⟩ := Kd.R_reads ho; rw [hxl] at ho; have HO := Aside0.mk ho; have HB12 := Aside0.mk (below_then (B := W.heap.size) hb11.out hb11.out.size hb12); have k2x := blk_below k29.out (H2.out.trans (HB12.out.mono H2.out.size)); have k3x := blk_below k39.out (H2.out.trans (HB12.out.mono H2.out.size)); have k4x := blk_below k49.out (H2.out.trans (HB12.out.mono H2.out.size)); have c2 := (blk_cell k2x 0).trans rfl; have f2 := blk_frozen k2x 0; have c3 := (blk_cell k3x 0).trans rfl; have f3 := blk_frozen k3x 0; have c4 := (blk_cell k4x 0).trans rfl; have f4 := blk_frozen k4x 0; clear ho hcv hb12))
      obtain ⟨W', hW', q2, q3, q4, qB, qk, qz, q5, q6, q7⟩ := put3 w (.slice Av n cv) (.bool false) (.int .i64 0) w11 k2x k3x k4x (HB2.out.trans (HB12.out.mono HB2.out.size))
      rw [← hW']
      have hsz' := HSZ.out
      have hb1s := hb11.out.size
      refine ⟨⟨rfl, pre, x, rfl, H1.out, hq', qB, ⟨_, q2, Kd.R_lower (Kd.R_mono (Kd.R_move (Kd.R_bound HO.out) (fun k hk => qk k (by have := hk.2.1; omega))) (fun _ _ => trivial)) (by omega)⟩, q3, q4⟩, ?_⟩
      exact ⟨q5.trans HB12.out.os, q6.trans HB12.out.tape, q7.trans HB12.out.output, by rw [qz]; exact HB12.out.size, fun k hk1 hk2 => (qk k (by omega)).trans (HB12.out.block k (by omega))⟩
  case done =>
    rintro W ⟨h1, h2⟩ hK
    have k2x := blk_below k29.out h2
    have k3x := blk_below k39.out h2
    have k4x := blk_below k49.out h2
    have c2 := (blk_cell k2x 0).trans rfl
    have f2 := blk_frozen k2x 0
    have c3 := (blk_cell k3x 0).trans rfl
    have f3 := blk_frozen k3x 0
    have c4 := (blk_cell k4x 0).trans rfl
    have f4 := blk_frozen k4x 0
    have H1 := Aside0.mk h1
    have H2 := Aside0.mk h2
    clear h1 h2
    gi_wp2
    obtain ⟨W', hW', q2, q3, q4, qB, qk, qz, q5, q6, q7⟩ := put3 w (.slice none 0 0) (.bool true) (.int .i64 0) W k2x k3x k4x (HB9.out.trans (H2.out.mono HB9.out.size))
    rw [← hW']
    have hK2 : W'.heap[w9.heap.size]? = some (.deferred (some [])) := (qk _ (by omega)).trans hK
    refine ⟨by simp, .inl ⟨_, _, rfl, run_takeDeferred hK2, ?_⟩⟩
    have hnone : (readingsL s n l1).find? (fun c => !holdsC q c) = none := List.find?_eq_none.2 fun c hc => by simp [H1.out c hc]
    have HE := HH.out
    rw [hnone] at HE
    simp only [Prod.mk.injEq] at HE
    obtain ⟨rfl, rfl, rfl⟩ := HE
    refine fin3a w (.slice none 0 0) (.bool true) (.int .i64 0) _ ((World.putObj_heap_other (by omega)).trans q2) ((World.putObj_heap_other (by omega)).trans q3) ((World.putObj_heap_other (by omega)).trans q4) _ rfl rfl rfl ⟨_, rfl, Kd.R_nil _ _ _ _ _, ?_⟩
    exact below_of_apart qB ((Apart.refl w.heap.size (w9.heap.size + 1) _).putObj _ _ (by omega) (by omega)) (Nat.le_refl _) qB.size
  case stop =>
    rintro c pre W hne hpre ⟨rfl, pre0, x, h2, h3, h4, h5, ⟨v, h6, h7⟩, h8, h9⟩ hK
    gi_wp2
    refine ⟨by simp, .inl ⟨_, _, rfl, run_takeDeferred hK, ?_⟩⟩
    have hsome : (readingsL s n l1).find? (fun c => !holdsC q c) = some x := by
      obtain ⟨post, hpost⟩ := hpre
      rw [← hpost, h2, List.append_assoc, List.find?_append, List.find?_eq_none.2 (fun c hc => by simp [h3 c hc])]
      simp [h4]
    have HE := HH.out
    rw [hsome] at HE
    simp only [Prod.mk.injEq] at HE
    obtain ⟨rfl, rfl, rfl⟩ := HE
    have hz5' := h5.size
    refine fin3a w v (.bool false) (.int .i64 0) _ ((World.putObj_heap_other (by omega)).trans h6) ((World.putObj_heap_other (by omega)).trans h8) ((World.putObj_heap_other (by omega)).trans h9) _ rfl rfl rfl ⟨_, rfl, ?_, ?_⟩
    · exact Kd.R_lower (Kd.R_mono (Kd.R_move (Kd.R_bound h7) (fun k hk => World.putObj_heap_other (by have := hk.2.1; omega))) (fun _ _ => trivial)) (by omega)
    · exact below_of_apart h5 ((Apart.refl w.heap.size (w9.heap.size + 1) _).putObj _ _ (by omega) (by omega)) (Nat.le_refl _) h5.size
end Go.Proofs.Ytimkchehdaadeaa.P
end
section
namespace Go.Proofs.Ytimkchehdaadeaa.P
open Go.RowKit Go.Proofs.YtimkchehdaadeaaW.PrintWords Go.Proofs.YtimkchehdaadeaaW.PrintLast Go.Proofs.YtimkchehdaadeaaW.PrintMore
set_option linter.unusedVariables false
set_option linter.unusedSimpArgs false
set_option linter.unusedSectionVars false
theorem fitsAll_iff {l : List S36} {c : List Int} : fitsAll l c = true ↔ ∀ q ∈ l, holdsC q c = true := by
  unfold fitsAll
  rw [Bool.not_eq_true', List.any_eq_false]
  simp
theorem readings_sub {s n : Nat} {l' l : List S36} (h : ∀ q ∈ l', q ∈ l) : (readingsL s n l).length ≤ (readingsL s n l').length := by
  unfold readingsL
  rw [← List.countP_eq_length_filter, ← List.countP_eq_length_filter]
  exact List.countP_mono_left fun c _ hc => fitsAll_iff.2 fun q hq => fitsAll_iff.1 hc q (h q hq)
theorem pick_mem {l : List S36} {L' L : List Nat} (h : ∀ j ∈ L', j ∈ L) : ∀ q ∈ pick l L', q ∈ pick l L := fun q hq => by
  obtain ⟨j, hj, rfl⟩ := List.mem_map.1 hq
  exact List.mem_map.2 ⟨j, h j hj, rfl⟩
theorem core_inv (s n : Nat) (l : List S36) : ∀ m, m ≤ l.length → (readingsL s n (coreTo s n l m).1).length = (readingsL s n l).length ∧ ∃ Yn : List Nat, (coreTo s n l m).2 = castL Yn ∧ Yn.Pairwise (· < ·) ∧ (∀ y ∈ Yn, y < m) ∧ (coreTo s n l m).1 = pick l (Yn ++ List.range' m (l.length - m)) ∧
    ∀ j, j < Yn.length → (readingsL s n l).length < (readingsL s n (pick l ((Yn ++ List.range' m (l.length - m)).eraseIdx j))).length
  | 0, _ => ⟨rfl, [], rfl, List.Pairwise.nil, (fun y hy => by cases hy), by rw [List.nil_append, Nat.sub_zero, ← List.range_eq_range', pick_all]; rfl, fun j hj => by simp at hj⟩
  | m + 1, h => by
    obtain ⟨h1, Yn, h2, h3, h4, h5, h6⟩ := core_inv s n l m (by omega)
    have hr : List.range' m (l.length - m) = m :: List.range' (m + 1) (l.length - (m + 1)) := by
      rw [show l.length - m = (l.length - (m + 1)) + 1 by omega, List.range'_succ]
    have hpf := pick_few l Yn m (l.length - (m + 1))
    rw [show l.length - (m + 1) + 1 = l.length - m by omega, ← h5, ← h2] at hpf
    have hsuc := coreTo_succ s n l m
    unfold coreStep at hsuc
    rw [hpf] at hsuc
    by_cases hq : (readingsL s n (pick l (Yn ++ List.range' (m + 1) (l.length - (m + 1))))).length = (readingsL s n l).length
    · rw [if_pos hq] at hsuc
      rw [hsuc]
      refine ⟨hq, Yn, h2, h3, fun y hy => by have := h4 y hy; omega, rfl, fun j hj => ?_⟩
      refine Nat.lt_of_lt_of_le (h6 j hj) (readings_sub (pick_mem fun k hk => ?_))
      rw [List.eraseIdx_append_of_lt_length hj] at hk ⊢
      rw [hr]
      rcases List.mem_append.1 hk with h | h
      · exact List.mem_append.2 (.inl h)
      · exact List.mem_append.2 (.inr (List.mem_cons_of_mem _ h))
    · rw [if_neg hq] at hsuc
      rw [hsuc]
      have e : Yn ++ List.range' m (l.length - m) = (Yn ++ [m]) ++ List.range' (m + 1) (l.length - (m + 1)) := by rw [hr, List.append_assoc]; rfl
      refine ⟨h1, Yn ++ [m], by rw [castL_snoc, h2], ?_, ?_, by rw [← e]; exact h5, fun j hj => ?_⟩
      · rw [List.pairwise_append]
        exact ⟨h3, List.pairwise_singleton _ _, fun a ha b hb => by rw [List.mem_singleton.1 hb]; exact h4 a ha⟩
      · intro y hy
        rcases List.mem_append.1 hy with h | h
        · have := h4 y h; omega
        · have := List.mem_singleton.1 h; omega
      · rw [← e]
        rw [List.length_append, List.length_singleton] at hj
        by_cases hjl : j < Yn.length
        · exact h6 j hjl
        · have hje : j = Yn.length := by omega
          subst hje
          have e2 : (Yn ++ List.range' m (l.length - m)).eraseIdx Yn.length = Yn ++ List.range' (m + 1) (l.length - (m + 1)) := by
            rw [List.eraseIdx_append_of_length_le (Nat.le_refl _), Nat.sub_self, hr]; rfl
          rw [e2]
          have hle : (readingsL s n (coreTo s n l m).1).length ≤ (readingsL s n (pick l (Yn ++ List.range' (m + 1) (l.length - (m + 1))))).length := by
            rw [← hpf]
            exact readings_sub fun q hq => List.mem_of_mem_eraseIdx hq
          omega
theorem core_end (s n : Nat) (l : List S36) : ∃ Yn : List Nat, (coreTo s n l l.length).2 = castL Yn ∧ Yn.Pairwise (· < ·) ∧ (∀ y ∈ Yn, y < l.length) ∧ (readingsL s n (pick l Yn)).length = (readingsL s n l).length ∧ ∀ j, j < Yn.length → (readingsL s n l).length < (readingsL s n (pick l (Yn.eraseIdx j))).length := by
  obtain ⟨h1, Yn, h2, h3, h4, h5, h6⟩ := core_inv s n l l.length (Nat.le_refl _)
  rw [Nat.sub_self, show List.range' l.length 0 = [] from rfl, List.append_nil] at h5 h6
  exact ⟨Yn, h2, h3, h4, by rw [← h5]; exact h1, h6⟩
theorem erase_rangeG {α : Type} (z : α) (l : List α) : ∀ (i : Nat), ((List.range l.length).filter fun j => decide (j ≠ i)).map (fun j => l.getD j z) = l.eraseIdx i := by
  induction l with
  | nil => intro i; simp
  | cons x t ih =>
    intro i
    rw [List.length_cons, List.range_succ_eq_map]
    rcases i with _ | i
    · have : (List.map Nat.succ (List.range t.length)).filter (fun j => decide (j ≠ 0)) = List.map Nat.succ (List.range t.length) := by
        rw [List.filter_eq_self]
        intro a ha
        obtain ⟨b, _, rfl⟩ := List.mem_map.1 ha
        simp
      rw [List.filter_cons_of_neg (by simp), this, List.map_map]
      simp only [List.eraseIdx_cons_zero]
      apply List.ext_getElem?
      intro k
      rw [List.getElem?_map]
      by_cases hk : k < t.length
      · rw [List.getElem?_range hk]
        simp [List.getD_eq_getElem?_getD, hk]
      · simp [hk]
    · rw [List.filter_cons_of_pos (by simp), List.filter_map, List.map_cons, List.map_map]
      have h2 := ih i
      simp only [List.eraseIdx_cons_succ]
      rw [← h2]
      congr 1
      · have : (fun j => decide (j ≠ i + 1)) ∘ Nat.succ = fun j => decide (j ≠ i) := by
          funext j; simp
        rw [this]
        apply List.map_congr_left
        intro a _
        simp
def fewTo (L : List Nat) (b : Int) (i : Nat) : List Nat := ((List.range i).filter fun j : Nat => decide ((j : Int) ≠ b)).map fun j => L.getD j 0
theorem fewTo_succ (L : List Nat) (b : Int) (i : Nat) (h : i < L.length) : fewTo L b (i + 1) = if (i : Int) = b then fewTo L b i else fewTo L b i ++ [L[i]] := by
  unfold fewTo
  rw [List.range_succ, List.filter_append, List.map_append]
  by_cases hb : (i : Int) = b <;> simp [List.filter_cons, hb, List.getD_eq_getElem?_getD, h]
theorem fewTo_none (L : List Nat) : fewTo L (-1) L.length = L := by
  unfold fewTo
  have : (List.range L.length).filter (fun j : Nat => decide ((j : Int) ≠ -1)) = List.range L.length := by
    rw [List.filter_eq_self]; intro a _; exact decide_eq_true (by omega)
  rw [this]
  apply List.ext_getElem?
  intro k
  rw [List.getElem?_map]
  by_cases hk : k < L.length
  · rw [List.getElem?_range hk]
    simp [List.getD_eq_getElem?_getD, hk]
  · simp [hk]
theorem fewTo_skip (L : List Nat) (i : Nat) : fewTo L (i : Int) L.length = L.eraseIdx i := by
  rw [← erase_rangeG 0 L i]
  unfold fewTo
  have : (fun j : Nat => decide ((j : Int) ≠ (i : Int))) = fun j => decide (j ≠ i) := by
    funext j; exact decide_eq_decide.2 (by omega)
  rw [this]
theorem idle_split (s n : Nat) (l : List S36) (i : Nat) (h : i ≤ l.length) : idleTo s n l l.length = idleTo s n l i ++ castL ((List.range' i (l.length - i)).filter (idleP s n l)) := by
  unfold idleTo castL
  rw [← List.map_append, ← List.filter_append]
  congr 2
  rw [List.range_eq_range', List.range_eq_range']
  have h2 : List.range' 0 i ++ List.range' (0 + i) (l.length - i) = List.range' 0 (i + (l.length - i)) := List.range'_append_1
  rw [Nat.zero_add, Nat.add_sub_cancel' h] at h2
  exact h2.symm
theorem idle_at (s n : Nat) (l : List S36) (i : Nat) (h : i < l.length) :
    (idleP s n l i = true → ∃ ha : (idleTo s n l i).length < (idleTo s n l l.length).length, (idleTo s n l l.length)[(idleTo s n l i).length] = (i : Int)) ∧ (idleP s n l i = false → ∀ ha : (idleTo s n l i).length < (idleTo s n l l.length).length, (idleTo s n l l.length)[(idleTo s n l i).length] ≠ (i : Int)) := by
  have hs := idle_split s n l i (by omega)
  have hr : List.range' i (l.length - i) = i :: List.range' (i + 1) (l.length - (i + 1)) := by
    rw [show l.length - i = (l.length - (i + 1)) + 1 by omega, List.range'_succ]
  constructor
  · intro hp
    rw [hr, List.filter_cons_of_pos hp] at hs
    have hlen : (idleTo s n l i).length < (idleTo s n l l.length).length := by rw [hs]; simp [castL]
    refine ⟨hlen, ?_⟩
    have : (idleTo s n l l.length)[(idleTo s n l i).length]? = some (i : Int) := by
      rw [hs, List.getElem?_append_right (Nat.le_refl _), Nat.sub_self]; simp [castL]
    rw [List.getElem?_eq_getElem hlen] at this
    exact Option.some.inj this
  · intro hp ha
    rw [hr, List.filter_cons_of_neg (by rw [hp]; decide)] at hs
    have hm : (idleTo s n l l.length)[(idleTo s n l i).length] ∈ castL ((List.range' (i + 1) (l.length - (i + 1))).filter (idleP s n l)) := by
      have h1 : (idleTo s n l l.length)[(idleTo s n l i).length]? = (castL ((List.range' (i + 1) (l.length - (i + 1))).filter (idleP s n l)))[0]? := by
        rw [hs, List.getElem?_append_right (Nat.le_refl _), Nat.sub_self]
      rw [List.getElem?_eq_getElem ha] at h1
      exact List.mem_of_getElem? h1.symm
    obtain ⟨j, hj, e⟩ := List.mem_map.1 hm
    have := (List.mem_range'_1.1 (List.mem_filter.1 hj).1).1
    rw [← e]
    omega
theorem fits_erase {l : List S36} {i : Nat} (h : i < l.length) (c : List Int) : fitsAll l c = (fitsAll (l.eraseIdx i) c && holdsC l[i] c) := by
  rw [Bool.eq_iff_iff, Bool.and_eq_true]
  constructor
  · intro hf
    have hf := fitsAll_iff.1 hf
    exact ⟨fitsAll_iff.2 fun q hq => hf q (List.mem_of_mem_eraseIdx hq), hf _ (List.getElem_mem h)⟩
  · rintro ⟨h1, h2⟩
    refine fitsAll_iff.2 fun q hq => ?_
    obtain ⟨j, hj, rfl⟩ := List.mem_iff_getElem.1 hq
    by_cases e : j = i
    · subst e; exact h2
    · exact fitsAll_iff.1 h1 _ (List.mem_eraseIdx_iff_getElem.2 ⟨j, hj, e, rfl⟩)
theorem decoy_implies {n s : Nat} {l : List S36} (hch : checkCluesS (n : Int) (s : Int) l = 0) {i : Nat} (h : i < l.length) : ∃ r, impliesS (n : Int) (s : Int) (l.eraseIdx i) l[i] = (r, idleP s n l i, 0) := by
  obtain ⟨hl, hm, hv⟩ := checkClues_ok hch
  have hch2 : checkCluesS (n : Int) (s : Int) (l.eraseIdx i) = 0 := by
    unfold checkCluesS
    rw [if_pos hl, if_neg (by have := List.length_eraseIdx_le l i; omega), if_pos (all_erase hv i)]
  have hq : validC (n : Int) (s : Int) l[i] = true := List.all_eq_true.1 hv _ (List.getElem_mem h)
  have hrd : readingsL s n l = (readingsL s n (l.eraseIdx i)).filter (holdsC l[i]) := by
    unfold readingsL
    rw [List.filter_filter]
    congr 1
    funext c
    rw [fits_erase h c, Bool.and_comm]
  unfold impliesS
  rw [if_pos hch2, if_pos (by unfold checkClueS; rw [if_pos hl, if_pos hq])]
  simp only [Int.toNat_natCast]
  unfold idleP
  rw [hrd]
  rcases hf : (readingsL s n (l.eraseIdx i)).find? (fun c => !holdsC l[i] c) with _ | r
  · have hall := List.find?_eq_none.1 hf
    have : (readingsL s n (l.eraseIdx i)).filter (holdsC l[i]) = readingsL s n (l.eraseIdx i) := by
      rw [List.filter_eq_self]
      intro c hc
      have := hall c hc
      simpa using this
    rw [this]
    exact ⟨[], by simp⟩
  · have hr := List.find?_some hf
    have hmem := List.mem_of_find?_eq_some hf
    have hlt : ((readingsL s n (l.eraseIdx i)).filter (holdsC l[i])).length < (readingsL s n (l.eraseIdx i)).length := by
      rcases Nat.lt_or_ge ((readingsL s n (l.eraseIdx i)).filter (holdsC l[i])).length (readingsL s n (l.eraseIdx i)).length with h1 | h1
      · exact h1
      · have h2 := List.length_filter_le (holdsC l[i]) (readingsL s n (l.eraseIdx i))
        have h3 := (List.length_filter_eq_length_iff.1 (by omega : ((readingsL s n (l.eraseIdx i)).filter (holdsC l[i])).length = (readingsL s n (l.eraseIdx i)).length)) r hmem
        simp [h3] at hr
    refine ⟨r, ?_⟩
    have : ((readingsL s n (l.eraseIdx i)).length == ((readingsL s n (l.eraseIdx i)).filter (holdsC l[i])).length) = false := beq_eq_false_iff_ne.mpr (by omega)
    rw [this]
end Go.Proofs.Ytimkchehdaadeaa.P
end
