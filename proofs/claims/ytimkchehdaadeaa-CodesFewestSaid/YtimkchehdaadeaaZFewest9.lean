/- Part 9 of a proof: the statement CodesFewest: for every input its law returns true (its texts without what nothing here names). -/
import Derived.Test.YtimkchehdaadeaaZFewest7

section
namespace Go.Proofs.Ytimkchehdaadeaa.P
open Go.RowKit Go.Proofs.YtimkchehdaadeaaW.PrintWords Go.Proofs.YtimkchehdaadeaaW.PrintLast Go.Proofs.YtimkchehdaadeaaW.PrintMore
theorem ret_int {k : IntKind} {a b : Int} (h : a = b) : Ending.returned (.int k a) = .returned (.int k b) := by rw [h]
theorem ret_bool {a b : Bool} (h : a = b) : Ending.returned (.bool a) = .returned (.bool b) := by rw [h]
def rightTo (l0 l1 : List Int) (i : Nat) : Nat := ((l0.zip l1).take i).countP (fun p => p.1 == p.2)
def commonTo (l0 l1 : List Int) : Nat → Nat
  | 0 => 0
  | j + 1 => commonTo l0 l1 j + min (l0.count (j : Int)) (l1.count (j : Int))
def dig (l : List Int) : Prop := ∀ x ∈ l, 0 ≤ x ∧ x < 10
instance (l : List Int) : Decidable (dig l) := by unfold dig; infer_instance
theorem rightTo_zero (l0 l1 : List Int) : rightTo l0 l1 0 = 0 := by simp [rightTo]
theorem rightTo_succ (l0 l1 : List Int) (i : Nat) (h0 : i < l0.length) (h1 : i < l1.length) :
    rightTo l0 l1 (i + 1) = rightTo l0 l1 i + if rd l0 i = rd l1 i then 1 else 0 := by
  have hz : i < (l0.zip l1).length := by simp; omega
  unfold rightTo
  rw [List.take_succ_eq_append_getElem hz, List.countP_append]
  simp [List.countP_cons, rd, List.getD_eq_getElem?_getD, List.getElem?_eq_getElem h0, List.getElem?_eq_getElem h1]
theorem rightTo_le (l0 l1 : List Int) (i : Nat) : rightTo l0 l1 i ≤ i := by
  unfold rightTo
  exact Nat.le_trans List.countP_le_length (by simp; omega)
theorem count_take_succ (l : List Int) (i : Nat) (h : i < l.length) (s : Int) : (l.take (i + 1)).count s = (l.take i).count s + if rd l i = s then 1 else 0 := by
  rw [List.take_succ_eq_append_getElem h, List.count_append]
  simp [List.count_cons, rd, List.getD_eq_getElem?_getD, List.getElem?_eq_getElem h]
theorem count_take_le (l : List Int) (i : Nat) (s : Int) : (l.take i).count s ≤ i := Nat.le_trans List.count_le_length (by simp; omega)
def tens (l : List Int) : Array Value := ((List.range 10).map fun s : Nat => Value.int .i64 ((l.count (s : Int) : Nat) : Int)).toArray
theorem tens_nil : tens [] = #[.int .i64 0, .int .i64 0, .int .i64 0, .int .i64 0, .int .i64 0, .int .i64 0, .int .i64 0, .int .i64 0, .int .i64 0, .int .i64 0] := by
  simp [tens, List.range, List.range.loop]
theorem tens_get (l : List Int) (x : Int) (h0 : 0 ≤ x) (h1 : x < 10) : (tens l)[x.toNat]? = some (.int .i64 ((l.count x : Nat) : Int)) := by
  have h : x.toNat < 10 := by omega
  simp [tens, h, Int.toNat_of_nonneg h0]
theorem tens_put (l : List Int) (i : Nat) (h : i < l.length) (x : Int) (hx : x = rd l i) (h0 : 0 ≤ x) (h1 : x < 10) :
    (tens (l.take i)).setIfInBounds x.toNat (.int .i64 (((l.take i).count x : Nat) + 1)) = tens (l.take (i + 1)) := by
  apply Array.ext'
  simp only [tens, Array.toList_setIfInBounds]
  apply List.ext_getElem?
  intro j
  rw [List.getElem?_set]
  by_cases hj : j < 10
  · by_cases he : x.toNat = j
    · subst he
      simp only [if_true]
      rw [if_pos (by simpa using hj)]
      simp only [List.getElem?_map, List.getElem?_range hj, Option.map_some]
      rw [Int.toNat_of_nonneg h0, count_take_succ l i h, if_pos hx.symm]
      simp
    · rw [if_neg he]
      simp only [List.getElem?_map, List.getElem?_range hj, Option.map_some]
      rw [count_take_succ l i h, if_neg (by rw [← hx]; omega)]
      simp
  · rw [if_neg (by omega)]
    simp [hj]
theorem dig_rd (l : List Int) (h : dig l) (i : Int) (h0 : 0 ≤ i) (h1 : i < l.length) : 0 ≤ rd l i ∧ rd l i < 10 := by
  have hi : i.toNat < l.length := by omega
  have := h (l[i.toNat]) (List.getElem_mem hi)
  simpa [rd, List.getD_eq_getElem?_getD, List.getElem?_eq_getElem hi] using this
theorem commonTo_lt (l0 l1 : List Int) (j : Nat) : commonTo l0 l1 j ≤ l0.countP (fun x => decide (0 ≤ x ∧ x < (j : Int))) := by
  induction j with
  | zero => simp [commonTo]
  | succ j ih =>
    have key : l0.countP (fun x => decide (0 ≤ x ∧ x < ((j + 1 : Nat) : Int))) = l0.countP (fun x => decide (0 ≤ x ∧ x < (j : Int))) + l0.count (j : Int) := by
      clear ih
      induction l0 with
      | nil => rfl
      | cons a l ih =>
        simp only [List.countP_cons, List.count_cons, ih]
        have e1 : (if decide (0 ≤ a ∧ a < ((j + 1 : Nat) : Int)) = true then 1 else 0) = (if decide (0 ≤ a ∧ a < (j : Int)) = true then 1 else 0) + (if (a == (j : Int)) = true then 1 else 0) := by
          by_cases h1 : a = (j : Int)
          · rw [if_pos (by simp; omega), if_neg (by simp; omega), if_pos (by simpa using h1)]
          · by_cases h2 : 0 ≤ a ∧ a < (j : Int)
            · rw [if_pos (by simp; omega), if_pos (by simpa using h2), if_neg (by simpa using h1)]
            · rw [if_neg (by simp; omega), if_neg (by simpa using h2), if_neg (by simpa using h1)]
        rw [e1]
        omega
    simp only [commonTo]
    omega
theorem commonTo_le (l0 l1 : List Int) (j : Nat) : commonTo l0 l1 j ≤ l0.length := Nat.le_trans (commonTo_lt l0 l1 j) List.countP_le_length
def okLock (W S : Int) : Prop := 1 ≤ W ∧ W ≤ 4 ∧ 2 ≤ S ∧ S ≤ 10
instance (W S : Int) : Decidable (okLock W S) := by unfold okLock; infer_instance
def inRange (lo hi x : Int) : Bool := decide (lo ≤ x) && decide (x ≤ hi)
theorem inRange_iff {lo hi x : Int} : inRange lo hi x = true ↔ lo ≤ x ∧ x ≤ hi := by simp [inRange]
def isCodeB (W S : Int) (l : List Int) : Bool := decide ((l.length : Int) = W) && l.all (inRange 0 (S - 1))
theorem isCodeB_iff {W S : Int} {l : List Int} : isCodeB W S l = true ↔ (l.length : Int) = W ∧ ∀ x ∈ l, 0 ≤ x ∧ x ≤ S - 1 := by
  simp [isCodeB, inRange_iff]
theorem wrap_small {x : Int} (h0 : -9223372036854775808 ≤ x) (h1 : x ≤ 9223372036854775807) : wrap64 x = x := by unfold wrap64; omega
theorem blocks1 {w X w1 : World} {a : Array Value} {t1 : TypeId} (hX : X.heap = (w.alloc (.cells a t1)).heap) (hb : Below X.heap.size X w1) : w1.heap[w.heap.size]? = some (.cells a t1 (0, 0)) := by
  refine (hb.block _ (by rw [hX]; simp)).trans ?_
  rw [hX]; exact blk_new w _
theorem blocks3 {w X w1 : World} {a b c : Array Value} {t1 t2 t3 : TypeId} (hX : X.heap = (((w.alloc (.cells a t1)).alloc (.cells b t2)).alloc (.cells c t3)).heap) (hb : Below X.heap.size X w1) :
    w1.heap[w.heap.size]? = some (.cells a t1 (0, 0)) ∧ w1.heap[w.heap.size + 1]? = some (.cells b t2 (0, 0)) ∧ w1.heap[w.heap.size + 1 + 1]? = some (.cells c t3 (0, 0)) := by
  refine ⟨(hb.block _ (by rw [hX]; simp; omega)).trans ?_, (hb.block _ (by rw [hX]; simp)).trans ?_, (hb.block _ (by rw [hX]; simp)).trans ?_⟩
  · rw [hX]; exact blk_alloc (blk_alloc (blk_new w _) _) _
  · rw [hX]; have := blk_new (w.alloc (.cells a t1)) (.cells b t2); rw [World.size_alloc] at this; exact blk_alloc this _
  · rw [hX]; have := blk_new ((w.alloc (.cells a t1)).alloc (.cells b t2)) (.cells c t3); rwa [World.size_alloc, World.size_alloc] at this
theorem cells2 {w : World} {g : Nat} {t : TypeId} {a b : Value} (h : w.heap[g]? = some (.cells #[a, b] t (0, 0))) : w.cell? ⟨g, 0, none⟩ = some a ∧ w.cell? ⟨g, 1, none⟩ = some b := ⟨(blk_cell h 0).trans rfl, (blk_cell h 1).trans rfl⟩
theorem cells7 {w : World} {g : Nat} {t : TypeId} {a0 a1 a2 a3 a4 a5 a6 : Value} (h : w.heap[g]? = some (.cells #[a0, a1, a2, a3, a4, a5, a6] t (0, 0))) :
    w.cell? ⟨g, 0, none⟩ = some a0 ∧ w.cell? ⟨g, 1, none⟩ = some a1 ∧ w.cell? ⟨g, 2, none⟩ = some a2 ∧ w.cell? ⟨g, 3, none⟩ = some a3 ∧ w.cell? ⟨g, 4, none⟩ = some a4 ∧ w.cell? ⟨g, 5, none⟩ = some a5 ∧ w.cell? ⟨g, 6, none⟩ = some a6 :=
  ⟨(blk_cell h 0).trans rfl, (blk_cell h 1).trans rfl, (blk_cell h 2).trans rfl, (blk_cell h 3).trans rfl, (blk_cell h 4).trans rfl, (blk_cell h 5).trans rfl, (blk_cell h 6).trans rfl⟩
theorem below_of_heap3 {w X : World} {a b c : Obj} (ho : X.os = w.os) (ht : X.tape = w.tape) (hp : X.output = w.output) (hX : X.heap = (((w.alloc a).alloc b).alloc c).heap) : Below w.heap.size w X :=
  ⟨ho, ht, hp, by rw [hX]; simp; omega, fun k hk => by rw [hX]; exact ((((Below.refl _ w).alloc (Nat.le_refl _) a).alloc (by simp) b).alloc (by simp; omega) c).block k hk⟩
theorem below_of_heap1 {w X : World} {a : Obj} (ho : X.os = w.os) (ht : X.tape = w.tape) (hp : X.output = w.output) (hX : X.heap = (w.alloc a).heap) : Below w.heap.size w X :=
  ⟨ho, ht, hp, by rw [hX]; simp, fun k hk => by rw [hX]; exact ((Below.refl _ w).alloc (Nat.le_refl _) a).block k hk⟩
theorem start1 {w X w1 : World} {a : Array Value} {t1 : TypeId} (hb : Below X.heap.size X w1) (ho : X.os = w.os) (ht : X.tape = w.tape) (hp : X.output = w.output) (hX : X.heap = (w.alloc (.cells a t1)).heap) :
    Below w.heap.size w w1 ∧ w1.heap[w.heap.size]? = some (.cells a t1 (0, 0)) := ⟨below_then (below_of_heap1 ho ht hp hX) (by rw [hX]; simp) hb, blocks1 hX hb⟩
theorem start3 {w X w1 : World} {a b c : Array Value} {t1 t2 t3 : TypeId} (hb : Below X.heap.size X w1) (ho : X.os = w.os) (ht : X.tape = w.tape) (hp : X.output = w.output) (hX : X.heap = (((w.alloc (.cells a t1)).alloc (.cells b t2)).alloc (.cells c t3)).heap) :
    Below w.heap.size w w1 ∧ w1.heap[w.heap.size]? = some (.cells a t1 (0, 0)) ∧ w1.heap[w.heap.size + 1]? = some (.cells b t2 (0, 0)) ∧ w1.heap[w.heap.size + 1 + 1]? = some (.cells c t3 (0, 0)) := ⟨below_then (below_of_heap3 ho ht hp hX) (by rw [hX]; simp; omega) hb, (blocks3 hX hb).1, (blocks3 hX hb).2⟩
end Go.Proofs.Ytimkchehdaadeaa.P
end
section
namespace Go.Proofs.Ytimkchehdaadeaa.P
open Go.RowKit Go.Proofs.YtimkchehdaadeaaW.PrintWords Go.Proofs.YtimkchehdaadeaaW.PrintLast Go.Proofs.YtimkchehdaadeaaW.PrintMore
attribute [local go_sem] max2_int min2_int max_two min_two max_three min_three max_four min_four
set_option linter.unusedVariables false
set_option linter.unusedSimpArgs false
def codes_within.f (a0 : Int) (a1 : Int) (a2 : Int) : Option (Bool) := if a0 ≥ a1 then (some (decide (a0 ≤ a2))) else (some false)
set_option maxHeartbeats 8000000 in
set_option maxRecDepth 100000 in
theorem codes_within.calls (a0 : Int) (a1 : Int) (a2 : Int) (r : Bool) (w : World) (h : codes_within.f a0 a1 a2 = some r) :
    Calls Try.prog 66 #[.int .i64 a0, .int .i64 a1, .int .i64 a2] w fun e w' => e = .returned (.bool r) ∧ Drawn0 w w' := by
  have H : (if a0 ≥ a1 then (some (decide (a0 ≤ a2))) else (some false)) = some r := h
  clear h
  by_cases c4 : a0 ≥ a1
  · rw [if_pos c4] at H
    have c4b0 : decide (a1 ≤ a0) = true := decide_eq_true c4
    clear c4
    obtain rfl := Option.some.inj H
    go_enter Try.func66, Try.ntmps66
    go_wp2
    go_ret
    exact ⟨by first | rfl | (simp; done) | (simp [*]; done), by repeat (first | exact Drawn0.refl _ | apply Drawn0.step)⟩
  · rw [if_neg c4] at H
    have c4b0 : decide (a1 ≤ a0) = false := decide_eq_false c4
    clear c4
    obtain rfl := Option.some.inj H
    go_enter Try.func66, Try.ntmps66
    go_wp2
    go_ret
    exact ⟨by first | rfl | (simp; done) | (simp [*]; done), by repeat (first | exact Drawn0.refl _ | apply Drawn0.step)⟩
def codes_Check.f (a0_0 : Int) (a0_1 : Int) : Option (Int) := (codes_within.f a0_0 1 4).bind fun t24102 => (if t24102 = true then ((codes_within.f a0_1 2 10).bind fun t24103 => (if t24103 = true then (some 0) else (some 10))) else (some 10))
set_option maxHeartbeats 8000000 in
set_option maxRecDepth 100000 in
theorem codes_Check.calls (a0_0 : Int) (a0_1 : Int) (r : Int) (w : World) (h : codes_Check.f a0_0 a0_1 = some r) :
    Calls Try.prog 24 #[.agg #[.int .i64 a0_0, .int .i64 a0_1]] w fun e w' => e = .returned (.int .i64 r) ∧ Below w.heap.size w w' := by
  have hu23 := Try.underlying23
  have HB := Aside0.mk (Below.refl w.heap.size w)
  have H : ((codes_within.f a0_0 1 4).bind fun t24102 => (if t24102 = true then ((codes_within.f a0_1 2 10).bind fun t24103 => (if t24103 = true then (some 0) else (some 10))) else (some 10))) = some r := h
  clear h
  replace H := Option.bind_eq_some_iff.mp H
  obtain ⟨t24102, A20, H⟩ := H
  replace H : (if t24102 = true then ((codes_within.f a0_1 2 10).bind fun t24103 => (if t24103 = true then (some 0) else (some 10))) else (some 10)) = some r := H
  have A2 := Aside0.mk A20
  clear A20
  by_cases c3 : t24102 = true
  · subst c3
    have H1 : ((codes_within.f a0_1 2 10).bind fun t24103 => (if t24103 = true then (some 0) else (some 10))) = some r := by rw [if_pos rfl] at H; exact H
    clear H
    have H := H1
    clear H1
    replace H := Option.bind_eq_some_iff.mp H
    obtain ⟨t24103, A40, H⟩ := H
    replace H : (if t24103 = true then (some 0) else (some 10)) = some r := H
    have A4 := Aside0.mk A40
    clear A40
    by_cases c5 : t24103 = true
    · subst c5
      have H1 : (some 0) = some r := by rw [if_pos rfl] at H; exact H
      clear H
      have H := H1
      clear H1
      obtain rfl := Option.some.inj H
      go_enter Try.func24, Try.ntmps24
      go_wp2_with (first | ((with_reducible refine gate_dst (N := 1) rfl ?_); refine box_event ?hg (N := 1) ?hd (cs := #[.int .i64 a0_0, .int .i64 a0_1]) (t := 23) ?hr ?_; (case hd => rfl); (case hg => rfl); (case hr => first | (go_simp; done) | (go_simp; rfl)); intro gb24101 hg w6 hbox hb; have n0_ := Aside0.mk (below_step (by repeat (first | (with_reducible first | exact HB.out | apply below_alloc | apply pw_below_drewN | apply below_drew1) | exact HB.out)) hb); have n1_ := Aside0.mk (hbox); have n2_ := Aside0.mk ((by rw [hg]; exact (below_size (by repeat (first | (with_reducible first | exact HB.out | apply below_alloc | apply pw_below_drewN | apply below_drew1) | exact HB.out))) : w.heap.size ≤ gb24101)); have n3_ := Aside0.mk ((by rw [hg]; exact (below_size (by repeat (first | (with_reducible first | exact HB.out | apply below_alloc | apply pw_below_drewN | apply below_drew1) | exact HB.out))) : w.heap.size ≤ gb24101)); clear HB; have HB := n0_; have BK24101 := n1_; have GW24101 := n2_; have GE24101 := n3_; clear n0_ n1_ n2_ n3_; clear hb hbox hg; have hcz7_0 : w6.cell? ⟨gb24101, 0, none⟩ = some (.int .i64 a0_0) := (blk_cell BK24101.out 0).trans rfl; have hcz7_1 : w6.cell? ⟨gb24101, 1, none⟩ = some (.int .i64 a0_1) := (blk_cell BK24101.out 1).trans rfl; have hfz7_0 := blk_frozen BK24101.out 0; have hfz7_1 := blk_frozen BK24101.out 1) | ((with_reducible refine gate_callee (f := 66) rfl ?_); refine goesL_ (some 5) rfl rfl Try.func66 (by kernel_rfl) rfl #[.int .i64 a0_0, .int .i64 1, .int .i64 4] rfl (by (try simp only [List.map_toArray, List.map_cons, List.map_nil]); first | done | rfl | (simp only [List.length_drop, List.length_take]; rfl)) ?_; (with_reducible refine (codes_within.calls a0_0 1 4 true _ A2.out).mono ?_); rintro e w' ⟨rfl, ⟨nd, rfl⟩⟩; refine ⟨_, rfl, ?_⟩) | (go_at_call 66; (with_reducible refine (codes_within.calls a0_1 2 10 true _ A4.out).mono ?_); rintro e w' ⟨rfl, ⟨nd, rfl⟩⟩))
      go_ret
      exact ⟨by first | rfl | (simp [errW_none, errW_some] <;> rfl) | (simp [*, errW_none, errW_some] <;> rfl), by repeat (first | (with_reducible first | exact HB.out | apply below_alloc | apply pw_below_drewN | apply below_drew1 | refine below_set ?_ GE24101.out) | exact HB.out)⟩
    · replace c5 := Bool.eq_false_iff.mpr c5
      subst c5
      have H1 : (some 10) = some r := by rw [if_neg (show ¬ (false = true) by decide)] at H; exact H
      clear H
      have H := H1
      clear H1
      obtain rfl := Option.some.inj H
      go_enter Try.func24, Try.ntmps24
      go_wp2_with (first | ((with_reducible refine gate_dst (N := 1) rfl ?_); refine box_event ?hg (N := 1) ?hd (cs := #[.int .i64 a0_0, .int .i64 a0_1]) (t := 23) ?hr ?_; (case hd => rfl); (case hg => rfl); (case hr => first | (go_simp; done) | (go_simp; rfl)); intro gb24101 hg w8 hbox hb; have n0_ := Aside0.mk (below_step (by repeat (first | (with_reducible first | exact HB.out | apply below_alloc | apply pw_below_drewN | apply below_drew1) | exact HB.out)) hb); have n1_ := Aside0.mk (hbox); have n2_ := Aside0.mk ((by rw [hg]; exact (below_size (by repeat (first | (with_reducible first | exact HB.out | apply below_alloc | apply pw_below_drewN | apply below_drew1) | exact HB.out))) : w.heap.size ≤ gb24101)); have n3_ := Aside0.mk ((by rw [hg]; exact (below_size (by repeat (first | (with_reducible first | exact HB.out | apply below_alloc | apply pw_below_drewN | apply below_drew1) | exact HB.out))) : w.heap.size ≤ gb24101)); clear HB; have HB := n0_; have BK24101 := n1_; have GW24101 := n2_; have GE24101 := n3_; clear n0_ n1_ n2_ n3_; clear hb hbox hg; have hcz9_0 : w8.cell? ⟨gb24101, 0, none⟩ = some (.int .i64 a0_0) := (blk_cell BK24101.out 0).trans rfl; have hcz9_1 : w8.cell? ⟨gb24101, 1, none⟩ = some (.int .i64 a0_1) := (blk_cell BK24101.out 1).trans rfl; have hfz9_0 := blk_frozen BK24101.out 0; have hfz9_1 := blk_frozen BK24101.out 1) | ((with_reducible refine gate_callee (f := 66) rfl ?_); refine goesL_ (some 5) rfl rfl Try.func66 (by kernel_rfl) rfl #[.int .i64 a0_0, .int .i64 1, .int .i64 4] rfl (by (try simp only [List.map_toArray, List.map_cons, List.map_nil]); first | done | rfl | (simp only [List.length_drop, List.length_take]; rfl)) ?_; (with_reducible refine (codes_within.calls a0_0 1 4 true _ A2.out).mono ?_); rintro e w' ⟨rfl, ⟨nd, rfl⟩⟩; refine ⟨_, rfl, ?_⟩) | (go_at_call 66; (with_reducible refine (codes_within.calls a0_1 2 10 false _ A4.out).mono ?_); rintro e w' ⟨rfl, ⟨nd, rfl⟩⟩))
      go_ret
      exact ⟨by first | rfl | (simp [errW_none, errW_some] <;> rfl) | (simp [*, errW_none, errW_some] <;> rfl), by repeat (first | (with_reducible first | exact HB.out | apply below_alloc | apply pw_below_drewN | apply below_drew1 | refine below_set ?_ GE24101.out) | exact HB.out)⟩
  · replace c3 := Bool.eq_false_iff.mpr c3
    subst c3
    have H1 : (some 10) = some r := by rw [if_neg (show ¬ (false = true) by decide)] at H; exact H
    clear H
    have H := H1
    clear H1
    obtain rfl := Option.some.inj H
    go_enter Try.func24, Try.ntmps24
    go_wp2_with (first | ((with_reducible refine gate_dst (N := 1) rfl ?_); refine box_event ?hg (N := 1) ?hd (cs := #[.int .i64 a0_0, .int .i64 a0_1]) (t := 23) ?hr ?_; (case hd => rfl); (case hg => rfl); (case hr => first | (go_simp; done) | (go_simp; rfl)); intro gb24101 hg w10 hbox hb; have n0_ := Aside0.mk (below_step (by repeat (first | (with_reducible first | exact HB.out | apply below_alloc | apply pw_below_drewN | apply below_drew1) | exact HB.out)) hb); have n1_ := Aside0.mk (hbox); have n2_ := Aside0.mk ((by rw [hg]; exact (below_size (by repeat (first | (with_reducible first | exact HB.out | apply below_alloc | apply pw_below_drewN | apply below_drew1) | exact HB.out))) : w.heap.size ≤ gb24101)); have n3_ := Aside0.mk ((by rw [hg]; exact (below_size (by repeat (first | (with_reducible first | exact HB.out | apply below_alloc | apply pw_below_drewN | apply below_drew1) | exact HB.out))) : w.heap.size ≤ gb24101)); clear HB; have HB := n0_; have BK24101 := n1_; have GW24101 := n2_; have GE24101 := n3_; clear n0_ n1_ n2_ n3_; clear hb hbox hg; have hcz11_0 : w10.cell? ⟨gb24101, 0, none⟩ = some (.int .i64 a0_0) := (blk_cell BK24101.out 0).trans rfl; have hcz11_1 : w10.cell? ⟨gb24101, 1, none⟩ = some (.int .i64 a0_1) := (blk_cell BK24101.out 1).trans rfl; have hfz11_0 := blk_frozen BK24101.out 0; have hfz11_1 := blk_frozen BK24101.out 1) | ((with_reducible refine gate_callee (f := 66) rfl ?_); refine goesL_ (some 5) rfl rfl Try.func66 (by kernel_rfl) rfl #[.int .i64 a0_0, .int .i64 1, .int .i64 4] rfl (by (try simp only [List.map_toArray, List.map_cons, List.map_nil]); first | done | rfl | (simp only [List.length_drop, List.length_take]; rfl)) ?_; (with_reducible refine (codes_within.calls a0_0 1 4 false _ A2.out).mono ?_); rintro e w' ⟨rfl, ⟨nd, rfl⟩⟩; refine ⟨_, rfl, ?_⟩))
    go_ret
    exact ⟨by first | rfl | (simp [errW_none, errW_some] <;> rfl) | (simp [*, errW_none, errW_some] <;> rfl), by repeat (first | (with_reducible first | exact HB.out | apply below_alloc | apply pw_below_drewN | apply below_drew1 | refine below_set ?_ GE24101.out) | exact HB.out)⟩
def padlockref01_Within.f (a0 : Int) (a1 : Int) (a2 : Int) : Option (Bool) := if a0 ≥ a1 then (some (decide (a0 ≤ a2))) else (some false)
set_option maxHeartbeats 8000000 in
set_option maxRecDepth 100000 in
theorem padlockref01_Within.calls (a0 : Int) (a1 : Int) (a2 : Int) (r : Bool) (w : World) (h : padlockref01_Within.f a0 a1 a2 = some r) :
    Calls Try.prog 67 #[.int .i64 a0, .int .i64 a1, .int .i64 a2] w fun e w' => e = .returned (.bool r) ∧ Drawn0 w w' := by
  have H : (if a0 ≥ a1 then (some (decide (a0 ≤ a2))) else (some false)) = some r := h
  clear h
  by_cases c4 : a0 ≥ a1
  · rw [if_pos c4] at H
    have c4b0 : decide (a1 ≤ a0) = true := decide_eq_true c4
    clear c4
    obtain rfl := Option.some.inj H
    go_enter Try.func67, Try.ntmps67
    go_wp2
    go_ret
    exact ⟨by first | rfl | (simp; done) | (simp [*]; done), by repeat (first | exact Drawn0.refl _ | apply Drawn0.step)⟩
  · rw [if_neg c4] at H
    have c4b0 : decide (a1 ≤ a0) = false := decide_eq_false c4
    clear c4
    obtain rfl := Option.some.inj H
    go_enter Try.func67, Try.ntmps67
    go_wp2
    go_ret
    exact ⟨by first | rfl | (simp; done) | (simp [*]; done), by repeat (first | exact Drawn0.refl _ | apply Drawn0.step)⟩
def padlockref01_Check.f (a0_0 : Int) (a0_1 : Int) : Option (Int) := (padlockref01_Within.f a0_0 1 4).bind fun t25102 => (if t25102 = true then ((padlockref01_Within.f a0_1 2 10).bind fun t25103 => (if t25103 = true then (some 0) else (some 10))) else (some 10))
set_option maxHeartbeats 8000000 in
set_option maxRecDepth 100000 in
theorem padlockref01_Check.calls (a0_0 : Int) (a0_1 : Int) (r : Int) (w : World) (h : padlockref01_Check.f a0_0 a0_1 = some r) :
    Calls Try.prog 25 #[.agg #[.int .i64 a0_0, .int .i64 a0_1]] w fun e w' => e = .returned (.int .i64 r) ∧ Below w.heap.size w w' := by
  have hu23 := Try.underlying23
  have HB := Aside0.mk (Below.refl w.heap.size w)
  have H : ((padlockref01_Within.f a0_0 1 4).bind fun t25102 => (if t25102 = true then ((padlockref01_Within.f a0_1 2 10).bind fun t25103 => (if t25103 = true then (some 0) else (some 10))) else (some 10))) = some r := h
  clear h
  replace H := Option.bind_eq_some_iff.mp H
  obtain ⟨t25102, A20, H⟩ := H
  replace H : (if t25102 = true then ((padlockref01_Within.f a0_1 2 10).bind fun t25103 => (if t25103 = true then (some 0) else (some 10))) else (some 10)) = some r := H
  have A2 := Aside0.mk A20
  clear A20
  by_cases c3 : t25102 = true
  · subst c3
    have H1 : ((padlockref01_Within.f a0_1 2 10).bind fun t25103 => (if t25103 = true then (some 0) else (some 10))) = some r := by rw [if_pos rfl] at H; exact H
    clear H
    have H := H1
    clear H1
    replace H := Option.bind_eq_some_iff.mp H
    obtain ⟨t25103, A40, H⟩ := H
    replace H : (if t25103 = true then (some 0) else (some 10)) = some r := H
    have A4 := Aside0.mk A40
    clear A40
    by_cases c5 : t25103 = true
    · subst c5
      have H1 : (some 0) = some r := by rw [if_pos rfl] at H; exact H
      clear H
      have H := H1
      clear H1
      obtain rfl := Option.some.inj H
      go_enter Try.func25, Try.ntmps25
      go_wp2_with (first | ((with_reducible refine gate_dst (N := 1) rfl ?_); refine box_event ?hg (N := 1) ?hd (cs := #[.int .i64 a0_0, .int .i64 a0_1]) (t := 23) ?hr ?_; (case hd => rfl); (case hg => rfl); (case hr => first | (go_simp; done) | (go_simp; rfl)); intro gb25101 hg w6 hbox hb; have n0_ := Aside0.mk (below_step (by repeat (first | (with_reducible first | exact HB.out | apply below_alloc | apply pw_below_drewN | apply below_drew1) | exact HB.out)) hb); have n1_ := Aside0.mk (hbox); have n2_ := Aside0.mk ((by rw [hg]; exact (below_size (by repeat (first | (with_reducible first | exact HB.out | apply below_alloc | apply pw_below_drewN | apply below_drew1) | exact HB.out))) : w.heap.size ≤ gb25101)); have n3_ := Aside0.mk ((by rw [hg]; exact (below_size (by repeat (first | (with_reducible first | exact HB.out | apply below_alloc | apply pw_below_drewN | apply below_drew1) | exact HB.out))) : w.heap.size ≤ gb25101)); clear HB; have HB := n0_; have BK25101 := n1_; have GW25101 := n2_; have GE25101 := n3_; clear n0_ n1_ n2_ n3_; clear hb hbox hg; have hcz7_0 : w6.cell? ⟨gb25101, 0, none⟩ = some (.int .i64 a0_0) := (blk_cell BK25101.out 0).trans rfl; have hcz7_1 : w6.cell? ⟨gb25101, 1, none⟩ = some (.int .i64 a0_1) := (blk_cell BK25101.out 1).trans rfl; have hfz7_0 := blk_frozen BK25101.out 0; have hfz7_1 := blk_frozen BK25101.out 1) | ((with_reducible refine gate_callee (f := 67) rfl ?_); refine goesL_ (some 5) rfl rfl Try.func67 (by kernel_rfl) rfl #[.int .i64 a0_0, .int .i64 1, .int .i64 4] rfl (by (try simp only [List.map_toArray, List.map_cons, List.map_nil]); first | done | rfl | (simp only [List.length_drop, List.length_take]; rfl)) ?_; (with_reducible refine (padlockref01_Within.calls a0_0 1 4 true _ A2.out).mono ?_); rintro e w' ⟨rfl, ⟨nd, rfl⟩⟩; refine ⟨_, rfl, ?_⟩) | (go_at_call 67; (with_reducible refine (padlockref01_Within.calls a0_1 2 10 true _ A4.out).mono ?_); rintro e w' ⟨rfl, ⟨nd, rfl⟩⟩))
      go_ret
      exact ⟨by first | rfl | (simp [errW_none, errW_some] <;> rfl) | (simp [*, errW_none, errW_some] <;> rfl), by repeat (first | (with_reducible first | exact HB.out | apply below_alloc | apply pw_below_drewN | apply below_drew1 | refine below_set ?_ GE25101.out) | exact HB.out)⟩
    · replace c5 := Bool.eq_false_iff.mpr c5
      subst c5
      have H1 : (some 10) = some r := by rw [if_neg (show ¬ (false = true) by decide)] at H; exact H
      clear H
      have H := H1
      clear H1
      obtain rfl := Option.some.inj H
      go_enter Try.func25, Try.ntmps25
      go_wp2_with (first | ((with_reducible refine gate_dst (N := 1) rfl ?_); refine box_event ?hg (N := 1) ?hd (cs := #[.int .i64 a0_0, .int .i64 a0_1]) (t := 23) ?hr ?_; (case hd => rfl); (case hg => rfl); (case hr => first | (go_simp; done) | (go_simp; rfl)); intro gb25101 hg w8 hbox hb; have n0_ := Aside0.mk (below_step (by repeat (first | (with_reducible first | exact HB.out | apply below_alloc | apply pw_below_drewN | apply below_drew1) | exact HB.out)) hb); have n1_ := Aside0.mk (hbox); have n2_ := Aside0.mk ((by rw [hg]; exact (below_size (by repeat (first | (with_reducible first | exact HB.out | apply below_alloc | apply pw_below_drewN | apply below_drew1) | exact HB.out))) : w.heap.size ≤ gb25101)); have n3_ := Aside0.mk ((by rw [hg]; exact (below_size (by repeat (first | (with_reducible first | exact HB.out | apply below_alloc | apply pw_below_drewN | apply below_drew1) | exact HB.out))) : w.heap.size ≤ gb25101)); clear HB; have HB := n0_; have BK25101 := n1_; have GW25101 := n2_; have GE25101 := n3_; clear n0_ n1_ n2_ n3_; clear hb hbox hg; have hcz9_0 : w8.cell? ⟨gb25101, 0, none⟩ = some (.int .i64 a0_0) := (blk_cell BK25101.out 0).trans rfl; have hcz9_1 : w8.cell? ⟨gb25101, 1, none⟩ = some (.int .i64 a0_1) := (blk_cell BK25101.out 1).trans rfl; have hfz9_0 := blk_frozen BK25101.out 0; have hfz9_1 := blk_frozen BK25101.out 1) | ((with_reducible refine gate_callee (f := 67) rfl ?_); refine goesL_ (some 5) rfl rfl Try.func67 (by kernel_rfl) rfl #[.int .i64 a0_0, .int .i64 1, .int .i64 4] rfl (by (try simp only [List.map_toArray, List.map_cons, List.map_nil]); first | done | rfl | (simp only [List.length_drop, List.length_take]; rfl)) ?_; (with_reducible refine (padlockref01_Within.calls a0_0 1 4 true _ A2.out).mono ?_); rintro e w' ⟨rfl, ⟨nd, rfl⟩⟩; refine ⟨_, rfl, ?_⟩) | (go_at_call 67; (with_reducible refine (padlockref01_Within.calls a0_1 2 10 false _ A4.out).mono ?_); rintro e w' ⟨rfl, ⟨nd, rfl⟩⟩))
      go_ret
      exact ⟨by first | rfl | (simp [errW_none, errW_some] <;> rfl) | (simp [*, errW_none, errW_some] <;> rfl), by repeat (first | (with_reducible first | exact HB.out | apply below_alloc | apply pw_below_drewN | apply below_drew1 | refine below_set ?_ GE25101.out) | exact HB.out)⟩
  · replace c3 := Bool.eq_false_iff.mpr c3
    subst c3
    have H1 : (some 10) = some r := by rw [if_neg (show ¬ (false = true) by decide)] at H; exact H
    clear H
    have H := H1
    clear H1
    obtain rfl := Option.some.inj H
    go_enter Try.func25, Try.ntmps25
    go_wp2_with (first | ((with_reducible refine gate_dst (N := 1) rfl ?_); refine box_event ?hg (N := 1) ?hd (cs := #[.int .i64 a0_0, .int .i64 a0_1]) (t := 23) ?hr ?_; (case hd => rfl); (case hg => rfl); (case hr => first | (go_simp; done) | (go_simp; rfl)); intro gb25101 hg w10 hbox hb; have n0_ := Aside0.mk (below_step (by repeat (first | (with_reducible first | exact HB.out | apply below_alloc | apply pw_below_drewN | apply below_drew1) | exact HB.out)) hb); have n1_ := Aside0.mk (hbox); have n2_ := Aside0.mk ((by rw [hg]; exact (below_size (by repeat (first | (with_reducible first | exact HB.out | apply below_alloc | apply pw_below_drewN | apply below_drew1) | exact HB.out))) : w.heap.size ≤ gb25101)); have n3_ := Aside0.mk ((by rw [hg]; exact (below_size (by repeat (first | (with_reducible first | exact HB.out | apply below_alloc | apply pw_below_drewN | apply below_drew1) | exact HB.out))) : w.heap.size ≤ gb25101)); clear HB; have HB := n0_; have BK25101 := n1_; have GW25101 := n2_; have GE25101 := n3_; clear n0_ n1_ n2_ n3_; clear hb hbox hg; have hcz11_0 : w10.cell? ⟨gb25101, 0, none⟩ = some (.int .i64 a0_0) := (blk_cell BK25101.out 0).trans rfl; have hcz11_1 : w10.cell? ⟨gb25101, 1, none⟩ = some (.int .i64 a0_1) := (blk_cell BK25101.out 1).trans rfl; have hfz11_0 := blk_frozen BK25101.out 0; have hfz11_1 := blk_frozen BK25101.out 1) | ((with_reducible refine gate_callee (f := 67) rfl ?_); refine goesL_ (some 5) rfl rfl Try.func67 (by kernel_rfl) rfl #[.int .i64 a0_0, .int .i64 1, .int .i64 4] rfl (by (try simp only [List.map_toArray, List.map_cons, List.map_nil]); first | done | rfl | (simp only [List.length_drop, List.length_take]; rfl)) ?_; (with_reducible refine (padlockref01_Within.calls a0_0 1 4 false _ A2.out).mono ?_); rintro e w' ⟨rfl, ⟨nd, rfl⟩⟩; refine ⟨_, rfl, ?_⟩))
    go_ret
    exact ⟨by first | rfl | (simp [errW_none, errW_some] <;> rfl) | (simp [*, errW_none, errW_some] <;> rfl), by repeat (first | (with_reducible first | exact HB.out | apply below_alloc | apply pw_below_drewN | apply below_drew1 | refine below_set ?_ GE25101.out) | exact HB.out)⟩
end Go.Proofs.Ytimkchehdaadeaa.P
end
section
namespace Go.Proofs.Ytimkchehdaadeaa.P
open Go.RowKit Go.Proofs.YtimkchehdaadeaaW.PrintWords Go.Proofs.YtimkchehdaadeaaW.PrintLast Go.Proofs.YtimkchehdaadeaaW.PrintMore
attribute [local go_sem] max2_int min2_int max_two min_two max_three min_three max_four min_four
set_option linter.unusedVariables false
set_option linter.unusedSimpArgs false
def codes_lock_wheel.f (a0_0 : Int) (a0_1 : Int) (a1 : Int) : Option (Bool) := (codes_within.f a1 0 (wrap64 (a0_0 - 1))).bind fun t96102 => (some t96102)
set_option maxHeartbeats 8000000 in
set_option maxRecDepth 100000 in
theorem codes_lock_wheel.calls (a0_0 : Int) (a0_1 : Int) (a1 : Int) (r : Bool) (w : World) (h : codes_lock_wheel.f a0_0 a0_1 a1 = some r) :
    Calls Try.prog 96 #[.agg #[.int .i64 a0_0, .int .i64 a0_1], .int .i64 a1] w fun e w' => e = .returned (.bool r) ∧ Below w.heap.size w w' := by
  have hu83 := Try.underlying83
  have HB := Aside0.mk (Below.refl w.heap.size w)
  have H : ((codes_within.f a1 0 (wrap64 (a0_0 - 1))).bind fun t96102 => (some t96102)) = some r := h
  clear h
  replace H := Option.bind_eq_some_iff.mp H
  obtain ⟨t96102, A30, H⟩ := H
  replace H : (some t96102) = some r := H
  have A3 := Aside0.mk A30
  clear A30
  obtain rfl := Option.some.inj H
  go_enter Try.func96, Try.ntmps96
  go_wp2_with (first | ((with_reducible refine gate_dst (N := 2) rfl ?_); refine box_event ?hg (N := 2) ?hd (cs := #[.int .i64 a0_0, .int .i64 a0_1]) (t := 83) ?hr ?_; (case hd => rfl); (case hg => rfl); (case hr => first | (go_simp; done) | (go_simp; rfl)); intro gb96101 hg w4 hbox hb; have n0_ := Aside0.mk (below_step (by repeat (first | (with_reducible first | exact HB.out | apply below_alloc | apply pw_below_drewN | apply below_drew1) | exact HB.out)) hb); have n1_ := Aside0.mk (hbox); have n2_ := Aside0.mk ((by rw [hg]; exact (below_size (by repeat (first | (with_reducible first | exact HB.out | apply below_alloc | apply pw_below_drewN | apply below_drew1) | exact HB.out))) : w.heap.size ≤ gb96101)); have n3_ := Aside0.mk ((by rw [hg]; exact (below_size (by repeat (first | (with_reducible first | exact HB.out | apply below_alloc | apply pw_below_drewN | apply below_drew1) | exact HB.out))) : w.heap.size ≤ gb96101)); clear HB; have HB := n0_; have BK96101 := n1_; have GW96101 := n2_; have GE96101 := n3_; clear n0_ n1_ n2_ n3_; clear hb hbox hg; have hcz5_0 : w4.cell? ⟨gb96101, 0, none⟩ = some (.int .i64 a0_0) := (blk_cell BK96101.out 0).trans rfl; have hcz5_1 : w4.cell? ⟨gb96101, 1, none⟩ = some (.int .i64 a0_1) := (blk_cell BK96101.out 1).trans rfl; have hfz5_0 := blk_frozen BK96101.out 0; have hfz5_1 := blk_frozen BK96101.out 1) | ((with_reducible refine gate_callee (f := 66) rfl ?_); refine goesL_ (some 9) rfl rfl Try.func66 (by kernel_rfl) rfl #[.int .i64 a1, .int .i64 0, .int .i64 (wrap64 (a0_0 - 1))] rfl (by (try simp only [List.map_toArray, List.map_cons, List.map_nil]); first | done | rfl | (simp only [List.length_drop, List.length_take]; rfl)) ?_; (with_reducible refine (codes_within.calls a1 0 (wrap64 (a0_0 - 1)) t96102 _ A3.out).mono ?_); rintro e w' ⟨rfl, ⟨nd, rfl⟩⟩; refine ⟨_, rfl, ?_⟩))
  go_ret
  exact ⟨by first | rfl | (simp [errW_none, errW_some] <;> rfl) | (simp [*, errW_none, errW_some] <;> rfl), by repeat (first | (with_reducible first | exact HB.out | apply below_alloc | apply pw_below_drewN | apply below_drew1 | refine below_set ?_ GE96101.out) | exact HB.out)⟩
def codes_lock_symbol.f (a0_0 : Int) (a0_1 : Int) (a1 : Int) : Option (Bool) := (codes_within.f a1 0 (wrap64 (a0_1 - 1))).bind fun t97102 => (some t97102)
set_option maxHeartbeats 8000000 in
set_option maxRecDepth 100000 in
theorem codes_lock_symbol.calls (a0_0 : Int) (a0_1 : Int) (a1 : Int) (r : Bool) (w : World) (h : codes_lock_symbol.f a0_0 a0_1 a1 = some r) :
    Calls Try.prog 97 #[.agg #[.int .i64 a0_0, .int .i64 a0_1], .int .i64 a1] w fun e w' => e = .returned (.bool r) ∧ Below w.heap.size w w' := by
  have hu83 := Try.underlying83
  have HB := Aside0.mk (Below.refl w.heap.size w)
  have H : ((codes_within.f a1 0 (wrap64 (a0_1 - 1))).bind fun t97102 => (some t97102)) = some r := h
  clear h
  replace H := Option.bind_eq_some_iff.mp H
  obtain ⟨t97102, A30, H⟩ := H
  replace H : (some t97102) = some r := H
  have A3 := Aside0.mk A30
  clear A30
  obtain rfl := Option.some.inj H
  go_enter Try.func97, Try.ntmps97
  go_wp2_with (first | ((with_reducible refine gate_dst (N := 2) rfl ?_); refine box_event ?hg (N := 2) ?hd (cs := #[.int .i64 a0_0, .int .i64 a0_1]) (t := 83) ?hr ?_; (case hd => rfl); (case hg => rfl); (case hr => first | (go_simp; done) | (go_simp; rfl)); intro gb97101 hg w4 hbox hb; have n0_ := Aside0.mk (below_step (by repeat (first | (with_reducible first | exact HB.out | apply below_alloc | apply pw_below_drewN | apply below_drew1) | exact HB.out)) hb); have n1_ := Aside0.mk (hbox); have n2_ := Aside0.mk ((by rw [hg]; exact (below_size (by repeat (first | (with_reducible first | exact HB.out | apply below_alloc | apply pw_below_drewN | apply below_drew1) | exact HB.out))) : w.heap.size ≤ gb97101)); have n3_ := Aside0.mk ((by rw [hg]; exact (below_size (by repeat (first | (with_reducible first | exact HB.out | apply below_alloc | apply pw_below_drewN | apply below_drew1) | exact HB.out))) : w.heap.size ≤ gb97101)); clear HB; have HB := n0_; have BK97101 := n1_; have GW97101 := n2_; have GE97101 := n3_; clear n0_ n1_ n2_ n3_; clear hb hbox hg; have hcz5_0 : w4.cell? ⟨gb97101, 0, none⟩ = some (.int .i64 a0_0) := (blk_cell BK97101.out 0).trans rfl; have hcz5_1 : w4.cell? ⟨gb97101, 1, none⟩ = some (.int .i64 a0_1) := (blk_cell BK97101.out 1).trans rfl; have hfz5_0 := blk_frozen BK97101.out 0; have hfz5_1 := blk_frozen BK97101.out 1) | ((with_reducible refine gate_callee (f := 66) rfl ?_); refine goesL_ (some 9) rfl rfl Try.func66 (by kernel_rfl) rfl #[.int .i64 a1, .int .i64 0, .int .i64 (wrap64 (a0_1 - 1))] rfl (by (try simp only [List.map_toArray, List.map_cons, List.map_nil]); first | done | rfl | (simp only [List.length_drop, List.length_take]; rfl)) ?_; (with_reducible refine (codes_within.calls a1 0 (wrap64 (a0_1 - 1)) t97102 _ A3.out).mono ?_); rintro e w' ⟨rfl, ⟨nd, rfl⟩⟩; refine ⟨_, rfl, ?_⟩))
  go_ret
  exact ⟨by first | rfl | (simp [errW_none, errW_some] <;> rfl) | (simp [*, errW_none, errW_some] <;> rfl), by repeat (first | (with_reducible first | exact HB.out | apply below_alloc | apply pw_below_drewN | apply below_drew1 | refine below_set ?_ GE97101.out) | exact HB.out)⟩
end Go.Proofs.Ytimkchehdaadeaa.P
end
section
namespace Go.Proofs.Ytimkchehdaadeaa.P
open Go.RowKit Go.Proofs.YtimkchehdaadeaaW.PrintWords Go.Proofs.YtimkchehdaadeaaW.PrintLast Go.Proofs.YtimkchehdaadeaaW.PrintMore
theorem wrap_next {i n : Nat} (h : i < n) (hn : n ≤ 9223372036854775807) : wrap64 ((i : Int) + 1) = ((i + 1 : Nat) : Int) := by unfold wrap64; omega
theorem rd_get (l : List Int) (i : Nat) (h : i < l.length) : rd l i = l[i] := by simp [rd, List.getD_eq_getElem?_getD, List.getElem?_eq_getElem h]
theorem Within_eq (a lo hi : Int) : padlockref01_Within.f a lo hi = some (inRange lo hi a) := by
  unfold padlockref01_Within.f inRange
  by_cases h : a ≥ lo
  · rw [if_pos h]; simp [show lo ≤ a from h]
  · rw [if_neg h]; simp [show ¬ lo ≤ a from h]
theorem RCheck_eq (W S : Int) : padlockref01_Check.f W S = some (if okLock W S then 0 else 10) := by
  unfold padlockref01_Check.f
  simp only [Within_eq, Option.bind_some]
  by_cases h : okLock W S
  · obtain ⟨a, b, c, d⟩ := h
    simp [inRange, okLock, a, b, c, d]
  · rw [if_neg h]
    by_cases h1 : inRange 1 4 W = true
    · rw [if_pos h1]
      by_cases h2 : inRange 2 10 S = true
      · exact absurd ⟨(inRange_iff.1 h1).1, (inRange_iff.1 h1).2, (inRange_iff.1 h2).1, (inRange_iff.1 h2).2⟩ h
      · rw [if_neg h2]
    · rw [if_neg h1]
end Go.Proofs.Ytimkchehdaadeaa.P
end
