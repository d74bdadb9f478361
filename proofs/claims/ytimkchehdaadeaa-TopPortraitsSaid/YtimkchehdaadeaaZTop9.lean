/- Part 9 of a proof: the statement TopPortraits: for every input its law returns true (its texts without what nothing here names). -/
import Derived.Test.YtimkchehdaadeaaZTop7

namespace Go.Proofs.Ytimkchehdaadeaa.P
open Go.RowKit Go.Proofs.YtimkchehdaadeaaW.PrintWords Go.Proofs.YtimkchehdaadeaaW.PrintLast Go.Proofs.YtimkchehdaadeaaW.PrintMore
theorem ret_int {k : IntKind} {a b : Int} (h : a = b) : Ending.returned (.int k a) = .returned (.int k b) := by rw [h]
theorem ret_bool {a b : Bool} (h : a = b) : Ending.returned (.bool a) = .returned (.bool b) := by rw [h]
def rightTo (l0 l1 : List Int) (i : Nat) : Nat := ((l0.zip l1).take i).countP (fun p => p.1 == p.2)
def commonTo (l0 l1 : List Int) : Nat → Nat
  | 0 => 0
  | j + 1 => commonTo l0 l1 j + min (l0.count (j : Int)) (l1.count (j : Int))
def dig (l : List Int) : Prop := ∀ x ∈ l, 0 ≤ x ∧ x < 10
instance (l : List Int) : Decidable (dig l) := by unfold dig; infer_instance
theorem rightTo_zero (l0 l1 : List Int) : rightTo l0 l1 0 = 0 := by simp [rightTo]
theorem rightTo_succ (l0 l1 : List Int) (i : Nat) (h0 : i < l0.length) (h1 : i < l1.length) :
    rightTo l0 l1 (i + 1) = rightTo l0 l1 i + if rd l0 i = rd l1 i then 1 else 0 := by
  have hz : i < (l0.zip l1).length := by simp; omega
  unfold rightTo
  rw [List.take_succ_eq_append_getElem hz, List.countP_append]
  simp [List.countP_cons, rd, List.getD_eq_getElem?_getD, List.getElem?_eq_getElem h0, List.getElem?_eq_getElem h1]
theorem rightTo_le (l0 l1 : List Int) (i : Nat) : rightTo l0 l1 i ≤ i := by
  unfold rightTo
  exact Nat.le_trans List.countP_le_length (by simp; omega)
theorem count_take_succ (l : List Int) (i : Nat) (h : i < l.length) (s : Int) : (l.take (i + 1)).count s = (l.take i).count s + if rd l i = s then 1 else 0 := by
  rw [List.take_succ_eq_append_getElem h, List.count_append]
  simp [List.count_cons, rd, List.getD_eq_getElem?_getD, List.getElem?_eq_getElem h]
theorem count_take_le (l : List Int) (i : Nat) (s : Int) : (l.take i).count s ≤ i := Nat.le_trans List.count_le_length (by simp; omega)
def tens (l : List Int) : Array Value := ((List.range 10).map fun s : Nat => Value.int .i64 ((l.count (s : Int) : Nat) : Int)).toArray
theorem tens_nil : tens [] = #[.int .i64 0, .int .i64 0, .int .i64 0, .int .i64 0, .int .i64 0, .int .i64 0, .int .i64 0, .int .i64 0, .int .i64 0, .int .i64 0] := by
  simp [tens, List.range, List.range.loop]
theorem tens_get (l : List Int) (x : Int) (h0 : 0 ≤ x) (h1 : x < 10) : (tens l)[x.toNat]? = some (.int .i64 ((l.count x : Nat) : Int)) := by
  have h : x.toNat < 10 := by omega
  simp [tens, h, Int.toNat_of_nonneg h0]
theorem tens_put (l : List Int) (i : Nat) (h : i < l.length) (x : Int) (hx : x = rd l i) (h0 : 0 ≤ x) (h1 : x < 10) :
    (tens (l.take i)).setIfInBounds x.toNat (.int .i64 (((l.take i).count x : Nat) + 1)) = tens (l.take (i + 1)) := by
  apply Array.ext'
  simp only [tens, Array.toList_setIfInBounds]
  apply List.ext_getElem?
  intro j
  rw [List.getElem?_set]
  by_cases hj : j < 10
  · by_cases he : x.toNat = j
    · subst he
      simp only [if_true]
      rw [if_pos (by simpa using hj)]
      simp only [List.getElem?_map, List.getElem?_range hj, Option.map_some]
      rw [Int.toNat_of_nonneg h0, count_take_succ l i h, if_pos hx.symm]
      simp
    · rw [if_neg he]
      simp only [List.getElem?_map, List.getElem?_range hj, Option.map_some]
      rw [count_take_succ l i h, if_neg (by rw [← hx]; omega)]
      simp
  · rw [if_neg (by omega)]
    simp [hj]
theorem dig_rd (l : List Int) (h : dig l) (i : Int) (h0 : 0 ≤ i) (h1 : i < l.length) : 0 ≤ rd l i ∧ rd l i < 10 := by
  have hi : i.toNat < l.length := by omega
  have := h (l[i.toNat]) (List.getElem_mem hi)
  simpa [rd, List.getD_eq_getElem?_getD, List.getElem?_eq_getElem hi] using this
theorem commonTo_lt (l0 l1 : List Int) (j : Nat) : commonTo l0 l1 j ≤ l0.countP (fun x => decide (0 ≤ x ∧ x < (j : Int))) := by
  induction j with
  | zero => simp [commonTo]
  | succ j ih =>
    have key : l0.countP (fun x => decide (0 ≤ x ∧ x < ((j + 1 : Nat) : Int))) = l0.countP (fun x => decide (0 ≤ x ∧ x < (j : Int))) + l0.count (j : Int) := by
      clear ih
      induction l0 with
      | nil => rfl
      | cons a l ih =>
        simp only [List.countP_cons, List.count_cons, ih]
        have e1 : (if decide (0 ≤ a ∧ a < ((j + 1 : Nat) : Int)) = true then 1 else 0) = (if decide (0 ≤ a ∧ a < (j : Int)) = true then 1 else 0) + (if (a == (j : Int)) = true then 1 else 0) := by
          by_cases h1 : a = (j : Int)
          · rw [if_pos (by simp; omega), if_neg (by simp; omega), if_pos (by simpa using h1)]
          · by_cases h2 : 0 ≤ a ∧ a < (j : Int)
            · rw [if_pos (by simp; omega), if_pos (by simpa using h2), if_neg (by simpa using h1)]
            · rw [if_neg (by simp; omega), if_neg (by simpa using h2), if_neg (by simpa using h1)]
        rw [e1]
        omega
    simp only [commonTo]
    omega
theorem commonTo_le (l0 l1 : List Int) (j : Nat) : commonTo l0 l1 j ≤ l0.length := Nat.le_trans (commonTo_lt l0 l1 j) List.countP_le_length
def okLock (W S : Int) : Prop := 1 ≤ W ∧ W ≤ 4 ∧ 2 ≤ S ∧ S ≤ 10
instance (W S : Int) : Decidable (okLock W S) := by unfold okLock; infer_instance
def inRange (lo hi x : Int) : Bool := decide (lo ≤ x) && decide (x ≤ hi)
theorem inRange_iff {lo hi x : Int} : inRange lo hi x = true ↔ lo ≤ x ∧ x ≤ hi := by simp [inRange]
def isCodeB (W S : Int) (l : List Int) : Bool := decide ((l.length : Int) = W) && l.all (inRange 0 (S - 1))
theorem isCodeB_iff {W S : Int} {l : List Int} : isCodeB W S l = true ↔ (l.length : Int) = W ∧ ∀ x ∈ l, 0 ≤ x ∧ x ≤ S - 1 := by
  simp [isCodeB, inRange_iff]
theorem wrap_small {x : Int} (h0 : -9223372036854775808 ≤ x) (h1 : x ≤ 9223372036854775807) : wrap64 x = x := by unfold wrap64; omega
theorem blocks1 {w X w1 : World} {a : Array Value} {t1 : TypeId} (hX : X.heap = (w.alloc (.cells a t1)).heap) (hb : Below X.heap.size X w1) : w1.heap[w.heap.size]? = some (.cells a t1 (0, 0)) := by
  refine (hb.block _ (by rw [hX]; simp)).trans ?_
  rw [hX]; exact blk_new w _
theorem blocks3 {w X w1 : World} {a b c : Array Value} {t1 t2 t3 : TypeId} (hX : X.heap = (((w.alloc (.cells a t1)).alloc (.cells b t2)).alloc (.cells c t3)).heap) (hb : Below X.heap.size X w1) :
    w1.heap[w.heap.size]? = some (.cells a t1 (0, 0)) ∧ w1.heap[w.heap.size + 1]? = some (.cells b t2 (0, 0)) ∧ w1.heap[w.heap.size + 1 + 1]? = some (.cells c t3 (0, 0)) := by
  refine ⟨(hb.block _ (by rw [hX]; simp; omega)).trans ?_, (hb.block _ (by rw [hX]; simp)).trans ?_, (hb.block _ (by rw [hX]; simp)).trans ?_⟩
  · rw [hX]; exact blk_alloc (blk_alloc (blk_new w _) _) _
  · rw [hX]; have := blk_new (w.alloc (.cells a t1)) (.cells b t2); rw [World.size_alloc] at this; exact blk_alloc this _
  · rw [hX]; have := blk_new ((w.alloc (.cells a t1)).alloc (.cells b t2)) (.cells c t3); rwa [World.size_alloc, World.size_alloc] at this
theorem cells2 {w : World} {g : Nat} {t : TypeId} {a b : Value} (h : w.heap[g]? = some (.cells #[a, b] t (0, 0))) : w.cell? ⟨g, 0, none⟩ = some a ∧ w.cell? ⟨g, 1, none⟩ = some b := ⟨(blk_cell h 0).trans rfl, (blk_cell h 1).trans rfl⟩
theorem cells7 {w : World} {g : Nat} {t : TypeId} {a0 a1 a2 a3 a4 a5 a6 : Value} (h : w.heap[g]? = some (.cells #[a0, a1, a2, a3, a4, a5, a6] t (0, 0))) :
    w.cell? ⟨g, 0, none⟩ = some a0 ∧ w.cell? ⟨g, 1, none⟩ = some a1 ∧ w.cell? ⟨g, 2, none⟩ = some a2 ∧ w.cell? ⟨g, 3, none⟩ = some a3 ∧ w.cell? ⟨g, 4, none⟩ = some a4 ∧ w.cell? ⟨g, 5, none⟩ = some a5 ∧ w.cell? ⟨g, 6, none⟩ = some a6 :=
  ⟨(blk_cell h 0).trans rfl, (blk_cell h 1).trans rfl, (blk_cell h 2).trans rfl, (blk_cell h 3).trans rfl, (blk_cell h 4).trans rfl, (blk_cell h 5).trans rfl, (blk_cell h 6).trans rfl⟩
theorem below_of_heap3 {w X : World} {a b c : Obj} (ho : X.os = w.os) (ht : X.tape = w.tape) (hp : X.output = w.output) (hX : X.heap = (((w.alloc a).alloc b).alloc c).heap) : Below w.heap.size w X :=
  ⟨ho, ht, hp, by rw [hX]; simp; omega, fun k hk => by rw [hX]; exact ((((Below.refl _ w).alloc (Nat.le_refl _) a).alloc (by simp) b).alloc (by simp; omega) c).block k hk⟩
theorem below_of_heap1 {w X : World} {a : Obj} (ho : X.os = w.os) (ht : X.tape = w.tape) (hp : X.output = w.output) (hX : X.heap = (w.alloc a).heap) : Below w.heap.size w X :=
  ⟨ho, ht, hp, by rw [hX]; simp, fun k hk => by rw [hX]; exact ((Below.refl _ w).alloc (Nat.le_refl _) a).block k hk⟩
theorem start1 {w X w1 : World} {a : Array Value} {t1 : TypeId} (hb : Below X.heap.size X w1) (ho : X.os = w.os) (ht : X.tape = w.tape) (hp : X.output = w.output) (hX : X.heap = (w.alloc (.cells a t1)).heap) :
    Below w.heap.size w w1 ∧ w1.heap[w.heap.size]? = some (.cells a t1 (0, 0)) := ⟨below_then (below_of_heap1 ho ht hp hX) (by rw [hX]; simp) hb, blocks1 hX hb⟩
theorem start3 {w X w1 : World} {a b c : Array Value} {t1 t2 t3 : TypeId} (hb : Below X.heap.size X w1) (ho : X.os = w.os) (ht : X.tape = w.tape) (hp : X.output = w.output) (hX : X.heap = (((w.alloc (.cells a t1)).alloc (.cells b t2)).alloc (.cells c t3)).heap) :
    Below w.heap.size w w1 ∧ w1.heap[w.heap.size]? = some (.cells a t1 (0, 0)) ∧ w1.heap[w.heap.size + 1]? = some (.cells b t2 (0, 0)) ∧ w1.heap[w.heap.size + 1 + 1]? = some (.cells c t3 (0, 0)) := ⟨below_then (below_of_heap3 ho ht hp hX) (by rw [hX]; simp; omega) hb, (blocks3 hX hb).1, (blocks3 hX hb).2⟩
end Go.Proofs.Ytimkchehdaadeaa.P
