/- Part 41 of a proof: the statement CodesOne: for every input its law returns true (its texts without what nothing here names). -/
import Derived.Test.YtimkchehdaadeaaZOne30
import Derived.Test.YtimkchehdaadeaaZOne32

section
namespace Go.Proofs.Ytimkchehdaadeaa.P
open Go.RowKit Go.Proofs.YtimkchehdaadeaaW.PrintWords Go.Proofs.YtimkchehdaadeaaW.PrintLast Go.Proofs.YtimkchehdaadeaaW.PrintMore
set_option linter.unusedVariables false
set_option linter.unusedSimpArgs false
def showB (L : List (List Int)) (i s : Nat) : Bool := L.any fun c => decide (i < c.length) && (rd c i == (s : Int))
def showT (L : List (List Int)) (x : List Int) (t i s : Nat) : Bool := showB L i s || (decide (i < t) && (rd x i == (s : Int)))
theorem showT_zero (L : List (List Int)) (x : List Int) : showT L x 0 = showB L := by
  funext i s; simp [showT]
theorem showT_all (L : List (List Int)) (x : List Int) : showT L x x.length = showB (L ++ [x]) := by
  funext i s; simp [showT, showB]
theorem showT_next (L : List (List Int)) (x : List Int) (t s' : Nat) (h : rd x (t : Nat) = (s' : Int)) : (fun i s => showT L x t i s || (decide (i = t) && decide (s = s'))) = showT L x (t + 1) := by
  funext i s
  unfold showT
  by_cases hi : i = t
  · subst hi
    have e1 : (rd x (i : Nat) == (s : Int)) = decide (s = s') := by rw [h, Bool.eq_iff_iff]; simp; omega
    simp [e1]
  · have e2 : decide (i < t + 1) = decide (i < t) := decide_eq_decide.2 (by omega)
    simp [hi, e2]
def grid40 (f : Nat → Nat → Bool) : Array Value := ((List.range 40).map fun j : Nat => Value.bool (f (j / 10) (j % 10))).toArray
theorem grid40_get (f : Nat → Nat → Bool) (i s j : Nat) (hi : i < 4) (hs : s < 10) (hj : j = i * 10 + s) : (grid40 f)[j]? = some (.bool (f i s)) := by
  subst hj
  have h : i * 10 + s < 40 := by omega
  have e1 : (i * 10 + s) / 10 = i := by omega
  have e2 : (i * 10 + s) % 10 = s := by omega
  simp [grid40, h, e1, e2]
theorem grid40_put (f g : Nat → Nat → Bool) (i s : Nat) (hi : i < 4) (hs : s < 10) (hg : (fun i' s' => f i' s' || (decide (i' = i) && decide (s' = s))) = g) : (grid40 f).setIfInBounds (i * 10 + s) (.bool true) = grid40 g := by
  subst hg
  apply Array.ext'
  simp only [grid40, Array.toList_setIfInBounds]
  apply List.ext_getElem?
  intro j
  rw [List.getElem?_set]
  by_cases hj : j < 40
  · by_cases he : i * 10 + s = j
    · rw [if_pos he, if_pos (by simp; omega)]
      have e1 : j / 10 = i := by omega
      have e2 : j % 10 = s := by omega
      simp [List.getElem?_map, List.getElem?_range hj, e1, e2]
    · have : ¬ (j / 10 = i ∧ j % 10 = s) := fun e => he (by omega)
      rw [if_neg he]
      simp only [List.getElem?_map, List.getElem?_range hj, Option.map_some, Option.some.injEq, Value.bool.injEq]
      by_cases h1 : j / 10 = i
      · have h2 : ¬ j % 10 = s := fun h => this ⟨h1, h⟩
        simp [h2]
      · simp [h1]
  · rw [if_neg (by omega)]
    simp [hj]
theorem grid40_zero : grid40 (showB []) = #[.bool false, .bool false, .bool false, .bool false, .bool false, .bool false, .bool false, .bool false, .bool false, .bool false, .bool false, .bool false, .bool false, .bool false, .bool false, .bool false, .bool false, .bool false, .bool false, .bool false, .bool false, .bool false, .bool false, .bool false, .bool false, .bool false, .bool false, .bool false, .bool false, .bool false, .bool false, .bool false, .bool false, .bool false, .bool false, .bool false, .bool false, .bool false, .bool false, .bool false] := by
  simp [grid40, showB, List.range, List.range.loop]
def rowA (L : List (List Int)) (i : Nat) : Array Value := ((List.range 10).map fun k : Nat => Value.bool (showB L i k)).toArray
theorem rowA_lit (L : List (List Int)) (i : Nat) : #[.bool (showB L i 0), .bool (showB L i 1), .bool (showB L i 2), .bool (showB L i 3), .bool (showB L i 4), .bool (showB L i 5), .bool (showB L i 6), .bool (showB L i 7), .bool (showB L i 8), .bool (showB L i 9)] = rowA L i := by
  simp [rowA, List.range, List.range.loop]
theorem rowA_get (L : List (List Int)) (i j : Nat) (h : j < 10) : (rowA L i)[j]? = some (.bool (showB L i j)) := by
  simp [rowA, h]
def symsTo (L : List (List Int)) (i m : Nat) : List Int := ((List.range m).filter (showB L i)).map fun s : Nat => (s : Int)
theorem symsTo_zero (L : List (List Int)) (i : Nat) : symsTo L i 0 = [] := rfl
theorem symsTo_succ (L : List (List Int)) (i m : Nat) : symsTo L i (m + 1) = if showB L i m = true then symsTo L i m ++ [(m : Int)] else symsTo L i m := by
  unfold symsTo
  rw [List.range_succ, List.filter_append, List.map_append]
  by_cases h : showB L i m = true <;> simp [List.filter_cons, h]
theorem symsTo_len (L : List (List Int)) (i m : Nat) : (symsTo L i m).length ≤ m := by
  unfold symsTo
  rw [List.length_map]
  exact Nat.le_trans (List.length_filter_le _ _) (by simp)
def rowsTo (L : List (List Int)) (n M i m : Nat) : List (List Int) := (List.range n).map fun k => if k < i then symsTo L k M else if k = i then symsTo L k m else []
theorem rowsTo_len (L : List (List Int)) (n M i m : Nat) : (rowsTo L n M i m).length = n := by simp [rowsTo]
theorem rowsTo_get (L : List (List Int)) (n M i m : Nat) (h : i < n) (z : List Int) : (rowsTo L n M i m).getD i z = symsTo L i m := by
  simp [rowsTo, List.getD_eq_getElem?_getD, h]
theorem rowsTo_zero (L : List (List Int)) (n M : Nat) : rowsTo L n M 0 0 = List.replicate n [] := by
  unfold rowsTo
  apply List.ext_getElem?
  intro k
  rw [List.getElem?_map, List.getElem?_replicate]
  by_cases h : k < n
  · rw [List.getElem?_range h, if_pos h]
    simp [symsTo_zero]
  · rw [if_neg h]; simp [h]
theorem rowsTo_next (L : List (List Int)) (n M i : Nat) (h : i < n) : rowsTo L n M i M = rowsTo L n M (i + 1) 0 := by
  unfold rowsTo
  apply List.map_congr_left
  intro k _
  by_cases h1 : k < i
  · rw [if_pos h1, if_pos (by omega)]
  · rw [if_neg h1]
    by_cases h2 : k = i
    · subst h2; rw [if_pos rfl, if_pos (by omega)]
    · rw [if_neg h2, if_neg (by omega)]
      split
      · rfl
      · rfl
theorem rowsTo_set (L : List (List Int)) (n M i m : Nat) (h : i < n) (hs : showB L i m = true) : (rowsTo L n M i m).set i (symsTo L i m ++ [(m : Int)]) = rowsTo L n M i (m + 1) := by
  apply List.ext_getElem?
  intro k
  rw [List.getElem?_set, rowsTo_len]
  unfold rowsTo
  rw [List.getElem?_map, List.getElem?_map]
  by_cases hk : k < n
  · rw [List.getElem?_range hk]
    by_cases e : i = k
    · subst e
      rw [if_pos rfl, if_pos h]
      simp [symsTo_succ, hs]
    · rw [if_neg e]
      simp [show ¬ k = i from fun h => e h.symm]
  · rw [if_neg (by omega)]
    simp [hk]
theorem rowsTo_skip (L : List (List Int)) (n M i m : Nat) (hs : showB L i m = false) : rowsTo L n M i m = rowsTo L n M i (m + 1) := by
  unfold rowsTo
  apply List.map_congr_left
  intro k _
  by_cases e : k = i
  · subst e
    simp [symsTo_succ, hs]
  · simp [e]
def showsS (W S : Int) (l : List S36) (M : Nat) : List (List Int) × Int :=
  if checkCluesS W S l = 0 then (rowsTo (readingsL S.toNat W.toNat l) W.toNat M W.toNat 0, 0) else ([], checkCluesS W S l)
end Go.Proofs.Ytimkchehdaadeaa.P
end
section
namespace Go.Proofs.Ytimkchehdaadeaa.P
open Go.RowKit
def pairS (W S : Int) (l : List S36) : List Int × List Int × Int :=
  if checkCluesS W S l = 0 then (if (readingsL S.toNat W.toNat l).length < 2 then ([], [], 3) else ((readingsL S.toNat W.toNat l).getD 0 [], (readingsL S.toNat W.toNat l).getD ((readingsL S.toNat W.toNat l).length - 1) [], 0)) else ([], [], checkCluesS W S l)
theorem pair_sub (N j : Nat) (h : j = N - 1) (h0 : 1 < N) (hb : N ≤ 10000) : wrap64 ((N : Int) - 1) = (j : Int) := by rw [wrap_small (by omega) (by omega)]; omega
end Go.Proofs.Ytimkchehdaadeaa.P
end
