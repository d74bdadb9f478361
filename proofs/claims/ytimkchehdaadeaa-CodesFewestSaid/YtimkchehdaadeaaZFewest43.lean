/- Part 43 of a proof: the statement CodesFewest: for every input its law returns true (its texts without what nothing here names). -/
import Derived.Test.YtimkchehdaadeaaZFewest41
import Derived.Test.YtimkchehdaadeaaZFewest42

namespace Go.Proofs.Ytimkchehdaadeaa.P
open Go.RowKit Go.Proofs.YtimkchehdaadeaaW.PrintWords Go.Proofs.YtimkchehdaadeaaW.PrintLast Go.Proofs.YtimkchehdaadeaaW.PrintMore
set_option linter.unusedVariables false
set_option linter.unusedSimpArgs false
def rowsT (l : List S36) (pre : List (List Int)) (x : List Int) (j : Nat) : List (List Bool) :=
  (List.range l.length).map fun i : Nat => if i < j then (pre ++ [x]).map (holdsC (rd_T36 l (i : Int))) else pre.map (holdsC (rd_T36 l (i : Int)))
def rowsB (l : List S36) (pre : List (List Int)) : List (List Bool) := (List.range l.length).map fun i : Nat => pre.map (holdsC (rd_T36 l (i : Int)))
theorem rowsB_len (l : List S36) (pre : List (List Int)) : (rowsB l pre).length = l.length := by simp [rowsB]
theorem rowsT_len (l : List S36) (pre : List (List Int)) (x : List Int) (j : Nat) : (rowsT l pre x j).length = l.length := by simp [rowsT]
theorem rowsB_nil (l : List S36) : rowsB l [] = List.replicate l.length [] := by
  unfold rowsB
  apply List.ext_getElem?
  intro k
  rw [List.getElem?_map, List.getElem?_replicate]
  by_cases h : k < l.length
  · rw [List.getElem?_range h, if_pos h]; rfl
  · rw [if_neg h]; simp [h]
theorem rowsT_zero (l : List S36) (pre : List (List Int)) (x : List Int) : rowsT l pre x 0 = rowsB l pre := by simp [rowsT, rowsB]
theorem rowsT_all (l : List S36) (pre : List (List Int)) (x : List Int) : rowsT l pre x l.length = rowsB l (pre ++ [x]) := by
  unfold rowsT rowsB
  apply List.map_congr_left
  intro i hi
  rw [if_pos (List.mem_range.1 hi)]
theorem rowsT_get (l : List S36) (pre : List (List Int)) (x : List Int) (j : Nat) (h : j < l.length) : (rowsT l pre x j).getD j [] = pre.map (holdsC (rd_T36 l (j : Int))) := by
  simp [rowsT, List.getD_eq_getElem?_getD, h]
theorem rowsT_set (l : List S36) (pre : List (List Int)) (x : List Int) (j : Nat) (h : j < l.length) : (rowsT l pre x j).set j (pre.map (holdsC (rd_T36 l (j : Int))) ++ [holdsC (rd_T36 l (j : Int)) x]) = rowsT l pre x (j + 1) := by
  apply List.ext_getElem?
  intro k
  rw [List.getElem?_set, rowsT_len]
  unfold rowsT
  rw [List.getElem?_map, List.getElem?_map]
  by_cases hk : k < l.length
  · rw [List.getElem?_range hk]
    by_cases e : j = k
    · subst e
      rw [if_pos rfl, if_pos h]
      simp
    · rw [if_neg e]
      by_cases h1 : k < j
      · simp [h1, show k < j + 1 by omega]
      · simp [h1, show ¬ k < j + 1 by omega]
  · rw [if_neg (by omega)]
    simp [hk]
theorem rowsB_get (l : List S36) (pre : List (List Int)) (i : Nat) (h : i < l.length) : (rowsB l pre).getD i [] = pre.map (holdsC (rd_T36 l (i : Int))) := by
  simp [rowsB, List.getD_eq_getElem?_getD, h]
theorem filter_range {α : Type} (z : α) (p : α → Bool) (L : List α) : ((List.range L.length).filter fun k => p (L.getD k z)).length = (L.filter p).length := by
  have e : (List.range L.length).map (fun k => L.getD k z) = L := by
    apply List.ext_getElem?
    intro k
    rw [List.getElem?_map]
    by_cases hk : k < L.length
    · rw [List.getElem?_range hk]; simp [List.getD_eq_getElem?_getD, hk]
    · simp [hk]
  conv => rhs; rw [← e]
  rw [List.filter_map, List.length_map]
  rfl
theorem sumB_rows (s n : Nat) (l : List S36) (ch : List Nat) (hch : ∀ i ∈ ch, i < l.length) : sumB (rowsB l (allCodes s n)) ch (allCodes s n).length = (readingsL s n (pick l ch)).length := by
  unfold sumB readingsL
  rw [← filter_range [] (fitsAll (pick l ch)) (allCodes s n)]
  congr 1
  apply List.filter_congr
  intro k hk
  have hk := List.mem_range.1 hk
  rw [Bool.eq_iff_iff, List.all_eq_true]
  unfold fitsAll
  rw [Bool.not_eq_true', List.any_eq_false]
  have hat : ∀ i ∈ ch, atB (rowsB l (allCodes s n)) i k = holdsC (rd_T36 l (i : Int)) ((allCodes s n).getD k []) := fun i hi => by
    unfold atB
    rw [rowsB_get l _ i (hch i hi)]
    simp [List.getD_eq_getElem?_getD, hk]
  constructor
  · intro h q hq
    obtain ⟨i, hi, rfl⟩ := List.mem_map.1 hq
    have := h i hi
    rw [hat i hi] at this
    rw [this]; simp
  · intro h i hi
    rw [hat i hi]
    have := h (rd_T36 l (i : Int)) (List.mem_map.2 ⟨i, hi, rfl⟩)
    simpa using this
end Go.Proofs.Ytimkchehdaadeaa.P
