/- Part 37 of a proof: the statement CodesDecoys: for every input its law returns true (its texts without what nothing here names). -/
import Derived.Test.YtimkchehdaadeaaZDecoys28

namespace Go.Proofs.Ytimkchehdaadeaa.P
open Go.RowKit Go.Proofs.YtimkchehdaadeaaW.PrintWords Go.Proofs.YtimkchehdaadeaaW.PrintLast Go.Proofs.YtimkchehdaadeaaW.PrintMore
set_option linter.unusedVariables false
set_option linter.unusedSimpArgs false
def idleP (s n : Nat) (l : List S36) (i : Nat) : Bool := (readingsL s n (l.eraseIdx i)).length == (readingsL s n l).length
def idleTo (s n : Nat) (l : List S36) (m : Nat) : List Int := ((List.range m).filter (idleP s n l)).map fun i : Nat => (i : Int)
theorem idleTo_succ (s n : Nat) (l : List S36) (m : Nat) : idleTo s n l (m + 1) = if idleP s n l m = true then idleTo s n l m ++ [(m : Int)] else idleTo s n l m := by
  unfold idleTo
  rw [List.range_succ, List.filter_append, List.map_append]
  by_cases h : idleP s n l m = true <;> simp [List.filter_cons, h]
theorem idleTo_len (s n : Nat) (l : List S36) (m : Nat) : (idleTo s n l m).length ≤ m := by
  unfold idleTo
  rw [List.length_map]
  exact Nat.le_trans (List.length_filter_le _ _) (by simp)
def idleS (W S : Int) (l : List S36) : List Int × Int := if checkCluesS W S l = 0 then (idleTo S.toNat W.toNat l l.length, 0) else ([], checkCluesS W S l)
theorem all_erase {p : S36 → Bool} {l : List S36} (h : l.all p = true) (i : Nat) : (l.eraseIdx i).all p = true := by
  rw [List.all_eq_true] at h ⊢
  exact fun x hx => h x (List.mem_of_mem_eraseIdx hx)
def coreStep (s n N : Nat) (st : List S36 × List Int) (i : Nat) : List S36 × List Int :=
  if (readingsL s n (st.1.eraseIdx st.2.length)).length = N then (st.1.eraseIdx st.2.length, st.2) else (st.1, st.2 ++ [(i : Int)])
def coreTo (s n : Nat) (l : List S36) (m : Nat) : List S36 × List Int := (List.range m).foldl (coreStep s n (readingsL s n l).length) (l, [])
theorem coreTo_zero (s n : Nat) (l : List S36) : coreTo s n l 0 = (l, []) := rfl
theorem coreTo_succ (s n : Nat) (l : List S36) (m : Nat) : coreTo s n l (m + 1) = coreStep s n (readingsL s n l).length (coreTo s n l m) m := by
  unfold coreTo
  rw [List.range_succ, List.foldl_append]; rfl
theorem coreTo_len (s n : Nat) (l : List S36) : ∀ m, m ≤ l.length → (coreTo s n l m).2.length + (l.length - m) = (coreTo s n l m).1.length ∧ (coreTo s n l m).2.length ≤ m
  | 0, _ => by simp [coreTo_zero]
  | m + 1, h => by
    obtain ⟨h1, h2⟩ := coreTo_len s n l m (by omega)
    rw [coreTo_succ]
    unfold coreStep
    split
    · simp only
      rw [List.length_eraseIdx_of_lt (by omega)]
      omega
    · simp only [List.length_append, List.length_singleton]
      omega
theorem coreTo_all {p : S36 → Bool} (s n : Nat) {l : List S36} (h : l.all p = true) : ∀ m, (coreTo s n l m).1.all p = true
  | 0 => h
  | m + 1 => by
    rw [coreTo_succ]
    unfold coreStep
    split
    · exact all_erase (coreTo_all s n h m) _
    · exact coreTo_all s n h m
def coreS (W S : Int) (l : List S36) : List Int × Int := if checkCluesS W S l = 0 then ((coreTo S.toNat W.toNat l l.length).2, 0) else ([], checkCluesS W S l)
end Go.Proofs.Ytimkchehdaadeaa.P
