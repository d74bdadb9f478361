/- Part 45 of a proof: the statement TopPortraits: for every input its law returns true (its texts without what nothing here names). -/
import Derived.Test.YtimkchehdaadeaaZTop14
import Derived.Test.YtimkchehdaadeaaZTop33
import Derived.Test.YtimkchehdaadeaaZTop34
import Derived.Test.YtimkchehdaadeaaZTop42
import Derived.Test.YtimkchehdaadeaaZTop44

section
namespace Go.Proofs.Ytimkchehdaadeaa.P
open Go.RowKit Go.Proofs.YtimkchehdaadeaaW.PrintWords Go.Proofs.YtimkchehdaadeaaW.PrintLast Go.Proofs.YtimkchehdaadeaaW.PrintMore
set_option linter.unusedVariables false
set_option linter.unusedSimpArgs false
def castL (l : List Nat) : List Int := l.map fun i : Nat => (i : Int)
theorem castL_len (l : List Nat) : (castL l).length = l.length := by simp [castL]
theorem castL_snoc (l : List Nat) (x : Nat) : castL (l ++ [x]) = castL l ++ [(x : Int)] := by simp [castL]
section
variable {n s : Nat} (hl : okLock (n : Int) (s : Int)) {l : List S36} (hv : l.all (validC (n : Int) (s : Int)) = true) (hm : l.length ≤ 20)
include hl hv hm
end
end Go.Proofs.Ytimkchehdaadeaa.P
end
section
namespace Go.Proofs.Ytimkchehdaadeaa.P
open Go.RowKit Go.Proofs.YtimkchehdaadeaaW.PrintWords Go.Proofs.YtimkchehdaadeaaW.PrintLast Go.Proofs.YtimkchehdaadeaaW.PrintMore
set_option linter.unusedVariables false
set_option linter.unusedSimpArgs false
def plc (n : Nat) (h : List Nat) : List Int := (List.range n).map fun p => if p ∈ h then ((h.idxOf p : Nat) : Int) else -1
theorem plc_len (n : Nat) (h : List Nat) : (plc n h).length = n := by simp [plc]
theorem plc_nil (n : Nat) : plc n [] = List.replicate n (-1) := by
  unfold plc
  apply List.ext_getElem?
  intro k
  rw [List.getElem?_map, List.getElem?_replicate]
  by_cases hk : k < n
  · rw [List.getElem?_range hk, if_pos hk]; rfl
  · rw [if_neg hk]; simp [hk]
theorem plc_rd (n : Nat) (h : List Nat) (p : Nat) (hp : p < n) : rd (plc n h) (p : Int) = if p ∈ h then ((h.idxOf p : Nat) : Int) else -1 := by
  simp [rd, plc, List.getD_eq_getElem?_getD, hp]
theorem plc_put (n : Nat) (h : List Nat) (p : Nat) (hp : p < n) (hh : p ∉ h) : (plc n h).set p ((h.length : Nat) : Int) = plc n (h ++ [p]) := by
  apply List.ext_getElem?
  intro k
  rw [List.getElem?_set, plc_len]
  unfold plc
  rw [List.getElem?_map, List.getElem?_map]
  by_cases hk : k < n
  · rw [List.getElem?_range hk]
    by_cases e : p = k
    · subst e
      rw [if_pos rfl, if_pos hp]
      simp [List.idxOf_append, hh]
    · rw [if_neg e]
      by_cases hm : k ∈ h
      · simp [hm, List.idxOf_append]
      · simp [hm, show ¬ k = p from fun h => e h.symm]
  · rw [if_neg (by omega)]; simp [hk]
theorem plc_back (n : Nat) (h : List Nat) (p : Nat) (hp : p < n) (hh : p ∉ h) : (plc n (h ++ [p])).set p (-1) = plc n h := by
  rw [← plc_put n h p hp hh, List.set_set]
  apply List.ext_getElem?
  intro k
  rw [List.getElem?_set, plc_len]
  by_cases e : p = k
  · subst e
    rw [if_pos rfl, if_pos hp]
    unfold plc
    rw [List.getElem?_map, List.getElem?_range hp]
    simp [hh]
  · rw [if_neg e]
def hang (n : Nat) : Nat → List Nat → List (List Nat)
  | 0, h => [h]
  | d + 1, h => (List.range n).flatMap fun p => if p ∈ h then [] else hang n d (h ++ [p])
def hangTo (n d m : Nat) (h : List Nat) : List (List Nat) := (List.range m).flatMap fun p => if p ∈ h then [] else hang n d (h ++ [p])
theorem hangTo_zero (n d : Nat) (h : List Nat) : hangTo n d 0 h = [] := rfl
theorem hangTo_succ (n d m : Nat) (h : List Nat) : hangTo n d (m + 1) h = hangTo n d m h ++ (if m ∈ h then [] else hang n d (h ++ [m])) := by
  unfold hangTo
  rw [List.range_succ, List.flatMap_append]; simp
theorem hangTo_all (n d : Nat) (h : List Nat) : hangTo n d n h = hang n (d + 1) h := rfl
theorem hangTo_prefix (n d : Nat) (h : List Nat) {m k : Nat} (hm : m ≤ k) : hangTo n d m h <+: hangTo n d k h := by
  obtain ⟨j, rfl⟩ := Nat.exists_eq_add_of_le hm
  induction j with
  | zero => exact List.prefix_refl _
  | succ j ih => exact (ih (by omega)).trans (by rw [← Nat.add_assoc, hangTo_succ]; exact List.prefix_append _ _)
def okH (l : List S57) (n : Nat) (h : List Nat) : Bool := !(l.any fun q => !hangsB (plc n h) q)
end Go.Proofs.Ytimkchehdaadeaa.P
end
