/- Part 41 of a proof: the statement CodesFewest: for every input its law returns true (its texts without what nothing here names). -/
import Derived.Test.YtimkchehdaadeaaZFewest19
import Derived.Test.YtimkchehdaadeaaZFewest25
import Derived.Test.YtimkchehdaadeaaZFewest27
import Derived.Test.YtimkchehdaadeaaZFewest28
import Derived.Test.YtimkchehdaadeaaZFewest38
import Derived.Test.YtimkchehdaadeaaZFewest40

section
namespace Go.Proofs.Ytimkchehdaadeaa.P
open Go.RowKit Go.Proofs.YtimkchehdaadeaaW.PrintWords Go.Proofs.YtimkchehdaadeaaW.PrintLast Go.Proofs.YtimkchehdaadeaaW.PrintMore
set_option linter.unusedVariables false
set_option linter.unusedSimpArgs false
def castL (l : List Nat) : List Int := l.map fun i : Nat => (i : Int)
def pick (l : List S36) (L : List Nat) : List S36 := L.map fun i : Nat => rd_T36 l (i : Int)
theorem castL_len (l : List Nat) : (castL l).length = l.length := by simp [castL]
theorem castL_snoc (l : List Nat) (x : Nat) : castL (l ++ [x]) = castL l ++ [(x : Int)] := by simp [castL]
theorem castL_rd (l : List Nat) (i : Nat) (h : i < l.length) : rd (castL l) (i : Int) = (l[i] : Int) := by
  rw [rd_get _ i (by rw [castL_len]; exact h)]; simp [castL]
section
variable {n s : Nat} (hl : okLock (n : Int) (s : Int)) {l : List S36} (hv : l.all (validC (n : Int) (s : Int)) = true) (hm : l.length ≤ 20)
include hl hv hm
end
end Go.Proofs.Ytimkchehdaadeaa.P
end
section
namespace Go.Proofs.Ytimkchehdaadeaa.P
open Go.RowKit Go.Proofs.YtimkchehdaadeaaW.PrintWords Go.Proofs.YtimkchehdaadeaaW.PrintLast Go.Proofs.YtimkchehdaadeaaW.PrintMore
set_option linter.unusedVariables false
set_option linter.unusedSimpArgs false
set_option linter.unusedSectionVars false
section
variable {n s : Nat} (hl : okLock (n : Int) (s : Int)) {l : List S36} (hm : l.length ≤ 20)
include hl hm
end
end Go.Proofs.Ytimkchehdaadeaa.P
end
section
namespace Go.Proofs.Ytimkchehdaadeaa.P
open Go.RowKit Go.Proofs.YtimkchehdaadeaaW.PrintWords Go.Proofs.YtimkchehdaadeaaW.PrintLast Go.Proofs.YtimkchehdaadeaaW.PrintMore
set_option linter.unusedVariables false
set_option linter.unusedSimpArgs false
def srch (T : List Nat → Bool) : Nat → List Nat → List Nat → Option (List Nat)
  | 0, b, _ => if T b = true then some b else none
  | _ + 1, _, [] => none
  | m + 1, b, i :: u => match srch T m (b ++ [i]) u with
    | some r => some r
    | none => srch T (m + 1) b u
theorem srch_zero (T : List Nat → Bool) (b u : List Nat) : srch T 0 b u = if T b = true then some b else none := by rw [srch]
theorem srch_nil (T : List Nat → Bool) (m : Nat) (b : List Nat) : srch T (m + 1) b [] = none := by rw [srch]
theorem srch_hit {T : List Nat → Bool} {m : Nat} {b : List Nat} {i : Nat} {u r : List Nat} (h : srch T m (b ++ [i]) u = some r) : srch T (m + 1) b (i :: u) = some r := by rw [srch, h]
theorem srch_miss {T : List Nat → Bool} {m : Nat} {b : List Nat} {i : Nat} {u : List Nat} (h : srch T m (b ++ [i]) u = none) : srch T (m + 1) b (i :: u) = srch T (m + 1) b u := by rw [srch, h]
theorem srch_some (T : List Nat → Bool) : ∀ (u : List Nat) (m : Nat) (b r : List Nat), srch T m b u = some r → ∃ x, r = b ++ x ∧ x.length = m ∧ x.Sublist u ∧ T r = true
  | u, 0, b, r, h => by
    rw [srch_zero] at h
    split at h
    · rename_i ht
      obtain rfl := Option.some.inj h
      exact ⟨[], by simp, rfl, List.nil_sublist _, ht⟩
    · cases h
  | [], m + 1, b, r, h => by rw [srch_nil] at h; cases h
  | i :: u, m + 1, b, r, h => by
    rcases h1 : srch T m (b ++ [i]) u with _ | r'
    · rw [srch_miss h1] at h
      obtain ⟨x, h2, h3, h4, h5⟩ := srch_some T u (m + 1) b r h
      exact ⟨x, h2, h3, h4.cons _, h5⟩
    · rw [srch_hit h1] at h
      obtain rfl := Option.some.inj h
      obtain ⟨x, h2, h3, h4, h5⟩ := srch_some T u m (b ++ [i]) r' h1
      exact ⟨i :: x, by rw [h2, List.append_assoc]; rfl, by simp [h3], h4.cons_cons _, h5⟩
theorem srch_congr {T T' : List Nat → Bool} {L : Nat} (h : ∀ r, (∀ i ∈ r, i < L) → T r = T' r) : ∀ (u : List Nat) (m : Nat) (b : List Nat), (∀ i ∈ u, i < L) → (∀ i ∈ b, i < L) → srch T m b u = srch T' m b u
  | u, 0, b, _, hb => by rw [srch_zero, srch_zero, h b hb]
  | [], m + 1, b, _, _ => by rw [srch_nil, srch_nil]
  | i :: u, m + 1, b, hu, hb => by
    have h1 := srch_congr h u m (b ++ [i]) (fun j hj => hu j (List.mem_cons_of_mem _ hj)) (fun j hj => by
      rcases List.mem_append.1 hj with hj | hj
      · exact hb j hj
      · rw [List.mem_singleton.1 hj]; exact hu i List.mem_cons_self)
    rcases h2 : srch T m (b ++ [i]) u with _ | r
    · rw [srch_miss h2, srch_miss (h1.symm.trans h2)]
      exact srch_congr h u (m + 1) b (fun j hj => hu j (List.mem_cons_of_mem _ hj)) hb
    · rw [srch_hit h2, srch_hit (h1.symm.trans h2)]
def findN (f : Nat → Option (List Nat)) : Nat → Nat → Option (List Nat)
  | _, 0 => none
  | m, n + 1 => match f m with
    | some r => some r
    | none => findN f (m + 1) n
theorem findN_zero (f : Nat → Option (List Nat)) (m : Nat) : findN f m 0 = none := rfl
theorem findN_hit {f : Nat → Option (List Nat)} {m n : Nat} {r : List Nat} (h : f m = some r) : findN f m (n + 1) = some r := by rw [findN, h]
theorem findN_miss {f : Nat → Option (List Nat)} {m n : Nat} (h : f m = none) : findN f m (n + 1) = findN f (m + 1) n := by rw [findN, h]
theorem findN_some {f : Nat → Option (List Nat)} : ∀ (n m : Nat) (r : List Nat), findN f m n = some r → ∃ j, m ≤ j ∧ j < m + n ∧ f j = some r ∧ ∀ k, m ≤ k → k < j → f k = none
  | 0, _, _, h => by rw [findN_zero] at h; cases h
  | n + 1, m, r, h => by
    rcases hf : f m with _ | r'
    · rw [findN_miss hf] at h
      obtain ⟨j, h1, h2, h3, h4⟩ := findN_some n (m + 1) r h
      exact ⟨j, by omega, by omega, h3, fun k hk1 hk2 => by
        by_cases e : k = m
        · rw [e]; exact hf
        · exact h4 k (by omega) hk2⟩
    · rw [findN_hit hf] at h
      obtain rfl := Option.some.inj h
      exact ⟨m, Nat.le_refl _, by omega, hf, fun k h1 h2 => absurd h2 (by omega)⟩
def usable (l : List S36) (code : List Int) (m : Nat) : List Nat := (List.range m).filter fun j => holdsC (rd_T36 l (j : Int)) code
theorem usable_succ (l : List S36) (code : List Int) (m : Nat) : usable l code (m + 1) = if holdsC (rd_T36 l (m : Int)) code = true then usable l code m ++ [m] else usable l code m := by
  unfold usable
  rw [List.range_succ, List.filter_append]
  by_cases h : holdsC (rd_T36 l (m : Int)) code = true <;> simp [List.filter_cons, h]
theorem usable_len (l : List S36) (code : List Int) (m : Nat) : (usable l code m).length ≤ m := by
  unfold usable
  exact Nat.le_trans (List.length_filter_le _ _) (by simp)
theorem usable_lt (l : List S36) (code : List Int) (m : Nat) : ∀ i ∈ usable l code m, i < m := fun i hi => List.mem_range.1 (List.mem_filter.1 hi).1
def oneT (s n : Nat) (l : List S36) (b : List Nat) : Bool := (readingsL s n (pick l b)).length == 1
def foundS (o : Option (List Nat)) : List Int × Int := match o with
  | some b => (castL b, 0)
  | none => ([], 3)
def chooseS (W S : Int) (l : List S36) (code : List Int) : List Int × Int :=
  if okLock W S then
    if 12 < l.length then ([], 2)
    else if checkCluesS W S l = 0 then
      if isCodeB W S code = true then
        foundS (findN (fun m => srch (oneT S.toNat W.toNat l) m [] (usable l code l.length)) 1 (usable l code l.length).length)
      else ([], 12)
    else ([], checkCluesS W S l)
  else ([], 10)
end Go.Proofs.Ytimkchehdaadeaa.P
end
section
namespace Go.Proofs.Ytimkchehdaadeaa.P
open Go.RowKit Go.Shelf Go.Proofs.YtimkchehdaadeaaW.PrintWords Go.Proofs.YtimkchehdaadeaaW.PrintLast Go.Proofs.YtimkchehdaadeaaW.PrintMore
set_option linter.unusedVariables false
set_option linter.unusedSimpArgs false
end Go.Proofs.Ytimkchehdaadeaa.P
end
