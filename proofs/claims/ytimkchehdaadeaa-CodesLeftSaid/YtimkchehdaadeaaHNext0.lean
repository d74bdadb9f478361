/- The reading to be tried next: plain words. -/
import Derived.Test.YtimkchehdaadeaaHPure3
import Derived.Test.YtimkchehdaadeaaHMir0
namespace Go.Proofs.Ytimkchehdaadeaa.P
open Go.RowKit Go.Proofs.YtimkchehdaadeaaW.PrintWords Go.Proofs.YtimkchehdaadeaaW.PrintLast Go.Proofs.YtimkchehdaadeaaW.PrintMore
set_option linter.unusedVariables false
set_option linter.unusedSimpArgs false

/-- The answer of a guess x to a code c. -/
def ansOf (x c : List Int) : Nat × Nat := (rightTo c x c.length, commonTo c x 10 - rightTo c x c.length)
/-- How often the commonest of some answers comes. -/
def mostOf (A : List (Nat × Nat)) : Nat := (A.map fun a => A.count a).foldl max 0
theorem foldl_max (l : List Nat) : ∀ b, l.foldl max b = max b (l.foldl max 0) := by
  induction l with
  | nil => intro b; simp
  | cons a l ih => intro b; simp only [List.foldl_cons]; rw [ih (max b a), ih (max 0 a)]; omega
theorem le_foldl_max {l : List Nat} {x : Nat} (h : x ∈ l) : x ≤ l.foldl max 0 := by
  induction l with
  | nil => cases h
  | cons a l ih =>
    simp only [List.foldl_cons]
    rw [foldl_max l (max 0 a)]
    rcases List.mem_cons.1 h with rfl | h
    · omega
    · have := ih h; omega
theorem foldl_max_le {l : List Nat} {B : Nat} (h : ∀ x ∈ l, x ≤ B) : l.foldl max 0 ≤ B := by
  induction l with
  | nil => exact Nat.zero_le _
  | cons a l ih =>
    simp only [List.foldl_cons]
    rw [foldl_max l (max 0 a)]
    have h1 := h a (by simp)
    have h2 := ih (fun x hx => h x (by simp [hx]))
    omega
theorem mostOf_snoc (A : List (Nat × Nat)) (a : Nat × Nat) : mostOf (A ++ [a]) = max (mostOf A) (A.count a + 1) := by
  have hc : ∀ y, (A ++ [a]).count y = A.count y + if a = y then 1 else 0 := fun y => by
    rw [List.count_append, List.count_singleton]; simp
  apply Nat.le_antisymm
  · refine foldl_max_le fun x hx => ?_
    obtain ⟨y, hy, rfl⟩ := List.mem_map.1 hx
    rw [hc]
    by_cases e : a = y
    · subst e; rw [if_pos rfl]; omega
    · rw [if_neg e]
      have hyA : y ∈ A := by
        rcases List.mem_append.1 hy with h | h
        · exact h
        · exact absurd (List.mem_singleton.1 h).symm e
      have := le_foldl_max (List.mem_map.2 ⟨y, hyA, rfl⟩ : A.count y ∈ A.map fun a => A.count a)
      unfold mostOf; omega
  · apply Nat.max_le.2
    constructor
    · refine foldl_max_le fun x hx => ?_
      obtain ⟨y, hy, rfl⟩ := List.mem_map.1 hx
      refine Nat.le_trans ?_ (le_foldl_max (List.mem_map.2 ⟨y, List.mem_append.2 (.inl hy), rfl⟩ : (A ++ [a]).count y ∈ _))
      rw [hc]; omega
    · refine Nat.le_trans ?_ (le_foldl_max (List.mem_map.2 ⟨a, List.mem_append.2 (.inr (by simp)), rfl⟩ : (A ++ [a]).count a ∈ _))
      rw [hc, if_pos rfl]; omega
theorem mostOf_le (A : List (Nat × Nat)) : mostOf A ≤ A.length := foldl_max_le fun x hx => by
  obtain ⟨y, _, rfl⟩ := List.mem_map.1 hx
  exact List.count_le_length
def ansL (all : List (List Int)) (x : List Int) : List (Nat × Nat) := all.map (ansOf x)
def worstOf (all : List (List Int)) (x : List Int) : Nat := mostOf (ansL all x)
def nextStep (acc : Option (List Int × Nat)) (p : List Int × Nat) : Option (List Int × Nat) := match acc with
  | none => some p
  | some b => if p.2 < b.2 then some p else some b
def bestTo (all : List (List Int)) (k : Nat) : Option (List Int × Nat) := ((all.take k).map fun x => (x, worstOf all x)).foldl nextStep none
theorem bestTo_zero (all : List (List Int)) : bestTo all 0 = none := by simp [bestTo]
theorem bestTo_succ (all : List (List Int)) (k : Nat) (h : k < all.length) : bestTo all (k + 1) = nextStep (bestTo all k) (all[k], worstOf all all[k]) := by
  unfold bestTo
  rw [List.take_succ_eq_append_getElem h, List.map_append, List.foldl_append]; rfl
theorem bestTo_some (all : List (List Int)) : ∀ k, 0 < k → k ≤ all.length → ∃ g, g ∈ all ∧ bestTo all k = some (g, worstOf all g)
  | 0, h, _ => absurd h (Nat.lt_irrefl 0)
  | k + 1, _, hk => by
    rw [bestTo_succ all k hk]
    rcases Nat.eq_zero_or_pos k with h0 | h0
    · subst h0
      rw [bestTo_zero]
      exact ⟨all[0], List.getElem_mem _, rfl⟩
    · obtain ⟨g, hg, e⟩ := bestTo_some all k h0 (by omega)
      rw [e]
      unfold nextStep
      simp only
      split
      · exact ⟨all[k], List.getElem_mem _, rfl⟩
      · exact ⟨g, hg, rfl⟩
/-- What Next comes to. -/
def nextS (W S : Int) (l : List S36) : List Int × Int × Int :=
  if checkCluesS W S l = 0 then
    (if (readingsL S.toNat W.toNat l).length = 0 then ([], 0, 3) else if 200 < (readingsL S.toNat W.toNat l).length then ([], 0, 2)
     else match bestTo (readingsL S.toNat W.toNat l) (readingsL S.toNat W.toNat l).length with
       | some (g, n) => (g, (n : Int), 0)
       | none => ([], 0, 0))
  else ([], 0, checkCluesS W S l)
/-- The table of answers, as an array's cells. -/
def grid (A : List (Nat × Nat)) : Array Value := ((List.range 25).map fun j : Nat => Value.int .i64 ((A.count (j / 5, j % 5) : Nat) : Int)).toArray
theorem grid_get (A : List (Nat × Nat)) (r c : Nat) (hr : r < 5) (hc : c < 5) : (grid A)[r * 5 + c]? = some (.int .i64 ((A.count (r, c) : Nat) : Int)) := by
  have h : r * 5 + c < 25 := by omega
  have e1 : (r * 5 + c) / 5 = r := by omega
  have e2 : (r * 5 + c) % 5 = c := by omega
  simp [grid, h, e1, e2]
theorem grid_put (A : List (Nat × Nat)) (r c : Nat) (hr : r < 5) (hc : c < 5) : (grid A).setIfInBounds (r * 5 + c) (.int .i64 (((A.count (r, c) : Nat) : Int) + 1)) = grid (A ++ [(r, c)]) := by
  apply Array.ext'
  simp only [grid, Array.toList_setIfInBounds]
  apply List.ext_getElem?
  intro j
  rw [List.getElem?_set]
  by_cases hj : j < 25
  · have hcount : (A ++ [(r, c)]).count (j / 5, j % 5) = A.count (j / 5, j % 5) + if (r, c) = (j / 5, j % 5) then 1 else 0 := by
      rw [List.count_append, List.count_singleton]; simp
    by_cases he : r * 5 + c = j
    · rw [if_pos he, if_pos (by simp; omega)]
      have e1 : j / 5 = r := by omega
      have e2 : j % 5 = c := by omega
      simp [List.getElem?_map, List.getElem?_range hj, hcount, e1, e2]
    · rw [if_neg he]
      have : ¬ (r, c) = (j / 5, j % 5) := fun e => he (by have h1 := (Prod.mk.inj e).1; have h2 := (Prod.mk.inj e).2; omega)
      simp only [List.getElem?_map, List.getElem?_range hj, Option.map_some, hcount, if_neg this, Nat.add_zero]
  · rw [if_neg (by omega)]
    simp [hj]
theorem grid_nil : grid [] = #[.int .i64 0, .int .i64 0, .int .i64 0, .int .i64 0, .int .i64 0, .int .i64 0, .int .i64 0, .int .i64 0, .int .i64 0, .int .i64 0, .int .i64 0, .int .i64 0, .int .i64 0, .int .i64 0, .int .i64 0, .int .i64 0, .int .i64 0, .int .i64 0, .int .i64 0, .int .i64 0, .int .i64 0, .int .i64 0, .int .i64 0, .int .i64 0, .int .i64 0] := by
  simp [grid, List.range, List.range.loop]
end Go.Proofs.Ytimkchehdaadeaa.P
