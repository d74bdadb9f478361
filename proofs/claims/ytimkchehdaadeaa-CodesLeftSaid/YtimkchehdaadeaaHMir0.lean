/- Answers: symmetry, a code and itself, what is right is in common (plain). -/
import Derived.Test.YtimkchehdaadeaaSpec
namespace Go.Proofs.Ytimkchehdaadeaa.P
open Go.RowKit Go.Proofs.YtimkchehdaadeaaW.PrintWords Go.Proofs.YtimkchehdaadeaaW.PrintLast Go.Proofs.YtimkchehdaadeaaW.PrintMore
set_option linter.unusedVariables false
set_option linter.unusedSimpArgs false
theorem commonTo_comm (a b : List Int) (j : Nat) : commonTo a b j = commonTo b a j := by
  induction j with
  | zero => rfl
  | succ j ih => simp only [commonTo, ih, Nat.min_comm]
theorem rightTo_all (a b : List Int) : rightTo a b a.length = (a.zip b).countP (fun p => p.1 == p.2) := by
  unfold rightTo
  rw [List.take_of_length_le (by simp; omega)]
theorem zip_comm_count (a b : List Int) : (a.zip b).countP (fun p => p.1 == p.2) = (b.zip a).countP (fun p => p.1 == p.2) := by
  induction a generalizing b with
  | nil => simp
  | cons x a ih =>
    cases b with
    | nil => simp
    | cons y b =>
      simp only [List.zip_cons_cons, List.countP_cons, ih b]
      congr 1
      by_cases h : x = y
      · subst h; rfl
      · rw [if_neg (by simpa using h), if_neg (by simpa using fun e : y = x => h e.symm)]
theorem rightTo_comm (a b : List Int) (h : a.length = b.length) : rightTo a b a.length = rightTo b a b.length := by
  rw [rightTo_all, rightTo_all, zip_comm_count]
theorem countP_next (zs : List (Int × Int)) (j : Nat) : zs.countP (fun p => p.1 == p.2 && decide (0 ≤ p.1 ∧ p.1 < ((j + 1 : Nat) : Int))) = zs.countP (fun p => p.1 == p.2 && decide (0 ≤ p.1 ∧ p.1 < (j : Int))) + zs.countP (fun p => p.1 == p.2 && p.1 == (j : Int)) := by
  induction zs with
  | nil => rfl
  | cons p zs ih =>
    simp only [List.countP_cons, ih]
    have e1 : (if (p.1 == p.2 && decide (0 ≤ p.1 ∧ p.1 < ((j + 1 : Nat) : Int))) = true then 1 else 0) = (if (p.1 == p.2 && decide (0 ≤ p.1 ∧ p.1 < (j : Int))) = true then 1 else 0) + (if (p.1 == p.2 && p.1 == (j : Int)) = true then 1 else 0) := by
      by_cases h0 : p.1 = p.2
      · have h0' : (p.1 == p.2) = true := beq_iff_eq.mpr h0
        simp only [h0', Bool.true_and]
        by_cases h1 : p.1 = (j : Int)
        · rw [if_pos (by simp; omega), if_neg (by simp; omega), if_pos (by simpa using h1)]
        · by_cases h2 : 0 ≤ p.1 ∧ p.1 < (j : Int)
          · rw [if_pos (by simp; omega), if_pos (by simpa using h2), if_neg (by simpa using h1)]
          · rw [if_neg (by simp; omega), if_neg (by simpa using h2), if_neg (by simpa using h1)]
      · have h0' : (p.1 == p.2) = false := beq_eq_false_iff_ne.mpr h0
        simp [h0']
    rw [e1]; omega
theorem right_fst (zs : List (Int × Int)) (s : Int) : zs.countP (fun p => p.1 == p.2 && p.1 == s) ≤ (zs.map (·.1)).count s := by
  rw [List.count, List.countP_map]
  exact List.countP_mono_left fun p _ h => by simp only [Bool.and_eq_true] at h; exact h.2
theorem right_snd (zs : List (Int × Int)) (s : Int) : zs.countP (fun p => p.1 == p.2 && p.1 == s) ≤ (zs.map (·.2)).count s := by
  rw [List.count, List.countP_map]
  exact List.countP_mono_left fun p _ h => by
    simp only [Bool.and_eq_true, beq_iff_eq] at h
    simp only [Function.comp, beq_iff_eq]; omega
theorem right_le_common (a b : List Int) (hl : a.length = b.length) (j : Nat) : (a.zip b).countP (fun p => p.1 == p.2 && decide (0 ≤ p.1 ∧ p.1 < (j : Int))) ≤ commonTo a b j := by
  induction j with
  | zero =>
    refine Nat.le_of_eq ?_
    rw [List.countP_eq_zero.2]
    · rfl
    · intro p _; first | (simp; done) | (simp; omega)
  | succ j ih =>
    rw [countP_next]
    have h1 := right_fst (a.zip b) (j : Int)
    have h2 := right_snd (a.zip b) (j : Int)
    rw [List.map_fst_zip (by omega)] at h1
    rw [List.map_snd_zip (by omega)] at h2
    simp only [commonTo]
    omega
theorem rightTo_le_common (a b : List Int) (hl : a.length = b.length) (ha : dig a) : rightTo a b a.length ≤ commonTo a b 10 := by
  refine Nat.le_trans (Nat.le_of_eq ?_) (right_le_common a b hl 10)
  rw [rightTo_all]
  refine List.countP_congr fun p hp => ?_
  have := ha p.1 (List.of_mem_zip hp).1
  simp; omega
theorem commonTo_self (l : List Int) (j : Nat) : commonTo l l j = l.countP (fun x => decide (0 ≤ x ∧ x < (j : Int))) := by
  induction j with
  | zero =>
    rw [List.countP_eq_zero.2]
    · rfl
    · intro p _; first | (simp; done) | (simp; omega)
  | succ j ih =>
    simp only [commonTo, ih, Nat.min_self]
    clear ih
    induction l with
    | nil => rfl
    | cons a l ih =>
      simp only [List.countP_cons, List.count_cons]
      have e1 : (if decide (0 ≤ a ∧ a < ((j + 1 : Nat) : Int)) = true then 1 else 0) = (if decide (0 ≤ a ∧ a < (j : Int)) = true then 1 else 0) + (if (a == (j : Int)) = true then 1 else 0) := by
        by_cases h1 : a = (j : Int)
        · rw [if_pos (by simp; omega), if_neg (by simp; omega), if_pos (by simpa using h1)]
        · by_cases h2 : 0 ≤ a ∧ a < (j : Int)
          · rw [if_pos (by simp; omega), if_pos (by simpa using h2), if_neg (by simpa using h1)]
          · rw [if_neg (by simp; omega), if_neg (by simpa using h2), if_neg (by simpa using h1)]
      omega
theorem commonTo_self10 (l : List Int) (h : dig l) : commonTo l l 10 = l.length := by
  rw [commonTo_self]
  exact List.countP_eq_length.2 fun x hx => by have := h x hx; simp; omega
theorem rightTo_self (l : List Int) : rightTo l l l.length = l.length := by
  rw [rightTo_all]
  have : l.zip l = l.map fun x => (x, x) := by
    induction l with
    | nil => rfl
    | cons a l ih => simp only [List.zip_cons_cons, List.map_cons, ih]
  rw [this, List.countP_map]
  exact List.countP_eq_length.2 fun x _ => by simp
theorem rightTo_full (a b : List Int) (hl : a.length = b.length) : rightTo a b a.length = a.length ↔ a = b := by
  constructor
  · intro h
    rw [rightTo_all] at h
    have hz : (a.zip b).length = a.length := by simp; omega
    rw [← hz] at h
    have := List.countP_eq_length.1 h
    apply List.ext_getElem hl
    intro i h1 h2
    have hm : (a[i], b[i]) ∈ a.zip b := by
      rw [List.mem_iff_getElem]
      exact ⟨i, by omega, by simp⟩
    simpa using this _ hm
  · rintro rfl; exact rightTo_self a
end Go.Proofs.Ytimkchehdaadeaa.P
