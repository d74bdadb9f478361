/- CodesMirror: what the law comes to. -/
import Derived.Test.YtimkchehdaadeaaHPure2
import Derived.Test.YtimkchehdaadeaaPx18
namespace Go.Proofs.Ytimkchehdaadeaa.P
open Go.RowKit Go.Proofs.YtimkchehdaadeaaW.PrintWords Go.Proofs.YtimkchehdaadeaaW.PrintLast Go.Proofs.YtimkchehdaadeaaW.PrintMore
set_option linter.unusedVariables false
set_option linter.unusedSimpArgs false
theorem commonTo_comm (a b : List Int) (j : Nat) : commonTo a b j = commonTo b a j := by
  induction j with
  | zero => rfl
  | succ j ih => simp only [commonTo, ih, Nat.min_comm]
theorem rightTo_all (a b : List Int) : rightTo a b a.length = (a.zip b).countP (fun p => p.1 == p.2) := by
  unfold rightTo
  rw [List.take_of_length_le (by simp; omega)]
theorem zip_comm_count (a b : List Int) : (a.zip b).countP (fun p => p.1 == p.2) = (b.zip a).countP (fun p => p.1 == p.2) := by
  induction a generalizing b with
  | nil => simp
  | cons x a ih =>
    cases b with
    | nil => simp
    | cons y b =>
      simp only [List.zip_cons_cons, List.countP_cons, ih b]
      congr 1
      by_cases h : x = y
      · subst h; rfl
      · rw [if_neg (by simpa using h), if_neg (by simpa using fun e : y = x => h e.symm)]
theorem rightTo_comm (a b : List Int) (h : a.length = b.length) : rightTo a b a.length = rightTo b a b.length := by
  rw [rightTo_all, rightTo_all, zip_comm_count]
theorem countP_next (zs : List (Int × Int)) (j : Nat) : zs.countP (fun p => p.1 == p.2 && decide (0 ≤ p.1 ∧ p.1 < ((j + 1 : Nat) : Int))) = zs.countP (fun p => p.1 == p.2 && decide (0 ≤ p.1 ∧ p.1 < (j : Int))) + zs.countP (fun p => p.1 == p.2 && p.1 == (j : Int)) := by
  induction zs with
  | nil => rfl
  | cons p zs ih =>
    simp only [List.countP_cons, ih]
    have e1 : (if (p.1 == p.2 && decide (0 ≤ p.1 ∧ p.1 < ((j + 1 : Nat) : Int))) = true then 1 else 0) = (if (p.1 == p.2 && decide (0 ≤ p.1 ∧ p.1 < (j : Int))) = true then 1 else 0) + (if (p.1 == p.2 && p.1 == (j : Int)) = true then 1 else 0) := by
      by_cases h0 : p.1 = p.2
      · have h0' : (p.1 == p.2) = true := beq_iff_eq.mpr h0
        simp only [h0', Bool.true_and]
        by_cases h1 : p.1 = (j : Int)
        · rw [if_pos (by simp; omega), if_neg (by simp; omega), if_pos (by simpa using h1)]
        · by_cases h2 : 0 ≤ p.1 ∧ p.1 < (j : Int)
          · rw [if_pos (by simp; omega), if_pos (by simpa using h2), if_neg (by simpa using h1)]
          · rw [if_neg (by simp; omega), if_neg (by simpa using h2), if_neg (by simpa using h1)]
      · have h0' : (p.1 == p.2) = false := beq_eq_false_iff_ne.mpr h0
        simp [h0']
    rw [e1]; omega
theorem right_fst (zs : List (Int × Int)) (s : Int) : zs.countP (fun p => p.1 == p.2 && p.1 == s) ≤ (zs.map (·.1)).count s := by
  rw [List.count, List.countP_map]
  exact List.countP_mono_left fun p _ h => by simp only [Bool.and_eq_true] at h; exact h.2
theorem right_snd (zs : List (Int × Int)) (s : Int) : zs.countP (fun p => p.1 == p.2 && p.1 == s) ≤ (zs.map (·.2)).count s := by
  rw [List.count, List.countP_map]
  exact List.countP_mono_left fun p _ h => by
    simp only [Bool.and_eq_true, beq_iff_eq] at h
    simp only [Function.comp, beq_iff_eq]; omega
theorem right_le_common (a b : List Int) (hl : a.length = b.length) (j : Nat) : (a.zip b).countP (fun p => p.1 == p.2 && decide (0 ≤ p.1 ∧ p.1 < (j : Int))) ≤ commonTo a b j := by
  induction j with
  | zero =>
    refine Nat.le_of_eq ?_
    rw [List.countP_eq_zero.2]
    · rfl
    · intro p _; first | (simp; done) | (simp; omega)
  | succ j ih =>
    rw [countP_next]
    have h1 := right_fst (a.zip b) (j : Int)
    have h2 := right_snd (a.zip b) (j : Int)
    rw [List.map_fst_zip (by omega)] at h1
    rw [List.map_snd_zip (by omega)] at h2
    simp only [commonTo]
    omega
theorem rightTo_le_common (a b : List Int) (hl : a.length = b.length) (ha : dig a) : rightTo a b a.length ≤ commonTo a b 10 := by
  refine Nat.le_trans (Nat.le_of_eq ?_) (right_le_common a b hl 10)
  rw [rightTo_all]
  refine List.countP_congr fun p hp => ?_
  have := ha p.1 (List.of_mem_zip hp).1
  simp; omega
theorem commonTo_self (l : List Int) (j : Nat) : commonTo l l j = l.countP (fun x => decide (0 ≤ x ∧ x < (j : Int))) := by
  induction j with
  | zero =>
    rw [List.countP_eq_zero.2]
    · rfl
    · intro p _; first | (simp; done) | (simp; omega)
  | succ j ih =>
    simp only [commonTo, ih, Nat.min_self]
    clear ih
    induction l with
    | nil => rfl
    | cons a l ih =>
      simp only [List.countP_cons, List.count_cons]
      have e1 : (if decide (0 ≤ a ∧ a < ((j + 1 : Nat) : Int)) = true then 1 else 0) = (if decide (0 ≤ a ∧ a < (j : Int)) = true then 1 else 0) + (if (a == (j : Int)) = true then 1 else 0) := by
        by_cases h1 : a = (j : Int)
        · rw [if_pos (by simp; omega), if_neg (by simp; omega), if_pos (by simpa using h1)]
        · by_cases h2 : 0 ≤ a ∧ a < (j : Int)
          · rw [if_pos (by simp; omega), if_pos (by simpa using h2), if_neg (by simpa using h1)]
          · rw [if_neg (by simp; omega), if_neg (by simpa using h2), if_neg (by simpa using h1)]
      omega
theorem commonTo_self10 (l : List Int) (h : dig l) : commonTo l l 10 = l.length := by
  rw [commonTo_self]
  exact List.countP_eq_length.2 fun x hx => by have := h x hx; simp; omega
theorem rightTo_self (l : List Int) : rightTo l l l.length = l.length := by
  rw [rightTo_all]
  have : l.zip l = l.map fun x => (x, x) := by
    induction l with
    | nil => rfl
    | cons a l ih => simp only [List.zip_cons_cons, List.map_cons, ih]
  rw [this, List.countP_map]
  exact List.countP_eq_length.2 fun x _ => by simp
theorem rightTo_full (a b : List Int) (hl : a.length = b.length) : rightTo a b a.length = a.length ↔ a = b := by
  constructor
  · intro h
    rw [rightTo_all] at h
    have hz : (a.zip b).length = a.length := by simp; omega
    rw [← hz] at h
    have := List.countP_eq_length.1 h
    apply List.ext_getElem hl
    intro i h1 h2
    have hm : (a[i], b[i]) ∈ a.zip b := by
      rw [List.mem_iff_getElem]
      exact ⟨i, by omega, by simp⟩
    simpa using this _ hm
  · rintro rfl; exact rightTo_self a
theorem CodesMirror_pure (W S : Int) (l1 l2 : List Int) (h1 : l1.length ≤ 9223372036854775807) (h2 : l2.length ≤ 9223372036854775807) : ∃ k, padlocklaw01_CodesMirror.f k W S l1 l2 = some true := by
  refine Ev.rounds (g := fun k => padlocklaw01_CodesMirror.f k W S l1 l2) ?_
  unfold padlocklaw01_CodesMirror.f
  simp only [Answer_eq, Option.bind_some]
  have bad : ∀ (e : Int), e ≠ 0 → ∀ x7 x8 x10 x11, Ev (fun k => padlocklaw01_CodesMirror.j0 k l1 l2 x7 x8 e x10 x11 e true W S) true := fun e he x7 x8 x10 x11 => by
    refine Ev.step (f := fun _ => some true) (fun k => ?_) (Ev.now _)
    simp [padlocklaw01_CodesMirror.j0, works_true]
  by_cases hl : okLock W S
  · by_cases hc : (isCodeB W S l1 && isCodeB W S l2) = true
    · have hc' : (isCodeB W S l2 && isCodeB W S l1) = true := by rw [Bool.and_comm]; exact hc
      rw [Bool.and_eq_true] at hc
      obtain ⟨e1, d1⟩ := isCode_dig hl.2.2.2 hc.1
      obtain ⟨e2, d2⟩ := isCode_dig hl.2.2.2 hc.2
      have hll : l1.length = l2.length := by omega
      have hW := hl.2.1
      have a12 : answerS W S l1 l2 = (((rightTo l1 l2 l1.length : Nat) : Int), ((commonTo l1 l2 10 : Nat) : Int) - (rightTo l1 l2 l1.length : Nat), 0) := by
        unfold answerS; rw [if_pos hl, if_pos (by rw [hc.1, hc.2]; rfl)]
      have a21 : answerS W S l2 l1 = (((rightTo l1 l2 l1.length : Nat) : Int), ((commonTo l1 l2 10 : Nat) : Int) - (rightTo l1 l2 l1.length : Nat), 0) := by
        unfold answerS; rw [if_pos hl, if_pos hc', commonTo_comm l2 l1, ← rightTo_comm l1 l2 hll]
      have a11 : answerS W S l1 l1 = (W, 0, 0) := by
        unfold answerS; rw [if_pos hl, if_pos (by rw [hc.1]; rfl), commonTo_self10 l1 d1, rightTo_self]
        rw [e1]; simp
      rw [a12, a21]
      have hrc := rightTo_le_common l1 l2 hll d1
      have hcl := commonTo_le l1 l2 10
      have hff := rightTo_full l1 l2 hll
      obtain ⟨r, hr⟩ : ∃ r, r = rightTo l1 l2 l1.length := ⟨_, rfl⟩
      obtain ⟨c, hcc⟩ : ∃ c, c = commonTo l1 l2 10 := ⟨_, rfl⟩
      rw [← hr] at hrc hff ⊢
      rw [← hcc] at hrc hcl ⊢
      simp only [if_true]
      have hs := SameInts_ev l1 l2 h1
      refine Ev.step (f := fun k => padlocklaw01_CodesMirror.j1 k l1 l2 (r : Int) ((c : Int) - r) (r : Int) ((c : Int) - r) false W S) (fun k => ?_) ?_
      · simp [padlocklaw01_CodesMirror.j0, Answer_eq, a11]
      · refine Ev.step (f := fun k => (padlockref01_SameInts.f k l1 l2).bind fun t4112 => if (((r : Int) == W) == t4112) = true then some true else some false) (fun k => ?_) ?_
        · simp only [padlocklaw01_CodesMirror.j1, Bool.false_eq_true, if_false, if_true, works_true, Option.bind_some]
          rw [if_pos (by omega), if_pos (by omega), wrap_small (by omega) (by omega), if_pos (by omega)]
        · refine Ev.bind hs ?_
          have : ((r : Int) == W) = decide (l1 = l2) := by
            by_cases e : l1 = l2
            · rw [decide_eq_true e]; have := hff.2 e; simp; omega
            · rw [decide_eq_false e]
              have : r ≠ l1.length := fun h => e (hff.1 h)
              simp; omega
          rw [this]
          simp only [beq_self_eq_true, if_true]
          exact Ev.now _
    · have a12 : answerS W S l1 l2 = (0, 0, 12) := by unfold answerS; rw [if_pos hl, if_neg hc]
      have a21 : answerS W S l2 l1 = (0, 0, 12) := by unfold answerS; rw [if_pos hl, if_neg (by rw [Bool.and_comm]; exact hc)]
      rw [a12, a21]
      exact bad 12 (by decide) _ _ _ _
  · have a12 : answerS W S l1 l2 = (0, 0, 10) := by unfold answerS; rw [if_neg hl]
    have a21 : answerS W S l2 l1 = (0, 0, 10) := by unfold answerS; rw [if_neg hl]
    rw [a12, a21]
    exact bad 10 (by decide) _ _ _ _
end Go.Proofs.Ytimkchehdaadeaa.P
