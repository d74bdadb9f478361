/- The reference's isClue: which clues are valid. -/
import Derived.Test.YtimkchehdaadeaaHIsClueK
import Derived.Test.YtimkchehdaadeaaSpec2
namespace Go.Proofs.Ytimkchehdaadeaa.P
open Go.RowKit Go.Proofs.YtimkchehdaadeaaW.PrintWords Go.Proofs.YtimkchehdaadeaaW.PrintLast Go.Proofs.YtimkchehdaadeaaW.PrintMore
set_option linter.unusedVariables false
set_option linter.unusedSimpArgs false

def padlockref01_isClue.f (W S k A B N M : Int) (G : List Int) (nt : Bool) : Option Bool := if okLock W S then some (validB W S k A B N M G) else none

theorem beqd (x y : Int) : (x == y) = decide (x = y) := by by_cases h : x = y <;> simp [h]
theorem len_zero' (G : List Int) : decide ((G.length : Int) = 0) = decide (G = []) := by rw [← beqd, len_zero]
theorem same_now (b : Bool) : (b == b) = true := by cases b <;> rfl
theorem padlockref01_isClue.calls (a0_0 : Int) (a0_1 : Int) (a1_0 : Int) (a1_1 : Int) (a1_2 : Int) (a1_3 : Int) (a1_4 : Int) (A1_5 : Option Addr) (c1_5 : Nat) (l1_5 : List Int) (a1_6 : Bool) (r : Bool) (w : World) (hr1_5 : Kd.C (Kd.int .i64) w A1_5 l1_5.length l1_5) (hc1_5 : l1_5.length ≤ c1_5) (h : padlockref01_isClue.f a0_0 a0_1 a1_0 a1_1 a1_2 a1_3 a1_4 l1_5 a1_6 = some r) :
    Calls Try.prog 69 #[.agg #[.int .i64 a0_0, .int .i64 a0_1], .agg #[.int .i64 a1_0, .int .i64 a1_1, .int .i64 a1_2, .int .i64 a1_3, .int .i64 a1_4, .slice A1_5 l1_5.length c1_5, .bool a1_6]] w fun e w' => e = .returned (.bool r) ∧ Below w.heap.size w w' := by
  unfold padlockref01_isClue.f at h
  split at h
  case isFalse => cases h
  case isTrue hl =>
  obtain rfl := Option.some.inj h
  clear h
  have key : ∀ {b b' : Bool}, b = b' → (fun (e : Ending) (w' : World) => e = .returned (.bool b) ∧ Below w.heap.size w w') = fun e w' => e = .returned (.bool b') ∧ Below w.heap.size w w' := fun h => by rw [h]
  unfold validB
  by_cases h1 : a1_0 = 1
  · subst h1; rw [if_pos rfl]; refine Eq.mp (congrArg _ (key ?_)) (isClue_k1 _ _ _ _ _ _ _ _ _ _ _ hl hr1_5 hc1_5)
    simp only [sameB, same_now, decide_true, Bool.true_and, Bool.and_true, beqd, len_zero', Bool.and_assoc]
  rw [if_neg h1]
  by_cases h2 : a1_0 = 2
  · subst h2; rw [if_pos rfl]; refine Eq.mp (congrArg _ (key ?_)) (isClue_k2 _ _ _ _ _ _ _ _ _ _ _ hl hr1_5 hc1_5)
    simp only [sameB, same_now, decide_true, Bool.true_and, Bool.and_true, beqd, len_zero', Bool.and_assoc]
  rw [if_neg h2]
  by_cases h3 : a1_0 = 3
  · subst h3; rw [if_pos rfl]; refine Eq.mp (congrArg _ (key ?_)) (isClue_k3 _ _ _ _ _ _ _ _ _ _ _ hl hr1_5 hc1_5)
    simp only [sameB, same_now, decide_true, Bool.true_and, Bool.and_true, beqd, len_zero', Bool.and_assoc]
  rw [if_neg h3]
  by_cases h4 : a1_0 = 4
  · subst h4; rw [if_pos rfl]; refine Eq.mp (congrArg _ (key ?_)) (isClue_k4 _ _ _ _ _ _ _ _ _ _ _ hl hr1_5 hc1_5)
    simp only [sameB, same_now, decide_true, Bool.true_and, Bool.and_true, beqd, len_zero', Bool.and_assoc]
  rw [if_neg h4]
  by_cases h5 : a1_0 = 5
  · subst h5; rw [if_pos rfl]; refine Eq.mp (congrArg _ (key ?_)) (isClue_k5 _ _ _ _ _ _ _ _ _ _ _ hl hr1_5 hc1_5)
    simp only [sameB, same_now, decide_true, Bool.true_and, Bool.and_true, beqd, len_zero', Bool.and_assoc]
  rw [if_neg h5]
  by_cases h6 : a1_0 = 6
  · subst h6; rw [if_pos rfl]; refine Eq.mp (congrArg _ (key ?_)) (isClue_k6 _ _ _ _ _ _ _ _ _ _ _ hl hr1_5 hc1_5)
    simp only [sameB, same_now, decide_true, Bool.true_and, Bool.and_true, beqd]
    cases isCodeB a0_0 a0_1 l1_5 <;> cases inRange 0 a0_0 a1_3 <;> cases inRange 0 a0_0 a1_4 <;> simp
  rw [if_neg h6]
  by_cases h7 : a1_0 = 7
  · subst h7; rw [if_pos rfl]; refine Eq.mp (congrArg _ (key ?_)) (isClue_k7 _ _ _ _ _ _ _ _ _ _ _ hl hr1_5 hc1_5)
    simp only [sameB, same_now, decide_true, Bool.true_and, Bool.and_true, beqd, len_zero', Bool.and_assoc]
  rw [if_neg h7]
  exact isClue_else _ _ _ _ _ _ _ _ _ _ _ _ hl (beq_eq_false_iff_ne.mpr h1) (beq_eq_false_iff_ne.mpr h2) (beq_eq_false_iff_ne.mpr h3) (beq_eq_false_iff_ne.mpr h4) (beq_eq_false_iff_ne.mpr h5) (beq_eq_false_iff_ne.mpr h6) (beq_eq_false_iff_ne.mpr h7)
end Go.Proofs.Ytimkchehdaadeaa.P
