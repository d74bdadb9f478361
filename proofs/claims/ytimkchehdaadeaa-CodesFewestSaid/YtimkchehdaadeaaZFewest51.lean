/- Part 51 of a proof: the statement CodesFewest: for every input its law returns true (its texts without what nothing here names). -/
import Derived.Test.YtimkchehdaadeaaZFewest20
import Derived.Test.YtimkchehdaadeaaZFewest27
import Derived.Test.YtimkchehdaadeaaZFewest30

namespace Go.Proofs.Ytimkchehdaadeaa.P
open Go.RowKit Go.Proofs.YtimkchehdaadeaaW.PrintWords Go.Proofs.YtimkchehdaadeaaW.PrintLast Go.Proofs.YtimkchehdaadeaaW.PrintMore
set_option linter.unusedVariables false
set_option linter.unusedSimpArgs false
theorem before_l0 (x0 x1 : List Int) (hn : x0.length ≤ 9223372036854775807) (d : Nat) : ∀ i : Nat, i ≤ x0.length → x0.length - i = d → Ev (fun k => padlocklaw01_before.l0 k x0 x1 i) (lexLt (x0.drop i) (x1.drop i)) := by
  induction d with
  | zero =>
    intro i hi hd
    refine Ev.step (f := fun k => padlocklaw01_before.j1 k x0 x1 i false) (fun k => by simp only [padlocklaw01_before.l0]; rw [if_neg (by omega)]) ?_
    refine Ev.step (f := fun _ => some false) (fun k => by simp only [padlocklaw01_before.j1]; rw [if_neg (by decide)]) ?_
    rw [List.drop_of_length_le (by omega)]
    exact Ev.now _
  | succ d ih =>
    intro i hi hd
    have h0 : i < x0.length := by omega
    by_cases h1 : i < x1.length
    · refine Ev.step (f := fun k => padlocklaw01_before.j1 k x0 x1 i true) (fun k => by simp only [padlocklaw01_before.l0]; rw [if_pos (by omega), decide_eq_true (by omega)]) ?_
      rw [List.drop_eq_getElem_cons h0, List.drop_eq_getElem_cons h1]
      simp only [lexLt]
      by_cases he : rd x0 i = rd x1 i
      · refine Ev.step (f := fun k => padlocklaw01_before.l0 k x0 x1 ((i + 1 : Nat) : Int)) (fun k => by
          simp only [padlocklaw01_before.j1, if_true]
          rw [if_pos (by omega), if_pos (by omega), if_pos (by omega), if_pos he, wrap_next h0 hn]) ?_
        have := ih (i + 1) (by omega) (by omega)
        rw [rd_get _ _ h0, rd_get _ _ h1] at he
        rw [if_pos he]
        exact this
      · refine Ev.step (f := fun _ => some (decide (rd x0 i < rd x1 i))) (fun k => by
          simp only [padlocklaw01_before.j1, if_true]
          rw [if_pos (by omega), if_pos (by omega), if_pos (by omega), if_neg he]) ?_
        rw [rd_get _ _ h0, rd_get _ _ h1] at he ⊢
        rw [if_neg he]
        exact Ev.now _
    · refine Ev.step (f := fun k => padlocklaw01_before.j1 k x0 x1 i false) (fun k => by simp only [padlocklaw01_before.l0]; rw [if_pos (by omega), decide_eq_false (by omega)]) ?_
      refine Ev.step (f := fun _ => some false) (fun k => by simp only [padlocklaw01_before.j1]; rw [if_neg (by decide)]) ?_
      rw [List.drop_eq_getElem_cons h0, List.drop_of_length_le (show x1.length ≤ i by omega)]
      exact Ev.now _
theorem before_ev (x0 x1 : List Int) (hn : x0.length ≤ 9223372036854775807) : Ev (fun k => padlocklaw01_before.f k x0 x1) (lexLt x0 x1) := before_l0 x0 x1 hn _ 0 (Nat.zero_le _) rfl
section
variable {al : List (List Int)} (hs : al.Pairwise (fun a b => lexLt a b = true))
include hs
end
end Go.Proofs.Ytimkchehdaadeaa.P
