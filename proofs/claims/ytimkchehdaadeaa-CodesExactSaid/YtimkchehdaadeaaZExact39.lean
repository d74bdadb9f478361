/- Part 39 of a proof: the statement CodesExact: for every input its law returns true (its texts without what nothing here names). -/
import Derived.Test.YtimkchehdaadeaaZExact25
import Derived.Test.YtimkchehdaadeaaZExact32
import Derived.Test.YtimkchehdaadeaaZExact33

namespace Go.Proofs.Ytimkchehdaadeaa.P
open Go.RowKit Go.Proofs.YtimkchehdaadeaaW.PrintWords Go.Proofs.YtimkchehdaadeaaW.PrintLast Go.Proofs.YtimkchehdaadeaaW.PrintMore
set_option linter.unusedVariables false
set_option linter.unusedSimpArgs false
theorem before_l0 (x0 x1 : List Int) (hn : x0.length ≤ 9223372036854775807) (d : Nat) : ∀ i : Nat, i ≤ x0.length → x0.length - i = d → Ev (fun k => padlocklaw01_before.l0 k x0 x1 i) (lexLt (x0.drop i) (x1.drop i)) := by
  induction d with
  | zero =>
    intro i hi hd
    refine Ev.step (f := fun k => padlocklaw01_before.j1 k x0 x1 i false) (fun k => by simp only [padlocklaw01_before.l0]; rw [if_neg (by omega)]) ?_
    refine Ev.step (f := fun _ => some false) (fun k => by simp only [padlocklaw01_before.j1]; rw [if_neg (by decide)]) ?_
    rw [List.drop_of_length_le (by omega)]
    exact Ev.now _
  | succ d ih =>
    intro i hi hd
    have h0 : i < x0.length := by omega
    by_cases h1 : i < x1.length
    · refine Ev.step (f := fun k => padlocklaw01_before.j1 k x0 x1 i true) (fun k => by simp only [padlocklaw01_before.l0]; rw [if_pos (by omega), decide_eq_true (by omega)]) ?_
      rw [List.drop_eq_getElem_cons h0, List.drop_eq_getElem_cons h1]
      simp only [lexLt]
      by_cases he : rd x0 i = rd x1 i
      · refine Ev.step (f := fun k => padlocklaw01_before.l0 k x0 x1 ((i + 1 : Nat) : Int)) (fun k => by
          simp only [padlocklaw01_before.j1, if_true]
          rw [if_pos (by omega), if_pos (by omega), if_pos (by omega), if_pos he, wrap_next h0 hn]) ?_
        have := ih (i + 1) (by omega) (by omega)
        rw [rd_get _ _ h0, rd_get _ _ h1] at he
        rw [if_pos he]
        exact this
      · refine Ev.step (f := fun _ => some (decide (rd x0 i < rd x1 i))) (fun k => by
          simp only [padlocklaw01_before.j1, if_true]
          rw [if_pos (by omega), if_pos (by omega), if_pos (by omega), if_neg he]) ?_
        rw [rd_get _ _ h0, rd_get _ _ h1] at he ⊢
        rw [if_neg he]
        exact Ev.now _
    · refine Ev.step (f := fun k => padlocklaw01_before.j1 k x0 x1 i false) (fun k => by simp only [padlocklaw01_before.l0]; rw [if_pos (by omega), decide_eq_false (by omega)]) ?_
      refine Ev.step (f := fun _ => some false) (fun k => by simp only [padlocklaw01_before.j1]; rw [if_neg (by decide)]) ?_
      rw [List.drop_eq_getElem_cons h0, List.drop_of_length_le (show x1.length ≤ i by omega)]
      exact Ev.now _
theorem before_ev (x0 x1 : List Int) (hn : x0.length ≤ 9223372036854775807) : Ev (fun k => padlocklaw01_before.f k x0 x1) (lexLt x0 x1) := before_l0 x0 x1 hn _ 0 (Nat.zero_le _) rfl
def notC (q : S36) : S36 := ⟨q.f0, q.f1, q.f2, q.f3, q.f4, q.f5, !q.f6⟩
theorem holds_not (q : S36) (c : List Int) : holdsC (notC q) c = !holdsC q c := by
  unfold holdsC notC
  simp only
  generalize plainB q.f0 q.f1 q.f2 q.f3 q.f4 q.f5 c = b
  cases b <;> cases q.f6 <;> rfl
theorem split_not (al : List (List Int)) (q : S36) : (al.filter (holdsC q)).length + (al.filter (holdsC (notC q))).length = al.length := by
  induction al with
  | nil => rfl
  | cons c al ih =>
    rw [List.filter_cons, List.filter_cons, holds_not]
    cases h : holdsC q c <;> simp [h] <;> omega
theorem valid_not {W S : Int} {q : S36} (h : validC W S q = true) : validC W S (notC q) = true := h
section
variable {al : List (List Int)} (hs : al.Pairwise (fun a b => lexLt a b = true))
include hs
theorem sorted_next (i : Nat) (h : i + 1 < (al.take 64).length) : lexLt ((al.take 64)[i]'(by omega)) ((al.take 64)[i + 1]'h) = true := by
  have hp : (al.take 64).Pairwise (fun a b => lexLt a b = true) := hs.sublist (List.take_sublist 64 al)
  exact List.pairwise_iff_getElem.1 hp i (i + 1) (by omega) h (by omega)
theorem beyond_last {c : List Int} (hc : c ∈ al) (hn : c ∉ al.take 64) (hm : 64 < al.length) : lexLt c (al[63]'(by omega)) = false := by
  obtain ⟨j, hj, rfl⟩ := List.mem_iff_getElem.1 hc
  have h64 : 64 ≤ j := by
    rcases Nat.lt_or_ge j 64 with h | h
    · refine absurd ?_ hn
      rw [List.mem_take_iff_getElem]
      exact ⟨j, by omega, rfl⟩
    · exact h
  exact lexLt_asymm _ _ (List.pairwise_iff_getElem.1 hs 63 j (by omega) hj (by omega))
end
end Go.Proofs.Ytimkchehdaadeaa.P
