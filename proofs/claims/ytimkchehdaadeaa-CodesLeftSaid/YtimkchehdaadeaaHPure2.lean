/- What the printed functions of the reference come to, part 2: answers, clues, works. -/
import Derived.Test.YtimkchehdaadeaaHPure
import Derived.Test.YtimkchehdaadeaaHOk
import Derived.Test.YtimkchehdaadeaaHWorks
namespace Go.Proofs.Ytimkchehdaadeaa.P
open Go.RowKit Go.Proofs.YtimkchehdaadeaaW.PrintWords Go.Proofs.YtimkchehdaadeaaW.PrintLast Go.Proofs.YtimkchehdaadeaaW.PrintMore
set_option linter.unusedVariables false
set_option linter.unusedSimpArgs false

theorem shown_l0 (l : List Int) (a : Int) (hn : l.length ≤ 9223372036854775807) (d : Nat) : ∀ i : Nat, i ≤ l.length → l.length - i = d → Ev (fun k => padlockref01_shown.l0 k l a (((l.take i).count a : Nat) : Int) i) ((l.count a : Nat) : Int) := by
  induction d with
  | zero =>
    intro i hi hd
    refine Ev.step (f := fun _ => some ((l.count a : Nat) : Int)) (fun k => by simp only [padlockref01_shown.l0]; rw [if_neg (by omega), List.take_of_length_le (by omega)]) ?_
    exact Ev.now _
  | succ d ih =>
    intro i hi hd
    have h0 : i < l.length := by omega
    have hc := count_take_succ l i h0 a
    have hcl := count_take_le l i a
    have := ih (i + 1) (by omega) (by omega)
    by_cases he : rd l i = a
    · rw [hc, if_pos he] at this
      refine Ev.step (fun k => ?_) this
      simp only [padlockref01_shown.l0]
      rw [if_pos (by omega), if_pos (by omega), if_pos he, wrap_next h0 hn, wrap_next (n := l.length) (by omega) hn]
    · rw [hc, if_neg he] at this
      refine Ev.step (fun k => ?_) this
      simp only [padlockref01_shown.l0]
      rw [if_pos (by omega), if_pos (by omega), if_neg he, wrap_next h0 hn]
      rfl
theorem shown_ev (l : List Int) (a : Int) (hn : l.length ≤ 9223372036854775807) : Ev (fun k => padlockref01_shown.f k l a) ((l.count a : Nat) : Int) := by
  have := shown_l0 l a hn _ 0 (by omega) rfl
  simpa [padlockref01_shown.f] using this
theorem answer_l1 (l0 l1 : List Int) (hn : l0.length ≤ 1000000) (hn1 : l1.length ≤ 1000000) (R : Int) (hR : 0 ≤ R ∧ R ≤ 1000000) (d : Nat) : ∀ i : Nat, i ≤ 10 → 10 - i = d → Ev (fun k => padlockref01_answer.l1 k l0 l1 R ((commonTo l0 l1 i : Nat) : Int) i) (R, ((commonTo l0 l1 10 : Nat) : Int) - R) := by
  induction d with
  | zero =>
    intro i hi hd
    obtain rfl : i = 10 := by omega
    have hc := commonTo_le l0 l1 10
    refine Ev.step (f := fun _ => some (R, ((commonTo l0 l1 10 : Nat) : Int) - R)) (fun k => by simp only [padlockref01_answer.l1]; rw [if_neg (by omega), wrap_small (by omega) (by omega)]) ?_
    exact Ev.now _
  | succ d ih =>
    intro i hi hd
    have := ih (i + 1) (by omega) (by omega)
    have h0 := shown_ev l0 (i : Int) (by omega)
    have h1 := shown_ev l1 (i : Int) (by omega)
    have hc := commonTo_le l0 l1 (i + 1)
    refine Ev.step (f := fun k => (padlockref01_shown.f k l0 i).bind fun t61103 => (padlockref01_shown.f k l1 i).bind fun t61104 => padlockref01_answer.l1 k l0 l1 R (wrap64 (((commonTo l0 l1 i : Nat) : Int) + mn t61103 t61104)) (wrap64 ((i : Int) + 1))) (fun k => by simp only [padlockref01_answer.l1]; rw [if_pos (by omega)]) ?_
    refine Ev.bind h0 (Ev.bind h1 ?_)
    have e : wrap64 (((commonTo l0 l1 i : Nat) : Int) + mn ((l0.count (i : Int) : Nat) : Int) ((l1.count (i : Int) : Nat) : Int)) = ((commonTo l0 l1 (i + 1) : Nat) : Int) := by
      have e2 : mn ((l0.count (i : Int) : Nat) : Int) ((l1.count (i : Int) : Nat) : Int) = ((min (l0.count (i : Int)) (l1.count (i : Int)) : Nat) : Int) := by
        unfold mn; split <;> omega
      rw [e2]
      simp only [commonTo] at hc ⊢
      rw [wrap_small (by omega) (by omega)]
      omega
    rw [e, wrap_next (n := 10) (by omega) (by omega)]
    exact this
theorem answer_l0 (l0 l1 : List Int) (hl : l0.length = l1.length) (hn : l0.length ≤ 1000000) (d : Nat) : ∀ i : Nat, i ≤ l0.length → l0.length - i = d → Ev (fun k => padlockref01_answer.l0 k l0 l1 ((rightTo l0 l1 i : Nat) : Int) 0 i) (((rightTo l0 l1 l0.length : Nat) : Int), ((commonTo l0 l1 10 : Nat) : Int) - (rightTo l0 l1 l0.length : Nat)) := by
  induction d with
  | zero =>
    intro i hi hd
    obtain rfl : i = l0.length := by omega
    have hr := rightTo_len l0 l1
    refine Ev.step (fun k => ?_) (answer_l1 l0 l1 hn (by omega) ((rightTo l0 l1 l0.length : Nat) : Int) ⟨by omega, by omega⟩ _ 0 (by omega) rfl)
    simp only [padlockref01_answer.l0]
    rw [if_neg (by omega)]; rfl
  | succ d ih =>
    intro i hi hd
    have h0 : i < l0.length := by omega
    have h1 : i < l1.length := by omega
    have hr := rightTo_le l0 l1 i
    have := ih (i + 1) (by omega) (by omega)
    rw [rightTo_succ l0 l1 i h0 h1] at this
    by_cases he : rd l0 i = rd l1 i
    · rw [if_pos he] at this
      refine Ev.step (fun k => ?_) this
      simp only [padlockref01_answer.l0]
      rw [if_pos (by omega), if_pos (by omega), if_pos (by omega), if_pos he, wrap_next (n := 1000001) (by omega) (by omega), wrap_next h0 (by omega)]
    · rw [if_neg he] at this
      refine Ev.step (fun k => ?_) this
      simp only [padlockref01_answer.l0]
      rw [if_pos (by omega), if_pos (by omega), if_pos (by omega), if_neg he, wrap_next h0 (by omega)]
      rfl
theorem answer_ev (l0 l1 : List Int) (hl : l0.length = l1.length) (hn : l0.length ≤ 1000000) : Ev (fun k => padlockref01_answer.f k l0 l1) (((rightTo l0 l1 l0.length : Nat) : Int), ((commonTo l0 l1 10 : Nat) : Int) - (rightTo l0 l1 l0.length : Nat)) := by
  have := answer_l0 l0 l1 hl hn _ 0 (by omega) rfl
  rw [rightTo_zero] at this
  exact this

/-! ### Answer -/
/-- What Answer comes to. -/
def answerS (W S : Int) (l1 l2 : List Int) : Int × Int × Int :=
  if okLock W S then (if isCodeB W S l1 && isCodeB W S l2 then (((rightTo l1 l2 l1.length : Nat) : Int), ((commonTo l1 l2 10 : Nat) : Int) - (rightTo l1 l2 l1.length : Nat), 0) else (0, 0, 12)) else (0, 0, 10)
theorem Answer_eq (W S : Int) (l1 l2 : List Int) : codes_Answer.f W S l1 l2 = some (answerS W S l1 l2) := by
  unfold codes_Answer.f answerS codes_checkCodes.f
  by_cases h : okLock W S
  · simp only [if_pos h, Option.bind_some, List.all_cons, List.all_nil, Bool.and_true]
    by_cases h2 : (isCodeB W S l1 && isCodeB W S l2) = true
    · simp only [if_pos h2]
      rw [Bool.and_eq_true] at h2
      obtain ⟨e1, d1⟩ := isCode_dig h.2.2.2 h2.1
      obtain ⟨e2, d2⟩ := isCode_dig h.2.2.2 h2.2
      have hk : l1.length = l2.length ∧ dig l1 ∧ dig l2 := ⟨by omega, d1, d2⟩
      unfold codes_answer.f
      rw [if_pos hk]
      rfl
    · simp only [if_neg h2]
      rfl
  · simp only [if_neg h, Option.bind_some]
    rfl
theorem RAnswer_ev (W S : Int) (l1 l2 : List Int) (h1 : l1.length ≤ 9223372036854775807) (h2 : l2.length ≤ 9223372036854775807) : Ev (fun k => padlockref01_Answer.f k W S l1 l2) (answerS W S l1 l2) := by
  have e1 := RCheckCode_ev W S l1 h1
  have e2 := RCheckCode_ev W S l2 h2
  unfold padlockref01_Answer.f answerS
  refine Ev.bind e1 ?_
  by_cases h : okLock W S
  · simp only [if_pos h] at e2 ⊢
    by_cases c1 : isCodeB W S l1 = true
    · simp only [if_pos c1, c1, Bool.true_and, if_true]
      refine Ev.bind e2 ?_
      by_cases c2 : isCodeB W S l2 = true
      · simp only [if_pos c2, c2, if_true]
        obtain ⟨a1, _⟩ := isCode_dig h.2.2.2 c1
        obtain ⟨a2, _⟩ := isCode_dig h.2.2.2 c2
        have := h.2.1
        exact Ev.bind (answer_ev l1 l2 (by omega) (by omega)) (Ev.now _)
      · simp only [if_neg c2]
        exact Ev.now _
    · simp only [if_neg c1, Bool.eq_false_iff.mpr c1, Bool.false_and, if_false, Bool.false_eq_true]
      exact Ev.now _
  · simp only [if_neg h]
    exact Ev.now _
theorem works_true : padlocklaw01_works.f = some true := rfl
end Go.Proofs.Ytimkchehdaadeaa.P
