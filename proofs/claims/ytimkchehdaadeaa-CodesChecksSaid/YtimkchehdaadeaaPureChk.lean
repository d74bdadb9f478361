/- CodesChecks: what the law comes to. -/
import Derived.Test.YtimkchehdaadeaaHPure3a
import Derived.Test.YtimkchehdaadeaaPx20
namespace Go.Proofs.Ytimkchehdaadeaa.P
open Go.RowKit Go.Proofs.YtimkchehdaadeaaW.PrintWords Go.Proofs.YtimkchehdaadeaaW.PrintLast Go.Proofs.YtimkchehdaadeaaW.PrintMore
def holdsS (W S : Int) (q : S36) (c : List Int) : Bool × Int := if checkClueS W S q = 0 then (if isCodeB W S c then (holdsC q c, 0) else (false, 12)) else (false, checkClueS W S q)
theorem checkClue_ok {W S : Int} {q : S36} (h : checkClueS W S q = 0) : okLock W S ∧ validC W S q = true := by
  unfold checkClueS at h
  split at h
  case isFalse => omega
  case isTrue hl =>
  split at h
  case isFalse => omega
  case isTrue hv => exact ⟨hl, hv⟩
theorem Holds_eq (W S : Int) (q : S36) (c : List Int) : codes_Holds.f W S q.f0 q.f1 q.f2 q.f3 q.f4 q.f5 q.f6 c = some (holdsS W S q c) := by
  unfold codes_Holds.f holdsS
  simp only [CheckClue_eq, CheckCode_eq, Option.bind_some]
  by_cases h : checkClueS W S q = 0
  · obtain ⟨hl, hv⟩ := checkClue_ok h
    simp only [if_pos h, if_pos hl]
    by_cases hc : isCodeB W S c = true
    · simp only [hc, if_true, holds_eq q c (okC_of_valid hl hv hc), Option.bind_some]
    · simp only [if_neg hc]; rfl
  · simp only [if_neg h]
theorem RHolds_ev (W S : Int) (q : S36) (c : List Int) (h2 : c.length ≤ 9223372036854775807) : Ev (fun k => padlockref01_Holds.f k W S q.f0 q.f1 q.f2 q.f3 q.f4 q.f5 q.f6 c) (holdsS W S q c) := by
  unfold padlockref01_Holds.f holdsS
  simp only [RCheckClue_eq, Option.bind_some]
  by_cases h : checkClueS W S q = 0
  · obtain ⟨hl, hv⟩ := checkClue_ok h
    simp only [if_pos h]
    refine Ev.bind (isCode_ev W S hl c h2) ?_
    by_cases hc : isCodeB W S c = true
    · simp only [hc, if_true]
      have hcl := (isCodeB_iff.1 hc).1
      have hW := hl.2.1
      exact Ev.bind (True_ev q c (okC_of_valid hl hv hc) (by omega)) (Ev.now _)
    · simp only [if_neg hc]; exact Ev.now _
  · simp only [if_neg h]; exact Ev.now _
set_option linter.unusedVariables false in
theorem CodesChecks_pure (W S : Int) (q : S36) (c : List Int) (h1 : q.f5.length ≤ 9223372036854775807) (h2 : c.length ≤ 9223372036854775807) : ∃ k, padlocklaw01_CodesChecks.f k W S q.f0 q.f1 q.f2 q.f3 q.f4 q.f5 q.f6 c = some true := by
  refine Ev.rounds (g := fun k => padlocklaw01_CodesChecks.f k W S q.f0 q.f1 q.f2 q.f3 q.f4 q.f5 q.f6 c) ?_
  unfold padlocklaw01_CodesChecks.f
  simp only [Check_eq, RCheck_eq, CheckClue_eq, RCheckClue_eq, CheckCode_eq, Option.bind_some, if_true]
  refine Ev.bind (RCheckCode_ev W S c h2) ?_
  rw [show ∀ a : Int, (a != a) = false from fun a => by simp]
  refine Ev.step (f := fun k => (padlockref01_Holds.f k W S q.f0 q.f1 q.f2 q.f3 q.f4 q.f5 q.f6 c).bind fun b => if ((holdsS W S q c).1 == b.1) = true then (if (holdsS W S q c).2 = b.2 then some true else some false) else some false) (fun k => ?_) ?_
  · simp only [padlocklaw01_CodesChecks.j0, Bool.false_eq_true, if_false, Holds_eq, works_true, Option.bind_some]
  · refine Ev.bind (RHolds_ev W S q c h2) ?_
    simp only [beq_self_eq_true, if_true]
    exact Ev.now _
end Go.Proofs.Ytimkchehdaadeaa.P
