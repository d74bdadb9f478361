/- Part 28 of a proof: the statement CodesOne: for every input its law returns true (its texts without what nothing here names). -/
import Derived.Test.YtimkchehdaadeaaZOne25
import Derived.Test.YtimkchehdaadeaaZOne26
import Derived.Test.YtimkchehdaadeaaZOne27

namespace Go.Proofs.Ytimkchehdaadeaa.P
open Go.RowKit Go.Proofs.YtimkchehdaadeaaW.PrintWords Go.Proofs.YtimkchehdaadeaaW.PrintLast Go.Proofs.YtimkchehdaadeaaW.PrintMore
set_option linter.unusedVariables false
set_option linter.unusedSimpArgs false
theorem isClue_eq (W S : Int) (hl : okLock W S) (q : S36) : padlockref01_isClue.f W S q.f0 q.f1 q.f2 q.f3 q.f4 q.f5 q.f6 = some (validC W S q) := by
  unfold padlockref01_isClue.f; rw [if_pos hl]; rfl
theorem CheckCode_eq (W S : Int) (l : List Int) : codes_CheckCode.f W S l = some (if okLock W S then (if isCodeB W S l then 0 else 12) else 10) := by
  unfold codes_CheckCode.f codes_checkCodes.f
  simp only [Option.bind_some, List.all_cons, List.all_nil, Bool.and_true]
def checkClueS (W S : Int) (q : S36) : Int := if okLock W S then (if validC W S q then 0 else 11) else 10
theorem CheckClue_eq (W S : Int) (q : S36) : codes_CheckClue.f W S q.f0 q.f1 q.f2 q.f3 q.f4 q.f5 q.f6 = some (checkClueS W S q) := by
  unfold codes_CheckClue.f checkClueS codes_lock_clue.f
  simp only [Check_eq, Option.bind_some]
  by_cases hl : okLock W S
  · simp only [if_pos hl, if_true, Option.bind_some]
    unfold validC
    cases validB W S q.f0 q.f1 q.f2 q.f3 q.f4 q.f5 <;> rfl
  · simp only [if_neg hl]; rfl
end Go.Proofs.Ytimkchehdaadeaa.P
