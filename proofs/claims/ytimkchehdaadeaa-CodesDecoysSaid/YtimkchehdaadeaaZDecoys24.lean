/- Part 24 of a proof: the statement CodesDecoys: for every input its law returns true (its texts without what nothing here names). -/
import Derived.Test.YtimkchehdaadeaaZDecoys21
import Derived.Test.YtimkchehdaadeaaZDecoys22
import Derived.Test.YtimkchehdaadeaaZDecoys23

namespace Go.Proofs.Ytimkchehdaadeaa.P
open Go.RowKit Go.Proofs.YtimkchehdaadeaaW.PrintWords Go.Proofs.YtimkchehdaadeaaW.PrintLast Go.Proofs.YtimkchehdaadeaaW.PrintMore
set_option linter.unusedVariables false
set_option linter.unusedSimpArgs false
def checkClueS (W S : Int) (q : S36) : Int := if okLock W S then (if validC W S q then 0 else 11) else 10
theorem CheckClue_eq (W S : Int) (q : S36) : codes_CheckClue.f W S q.f0 q.f1 q.f2 q.f3 q.f4 q.f5 q.f6 = some (checkClueS W S q) := by
  unfold codes_CheckClue.f checkClueS codes_lock_clue.f
  simp only [Check_eq, Option.bind_some]
  by_cases hl : okLock W S
  · simp only [if_pos hl, if_true, Option.bind_some]
    unfold validC
    cases validB W S q.f0 q.f1 q.f2 q.f3 q.f4 q.f5 <;> rfl
  · simp only [if_neg hl]; rfl
end Go.Proofs.Ytimkchehdaadeaa.P
