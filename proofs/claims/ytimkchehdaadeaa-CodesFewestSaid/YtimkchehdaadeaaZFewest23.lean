/- Part 23 of a proof: the statement CodesFewest: for every input its law returns true (its texts without what nothing here names). -/
import Derived.Test.YtimkchehdaadeaaZFewest20
import Derived.Test.YtimkchehdaadeaaZFewest21
import Derived.Test.YtimkchehdaadeaaZFewest22

namespace Go.Proofs.Ytimkchehdaadeaa.P
open Go.RowKit Go.Proofs.YtimkchehdaadeaaW.PrintWords Go.Proofs.YtimkchehdaadeaaW.PrintLast Go.Proofs.YtimkchehdaadeaaW.PrintMore
set_option linter.unusedVariables false
set_option linter.unusedSimpArgs false
theorem CheckCode_eq (W S : Int) (l : List Int) : codes_CheckCode.f W S l = some (if okLock W S then (if isCodeB W S l then 0 else 12) else 10) := by
  unfold codes_CheckCode.f codes_checkCodes.f
  simp only [Option.bind_some, List.all_cons, List.all_nil, Bool.and_true]
end Go.Proofs.Ytimkchehdaadeaa.P
