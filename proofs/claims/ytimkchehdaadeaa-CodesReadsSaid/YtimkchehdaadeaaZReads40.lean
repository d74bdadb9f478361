/- Part 40 of a proof: the statement CodesReads: for every input its law returns true (its texts without what nothing here names). -/
import Derived.Test.YtimkchehdaadeaaZReads15
import Derived.Test.YtimkchehdaadeaaZReads28
import Derived.Test.YtimkchehdaadeaaZReads31
import Derived.Test.YtimkchehdaadeaaZReads32
import Derived.Test.YtimkchehdaadeaaZReads34

namespace Go.Proofs.Ytimkchehdaadeaa.P
open Go.RowKit Go.Shelf Go.Proofs.YtimkchehdaadeaaW.PrintWords Go.Proofs.YtimkchehdaadeaaW.PrintLast Go.Proofs.YtimkchehdaadeaaW.PrintMore
set_option linter.unusedVariables false
set_option linter.unusedSimpArgs false
theorem rdL_get2 (l : List (List Int)) (i : Nat) (h : i < l.length) : rd_L2 l i = l[i] := by simp [rd_L2, List.getD_eq_getElem?_getD, List.getElem?_eq_getElem h]
end Go.Proofs.Ytimkchehdaadeaa.P
