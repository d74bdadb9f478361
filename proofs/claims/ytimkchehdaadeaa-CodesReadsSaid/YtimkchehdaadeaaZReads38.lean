/- Part 38 of a proof: the statement CodesReads: for every input its law returns true (its texts without what nothing here names). -/
import Derived.Test.YtimkchehdaadeaaZReads15
import Derived.Test.YtimkchehdaadeaaZReads23
import Derived.Test.YtimkchehdaadeaaZReads36
import Derived.Test.YtimkchehdaadeaaZReads37

namespace Go.Proofs.Ytimkchehdaadeaa.P
open Go.RowKit Go.Shelf Go.Pad Go.Proofs.YtimkchehdaadeaaW.PrintWords Go.Proofs.YtimkchehdaadeaaW.PrintLast Go.Proofs.YtimkchehdaadeaaW.PrintMore
attribute [local go_sem] Oper.semAt_some
set_option linter.unusedVariables false
set_option linter.unusedSimpArgs false
end Go.Proofs.Ytimkchehdaadeaa.P
