/- Part 38 of a proof: the statement CodesFewest: for every input its law returns true (its texts without what nothing here names). -/
import Derived.Test.YtimkchehdaadeaaZFewest29
import Derived.Test.YtimkchehdaadeaaZFewest31
import Derived.Test.YtimkchehdaadeaaZFewest35
import Derived.Test.YtimkchehdaadeaaZFewest36
import Derived.Test.YtimkchehdaadeaaZFewest37

namespace Go.Proofs.Ytimkchehdaadeaa.P
open Go.RowKit Go.Proofs.YtimkchehdaadeaaW.PrintWords Go.Proofs.YtimkchehdaadeaaW.PrintLast Go.Proofs.YtimkchehdaadeaaW.PrintMore
set_option linter.unusedVariables false
set_option linter.unusedSimpArgs false
end Go.Proofs.Ytimkchehdaadeaa.P
