/- Part 41 of a proof: the statement CodesChooses: for every input its law returns true (its texts without what nothing here names). -/
import Derived.Test.YtimkchehdaadeaaZChooses15
import Derived.Test.YtimkchehdaadeaaZChooses29
import Derived.Test.YtimkchehdaadeaaZChooses32
import Derived.Test.YtimkchehdaadeaaZChooses33
import Derived.Test.YtimkchehdaadeaaZChooses35

namespace Go.Proofs.Ytimkchehdaadeaa.P
open Go.RowKit Go.Shelf Go.Proofs.YtimkchehdaadeaaW.PrintWords Go.Proofs.YtimkchehdaadeaaW.PrintLast Go.Proofs.YtimkchehdaadeaaW.PrintMore
set_option linter.unusedVariables false
set_option linter.unusedSimpArgs false
end Go.Proofs.Ytimkchehdaadeaa.P
