/- Part 40 of a proof: the statement TopPortraits: for every input its law returns true (its texts without what nothing here names). -/
import Derived.Test.YtimkchehdaadeaaZTop13
import Derived.Test.YtimkchehdaadeaaZTop18
import Derived.Test.YtimkchehdaadeaaZTop30
import Derived.Test.YtimkchehdaadeaaZTop33
import Derived.Test.YtimkchehdaadeaaZTop34

namespace Go.Proofs.Ytimkchehdaadeaa.P
open Go.RowKit Go.Shelf Go.Proofs.YtimkchehdaadeaaW.PrintWords Go.Proofs.YtimkchehdaadeaaW.PrintLast Go.Proofs.YtimkchehdaadeaaW.PrintMore
set_option linter.unusedVariables false
set_option linter.unusedSimpArgs false
end Go.Proofs.Ytimkchehdaadeaa.P
