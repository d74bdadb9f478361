/- Part 41 of a proof: the statement TopPortraits: for every input its law returns true (its texts without what nothing here names). -/
import Derived.Test.YtimkchehdaadeaaZTop7
import Derived.Test.YtimkchehdaadeaaZTop11
import Derived.Test.YtimkchehdaadeaaZTop13
import Derived.Test.YtimkchehdaadeaaZTop30

namespace Go.Proofs.Ytimkchehdaadeaa.P
open Go.RowKit Go.Proofs.YtimkchehdaadeaaW.PrintWords Go.Proofs.YtimkchehdaadeaaW.PrintLast Go.Proofs.YtimkchehdaadeaaW.PrintMore
attribute [local go_sem] max2_int min2_int max_two min_two max_three min_three max_four min_four
set_option linter.unusedVariables false
set_option linter.unusedSimpArgs false
end Go.Proofs.Ytimkchehdaadeaa.P
