/- Part 35 of a proof: the statement CodesDecoys: for every input its law returns true (its texts without what nothing here names). -/
import Derived.Test.YtimkchehdaadeaaZDecoys21
import Derived.Test.YtimkchehdaadeaaZDecoys28
import Derived.Test.YtimkchehdaadeaaZDecoys29

namespace Go.Proofs.Ytimkchehdaadeaa.P
open Go.RowKit Go.Proofs.YtimkchehdaadeaaW.PrintWords Go.Proofs.YtimkchehdaadeaaW.PrintLast Go.Proofs.YtimkchehdaadeaaW.PrintMore
set_option linter.unusedVariables false
set_option linter.unusedSimpArgs false
section
variable {al : List (List Int)} (hs : al.Pairwise (fun a b => lexLt a b = true))
include hs
end
end Go.Proofs.Ytimkchehdaadeaa.P
