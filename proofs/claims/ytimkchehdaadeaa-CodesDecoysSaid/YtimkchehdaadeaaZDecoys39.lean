/- Part 39 of a proof: the statement CodesDecoys: for every input its law returns true (its texts without what nothing here names). -/
import Derived.Test.YtimkchehdaadeaaZDecoys12
import Derived.Test.YtimkchehdaadeaaZDecoys21
import Derived.Test.YtimkchehdaadeaaZDecoys25
import Derived.Test.YtimkchehdaadeaaZDecoys28
import Derived.Test.YtimkchehdaadeaaZDecoys29
import Derived.Test.YtimkchehdaadeaaZDecoys38

section
namespace Go.Proofs.Ytimkchehdaadeaa.P
open Go.RowKit Go.Proofs.YtimkchehdaadeaaW.PrintWords Go.Proofs.YtimkchehdaadeaaW.PrintLast Go.Proofs.YtimkchehdaadeaaW.PrintMore
set_option linter.unusedVariables false
set_option linter.unusedSimpArgs false
section
variable {n s : Nat} (hn : n ≤ 4) (hs : s ≤ 10) (hs0 : 0 < s) {al : List (List Int)} (hal : ∀ c ∈ al, c ∈ allCodes s n) {x : List Int} (hx : x ∈ allCodes s n) (h200 : al.length ≤ 100000)
include hn hs hs0 hal hx h200
end
end Go.Proofs.Ytimkchehdaadeaa.P
end
section
namespace Go.Proofs.Ytimkchehdaadeaa.P
open Go.RowKit Go.Shelf Go.Proofs.YtimkchehdaadeaaW.PrintWords Go.Proofs.YtimkchehdaadeaaW.PrintLast Go.Proofs.YtimkchehdaadeaaW.PrintMore
set_option linter.unusedVariables false
set_option linter.unusedSimpArgs false
end Go.Proofs.Ytimkchehdaadeaa.P
end
