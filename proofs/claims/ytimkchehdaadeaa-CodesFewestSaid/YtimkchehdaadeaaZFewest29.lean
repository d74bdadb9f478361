/- Part 29 of a proof: the statement CodesFewest: for every input its law returns true (its texts without what nothing here names). -/
import Derived.Test.YtimkchehdaadeaaZFewest12
import Derived.Test.YtimkchehdaadeaaZFewest20
import Derived.Test.YtimkchehdaadeaaZFewest27
import Derived.Test.YtimkchehdaadeaaZFewest28

namespace Go.Proofs.Ytimkchehdaadeaa.P
open Go.RowKit Go.Proofs.YtimkchehdaadeaaW.PrintWords Go.Proofs.YtimkchehdaadeaaW.PrintLast Go.Proofs.YtimkchehdaadeaaW.PrintMore
set_option linter.unusedVariables false
set_option linter.unusedSimpArgs false
section
variable {n s : Nat} (hn : n ≤ 4) (hs : s ≤ 10) (hs0 : 0 < s) {al : List (List Int)} (hal : ∀ c ∈ al, c ∈ allCodes s n) {x : List Int} (hx : x ∈ allCodes s n) (h200 : al.length ≤ 100000)
include hn hs hs0 hal hx h200
end
end Go.Proofs.Ytimkchehdaadeaa.P
