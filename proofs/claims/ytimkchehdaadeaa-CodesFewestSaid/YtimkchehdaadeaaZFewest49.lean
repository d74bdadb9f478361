/- Part 49 of a proof: the statement CodesFewest: for every input its law returns true (its texts without what nothing here names). -/
import Derived.Test.YtimkchehdaadeaaZFewest20
import Derived.Test.YtimkchehdaadeaaZFewest27

namespace Go.Proofs.Ytimkchehdaadeaa.P
open Go.RowKit Go.Proofs.YtimkchehdaadeaaW.PrintWords Go.Proofs.YtimkchehdaadeaaW.PrintLast Go.Proofs.YtimkchehdaadeaaW.PrintMore
set_option linter.unusedVariables false
set_option linter.unusedSimpArgs false
set_option linter.unusedSectionVars false
section
variable {n s : Nat} (hn : n ≤ 4) (hs : s ≤ 10) (hs0 : 0 < s) {al : List (List Int)} (hal : ∀ c ∈ al, c ∈ allCodes s n) {g : List Int} (hg : g ∈ al)
include hn hs hs0 hal hg
end
end Go.Proofs.Ytimkchehdaadeaa.P
