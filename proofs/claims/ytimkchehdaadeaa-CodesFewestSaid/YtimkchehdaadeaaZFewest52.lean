/- Part 52 of a proof: the statement CodesFewest: for every input its law returns true (its texts without what nothing here names). -/
import Derived.Test.YtimkchehdaadeaaZFewest19
import Derived.Test.YtimkchehdaadeaaZFewest22
import Derived.Test.YtimkchehdaadeaaZFewest24
import Derived.Test.YtimkchehdaadeaaZFewest25
import Derived.Test.YtimkchehdaadeaaZFewest32
import Derived.Test.YtimkchehdaadeaaZFewest33
import Derived.Test.YtimkchehdaadeaaZFewest50
import Derived.Test.YtimkchehdaadeaaZFewest51

section
namespace Go.Proofs.Ytimkchehdaadeaa.P
open Go.RowKit Go.Shelf Go.Pad Go.Proofs.YtimkchehdaadeaaW.PrintWords Go.Proofs.YtimkchehdaadeaaW.PrintLast Go.Proofs.YtimkchehdaadeaaW.PrintMore
attribute [local go_sem] Oper.semAt_some
set_option linter.unusedVariables false
set_option linter.unusedSimpArgs false
end Go.Proofs.Ytimkchehdaadeaa.P
end
section
namespace Go.Proofs.Ytimkchehdaadeaa.P
open Go.RowKit Go.Proofs.YtimkchehdaadeaaW.PrintWords Go.Proofs.YtimkchehdaadeaaW.PrintLast Go.Proofs.YtimkchehdaadeaaW.PrintMore
set_option linter.unusedVariables false
set_option linter.unusedSimpArgs false
attribute [local go_sem] max2_int min2_int max_two min_two max_three min_three max_four min_four
theorem ex_sub (i j : Nat) (h : j = i - 1) (h0 : 0 < i) (hb : i ≤ 100000) : wrap64 ((i : Int) - 1) = (j : Int) := by rw [wrap_small (by omega) (by omega)]; omega
end Go.Proofs.Ytimkchehdaadeaa.P
end
