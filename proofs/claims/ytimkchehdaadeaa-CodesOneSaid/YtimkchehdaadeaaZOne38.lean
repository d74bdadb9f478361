/- Part 38 of a proof: the statement CodesOne: for every input its law returns true (its texts without what nothing here names). -/
import Derived.Test.YtimkchehdaadeaaZOne18
import Derived.Test.YtimkchehdaadeaaZOne25
import Derived.Test.YtimkchehdaadeaaZOne32
import Derived.Test.YtimkchehdaadeaaZOne34
import Derived.Test.YtimkchehdaadeaaZOne37
import Derived.Lib.SliceRun
import Derived.RegionTactic
import Derived.BigRegion
import Derived.ChangeAlike
section
namespace Go.Proofs.Ytimkchehdaadeaa.P
open Go.RowKit Go.Shelf Go.Proofs.YtimkchehdaadeaaW.PrintWords Go.Proofs.YtimkchehdaadeaaW.PrintLast Go.Proofs.YtimkchehdaadeaaW.PrintMore
set_option linter.unusedVariables false
set_option linter.unusedSimpArgs false
end Go.Proofs.Ytimkchehdaadeaa.P
end
section
namespace Go.Proofs.Ytimkchehdaadeaa.P
open Go.RowKit Go.Proofs.YtimkchehdaadeaaW.PrintWords Go.Proofs.YtimkchehdaadeaaW.PrintLast Go.Proofs.YtimkchehdaadeaaW.PrintMore
set_option linter.unusedVariables false
set_option linter.unusedSimpArgs false
theorem fitsS_code {W S : Int} {l : List S36} {c : List Int} (h : checkCluesS W S l = 0) (hc : isCodeB W S c = true) : fitsS W S l c = (idxI (fun q => !holdsC q c) l, fitsAll l c, 0) := by
  unfold fitsS; rw [if_pos h, if_pos hc]
theorem fitsS_no {W S : Int} {l : List S36} {c : List Int} (h : checkCluesS W S l = 0) (hc : ¬ isCodeB W S c = true) : fitsS W S l c = (0, false, 12) := by
  unfold fitsS; rw [if_pos h, if_neg hc]
end Go.Proofs.Ytimkchehdaadeaa.P
end
