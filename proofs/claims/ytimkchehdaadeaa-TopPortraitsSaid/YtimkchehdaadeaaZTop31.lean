/- Part 31 of a proof: the statement TopPortraits: for every input its law returns true (its texts without what nothing here names). -/
import Derived.Test.YtimkchehdaadeaaZTop26
import Derived.Test.YtimkchehdaadeaaZTop29
import Derived.Test.YtimkchehdaadeaaZTop30

namespace Go.Proofs.Ytimkchehdaadeaa.P
open Go.RowKit Go.Proofs.YtimkchehdaadeaaW.PrintWords Go.Proofs.YtimkchehdaadeaaW.PrintLast Go.Proofs.YtimkchehdaadeaaW.PrintMore
set_option linter.unusedVariables false
set_option linter.unusedSimpArgs false
def checkCluesS (W S : Int) (l : List S36) : Int := if okLock W S then (if (20 : Int) < l.length then 2 else if l.all (validC W S) then 0 else 11) else 10
theorem checkClues_eq (W S : Int) (l : List S36) : codes_checkClues.f W S l = some (checkCluesS W S l) := rfl
theorem checkClues_ok {W S : Int} {l : List S36} (h : checkCluesS W S l = 0) : okLock W S ∧ l.length ≤ 20 ∧ l.all (validC W S) = true := by
  unfold checkCluesS at h
  split at h
  case isFalse => omega
  case isTrue hl =>
  split at h
  · omega
  split at h
  case isFalse => omega
  case isTrue hv => exact ⟨hl, by omega, hv⟩
end Go.Proofs.Ytimkchehdaadeaa.P
