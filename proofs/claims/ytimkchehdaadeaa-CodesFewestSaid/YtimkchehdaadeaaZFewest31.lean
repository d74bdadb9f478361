/- Part 31 of a proof: the statement CodesFewest: for every input its law returns true (its texts without what nothing here names). -/
import Derived.Test.YtimkchehdaadeaaZFewest25
import Derived.Test.YtimkchehdaadeaaZFewest30

namespace Go.Proofs.Ytimkchehdaadeaa.P
open Go.RowKit Go.Proofs.YtimkchehdaadeaaW.PrintWords Go.Proofs.YtimkchehdaadeaaW.PrintLast Go.Proofs.YtimkchehdaadeaaW.PrintMore
set_option linter.unusedVariables false
set_option linter.unusedSimpArgs false
section
variable {n s : Nat} (hl : okLock (n : Int) (s : Int)) {l : List S36} (hv : l.all (validC (n : Int) (s : Int)) = true) (hn : l.length ≤ 9223372036854775807)
include hl hv hn
end
def countS (W S : Int) (l : List S36) : Int × Int := if checkCluesS W S l = 0 then (((readingsL S.toNat W.toNat l).length : Nat), 0) else (0, checkCluesS W S l)
theorem Count_eq (W S : Int) (l : List S36) : codes_Count.f W S l = some (countS W S l) := by
  unfold codes_Count.f countS
  simp only [checkClues_eq, Option.bind_some]
  by_cases h : checkCluesS W S l = 0
  · obtain ⟨hl, hm, hv⟩ := checkClues_ok h
    simp only [if_pos h]
    unfold codes_lock_count.f
    rw [if_pos ⟨hl, hv⟩]; rfl
  · simp only [if_neg h]
end Go.Proofs.Ytimkchehdaadeaa.P
