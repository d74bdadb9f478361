/- Part 35 of a proof: the statement TopPortraits: for every input its law returns true (its texts without what nothing here names). -/
import Derived.Test.YtimkchehdaadeaaZTop13
import Derived.Test.YtimkchehdaadeaaZTop18
import Derived.Test.YtimkchehdaadeaaZTop26
import Derived.Test.YtimkchehdaadeaaZTop31
import Derived.Test.YtimkchehdaadeaaZTop33
import Derived.Test.YtimkchehdaadeaaZTop34

section
namespace Go.Proofs.Ytimkchehdaadeaa.P
open Go.RowKit Go.Proofs.YtimkchehdaadeaaW.PrintWords Go.Proofs.YtimkchehdaadeaaW.PrintLast Go.Proofs.YtimkchehdaadeaaW.PrintMore
set_option linter.unusedVariables false
set_option linter.unusedSimpArgs false
section
variable {n s : Nat} (hn : n ≤ 4) (hs : s ≤ 10) (hs0 : 0 < s) {al : List (List Int)} (hal : ∀ c ∈ al, c ∈ allCodes s n) {x : List Int} (hx : x ∈ allCodes s n) (h200 : al.length ≤ 100000)
include hn hs hs0 hal hx h200
end
end Go.Proofs.Ytimkchehdaadeaa.P
end
section
namespace Go.Proofs.Ytimkchehdaadeaa.P
open Go.RowKit Go.Proofs.YtimkchehdaadeaaW.PrintWords Go.Proofs.YtimkchehdaadeaaW.PrintLast Go.Proofs.YtimkchehdaadeaaW.PrintMore
set_option linter.unusedVariables false
set_option linter.unusedSimpArgs false
section
variable {n s : Nat} (hl : okLock (n : Int) (s : Int)) {l : List S36} (hv : l.all (validC (n : Int) (s : Int)) = true) (hn : l.length ≤ 9223372036854775807)
include hl hv hn
end
def countS (W S : Int) (l : List S36) : Int × Int := if checkCluesS W S l = 0 then (((readingsL S.toNat W.toNat l).length : Nat), 0) else (0, checkCluesS W S l)
theorem Count_eq (W S : Int) (l : List S36) : codes_Count.f W S l = some (countS W S l) := by
  unfold codes_Count.f countS
  simp only [checkClues_eq, Option.bind_some]
  by_cases h : checkCluesS W S l = 0
  · obtain ⟨hl, hm, hv⟩ := checkClues_ok h
    simp only [if_pos h]
    unfold codes_lock_count.f
    rw [if_pos ⟨hl, hv⟩]; rfl
  · simp only [if_neg h]
end Go.Proofs.Ytimkchehdaadeaa.P
end
