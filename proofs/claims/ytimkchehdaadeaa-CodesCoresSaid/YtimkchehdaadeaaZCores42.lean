/- Part 42 of a proof: the statement CodesCores: for every input its law returns true (its texts without what nothing here names). -/
import Derived.Test.YtimkchehdaadeaaZCores33
import Derived.Test.YtimkchehdaadeaaZCores35
import Derived.Test.YtimkchehdaadeaaZCores39
import Derived.Test.YtimkchehdaadeaaZCores40
import Derived.Test.YtimkchehdaadeaaZCores41

namespace Go.Proofs.Ytimkchehdaadeaa.P
open Go.RowKit Go.Proofs.YtimkchehdaadeaaW.PrintWords Go.Proofs.YtimkchehdaadeaaW.PrintLast Go.Proofs.YtimkchehdaadeaaW.PrintMore
set_option linter.unusedVariables false
set_option linter.unusedSimpArgs false
theorem RCount_ev (W S : Int) (l : List S36) (h1 : l.length ≤ 9223372036854775807) : Ev (fun k => padlockref01_Count.f k W S l) (countS W S l) := by
  unfold padlockref01_Count.f countS
  refine Ev.bind (RCheckClues_ev W S l h1) ?_
  by_cases h : checkCluesS W S l = 0
  · obtain ⟨hl, hm, hv⟩ := checkClues_ok h
    simp only [if_pos h]
    refine Ev.bind (All_ev hl hv h1) ?_
    exact Ev.now _
  · simp only [if_neg h]
    exact Ev.now _
end Go.Proofs.Ytimkchehdaadeaa.P
