/- CodesAnswers, CodesMirror: what the laws come to. -/
import Derived.Test.YtimkchehdaadeaaHPure2
import Derived.Test.YtimkchehdaadeaaPx16
namespace Go.Proofs.Ytimkchehdaadeaa.P
open Go.RowKit Go.Proofs.YtimkchehdaadeaaW.PrintWords Go.Proofs.YtimkchehdaadeaaW.PrintLast Go.Proofs.YtimkchehdaadeaaW.PrintMore
theorem CodesAnswers_pure (W S : Int) (l1 l2 : List Int) (h1 : l1.length ≤ 9223372036854775807) (h2 : l2.length ≤ 9223372036854775807) : ∃ k, padlocklaw01_CodesAnswers.f k W S l1 l2 = some true := by
  refine Ev.rounds (g := fun k => padlocklaw01_CodesAnswers.f k W S l1 l2) ?_
  unfold padlocklaw01_CodesAnswers.f
  simp only [Answer_eq, Option.bind_some]
  refine Ev.bind (RAnswer_ev W S l1 l2 h1 h2) ?_
  simp only [if_true, works_true, Option.bind_some]
  exact Ev.now _
end Go.Proofs.Ytimkchehdaadeaa.P
