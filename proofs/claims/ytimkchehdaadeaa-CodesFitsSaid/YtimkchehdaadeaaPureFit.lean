/- CodesFits: what the law comes to. -/
import Derived.Test.YtimkchehdaadeaaHPure3
import Derived.Test.YtimkchehdaadeaaPx19
namespace Go.Proofs.Ytimkchehdaadeaa.P
open Go.RowKit Go.Proofs.YtimkchehdaadeaaW.PrintWords Go.Proofs.YtimkchehdaadeaaW.PrintLast Go.Proofs.YtimkchehdaadeaaW.PrintMore
theorem CodesFits_pure (W S : Int) (l : List S36) (c : List Int) (h1 : l.length ≤ 9223372036854775807) (h2 : c.length ≤ 9223372036854775807) : ∃ k, padlocklaw01_CodesFits.f k W S l c = some true := by
  refine Ev.rounds (g := fun k => padlocklaw01_CodesFits.f k W S l c) ?_
  unfold padlocklaw01_CodesFits.f
  simp only [Fits_eq, Option.bind_some]
  refine Ev.bind (RFits_ev W S l c h1 h2) ?_
  simp only [if_true, beq_self_eq_true, works_true, Option.bind_some]
  exact Ev.now _
end Go.Proofs.Ytimkchehdaadeaa.P
