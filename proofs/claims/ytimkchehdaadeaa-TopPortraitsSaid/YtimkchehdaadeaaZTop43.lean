/- Part 43 of a proof: the statement TopPortraits: for every input its law returns true (its texts without what nothing here names). -/
import Derived.Test.YtimkchehdaadeaaZTop1
import Derived.Test.YtimkchehdaadeaaZTop2

namespace Go.Proofs.YtimkchehdaadeaaW.PrintLast
open Go.Proofs.YtimkchehdaadeaaW.PrintWords (Aside0)
section
variable {md : Region.Mode} {ops : Array Oper} {T : Bool × List (List Nat × List Nat)} {l l' li lj lk : Array Bool} {ds : List Nat} {i j k : Nat}
end
end Go.Proofs.YtimkchehdaadeaaW.PrintLast
