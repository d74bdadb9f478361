/- Part 32 of a proof: the statement CodesDecoys: for every input its law returns true (its texts without what nothing here names). -/
import Derived.Test.YtimkchehdaadeaaZDecoys2
import Derived.Test.YtimkchehdaadeaaZDecoys10
import Derived.OwnWalkIn
namespace Go.Pad
open Go.RowKit
variable {P : Program} {ops : Array Oper} {Q : Exit → Act → World → Prop} {md : Region.Mode}
end Go.Pad
