import Derived.Test.YtbhdnhpkpbhilaaVSettledWInv
import Derived.Test.YtbhdnhpkpbhilaaVSettledWFootNe
namespace Go.Proofs.YtbhdnhpkpbhilaaW.PrintWords
open Go.RowKit
end Go.Proofs.YtbhdnhpkpbhilaaW.PrintWords
namespace Go.Proofs.YtbhdnhpkpbhilaaW.PrintLast
section
variable {ops : Array Oper} {a : Act} {o og : Oper} {g : Nat} {t : Tmp} {u : Bool}
end
end Go.Proofs.YtbhdnhpkpbhilaaW.PrintLast
