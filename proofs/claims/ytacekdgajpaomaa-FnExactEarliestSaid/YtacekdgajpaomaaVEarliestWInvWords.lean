import Derived.Test.YtacekdgajpaomaaVEarliestWInv
import Derived.Test.YtacekdgajpaomaaVEarliestWFootNe
namespace Go.Proofs.YtacekdgajpaomaaW.PrintWords
open Go.RowKit
end Go.Proofs.YtacekdgajpaomaaW.PrintWords
namespace Go.Proofs.YtacekdgajpaomaaW.PrintLast
section
variable {ops : Array Oper} {a : Act} {o og : Oper} {g : Nat} {t : Tmp} {u : Bool}
end
end Go.Proofs.YtacekdgajpaomaaW.PrintLast
