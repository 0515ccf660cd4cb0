import Derived.Test.YtbaiiaabanhilaaVCranesWInv
import Derived.Test.YtbaiiaabanhilaaVCranesWFootNe
namespace Go.Proofs.YtbaiiaabanhilaaW.PrintWords
open Go.RowKit
end Go.Proofs.YtbaiiaabanhilaaW.PrintWords
namespace Go.Proofs.YtbaiiaabanhilaaW.PrintLast
section
variable {ops : Array Oper} {a : Act} {o og : Oper} {g : Nat} {t : Tmp} {u : Bool}
end
end Go.Proofs.YtbaiiaabanhilaaW.PrintLast
