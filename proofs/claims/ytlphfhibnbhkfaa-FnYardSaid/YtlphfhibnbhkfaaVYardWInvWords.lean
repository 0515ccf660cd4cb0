import Derived.Test.YtlphfhibnbhkfaaVYardWInv
import Derived.Test.YtlphfhibnbhkfaaVYardWFootNe
namespace Go.Proofs.YtlphfhibnbhkfaaW.PrintWords
open Go.RowKit
end Go.Proofs.YtlphfhibnbhkfaaW.PrintWords
namespace Go.Proofs.YtlphfhibnbhkfaaW.PrintLast
section
variable {ops : Array Oper} {a : Act} {o og : Oper} {g : Nat} {t : Tmp} {u : Bool}
end
end Go.Proofs.YtlphfhibnbhkfaaW.PrintLast
