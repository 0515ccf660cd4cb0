import Derived.Test.YtmglilikmbbidaaVPartiesWInv
import Derived.Test.YtmglilikmbbidaaVPartiesWFootNe
namespace Go.Proofs.YtmglilikmbbidaaW.PrintWords
open Go.RowKit
end Go.Proofs.YtmglilikmbbidaaW.PrintWords
namespace Go.Proofs.YtmglilikmbbidaaW.PrintLast
section
variable {ops : Array Oper} {a : Act} {o og : Oper} {g : Nat} {t : Tmp} {u : Bool}
end
end Go.Proofs.YtmglilikmbbidaaW.PrintLast
