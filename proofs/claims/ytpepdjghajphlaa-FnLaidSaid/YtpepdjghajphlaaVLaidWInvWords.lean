import Derived.Test.YtpepdjghajphlaaVLaidWInv
import Derived.Test.YtpepdjghajphlaaVLaidWFootNe
namespace Go.Proofs.YtpepdjghajphlaaW.PrintWords
open Go.RowKit
end Go.Proofs.YtpepdjghajphlaaW.PrintWords
namespace Go.Proofs.YtpepdjghajphlaaW.PrintLast
section
variable {ops : Array Oper} {a : Act} {o og : Oper} {g : Nat} {t : Tmp} {u : Bool}
end
end Go.Proofs.YtpepdjghajphlaaW.PrintLast
