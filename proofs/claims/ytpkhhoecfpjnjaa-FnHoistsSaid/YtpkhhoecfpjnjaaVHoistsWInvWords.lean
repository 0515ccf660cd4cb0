import Derived.Test.YtpkhhoecfpjnjaaVHoistsWInv
import Derived.Test.YtpkhhoecfpjnjaaVHoistsWFootNe
namespace Go.Proofs.YtpkhhoecfpjnjaaW.PrintWords
open Go.RowKit
end Go.Proofs.YtpkhhoecfpjnjaaW.PrintWords
namespace Go.Proofs.YtpkhhoecfpjnjaaW.PrintLast
section
variable {ops : Array Oper} {a : Act} {o og : Oper} {g : Nat} {t : Tmp} {u : Bool}
end
end Go.Proofs.YtpkhhoecfpjnjaaW.PrintLast
