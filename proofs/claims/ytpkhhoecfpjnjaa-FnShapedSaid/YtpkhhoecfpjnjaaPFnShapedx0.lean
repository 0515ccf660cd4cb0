/- The Lean side of Go functions of this seat: what each answers, and that its run comes to that answer; written by a program of this work. -/
import Derived.Test.YtpkhhoecfpjnjaaProg
import Derived.Below
import Derived.Deep.Draws
import Derived.Deep.AppendLies
import Derived.Maps.AppendAt
import Derived.OwnWalk
import Derived.Laws.BytesArg
import Derived.Laws.MakeOwn
import Derived.Laws.OwnMore
import Derived.Deep.OwnRows
import Derived.Tactics
import Derived.Lib.ConvBytes
import Derived.Laws.Slices
import Derived.WalkKit
import Derived.KernelRfl
import Derived.RowKit3
import Derived.Deep.LoopGhost
import Derived.Deep.QuietTactic
import Derived.BigQuiet
import Derived.WideLaws
import Derived.Deep.DeepCutAuto
import Derived.Deep.CutBlock
import Derived.Deep.RegionHeld3
import Derived.Laws.Rows
import Derived.Lib.AppendStr
import Derived.ArgAppend
import Derived.Laws.IdiomCopy
import Derived.OrdersHeld
import Derived.Laws.BitsLemmas
import Derived.RowKit
import Derived.Test.YtpkhhoecfpjnjaaWXtra
import Derived.Test.YtpkhhoecfpjnjaaWWords
import Derived.Test.YtpkhhoecfpjnjaaWLast
import Derived.Test.YtpkhhoecfpjnjaaWTab
import Derived.Test.YtpkhhoecfpjnjaaWFour
import Derived.Test.YtpkhhoecfpjnjaaWQPut
import Derived.Test.YtpkhhoecfpjnjaaWApart
import Derived.Test.YtpkhhoecfpjnjaaWArr
import Derived.Test.YtpkhhoecfpjnjaaWZeros
import Derived.Test.YtpkhhoecfpjnjaaWFoot
import Derived.Test.YtpkhhoecfpjnjaaWKept
import Derived.Test.YtpkhhoecfpjnjaaWShare
import Derived.Test.YtpkhhoecfpjnjaaWN
import Derived.Test.YtpkhhoecfpjnjaaWFootNe
import Derived.Test.YtpkhhoecfpjnjaaWAt
import Derived.Test.YtpkhhoecfpjnjaaWEqStruct
import Derived.Test.YtpkhhoecfpjnjaaWRepsOne
import Derived.Test.YtpkhhoecfpjnjaaWInv
import Derived.Test.YtpkhhoecfpjnjaaWInvWords
import Derived.Test.YtpkhhoecfpjnjaaWGuard
import Derived.Test.YtpkhhoecfpjnjaaWNEv
import Derived.Test.YtpkhhoecfpjnjaaWMore
namespace Go.Proofs.Ytpkhhoecfpjnjaa.PFnShaped
open Go.RowKit Go.Proofs.YtpkhhoecfpjnjaaW.PrintWords Go.Proofs.YtpkhhoecfpjnjaaW.PrintLast Go.Proofs.YtpkhhoecfpjnjaaW.PrintMore
attribute [local go_sem] max2_int min2_int max_two min_two max_three min_three max_four min_four   -- for this text's walks alone
set_option linter.unusedVariables false
set_option linter.unusedSimpArgs false



def errW : Option Int → Value
  | none => .nilIface
  | some c => .iface 0 (.int .i64 c)
theorem errW_none : errW none = .nilIface := rfl
theorem errW_some (c : Int) : errW (some c) = .iface 0 (.int .i64 c) := rfl

theorem info3 : (Try.prog.info? 3).map (fun i => (i.zero, i.size, i.bytes)) = some (some (.int .i64 0), 1, 8) := by kernel_rfl
-- the values' own types

end Go.Proofs.Ytpkhhoecfpjnjaa.PFnShaped
