/- The Lean side of Go functions of this seat: what each answers, and that its run comes to that answer; written by a program of this work. -/
import Derived.Test.YtchobalepjmeiaaProg
import Derived.Below
import Derived.Deep.Draws
import Derived.Deep.AppendLies
import Derived.Maps.AppendAt
import Derived.OwnWalk
import Derived.Laws.BytesArg
import Derived.Laws.MakeOwn
import Derived.Laws.OwnMore
import Derived.Deep.OwnRows
import Derived.Tactics
import Derived.Lib.ConvBytes
import Derived.Laws.Slices
import Derived.WalkKit
import Derived.KernelRfl
import Derived.RowKit3
import Derived.Deep.LoopGhost
import Derived.Deep.QuietTactic
import Derived.BigQuiet
import Derived.WideLaws
import Derived.Deep.DeepCutAuto
import Derived.Deep.CutBlock
import Derived.Deep.RegionHeld3
import Derived.Laws.Rows
import Derived.Lib.AppendStr
import Derived.ArgAppend
import Derived.Laws.IdiomCopy
import Derived.OrdersHeld
import Derived.Laws.BitsLemmas
import Derived.RowKit
import Derived.Laws.Cover2
import Derived.Laws.FloatArith
import Derived.Test.YtchobalepjmeiaaWXtra
import Derived.Test.YtchobalepjmeiaaWWords
import Derived.Test.YtchobalepjmeiaaWLast
import Derived.Test.YtchobalepjmeiaaWTab
import Derived.Test.YtchobalepjmeiaaWFour
import Derived.Test.YtchobalepjmeiaaWQPut
import Derived.Test.YtchobalepjmeiaaWApart
import Derived.Test.YtchobalepjmeiaaWArr
import Derived.Test.YtchobalepjmeiaaWZeros
import Derived.Test.YtchobalepjmeiaaWFoot
import Derived.Test.YtchobalepjmeiaaWKept
import Derived.Test.YtchobalepjmeiaaWShare
import Derived.Test.YtchobalepjmeiaaWN
import Derived.Test.YtchobalepjmeiaaWFootNe
import Derived.Test.YtchobalepjmeiaaWAt
import Derived.Test.YtchobalepjmeiaaWEqStruct
import Derived.Test.YtchobalepjmeiaaWRepsOne
import Derived.Test.YtchobalepjmeiaaWInv
import Derived.Test.YtchobalepjmeiaaWInvWords
import Derived.Test.YtchobalepjmeiaaWGuard
import Derived.Test.YtchobalepjmeiaaWNEv
import Derived.Test.YtchobalepjmeiaaWMore
namespace Go.Proofs.Ytchobalepjmeiaa.PFnExactHighLow
open Go.RowKit Go.Proofs.YtchobalepjmeiaaW.PrintWords Go.Proofs.YtchobalepjmeiaaW.PrintLast Go.Proofs.YtchobalepjmeiaaW.PrintMore
attribute [local go_sem] run_store_float max2_int min2_int max_two min_two max_three min_three max_four min_four   -- for this text's walks alone
set_option linter.unusedVariables false
set_option linter.unusedSimpArgs false



def errW : Option Int → Value
  | none => .nilIface
  | some c => .iface 0 (.int .i64 c)
theorem errW_none : errW none = .nilIface := rfl
theorem errW_some (c : Int) : errW (some c) = .iface 0 (.int .i64 c) := rfl

theorem info3 : (Try.prog.info? 3).map (fun i => (i.zero, i.size, i.bytes)) = some (some (.int .i64 0), 1, 8) := by kernel_rfl
theorem info26 : (Try.prog.info? 26).map (fun i => (i.zero, i.size, i.bytes)) = some (some (.float .f64 0), 1, 8) := by kernel_rfl
-- the values' own types

end Go.Proofs.Ytchobalepjmeiaa.PFnExactHighLow
