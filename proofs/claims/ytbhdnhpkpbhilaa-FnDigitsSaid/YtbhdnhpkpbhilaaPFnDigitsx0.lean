/- The Lean side of Go functions of this seat: what each answers, and that its run comes to that answer; written by a program of this work. -/
import Derived.Test.YtbhdnhpkpbhilaaProg
import Derived.Below
import Derived.Deep.Draws
import Derived.Deep.AppendLies
import Derived.Maps.AppendAt
import Derived.OwnWalk
import Derived.Laws.BytesArg
import Derived.Laws.MakeOwn
import Derived.Laws.OwnMore
import Derived.Deep.OwnRows
import Derived.Tactics
import Derived.Lib.ConvBytes
import Derived.Laws.Slices
import Derived.WalkKit
import Derived.KernelRfl
import Derived.RowKit3
import Derived.Deep.LoopGhost
import Derived.Deep.QuietTactic
import Derived.BigQuiet
import Derived.WideLaws
import Derived.Deep.DeepCutAuto
import Derived.Deep.CutBlock
import Derived.Deep.RegionHeld3
import Derived.Laws.Rows
import Derived.Lib.AppendStr
import Derived.ArgAppend
import Derived.Laws.IdiomCopy
import Derived.OrdersHeld
import Derived.Laws.BitsLemmas
import Derived.RowKit
import Derived.Test.YtbhdnhpkpbhilaaWXtra
import Derived.Test.YtbhdnhpkpbhilaaWWords
import Derived.Test.YtbhdnhpkpbhilaaWLast
import Derived.Test.YtbhdnhpkpbhilaaWTab
import Derived.Test.YtbhdnhpkpbhilaaWFour
import Derived.Test.YtbhdnhpkpbhilaaWQPut
import Derived.Test.YtbhdnhpkpbhilaaWApart
import Derived.Test.YtbhdnhpkpbhilaaWArr
import Derived.Test.YtbhdnhpkpbhilaaWZeros
import Derived.Test.YtbhdnhpkpbhilaaWFoot
import Derived.Test.YtbhdnhpkpbhilaaWKept
import Derived.Test.YtbhdnhpkpbhilaaWShare
import Derived.Test.YtbhdnhpkpbhilaaWN
import Derived.Test.YtbhdnhpkpbhilaaWFootNe
import Derived.Test.YtbhdnhpkpbhilaaWAt
import Derived.Test.YtbhdnhpkpbhilaaWEqStruct
import Derived.Test.YtbhdnhpkpbhilaaWRepsOne
import Derived.Test.YtbhdnhpkpbhilaaWInv
import Derived.Test.YtbhdnhpkpbhilaaWInvWords
import Derived.Test.YtbhdnhpkpbhilaaWGuard
import Derived.Test.YtbhdnhpkpbhilaaWNEv
import Derived.Test.YtbhdnhpkpbhilaaWMore
namespace Go.Proofs.Ytbhdnhpkpbhilaa.PFnDigits
open Go.RowKit Go.Proofs.YtbhdnhpkpbhilaaW.PrintWords Go.Proofs.YtbhdnhpkpbhilaaW.PrintLast Go.Proofs.YtbhdnhpkpbhilaaW.PrintMore
attribute [local go_sem] max2_int min2_int max_two min_two max_three min_three max_four min_four   -- for this text's walks alone
set_option linter.unusedVariables false
set_option linter.unusedSimpArgs false



def errW : Option Int → Value
  | none => .nilIface
  | some c => .iface 0 (.int .i64 c)
theorem errW_none : errW none = .nilIface := rfl
theorem errW_some (c : Int) : errW (some c) = .iface 0 (.int .i64 c) := rfl

theorem info5 : (Try.prog.info? 5).map (fun i => (i.zero, i.size, i.bytes)) = some (some (.int .u8 0), 1, 1) := by kernel_rfl
-- the values' own types

end Go.Proofs.Ytbhdnhpkpbhilaa.PFnDigits
