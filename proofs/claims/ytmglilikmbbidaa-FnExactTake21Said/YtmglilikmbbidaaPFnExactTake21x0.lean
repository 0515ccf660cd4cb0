/- The Lean side of Go functions of this seat: what each answers, and that its run comes to that answer; written by a program of this work. -/
import Derived.Test.YtmglilikmbbidaaProg
import Derived.Below
import Derived.Deep.Draws
import Derived.Deep.AppendLies
import Derived.Maps.AppendAt
import Derived.OwnWalk
import Derived.Laws.BytesArg
import Derived.Laws.MakeOwn
import Derived.Laws.OwnMore
import Derived.Deep.OwnRows
import Derived.Tactics
import Derived.Lib.ConvBytes
import Derived.Laws.Slices
import Derived.WalkKit
import Derived.KernelRfl
import Derived.RowKit3
import Derived.Deep.LoopGhost
import Derived.Deep.QuietTactic
import Derived.BigQuiet
import Derived.WideLaws
import Derived.Deep.DeepCutAuto
import Derived.Deep.CutBlock
import Derived.Deep.RegionHeld3
import Derived.Laws.Rows
import Derived.Lib.AppendStr
import Derived.ArgAppend
import Derived.Laws.IdiomCopy
import Derived.OrdersHeld
import Derived.Laws.BitsLemmas
import Derived.RowKit
import Derived.Test.YtmglilikmbbidaaWXtra
import Derived.Test.YtmglilikmbbidaaWWords
import Derived.Test.YtmglilikmbbidaaWLast
import Derived.Test.YtmglilikmbbidaaWTab
import Derived.Test.YtmglilikmbbidaaWFour
import Derived.Test.YtmglilikmbbidaaWQPut
import Derived.Test.YtmglilikmbbidaaWApart
import Derived.Test.YtmglilikmbbidaaWArr
import Derived.Test.YtmglilikmbbidaaWZeros
import Derived.Test.YtmglilikmbbidaaWFoot
import Derived.Test.YtmglilikmbbidaaWKept
import Derived.Test.YtmglilikmbbidaaWShare
import Derived.Test.YtmglilikmbbidaaWN
import Derived.Test.YtmglilikmbbidaaWFootNe
import Derived.Test.YtmglilikmbbidaaWAt
import Derived.Test.YtmglilikmbbidaaWEqStruct
import Derived.Test.YtmglilikmbbidaaWRepsOne
import Derived.Test.YtmglilikmbbidaaWInv
import Derived.Test.YtmglilikmbbidaaWInvWords
import Derived.Test.YtmglilikmbbidaaWGuard
import Derived.Test.YtmglilikmbbidaaWNEv
import Derived.Test.YtmglilikmbbidaaWMore
namespace Go.Proofs.Ytmglilikmbbidaa.PFnExactTake21
open Go.RowKit Go.Proofs.YtmglilikmbbidaaW.PrintWords Go.Proofs.YtmglilikmbbidaaW.PrintLast Go.Proofs.YtmglilikmbbidaaW.PrintMore
attribute [local go_sem] max2_int min2_int max_two min_two max_three min_three max_four min_four   -- for this text's walks alone
set_option linter.unusedVariables false
set_option linter.unusedSimpArgs false



def errW : Option Int → Value
  | none => .nilIface
  | some c => .iface 0 (.int .i64 c)
theorem errW_none : errW none = .nilIface := rfl
theorem errW_some (c : Int) : errW (some c) = .iface 0 (.int .i64 c) := rfl

theorem info5 : (Try.prog.info? 5).map (fun i => (i.zero, i.size, i.bytes)) = some (some (.int .u8 0), 1, 1) := by kernel_rfl
theorem info9 : (Try.prog.info? 9).map (fun i => (i.zero, i.size, i.bytes)) = some (some (.string ⟨#[]⟩), 1, 16) := by kernel_rfl
-- the values' own types

end Go.Proofs.Ytmglilikmbbidaa.PFnExactTake21
