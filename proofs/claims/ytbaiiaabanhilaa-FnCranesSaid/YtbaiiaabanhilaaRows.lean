/-
  No cell of these rows narrows 'for every input' (looked for: loops, veiled, ifaces, maps, wideKeys, modest, calm, conditions, laid).
  DERIVED. THE GIVEN ROWS OF THIS SEAT. 4 by the template 'for every input the law returns true; each argument reads behind the call as it read before'; 0 by the template 'total and deterministic' (their statements: YtbaiiaabanhilaaTotals.lean).
  GIVEN WITH THE SEED: the statements are not yours to turn. If you find one false, say at which input.
  Laid BY PROGRAM, IN A SANDBOX (cutbox-rows.mjs): the forced cells as the released guide's own fill.sh prints them over the translation 9c8de841f3df98bd… (all of the seat's roots in one cut). By AI agents, Wed Nov 11 2026. No macro, syntax, notation, axiom, sorry.
-/
import Derived.Test.YtbaiiaabanhilaaChecked
import GoSem.Claim
import GoSem.ClaimJoined
import GoSem.ClaimMapViews
import Derived.JoinedTies
import Derived.KernelRfl
namespace Go.Proofs.Ytbaiiaabanhilaa
/- THE CELL 'sum', in the pinned program and in every row, IS THE sha256 OF THE DUMP (.gsa) THAT YtbaiiaabanhilaaProg.lean LOADS. Nothing in Lean hashes anything: it is a label: what it is worth is what the hold of that sum in a sandbox is worth. -/
noncomputable def Try.pinned : Pinned := { name := "ytbaiiaabanhilaa", sum := "9c8de841f3df98bd6ceb284a4d3b9b51d7960339180934f94baab1f39de6f05a", checked := Try.checked }
namespace Rows
def none {H : Type} : Left H := { results := [], args := [] }

/-- 'laws.FnCranes': WHATEVER THE INPUT: true; the input reads as it did. -/
def fnCranesSpec : ChangeSpec := { name := "fnCranes", fn := fun _ => fun
  | [d] => { results := [.lit (.bool true)], args := [d] }
  | _ => none }
def fnCranesRow : OpenClaim := { program := "ytbaiiaabanhilaa", sum := "9c8de841f3df98bd6ceb284a4d3b9b51d7960339180934f94baab1f39de6f05a", func := "loop.example/g00059/laws.FnCranes", spec := "fnCranes", apart := false }
def FnCranesSaid : Prop := fnCranesRow.holds Try.pinned (OpenSpec.ofChange fnCranesSpec)

/-- ITS FALSE NEIGHBOUR: 'it returns false'. Refute it at one input. -/
def fnCranesWrong : ChangeSpec := { name := "fnCranes", fn := fun _ => fun
  | [d] => { results := [.lit (.bool false)], args := [d] }
  | _ => none }
def FnCranesWrongFalsely : Prop := fnCranesRow.holds Try.pinned (OpenSpec.ofChange fnCranesWrong)

/-- 'laws.FnExactDoMove': WHATEVER THE INPUT: true; the input reads as it did. -/
def fnExactDoMoveSpec : ChangeSpec := { name := "fnExactDoMove", fn := fun _ => fun
  | [d1, d2, d3] => { results := [.lit (.bool true)], args := [d1, d2, d3] }
  | _ => none }
def fnExactDoMoveRow : OpenClaim := { program := "ytbaiiaabanhilaa", sum := "9c8de841f3df98bd6ceb284a4d3b9b51d7960339180934f94baab1f39de6f05a", func := "loop.example/g00059/laws.FnExactDoMove", spec := "fnExactDoMove", apart := false }
def FnExactDoMoveSaid : Prop := fnExactDoMoveRow.holds Try.pinned (OpenSpec.ofChange fnExactDoMoveSpec)

/-- ITS FALSE NEIGHBOUR: 'it returns false'. Refute it at one input. -/
def fnExactDoMoveWrong : ChangeSpec := { name := "fnExactDoMove", fn := fun _ => fun
  | [d1, d2, d3] => { results := [.lit (.bool false)], args := [d1, d2, d3] }
  | _ => none }
def FnExactDoMoveWrongFalsely : Prop := fnExactDoMoveRow.holds Try.pinned (OpenSpec.ofChange fnExactDoMoveWrong)

/-- 'laws.FnExactPushMove': WHATEVER THE INPUT: true; the input reads as it did. -/
def fnExactPushMoveSpec : ChangeSpec := { name := "fnExactPushMove", fn := fun _ => fun
  | [d1, d2, d3] => { results := [.lit (.bool true)], args := [d1, d2, d3] }
  | _ => none }
def fnExactPushMoveRow : OpenClaim := { program := "ytbaiiaabanhilaa", sum := "9c8de841f3df98bd6ceb284a4d3b9b51d7960339180934f94baab1f39de6f05a", func := "loop.example/g00059/laws.FnExactPushMove", spec := "fnExactPushMove", apart := false }
def FnExactPushMoveSaid : Prop := fnExactPushMoveRow.holds Try.pinned (OpenSpec.ofChange fnExactPushMoveSpec)

/-- ITS FALSE NEIGHBOUR: 'it returns false'. Refute it at one input. -/
def fnExactPushMoveWrong : ChangeSpec := { name := "fnExactPushMove", fn := fun _ => fun
  | [d1, d2, d3] => { results := [.lit (.bool false)], args := [d1, d2, d3] }
  | _ => none }
def FnExactPushMoveWrongFalsely : Prop := fnExactPushMoveRow.holds Try.pinned (OpenSpec.ofChange fnExactPushMoveWrong)

/-- 'laws.FnExactRunMoves': WHATEVER THE INPUT: true; the input reads as it did. -/
def fnExactRunMovesSpec : ChangeSpec := { name := "fnExactRunMoves", fn := fun _ => fun
  | [d1, d2, d3] => { results := [.lit (.bool true)], args := [d1, d2, d3] }
  | _ => none }
def fnExactRunMovesRow : OpenClaim := { program := "ytbaiiaabanhilaa", sum := "9c8de841f3df98bd6ceb284a4d3b9b51d7960339180934f94baab1f39de6f05a", func := "loop.example/g00059/laws.FnExactRunMoves", spec := "fnExactRunMoves", apart := false }
def FnExactRunMovesSaid : Prop := fnExactRunMovesRow.holds Try.pinned (OpenSpec.ofChange fnExactRunMovesSpec)

/-- ITS FALSE NEIGHBOUR: 'it returns false'. Refute it at one input. -/
def fnExactRunMovesWrong : ChangeSpec := { name := "fnExactRunMoves", fn := fun _ => fun
  | [d1, d2, d3] => { results := [.lit (.bool false)], args := [d1, d2, d3] }
  | _ => none }
def FnExactRunMovesWrongFalsely : Prop := fnExactRunMovesRow.holds Try.pinned (OpenSpec.ofChange fnExactRunMovesWrong)

/- THE SECOND FORM. 'bulk': how many values and letters a reading holds, each counted each time it is reached (what is shared counts as often as it is met; a slice's spare places count too). A statement '..UptoSaid' is the law's where the arguments, and the package variables that the reading takes, are together of bulk at most 1048576: NARROWER than '..Said'. Prove '..Said' where nothing that the law and all that it calls make is longer than what came in: it says more and counts as full. Else prove '..UptoSaid'. A law counts once. -/
mutual
def uptoBulk {H : Type} : DataW H → Nat
  | .lit (.string bytes) => bytes.length + 1
  | .lit _ => 1
  | .nil => 1
  | .ptr d => uptoBulk d + 1
  | .slice elems spare => uptoBulkAll elems + uptoBulkAll spare + 1
  | .agg parts => uptoBulkAll parts + 1
  | .iface _ d => uptoBulk d + 1
  | .map entries => uptoBulkEntries entries + 1
  | .held _ => 1
def uptoBulkAll {H : Type} : List (DataW H) → Nat
  | [] => 0
  | d :: r => uptoBulk d + uptoBulkAll r
def uptoBulkEntries {H : Type} : List (Lit × DataW H) → Nat
  | [] => 0
  | x :: r => uptoBulkEntry x + uptoBulkEntries r
def uptoBulkEntry {H : Type} : Lit × DataW H → Nat
  | (.string bytes, d) => bytes.length + uptoBulk d + 1
  | (_, d) => uptoBulk d + 1
 end
def uptoSmall : (H : Type) → List (DataW H) → Bool := fun _ ds => decide (uptoBulkAll ds ≤ 1048576)
def OpenSpec.upto (s : _root_.Go.ChangeSpec) : _root_.Go.OpenSpec := { _root_.Go.OpenSpec.ofChange s with cond := some uptoSmall }

/-- 'laws.FnCranes', WHERE WHAT IT READS IS OF BULK AT MOST 1048576: true; the input reads as it did. -/
def fnCranesUptoRow : OpenClaim := { program := "ytbaiiaabanhilaa", sum := "9c8de841f3df98bd6ceb284a4d3b9b51d7960339180934f94baab1f39de6f05a", func := "loop.example/g00059/laws.FnCranes", spec := "fnCranes", apart := false, narrowed := true }
def FnCranesUptoSaid : Prop := fnCranesUptoRow.holds Try.pinned (OpenSpec.upto fnCranesSpec)

/-- 'laws.FnExactDoMove', WHERE WHAT IT READS IS OF BULK AT MOST 1048576: true; the input reads as it did. -/
def fnExactDoMoveUptoRow : OpenClaim := { program := "ytbaiiaabanhilaa", sum := "9c8de841f3df98bd6ceb284a4d3b9b51d7960339180934f94baab1f39de6f05a", func := "loop.example/g00059/laws.FnExactDoMove", spec := "fnExactDoMove", apart := false, narrowed := true }
def FnExactDoMoveUptoSaid : Prop := fnExactDoMoveUptoRow.holds Try.pinned (OpenSpec.upto fnExactDoMoveSpec)

/-- 'laws.FnExactPushMove', WHERE WHAT IT READS IS OF BULK AT MOST 1048576: true; the input reads as it did. -/
def fnExactPushMoveUptoRow : OpenClaim := { program := "ytbaiiaabanhilaa", sum := "9c8de841f3df98bd6ceb284a4d3b9b51d7960339180934f94baab1f39de6f05a", func := "loop.example/g00059/laws.FnExactPushMove", spec := "fnExactPushMove", apart := false, narrowed := true }
def FnExactPushMoveUptoSaid : Prop := fnExactPushMoveUptoRow.holds Try.pinned (OpenSpec.upto fnExactPushMoveSpec)

/-- 'laws.FnExactRunMoves', WHERE WHAT IT READS IS OF BULK AT MOST 1048576: true; the input reads as it did. -/
def fnExactRunMovesUptoRow : OpenClaim := { program := "ytbaiiaabanhilaa", sum := "9c8de841f3df98bd6ceb284a4d3b9b51d7960339180934f94baab1f39de6f05a", func := "loop.example/g00059/laws.FnExactRunMoves", spec := "fnExactRunMoves", apart := false, narrowed := true }
def FnExactRunMovesUptoSaid : Prop := fnExactRunMovesUptoRow.holds Try.pinned (OpenSpec.upto fnExactRunMovesSpec)

end Rows
end Go.Proofs.Ytbaiiaabanhilaa
