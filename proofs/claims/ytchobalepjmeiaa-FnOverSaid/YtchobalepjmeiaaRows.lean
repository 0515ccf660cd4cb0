/-
  No cell of these rows narrows 'for every input' (looked for: loops, veiled, ifaces, maps, wideKeys, modest, calm, conditions, laid).
  DERIVED. THE GIVEN ROWS OF THIS SEAT. 4 by the template 'for every input the law returns true; each argument reads behind the call as it read before'; 0 by the template 'total and deterministic' (their statements: YtchobalepjmeiaaTotals.lean).
  GIVEN WITH THE SEED: the statements are not yours to turn. If you find one false, say at which input.
  Laid BY PROGRAM, IN A SANDBOX (cutbox-rows.mjs): the forced cells as the released guide's own fill.sh prints them over the translation d47e4e3c4016fa59… (all of the seat's roots in one cut). By AI agents, Wed Nov 11 2026. No macro, syntax, notation, axiom, sorry.
-/
import Derived.Test.YtchobalepjmeiaaChecked
import GoSem.Claim
import GoSem.ClaimJoined
import GoSem.ClaimMapViews
import Derived.JoinedTies
import Derived.KernelRfl
namespace Go.Proofs.Ytchobalepjmeiaa
/- THE CELL 'sum', in the pinned program and in every row, IS THE sha256 OF THE DUMP (.gsa) THAT YtchobalepjmeiaaProg.lean LOADS. Nothing in Lean hashes anything: it is a label: what it is worth is what the hold of that sum in a sandbox is worth. -/
noncomputable def Try.pinned : Pinned := { name := "ytchobalepjmeiaa", sum := "d47e4e3c4016fa590d092676db5ee65ff45cf73690b9d53d99e1c66e1e9e4d1b", checked := Try.checked }
namespace Rows
def none {H : Type} : Left H := { results := [], args := [] }

/-- 'laws.FnStrip': WHATEVER THE INPUT: true; the input reads as it did. -/
def fnStripSpec : ChangeSpec := { name := "fnStrip", fn := fun _ => fun
  | [d] => { results := [.lit (.bool true)], args := [d] }
  | _ => none }
def fnStripRow : OpenClaim := { program := "ytchobalepjmeiaa", sum := "d47e4e3c4016fa590d092676db5ee65ff45cf73690b9d53d99e1c66e1e9e4d1b", func := "loop.example/g00059/laws.FnStrip", spec := "fnStrip", apart := false }
def FnStripSaid : Prop := fnStripRow.holds Try.pinned (OpenSpec.ofChange fnStripSpec)

/-- ITS FALSE NEIGHBOUR: 'it returns false'. Refute it at one input. -/
def fnStripWrong : ChangeSpec := { name := "fnStrip", fn := fun _ => fun
  | [d] => { results := [.lit (.bool false)], args := [d] }
  | _ => none }
def FnStripWrongFalsely : Prop := fnStripRow.holds Try.pinned (OpenSpec.ofChange fnStripWrong)

/-- 'laws.FnOver': WHATEVER THE INPUT: true; the input reads as it did. -/
def fnOverSpec : ChangeSpec := { name := "fnOver", fn := fun _ => fun
  | [d] => { results := [.lit (.bool true)], args := [d] }
  | _ => none }
def fnOverRow : OpenClaim := { program := "ytchobalepjmeiaa", sum := "d47e4e3c4016fa590d092676db5ee65ff45cf73690b9d53d99e1c66e1e9e4d1b", func := "loop.example/g00059/laws.FnOver", spec := "fnOver", inPlace := ["math.Float64bits", "math.Float64frombits"], apart := false }
def FnOverSaid : Prop := fnOverRow.holds Try.pinned (OpenSpec.ofChange fnOverSpec)

/-- ITS FALSE NEIGHBOUR: 'it returns false'. Refute it at one input. -/
def fnOverWrong : ChangeSpec := { name := "fnOver", fn := fun _ => fun
  | [d] => { results := [.lit (.bool false)], args := [d] }
  | _ => none }
def FnOverWrongFalsely : Prop := fnOverRow.holds Try.pinned (OpenSpec.ofChange fnOverWrong)

/-- 'laws.FnTides': WHATEVER THE INPUT: true; the input reads as it did. -/
def fnTidesSpec : ChangeSpec := { name := "fnTides", fn := fun _ => fun
  | [d] => { results := [.lit (.bool true)], args := [d] }
  | _ => none }
def fnTidesRow : OpenClaim := { program := "ytchobalepjmeiaa", sum := "d47e4e3c4016fa590d092676db5ee65ff45cf73690b9d53d99e1c66e1e9e4d1b", func := "loop.example/g00059/laws.FnTides", spec := "fnTides", inPlace := ["math.Float64bits", "math.Float64frombits"], apart := false }
def FnTidesSaid : Prop := fnTidesRow.holds Try.pinned (OpenSpec.ofChange fnTidesSpec)

/-- ITS FALSE NEIGHBOUR: 'it returns false'. Refute it at one input. -/
def fnTidesWrong : ChangeSpec := { name := "fnTides", fn := fun _ => fun
  | [d] => { results := [.lit (.bool false)], args := [d] }
  | _ => none }
def FnTidesWrongFalsely : Prop := fnTidesRow.holds Try.pinned (OpenSpec.ofChange fnTidesWrong)

/-- 'laws.FnExactHighLow': WHATEVER THE INPUT: true; the input reads as it did. -/
def fnExactHighLowSpec : ChangeSpec := { name := "fnExactHighLow", fn := fun _ => fun
  | [d] => { results := [.lit (.bool true)], args := [d] }
  | _ => none }
def fnExactHighLowRow : OpenClaim := { program := "ytchobalepjmeiaa", sum := "d47e4e3c4016fa590d092676db5ee65ff45cf73690b9d53d99e1c66e1e9e4d1b", func := "loop.example/g00059/laws.FnExactHighLow", spec := "fnExactHighLow", apart := false }
def FnExactHighLowSaid : Prop := fnExactHighLowRow.holds Try.pinned (OpenSpec.ofChange fnExactHighLowSpec)

/-- ITS FALSE NEIGHBOUR: 'it returns false'. Refute it at one input. -/
def fnExactHighLowWrong : ChangeSpec := { name := "fnExactHighLow", fn := fun _ => fun
  | [d] => { results := [.lit (.bool false)], args := [d] }
  | _ => none }
def FnExactHighLowWrongFalsely : Prop := fnExactHighLowRow.holds Try.pinned (OpenSpec.ofChange fnExactHighLowWrong)

/- THE SECOND FORM. 'bulk': how many values and letters a reading holds, each counted each time it is reached (what is shared counts as often as it is met; a slice's spare places count too). A statement '..UptoSaid' is the law's where the arguments, and the package variables that the reading takes, are together of bulk at most 1048576: NARROWER than '..Said'. Prove '..Said' where nothing that the law and all that it calls make is longer than what came in: it says more and counts as full. Else prove '..UptoSaid'. A law counts once. -/
mutual
def uptoBulk {H : Type} : DataW H → Nat
  | .lit (.string bytes) => bytes.length + 1
  | .lit _ => 1
  | .nil => 1
  | .ptr d => uptoBulk d + 1
  | .slice elems spare => uptoBulkAll elems + uptoBulkAll spare + 1
  | .agg parts => uptoBulkAll parts + 1
  | .iface _ d => uptoBulk d + 1
  | .map entries => uptoBulkEntries entries + 1
  | .held _ => 1
def uptoBulkAll {H : Type} : List (DataW H) → Nat
  | [] => 0
  | d :: r => uptoBulk d + uptoBulkAll r
def uptoBulkEntries {H : Type} : List (Lit × DataW H) → Nat
  | [] => 0
  | x :: r => uptoBulkEntry x + uptoBulkEntries r
def uptoBulkEntry {H : Type} : Lit × DataW H → Nat
  | (.string bytes, d) => bytes.length + uptoBulk d + 1
  | (_, d) => uptoBulk d + 1
 end
def uptoSmall : (H : Type) → List (DataW H) → Bool := fun _ ds => decide (uptoBulkAll ds ≤ 1048576)
def OpenSpec.upto (s : _root_.Go.ChangeSpec) : _root_.Go.OpenSpec := { _root_.Go.OpenSpec.ofChange s with cond := some uptoSmall }

/-- 'laws.FnStrip', WHERE WHAT IT READS IS OF BULK AT MOST 1048576: true; the input reads as it did. -/
def fnStripUptoRow : OpenClaim := { program := "ytchobalepjmeiaa", sum := "d47e4e3c4016fa590d092676db5ee65ff45cf73690b9d53d99e1c66e1e9e4d1b", func := "loop.example/g00059/laws.FnStrip", spec := "fnStrip", apart := false, narrowed := true }
def FnStripUptoSaid : Prop := fnStripUptoRow.holds Try.pinned (OpenSpec.upto fnStripSpec)

/-- 'laws.FnOver', WHERE WHAT IT READS IS OF BULK AT MOST 1048576: true; the input reads as it did. -/
def fnOverUptoRow : OpenClaim := { program := "ytchobalepjmeiaa", sum := "d47e4e3c4016fa590d092676db5ee65ff45cf73690b9d53d99e1c66e1e9e4d1b", func := "loop.example/g00059/laws.FnOver", spec := "fnOver", inPlace := ["math.Float64bits", "math.Float64frombits"], apart := false, narrowed := true }
def FnOverUptoSaid : Prop := fnOverUptoRow.holds Try.pinned (OpenSpec.upto fnOverSpec)

/-- 'laws.FnTides', WHERE WHAT IT READS IS OF BULK AT MOST 1048576: true; the input reads as it did. -/
def fnTidesUptoRow : OpenClaim := { program := "ytchobalepjmeiaa", sum := "d47e4e3c4016fa590d092676db5ee65ff45cf73690b9d53d99e1c66e1e9e4d1b", func := "loop.example/g00059/laws.FnTides", spec := "fnTides", inPlace := ["math.Float64bits", "math.Float64frombits"], apart := false, narrowed := true }
def FnTidesUptoSaid : Prop := fnTidesUptoRow.holds Try.pinned (OpenSpec.upto fnTidesSpec)

/-- 'laws.FnExactHighLow', WHERE WHAT IT READS IS OF BULK AT MOST 1048576: true; the input reads as it did. -/
def fnExactHighLowUptoRow : OpenClaim := { program := "ytchobalepjmeiaa", sum := "d47e4e3c4016fa590d092676db5ee65ff45cf73690b9d53d99e1c66e1e9e4d1b", func := "loop.example/g00059/laws.FnExactHighLow", spec := "fnExactHighLow", apart := false, narrowed := true }
def FnExactHighLowUptoSaid : Prop := fnExactHighLowUptoRow.holds Try.pinned (OpenSpec.upto fnExactHighLowSpec)

end Rows
end Go.Proofs.Ytchobalepjmeiaa
