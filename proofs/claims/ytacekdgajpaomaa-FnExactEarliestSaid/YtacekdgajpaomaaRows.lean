/-
  No cell of these rows narrows 'for every input' (looked for: loops, veiled, ifaces, maps, wideKeys, modest, calm, conditions, laid).
  DERIVED. THE GIVEN ROWS OF THIS SEAT. 5 by the template 'for every input the law returns true; each argument reads behind the call as it read before'; 0 by the template 'total and deterministic' (their statements: YtacekdgajpaomaaTotals.lean).
  GIVEN WITH THE SEED: the statements are not yours to turn. If you find one false, say at which input.
  Laid BY PROGRAM, IN A SANDBOX (cutbox-rows.mjs): the forced cells as the released guide's own fill.sh prints them over the translation 669c8a059d2247d3… (all of the seat's roots in one cut). By AI agents, Wed Nov 11 2026. No macro, syntax, notation, axiom, sorry.
-/
import Derived.Test.YtacekdgajpaomaaChecked
import GoSem.Claim
import GoSem.ClaimJoined
import GoSem.ClaimMapViews
import Derived.JoinedTies
import Derived.KernelRfl
namespace Go.Proofs.Ytacekdgajpaomaa
/- THE CELL 'sum', in the pinned program and in every row, IS THE sha256 OF THE DUMP (.gsa) THAT YtacekdgajpaomaaProg.lean LOADS. Nothing in Lean hashes anything: it is a label: what it is worth is what the hold of that sum in a sandbox is worth. -/
noncomputable def Try.pinned : Pinned := { name := "ytacekdgajpaomaa", sum := "669c8a059d2247d334f6c0213865f63f96a7e119b336e0457f781da86f292ce5", checked := Try.checked }
namespace Rows
def none {H : Type} : Left H := { results := [], args := [] }

/-- 'laws.FnDelays': WHATEVER THE INPUT: true; the input reads as it did. -/
def fnDelaysSpec : ChangeSpec := { name := "fnDelays", fn := fun _ => fun
  | [d] => { results := [.lit (.bool true)], args := [d] }
  | _ => none }
def fnDelaysRow : OpenClaim := { program := "ytacekdgajpaomaa", sum := "669c8a059d2247d334f6c0213865f63f96a7e119b336e0457f781da86f292ce5", func := "loop.example/g00059/laws.FnDelays", spec := "fnDelays", apart := false }
def FnDelaysSaid : Prop := fnDelaysRow.holds Try.pinned (OpenSpec.ofChange fnDelaysSpec)

/-- ITS FALSE NEIGHBOUR: 'it returns false'. Refute it at one input. -/
def fnDelaysWrong : ChangeSpec := { name := "fnDelays", fn := fun _ => fun
  | [d] => { results := [.lit (.bool false)], args := [d] }
  | _ => none }
def FnDelaysWrongFalsely : Prop := fnDelaysRow.holds Try.pinned (OpenSpec.ofChange fnDelaysWrong)

/-- 'laws.FnExactLegsOk': WHATEVER THE INPUT: true; the input reads as it did. -/
def fnExactLegsOkSpec : ChangeSpec := { name := "fnExactLegsOk", fn := fun _ => fun
  | [d] => { results := [.lit (.bool true)], args := [d] }
  | _ => none }
def fnExactLegsOkRow : OpenClaim := { program := "ytacekdgajpaomaa", sum := "669c8a059d2247d334f6c0213865f63f96a7e119b336e0457f781da86f292ce5", func := "loop.example/g00059/laws.FnExactLegsOk", spec := "fnExactLegsOk", apart := false }
def FnExactLegsOkSaid : Prop := fnExactLegsOkRow.holds Try.pinned (OpenSpec.ofChange fnExactLegsOkSpec)

/-- ITS FALSE NEIGHBOUR: 'it returns false'. Refute it at one input. -/
def fnExactLegsOkWrong : ChangeSpec := { name := "fnExactLegsOk", fn := fun _ => fun
  | [d] => { results := [.lit (.bool false)], args := [d] }
  | _ => none }
def FnExactLegsOkWrongFalsely : Prop := fnExactLegsOkRow.holds Try.pinned (OpenSpec.ofChange fnExactLegsOkWrong)

/-- 'laws.FnExactMissed': WHATEVER THE INPUT: true; the input reads as it did. -/
def fnExactMissedSpec : ChangeSpec := { name := "fnExactMissed", fn := fun _ => fun
  | [d1, d2, d3] => { results := [.lit (.bool true)], args := [d1, d2, d3] }
  | _ => none }
def fnExactMissedRow : OpenClaim := { program := "ytacekdgajpaomaa", sum := "669c8a059d2247d334f6c0213865f63f96a7e119b336e0457f781da86f292ce5", func := "loop.example/g00059/laws.FnExactMissed", spec := "fnExactMissed", apart := false }
def FnExactMissedSaid : Prop := fnExactMissedRow.holds Try.pinned (OpenSpec.ofChange fnExactMissedSpec)

/-- ITS FALSE NEIGHBOUR: 'it returns false'. Refute it at one input. -/
def fnExactMissedWrong : ChangeSpec := { name := "fnExactMissed", fn := fun _ => fun
  | [d1, d2, d3] => { results := [.lit (.bool false)], args := [d1, d2, d3] }
  | _ => none }
def FnExactMissedWrongFalsely : Prop := fnExactMissedRow.holds Try.pinned (OpenSpec.ofChange fnExactMissedWrong)

/-- 'laws.FnExactDelay': WHATEVER THE INPUT: true; the input reads as it did. -/
def fnExactDelaySpec : ChangeSpec := { name := "fnExactDelay", fn := fun _ => fun
  | [d1, d2, d3, d4] => { results := [.lit (.bool true)], args := [d1, d2, d3, d4] }
  | _ => none }
def fnExactDelayRow : OpenClaim := { program := "ytacekdgajpaomaa", sum := "669c8a059d2247d334f6c0213865f63f96a7e119b336e0457f781da86f292ce5", func := "loop.example/g00059/laws.FnExactDelay", spec := "fnExactDelay", apart := false }
def FnExactDelaySaid : Prop := fnExactDelayRow.holds Try.pinned (OpenSpec.ofChange fnExactDelaySpec)

/-- ITS FALSE NEIGHBOUR: 'it returns false'. Refute it at one input. -/
def fnExactDelayWrong : ChangeSpec := { name := "fnExactDelay", fn := fun _ => fun
  | [d1, d2, d3, d4] => { results := [.lit (.bool false)], args := [d1, d2, d3, d4] }
  | _ => none }
def FnExactDelayWrongFalsely : Prop := fnExactDelayRow.holds Try.pinned (OpenSpec.ofChange fnExactDelayWrong)

/-- 'laws.FnExactEarliest': WHATEVER THE INPUT: true; the input reads as it did. -/
def fnExactEarliestSpec : ChangeSpec := { name := "fnExactEarliest", fn := fun _ => fun
  | [d1, d2, d3, d4] => { results := [.lit (.bool true)], args := [d1, d2, d3, d4] }
  | _ => none }
def fnExactEarliestRow : OpenClaim := { program := "ytacekdgajpaomaa", sum := "669c8a059d2247d334f6c0213865f63f96a7e119b336e0457f781da86f292ce5", func := "loop.example/g00059/laws.FnExactEarliest", spec := "fnExactEarliest", unfollowed := true, recurses := true, apart := false }
def FnExactEarliestSaid : Prop := fnExactEarliestRow.holds Try.pinned (OpenSpec.ofChange fnExactEarliestSpec)

/-- ITS FALSE NEIGHBOUR: 'it returns false'. Refute it at one input. -/
def fnExactEarliestWrong : ChangeSpec := { name := "fnExactEarliest", fn := fun _ => fun
  | [d1, d2, d3, d4] => { results := [.lit (.bool false)], args := [d1, d2, d3, d4] }
  | _ => none }
def FnExactEarliestWrongFalsely : Prop := fnExactEarliestRow.holds Try.pinned (OpenSpec.ofChange fnExactEarliestWrong)

/- THE SECOND FORM. 'bulk': how many values and letters a reading holds, each counted each time it is reached (what is shared counts as often as it is met; a slice's spare places count too). A statement '..UptoSaid' is the law's where the arguments, and the package variables that the reading takes, are together of bulk at most 1048576: NARROWER than '..Said'. Prove '..Said' where nothing that the law and all that it calls make is longer than what came in: it says more and counts as full. Else prove '..UptoSaid'. A law counts once. -/
mutual
def uptoBulk {H : Type} : DataW H → Nat
  | .lit (.string bytes) => bytes.length + 1
  | .lit _ => 1
  | .nil => 1
  | .ptr d => uptoBulk d + 1
  | .slice elems spare => uptoBulkAll elems + uptoBulkAll spare + 1
  | .agg parts => uptoBulkAll parts + 1
  | .iface _ d => uptoBulk d + 1
  | .map entries => uptoBulkEntries entries + 1
  | .held _ => 1
def uptoBulkAll {H : Type} : List (DataW H) → Nat
  | [] => 0
  | d :: r => uptoBulk d + uptoBulkAll r
def uptoBulkEntries {H : Type} : List (Lit × DataW H) → Nat
  | [] => 0
  | x :: r => uptoBulkEntry x + uptoBulkEntries r
def uptoBulkEntry {H : Type} : Lit × DataW H → Nat
  | (.string bytes, d) => bytes.length + uptoBulk d + 1
  | (_, d) => uptoBulk d + 1
 end
def uptoSmall : (H : Type) → List (DataW H) → Bool := fun _ ds => decide (uptoBulkAll ds ≤ 1048576)
def OpenSpec.upto (s : _root_.Go.ChangeSpec) : _root_.Go.OpenSpec := { _root_.Go.OpenSpec.ofChange s with cond := some uptoSmall }

/-- 'laws.FnDelays', WHERE WHAT IT READS IS OF BULK AT MOST 1048576: true; the input reads as it did. -/
def fnDelaysUptoRow : OpenClaim := { program := "ytacekdgajpaomaa", sum := "669c8a059d2247d334f6c0213865f63f96a7e119b336e0457f781da86f292ce5", func := "loop.example/g00059/laws.FnDelays", spec := "fnDelays", apart := false, narrowed := true }
def FnDelaysUptoSaid : Prop := fnDelaysUptoRow.holds Try.pinned (OpenSpec.upto fnDelaysSpec)

/-- 'laws.FnExactLegsOk', WHERE WHAT IT READS IS OF BULK AT MOST 1048576: true; the input reads as it did. -/
def fnExactLegsOkUptoRow : OpenClaim := { program := "ytacekdgajpaomaa", sum := "669c8a059d2247d334f6c0213865f63f96a7e119b336e0457f781da86f292ce5", func := "loop.example/g00059/laws.FnExactLegsOk", spec := "fnExactLegsOk", apart := false, narrowed := true }
def FnExactLegsOkUptoSaid : Prop := fnExactLegsOkUptoRow.holds Try.pinned (OpenSpec.upto fnExactLegsOkSpec)

/-- 'laws.FnExactMissed', WHERE WHAT IT READS IS OF BULK AT MOST 1048576: true; the input reads as it did. -/
def fnExactMissedUptoRow : OpenClaim := { program := "ytacekdgajpaomaa", sum := "669c8a059d2247d334f6c0213865f63f96a7e119b336e0457f781da86f292ce5", func := "loop.example/g00059/laws.FnExactMissed", spec := "fnExactMissed", apart := false, narrowed := true }
def FnExactMissedUptoSaid : Prop := fnExactMissedUptoRow.holds Try.pinned (OpenSpec.upto fnExactMissedSpec)

/-- 'laws.FnExactDelay', WHERE WHAT IT READS IS OF BULK AT MOST 1048576: true; the input reads as it did. -/
def fnExactDelayUptoRow : OpenClaim := { program := "ytacekdgajpaomaa", sum := "669c8a059d2247d334f6c0213865f63f96a7e119b336e0457f781da86f292ce5", func := "loop.example/g00059/laws.FnExactDelay", spec := "fnExactDelay", apart := false, narrowed := true }
def FnExactDelayUptoSaid : Prop := fnExactDelayUptoRow.holds Try.pinned (OpenSpec.upto fnExactDelaySpec)

/-- 'laws.FnExactEarliest', WHERE WHAT IT READS IS OF BULK AT MOST 1048576: true; the input reads as it did. -/
def fnExactEarliestUptoRow : OpenClaim := { program := "ytacekdgajpaomaa", sum := "669c8a059d2247d334f6c0213865f63f96a7e119b336e0457f781da86f292ce5", func := "loop.example/g00059/laws.FnExactEarliest", spec := "fnExactEarliest", unfollowed := true, recurses := true, apart := false, narrowed := true }
def FnExactEarliestUptoSaid : Prop := fnExactEarliestUptoRow.holds Try.pinned (OpenSpec.upto fnExactEarliestSpec)

end Rows
end Go.Proofs.Ytacekdgajpaomaa
