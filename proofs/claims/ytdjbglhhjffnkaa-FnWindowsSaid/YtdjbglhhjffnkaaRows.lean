/-
  No cell of these rows narrows 'for every input' (looked for: loops, veiled, ifaces, maps, wideKeys, modest, calm, conditions, laid).
  DERIVED. THE GIVEN ROWS OF THIS SEAT. 6 by the template 'for every input the law returns true; each argument reads behind the call as it read before'; 0 by the template 'total and deterministic' (their statements: YtdjbglhhjffnkaaTotals.lean).
  GIVEN WITH THE SEED: the statements are not yours to turn. If you find one false, say at which input.
  Laid BY PROGRAM, IN A SANDBOX (cutbox-rows.mjs): the forced cells as the released guide's own fill.sh prints them over the translation aba4aa88f02582b1… (all of the seat's roots in one cut). By AI agents, Wed Nov 11 2026. No macro, syntax, notation, axiom, sorry.
-/
import Derived.Test.YtdjbglhhjffnkaaChecked
import GoSem.Claim
import GoSem.ClaimJoined
import GoSem.ClaimMapViews
import Derived.JoinedTies
import Derived.KernelRfl
namespace Go.Proofs.Ytdjbglhhjffnkaa
/- THE CELL 'sum', in the pinned program and in every row, IS THE sha256 OF THE DUMP (.gsa) THAT YtdjbglhhjffnkaaProg.lean LOADS. Nothing in Lean hashes anything: it is a label: what it is worth is what the hold of that sum in a sandbox is worth. -/
noncomputable def Try.pinned : Pinned := { name := "ytdjbglhhjffnkaa", sum := "aba4aa88f02582b15e4f7ce00a12bf0df83ffc33855f5ac9c8d9f2aa036c7c2f", checked := Try.checked }
namespace Rows
def none {H : Type} : Left H := { results := [], args := [] }

/-- 'laws.FnBalanced': WHATEVER THE INPUT: true; the input reads as it did. -/
def fnBalancedSpec : ChangeSpec := { name := "fnBalanced", fn := fun _ => fun
  | [d] => { results := [.lit (.bool true)], args := [d] }
  | _ => none }
def fnBalancedRow : OpenClaim := { program := "ytdjbglhhjffnkaa", sum := "aba4aa88f02582b15e4f7ce00a12bf0df83ffc33855f5ac9c8d9f2aa036c7c2f", func := "loop.example/g00059/laws.FnBalanced", spec := "fnBalanced", unfollowed := true, recurses := true, apart := false }
def FnBalancedSaid : Prop := fnBalancedRow.holds Try.pinned (OpenSpec.ofChange fnBalancedSpec)

/-- ITS FALSE NEIGHBOUR: 'it returns false'. Refute it at one input. -/
def fnBalancedWrong : ChangeSpec := { name := "fnBalanced", fn := fun _ => fun
  | [d] => { results := [.lit (.bool false)], args := [d] }
  | _ => none }
def FnBalancedWrongFalsely : Prop := fnBalancedRow.holds Try.pinned (OpenSpec.ofChange fnBalancedWrong)

/-- 'laws.FnSwings': WHATEVER THE INPUT: true; the input reads as it did. -/
def fnSwingsSpec : ChangeSpec := { name := "fnSwings", fn := fun _ => fun
  | [d] => { results := [.lit (.bool true)], args := [d] }
  | _ => none }
def fnSwingsRow : OpenClaim := { program := "ytdjbglhhjffnkaa", sum := "aba4aa88f02582b15e4f7ce00a12bf0df83ffc33855f5ac9c8d9f2aa036c7c2f", func := "loop.example/g00059/laws.FnSwings", spec := "fnSwings", unfollowed := true, recurses := true, apart := false }
def FnSwingsSaid : Prop := fnSwingsRow.holds Try.pinned (OpenSpec.ofChange fnSwingsSpec)

/-- ITS FALSE NEIGHBOUR: 'it returns false'. Refute it at one input. -/
def fnSwingsWrong : ChangeSpec := { name := "fnSwings", fn := fun _ => fun
  | [d] => { results := [.lit (.bool false)], args := [d] }
  | _ => none }
def FnSwingsWrongFalsely : Prop := fnSwingsRow.holds Try.pinned (OpenSpec.ofChange fnSwingsWrong)

/-- 'laws.FnExactTurns': WHATEVER THE INPUT: true; the input reads as it did. -/
def fnExactTurnsSpec : ChangeSpec := { name := "fnExactTurns", fn := fun _ => fun
  | [d] => { results := [.lit (.bool true)], args := [d] }
  | _ => none }
def fnExactTurnsRow : OpenClaim := { program := "ytdjbglhhjffnkaa", sum := "aba4aa88f02582b15e4f7ce00a12bf0df83ffc33855f5ac9c8d9f2aa036c7c2f", func := "loop.example/g00059/laws.FnExactTurns", spec := "fnExactTurns", unfollowed := true, recurses := true, apart := false }
def FnExactTurnsSaid : Prop := fnExactTurnsRow.holds Try.pinned (OpenSpec.ofChange fnExactTurnsSpec)

/-- ITS FALSE NEIGHBOUR: 'it returns false'. Refute it at one input. -/
def fnExactTurnsWrong : ChangeSpec := { name := "fnExactTurns", fn := fun _ => fun
  | [d] => { results := [.lit (.bool false)], args := [d] }
  | _ => none }
def FnExactTurnsWrongFalsely : Prop := fnExactTurnsRow.holds Try.pinned (OpenSpec.ofChange fnExactTurnsWrong)

/-- 'laws.FnExactSwings': WHATEVER THE INPUT: true; the input reads as it did. -/
def fnExactSwingsSpec : ChangeSpec := { name := "fnExactSwings", fn := fun _ => fun
  | [d] => { results := [.lit (.bool true)], args := [d] }
  | _ => none }
def fnExactSwingsRow : OpenClaim := { program := "ytdjbglhhjffnkaa", sum := "aba4aa88f02582b15e4f7ce00a12bf0df83ffc33855f5ac9c8d9f2aa036c7c2f", func := "loop.example/g00059/laws.FnExactSwings", spec := "fnExactSwings", unfollowed := true, recurses := true, apart := false }
def FnExactSwingsSaid : Prop := fnExactSwingsRow.holds Try.pinned (OpenSpec.ofChange fnExactSwingsSpec)

/-- ITS FALSE NEIGHBOUR: 'it returns false'. Refute it at one input. -/
def fnExactSwingsWrong : ChangeSpec := { name := "fnExactSwings", fn := fun _ => fun
  | [d] => { results := [.lit (.bool false)], args := [d] }
  | _ => none }
def FnExactSwingsWrongFalsely : Prop := fnExactSwingsRow.holds Try.pinned (OpenSpec.ofChange fnExactSwingsWrong)

/-- 'laws.FnWindows': WHATEVER THE INPUT: true; the input reads as it did. -/
def fnWindowsSpec : ChangeSpec := { name := "fnWindows", fn := fun _ => fun
  | [d] => { results := [.lit (.bool true)], args := [d] }
  | _ => none }
def fnWindowsRow : OpenClaim := { program := "ytdjbglhhjffnkaa", sum := "aba4aa88f02582b15e4f7ce00a12bf0df83ffc33855f5ac9c8d9f2aa036c7c2f", func := "loop.example/g00059/laws.FnWindows", spec := "fnWindows", apart := false }
def FnWindowsSaid : Prop := fnWindowsRow.holds Try.pinned (OpenSpec.ofChange fnWindowsSpec)

/-- ITS FALSE NEIGHBOUR: 'it returns false'. Refute it at one input. -/
def fnWindowsWrong : ChangeSpec := { name := "fnWindows", fn := fun _ => fun
  | [d] => { results := [.lit (.bool false)], args := [d] }
  | _ => none }
def FnWindowsWrongFalsely : Prop := fnWindowsRow.holds Try.pinned (OpenSpec.ofChange fnWindowsWrong)

/-- 'laws.FnExactWindowsOf': WHATEVER THE INPUT: true; the input reads as it did. -/
def fnExactWindowsOfSpec : ChangeSpec := { name := "fnExactWindowsOf", fn := fun _ => fun
  | [d1, d2] => { results := [.lit (.bool true)], args := [d1, d2] }
  | _ => none }
def fnExactWindowsOfRow : OpenClaim := { program := "ytdjbglhhjffnkaa", sum := "aba4aa88f02582b15e4f7ce00a12bf0df83ffc33855f5ac9c8d9f2aa036c7c2f", func := "loop.example/g00059/laws.FnExactWindowsOf", spec := "fnExactWindowsOf", apart := false }
def FnExactWindowsOfSaid : Prop := fnExactWindowsOfRow.holds Try.pinned (OpenSpec.ofChange fnExactWindowsOfSpec)

/-- ITS FALSE NEIGHBOUR: 'it returns false'. Refute it at one input. -/
def fnExactWindowsOfWrong : ChangeSpec := { name := "fnExactWindowsOf", fn := fun _ => fun
  | [d1, d2] => { results := [.lit (.bool false)], args := [d1, d2] }
  | _ => none }
def FnExactWindowsOfWrongFalsely : Prop := fnExactWindowsOfRow.holds Try.pinned (OpenSpec.ofChange fnExactWindowsOfWrong)

/- THE SECOND FORM. 'bulk': how many values and letters a reading holds, each counted each time it is reached (what is shared counts as often as it is met; a slice's spare places count too). A statement '..UptoSaid' is the law's where the arguments, and the package variables that the reading takes, are together of bulk at most 1048576: NARROWER than '..Said'. Prove '..Said' where nothing that the law and all that it calls make is longer than what came in: it says more and counts as full. Else prove '..UptoSaid'. A law counts once. -/
mutual
def uptoBulk {H : Type} : DataW H → Nat
  | .lit (.string bytes) => bytes.length + 1
  | .lit _ => 1
  | .nil => 1
  | .ptr d => uptoBulk d + 1
  | .slice elems spare => uptoBulkAll elems + uptoBulkAll spare + 1
  | .agg parts => uptoBulkAll parts + 1
  | .iface _ d => uptoBulk d + 1
  | .map entries => uptoBulkEntries entries + 1
  | .held _ => 1
def uptoBulkAll {H : Type} : List (DataW H) → Nat
  | [] => 0
  | d :: r => uptoBulk d + uptoBulkAll r
def uptoBulkEntries {H : Type} : List (Lit × DataW H) → Nat
  | [] => 0
  | x :: r => uptoBulkEntry x + uptoBulkEntries r
def uptoBulkEntry {H : Type} : Lit × DataW H → Nat
  | (.string bytes, d) => bytes.length + uptoBulk d + 1
  | (_, d) => uptoBulk d + 1
 end
def uptoSmall : (H : Type) → List (DataW H) → Bool := fun _ ds => decide (uptoBulkAll ds ≤ 1048576)
def OpenSpec.upto (s : _root_.Go.ChangeSpec) : _root_.Go.OpenSpec := { _root_.Go.OpenSpec.ofChange s with cond := some uptoSmall }

/-- 'laws.FnBalanced', WHERE WHAT IT READS IS OF BULK AT MOST 1048576: true; the input reads as it did. -/
def fnBalancedUptoRow : OpenClaim := { program := "ytdjbglhhjffnkaa", sum := "aba4aa88f02582b15e4f7ce00a12bf0df83ffc33855f5ac9c8d9f2aa036c7c2f", func := "loop.example/g00059/laws.FnBalanced", spec := "fnBalanced", unfollowed := true, recurses := true, apart := false, narrowed := true }
def FnBalancedUptoSaid : Prop := fnBalancedUptoRow.holds Try.pinned (OpenSpec.upto fnBalancedSpec)

/-- 'laws.FnSwings', WHERE WHAT IT READS IS OF BULK AT MOST 1048576: true; the input reads as it did. -/
def fnSwingsUptoRow : OpenClaim := { program := "ytdjbglhhjffnkaa", sum := "aba4aa88f02582b15e4f7ce00a12bf0df83ffc33855f5ac9c8d9f2aa036c7c2f", func := "loop.example/g00059/laws.FnSwings", spec := "fnSwings", unfollowed := true, recurses := true, apart := false, narrowed := true }
def FnSwingsUptoSaid : Prop := fnSwingsUptoRow.holds Try.pinned (OpenSpec.upto fnSwingsSpec)

/-- 'laws.FnExactTurns', WHERE WHAT IT READS IS OF BULK AT MOST 1048576: true; the input reads as it did. -/
def fnExactTurnsUptoRow : OpenClaim := { program := "ytdjbglhhjffnkaa", sum := "aba4aa88f02582b15e4f7ce00a12bf0df83ffc33855f5ac9c8d9f2aa036c7c2f", func := "loop.example/g00059/laws.FnExactTurns", spec := "fnExactTurns", unfollowed := true, recurses := true, apart := false, narrowed := true }
def FnExactTurnsUptoSaid : Prop := fnExactTurnsUptoRow.holds Try.pinned (OpenSpec.upto fnExactTurnsSpec)

/-- 'laws.FnExactSwings', WHERE WHAT IT READS IS OF BULK AT MOST 1048576: true; the input reads as it did. -/
def fnExactSwingsUptoRow : OpenClaim := { program := "ytdjbglhhjffnkaa", sum := "aba4aa88f02582b15e4f7ce00a12bf0df83ffc33855f5ac9c8d9f2aa036c7c2f", func := "loop.example/g00059/laws.FnExactSwings", spec := "fnExactSwings", unfollowed := true, recurses := true, apart := false, narrowed := true }
def FnExactSwingsUptoSaid : Prop := fnExactSwingsUptoRow.holds Try.pinned (OpenSpec.upto fnExactSwingsSpec)

/-- 'laws.FnWindows', WHERE WHAT IT READS IS OF BULK AT MOST 1048576: true; the input reads as it did. -/
def fnWindowsUptoRow : OpenClaim := { program := "ytdjbglhhjffnkaa", sum := "aba4aa88f02582b15e4f7ce00a12bf0df83ffc33855f5ac9c8d9f2aa036c7c2f", func := "loop.example/g00059/laws.FnWindows", spec := "fnWindows", apart := false, narrowed := true }
def FnWindowsUptoSaid : Prop := fnWindowsUptoRow.holds Try.pinned (OpenSpec.upto fnWindowsSpec)

/-- 'laws.FnExactWindowsOf', WHERE WHAT IT READS IS OF BULK AT MOST 1048576: true; the input reads as it did. -/
def fnExactWindowsOfUptoRow : OpenClaim := { program := "ytdjbglhhjffnkaa", sum := "aba4aa88f02582b15e4f7ce00a12bf0df83ffc33855f5ac9c8d9f2aa036c7c2f", func := "loop.example/g00059/laws.FnExactWindowsOf", spec := "fnExactWindowsOf", apart := false, narrowed := true }
def FnExactWindowsOfUptoSaid : Prop := fnExactWindowsOfUptoRow.holds Try.pinned (OpenSpec.upto fnExactWindowsOfSpec)

end Rows
end Go.Proofs.Ytdjbglhhjffnkaa
