/-
  No cell of these rows narrows 'for every input' (looked for: loops, veiled, ifaces, maps, wideKeys, modest, calm, conditions, laid).
  DERIVED. THE GIVEN ROWS OF THIS SEAT. 4 by the template 'for every input the law returns true; each argument reads behind the call as it read before'; 0 by the template 'total and deterministic' (their statements: YtpepdjghajphlaaTotals.lean).
  GIVEN WITH THE SEED: the statements are not yours to turn. If you find one false, say at which input.
  Laid BY PROGRAM, IN A SANDBOX (cutbox-rows.mjs): the forced cells as the released guide's own fill.sh prints them over the translation bafd64835d70a71a… (all of the seat's roots in one cut). By AI agents, Wed Nov 11 2026. No macro, syntax, notation, axiom, sorry.
-/
import Derived.Test.YtpepdjghajphlaaChecked
import GoSem.Claim
import GoSem.ClaimJoined
import GoSem.ClaimMapViews
import Derived.JoinedTies
import Derived.KernelRfl
namespace Go.Proofs.Ytpepdjghajphlaa
/- THE CELL 'sum', in the pinned program and in every row, IS THE sha256 OF THE DUMP (.gsa) THAT YtpepdjghajphlaaProg.lean LOADS. Nothing in Lean hashes anything: it is a label: what it is worth is what the hold of that sum in a sandbox is worth. -/
noncomputable def Try.pinned : Pinned := { name := "ytpepdjghajphlaa", sum := "bafd64835d70a71ac18a57b17540a5f4d08c08b07f955ef1e5d40b4612c86a6d", checked := Try.checked }
namespace Rows
def none {H : Type} : Left H := { results := [], args := [] }

/-- 'laws.FnAverage': WHATEVER THE INPUT: true; the input reads as it did. -/
def fnAverageSpec : ChangeSpec := { name := "fnAverage", fn := fun _ => fun
  | [d] => { results := [.lit (.bool true)], args := [d] }
  | _ => none }
def fnAverageRow : OpenClaim := { program := "ytpepdjghajphlaa", sum := "bafd64835d70a71ac18a57b17540a5f4d08c08b07f955ef1e5d40b4612c86a6d", func := "loop.example/g00059/laws.FnAverage", spec := "fnAverage", unfollowed := true, recurses := true, apart := false }
def FnAverageSaid : Prop := fnAverageRow.holds Try.pinned (OpenSpec.ofChange fnAverageSpec)

/-- ITS FALSE NEIGHBOUR: 'it returns false'. Refute it at one input. -/
def fnAverageWrong : ChangeSpec := { name := "fnAverage", fn := fun _ => fun
  | [d] => { results := [.lit (.bool false)], args := [d] }
  | _ => none }
def FnAverageWrongFalsely : Prop := fnAverageRow.holds Try.pinned (OpenSpec.ofChange fnAverageWrong)

/-- 'laws.FnLaid': WHATEVER THE INPUT: true; the input reads as it did. -/
def fnLaidSpec : ChangeSpec := { name := "fnLaid", fn := fun _ => fun
  | [d] => { results := [.lit (.bool true)], args := [d] }
  | _ => none }
def fnLaidRow : OpenClaim := { program := "ytpepdjghajphlaa", sum := "bafd64835d70a71ac18a57b17540a5f4d08c08b07f955ef1e5d40b4612c86a6d", func := "loop.example/g00059/laws.FnLaid", spec := "fnLaid", apart := false }
def FnLaidSaid : Prop := fnLaidRow.holds Try.pinned (OpenSpec.ofChange fnLaidSpec)

/-- ITS FALSE NEIGHBOUR: 'it returns false'. Refute it at one input. -/
def fnLaidWrong : ChangeSpec := { name := "fnLaid", fn := fun _ => fun
  | [d] => { results := [.lit (.bool false)], args := [d] }
  | _ => none }
def FnLaidWrongFalsely : Prop := fnLaidRow.holds Try.pinned (OpenSpec.ofChange fnLaidWrong)

/-- 'laws.FnExactCounted': WHATEVER THE INPUT: true; the input reads as it did. -/
def fnExactCountedSpec : ChangeSpec := { name := "fnExactCounted", fn := fun _ => fun
  | [d1, d2, d3, d4] => { results := [.lit (.bool true)], args := [d1, d2, d3, d4] }
  | _ => none }
def fnExactCountedRow : OpenClaim := { program := "ytpepdjghajphlaa", sum := "bafd64835d70a71ac18a57b17540a5f4d08c08b07f955ef1e5d40b4612c86a6d", func := "loop.example/g00059/laws.FnExactCounted", spec := "fnExactCounted", apart := false }
def FnExactCountedSaid : Prop := fnExactCountedRow.holds Try.pinned (OpenSpec.ofChange fnExactCountedSpec)

/-- ITS FALSE NEIGHBOUR: 'it returns false'. Refute it at one input. -/
def fnExactCountedWrong : ChangeSpec := { name := "fnExactCounted", fn := fun _ => fun
  | [d1, d2, d3, d4] => { results := [.lit (.bool false)], args := [d1, d2, d3, d4] }
  | _ => none }
def FnExactCountedWrongFalsely : Prop := fnExactCountedRow.holds Try.pinned (OpenSpec.ofChange fnExactCountedWrong)

/-- 'laws.FnExactLaid': WHATEVER THE INPUT: true; the input reads as it did. -/
def fnExactLaidSpec : ChangeSpec := { name := "fnExactLaid", fn := fun _ => fun
  | [d1, d2, d3] => { results := [.lit (.bool true)], args := [d1, d2, d3] }
  | _ => none }
def fnExactLaidRow : OpenClaim := { program := "ytpepdjghajphlaa", sum := "bafd64835d70a71ac18a57b17540a5f4d08c08b07f955ef1e5d40b4612c86a6d", func := "loop.example/g00059/laws.FnExactLaid", spec := "fnExactLaid", apart := false }
def FnExactLaidSaid : Prop := fnExactLaidRow.holds Try.pinned (OpenSpec.ofChange fnExactLaidSpec)

/-- ITS FALSE NEIGHBOUR: 'it returns false'. Refute it at one input. -/
def fnExactLaidWrong : ChangeSpec := { name := "fnExactLaid", fn := fun _ => fun
  | [d1, d2, d3] => { results := [.lit (.bool false)], args := [d1, d2, d3] }
  | _ => none }
def FnExactLaidWrongFalsely : Prop := fnExactLaidRow.holds Try.pinned (OpenSpec.ofChange fnExactLaidWrong)

/- THE SECOND FORM. 'bulk': how many values and letters a reading holds, each counted each time it is reached (what is shared counts as often as it is met; a slice's spare places count too). A statement '..UptoSaid' is the law's where the arguments, and the package variables that the reading takes, are together of bulk at most 1048576: NARROWER than '..Said'. Prove '..Said' where nothing that the law and all that it calls make is longer than what came in: it says more and counts as full. Else prove '..UptoSaid'. A law counts once. -/
mutual
def uptoBulk {H : Type} : DataW H → Nat
  | .lit (.string bytes) => bytes.length + 1
  | .lit _ => 1
  | .nil => 1
  | .ptr d => uptoBulk d + 1
  | .slice elems spare => uptoBulkAll elems + uptoBulkAll spare + 1
  | .agg parts => uptoBulkAll parts + 1
  | .iface _ d => uptoBulk d + 1
  | .map entries => uptoBulkEntries entries + 1
  | .held _ => 1
def uptoBulkAll {H : Type} : List (DataW H) → Nat
  | [] => 0
  | d :: r => uptoBulk d + uptoBulkAll r
def uptoBulkEntries {H : Type} : List (Lit × DataW H) → Nat
  | [] => 0
  | x :: r => uptoBulkEntry x + uptoBulkEntries r
def uptoBulkEntry {H : Type} : Lit × DataW H → Nat
  | (.string bytes, d) => bytes.length + uptoBulk d + 1
  | (_, d) => uptoBulk d + 1
 end
def uptoSmall : (H : Type) → List (DataW H) → Bool := fun _ ds => decide (uptoBulkAll ds ≤ 1048576)
def OpenSpec.upto (s : _root_.Go.ChangeSpec) : _root_.Go.OpenSpec := { _root_.Go.OpenSpec.ofChange s with cond := some uptoSmall }

/-- 'laws.FnAverage', WHERE WHAT IT READS IS OF BULK AT MOST 1048576: true; the input reads as it did. -/
def fnAverageUptoRow : OpenClaim := { program := "ytpepdjghajphlaa", sum := "bafd64835d70a71ac18a57b17540a5f4d08c08b07f955ef1e5d40b4612c86a6d", func := "loop.example/g00059/laws.FnAverage", spec := "fnAverage", unfollowed := true, recurses := true, apart := false, narrowed := true }
def FnAverageUptoSaid : Prop := fnAverageUptoRow.holds Try.pinned (OpenSpec.upto fnAverageSpec)

/-- 'laws.FnLaid', WHERE WHAT IT READS IS OF BULK AT MOST 1048576: true; the input reads as it did. -/
def fnLaidUptoRow : OpenClaim := { program := "ytpepdjghajphlaa", sum := "bafd64835d70a71ac18a57b17540a5f4d08c08b07f955ef1e5d40b4612c86a6d", func := "loop.example/g00059/laws.FnLaid", spec := "fnLaid", apart := false, narrowed := true }
def FnLaidUptoSaid : Prop := fnLaidUptoRow.holds Try.pinned (OpenSpec.upto fnLaidSpec)

/-- 'laws.FnExactCounted', WHERE WHAT IT READS IS OF BULK AT MOST 1048576: true; the input reads as it did. -/
def fnExactCountedUptoRow : OpenClaim := { program := "ytpepdjghajphlaa", sum := "bafd64835d70a71ac18a57b17540a5f4d08c08b07f955ef1e5d40b4612c86a6d", func := "loop.example/g00059/laws.FnExactCounted", spec := "fnExactCounted", apart := false, narrowed := true }
def FnExactCountedUptoSaid : Prop := fnExactCountedUptoRow.holds Try.pinned (OpenSpec.upto fnExactCountedSpec)

/-- 'laws.FnExactLaid', WHERE WHAT IT READS IS OF BULK AT MOST 1048576: true; the input reads as it did. -/
def fnExactLaidUptoRow : OpenClaim := { program := "ytpepdjghajphlaa", sum := "bafd64835d70a71ac18a57b17540a5f4d08c08b07f955ef1e5d40b4612c86a6d", func := "loop.example/g00059/laws.FnExactLaid", spec := "fnExactLaid", apart := false, narrowed := true }
def FnExactLaidUptoSaid : Prop := fnExactLaidUptoRow.holds Try.pinned (OpenSpec.upto fnExactLaidSpec)

end Rows
end Go.Proofs.Ytpepdjghajphlaa
