/-
  No cell of these rows narrows 'for every input' (looked for: loops, veiled, ifaces, maps, wideKeys, modest, calm, conditions, laid).
  DERIVED. THE GIVEN ROWS OF THIS SEAT. 6 by the template 'for every input the law returns true; each argument reads behind the call as it read before'; 0 by the template 'total and deterministic' (their statements: YtlphfhibnbhkfaaTotals.lean).
  GIVEN WITH THE SEED: the statements are not yours to turn. If you find one false, say at which input.
  Laid BY PROGRAM, IN A SANDBOX (cutbox-rows.mjs): the forced cells as the released guide's own fill.sh prints them over the translation 2457d75f4ffd6931… (all of the seat's roots in one cut). By AI agents, Wed Nov 11 2026. No macro, syntax, notation, axiom, sorry.
-/
import Derived.Test.YtlphfhibnbhkfaaChecked
import GoSem.Claim
import GoSem.ClaimJoined
import GoSem.ClaimMapViews
import Derived.JoinedTies
import Derived.KernelRfl
namespace Go.Proofs.Ytlphfhibnbhkfaa
/- THE CELL 'sum', in the pinned program and in every row, IS THE sha256 OF THE DUMP (.gsa) THAT YtlphfhibnbhkfaaProg.lean LOADS. Nothing in Lean hashes anything: it is a label: what it is worth is what the hold of that sum in a sandbox is worth. -/
noncomputable def Try.pinned : Pinned := { name := "ytlphfhibnbhkfaa", sum := "2457d75f4ffd693149e29b98fe3930fc3f3204dc0f91c1d159b9b3873179246b", checked := Try.checked }
namespace Rows
def none {H : Type} : Left H := { results := [], args := [] }

/-- 'laws.FnFuel': WHATEVER THE INPUT: true; the input reads as it did. -/
def fnFuelSpec : ChangeSpec := { name := "fnFuel", fn := fun _ => fun
  | [d] => { results := [.lit (.bool true)], args := [d] }
  | _ => none }
def fnFuelRow : OpenClaim := { program := "ytlphfhibnbhkfaa", sum := "2457d75f4ffd693149e29b98fe3930fc3f3204dc0f91c1d159b9b3873179246b", func := "loop.example/g00059/laws.FnFuel", spec := "fnFuel", unfollowed := true, recurses := true, apart := false }
def FnFuelSaid : Prop := fnFuelRow.holds Try.pinned (OpenSpec.ofChange fnFuelSpec)

/-- ITS FALSE NEIGHBOUR: 'it returns false'. Refute it at one input. -/
def fnFuelWrong : ChangeSpec := { name := "fnFuel", fn := fun _ => fun
  | [d] => { results := [.lit (.bool false)], args := [d] }
  | _ => none }
def FnFuelWrongFalsely : Prop := fnFuelRow.holds Try.pinned (OpenSpec.ofChange fnFuelWrong)

/-- 'laws.FnRested': WHATEVER THE INPUT: true; the input reads as it did. -/
def fnRestedSpec : ChangeSpec := { name := "fnRested", fn := fun _ => fun
  | [d] => { results := [.lit (.bool true)], args := [d] }
  | _ => none }
def fnRestedRow : OpenClaim := { program := "ytlphfhibnbhkfaa", sum := "2457d75f4ffd693149e29b98fe3930fc3f3204dc0f91c1d159b9b3873179246b", func := "loop.example/g00059/laws.FnRested", spec := "fnRested", unfollowed := true, recurses := true, apart := false }
def FnRestedSaid : Prop := fnRestedRow.holds Try.pinned (OpenSpec.ofChange fnRestedSpec)

/-- ITS FALSE NEIGHBOUR: 'it returns false'. Refute it at one input. -/
def fnRestedWrong : ChangeSpec := { name := "fnRested", fn := fun _ => fun
  | [d] => { results := [.lit (.bool false)], args := [d] }
  | _ => none }
def FnRestedWrongFalsely : Prop := fnRestedRow.holds Try.pinned (OpenSpec.ofChange fnRestedWrong)

/-- 'laws.FnExactPumped': WHATEVER THE INPUT: true; the input reads as it did. -/
def fnExactPumpedSpec : ChangeSpec := { name := "fnExactPumped", fn := fun _ => fun
  | [d1, d2] => { results := [.lit (.bool true)], args := [d1, d2] }
  | _ => none }
def fnExactPumpedRow : OpenClaim := { program := "ytlphfhibnbhkfaa", sum := "2457d75f4ffd693149e29b98fe3930fc3f3204dc0f91c1d159b9b3873179246b", func := "loop.example/g00059/laws.FnExactPumped", spec := "fnExactPumped", unfollowed := true, recurses := true, apart := false }
def FnExactPumpedSaid : Prop := fnExactPumpedRow.holds Try.pinned (OpenSpec.ofChange fnExactPumpedSpec)

/-- ITS FALSE NEIGHBOUR: 'it returns false'. Refute it at one input. -/
def fnExactPumpedWrong : ChangeSpec := { name := "fnExactPumped", fn := fun _ => fun
  | [d1, d2] => { results := [.lit (.bool false)], args := [d1, d2] }
  | _ => none }
def FnExactPumpedWrongFalsely : Prop := fnExactPumpedRow.holds Try.pinned (OpenSpec.ofChange fnExactPumpedWrong)

/-- 'laws.FnCargo': WHATEVER THE INPUT: true; the input reads as it did. -/
def fnCargoSpec : ChangeSpec := { name := "fnCargo", fn := fun _ => fun
  | [d] => { results := [.lit (.bool true)], args := [d] }
  | _ => none }
def fnCargoRow : OpenClaim := { program := "ytlphfhibnbhkfaa", sum := "2457d75f4ffd693149e29b98fe3930fc3f3204dc0f91c1d159b9b3873179246b", func := "loop.example/g00059/laws.FnCargo", spec := "fnCargo", unfollowed := true, recurses := true, apart := false }
def FnCargoSaid : Prop := fnCargoRow.holds Try.pinned (OpenSpec.ofChange fnCargoSpec)

/-- ITS FALSE NEIGHBOUR: 'it returns false'. Refute it at one input. -/
def fnCargoWrong : ChangeSpec := { name := "fnCargo", fn := fun _ => fun
  | [d] => { results := [.lit (.bool false)], args := [d] }
  | _ => none }
def FnCargoWrongFalsely : Prop := fnCargoRow.holds Try.pinned (OpenSpec.ofChange fnCargoWrong)

/-- 'laws.FnYard': WHATEVER THE INPUT: true; the input reads as it did. -/
def fnYardSpec : ChangeSpec := { name := "fnYard", fn := fun _ => fun
  | [d] => { results := [.lit (.bool true)], args := [d] }
  | _ => none }
def fnYardRow : OpenClaim := { program := "ytlphfhibnbhkfaa", sum := "2457d75f4ffd693149e29b98fe3930fc3f3204dc0f91c1d159b9b3873179246b", func := "loop.example/g00059/laws.FnYard", spec := "fnYard", apart := false }
def FnYardSaid : Prop := fnYardRow.holds Try.pinned (OpenSpec.ofChange fnYardSpec)

/-- ITS FALSE NEIGHBOUR: 'it returns false'. Refute it at one input. -/
def fnYardWrong : ChangeSpec := { name := "fnYard", fn := fun _ => fun
  | [d] => { results := [.lit (.bool false)], args := [d] }
  | _ => none }
def FnYardWrongFalsely : Prop := fnYardRow.holds Try.pinned (OpenSpec.ofChange fnYardWrong)

/-- 'laws.FnRing': WHATEVER THE INPUT: true; the input reads as it did. -/
def fnRingSpec : ChangeSpec := { name := "fnRing", fn := fun _ => fun
  | [d] => { results := [.lit (.bool true)], args := [d] }
  | _ => none }
def fnRingRow : OpenClaim := { program := "ytlphfhibnbhkfaa", sum := "2457d75f4ffd693149e29b98fe3930fc3f3204dc0f91c1d159b9b3873179246b", func := "loop.example/g00059/laws.FnRing", spec := "fnRing", unfollowed := true, recurses := true, apart := false }
def FnRingSaid : Prop := fnRingRow.holds Try.pinned (OpenSpec.ofChange fnRingSpec)

/-- ITS FALSE NEIGHBOUR: 'it returns false'. Refute it at one input. -/
def fnRingWrong : ChangeSpec := { name := "fnRing", fn := fun _ => fun
  | [d] => { results := [.lit (.bool false)], args := [d] }
  | _ => none }
def FnRingWrongFalsely : Prop := fnRingRow.holds Try.pinned (OpenSpec.ofChange fnRingWrong)

/- THE SECOND FORM. 'bulk': how many values and letters a reading holds, each counted each time it is reached (what is shared counts as often as it is met; a slice's spare places count too). A statement '..UptoSaid' is the law's where the arguments, and the package variables that the reading takes, are together of bulk at most 1048576: NARROWER than '..Said'. Prove '..Said' where nothing that the law and all that it calls make is longer than what came in: it says more and counts as full. Else prove '..UptoSaid'. A law counts once. -/
mutual
def uptoBulk {H : Type} : DataW H → Nat
  | .lit (.string bytes) => bytes.length + 1
  | .lit _ => 1
  | .nil => 1
  | .ptr d => uptoBulk d + 1
  | .slice elems spare => uptoBulkAll elems + uptoBulkAll spare + 1
  | .agg parts => uptoBulkAll parts + 1
  | .iface _ d => uptoBulk d + 1
  | .map entries => uptoBulkEntries entries + 1
  | .held _ => 1
def uptoBulkAll {H : Type} : List (DataW H) → Nat
  | [] => 0
  | d :: r => uptoBulk d + uptoBulkAll r
def uptoBulkEntries {H : Type} : List (Lit × DataW H) → Nat
  | [] => 0
  | x :: r => uptoBulkEntry x + uptoBulkEntries r
def uptoBulkEntry {H : Type} : Lit × DataW H → Nat
  | (.string bytes, d) => bytes.length + uptoBulk d + 1
  | (_, d) => uptoBulk d + 1
 end
def uptoSmall : (H : Type) → List (DataW H) → Bool := fun _ ds => decide (uptoBulkAll ds ≤ 1048576)
def OpenSpec.upto (s : _root_.Go.ChangeSpec) : _root_.Go.OpenSpec := { _root_.Go.OpenSpec.ofChange s with cond := some uptoSmall }

/-- 'laws.FnFuel', WHERE WHAT IT READS IS OF BULK AT MOST 1048576: true; the input reads as it did. -/
def fnFuelUptoRow : OpenClaim := { program := "ytlphfhibnbhkfaa", sum := "2457d75f4ffd693149e29b98fe3930fc3f3204dc0f91c1d159b9b3873179246b", func := "loop.example/g00059/laws.FnFuel", spec := "fnFuel", unfollowed := true, recurses := true, apart := false, narrowed := true }
def FnFuelUptoSaid : Prop := fnFuelUptoRow.holds Try.pinned (OpenSpec.upto fnFuelSpec)

/-- 'laws.FnRested', WHERE WHAT IT READS IS OF BULK AT MOST 1048576: true; the input reads as it did. -/
def fnRestedUptoRow : OpenClaim := { program := "ytlphfhibnbhkfaa", sum := "2457d75f4ffd693149e29b98fe3930fc3f3204dc0f91c1d159b9b3873179246b", func := "loop.example/g00059/laws.FnRested", spec := "fnRested", unfollowed := true, recurses := true, apart := false, narrowed := true }
def FnRestedUptoSaid : Prop := fnRestedUptoRow.holds Try.pinned (OpenSpec.upto fnRestedSpec)

/-- 'laws.FnExactPumped', WHERE WHAT IT READS IS OF BULK AT MOST 1048576: true; the input reads as it did. -/
def fnExactPumpedUptoRow : OpenClaim := { program := "ytlphfhibnbhkfaa", sum := "2457d75f4ffd693149e29b98fe3930fc3f3204dc0f91c1d159b9b3873179246b", func := "loop.example/g00059/laws.FnExactPumped", spec := "fnExactPumped", unfollowed := true, recurses := true, apart := false, narrowed := true }
def FnExactPumpedUptoSaid : Prop := fnExactPumpedUptoRow.holds Try.pinned (OpenSpec.upto fnExactPumpedSpec)

/-- 'laws.FnCargo', WHERE WHAT IT READS IS OF BULK AT MOST 1048576: true; the input reads as it did. -/
def fnCargoUptoRow : OpenClaim := { program := "ytlphfhibnbhkfaa", sum := "2457d75f4ffd693149e29b98fe3930fc3f3204dc0f91c1d159b9b3873179246b", func := "loop.example/g00059/laws.FnCargo", spec := "fnCargo", unfollowed := true, recurses := true, apart := false, narrowed := true }
def FnCargoUptoSaid : Prop := fnCargoUptoRow.holds Try.pinned (OpenSpec.upto fnCargoSpec)

/-- 'laws.FnYard', WHERE WHAT IT READS IS OF BULK AT MOST 1048576: true; the input reads as it did. -/
def fnYardUptoRow : OpenClaim := { program := "ytlphfhibnbhkfaa", sum := "2457d75f4ffd693149e29b98fe3930fc3f3204dc0f91c1d159b9b3873179246b", func := "loop.example/g00059/laws.FnYard", spec := "fnYard", apart := false, narrowed := true }
def FnYardUptoSaid : Prop := fnYardUptoRow.holds Try.pinned (OpenSpec.upto fnYardSpec)

/-- 'laws.FnRing', WHERE WHAT IT READS IS OF BULK AT MOST 1048576: true; the input reads as it did. -/
def fnRingUptoRow : OpenClaim := { program := "ytlphfhibnbhkfaa", sum := "2457d75f4ffd693149e29b98fe3930fc3f3204dc0f91c1d159b9b3873179246b", func := "loop.example/g00059/laws.FnRing", spec := "fnRing", unfollowed := true, recurses := true, apart := false, narrowed := true }
def FnRingUptoSaid : Prop := fnRingUptoRow.holds Try.pinned (OpenSpec.upto fnRingSpec)

end Rows
end Go.Proofs.Ytlphfhibnbhkfaa
