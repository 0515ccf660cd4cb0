/-
  No cell of these rows narrows 'for every input' (looked for: loops, veiled, ifaces, maps, wideKeys, modest, calm, conditions, laid).
  DERIVED. THE GIVEN ROWS OF THIS SEAT. 6 by the template 'for every input the law returns true; each argument reads behind the call as it read before'; 0 by the template 'total and deterministic' (their statements: YtpkhhoecfpjnjaaTotals.lean).
  GIVEN WITH THE SEED: the statements are not yours to turn. If you find one false, say at which input.
  Laid BY PROGRAM, IN A SANDBOX (cutbox-rows.mjs): the forced cells as the released guide's own fill.sh prints them over the translation 8bc4ad0ceda0d85b… (all of the seat's roots in one cut). By AI agents, Wed Nov 11 2026. No macro, syntax, notation, axiom, sorry.
-/
import Derived.Test.YtpkhhoecfpjnjaaChecked
import GoSem.Claim
import GoSem.ClaimJoined
import GoSem.ClaimMapViews
import Derived.JoinedTies
import Derived.KernelRfl
namespace Go.Proofs.Ytpkhhoecfpjnjaa
/- THE CELL 'sum', in the pinned program and in every row, IS THE sha256 OF THE DUMP (.gsa) THAT YtpkhhoecfpjnjaaProg.lean LOADS. Nothing in Lean hashes anything: it is a label: what it is worth is what the hold of that sum in a sandbox is worth. -/
noncomputable def Try.pinned : Pinned := { name := "ytpkhhoecfpjnjaa", sum := "8bc4ad0ceda0d85b166dd27d1bef823a229c76190978476a6a61afd15ffe29e4", checked := Try.checked }
namespace Rows
def none {H : Type} : Left H := { results := [], args := [] }

/-- 'laws.FnOrigin': WHATEVER THE INPUT: true; the input reads as it did. -/
def fnOriginSpec : ChangeSpec := { name := "fnOrigin", fn := fun _ => fun
  | [d] => { results := [.lit (.bool true)], args := [d] }
  | _ => none }
def fnOriginRow : OpenClaim := { program := "ytpkhhoecfpjnjaa", sum := "8bc4ad0ceda0d85b166dd27d1bef823a229c76190978476a6a61afd15ffe29e4", func := "loop.example/g00059/laws.FnOrigin", spec := "fnOrigin", apart := false }
def FnOriginSaid : Prop := fnOriginRow.holds Try.pinned (OpenSpec.ofChange fnOriginSpec)

/-- ITS FALSE NEIGHBOUR: 'it returns false'. Refute it at one input. -/
def fnOriginWrong : ChangeSpec := { name := "fnOrigin", fn := fun _ => fun
  | [d] => { results := [.lit (.bool false)], args := [d] }
  | _ => none }
def FnOriginWrongFalsely : Prop := fnOriginRow.holds Try.pinned (OpenSpec.ofChange fnOriginWrong)

/-- 'laws.FnBurn': WHATEVER THE INPUT: true; the input reads as it did. -/
def fnBurnSpec : ChangeSpec := { name := "fnBurn", fn := fun _ => fun
  | [d] => { results := [.lit (.bool true)], args := [d] }
  | _ => none }
def fnBurnRow : OpenClaim := { program := "ytpkhhoecfpjnjaa", sum := "8bc4ad0ceda0d85b166dd27d1bef823a229c76190978476a6a61afd15ffe29e4", func := "loop.example/g00059/laws.FnBurn", spec := "fnBurn", unfollowed := true, recurses := true, apart := false }
def FnBurnSaid : Prop := fnBurnRow.holds Try.pinned (OpenSpec.ofChange fnBurnSpec)

/-- ITS FALSE NEIGHBOUR: 'it returns false'. Refute it at one input. -/
def fnBurnWrong : ChangeSpec := { name := "fnBurn", fn := fun _ => fun
  | [d] => { results := [.lit (.bool false)], args := [d] }
  | _ => none }
def FnBurnWrongFalsely : Prop := fnBurnRow.holds Try.pinned (OpenSpec.ofChange fnBurnWrong)

/-- 'laws.FnUllage': WHATEVER THE INPUT: true; the input reads as it did. -/
def fnUllageSpec : ChangeSpec := { name := "fnUllage", fn := fun _ => fun
  | [d] => { results := [.lit (.bool true)], args := [d] }
  | _ => none }
def fnUllageRow : OpenClaim := { program := "ytpkhhoecfpjnjaa", sum := "8bc4ad0ceda0d85b166dd27d1bef823a229c76190978476a6a61afd15ffe29e4", func := "loop.example/g00059/laws.FnUllage", spec := "fnUllage", unfollowed := true, recurses := true, apart := false }
def FnUllageSaid : Prop := fnUllageRow.holds Try.pinned (OpenSpec.ofChange fnUllageSpec)

/-- ITS FALSE NEIGHBOUR: 'it returns false'. Refute it at one input. -/
def fnUllageWrong : ChangeSpec := { name := "fnUllage", fn := fun _ => fun
  | [d] => { results := [.lit (.bool false)], args := [d] }
  | _ => none }
def FnUllageWrongFalsely : Prop := fnUllageRow.holds Try.pinned (OpenSpec.ofChange fnUllageWrong)

/-- 'laws.FnExactPlan': WHATEVER THE INPUT: true; the input reads as it did. -/
def fnExactPlanSpec : ChangeSpec := { name := "fnExactPlan", fn := fun _ => fun
  | [d1, d2] => { results := [.lit (.bool true)], args := [d1, d2] }
  | _ => none }
def fnExactPlanRow : OpenClaim := { program := "ytpkhhoecfpjnjaa", sum := "8bc4ad0ceda0d85b166dd27d1bef823a229c76190978476a6a61afd15ffe29e4", func := "loop.example/g00059/laws.FnExactPlan", spec := "fnExactPlan", apart := false }
def FnExactPlanSaid : Prop := fnExactPlanRow.holds Try.pinned (OpenSpec.ofChange fnExactPlanSpec)

/-- ITS FALSE NEIGHBOUR: 'it returns false'. Refute it at one input. -/
def fnExactPlanWrong : ChangeSpec := { name := "fnExactPlan", fn := fun _ => fun
  | [d1, d2] => { results := [.lit (.bool false)], args := [d1, d2] }
  | _ => none }
def FnExactPlanWrongFalsely : Prop := fnExactPlanRow.holds Try.pinned (OpenSpec.ofChange fnExactPlanWrong)

/-- 'laws.FnShaped': WHATEVER THE INPUT: true; the input reads as it did. -/
def fnShapedSpec : ChangeSpec := { name := "fnShaped", fn := fun _ => fun
  | [d] => { results := [.lit (.bool true)], args := [d] }
  | _ => none }
def fnShapedRow : OpenClaim := { program := "ytpkhhoecfpjnjaa", sum := "8bc4ad0ceda0d85b166dd27d1bef823a229c76190978476a6a61afd15ffe29e4", func := "loop.example/g00059/laws.FnShaped", spec := "fnShaped", unfollowed := true, recurses := true, apart := false }
def FnShapedSaid : Prop := fnShapedRow.holds Try.pinned (OpenSpec.ofChange fnShapedSpec)

/-- ITS FALSE NEIGHBOUR: 'it returns false'. Refute it at one input. -/
def fnShapedWrong : ChangeSpec := { name := "fnShaped", fn := fun _ => fun
  | [d] => { results := [.lit (.bool false)], args := [d] }
  | _ => none }
def FnShapedWrongFalsely : Prop := fnShapedRow.holds Try.pinned (OpenSpec.ofChange fnShapedWrong)

/-- 'laws.FnHoists': WHATEVER THE INPUT: true; the input reads as it did. -/
def fnHoistsSpec : ChangeSpec := { name := "fnHoists", fn := fun _ => fun
  | [d] => { results := [.lit (.bool true)], args := [d] }
  | _ => none }
def fnHoistsRow : OpenClaim := { program := "ytpkhhoecfpjnjaa", sum := "8bc4ad0ceda0d85b166dd27d1bef823a229c76190978476a6a61afd15ffe29e4", func := "loop.example/g00059/laws.FnHoists", spec := "fnHoists", apart := false }
def FnHoistsSaid : Prop := fnHoistsRow.holds Try.pinned (OpenSpec.ofChange fnHoistsSpec)

/-- ITS FALSE NEIGHBOUR: 'it returns false'. Refute it at one input. -/
def fnHoistsWrong : ChangeSpec := { name := "fnHoists", fn := fun _ => fun
  | [d] => { results := [.lit (.bool false)], args := [d] }
  | _ => none }
def FnHoistsWrongFalsely : Prop := fnHoistsRow.holds Try.pinned (OpenSpec.ofChange fnHoistsWrong)

/- THE SECOND FORM. 'bulk': how many values and letters a reading holds, each counted each time it is reached (what is shared counts as often as it is met; a slice's spare places count too). A statement '..UptoSaid' is the law's where the arguments, and the package variables that the reading takes, are together of bulk at most 1048576: NARROWER than '..Said'. Prove '..Said' where nothing that the law and all that it calls make is longer than what came in: it says more and counts as full. Else prove '..UptoSaid'. A law counts once. -/
mutual
def uptoBulk {H : Type} : DataW H → Nat
  | .lit (.string bytes) => bytes.length + 1
  | .lit _ => 1
  | .nil => 1
  | .ptr d => uptoBulk d + 1
  | .slice elems spare => uptoBulkAll elems + uptoBulkAll spare + 1
  | .agg parts => uptoBulkAll parts + 1
  | .iface _ d => uptoBulk d + 1
  | .map entries => uptoBulkEntries entries + 1
  | .held _ => 1
def uptoBulkAll {H : Type} : List (DataW H) → Nat
  | [] => 0
  | d :: r => uptoBulk d + uptoBulkAll r
def uptoBulkEntries {H : Type} : List (Lit × DataW H) → Nat
  | [] => 0
  | x :: r => uptoBulkEntry x + uptoBulkEntries r
def uptoBulkEntry {H : Type} : Lit × DataW H → Nat
  | (.string bytes, d) => bytes.length + uptoBulk d + 1
  | (_, d) => uptoBulk d + 1
 end
def uptoSmall : (H : Type) → List (DataW H) → Bool := fun _ ds => decide (uptoBulkAll ds ≤ 1048576)
def OpenSpec.upto (s : _root_.Go.ChangeSpec) : _root_.Go.OpenSpec := { _root_.Go.OpenSpec.ofChange s with cond := some uptoSmall }

/-- 'laws.FnOrigin', WHERE WHAT IT READS IS OF BULK AT MOST 1048576: true; the input reads as it did. -/
def fnOriginUptoRow : OpenClaim := { program := "ytpkhhoecfpjnjaa", sum := "8bc4ad0ceda0d85b166dd27d1bef823a229c76190978476a6a61afd15ffe29e4", func := "loop.example/g00059/laws.FnOrigin", spec := "fnOrigin", apart := false, narrowed := true }
def FnOriginUptoSaid : Prop := fnOriginUptoRow.holds Try.pinned (OpenSpec.upto fnOriginSpec)

/-- 'laws.FnBurn', WHERE WHAT IT READS IS OF BULK AT MOST 1048576: true; the input reads as it did. -/
def fnBurnUptoRow : OpenClaim := { program := "ytpkhhoecfpjnjaa", sum := "8bc4ad0ceda0d85b166dd27d1bef823a229c76190978476a6a61afd15ffe29e4", func := "loop.example/g00059/laws.FnBurn", spec := "fnBurn", unfollowed := true, recurses := true, apart := false, narrowed := true }
def FnBurnUptoSaid : Prop := fnBurnUptoRow.holds Try.pinned (OpenSpec.upto fnBurnSpec)

/-- 'laws.FnUllage', WHERE WHAT IT READS IS OF BULK AT MOST 1048576: true; the input reads as it did. -/
def fnUllageUptoRow : OpenClaim := { program := "ytpkhhoecfpjnjaa", sum := "8bc4ad0ceda0d85b166dd27d1bef823a229c76190978476a6a61afd15ffe29e4", func := "loop.example/g00059/laws.FnUllage", spec := "fnUllage", unfollowed := true, recurses := true, apart := false, narrowed := true }
def FnUllageUptoSaid : Prop := fnUllageUptoRow.holds Try.pinned (OpenSpec.upto fnUllageSpec)

/-- 'laws.FnExactPlan', WHERE WHAT IT READS IS OF BULK AT MOST 1048576: true; the input reads as it did. -/
def fnExactPlanUptoRow : OpenClaim := { program := "ytpkhhoecfpjnjaa", sum := "8bc4ad0ceda0d85b166dd27d1bef823a229c76190978476a6a61afd15ffe29e4", func := "loop.example/g00059/laws.FnExactPlan", spec := "fnExactPlan", apart := false, narrowed := true }
def FnExactPlanUptoSaid : Prop := fnExactPlanUptoRow.holds Try.pinned (OpenSpec.upto fnExactPlanSpec)

/-- 'laws.FnShaped', WHERE WHAT IT READS IS OF BULK AT MOST 1048576: true; the input reads as it did. -/
def fnShapedUptoRow : OpenClaim := { program := "ytpkhhoecfpjnjaa", sum := "8bc4ad0ceda0d85b166dd27d1bef823a229c76190978476a6a61afd15ffe29e4", func := "loop.example/g00059/laws.FnShaped", spec := "fnShaped", unfollowed := true, recurses := true, apart := false, narrowed := true }
def FnShapedUptoSaid : Prop := fnShapedUptoRow.holds Try.pinned (OpenSpec.upto fnShapedSpec)

/-- 'laws.FnHoists', WHERE WHAT IT READS IS OF BULK AT MOST 1048576: true; the input reads as it did. -/
def fnHoistsUptoRow : OpenClaim := { program := "ytpkhhoecfpjnjaa", sum := "8bc4ad0ceda0d85b166dd27d1bef823a229c76190978476a6a61afd15ffe29e4", func := "loop.example/g00059/laws.FnHoists", spec := "fnHoists", apart := false, narrowed := true }
def FnHoistsUptoSaid : Prop := fnHoistsUptoRow.holds Try.pinned (OpenSpec.upto fnHoistsSpec)

end Rows
end Go.Proofs.Ytpkhhoecfpjnjaa
