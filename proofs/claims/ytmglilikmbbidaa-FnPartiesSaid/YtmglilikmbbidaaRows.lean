/-
  No cell of these rows narrows 'for every input' (looked for: loops, veiled, ifaces, maps, wideKeys, modest, calm, conditions, laid).
  DERIVED. THE GIVEN ROWS OF THIS SEAT. 5 by the template 'for every input the law returns true; each argument reads behind the call as it read before'; 0 by the template 'total and deterministic' (their statements: YtmglilikmbbidaaTotals.lean).
  GIVEN WITH THE SEED: the statements are not yours to turn. If you find one false, say at which input.
  Laid BY PROGRAM, IN A SANDBOX (cutbox-rows.mjs): the forced cells as the released guide's own fill.sh prints them over the translation 4864114eafaf995b… (all of the seat's roots in one cut). By AI agents, Wed Nov 11 2026. No macro, syntax, notation, axiom, sorry.
-/
import Derived.Test.YtmglilikmbbidaaChecked
import GoSem.Claim
import GoSem.ClaimJoined
import GoSem.ClaimMapViews
import Derived.JoinedTies
import Derived.KernelRfl
namespace Go.Proofs.Ytmglilikmbbidaa
/- THE CELL 'sum', in the pinned program and in every row, IS THE sha256 OF THE DUMP (.gsa) THAT YtmglilikmbbidaaProg.lean LOADS. Nothing in Lean hashes anything: it is a label: what it is worth is what the hold of that sum in a sandbox is worth. -/
noncomputable def Try.pinned : Pinned := { name := "ytmglilikmbbidaa", sum := "4864114eafaf995b41e6c170f3c7135a0a0bf37dd7cc09c348b78386e177faf0", checked := Try.checked }
namespace Rows
def none {H : Type} : Left H := { results := [], args := [] }

/-- 'laws.FnParties': WHATEVER THE INPUT: true; the input reads as it did. -/
def fnPartiesSpec : ChangeSpec := { name := "fnParties", fn := fun _ => fun
  | [d] => { results := [.lit (.bool true)], args := [d] }
  | _ => none }
def fnPartiesRow : OpenClaim := { program := "ytmglilikmbbidaa", sum := "4864114eafaf995b41e6c170f3c7135a0a0bf37dd7cc09c348b78386e177faf0", func := "loop.example/g00059/laws.FnParties", spec := "fnParties", unfollowed := true, recurses := true, apart := false }
def FnPartiesSaid : Prop := fnPartiesRow.holds Try.pinned (OpenSpec.ofChange fnPartiesSpec)

/-- ITS FALSE NEIGHBOUR: 'it returns false'. Refute it at one input. -/
def fnPartiesWrong : ChangeSpec := { name := "fnParties", fn := fun _ => fun
  | [d] => { results := [.lit (.bool false)], args := [d] }
  | _ => none }
def FnPartiesWrongFalsely : Prop := fnPartiesRow.holds Try.pinned (OpenSpec.ofChange fnPartiesWrong)

/-- 'laws.FnExactPartyOk': WHATEVER THE INPUT: true; the input reads as it did. -/
def fnExactPartyOkSpec : ChangeSpec := { name := "fnExactPartyOk", fn := fun _ => fun
  | [d] => { results := [.lit (.bool true)], args := [d] }
  | _ => none }
def fnExactPartyOkRow : OpenClaim := { program := "ytmglilikmbbidaa", sum := "4864114eafaf995b41e6c170f3c7135a0a0bf37dd7cc09c348b78386e177faf0", func := "loop.example/g00059/laws.FnExactPartyOk", spec := "fnExactPartyOk", unfollowed := true, recurses := true, apart := false }
def FnExactPartyOkSaid : Prop := fnExactPartyOkRow.holds Try.pinned (OpenSpec.ofChange fnExactPartyOkSpec)

/-- ITS FALSE NEIGHBOUR: 'it returns false'. Refute it at one input. -/
def fnExactPartyOkWrong : ChangeSpec := { name := "fnExactPartyOk", fn := fun _ => fun
  | [d] => { results := [.lit (.bool false)], args := [d] }
  | _ => none }
def FnExactPartyOkWrongFalsely : Prop := fnExactPartyOkRow.holds Try.pinned (OpenSpec.ofChange fnExactPartyOkWrong)

/-- 'laws.FnExactSend21': WHATEVER THE INPUT: true; the input reads as it did. -/
def fnExactSend21Spec : ChangeSpec := { name := "fnExactSend21", fn := fun _ => fun
  | [d1, d2, d3] => { results := [.lit (.bool true)], args := [d1, d2, d3] }
  | _ => none }
def fnExactSend21Row : OpenClaim := { program := "ytmglilikmbbidaa", sum := "4864114eafaf995b41e6c170f3c7135a0a0bf37dd7cc09c348b78386e177faf0", func := "loop.example/g00059/laws.FnExactSend21", spec := "fnExactSend21", unfollowed := true, recurses := true, apart := false }
def FnExactSend21Said : Prop := fnExactSend21Row.holds Try.pinned (OpenSpec.ofChange fnExactSend21Spec)

/-- ITS FALSE NEIGHBOUR: 'it returns false'. Refute it at one input. -/
def fnExactSend21Wrong : ChangeSpec := { name := "fnExactSend21", fn := fun _ => fun
  | [d1, d2, d3] => { results := [.lit (.bool false)], args := [d1, d2, d3] }
  | _ => none }
def FnExactSend21WrongFalsely : Prop := fnExactSend21Row.holds Try.pinned (OpenSpec.ofChange fnExactSend21Wrong)

/-- 'laws.FnExactTake21': WHATEVER THE INPUT: true; the input reads as it did. -/
def fnExactTake21Spec : ChangeSpec := { name := "fnExactTake21", fn := fun _ => fun
  | [d1, d2, d3] => { results := [.lit (.bool true)], args := [d1, d2, d3] }
  | _ => none }
def fnExactTake21Row : OpenClaim := { program := "ytmglilikmbbidaa", sum := "4864114eafaf995b41e6c170f3c7135a0a0bf37dd7cc09c348b78386e177faf0", func := "loop.example/g00059/laws.FnExactTake21", spec := "fnExactTake21", unfollowed := true, recurses := true, apart := false }
def FnExactTake21Said : Prop := fnExactTake21Row.holds Try.pinned (OpenSpec.ofChange fnExactTake21Spec)

/-- ITS FALSE NEIGHBOUR: 'it returns false'. Refute it at one input. -/
def fnExactTake21Wrong : ChangeSpec := { name := "fnExactTake21", fn := fun _ => fun
  | [d1, d2, d3] => { results := [.lit (.bool false)], args := [d1, d2, d3] }
  | _ => none }
def FnExactTake21WrongFalsely : Prop := fnExactTake21Row.holds Try.pinned (OpenSpec.ofChange fnExactTake21Wrong)

/-- 'laws.FnExactAgain21': WHATEVER THE INPUT: true; the input reads as it did. -/
def fnExactAgain21Spec : ChangeSpec := { name := "fnExactAgain21", fn := fun _ => fun
  | [d1, d2] => { results := [.lit (.bool true)], args := [d1, d2] }
  | _ => none }
def fnExactAgain21Row : OpenClaim := { program := "ytmglilikmbbidaa", sum := "4864114eafaf995b41e6c170f3c7135a0a0bf37dd7cc09c348b78386e177faf0", func := "loop.example/g00059/laws.FnExactAgain21", spec := "fnExactAgain21", unfollowed := true, recurses := true, apart := false }
def FnExactAgain21Said : Prop := fnExactAgain21Row.holds Try.pinned (OpenSpec.ofChange fnExactAgain21Spec)

/-- ITS FALSE NEIGHBOUR: 'it returns false'. Refute it at one input. -/
def fnExactAgain21Wrong : ChangeSpec := { name := "fnExactAgain21", fn := fun _ => fun
  | [d1, d2] => { results := [.lit (.bool false)], args := [d1, d2] }
  | _ => none }
def FnExactAgain21WrongFalsely : Prop := fnExactAgain21Row.holds Try.pinned (OpenSpec.ofChange fnExactAgain21Wrong)

/- THE SECOND FORM. 'bulk': how many values and letters a reading holds, each counted each time it is reached (what is shared counts as often as it is met; a slice's spare places count too). A statement '..UptoSaid' is the law's where the arguments, and the package variables that the reading takes, are together of bulk at most 1048576: NARROWER than '..Said'. Prove '..Said' where nothing that the law and all that it calls make is longer than what came in: it says more and counts as full. Else prove '..UptoSaid'. A law counts once. -/
mutual
def uptoBulk {H : Type} : DataW H → Nat
  | .lit (.string bytes) => bytes.length + 1
  | .lit _ => 1
  | .nil => 1
  | .ptr d => uptoBulk d + 1
  | .slice elems spare => uptoBulkAll elems + uptoBulkAll spare + 1
  | .agg parts => uptoBulkAll parts + 1
  | .iface _ d => uptoBulk d + 1
  | .map entries => uptoBulkEntries entries + 1
  | .held _ => 1
def uptoBulkAll {H : Type} : List (DataW H) → Nat
  | [] => 0
  | d :: r => uptoBulk d + uptoBulkAll r
def uptoBulkEntries {H : Type} : List (Lit × DataW H) → Nat
  | [] => 0
  | x :: r => uptoBulkEntry x + uptoBulkEntries r
def uptoBulkEntry {H : Type} : Lit × DataW H → Nat
  | (.string bytes, d) => bytes.length + uptoBulk d + 1
  | (_, d) => uptoBulk d + 1
 end
def uptoSmall : (H : Type) → List (DataW H) → Bool := fun _ ds => decide (uptoBulkAll ds ≤ 1048576)
def OpenSpec.upto (s : _root_.Go.ChangeSpec) : _root_.Go.OpenSpec := { _root_.Go.OpenSpec.ofChange s with cond := some uptoSmall }

/-- 'laws.FnParties', WHERE WHAT IT READS IS OF BULK AT MOST 1048576: true; the input reads as it did. -/
def fnPartiesUptoRow : OpenClaim := { program := "ytmglilikmbbidaa", sum := "4864114eafaf995b41e6c170f3c7135a0a0bf37dd7cc09c348b78386e177faf0", func := "loop.example/g00059/laws.FnParties", spec := "fnParties", unfollowed := true, recurses := true, apart := false, narrowed := true }
def FnPartiesUptoSaid : Prop := fnPartiesUptoRow.holds Try.pinned (OpenSpec.upto fnPartiesSpec)

/-- 'laws.FnExactPartyOk', WHERE WHAT IT READS IS OF BULK AT MOST 1048576: true; the input reads as it did. -/
def fnExactPartyOkUptoRow : OpenClaim := { program := "ytmglilikmbbidaa", sum := "4864114eafaf995b41e6c170f3c7135a0a0bf37dd7cc09c348b78386e177faf0", func := "loop.example/g00059/laws.FnExactPartyOk", spec := "fnExactPartyOk", unfollowed := true, recurses := true, apart := false, narrowed := true }
def FnExactPartyOkUptoSaid : Prop := fnExactPartyOkUptoRow.holds Try.pinned (OpenSpec.upto fnExactPartyOkSpec)

/-- 'laws.FnExactSend21', WHERE WHAT IT READS IS OF BULK AT MOST 1048576: true; the input reads as it did. -/
def fnExactSend21UptoRow : OpenClaim := { program := "ytmglilikmbbidaa", sum := "4864114eafaf995b41e6c170f3c7135a0a0bf37dd7cc09c348b78386e177faf0", func := "loop.example/g00059/laws.FnExactSend21", spec := "fnExactSend21", unfollowed := true, recurses := true, apart := false, narrowed := true }
def FnExactSend21UptoSaid : Prop := fnExactSend21UptoRow.holds Try.pinned (OpenSpec.upto fnExactSend21Spec)

/-- 'laws.FnExactTake21', WHERE WHAT IT READS IS OF BULK AT MOST 1048576: true; the input reads as it did. -/
def fnExactTake21UptoRow : OpenClaim := { program := "ytmglilikmbbidaa", sum := "4864114eafaf995b41e6c170f3c7135a0a0bf37dd7cc09c348b78386e177faf0", func := "loop.example/g00059/laws.FnExactTake21", spec := "fnExactTake21", unfollowed := true, recurses := true, apart := false, narrowed := true }
def FnExactTake21UptoSaid : Prop := fnExactTake21UptoRow.holds Try.pinned (OpenSpec.upto fnExactTake21Spec)

/-- 'laws.FnExactAgain21', WHERE WHAT IT READS IS OF BULK AT MOST 1048576: true; the input reads as it did. -/
def fnExactAgain21UptoRow : OpenClaim := { program := "ytmglilikmbbidaa", sum := "4864114eafaf995b41e6c170f3c7135a0a0bf37dd7cc09c348b78386e177faf0", func := "loop.example/g00059/laws.FnExactAgain21", spec := "fnExactAgain21", unfollowed := true, recurses := true, apart := false, narrowed := true }
def FnExactAgain21UptoSaid : Prop := fnExactAgain21UptoRow.holds Try.pinned (OpenSpec.upto fnExactAgain21Spec)

end Rows
end Go.Proofs.Ytmglilikmbbidaa
