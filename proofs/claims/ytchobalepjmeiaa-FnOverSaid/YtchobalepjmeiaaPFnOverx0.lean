/- The Lean side of Go functions of this seat: what each answers, and that its run comes to that answer; written by a program of this work. -/
import Derived.Test.YtchobalepjmeiaaProg
import Derived.Below
import Derived.Deep.Draws
import Derived.Deep.AppendLies
import Derived.Maps.AppendAt
import Derived.OwnWalk
import Derived.Laws.BytesArg
import Derived.Laws.MakeOwn
import Derived.Laws.OwnMore
import Derived.Deep.OwnRows
import Derived.Tactics
import Derived.Lib.ConvBytes
import Derived.Laws.Slices
import Derived.WalkKit
import Derived.KernelRfl
import Derived.RowKit3
import Derived.Deep.LoopGhost
import Derived.Deep.QuietTactic
import Derived.BigQuiet
import Derived.WideLaws
import Derived.Deep.DeepCutAuto
import Derived.Deep.CutBlock
import Derived.Deep.RegionHeld3
import Derived.Laws.Rows
import Derived.Lib.AppendStr
import Derived.ArgAppend
import Derived.Laws.IdiomCopy
import Derived.OrdersHeld
import Derived.Laws.BitsLemmas
import Derived.RowKit
import Derived.Laws.Cover2
import Derived.Laws.FloatArith
import Derived.Test.YtchobalepjmeiaaWXtra
import Derived.Test.YtchobalepjmeiaaWWords
import Derived.Test.YtchobalepjmeiaaWLast
import Derived.Test.YtchobalepjmeiaaWTab
import Derived.Test.YtchobalepjmeiaaWFour
import Derived.Test.YtchobalepjmeiaaWQPut
import Derived.Test.YtchobalepjmeiaaWApart
import Derived.Test.YtchobalepjmeiaaWArr
import Derived.Test.YtchobalepjmeiaaWZeros
import Derived.Test.YtchobalepjmeiaaWFoot
import Derived.Test.YtchobalepjmeiaaWKept
import Derived.Test.YtchobalepjmeiaaWShare
import Derived.Test.YtchobalepjmeiaaWN
import Derived.Test.YtchobalepjmeiaaWFootNe
import Derived.Test.YtchobalepjmeiaaWAt
import Derived.Test.YtchobalepjmeiaaWEqStruct
import Derived.Test.YtchobalepjmeiaaWRepsOne
import Derived.Test.YtchobalepjmeiaaWInv
import Derived.Test.YtchobalepjmeiaaWInvWords
import Derived.Test.YtchobalepjmeiaaWGuard
import Derived.Test.YtchobalepjmeiaaWNEv
import Derived.Test.YtchobalepjmeiaaWMore
namespace Go.Proofs.Ytchobalepjmeiaa.PFnOver
open Go.RowKit Go.Proofs.YtchobalepjmeiaaW.PrintWords Go.Proofs.YtchobalepjmeiaaW.PrintLast Go.Proofs.YtchobalepjmeiaaW.PrintMore
attribute [local go_sem] run_store_float un_neg_float_ max2_int min2_int max_two min_two max_three min_three max_four min_four   -- for this text's walks alone
set_option linter.unusedVariables false
set_option linter.unusedSimpArgs false



def errW : Option Int → Value
  | none => .nilIface
  | some c => .iface 0 (.int .i64 c)
theorem errW_none : errW none = .nilIface := rfl
theorem errW_some (c : Int) : errW (some c) = .iface 0 (.int .i64 c) := rfl

theorem info26 : (Try.prog.info? 26).map (fun i => (i.zero, i.size, i.bytes)) = some (some (.float .f64 0), 1, 8) := by kernel_rfl
theorem info28 : (Try.prog.info? 28).map (fun i => (i.zero, i.size, i.bytes)) = some (some (.agg #[(.float .f64 0), (.float .f64 0)]), 2, 16) := by kernel_rfl
-- the values' own types
/-! #### struct type 28 -/
structure S28 where
  f0 : Nat
  f1 : Nat
def z28 : S28 := ⟨(0 : Nat), (0 : Nat)⟩
def k28 : Kd S28 := Kd.iso (Kd.pair Kd.flt Kd.flt) (fun x : S28 => (x.f0, x.f1))
theorem k28_open {w : World} {x : S28} {cs : List Value} (h : k28.K w x cs) : cs = [.float .f64 x.f0, .float .f64 x.f1] := by
  obtain ⟨_, _, rfl, rfl, rfl⟩ := h
  exact rfl
theorem k28_openM {w : World} {base : Nat} {ok : Nat → Prop} {x : S28} {cs : List Value} (h : k28.M w base ok x cs) : cs = [.float .f64 x.f0, .float .f64 x.f1] := by
  obtain ⟨_, _, rfl, rfl, rfl⟩ := h
  exact rfl
theorem k28_mk (w : World) (x : S28)  : k28.K w x [.float .f64 x.f0, .float .f64 x.f1] := ⟨[.float .f64 x.f0], [.float .f64 x.f1], rfl, rfl, rfl⟩
theorem k28_mkM (w : World) (base : Nat) (ok : Nat → Prop) (x : S28)  : k28.M w base ok x [.float .f64 x.f0, .float .f64 x.f1] := ⟨[.float .f64 x.f0], [.float .f64 x.f1], rfl, rfl, rfl⟩
def rd_T28 (xs : List S28) (i : Int) : S28 := xs.getD i.toNat z28
theorem at_T28 {w : World} {A : Option Addr} {n : Nat} {xs : List S28} (h : Kd.C k28 w A n xs) (i : Int) (h0 : 0 ≤ i) (h1 : i < n) : ∃ ad , A = some ad ∧ w.cell? (ad.add (i.toNat * 2)) = some (.float .f64 (rd_T28 xs i).f0) ∧ w.cell? ⟨(ad.add (i.toNat * 2)).block, (ad.add (i.toNat * 2)).off + 1, none⟩ = some (.float .f64 (rd_T28 xs i).f1) := by
  obtain ⟨ad, c, e, _, hK, hc0⟩ := Kd.C_get h z28 i h0 h1
  have hc : ∀ j u, c[j]? = some u → w.cell? (ad.add (i.toNat * 2 + j)) = some u := hc0
  obtain rfl := k28_open hK
  exact ⟨ad, e, hc 0 _ rfl, by rw [← add_field _ _ 1 (by omega)]; exact hc 1 _ rfl⟩

end Go.Proofs.Ytchobalepjmeiaa.PFnOver
