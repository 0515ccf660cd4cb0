/- The Lean side of Go functions of this seat: what each answers, and that its run comes to that answer; written by a program of this work. -/
import Derived.Test.YtpepdjghajphlaaRows
import Derived.Test.YtpepdjghajphlaaPFnExactLaidx11
import Derived.Test.YtpepdjghajphlaaPureFnExactLaid
import Derived.Test.YtpepdjghajphlaaVLaidWXRead
import Derived.WalkKit
import Derived.ProofKit
import Derived.OpenShut
import Derived.ShutString
import Derived.ChangeOld
import Derived.Below
import Derived.SizedLaws
namespace Go.Proofs.Ytpepdjghajphlaa.fnExactLaid
open Go.ChangeShapes Go.WideShapes Go.ChangeAt Go.RowKit Go.Proofs.Ytpepdjghajphlaa.PFnExactLaid Go.Proofs.YtpepdjghajphlaaW.PrintWords
open Go.ChangeMaps (open_string shut_string)
set_option linter.unusedVariables false
set_option linter.unusedSimpArgs false
theorem own : ownKnob Try.prog.godebug = none := by kernel_rfl
theorem laidOut : laidOutB Try.prog = true := by kernel_rfl
theorem rdsT67 : Kd.Reads Try.prog k67 67 okT67 := Kd.reads_mono (Kd.reads_iso (fun x : S67 => (x.f0, x.f1)) (fun p => ⟨p.1, p.2⟩) (fun _ => rfl) (Kd.reads_struct Try.underlying67 (by kernel_rfl) (Kd.readsF_cons (Kd.reads_int .i64 Try.underlying3) rfl (by kernel_rfl) (Kd.readsF_one (Kd.reads_int .i64 Try.underlying3) rfl (by kernel_rfl))))) (fun _ h => h)
set_option maxRecDepth 100000 in
theorem lifted (os : Os) (started : os.Started) (H : Type) (enc : TypeId × Value → H) :
    ReturnsInHanded {} Try.checked os 6 .any (Rows.fnExactLaidSpec.pre6 enc Try.prog Try.f6 Rows.fnExactLaidRow.domain false) (Rows.fnExactLaidSpec.post enc Try.prog Try.f6 false true false false) := by
  refine returnsInHanded_of_change_sized (C := Try.checked) own started (by kernel_rfl) Try.func6
    (ChangeSpec.witness6 (enc := enc) (C := Try.checked) false ⟨#[], #[(.agg #[(.int .i64 0), (.int .i64 0), (.int .i64 0), (.int .i64 0)]), .slice none 0 0, .slice none 0 0], []⟩ 8 (by kernel_rfl) (by kernel_rfl) (by kernel_rfl) (by kernel_rfl)) ?_
  intro W base args ds gs before hval0 hW hcnd hsz0 _
  have hval : ∀ (j : Nat) t v, Try.f6.params[j]? = some t → args[j]? = some v → Value.okWide Try.prog W .any base t v := hval0
  have hW' := hW
  obtain ⟨p, q, hA0, hV, rfl, hfz, hnd⟩ := hW
  have hA : DataW.TrodAll enc Try.prog W 0 (fun _ => true) true Try.f6.params.toList args.toList ds p := hA0
  rw [Try.params6] at hA hval
  obtain ⟨v0, vs0, d0, ds0, p0, q0, hargs, rfl, rfl, h0, r0⟩ := trodAll_cons hA
  obtain ⟨v1, vs1, d1, ds1, p1, q1, rfl, rfl, rfl, h1, r1⟩ := trodAll_cons r0
  obtain ⟨v2, vs2, d2, ds2, p2, q2, rfl, rfl, rfl, h2, r2⟩ := trodAll_cons r1
  obtain ⟨rfl, rfl, rfl⟩ := trodAll_nil r2
  obtain rfl : args = #[v0, v1, v2] := by cases args; simp_all
  obtain ⟨rfl, rfl⟩ := trodVars_none hV
  obtain ⟨cs0, rfl, _⟩ := okWide_struct Try.underlying45 (hval 0 45 v0 rfl rfl)
  have k0_ := h0
  have lt0 : ∀ x ∈ p0, x.block < W.heap.size := by obtain ⟨m, hm⟩ := k0_; exact DataW.trod_lt m _ _ _ hm
  obtain ⟨fu0, hf0⟩ := h0
  obtain ⟨⟨a0_0, ⟨a0_1, ⟨a0_2, a0_3⟩⟩⟩, ⟨_, _, e0, rfl, ⟨_, _, rfl, rfl, ⟨_, _, rfl, rfl, rfl⟩⟩⟩, ⟨o0_0, ⟨o0_1, ⟨o0_2, o0_3⟩⟩⟩⟩ := (Kd.reads_struct Try.underlying45 (by kernel_rfl) (Kd.readsF_cons (Kd.reads_int .i64 Try.underlying3) rfl (by kernel_rfl) (Kd.readsF_cons (Kd.reads_int .i64 Try.underlying3) rfl (by kernel_rfl) (Kd.readsF_cons (Kd.reads_int .i64 Try.underlying3) rfl (by kernel_rfl) (Kd.readsF_one (Kd.reads_int .i64 Try.underlying3) rfl (by kernel_rfl)))))) _ _ _ _ _ _ _ _ _ hf0
  obtain rfl : cs0 = #[.int .i64 a0_0, .int .i64 a0_1, .int .i64 a0_2, .int .i64 a0_3] := by cases cs0; simpa [Value.cells] using e0
  obtain ⟨a1, len1, cap1, rfl⟩ := okWide_slice Try.underlying46 (hval 1 46 v1 rfl rfl)
  have k1_ := h1
  have lt1 : ∀ x ∈ p1, x.block < W.heap.size := by obtain ⟨m, hm⟩ := k1_; exact DataW.trod_lt m _ _ _ hm
  obtain ⟨fu1, hf1⟩ := h1
  obtain ⟨l1, ⟨A1, c1, e1, hc1, hr1⟩, ok1⟩ := (Kd.reads_slice Try.underlying46 (by kernel_rfl) rdsT67) _ _ _ _ _ _ _ _ _ hf1
  simp [Value.cells] at e1
  obtain ⟨rfl, rfl, rfl⟩ := e1
  obtain ⟨a2, len2, cap2, rfl⟩ := okWide_slice Try.underlying46 (hval 2 46 v2 rfl rfl)
  have k2_ := h2
  have lt2 : ∀ x ∈ p2, x.block < W.heap.size := by obtain ⟨m, hm⟩ := k2_; exact DataW.trod_lt m _ _ _ hm
  obtain ⟨fu2, hf2⟩ := h2
  obtain ⟨l2, ⟨A2, c2, e2, hc2, hr2⟩, ok2⟩ := (Kd.reads_slice Try.underlying46 (by kernel_rfl) rdsT67) _ _ _ _ _ _ _ _ _ hf2
  simp [Value.cells] at e2
  obtain ⟨rfl, rfl, rfl⟩ := e2
  clear hA0 hval0 hsz0
  obtain ⟨k_, hp_⟩ := Pure.FnExactLaid a0_0 a0_1 a0_2 a0_3 l1 l2 o0_0 o0_1 o0_2 o0_3 ok1 ok2
  refine (laws_FnExactLaid.calls k_ a0_0 a0_1 a0_2 a0_3 _ _ l1 _ _ l2 true W hr1 hc1 hr2 hc2 hp_).mono fun e W' ⟨he, bel0⟩ => ?_
  have bel : Below W.heap.size W W' := bel0
  subst he
  exact ⟨_, rfl, _, _, _, [], _, [], hW', trodAll_mk1 (shut_bool Try.underlying4 _), (trodAll_cons_mk (Below.trod laidOut (by kernel_rfl) (of_decide_eq_true (by kernel_rfl)) k0_ bel lt0) (trodAll_cons_mk (Below.trod laidOut (by kernel_rfl) (of_decide_eq_true (by kernel_rfl)) k1_ bel lt1) (trodAll_cons_mk (Below.trod laidOut (by kernel_rfl) (of_decide_eq_true (by kernel_rfl)) k2_ bel lt2) trodAll_mk0))), rfl, bel.frame _, fun h => by cases h⟩
theorem over : Rows.fnExactLaidRow.holds Try.pinned (OpenSpec.ofChange Rows.fnExactLaidSpec) :=
  OpenClaim.holds_of_wide 6 Try.f6 rfl rfl rfl rfl rfl rfl rfl ⟨rfl, rfl, rfl, rfl, rfl⟩ rfl rfl rfl rfl rfl (by kernel_rfl) Try.func6 (by kernel_rfl)
    (of_decide_eq_true (by kernel_rfl)) (by unfold Func.isWrapper; first | (rw [if_pos (by decide +kernel)]; kernel_rfl) | (rw [if_neg (by decide +kernel)]; exact ⟨rfl, rfl⟩))
    (fun os started H enc _ => lifted os started H enc)
theorem proved : Rows.FnExactLaidSaid := over
#print axioms proved
end Go.Proofs.Ytpepdjghajphlaa.fnExactLaid
namespace Go.Proofs.Ytpepdjghajphlaa
/-- The row, under a short name, for the claim. -/
theorem fnExactLaid_holds : Rows.FnExactLaidSaid := fnExactLaid.proved
end Go.Proofs.Ytpepdjghajphlaa
