/- The Lean side of Go functions of this seat: what each answers, and that its run comes to that answer; written by a program of this work. -/
import Derived.Test.YtmglilikmbbidaaRows
import Derived.Test.YtmglilikmbbidaaPFnExactTake21x6
import Derived.Test.YtmglilikmbbidaaPureFnExactTake21
import Derived.Test.YtmglilikmbbidaaWXRead
import Derived.WalkKit
import Derived.ProofKit
import Derived.OpenShut
import Derived.ShutString
import Derived.ChangeOld
import Derived.Below
import Derived.SizedLaws
namespace Go.Proofs.Ytmglilikmbbidaa.fnExactTake21
open Go.ChangeShapes Go.WideShapes Go.ChangeAt Go.RowKit Go.Proofs.Ytmglilikmbbidaa.PFnExactTake21 Go.Proofs.YtmglilikmbbidaaW.PrintWords
open Go.ChangeMaps (open_string shut_string)
set_option linter.unusedVariables false
set_option linter.unusedSimpArgs false
theorem own : ownKnob Try.prog.godebug = none := by kernel_rfl
theorem laidOut : laidOutB Try.prog = true := by kernel_rfl
set_option maxRecDepth 100000 in
theorem lifted (os : Os) (started : os.Started) (H : Type) (enc : TypeId × Value → H) :
    ReturnsInHanded {} Try.checked os 6 .any (Rows.fnExactTake21Spec.pre6 enc Try.prog Try.f6 Rows.fnExactTake21Row.domain false) (Rows.fnExactTake21Spec.post enc Try.prog Try.f6 false true false false) := by
  refine returnsInHanded_of_change_sized (C := Try.checked) own started (by kernel_rfl) Try.func6
    (ChangeSpec.witness6 (enc := enc) (C := Try.checked) false ⟨#[], #[(.agg #[(.slice none 0 0), (.int .i64 0), (.slice none 0 0)]), .int .i64 0, (.agg #[(.int .i64 0), (.int .i64 0), (.int .i64 0), (.string ⟨#[]⟩)])], []⟩ 8 (by kernel_rfl) (by kernel_rfl) (by kernel_rfl) (by kernel_rfl)) ?_
  intro W base args ds gs before hval0 hW hcnd hsz0 _
  have hval : ∀ (j : Nat) t v, Try.f6.params[j]? = some t → args[j]? = some v → Value.okWide Try.prog W .any base t v := hval0
  have hW' := hW
  obtain ⟨p, q, hA0, hV, rfl, hfz, hnd⟩ := hW
  have hA : DataW.TrodAll enc Try.prog W 0 (fun _ => true) true Try.f6.params.toList args.toList ds p := hA0
  rw [Try.params6] at hA hval
  obtain ⟨v0, vs0, d0, ds0, p0, q0, hargs, rfl, rfl, h0, r0⟩ := trodAll_cons hA
  obtain ⟨v1, vs1, d1, ds1, p1, q1, rfl, rfl, rfl, h1, r1⟩ := trodAll_cons r0
  obtain ⟨v2, vs2, d2, ds2, p2, q2, rfl, rfl, rfl, h2, r2⟩ := trodAll_cons r1
  obtain ⟨rfl, rfl, rfl⟩ := trodAll_nil r2
  obtain rfl : args = #[v0, v1, v2] := by cases args; simp_all
  obtain ⟨rfl, rfl⟩ := trodVars_none hV
  obtain ⟨cs0, rfl, _⟩ := okWide_struct Try.underlying42 (hval 0 42 v0 rfl rfl)
  have k0_ := h0
  have lt0 : ∀ x ∈ p0, x.block < W.heap.size := by obtain ⟨m, hm⟩ := k0_; exact DataW.trod_lt m _ _ _ hm
  obtain ⟨fu0, hf0⟩ := h0
  obtain ⟨⟨l0_0, ⟨a0_1, l0_2⟩⟩, ⟨_, _, e0, ⟨A0_0, c0_0, rfl, hc0_0, hr0_0⟩, ⟨_, _, rfl, rfl, ⟨A0_2, c0_2, rfl, hc0_2, hr0_2⟩⟩⟩, ⟨o0_0, ⟨o0_1, o0_2⟩⟩⟩ := (Kd.reads_struct Try.underlying42 (by kernel_rfl) (Kd.readsF_cons (Kd.reads_slice Try.underlying24 (by kernel_rfl) (Kd.reads_string Try.underlying9)) rfl (by kernel_rfl) (Kd.readsF_cons (Kd.reads_int .i64 Try.underlying3) rfl (by kernel_rfl) (Kd.readsF_one (Kd.reads_slice Try.underlying24 (by kernel_rfl) (Kd.reads_string Try.underlying9)) rfl (by kernel_rfl))))) _ _ _ _ _ _ _ _ _ hf0
  obtain rfl : cs0 = #[.slice A0_0 l0_0.length c0_0, .int .i64 a0_1, .slice A0_2 l0_2.length c0_2] := by cases cs0; simpa [Value.cells] using e0
  obtain ⟨a1, rfl, rfl, rfl, w1⟩ := open_int Try.underlying3 (hval 1 3 v1 rfl rfl) h1
  obtain ⟨cs2, rfl, _⟩ := okWide_struct Try.underlying50 (hval 2 50 v2 rfl rfl)
  have k2_ := h2
  have lt2 : ∀ x ∈ p2, x.block < W.heap.size := by obtain ⟨m, hm⟩ := k2_; exact DataW.trod_lt m _ _ _ hm
  obtain ⟨fu2, hf2⟩ := h2
  obtain ⟨⟨a2_0, ⟨a2_1, ⟨a2_2, a2_3⟩⟩⟩, ⟨_, _, e2, rfl, ⟨_, _, rfl, rfl, ⟨_, _, rfl, rfl, rfl⟩⟩⟩, ⟨o2_0, ⟨o2_1, ⟨o2_2, o2_3⟩⟩⟩⟩ := (Kd.reads_struct Try.underlying50 (by kernel_rfl) (Kd.readsF_cons (Kd.reads_int .i64 Try.underlying3) rfl (by kernel_rfl) (Kd.readsF_cons (Kd.reads_int .i64 Try.underlying3) rfl (by kernel_rfl) (Kd.readsF_cons (Kd.reads_int .i64 Try.underlying3) rfl (by kernel_rfl) (Kd.readsF_one (Kd.reads_string Try.underlying9) rfl (by kernel_rfl)))))) _ _ _ _ _ _ _ _ _ hf2
  obtain rfl : cs2 = #[.int .i64 a2_0, .int .i64 a2_1, .int .i64 a2_2, .string a2_3] := by cases cs2; simpa [Value.cells] using e2
  clear hA0 hval0 hsz0
  obtain ⟨k_, hp_⟩ := Pure.FnExactTake21 l0_0 a0_1 l0_2 a1 a2_0 a2_1 a2_2 a2_3 o0_0 o0_1 o0_2 w1 o2_0 o2_1 o2_2 o2_3
  refine (laws_FnExactTake21.calls k_ _ _ l0_0 a0_1 _ _ l0_2 a1 a2_0 a2_1 a2_2 a2_3 true W hr0_0 hc0_0 hr0_2 hc0_2 hp_).mono fun e W' ⟨he, bel0⟩ => ?_
  have bel : Below W.heap.size W W' := bel0
  subst he
  exact ⟨_, rfl, _, _, _, [], _, [], hW', trodAll_mk1 (shut_bool Try.underlying4 _), (trodAll_cons_mk (Below.trod laidOut (by kernel_rfl) (of_decide_eq_true (by kernel_rfl)) k0_ bel lt0) (trodAll_cons_mk (shut_int Try.underlying3 w1) (trodAll_cons_mk (Below.trod laidOut (by kernel_rfl) (of_decide_eq_true (by kernel_rfl)) k2_ bel lt2) trodAll_mk0))), rfl, bel.frame _, fun h => by cases h⟩
theorem over : Rows.fnExactTake21Row.holds Try.pinned (OpenSpec.ofChange Rows.fnExactTake21Spec) :=
  OpenClaim.holds_of_wide 6 Try.f6 rfl rfl rfl rfl rfl rfl rfl ⟨rfl, rfl, rfl, rfl, rfl⟩ rfl rfl rfl rfl rfl (by kernel_rfl) Try.func6 (by kernel_rfl)
    (of_decide_eq_true (by kernel_rfl)) (by unfold Func.isWrapper; first | (rw [if_pos (by decide +kernel)]; kernel_rfl) | (rw [if_neg (by decide +kernel)]; exact ⟨rfl, rfl⟩))
    (fun os started H enc _ => lifted os started H enc)
theorem proved : Rows.FnExactTake21Said := over
#print axioms proved
end Go.Proofs.Ytmglilikmbbidaa.fnExactTake21
namespace Go.Proofs.Ytmglilikmbbidaa
/-- The row, under a short name, for the claim. -/
theorem fnExactTake21_holds : Rows.FnExactTake21Said := fnExactTake21.proved
end Go.Proofs.Ytmglilikmbbidaa
