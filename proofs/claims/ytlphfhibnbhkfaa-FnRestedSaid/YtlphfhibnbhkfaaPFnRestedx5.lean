/- The Lean side of Go functions of this seat: what each answers, and that its run comes to that answer; written by a program of this work. -/
import Derived.Test.YtlphfhibnbhkfaaPFnRestedx0
import Derived.Test.YtlphfhibnbhkfaaPFnRestedx1
import Derived.Test.YtlphfhibnbhkfaaPFnRestedx2
import Derived.Test.YtlphfhibnbhkfaaPFnRestedx3
import Derived.Test.YtlphfhibnbhkfaaPFnRestedx4
namespace Go.Proofs.Ytlphfhibnbhkfaa.PFnRested
open Go.RowKit Go.Proofs.YtlphfhibnbhkfaaW.PrintWords Go.Proofs.YtlphfhibnbhkfaaW.PrintLast Go.Proofs.YtlphfhibnbhkfaaW.PrintMore
attribute [local go_sem] max2_int min2_int max_two min_two max_three min_three max_four min_four   -- for this text's walks alone
set_option linter.unusedVariables false
set_option linter.unusedSimpArgs false

/-! ### laws_FnRested: function 4 -/
def laws_FnRested.l0 : Nat → List Int → List (S43) → Int → Int → Option (Bool)
 | 0, _, _, _, _ => none
 | k + 1, x0, x3, x5, x6 => if x6 < (x3.length : Int) then (if 0 ≤ x6 then (laws_FnRested.l0 k x0 x3 (wrap64 ((wrap64 (x5 + ((rd_T43 x3 x6).f1))) - ((rd_T43 x3 x6).f0))) (wrap64 (x6 + 1))) else (none)) else ((impl_WorkIn.f k x3 0 100000000).bind fun t212 => (if t212 = x5 then ((laws_at.f x0 2).bind fun t213 => ((impl_RestCode.f k x3 (wrap64 (1440 + (wrap64 (t213 * 12))))).bind fun bt214 => (if (x3.length : Int) = 0 then (if bt214.1 = 0 then (some (bt214.2 == (-1))) else (some false)) else (if 0 ≤ (wrap64 ((x3.length : Int) - 1)) then (if (wrap64 ((x3.length : Int) - 1)) < (x3.length : Int) then (if ((rd_T43 x3 (wrap64 ((x3.length : Int) - 1))).f1) > 30000 then (some (bt214.1 == 1)) else ((laws_at.f x0 3).bind fun t217 => ((some (([] : List (S43)) : List (S43))).bind fun y218 => (if 0 ≤ (Int.tmod t217 (x3.length : Int)) then (if (Int.tmod t217 (x3.length : Int)) ≤ (x3.length : Int) then ((some (x3.take ((Int.tmod t217 (x3.length : Int)) : Int).toNat : List (S43))).bind fun y221 => (if y218.length + y221.length < 8796093022208 then ((some (y218 ++ y221 : List (S43))).bind fun y225 => (if 0 ≤ (wrap64 ((Int.tmod t217 (x3.length : Int)) + 1)) then (if (wrap64 ((Int.tmod t217 (x3.length : Int)) + 1)) ≤ (x3.length : Int) then ((some (x3.drop ((wrap64 ((Int.tmod t217 (x3.length : Int)) + 1)) : Int).toNat : List (S43))).bind fun y228 => (if y225.length + y228.length < 8796093022208 then ((impl_RestCode.f k (y225 ++ y228) (wrap64 (1440 + (wrap64 (t213 * 12))))).bind fun bt235 => (if bt214.1 = 0 then (if bt235.1 = 0 then (if bt235.2 = (-1) then (some (bt214.2 == (-1))) else (some false)) else (some false)) else (if bt214.2 ≥ 1440 then (if bt214.2 ≤ (wrap64 (1440 + (wrap64 (t213 * 12)))) then (if bt235.1 = 0 then (some true) else (some (decide (bt235.2 ≥ bt214.2)))) else (some false)) else (some false)))) else (none))) else (none)) else (none))) else (none))) else (none)) else (none))))) else (none)) else (none))))) else (some false)))
def laws_FnRested.f (k : Nat) (l0 : List Int) : Option (Bool) := (laws_big.f l0).bind fun t201 => (if t201 = true then (some true) else ((spec_DrawSpells.f k l0).bind fun t202 => ((impl_SpellsOk.f k t202).bind fun t205 => (if t205 = true then ((laws_at.f l0 1).bind fun t206 => ((impl_WorkIn.f k t202 0 (wrap64 (200 + (wrap64 (t206 * 20))))).bind fun t207 => ((impl_WorkIn.f k t202 (wrap64 (200 + (wrap64 (t206 * 20)))) 20000).bind fun t208 => ((impl_WorkIn.f k t202 0 20000).bind fun t209 => (if (wrap64 (t207 + t208)) = t209 then (laws_FnRested.l0 k l0 t202 0 0) else (some false)))))) else (some false)))))
theorem laws_FnRested.mono_l : ∀ k, (∀ y0 y1 y2 y3, LeO (laws_FnRested.l0 k y0 y1 y2 y3) (laws_FnRested.l0 (k + 1) y0 y1 y2 y3))
 | 0 => fun _ _ _ _ r h => by simp [laws_FnRested.l0] at h
 | k + 1 => by
  have ih0 := laws_FnRested.mono_l k
  ·intro y0 y1 y2 y3
   unfold laws_FnRested.l0
   repeat' first
   | (with_reducible exact ih0 _ _ _ _)
   | (with_reducible exact impl_RestCode.mono _ _ _)
   | (with_reducible exact impl_SpellsOk.mono _ _)
   | (with_reducible exact impl_WorkIn.mono _ _ _ _)
   | (with_reducible exact spec_DrawSpells.mono _ _)
   | (with_reducible exact LeO.refl _)
   | (with_reducible exact LeO.none _)
   | (with_reducible refine LeO.ite ?_ ?_)
   | (with_reducible refine LeO.bind ?_ (fun _ => ?_))
   | exact ih0 _ _ _ _
   | exact impl_RestCode.mono _ _ _
   | exact impl_SpellsOk.mono _ _
   | exact impl_WorkIn.mono _ _ _ _
   | exact spec_DrawSpells.mono _ _
   | exact LeO.none _
   | refine LeO.ite ?_ ?_
   | refine LeO.bind ?_ (fun _ => ?_)
theorem laws_FnRested.mono : ∀ a0 k, LeO (laws_FnRested.f k a0) (laws_FnRested.f (k + 1) a0) := by
 intro a0 k
 have ih0 := laws_FnRested.mono_l k
 unfold laws_FnRested.f
 repeat' first
   | (with_reducible exact ih0 _ _ _ _)
   | (with_reducible exact impl_RestCode.mono _ _ _)
   | (with_reducible exact impl_SpellsOk.mono _ _)
   | (with_reducible exact impl_WorkIn.mono _ _ _ _)
   | (with_reducible exact spec_DrawSpells.mono _ _)
   | (with_reducible exact LeO.refl _)
   | (with_reducible exact LeO.none _)
   | (with_reducible refine LeO.ite ?_ ?_)
   | (with_reducible refine LeO.bind ?_ (fun _ => ?_))
   | exact ih0 _ _ _ _
   | exact impl_RestCode.mono _ _ _
   | exact impl_SpellsOk.mono _ _
   | exact impl_WorkIn.mono _ _ _ _
   | exact spec_DrawSpells.mono _ _
   | exact LeO.none _
   | refine LeO.ite ?_ ?_
   | refine LeO.bind ?_ (fun _ => ?_)
def laws_FnRested.T13 : Bool × List (List Nat × List Nat) := (true, [([], []), ([], []), ([], []), ([1, 2], [1, 2]), ([3], [3]), ([4], [4]), ([0, 5], [0, 5]), ([], []), ([], []), ([7, 8], [7, 8]), ([9], [9]), ([10], [10]), ([6, 11], [6, 11]), ([12, 0, 1, 2, 3, 4, 5, 6, 7, 8, 9, 10, 11, 12], [0, 12])])
def laws_FnRested.B13 : List Nat := [0, 0, 0, 6, 14, 30, 63, 0, 0, 384, 896, 1920, 4095, 8191]
theorem laws_FnRested.tab13 : rtab .any (opsOf Try.f4 13) = laws_FnRested.T13 := by kernel_rfl
theorem laws_FnRested.bits13 : waitsOk laws_FnRested.T13.2 laws_FnRested.B13 = true := by kernel_rfl
def laws_FnRested.T23 : Bool × List (List Nat × List Nat) := (true, [([], []), ([], []), ([], []), ([1, 2], [1, 2]), ([0, 3], [0, 3]), ([], []), ([], []), ([6], [6]), ([5, 7], [5, 7]), ([4, 8, 4], [4, 8]), ([9, 9, 0, 1, 2, 3, 4, 5, 6, 7, 8, 9], [9])])
def laws_FnRested.B23 : List Nat := [0, 0, 0, 6, 15, 0, 0, 64, 224, 511, 1023]
theorem laws_FnRested.tab23 : rtab .any (opsOf Try.f4 23) = laws_FnRested.T23 := by kernel_rfl
theorem laws_FnRested.bits23 : waitsOk laws_FnRested.T23.2 laws_FnRested.B23 = true := by kernel_rfl
set_option maxHeartbeats 8000000 in
set_option maxRecDepth 100000 in
theorem laws_FnRested.calls (k : Nat) (A0 : Option Addr) (c0 : Nat) (l0 : List Int) (r : Bool) (w : World) (hr0 : Kd.C (Kd.int .u8) w A0 l0.length l0) (hc0 : l0.length ≤ c0) (h : laws_FnRested.f k l0 = some r) :
  Calls Try.prog 4 #[.slice A0 l0.length c0] w fun e w' => e = .returned (.bool r) ∧ Below w.heap.size w w' := by
 have HR0 := Aside0.mk hr0
 have HC0 := Aside0.mk hc0
 clear hr0 hc0
 have HB := Aside0.mk (Below.refl w.heap.size w)
 have H : ((laws_big.f l0).bind fun t201 => (if t201 = true then (some true) else ((spec_DrawSpells.f k l0).bind fun t202 => ((impl_SpellsOk.f k t202).bind fun t205 => (if t205 = true then ((laws_at.f l0 1).bind fun t206 => ((impl_WorkIn.f k t202 0 (wrap64 (200 + (wrap64 (t206 * 20))))).bind fun t207 => ((impl_WorkIn.f k t202 (wrap64 (200 + (wrap64 (t206 * 20)))) 20000).bind fun t208 => ((impl_WorkIn.f k t202 0 20000).bind fun t209 => (if (wrap64 (t207 + t208)) = t209 then (laws_FnRested.l0 k l0 t202 0 0) else (some false)))))) else (some false)))))) = some r := h
 clear h
 replace H := Option.bind_eq_some_iff.mp H
 obtain ⟨t201, A20, H⟩ := H
 replace H : (if t201 = true then (some true) else ((spec_DrawSpells.f k l0).bind fun t202 => ((impl_SpellsOk.f k t202).bind fun t205 => (if t205 = true then ((laws_at.f l0 1).bind fun t206 => ((impl_WorkIn.f k t202 0 (wrap64 (200 + (wrap64 (t206 * 20))))).bind fun t207 => ((impl_WorkIn.f k t202 (wrap64 (200 + (wrap64 (t206 * 20)))) 20000).bind fun t208 => ((impl_WorkIn.f k t202 0 20000).bind fun t209 => (if (wrap64 (t207 + t208)) = t209 then (laws_FnRested.l0 k l0 t202 0 0) else (some false)))))) else (some false))))) = some r := H
 have A2 := Aside0.mk A20
 clear A20
 by_cases c3 : t201 = true
 ·subst c3
  have H1 : (some true) = some r := by rw [if_pos rfl] at H; exact H
  clear H
  have H := H1
  clear H1
  obtain rfl := Option.some.inj H
  go_enter Try.func4, Try.ntmps4
  go_wp2_with (first | ((with_reducible refine gate_callee (f := 9) rfl ?_); refine goesL_ (some 15) rfl rfl Try.func9 (by kernel_rfl) rfl #[.slice A0 l0.length c0] rfl (by (try simp only [List.map_toArray, List.map_cons, List.map_nil]); first | done | rfl | (simp only [List.length_drop, List.length_take]; rfl)) ?_; (with_reducible refine (laws_big.calls _ _ l0 true _ ?side1 ?side2 A2.out).mono ?_); (case side1 => repeat (first | exact HR0.out | (with_reducible refine Kd.C_alloc ?_ _) | (with_reducible refine Kd.C_drewN ?_ _) | (with_reducible refine Kd.C_drew ?_))); (case side2 => exact HC0.out); rintro e w' ⟨rfl, ⟨nd, rfl⟩⟩; refine ⟨_, rfl, ?_⟩))
  go_ret
  exact ⟨by first | rfl | (simp [errW_none, errW_some] <;> rfl) | (simp [*, errW_none, errW_some] <;> rfl), bel_ HB.out⟩
 ·replace c3 := Bool.eq_false_iff.mpr c3
  subst c3
  have H1 : ((spec_DrawSpells.f k l0).bind fun t202 => ((impl_SpellsOk.f k t202).bind fun t205 => (if t205 = true then ((laws_at.f l0 1).bind fun t206 => ((impl_WorkIn.f k t202 0 (wrap64 (200 + (wrap64 (t206 * 20))))).bind fun t207 => ((impl_WorkIn.f k t202 (wrap64 (200 + (wrap64 (t206 * 20)))) 20000).bind fun t208 => ((impl_WorkIn.f k t202 0 20000).bind fun t209 => (if (wrap64 (t207 + t208)) = t209 then (laws_FnRested.l0 k l0 t202 0 0) else (some false)))))) else (some false)))) = some r := by rw [if_neg (show ¬ (false = true) by decide)] at H; exact H
  clear H
  have H := H1
  clear H1
  replace H := Option.bind_eq_some_iff.mp H
  obtain ⟨t202, A40, H⟩ := H
  replace H : ((impl_SpellsOk.f k t202).bind fun t205 => (if t205 = true then ((laws_at.f l0 1).bind fun t206 => ((impl_WorkIn.f k t202 0 (wrap64 (200 + (wrap64 (t206 * 20))))).bind fun t207 => ((impl_WorkIn.f k t202 (wrap64 (200 + (wrap64 (t206 * 20)))) 20000).bind fun t208 => ((impl_WorkIn.f k t202 0 20000).bind fun t209 => (if (wrap64 (t207 + t208)) = t209 then (laws_FnRested.l0 k l0 t202 0 0) else (some false)))))) else (some false))) = some r := H
  have A4 := Aside0.mk A40
  clear A40
  replace H := Option.bind_eq_some_iff.mp H
  obtain ⟨t205, A50, H⟩ := H
  replace H : (if t205 = true then ((laws_at.f l0 1).bind fun t206 => ((impl_WorkIn.f k t202 0 (wrap64 (200 + (wrap64 (t206 * 20))))).bind fun t207 => ((impl_WorkIn.f k t202 (wrap64 (200 + (wrap64 (t206 * 20)))) 20000).bind fun t208 => ((impl_WorkIn.f k t202 0 20000).bind fun t209 => (if (wrap64 (t207 + t208)) = t209 then (laws_FnRested.l0 k l0 t202 0 0) else (some false)))))) else (some false)) = some r := H
  have A5 := Aside0.mk A50
  clear A50
  by_cases c6 : t205 = true
  ·subst c6
   have H1 : ((laws_at.f l0 1).bind fun t206 => ((impl_WorkIn.f k t202 0 (wrap64 (200 + (wrap64 (t206 * 20))))).bind fun t207 => ((impl_WorkIn.f k t202 (wrap64 (200 + (wrap64 (t206 * 20)))) 20000).bind fun t208 => ((impl_WorkIn.f k t202 0 20000).bind fun t209 => (if (wrap64 (t207 + t208)) = t209 then (laws_FnRested.l0 k l0 t202 0 0) else (some false)))))) = some r := by rw [if_pos rfl] at H; exact H
   clear H
   have H := H1
   clear H1
   replace H := Option.bind_eq_some_iff.mp H
   obtain ⟨t206, A70, H⟩ := H
   replace H : ((impl_WorkIn.f k t202 0 (wrap64 (200 + (wrap64 (t206 * 20))))).bind fun t207 => ((impl_WorkIn.f k t202 (wrap64 (200 + (wrap64 (t206 * 20)))) 20000).bind fun t208 => ((impl_WorkIn.f k t202 0 20000).bind fun t209 => (if (wrap64 (t207 + t208)) = t209 then (laws_FnRested.l0 k l0 t202 0 0) else (some false))))) = some r := H
   have A7 := Aside0.mk A70
   clear A70
   replace H := Option.bind_eq_some_iff.mp H
   obtain ⟨t207, A80, H⟩ := H
   replace H : ((impl_WorkIn.f k t202 (wrap64 (200 + (wrap64 (t206 * 20)))) 20000).bind fun t208 => ((impl_WorkIn.f k t202 0 20000).bind fun t209 => (if (wrap64 (t207 + t208)) = t209 then (laws_FnRested.l0 k l0 t202 0 0) else (some false)))) = some r := H
   have A8 := Aside0.mk A80
   clear A80
   replace H := Option.bind_eq_some_iff.mp H
   obtain ⟨t208, A90, H⟩ := H
   replace H : ((impl_WorkIn.f k t202 0 20000).bind fun t209 => (if (wrap64 (t207 + t208)) = t209 then (laws_FnRested.l0 k l0 t202 0 0) else (some false))) = some r := H
   have A9 := Aside0.mk A90
   clear A90
   replace H := Option.bind_eq_some_iff.mp H
   obtain ⟨t209, A100, H⟩ := H
   replace H : (if (wrap64 (t207 + t208)) = t209 then (laws_FnRested.l0 k l0 t202 0 0) else (some false)) = some r := H
   have A10 := Aside0.mk A100
   clear A100
   by_cases c11 : (wrap64 (t207 + t208)) = t209
   ·rw [if_pos c11] at H
    have c11b0 : ((wrap64 (t207 + t208)) == t209) = true := beq_iff_eq.mpr c11
    have c11b1 : ((wrap64 (t207 + t208)) != t209) = false := bne_eq_false_iff_eq.mpr c11
    clear c11
    have H' := Aside0.mk H
    clear H
    go_enter Try.func4, Try.ntmps4
    go_wp2_with (first | ((with_reducible refine gate_callee (f := 9) rfl ?_); refine goesL_ (some 15) rfl rfl Try.func9 (by kernel_rfl) rfl #[.slice A0 l0.length c0] rfl (by (try simp only [List.map_toArray, List.map_cons, List.map_nil]); first | done | rfl | (simp only [List.length_drop, List.length_take]; rfl)) ?_; (with_reducible refine (laws_big.calls _ _ l0 false _ ?side1 ?side2 A2.out).mono ?_); (case side1 => repeat (first | exact HR0.out | (with_reducible refine Kd.C_alloc ?_ _) | (with_reducible refine Kd.C_drewN ?_ _) | (with_reducible refine Kd.C_drew ?_))); (case side2 => exact HC0.out); rintro e w' ⟨rfl, ⟨nd, rfl⟩⟩; refine ⟨_, rfl, ?_⟩) | ((with_reducible refine gate_callee (f := 14) rfl ?_); refine goesL_ (some 17) rfl rfl Try.func14 (by kernel_rfl) rfl #[.slice A0 l0.length c0] rfl (by (try simp only [List.map_toArray, List.map_cons, List.map_nil]); first | done | rfl | (simp only [List.length_drop, List.length_take]; rfl)) ?_; (with_reducible refine (spec_DrawSpells.calls k _ _ l0 t202 _ ?side1 ?side2 A4.out).mono ?_); (case side1 => repeat (first | exact HR0.out | (with_reducible refine Kd.C_alloc ?_ _) | (with_reducible refine Kd.C_drewN ?_ _) | (with_reducible refine Kd.C_drew ?_))); (case side2 => exact HC0.out); rintro e w12 ⟨v203, rfl, ho0, hb⟩; refine ⟨_, rfl, ?_⟩; have n0_ := Aside0.mk (Kd.R_lower ho0 (below_size (bel_ HB.out))); have n1_ := Aside0.mk (below_step (bel_ HB.out) hb); clear HB; have HO204 := n0_; have HB := n1_; clear n0_ n1_; (try clear hb); (try clear hb2); (try clear hk); (try clear hi); (try clear ho0); obtain ⟨Ao13, co13, eo13⟩ := Kd.R_slice HO204.out; subst eo13) | ((with_reducible refine gate_callee (f := 15) rfl ?_); refine goesL_ (some 19) rfl rfl Try.func15 (by kernel_rfl) rfl #[.slice Ao13 t202.length co13] rfl (by (try simp only [List.map_toArray, List.map_cons, List.map_nil]); first | done | rfl | (simp only [List.length_drop, List.length_take]; rfl)) ?_; (with_reducible refine (impl_SpellsOk.calls k _ _ t202 true _ ?side1 ?side2 A5.out).mono ?_); (case side1 => repeat (first | exact (Kd.R_reads' HO204.out).2.2 | (with_reducible refine Kd.C_alloc ?_ _) | (with_reducible refine Kd.C_drewN ?_ _) | (with_reducible refine Kd.C_drew ?_))); (case side2 => exact (Kd.R_reads' HO204.out).2.1); rintro e w14 ⟨rfl, hb⟩; refine ⟨_, rfl, ?_⟩; have n0_ := Aside0.mk (Kd.R_below (fr_ HO204.out) hb); have n1_ := Aside0.mk (below_step (bel_ HB.out) hb); clear HO204; clear HB; have HO204 := n0_; have HB := n1_; clear n0_ n1_; (try clear hb); (try clear hb2); (try clear hk); (try clear hi)) | ((with_reducible refine gate_callee (f := 13) rfl ?_); refine goesL_ (some 22) rfl rfl Try.func13 (by kernel_rfl) rfl #[.slice A0 l0.length c0, .int .i64 1] rfl (by (try simp only [List.map_toArray, List.map_cons, List.map_nil]); first | done | rfl | (simp only [List.length_drop, List.length_take]; rfl)) ?_; (with_reducible refine (laws_at.calls _ _ l0 1 t206 _ ?side1 ?side2 A7.out).mono ?_); (case side1 => repeat (first | exact (Kd.C_below HR0.out HB.out) | (with_reducible refine Kd.C_alloc ?_ _) | (with_reducible refine Kd.C_drewN ?_ _) | (with_reducible refine Kd.C_drew ?_))); (case side2 => exact HC0.out); rintro e w' ⟨rfl, ⟨nd, rfl⟩⟩; refine ⟨_, rfl, ?_⟩) | ((with_reducible refine gate_callee (f := 16) rfl ?_); refine goesL_ (some 27) rfl rfl Try.func16 (by kernel_rfl) rfl #[.slice Ao13 t202.length co13, .int .i64 0, .int .i64 (wrap64 (200 + (wrap64 (t206 * 20))))] rfl (by (try simp only [List.map_toArray, List.map_cons, List.map_nil]); first | done | rfl | (simp only [List.length_drop, List.length_take]; rfl)) ?_; (with_reducible refine (impl_WorkIn.calls k _ _ t202 0 (wrap64 (200 + (wrap64 (t206 * 20)))) t207 _ ?side1 ?side2 A8.out).mono ?_); (case side1 => repeat (first | exact (Kd.R_reads' HO204.out).2.2 | (with_reducible refine Kd.C_alloc ?_ _) | (with_reducible refine Kd.C_drewN ?_ _) | (with_reducible refine Kd.C_drew ?_))); (case side2 => exact (Kd.R_reads' HO204.out).2.1); rintro e w15 ⟨rfl, hb⟩; refine ⟨_, rfl, ?_⟩; have n0_ := Aside0.mk (Kd.R_below (fr_ HO204.out) hb); have n1_ := Aside0.mk (below_step (bel_ HB.out) hb); clear HO204; clear HB; have HO204 := n0_; have HB := n1_; clear n0_ n1_; (try clear hb); (try clear hb2); (try clear hk); (try clear hi)) | ((with_reducible refine gate_callee (f := 16) rfl ?_); refine goesL_ (some 30) rfl rfl Try.func16 (by kernel_rfl) rfl #[.slice Ao13 t202.length co13, .int .i64 (wrap64 (200 + (wrap64 (t206 * 20)))), .int .i64 20000] rfl (by (try simp only [List.map_toArray, List.map_cons, List.map_nil]); first | done | rfl | (simp only [List.length_drop, List.length_take]; rfl)) ?_; (with_reducible refine (impl_WorkIn.calls k _ _ t202 (wrap64 (200 + (wrap64 (t206 * 20)))) 20000 t208 _ ?side1 ?side2 A9.out).mono ?_); (case side1 => repeat (first | exact (Kd.R_reads' HO204.out).2.2 | (with_reducible refine Kd.C_alloc ?_ _) | (with_reducible refine Kd.C_drewN ?_ _) | (with_reducible refine Kd.C_drew ?_))); (case side2 => exact (Kd.R_reads' HO204.out).2.1); rintro e w16 ⟨rfl, hb⟩; refine ⟨_, rfl, ?_⟩; have n0_ := Aside0.mk (Kd.R_below (fr_ HO204.out) hb); have n1_ := Aside0.mk (below_step (bel_ HB.out) hb); clear HO204; clear HB; have HO204 := n0_; have HB := n1_; clear n0_ n1_; (try clear hb); (try clear hb2); (try clear hk); (try clear hi)) | ((with_reducible refine gate_callee (f := 16) rfl ?_); refine goesL_ (some 33) rfl rfl Try.func16 (by kernel_rfl) rfl #[.slice Ao13 t202.length co13, .int .i64 0, .int .i64 20000] rfl (by (try simp only [List.map_toArray, List.map_cons, List.map_nil]); first | done | rfl | (simp only [List.length_drop, List.length_take]; rfl)) ?_; (with_reducible refine (impl_WorkIn.calls k _ _ t202 0 20000 t209 _ ?side1 ?side2 A10.out).mono ?_); (case side1 => repeat (first | exact (Kd.R_reads' HO204.out).2.2 | (with_reducible refine Kd.C_alloc ?_ _) | (with_reducible refine Kd.C_drewN ?_ _) | (with_reducible refine Kd.C_drew ?_))); (case side2 => exact (Kd.R_reads' HO204.out).2.1); rintro e w17 ⟨rfl, hb⟩; refine ⟨_, rfl, ?_⟩; have n0_ := Aside0.mk (Kd.R_below (fr_ HO204.out) hb); have n1_ := Aside0.mk (below_step (bel_ HB.out) hb); clear HO204; clear HB; have HO204 := n0_; have HB := n1_; clear n0_ n1_; (try clear hb); (try clear hb2); (try clear hk); (try clear hi)))
    (try simp only [Act.put, sA_, sZ_, sS_])
    go_loopg [5, 6] k (fun kq v5 v6 w' => ∃ (x5_1 : Int) (x6_1 : Int), v5 = .int .i64 x5_1 ∧ v6 = .int .i64 x6_1 ∧ Aside0 (laws_FnRested.l0 kq l0 t202 x5_1 x6_1 = some r) ∧ Aside0 (kq ≤ k) ∧ Aside0 (Kd.R k43 43 w' w.heap.size (fun _ => True) (.slice Ao13 t202.length co13) t202) ∧ Aside0 (Below w.heap.size w w'))
    case atStart => exact ⟨(0), (0), (by first | rfl | (simp; done) | (simp [*]; done) | (simp [wrap64]; done)), (by first | rfl | (simp; done) | (simp [*]; done) | (simp [wrap64]; done)), H', ⟨Nat.le_refl _⟩, ⟨by (with_reducible repeat (first | apply Kd.R_alloc | apply Kd.R_drewN | apply Kd.R_drew)); exact HO204.out⟩, ⟨bel_ HB.out⟩⟩
    case round =>
     clear H'
     try clear c3
     try clear c6
     try clear c11
     try clear c11b0
     try clear c11b1
     obtain ⟨x5_1, x6_1, rfl, rfl, HA, HK1, HO_3, HB⟩ := hrel
     cases gk with
     | zero => exact absurd HA.out (by simp [laws_FnRested.l0])
     | succ k1 =>
      have H := HA.out
      clear HA
      simp only [laws_FnRested.l0] at H
      by_cases c18 : x6_1 < (t202.length : Int)
      ·rw [if_pos c18] at H
       have c18b0 : decide (x6_1 < (t202.length : Int)) = true := decide_eq_true c18
       clear c18
       by_cases c19 : 0 ≤ x6_1
       ·rw [if_pos c19] at H
        have c19b0 : decide (0 ≤ x6_1) = true := decide_eq_true c19
        clear c19
        have H' := Aside0.mk H
        clear H
        try go_wp2
        have n0_ := Aside0.mk (Kd.R_drew HO_3.out)
        have n1_ := Aside0.mk (below_drew1 HB.out)
        clear HO_3
        clear HB
        have HO_3 := n0_
        have HB := n1_
        clear n0_ n1_
        have p210 : 0 ≤ (x6_1 : Int) := of_decide_eq_true (by first | (with_reducible assumption) | assumption)
        have q210 : x6_1 < (t202.length : Int) := of_decide_eq_true (by first | (with_reducible assumption) | assumption)
        obtain ⟨ad210, e210, hx210_0, hx210_1⟩ := at_T43 (Kd.R_reads' HO_3.out).2.2 x6_1 p210 q210
        cases e210
        replace p210 := eq_true p210
        replace q210 := eq_true q210
        have p211 : 0 ≤ (x6_1 : Int) := of_decide_eq_true (by first | (with_reducible assumption) | assumption)
        have q211 : x6_1 < (t202.length : Int) := of_decide_eq_true (by first | (with_reducible assumption) | assumption)
        obtain ⟨ad211, e211, hx211_0, hx211_1⟩ := at_T43 (Kd.R_reads' HO_3.out).2.2 x6_1 p211 q211
        obtain rfl : ad210 = ad211 := (by injection e211)
        replace p211 := eq_true p211
        replace q211 := eq_true q211
        refine start_ (n := 14) (S := fun w' => w'.cell? (ad210.add ((x6_1).toNat * 2)) = some (.int .i64 ((rd_T43 t202 x6_1).f0)) ∧ w'.cell? ⟨(ad210.add ((x6_1).toNat * 2)).block, (ad210.add ((x6_1).toNat * 2)).off + 1, none⟩ = some (.int .i64 ((rd_T43 t202 x6_1).f1)) ∧ w'.cell? (ad210.add ((x6_1).toNat * 2)) = some (.int .i64 ((rd_T43 t202 x6_1).f0)) ∧ w'.cell? ⟨(ad210.add ((x6_1).toNat * 2)).block, (ad210.add ((x6_1).toNat * 2)).off + 1, none⟩ = some (.int .i64 ((rd_T43 t202 x6_1).f1))) (ds := []) (bs 14 0) (by kernel_rfl) rfl rfl ⟨hx210_0, hx210_1, hx211_0, hx211_1⟩ (fun hHeld => ?_); refine with_tabW laws_FnRested.tab13 laws_FnRested.bits13 (fun HT_ HW_ => ?_)
        generalize wr.drew = w20 at HO_3 HB hx210_0 hx210_1 hx211_0 hx211_1 hHeld ⊢
        refine pu_ 0 41 HT_ (bs 14 1) rfl rfl ?_
        refine pu_ 1 42 HT_ (bs 14 3) rfl rfl ?_
        refine pu_ 2 43 HT_ (bs 14 7) rfl rfl ?_
        refine pu_ 3 44 HT_ (bs 14 15) rfl rfl ?_
        refine pu_ 4 45 HT_ (bs 14 31) rfl rfl ?_
        refine pu_ 7 48 HT_ (bs 14 159) rfl rfl ?_
        refine pu_ 8 49 HT_ (bs 14 415) rfl rfl ?_
        refine pu_ 9 50 HT_ (bs 14 927) rfl rfl ?_
        refine pu_ 10 51 HT_ (bs 14 1951) rfl rfl ?_
        refine take_ (i := 5) (N := some 46) (v := ?_) (a' := ?_) (bs 14 1983) rfl rfl (take_ofW HT_.out HW_.out (by kernel_rfl)) (fun _ _ _ h => h) (Or.inl ⟨by rfl, ?_⟩) hHeld ?_ ?_
        rotate_left
        ·rintro w' ⟨s0, s1, s2, s3⟩
         go_simp
         with_reducible rfl
        rotate_left
        ·simp only [Act.put, sA_, sZ_, sS_, i64_w, i32_w]
         rfl
        refine pu_ 6 47 HT_ (bs 14 2047) rfl rfl ?_
        refine take_ (i := 11) (N := some 52) (v := ?_) (a' := ?_) (bs 14 4095) rfl rfl (take_ofW HT_.out HW_.out (by kernel_rfl)) (fun _ _ _ h => h) (Or.inl ⟨by rfl, ?_⟩) hHeld ?_ ?_
        rotate_left
        ·rintro w' ⟨s0, s1, s2, s3⟩
         go_simp
         with_reducible rfl
        rotate_left
        ·simp only [Act.put, sA_, sZ_, sS_, i64_w, i32_w]
         rfl
        refine pu_ 12 53 HT_ (bs 14 8191) rfl rfl ?_
        refine pu_ 13 5 HT_ (bs 14 16383) rfl rfl ?_
        refine done_ (done_of HT_.out (by kernel_rfl)) ?_
        try go_wp2
        go_roundg k1
        case measure => have := HK1.out; omega
        case rel => exact ⟨(wrap64 ((wrap64 (x5_1 + ((rd_T43 t202 x6_1).f1))) - ((rd_T43 t202 x6_1).f0))), (wrap64 (x6_1 + 1)), (by first | rfl | (simp; done) | (simp [*]; done) | (simp [wrap64]; done)), (by first | rfl | (simp; done) | (simp [*]; done) | (simp [wrap64]; done)), H', ⟨by have := HK1.out; omega⟩, ⟨by (with_reducible repeat (first | apply Kd.R_alloc | apply Kd.R_drewN | apply Kd.R_drew)); exact HO_3.out⟩, ⟨bel_ HB.out⟩⟩
       ·rw [if_neg c19] at H
        exact absurd H (by simp)
      ·rw [if_neg c18] at H
       have c18b0 : decide (x6_1 < (t202.length : Int)) = false := decide_eq_false c18
       clear c18
       replace H := Option.bind_eq_some_iff.mp H
       obtain ⟨t212, A210, H⟩ := H
       replace H : (if t212 = x5_1 then ((laws_at.f l0 2).bind fun t213 => ((impl_RestCode.f k1 t202 (wrap64 (1440 + (wrap64 (t213 * 12))))).bind fun bt214 => (if (t202.length : Int) = 0 then (if bt214.1 = 0 then (some (bt214.2 == (-1))) else (some false)) else (if 0 ≤ (wrap64 ((t202.length : Int) - 1)) then (if (wrap64 ((t202.length : Int) - 1)) < (t202.length : Int) then (if ((rd_T43 t202 (wrap64 ((t202.length : Int) - 1))).f1) > 30000 then (some (bt214.1 == 1)) else ((laws_at.f l0 3).bind fun t217 => ((some (([] : List (S43)) : List (S43))).bind fun y218 => (if 0 ≤ (Int.tmod t217 (t202.length : Int)) then (if (Int.tmod t217 (t202.length : Int)) ≤ (t202.length : Int) then ((some (t202.take ((Int.tmod t217 (t202.length : Int)) : Int).toNat : List (S43))).bind fun y221 => (if y218.length + y221.length < 8796093022208 then ((some (y218 ++ y221 : List (S43))).bind fun y225 => (if 0 ≤ (wrap64 ((Int.tmod t217 (t202.length : Int)) + 1)) then (if (wrap64 ((Int.tmod t217 (t202.length : Int)) + 1)) ≤ (t202.length : Int) then ((some (t202.drop ((wrap64 ((Int.tmod t217 (t202.length : Int)) + 1)) : Int).toNat : List (S43))).bind fun y228 => (if y225.length + y228.length < 8796093022208 then ((impl_RestCode.f k1 (y225 ++ y228) (wrap64 (1440 + (wrap64 (t213 * 12))))).bind fun bt235 => (if bt214.1 = 0 then (if bt235.1 = 0 then (if bt235.2 = (-1) then (some (bt214.2 == (-1))) else (some false)) else (some false)) else (if bt214.2 ≥ 1440 then (if bt214.2 ≤ (wrap64 (1440 + (wrap64 (t213 * 12)))) then (if bt235.1 = 0 then (some true) else (some (decide (bt235.2 ≥ bt214.2)))) else (some false)) else (some false)))) else (none))) else (none)) else (none))) else (none))) else (none)) else (none))))) else (none)) else (none))))) else (some false)) = some r := H
       have A21 := Aside0.mk A210
       clear A210
       by_cases c22 : t212 = x5_1
       ·rw [if_pos c22] at H
        have c22b0 : (t212 == x5_1) = true := beq_iff_eq.mpr c22
        have c22b1 : (t212 != x5_1) = false := bne_eq_false_iff_eq.mpr c22
        clear c22
        replace H := Option.bind_eq_some_iff.mp H
        obtain ⟨t213, A230, H⟩ := H
        replace H : ((impl_RestCode.f k1 t202 (wrap64 (1440 + (wrap64 (t213 * 12))))).bind fun bt214 => (if (t202.length : Int) = 0 then (if bt214.1 = 0 then (some (bt214.2 == (-1))) else (some false)) else (if 0 ≤ (wrap64 ((t202.length : Int) - 1)) then (if (wrap64 ((t202.length : Int) - 1)) < (t202.length : Int) then (if ((rd_T43 t202 (wrap64 ((t202.length : Int) - 1))).f1) > 30000 then (some (bt214.1 == 1)) else ((laws_at.f l0 3).bind fun t217 => ((some (([] : List (S43)) : List (S43))).bind fun y218 => (if 0 ≤ (Int.tmod t217 (t202.length : Int)) then (if (Int.tmod t217 (t202.length : Int)) ≤ (t202.length : Int) then ((some (t202.take ((Int.tmod t217 (t202.length : Int)) : Int).toNat : List (S43))).bind fun y221 => (if y218.length + y221.length < 8796093022208 then ((some (y218 ++ y221 : List (S43))).bind fun y225 => (if 0 ≤ (wrap64 ((Int.tmod t217 (t202.length : Int)) + 1)) then (if (wrap64 ((Int.tmod t217 (t202.length : Int)) + 1)) ≤ (t202.length : Int) then ((some (t202.drop ((wrap64 ((Int.tmod t217 (t202.length : Int)) + 1)) : Int).toNat : List (S43))).bind fun y228 => (if y225.length + y228.length < 8796093022208 then ((impl_RestCode.f k1 (y225 ++ y228) (wrap64 (1440 + (wrap64 (t213 * 12))))).bind fun bt235 => (if bt214.1 = 0 then (if bt235.1 = 0 then (if bt235.2 = (-1) then (some (bt214.2 == (-1))) else (some false)) else (some false)) else (if bt214.2 ≥ 1440 then (if bt214.2 ≤ (wrap64 (1440 + (wrap64 (t213 * 12)))) then (if bt235.1 = 0 then (some true) else (some (decide (bt235.2 ≥ bt214.2)))) else (some false)) else (some false)))) else (none))) else (none)) else (none))) else (none))) else (none)) else (none))))) else (none)) else (none)))) = some r := H
        have A23 := Aside0.mk A230
        clear A230
        replace H := Option.bind_eq_some_iff.mp H
        obtain ⟨⟨t214, t215⟩, A240, H⟩ := H
        replace H : (if (t202.length : Int) = 0 then (if t214 = 0 then (some (t215 == (-1))) else (some false)) else (if 0 ≤ (wrap64 ((t202.length : Int) - 1)) then (if (wrap64 ((t202.length : Int) - 1)) < (t202.length : Int) then (if ((rd_T43 t202 (wrap64 ((t202.length : Int) - 1))).f1) > 30000 then (some (t214 == 1)) else ((laws_at.f l0 3).bind fun t217 => ((some (([] : List (S43)) : List (S43))).bind fun y218 => (if 0 ≤ (Int.tmod t217 (t202.length : Int)) then (if (Int.tmod t217 (t202.length : Int)) ≤ (t202.length : Int) then ((some (t202.take ((Int.tmod t217 (t202.length : Int)) : Int).toNat : List (S43))).bind fun y221 => (if y218.length + y221.length < 8796093022208 then ((some (y218 ++ y221 : List (S43))).bind fun y225 => (if 0 ≤ (wrap64 ((Int.tmod t217 (t202.length : Int)) + 1)) then (if (wrap64 ((Int.tmod t217 (t202.length : Int)) + 1)) ≤ (t202.length : Int) then ((some (t202.drop ((wrap64 ((Int.tmod t217 (t202.length : Int)) + 1)) : Int).toNat : List (S43))).bind fun y228 => (if y225.length + y228.length < 8796093022208 then ((impl_RestCode.f k1 (y225 ++ y228) (wrap64 (1440 + (wrap64 (t213 * 12))))).bind fun bt235 => (if t214 = 0 then (if bt235.1 = 0 then (if bt235.2 = (-1) then (some (t215 == (-1))) else (some false)) else (some false)) else (if t215 ≥ 1440 then (if t215 ≤ (wrap64 (1440 + (wrap64 (t213 * 12)))) then (if bt235.1 = 0 then (some true) else (some (decide (bt235.2 ≥ t215)))) else (some false)) else (some false)))) else (none))) else (none)) else (none))) else (none))) else (none)) else (none))))) else (none)) else (none))) = some r := H
        have A24 := Aside0.mk A240
        clear A240
        by_cases c25 : (t202.length : Int) = 0
        ·rw [if_pos c25] at H
         have c25b0 : ((t202.length : Int) == 0) = true := beq_iff_eq.mpr c25
         have c25b1 : ((t202.length : Int) != 0) = false := bne_eq_false_iff_eq.mpr c25
         clear c25
         by_cases c26 : t214 = 0
         ·rw [if_pos c26] at H
          have c26b0 : (t214 == 0) = true := beq_iff_eq.mpr c26
          have c26b1 : (t214 != 0) = false := bne_eq_false_iff_eq.mpr c26
          clear c26
          obtain rfl := Option.some.inj H
          go_wp2_with (first | ((with_reducible refine gate_callee (f := 16) rfl ?_); refine goesL_ (some 55) rfl rfl Try.func16 (by kernel_rfl) rfl #[.slice Ao13 t202.length co13, .int .i64 0, .int .i64 100000000] rfl (by (try simp only [List.map_toArray, List.map_cons, List.map_nil]); first | done | rfl | (simp only [List.length_drop, List.length_take]; rfl)) ?_; (with_reducible refine (impl_WorkIn.calls k1 _ _ t202 0 100000000 t212 _ ?side1 ?side2 A21.out).mono ?_); (case side1 => repeat (first | exact (Kd.R_reads' HO_3.out).2.2 | (with_reducible refine Kd.C_alloc ?_ _) | (with_reducible refine Kd.C_drewN ?_ _) | (with_reducible refine Kd.C_drew ?_))); (case side2 => exact (Kd.R_reads' HO_3.out).2.1); rintro e w27 ⟨rfl, hb⟩; refine ⟨_, rfl, ?_⟩; have n0_ := Aside0.mk (Kd.R_below (fr_ HO_3.out) hb); have n1_ := Aside0.mk (below_step (bel_ HB.out) hb); clear HO_3; clear HB; have HO_3 := n0_; have HB := n1_; clear n0_ n1_; (try clear hb); (try clear hb2); (try clear hk); (try clear hi)) | ((with_reducible refine gate_callee (f := 13) rfl ?_); refine goesL_ (some 59) rfl rfl Try.func13 (by kernel_rfl) rfl #[.slice A0 l0.length c0, .int .i64 2] rfl (by (try simp only [List.map_toArray, List.map_cons, List.map_nil]); first | done | rfl | (simp only [List.length_drop, List.length_take]; rfl)) ?_; (with_reducible refine (laws_at.calls _ _ l0 2 t213 _ ?side1 ?side2 A23.out).mono ?_); (case side1 => repeat (first | exact (Kd.C_below HR0.out HB.out) | (with_reducible refine Kd.C_alloc ?_ _) | (with_reducible refine Kd.C_drewN ?_ _) | (with_reducible refine Kd.C_drew ?_))); (case side2 => exact HC0.out); rintro e w' ⟨rfl, ⟨nd, rfl⟩⟩; refine ⟨_, rfl, ?_⟩) | ((with_reducible refine gate_callee (f := 17) rfl ?_); refine goesL_ (some 65) rfl rfl Try.func17 (by kernel_rfl) rfl #[.slice Ao13 t202.length co13, .int .i64 (wrap64 (1440 + (wrap64 (t213 * 12))))] rfl (by (try simp only [List.map_toArray, List.map_cons, List.map_nil]); first | done | rfl | (simp only [List.length_drop, List.length_take]; rfl)) ?_; (with_reducible refine (impl_RestCode.calls k1 _ _ t202 (wrap64 (1440 + (wrap64 (t213 * 12)))) t214 t215 _ ?side1 ?side2 A24.out).mono ?_); (case side1 => repeat (first | exact (Kd.R_reads' HO_3.out).2.2 | (with_reducible refine Kd.C_alloc ?_ _) | (with_reducible refine Kd.C_drewN ?_ _) | (with_reducible refine Kd.C_drew ?_))); (case side2 => exact (Kd.R_reads' HO_3.out).2.1); rintro e w28 ⟨rfl, hb⟩; refine ⟨_, rfl, ?_⟩; have n0_ := Aside0.mk (Kd.R_below (fr_ HO_3.out) hb); have n1_ := Aside0.mk (below_step (bel_ HB.out) hb); clear HO_3; clear HB; have HO_3 := n0_; have HB := n1_; clear n0_ n1_; (try clear hb); (try clear hb2); (try clear hk); (try clear hi)))
          go_ret
          exact ⟨by first | rfl | (simp [errW_none, errW_some] <;> rfl) | (simp [*, errW_none, errW_some] <;> rfl), bel_ HB.out⟩
         ·rw [if_neg c26] at H
          have c26b0 : (t214 == 0) = false := beq_eq_false_iff_ne.mpr c26
          have c26b1 : (t214 != 0) = true := bne_iff_ne.mpr c26
          obtain rfl := Option.some.inj H
          go_wp2_with (first | ((with_reducible refine gate_callee (f := 16) rfl ?_); refine goesL_ (some 55) rfl rfl Try.func16 (by kernel_rfl) rfl #[.slice Ao13 t202.length co13, .int .i64 0, .int .i64 100000000] rfl (by (try simp only [List.map_toArray, List.map_cons, List.map_nil]); first | done | rfl | (simp only [List.length_drop, List.length_take]; rfl)) ?_; (with_reducible refine (impl_WorkIn.calls k1 _ _ t202 0 100000000 t212 _ ?side1 ?side2 A21.out).mono ?_); (case side1 => repeat (first | exact (Kd.R_reads' HO_3.out).2.2 | (with_reducible refine Kd.C_alloc ?_ _) | (with_reducible refine Kd.C_drewN ?_ _) | (with_reducible refine Kd.C_drew ?_))); (case side2 => exact (Kd.R_reads' HO_3.out).2.1); rintro e w29 ⟨rfl, hb⟩; refine ⟨_, rfl, ?_⟩; have n0_ := Aside0.mk (Kd.R_below (fr_ HO_3.out) hb); have n1_ := Aside0.mk (below_step (bel_ HB.out) hb); clear HO_3; clear HB; have HO_3 := n0_; have HB := n1_; clear n0_ n1_; (try clear hb); (try clear hb2); (try clear hk); (try clear hi)) | ((with_reducible refine gate_callee (f := 13) rfl ?_); refine goesL_ (some 59) rfl rfl Try.func13 (by kernel_rfl) rfl #[.slice A0 l0.length c0, .int .i64 2] rfl (by (try simp only [List.map_toArray, List.map_cons, List.map_nil]); first | done | rfl | (simp only [List.length_drop, List.length_take]; rfl)) ?_; (with_reducible refine (laws_at.calls _ _ l0 2 t213 _ ?side1 ?side2 A23.out).mono ?_); (case side1 => repeat (first | exact (Kd.C_below HR0.out HB.out) | (with_reducible refine Kd.C_alloc ?_ _) | (with_reducible refine Kd.C_drewN ?_ _) | (with_reducible refine Kd.C_drew ?_))); (case side2 => exact HC0.out); rintro e w' ⟨rfl, ⟨nd, rfl⟩⟩; refine ⟨_, rfl, ?_⟩) | ((with_reducible refine gate_callee (f := 17) rfl ?_); refine goesL_ (some 65) rfl rfl Try.func17 (by kernel_rfl) rfl #[.slice Ao13 t202.length co13, .int .i64 (wrap64 (1440 + (wrap64 (t213 * 12))))] rfl (by (try simp only [List.map_toArray, List.map_cons, List.map_nil]); first | done | rfl | (simp only [List.length_drop, List.length_take]; rfl)) ?_; (with_reducible refine (impl_RestCode.calls k1 _ _ t202 (wrap64 (1440 + (wrap64 (t213 * 12)))) t214 t215 _ ?side1 ?side2 A24.out).mono ?_); (case side1 => repeat (first | exact (Kd.R_reads' HO_3.out).2.2 | (with_reducible refine Kd.C_alloc ?_ _) | (with_reducible refine Kd.C_drewN ?_ _) | (with_reducible refine Kd.C_drew ?_))); (case side2 => exact (Kd.R_reads' HO_3.out).2.1); rintro e w30 ⟨rfl, hb⟩; refine ⟨_, rfl, ?_⟩; have n0_ := Aside0.mk (Kd.R_below (fr_ HO_3.out) hb); have n1_ := Aside0.mk (below_step (bel_ HB.out) hb); clear HO_3; clear HB; have HO_3 := n0_; have HB := n1_; clear n0_ n1_; (try clear hb); (try clear hb2); (try clear hk); (try clear hi)))
          go_ret
          exact ⟨by first | rfl | (simp [errW_none, errW_some] <;> rfl) | (simp [*, errW_none, errW_some] <;> rfl), bel_ HB.out⟩
        ·rw [if_neg c25] at H
         have c25b0 : ((t202.length : Int) == 0) = false := beq_eq_false_iff_ne.mpr c25
         have c25b1 : ((t202.length : Int) != 0) = true := bne_iff_ne.mpr c25
         have c25b2 : ¬ (t202 = []) := fun h_ => c25 (by rw [h_]; rfl)
         obtain ⟨ji31, hji31⟩ : ∃ j_ : Int, (wrap64 ((t202.length : Int) - 1)) = j_ := ⟨_, rfl⟩
         replace H : (if 0 ≤ (ji31) then (if (ji31) < (t202.length : Int) then (if ((rd_T43 t202 (ji31)).f1) > 30000 then (some (t214 == 1)) else ((laws_at.f l0 3).bind fun t217 => ((some (([] : List (S43)) : List (S43))).bind fun y218 => (if 0 ≤ (Int.tmod t217 (t202.length : Int)) then (if (Int.tmod t217 (t202.length : Int)) ≤ (t202.length : Int) then ((some (t202.take ((Int.tmod t217 (t202.length : Int)) : Int).toNat : List (S43))).bind fun y221 => (if y218.length + y221.length < 8796093022208 then ((some (y218 ++ y221 : List (S43))).bind fun y225 => (if 0 ≤ (wrap64 ((Int.tmod t217 (t202.length : Int)) + 1)) then (if (wrap64 ((Int.tmod t217 (t202.length : Int)) + 1)) ≤ (t202.length : Int) then ((some (t202.drop ((wrap64 ((Int.tmod t217 (t202.length : Int)) + 1)) : Int).toNat : List (S43))).bind fun y228 => (if y225.length + y228.length < 8796093022208 then ((impl_RestCode.f k1 (y225 ++ y228) (wrap64 (1440 + (wrap64 (t213 * 12))))).bind fun bt235 => (if t214 = 0 then (if bt235.1 = 0 then (if bt235.2 = (-1) then (some (t215 == (-1))) else (some false)) else (some false)) else (if t215 ≥ 1440 then (if t215 ≤ (wrap64 (1440 + (wrap64 (t213 * 12)))) then (if bt235.1 = 0 then (some true) else (some (decide (bt235.2 ≥ t215)))) else (some false)) else (some false)))) else (none))) else (none)) else (none))) else (none))) else (none)) else (none))))) else (none)) else (none)) = some r := by first | (rw [hji31] at H; exact H) | (simp only [hji31] at H ⊢; exact H)
         (try rw [hji31] at A21)
         (try rw [hji31] at A23)
         (try rw [hji31] at A24)
         have hji31w : (IntKind.i64.wrap ((t202.length : Int) - 1)) = ji31 := (i64_w _).trans hji31
         by_cases c32 : 0 ≤ (ji31)
         ·rw [if_pos c32] at H
          have c32b0 : decide (0 ≤ (ji31)) = true := decide_eq_true c32
          clear c32
          by_cases c33 : (ji31) < (t202.length : Int)
          ·rw [if_pos c33] at H
           have c33b0 : decide ((ji31) < (t202.length : Int)) = true := decide_eq_true c33
           clear c33
           by_cases c34 : ((rd_T43 t202 (ji31)).f1) > 30000
           ·rw [if_pos c34] at H
            have c34b0 : decide (30000 < ((rd_T43 t202 (ji31)).f1)) = true := decide_eq_true c34
            clear c34
            obtain rfl := Option.some.inj H
            go_wp2_with (first | ((with_reducible refine gate_callee (f := 16) rfl ?_); refine goesL_ (some 55) rfl rfl Try.func16 (by kernel_rfl) rfl #[.slice Ao13 t202.length co13, .int .i64 0, .int .i64 100000000] rfl (by (try simp only [List.map_toArray, List.map_cons, List.map_nil]); first | done | rfl | (simp only [List.length_drop, List.length_take]; rfl)) ?_; (with_reducible refine (impl_WorkIn.calls k1 _ _ t202 0 100000000 t212 _ ?side1 ?side2 A21.out).mono ?_); (case side1 => repeat (first | exact (Kd.R_reads' HO_3.out).2.2 | (with_reducible refine Kd.C_alloc ?_ _) | (with_reducible refine Kd.C_drewN ?_ _) | (with_reducible refine Kd.C_drew ?_))); (case side2 => exact (Kd.R_reads' HO_3.out).2.1); rintro e w35 ⟨rfl, hb⟩; refine ⟨_, rfl, ?_⟩; have n0_ := Aside0.mk (Kd.R_below (fr_ HO_3.out) hb); have n1_ := Aside0.mk (below_step (bel_ HB.out) hb); clear HO_3; clear HB; have HO_3 := n0_; have HB := n1_; clear n0_ n1_; (try clear hb); (try clear hb2); (try clear hk); (try clear hi)) | ((with_reducible refine gate_callee (f := 13) rfl ?_); refine goesL_ (some 59) rfl rfl Try.func13 (by kernel_rfl) rfl #[.slice A0 l0.length c0, .int .i64 2] rfl (by (try simp only [List.map_toArray, List.map_cons, List.map_nil]); first | done | rfl | (simp only [List.length_drop, List.length_take]; rfl)) ?_; (with_reducible refine (laws_at.calls _ _ l0 2 t213 _ ?side1 ?side2 A23.out).mono ?_); (case side1 => repeat (first | exact (Kd.C_below HR0.out HB.out) | (with_reducible refine Kd.C_alloc ?_ _) | (with_reducible refine Kd.C_drewN ?_ _) | (with_reducible refine Kd.C_drew ?_))); (case side2 => exact HC0.out); rintro e w' ⟨rfl, ⟨nd, rfl⟩⟩; refine ⟨_, rfl, ?_⟩) | ((with_reducible refine gate_callee (f := 17) rfl ?_); refine goesL_ (some 65) rfl rfl Try.func17 (by kernel_rfl) rfl #[.slice Ao13 t202.length co13, .int .i64 (wrap64 (1440 + (wrap64 (t213 * 12))))] rfl (by (try simp only [List.map_toArray, List.map_cons, List.map_nil]); first | done | rfl | (simp only [List.length_drop, List.length_take]; rfl)) ?_; (with_reducible refine (impl_RestCode.calls k1 _ _ t202 (wrap64 (1440 + (wrap64 (t213 * 12)))) t214 t215 _ ?side1 ?side2 A24.out).mono ?_); (case side1 => repeat (first | exact (Kd.R_reads' HO_3.out).2.2 | (with_reducible refine Kd.C_alloc ?_ _) | (with_reducible refine Kd.C_drewN ?_ _) | (with_reducible refine Kd.C_drew ?_))); (case side2 => exact (Kd.R_reads' HO_3.out).2.1); rintro e w36 ⟨rfl, hb⟩; refine ⟨_, rfl, ?_⟩; have n0_ := Aside0.mk (Kd.R_below (fr_ HO_3.out) hb); have n1_ := Aside0.mk (below_step (bel_ HB.out) hb); clear HO_3; clear HB; have HO_3 := n0_; have HB := n1_; clear n0_ n1_; (try clear hb); (try clear hb2); (try clear hk); (try clear hi); have p216 : 0 ≤ ((ji31) : Int) := of_decide_eq_true (by first | (with_reducible assumption) | assumption); have q216 : (ji31) < (t202.length : Int) := of_decide_eq_true (by first | (with_reducible assumption) | assumption); obtain ⟨ad216, e216, hx216_0, hx216_1⟩ := at_T43 (Kd.R_reads' HO_3.out).2.2 (ji31) p216 q216; cases e216; replace p216 := eq_true p216; replace q216 := eq_true q216))
            go_ret
            exact ⟨by first | rfl | (simp [errW_none, errW_some] <;> rfl) | (simp only [← hji31]; first | rfl | (simp [errW_none, errW_some] <;> rfl)) | (simp [*, errW_none, errW_some] <;> rfl), bel_ HB.out⟩
           ·rw [if_neg c34] at H
            have c34b0 : decide (30000 < ((rd_T43 t202 (ji31)).f1)) = false := decide_eq_false c34
            clear c34
            replace H := Option.bind_eq_some_iff.mp H
            obtain ⟨t217, A370, H⟩ := H
            replace H : ((some (([] : List (S43)) : List (S43))).bind fun y218 => (if 0 ≤ (Int.tmod t217 (t202.length : Int)) then (if (Int.tmod t217 (t202.length : Int)) ≤ (t202.length : Int) then ((some (t202.take ((Int.tmod t217 (t202.length : Int)) : Int).toNat : List (S43))).bind fun y221 => (if y218.length + y221.length < 8796093022208 then ((some (y218 ++ y221 : List (S43))).bind fun y225 => (if 0 ≤ (wrap64 ((Int.tmod t217 (t202.length : Int)) + 1)) then (if (wrap64 ((Int.tmod t217 (t202.length : Int)) + 1)) ≤ (t202.length : Int) then ((some (t202.drop ((wrap64 ((Int.tmod t217 (t202.length : Int)) + 1)) : Int).toNat : List (S43))).bind fun y228 => (if y225.length + y228.length < 8796093022208 then ((impl_RestCode.f k1 (y225 ++ y228) (wrap64 (1440 + (wrap64 (t213 * 12))))).bind fun bt235 => (if t214 = 0 then (if bt235.1 = 0 then (if bt235.2 = (-1) then (some (t215 == (-1))) else (some false)) else (some false)) else (if t215 ≥ 1440 then (if t215 ≤ (wrap64 (1440 + (wrap64 (t213 * 12)))) then (if bt235.1 = 0 then (some true) else (some (decide (bt235.2 ≥ t215)))) else (some false)) else (some false)))) else (none))) else (none)) else (none))) else (none))) else (none)) else (none))) = some r := H
            have A37 := Aside0.mk A370
            clear A370
            obtain ⟨y218, hy218⟩ : ∃ y_ : List (S43), y_ = (([] : List (S43))) := ⟨_, rfl⟩
            replace H : (if 0 ≤ (Int.tmod t217 (t202.length : Int)) then (if (Int.tmod t217 (t202.length : Int)) ≤ (t202.length : Int) then ((some (t202.take ((Int.tmod t217 (t202.length : Int)) : Int).toNat : List (S43))).bind fun y221 => (if y218.length + y221.length < 8796093022208 then ((some (y218 ++ y221 : List (S43))).bind fun y225 => (if 0 ≤ (wrap64 ((Int.tmod t217 (t202.length : Int)) + 1)) then (if (wrap64 ((Int.tmod t217 (t202.length : Int)) + 1)) ≤ (t202.length : Int) then ((some (t202.drop ((wrap64 ((Int.tmod t217 (t202.length : Int)) + 1)) : Int).toNat : List (S43))).bind fun y228 => (if y225.length + y228.length < 8796093022208 then ((impl_RestCode.f k1 (y225 ++ y228) (wrap64 (1440 + (wrap64 (t213 * 12))))).bind fun bt235 => (if t214 = 0 then (if bt235.1 = 0 then (if bt235.2 = (-1) then (some (t215 == (-1))) else (some false)) else (some false)) else (if t215 ≥ 1440 then (if t215 ≤ (wrap64 (1440 + (wrap64 (t213 * 12)))) then (if bt235.1 = 0 then (some true) else (some (decide (bt235.2 ≥ t215)))) else (some false)) else (some false)))) else (none))) else (none)) else (none))) else (none))) else (none)) else (none)) = some r := by first | (rw [hy218]; with_reducible exact H) | (have H2_ := (Option.bind_some _ _).symm.trans H; rw [hy218]; with_reducible exact H2_) | (have H2_ := (Option.bind_some _ _).symm.trans H; with_reducible exact H2_) | with_reducible exact H | (rw [hy218]; exact H) | exact H
            have Ny218 := Aside0.mk hy218
            clear hy218
            obtain ⟨ji38, hji38⟩ : ∃ j_ : Int, (Int.tmod t217 (t202.length : Int)) = j_ := ⟨_, rfl⟩
            replace H : (if 0 ≤ (ji38) then (if (ji38) ≤ (t202.length : Int) then ((some (t202.take ((ji38) : Int).toNat : List (S43))).bind fun y221 => (if y218.length + y221.length < 8796093022208 then ((some (y218 ++ y221 : List (S43))).bind fun y225 => (if 0 ≤ (wrap64 ((ji38) + 1)) then (if (wrap64 ((ji38) + 1)) ≤ (t202.length : Int) then ((some (t202.drop ((wrap64 ((ji38) + 1)) : Int).toNat : List (S43))).bind fun y228 => (if y225.length + y228.length < 8796093022208 then ((impl_RestCode.f k1 (y225 ++ y228) (wrap64 (1440 + (wrap64 (t213 * 12))))).bind fun bt235 => (if t214 = 0 then (if bt235.1 = 0 then (if bt235.2 = (-1) then (some (t215 == (-1))) else (some false)) else (some false)) else (if t215 ≥ 1440 then (if t215 ≤ (wrap64 (1440 + (wrap64 (t213 * 12)))) then (if bt235.1 = 0 then (some true) else (some (decide (bt235.2 ≥ t215)))) else (some false)) else (some false)))) else (none))) else (none)) else (none))) else (none))) else (none)) else (none)) = some r := by first | (rw [hji38] at H; exact H) | (simp only [hji38] at H ⊢; exact H)
            (try rw [hji38] at A21)
            (try rw [hji38] at A23)
            (try rw [hji38] at A24)
            (try rw [hji38] at A37)
            by_cases c39 : 0 ≤ (ji38)
            ·rw [if_pos c39] at H
             have c39b0 := eq_true c39
             have c39b1 : decide (0 ≤ (ji38)) = true := decide_eq_true c39
             clear c39
             by_cases c40 : (ji38) ≤ (t202.length : Int)
             ·rw [if_pos c40] at H
              have c40b0 := eq_true c40
              have c40b1 : decide ((ji38) ≤ (t202.length : Int)) = true := decide_eq_true c40
              clear c40
              obtain ⟨y221, hy221⟩ : ∃ y_ : List (S43), y_ = (t202.take ((ji38) : Int).toNat) := ⟨_, rfl⟩
              replace H : (if y218.length + y221.length < 8796093022208 then ((some (y218 ++ y221 : List (S43))).bind fun y225 => (if 0 ≤ (wrap64 ((ji38) + 1)) then (if (wrap64 ((ji38) + 1)) ≤ (t202.length : Int) then ((some (t202.drop ((wrap64 ((ji38) + 1)) : Int).toNat : List (S43))).bind fun y228 => (if y225.length + y228.length < 8796093022208 then ((impl_RestCode.f k1 (y225 ++ y228) (wrap64 (1440 + (wrap64 (t213 * 12))))).bind fun bt235 => (if t214 = 0 then (if bt235.1 = 0 then (if bt235.2 = (-1) then (some (t215 == (-1))) else (some false)) else (some false)) else (if t215 ≥ 1440 then (if t215 ≤ (wrap64 (1440 + (wrap64 (t213 * 12)))) then (if bt235.1 = 0 then (some true) else (some (decide (bt235.2 ≥ t215)))) else (some false)) else (some false)))) else (none))) else (none)) else (none))) else (none)) = some r := by first | (rw [hy221]; with_reducible exact H) | (have H2_ := (Option.bind_some _ _).symm.trans H; rw [hy221]; with_reducible exact H2_) | (have H2_ := (Option.bind_some _ _).symm.trans H; with_reducible exact H2_) | with_reducible exact H | (rw [hy221]; exact H) | exact H
              have Ny221 := Aside0.mk hy221
              clear hy221
              by_cases c41 : y218.length + y221.length < 8796093022208
              ·rw [if_pos c41] at H
               have LMc41 := Aside0.mk c41
               clear c41
               obtain ⟨y225, hy225⟩ : ∃ y_ : List (S43), y_ = (y218 ++ y221) := ⟨_, rfl⟩
               replace H : (if 0 ≤ (wrap64 ((ji38) + 1)) then (if (wrap64 ((ji38) + 1)) ≤ (t202.length : Int) then ((some (t202.drop ((wrap64 ((ji38) + 1)) : Int).toNat : List (S43))).bind fun y228 => (if y225.length + y228.length < 8796093022208 then ((impl_RestCode.f k1 (y225 ++ y228) (wrap64 (1440 + (wrap64 (t213 * 12))))).bind fun bt235 => (if t214 = 0 then (if bt235.1 = 0 then (if bt235.2 = (-1) then (some (t215 == (-1))) else (some false)) else (some false)) else (if t215 ≥ 1440 then (if t215 ≤ (wrap64 (1440 + (wrap64 (t213 * 12)))) then (if bt235.1 = 0 then (some true) else (some (decide (bt235.2 ≥ t215)))) else (some false)) else (some false)))) else (none))) else (none)) else (none)) = some r := by first | (rw [hy225]; with_reducible exact H) | (have H2_ := (Option.bind_some _ _).symm.trans H; rw [hy225]; with_reducible exact H2_) | (have H2_ := (Option.bind_some _ _).symm.trans H; with_reducible exact H2_) | with_reducible exact H | (rw [hy225]; exact H) | exact H
               have Ny225 := Aside0.mk hy225
               clear hy225
               obtain ⟨ji42, hji42⟩ : ∃ j_ : Int, (wrap64 ((ji38) + 1)) = j_ := ⟨_, rfl⟩
               replace H : (if 0 ≤ (ji42) then (if (ji42) ≤ (t202.length : Int) then ((some (t202.drop ((ji42) : Int).toNat : List (S43))).bind fun y228 => (if y225.length + y228.length < 8796093022208 then ((impl_RestCode.f k1 (y225 ++ y228) (wrap64 (1440 + (wrap64 (t213 * 12))))).bind fun bt235 => (if t214 = 0 then (if bt235.1 = 0 then (if bt235.2 = (-1) then (some (t215 == (-1))) else (some false)) else (some false)) else (if t215 ≥ 1440 then (if t215 ≤ (wrap64 (1440 + (wrap64 (t213 * 12)))) then (if bt235.1 = 0 then (some true) else (some (decide (bt235.2 ≥ t215)))) else (some false)) else (some false)))) else (none))) else (none)) else (none)) = some r := by first | (rw [hji42] at H; exact H) | (simp only [hji42] at H ⊢; exact H)
               (try rw [hji42] at A21)
               (try rw [hji42] at A23)
               (try rw [hji42] at A24)
               (try rw [hji42] at A37)
               have hji42w : (IntKind.i64.wrap ((ji38) + 1)) = ji42 := (i64_w _).trans hji42
               by_cases c43 : 0 ≤ (ji42)
               ·rw [if_pos c43] at H
                have c43b0 := eq_true c43
                have c43b1 : decide (0 ≤ (ji42)) = true := decide_eq_true c43
                clear c43
                by_cases c44 : (ji42) ≤ (t202.length : Int)
                ·rw [if_pos c44] at H
                 have c44b0 := eq_true c44
                 have c44b1 : decide ((ji42) ≤ (t202.length : Int)) = true := decide_eq_true c44
                 clear c44
                 obtain ⟨y228, hy228⟩ : ∃ y_ : List (S43), y_ = (t202.drop ((ji42) : Int).toNat) := ⟨_, rfl⟩
                 replace H : (if y225.length + y228.length < 8796093022208 then ((impl_RestCode.f k1 (y225 ++ y228) (wrap64 (1440 + (wrap64 (t213 * 12))))).bind fun bt235 => (if t214 = 0 then (if bt235.1 = 0 then (if bt235.2 = (-1) then (some (t215 == (-1))) else (some false)) else (some false)) else (if t215 ≥ 1440 then (if t215 ≤ (wrap64 (1440 + (wrap64 (t213 * 12)))) then (if bt235.1 = 0 then (some true) else (some (decide (bt235.2 ≥ t215)))) else (some false)) else (some false)))) else (none)) = some r := by first | (rw [hy228]; with_reducible exact H) | (have H2_ := (Option.bind_some _ _).symm.trans H; rw [hy228]; with_reducible exact H2_) | (have H2_ := (Option.bind_some _ _).symm.trans H; with_reducible exact H2_) | with_reducible exact H | (rw [hy228]; exact H) | exact H
                 have Ny228 := Aside0.mk hy228
                 clear hy228
                 by_cases c45 : y225.length + y228.length < 8796093022208
                 ·rw [if_pos c45] at H
                  have LMc45 := Aside0.mk c45
                  clear c45
                  obtain ⟨y232, hy232⟩ : ∃ y_ : List (S43), y_ = (y225 ++ y228) := ⟨_, rfl⟩
                  replace H : ((impl_RestCode.f k1 y232 (wrap64 (1440 + (wrap64 (t213 * 12))))).bind fun bt235 => (if t214 = 0 then (if bt235.1 = 0 then (if bt235.2 = (-1) then (some (t215 == (-1))) else (some false)) else (some false)) else (if t215 ≥ 1440 then (if t215 ≤ (wrap64 (1440 + (wrap64 (t213 * 12)))) then (if bt235.1 = 0 then (some true) else (some (decide (bt235.2 ≥ t215)))) else (some false)) else (some false)))) = some r := by first | (rw [hy232]; with_reducible exact H) | (have H2_ := (Option.bind_some _ _).symm.trans H; rw [hy232]; with_reducible exact H2_) | (have H2_ := (Option.bind_some _ _).symm.trans H; with_reducible exact H2_) | with_reducible exact H | (rw [hy232]; exact H) | exact H
                  have Ny232 := Aside0.mk hy232
                  clear hy232
                  replace H := Option.bind_eq_some_iff.mp H
                  obtain ⟨⟨t235, t236⟩, A460, H⟩ := H
                  replace H : (if t214 = 0 then (if t235 = 0 then (if t236 = (-1) then (some (t215 == (-1))) else (some false)) else (some false)) else (if t215 ≥ 1440 then (if t215 ≤ (wrap64 (1440 + (wrap64 (t213 * 12)))) then (if t235 = 0 then (some true) else (some (decide (t236 ≥ t215)))) else (some false)) else (some false))) = some r := H
                  have A46 := Aside0.mk A460
                  clear A460
                  by_cases c47 : t214 = 0
                  ·rw [if_pos c47] at H
                   have c47b0 : (t214 == 0) = true := beq_iff_eq.mpr c47
                   have c47b1 : (t214 != 0) = false := bne_eq_false_iff_eq.mpr c47
                   clear c47
                   by_cases c48 : t235 = 0
                   ·rw [if_pos c48] at H
                    have c48b0 : (t235 == 0) = true := beq_iff_eq.mpr c48
                    have c48b1 : (t235 != 0) = false := bne_eq_false_iff_eq.mpr c48
                    clear c48
                    by_cases c49 : t236 = (-1)
                    ·rw [if_pos c49] at H
                     have c49b0 : (t236 == (-1)) = true := beq_iff_eq.mpr c49
                     have c49b1 : (t236 != (-1)) = false := bne_eq_false_iff_eq.mpr c49
                     clear c49
                     obtain rfl := Option.some.inj H
                     try go_wp2_with (first | ((with_reducible refine gate_callee (f := 16) rfl ?_); refine goesL_ (some 55) rfl rfl Try.func16 (by kernel_rfl) rfl #[.slice Ao13 t202.length co13, .int .i64 0, .int .i64 100000000] rfl (by (try simp only [List.map_toArray, List.map_cons, List.map_nil]); first | done | rfl | (simp only [List.length_drop, List.length_take]; rfl)) ?_; (with_reducible refine (impl_WorkIn.calls k1 _ _ t202 0 100000000 t212 _ ?side1 ?side2 A21.out).mono ?_); (case side1 => repeat (first | exact (Kd.R_reads' HO_3.out).2.2 | (with_reducible refine Kd.C_alloc ?_ _) | (with_reducible refine Kd.C_drewN ?_ _) | (with_reducible refine Kd.C_drew ?_))); (case side2 => exact (Kd.R_reads' HO_3.out).2.1); rintro e w50 ⟨rfl, hb⟩; refine ⟨_, rfl, ?_⟩; have n0_ := Aside0.mk (Kd.R_below (fr_ HO_3.out) hb); have n1_ := Aside0.mk (below_step (bel_ HB.out) hb); clear HO_3; clear HB; have HO_3 := n0_; have HB := n1_; clear n0_ n1_; (try clear hb); (try clear hb2); (try clear hk); (try clear hi)) | ((with_reducible refine gate_callee (f := 13) rfl ?_); refine goesL_ (some 59) rfl rfl Try.func13 (by kernel_rfl) rfl #[.slice A0 l0.length c0, .int .i64 2] rfl (by (try simp only [List.map_toArray, List.map_cons, List.map_nil]); first | done | rfl | (simp only [List.length_drop, List.length_take]; rfl)) ?_; (with_reducible refine (laws_at.calls _ _ l0 2 t213 _ ?side1 ?side2 A23.out).mono ?_); (case side1 => repeat (first | exact (Kd.C_below HR0.out HB.out) | (with_reducible refine Kd.C_alloc ?_ _) | (with_reducible refine Kd.C_drewN ?_ _) | (with_reducible refine Kd.C_drew ?_))); (case side2 => exact HC0.out); rintro e w' ⟨rfl, ⟨nd, rfl⟩⟩; refine ⟨_, rfl, ?_⟩) | ((with_reducible refine gate_callee (f := 17) rfl ?_); refine goesL_ (some 65) rfl rfl Try.func17 (by kernel_rfl) rfl #[.slice Ao13 t202.length co13, .int .i64 (wrap64 (1440 + (wrap64 (t213 * 12))))] rfl (by (try simp only [List.map_toArray, List.map_cons, List.map_nil]); first | done | rfl | (simp only [List.length_drop, List.length_take]; rfl)) ?_; (with_reducible refine (impl_RestCode.calls k1 _ _ t202 (wrap64 (1440 + (wrap64 (t213 * 12)))) t214 t215 _ ?side1 ?side2 A24.out).mono ?_); (case side1 => repeat (first | exact (Kd.R_reads' HO_3.out).2.2 | (with_reducible refine Kd.C_alloc ?_ _) | (with_reducible refine Kd.C_drewN ?_ _) | (with_reducible refine Kd.C_drew ?_))); (case side2 => exact (Kd.R_reads' HO_3.out).2.1); rintro e w51 ⟨rfl, hb⟩; refine ⟨_, rfl, ?_⟩; have n0_ := Aside0.mk (Kd.R_below (fr_ HO_3.out) hb); have n1_ := Aside0.mk (below_step (bel_ HB.out) hb); clear HO_3; clear HB; have HO_3 := n0_; have HB := n1_; clear n0_ n1_; (try clear hb); (try clear hb2); (try clear hk); (try clear hi); have p216 : 0 ≤ ((ji31) : Int) := of_decide_eq_true (by first | (with_reducible assumption) | assumption); have q216 : (ji31) < (t202.length : Int) := of_decide_eq_true (by first | (with_reducible assumption) | assumption); obtain ⟨ad216, e216, hx216_0, hx216_1⟩ := at_T43 (Kd.R_reads' HO_3.out).2.2 (ji31) p216 q216; cases e216; replace p216 := eq_true p216; replace q216 := eq_true q216) | ((with_reducible refine gate_callee (f := 13) rfl ?_); refine goesL_ (some 88) rfl rfl Try.func13 (by kernel_rfl) rfl #[.slice A0 l0.length c0, .int .i64 3] rfl (by (try simp only [List.map_toArray, List.map_cons, List.map_nil]); first | done | rfl | (simp only [List.length_drop, List.length_take]; rfl)) ?_; (with_reducible refine (laws_at.calls _ _ l0 3 t217 _ ?side1 ?side2 A37.out).mono ?_); (case side1 => repeat (first | exact (Kd.C_below HR0.out HB.out) | (with_reducible refine Kd.C_alloc ?_ _) | (with_reducible refine Kd.C_drewN ?_ _) | (with_reducible refine Kd.C_drew ?_))); (case side2 => exact HC0.out); rintro e w' ⟨rfl, ⟨nd, rfl⟩⟩; refine ⟨_, rfl, ?_⟩))
                     (try ((first | ((conv in (World.drewN w51 _) => skip); generalize hq_ : World.drewN w51 _ = w51) | (rw [drewN_self w51]; generalize hq_ : World.drewN w51 _ = w51)); have n0_ : Aside0 (Kd.R k43 43 w51 w.heap.size (fun _ => True) (.slice (some ad216) t202.length co13) t202) := ⟨by rw [← hq_]; exact (fr_ HO_3.out)⟩; have n1_ : Aside0 (Below w.heap.size w w51) := ⟨by rw [← hq_]; exact (bel_ HB.out)⟩; clear HO_3 HB hq_; have HO_3 := n0_; have HB := n1_; clear n0_ n1_))
                     have n0_ := Aside0.mk (Kd.R_drew HO_3.out)
                     have n1_ := Aside0.mk (below_drew1 HB.out)
                     clear HO_3
                     clear HB
                     have HO_3 := n0_
                     have HB := n1_
                     clear n0_ n1_
                     have q53 : ((ji38) : Int) ≤ ((t202.length : Int) : Int) := of_decide_eq_true (by first | (with_reducible assumption) | assumption)
                     obtain ⟨i053, hi053, _, hsz53, _⟩ := info_parts info43
                     have hroom53 : t202.length ≤ co13 := (Kd.R_reads' HO_3.out).2.1
                     have hC53 : Kd.C k43 _ (some ad216) t202.length t202 := (Kd.R_reads' HO_3.out).2.2
                     have hcut53 := cut_to (P := Try.prog) 38 43 .i64 Try.underlying38 hi053 (some ad216) t202.length co13 (ji38) (of_decide_eq_true (by first | (with_reducible assumption) | assumption)) q53 hroom53
                     have hr53 := Kd.C_take (m := ((ji38) : Int).toNat) hC53 (by omega)
                     have hy53 : y221.length = ((ji38) : Int).toNat := (by rw [Ny221.out, List.length_take]; omega)
                     rw [← Ny221.out] at hr53
                     rw [← hy53] at hcut53
                     have HR224 := Aside0.mk hr53
                     have HC224 := Aside0.mk (show y221.length ≤ co13 from by omega)
                     clear hr53 hC53 hroom53 hi053 hsz53
                     have KY53 := Aside0.mk hy53
                     clear hy53
                     have KL53 := Aside0.mk (show ((ji38) : Int).toNat ≤ t202.length from by omega)
                     replace q53 := eq_true q53
                     have q54 : ((ji42) : Int) ≤ ((t202.length : Int) : Int) := of_decide_eq_true (by first | (with_reducible assumption) | assumption)
                     obtain ⟨i054, hi054, _, hsz54, _⟩ := info_parts info43
                     have hroom54 : t202.length ≤ co13 := (Kd.R_reads' HO_3.out).2.1
                     have hC54 : Kd.C k43 _ (some ad216) t202.length t202 := (Kd.R_reads' HO_3.out).2.2
                     have q054 : (0 : Int) ≤ ((ji42) : Int) := of_decide_eq_true (by first | (with_reducible assumption) | assumption)
                     have hcut54 := cut_from (P := Try.prog) 38 43 .i64 Try.underlying38 hi054 2 hsz54 (some ad216) t202.length co13 (ji42) q054 q54
                     have hr54 := Kd.C_drop (m := ((ji42) : Int).toNat) (c := co13) hC54 (by omega) hroom54
                     obtain ⟨A54, hA54⟩ : ∃ A1, A1 = (if co13 = ((ji42) : Int).toNat then (some ad216) else ((some ad216) : Option Addr).map (·.add (((ji42) : Int).toNat * 2))) := ⟨_, rfl⟩
                     obtain ⟨c54, hc54⟩ : ∃ c1, c1 = co13 - ((ji42) : Int).toNat := ⟨_, rfl⟩
                     have hy54 : y228.length = t202.length - ((ji42) : Int).toNat := (by rw [Ny228.out, List.length_drop] <;> omega)
                     rw [show (t202).drop ((ji42) : Int).toNat = y228 from Ny228.out.symm] at hr54
                     replace hr54 : Kd.C k43 _ A54 y228.length y228 := (by rw [hA54]; exact hr54)
                     rw [← hy54, ← hA54, ← hc54] at hcut54
                     have HR231 := Aside0.mk hr54
                     have HC231 := Aside0.mk (show y228.length ≤ c54 from by rw [hy54, hc54]; exact Nat.sub_le_sub_right hroom54 _)
                     clear hr54 hC54 hroom54 hi054 hsz54 hc54
                     have KY54 := Aside0.mk hy54
                     have KA54 := Aside0.mk hA54
                     clear hy54 hA54
                     have KL54 := Aside0.mk (show ((ji42) : Int).toNat ≤ t202.length from by omega)
                     replace q54 := eq_true q54
                     refine start_ (n := 11) (S := fun w' => True) (ds := []) (bs 11 0) (by kernel_rfl) rfl rfl trivial (fun hHeld => ?_); refine with_tabW laws_FnRested.tab23 laws_FnRested.bits23 (fun HT_ HW_ => ?_)
                     generalize w51.drew = w52 at HO_3 HB HR224 HR231 hHeld ⊢
                     refine pu_ 1 93 HT_ (bs 11 2) rfl rfl ?_
                     refine pu_ 2 94 HT_ (bs 11 6) rfl rfl ?_
                     refine pu_ 3 95 HT_ (bs 11 14) rfl rfl ?_
                     refine pu_ 5 97 HT_ (bs 11 46) rfl rfl ?_
                     refine pu_ 6 98 HT_ (bs 11 110) rfl rfl ?_
                     refine pu_ 7 99 HT_ (bs 11 238) rfl rfl ?_
                     refine pu_ 8 100 HT_ (bs 11 494) rfl rfl ?_
                     refine one_ (i := 0) (N := some 92) (bs 11 495) rfl rfl (one_of HT_.out (by kernel_rfl)) (by decide) (fun K hK => ?_)
                     refine Kd.R_lit_step k43 _ 43 ?hg (N := 92) ?hd (xs := ([] : List (S43))) (inner := []) (ok := fun _ => True) (okp := fun _ => True) ?hr ?hp (fun _ hk => hk) trivial (Below.refl _ _) (Nat.le_refl _) (by simp) ?_; (case hd => rfl); (case hg => rfl); (case hr => first | (go_simp; done) | (go_simp; rfl)); (case hp => exact (Reps.none _ _))
                     intro v219 w55 ho56 hb hg_ hnew_
                     clear hg_ hnew_
                     (first | rw [← Ny218.out] at ho56 | (simp only [Int.reduceToNat] at ho56; rw [← Ny218.out] at ho56))
                     have n0_ := Aside0.mk (Kd.R_elder' (fr_ HO_3.out) (Kd.R_base ho56) hb)
                     have n1_ := Aside0.mk (Kd.R_lower (Kd.R_new' ho56 (Kd.R_lt (fr_ HO_3.out))) (below_size (bel_ HB.out)))
                     have n2_ := Aside0.mk (Kd.C_below (by repeat (first | (with_reducible exact HR224.out) | (with_reducible refine Kd.C_alloc ?_ _) | (with_reducible refine Kd.C_drewN ?_ _) | (with_reducible refine Kd.C_drew ?_) | exact HR224.out)) hb)
                     have n3_ := Aside0.mk (Kd.C_below (by repeat (first | (with_reducible exact HR231.out) | (with_reducible refine Kd.C_alloc ?_ _) | (with_reducible refine Kd.C_drewN ?_ _) | (with_reducible refine Kd.C_drew ?_) | exact HR231.out)) hb)
                     have n4_ := Aside0.mk (below_step (bel_ HB.out) hb)
                     clear HO_3
                     clear HR224
                     clear HR231
                     clear HB
                     have HO_3 := n0_
                     have HO220 := n1_
                     have HR224 := n2_
                     have HR231 := n3_
                     have HB := n4_
                     clear n0_ n1_ n2_ n3_ n4_
                     clear hb ho56
                     refine hK.out _ _ trivial (fun hHeld => ?_)
                     clear hK K
                     refine norm_ (a' := ?_) ?_ ?_
                     rotate_left
                     ·show Act.put _ (some 92) _ = _
                      simp only [Act.put, sA_, sZ_, sS_, i64_w, i32_w]
                      rfl
                     refine one_ (i := 4) (N := some 96) (bs 11 511) rfl rfl (one_of HT_.out (by kernel_rfl)) (by decide) (fun K hK => ?_)
                     refine Kd.R_append_rows_step k43 (w0 := w) w.heap.size (by rfl) (.tmp 92) (.tmp 95) 38 43 (.agg #[(.int .i64 0), (.int .i64 0)]) 16 rfl Try.underlying38 info43 rfl (by decide) (by omega) v219 y218 y221 _ _ _ (fun k_ => some k_ ≠ (.slice (some ad216) t202.length co13 : Value).ownBlock) (fun _ => False) rfl rfl ?aO ?aR (fun _ _ h => h) (fun _ h => h.elim) ?aF ?aB ?aS ?aL ?_
                     (case aR => repeat (first | exact (by repeat (first | (with_reducible exact HR224.out) | (with_reducible refine Kd.C_alloc ?_ _) | (with_reducible refine Kd.C_drewN ?_ _) | (with_reducible refine Kd.C_drew ?_) | exact HR224.out)) | (with_reducible refine Kd.C_alloc ?_ _) | (with_reducible refine Kd.C_drewN ?_ _) | (with_reducible refine Kd.C_drew ?_)))
                     (case aB => exact (bel_ HB.out))
                     (case aF => exact (fun k_ hk => Kd.fresh' (Kd.R_lt (fr_ HO_3.out)) k_ hk))
                     (case aO => exact (by (with_reducible repeat (first | apply Kd.R_alloc | apply Kd.R_drewN | apply Kd.R_drew)); exact Kd.R_mono HO220.out (fun _ hk => hk.2)))
                     (case aS => exact (below_size (bel_ HB.out)))
                     (case aL => have := LMc41.out; omega)
                     intro v226 w57 ho hb hg hat
                     rw [← Ny225.out] at ho
                     have n0_ := Aside0.mk (Kd.R_after (ok := (fun _ => True)) (fr_ HO_3.out) hg hat)
                     have n1_ := Aside0.mk (hb)
                     have n2_ := Aside0.mk ((show Kd.C k43 w57 (some ad216) y221.length y221 from by rw [Ny221.out]; exact Kd.C_take (m := ((ji38) : Int).toNat) ((Kd.R_reads' (Kd.R_after (ok := (fun _ => True)) (fr_ HO_3.out) hg hat)).2.2) KL53.out))
                     have n3_ := Aside0.mk ((show Kd.C k43 w57 A54 y228.length y228 from by rw [Ny228.out, KA54.out]; exact Kd.C_drop (m := ((ji42) : Int).toNat) (c := co13) ((Kd.R_reads' (Kd.R_after (ok := (fun _ => True)) (fr_ HO_3.out) hg hat)).2.2) KL54.out ((Kd.R_reads' (Kd.R_after (ok := (fun _ => True)) (fr_ HO_3.out) hg hat)).2.1)))
                     have n4_ := Aside0.mk (ho)
                     clear HO_3
                     clear HB
                     clear HR224
                     clear HR231
                     clear HO220
                     have HO_3 := n0_
                     have HB := n1_
                     have HR224 := n2_
                     have HR231 := n3_
                     have HO227 := n4_
                     clear n0_ n1_ n2_ n3_ n4_
                     clear ho hb hg hat
                     refine hK.out _ _ trivial (fun hHeld => ?_)
                     clear hK K
                     refine norm_ (a' := ?_) ?_ ?_
                     rotate_left
                     ·show Act.put _ (some 96) _ = _
                      simp only [Act.put, sA_, sZ_, sS_, i64_w, i32_w]
                      rfl
                     refine one_ (i := 9) (N := some 101) (bs 11 1023) rfl rfl (one_of HT_.out (by kernel_rfl)) (by decide) (fun K hK => ?_)
                     refine Kd.R_append_rows_step k43 (w0 := w) w.heap.size (by rfl) (.tmp 96) (.tmp 100) 38 43 (.agg #[(.int .i64 0), (.int .i64 0)]) 16 rfl Try.underlying38 info43 rfl (by decide) (by omega) v226 y225 y228 _ _ _ (fun k_ => some k_ ≠ (.slice (some ad216) t202.length co13 : Value).ownBlock) (fun _ => False) rfl rfl ?aO ?aR (fun _ _ h => h) (fun _ h => h.elim) ?aF ?aB ?aS ?aL ?_
                     (case aR => repeat (first | exact (by repeat (first | (with_reducible exact HR231.out) | (with_reducible refine Kd.C_alloc ?_ _) | (with_reducible refine Kd.C_drewN ?_ _) | (with_reducible refine Kd.C_drew ?_) | exact HR231.out)) | (with_reducible refine Kd.C_alloc ?_ _) | (with_reducible refine Kd.C_drewN ?_ _) | (with_reducible refine Kd.C_drew ?_)))
                     (case aB => exact (bel_ HB.out))
                     (case aF => exact (fun k_ hk => Kd.fresh' (Kd.R_lt (fr_ HO_3.out)) k_ hk))
                     (case aO => exact (fr_ HO227.out))
                     (case aS => exact (below_size (bel_ HB.out)))
                     (case aL => have := LMc45.out; omega)
                     intro v233 w58 ho hb hg hat
                     rw [← Ny232.out] at ho
                     have n0_ := Aside0.mk (Kd.R_after (ok := (fun _ => True)) (fr_ HO_3.out) hg hat)
                     have n1_ := Aside0.mk (hb)
                     have n2_ := Aside0.mk ((show Kd.C k43 w58 (some ad216) y221.length y221 from by rw [Ny221.out]; exact Kd.C_take (m := ((ji38) : Int).toNat) ((Kd.R_reads' (Kd.R_after (ok := (fun _ => True)) (fr_ HO_3.out) hg hat)).2.2) KL53.out))
                     have n3_ := Aside0.mk ((show Kd.C k43 w58 A54 y228.length y228 from by rw [Ny228.out, KA54.out]; exact Kd.C_drop (m := ((ji42) : Int).toNat) (c := co13) ((Kd.R_reads' (Kd.R_after (ok := (fun _ => True)) (fr_ HO_3.out) hg hat)).2.2) KL54.out ((Kd.R_reads' (Kd.R_after (ok := (fun _ => True)) (fr_ HO_3.out) hg hat)).2.1)))
                     have n4_ := Aside0.mk (ho)
                     clear HO_3
                     clear HB
                     clear HR224
                     clear HR231
                     clear HO227
                     have HO_3 := n0_
                     have HB := n1_
                     have HR224 := n2_
                     have HR231 := n3_
                     have HO234 := n4_
                     clear n0_ n1_ n2_ n3_ n4_
                     clear ho hb hg hat
                     refine hK.out _ _ trivial (fun hHeld => ?_)
                     clear hK K
                     refine norm_ (a' := ?_) ?_ ?_
                     rotate_left
                     ·show Act.put _ (some 101) _ = _
                      simp only [Act.put, sA_, sZ_, sS_, i64_w, i32_w]
                      rfl
                     refine pu_ 10 11 HT_ (bs 11 2047) rfl rfl ?_
                     refine done_ (done_of HT_.out (by kernel_rfl)) ?_
                     obtain ⟨Ao59, co59, eo59⟩ := Kd.R_slice HO234.out
                     subst eo59
                     try go_wp2_with (first | ((with_reducible refine gate_callee (f := 17) rfl ?_); refine goesL_ (some 105) rfl rfl Try.func17 (by kernel_rfl) rfl #[.slice Ao59 y232.length co59, .int .i64 (wrap64 (1440 + (wrap64 (t213 * 12))))] rfl (by (try simp only [List.map_toArray, List.map_cons, List.map_nil]); first | done | rfl | (simp only [List.length_drop, List.length_take]; rfl)) ?_; (with_reducible refine (impl_RestCode.calls k1 _ _ y232 (wrap64 (1440 + (wrap64 (t213 * 12)))) t235 t236 _ ?side1 ?side2 A46.out).mono ?_); (case side1 => repeat (first | exact (Kd.R_reads' HO234.out).2.2 | (with_reducible refine Kd.C_alloc ?_ _) | (with_reducible refine Kd.C_drewN ?_ _) | (with_reducible refine Kd.C_drew ?_))); (case side2 => exact (Kd.R_reads' HO234.out).2.1); rintro e w60 ⟨rfl, hb⟩; refine ⟨_, rfl, ?_⟩; have n0_ := Aside0.mk (Kd.R_below (fr_ HO_3.out) hb); have n1_ := Aside0.mk (Kd.R_below (fr_ HO234.out) hb); have n2_ := Aside0.mk (Kd.C_below (by repeat (first | (with_reducible exact HR224.out) | (with_reducible refine Kd.C_alloc ?_ _) | (with_reducible refine Kd.C_drewN ?_ _) | (with_reducible refine Kd.C_drew ?_) | exact HR224.out)) hb); have n3_ := Aside0.mk (Kd.C_below (by repeat (first | (with_reducible exact HR231.out) | (with_reducible refine Kd.C_alloc ?_ _) | (with_reducible refine Kd.C_drewN ?_ _) | (with_reducible refine Kd.C_drew ?_) | exact HR231.out)) hb); have n4_ := Aside0.mk (below_step (bel_ HB.out) hb); clear HO_3; clear HO234; clear HR224; clear HR231; clear HB; have HO_3 := n0_; have HO234 := n1_; have HR224 := n2_; have HR231 := n3_; have HB := n4_; clear n0_ n1_ n2_ n3_ n4_; (try clear hb); (try clear hb2); (try clear hk); (try clear hi)))
                     go_ret
                     exact ⟨by first | rfl | (simp [errW_none, errW_some] <;> rfl) | (simp only [← hji31, ← hji38, ← hji42]; first | rfl | (simp [errW_none, errW_some] <;> rfl)) | (simp [*, errW_none, errW_some] <;> rfl), bel_ HB.out⟩
                    ·rw [if_neg c49] at H
                     have c49b0 : (t236 == (-1)) = false := beq_eq_false_iff_ne.mpr c49
                     have c49b1 : (t236 != (-1)) = true := bne_iff_ne.mpr c49
                     obtain rfl := Option.some.inj H
                     try go_wp2_with (first | ((with_reducible refine gate_callee (f := 16) rfl ?_); refine goesL_ (some 55) rfl rfl Try.func16 (by kernel_rfl) rfl #[.slice Ao13 t202.length co13, .int .i64 0, .int .i64 100000000] rfl (by (try simp only [List.map_toArray, List.map_cons, List.map_nil]); first | done | rfl | (simp only [List.length_drop, List.length_take]; rfl)) ?_; (with_reducible refine (impl_WorkIn.calls k1 _ _ t202 0 100000000 t212 _ ?side1 ?side2 A21.out).mono ?_); (case side1 => repeat (first | exact (Kd.R_reads' HO_3.out).2.2 | (with_reducible refine Kd.C_alloc ?_ _) | (with_reducible refine Kd.C_drewN ?_ _) | (with_reducible refine Kd.C_drew ?_))); (case side2 => exact (Kd.R_reads' HO_3.out).2.1); rintro e w61 ⟨rfl, hb⟩; refine ⟨_, rfl, ?_⟩; have n0_ := Aside0.mk (Kd.R_below (fr_ HO_3.out) hb); have n1_ := Aside0.mk (below_step (bel_ HB.out) hb); clear HO_3; clear HB; have HO_3 := n0_; have HB := n1_; clear n0_ n1_; (try clear hb); (try clear hb2); (try clear hk); (try clear hi)) | ((with_reducible refine gate_callee (f := 13) rfl ?_); refine goesL_ (some 59) rfl rfl Try.func13 (by kernel_rfl) rfl #[.slice A0 l0.length c0, .int .i64 2] rfl (by (try simp only [List.map_toArray, List.map_cons, List.map_nil]); first | done | rfl | (simp only [List.length_drop, List.length_take]; rfl)) ?_; (with_reducible refine (laws_at.calls _ _ l0 2 t213 _ ?side1 ?side2 A23.out).mono ?_); (case side1 => repeat (first | exact (Kd.C_below HR0.out HB.out) | (with_reducible refine Kd.C_alloc ?_ _) | (with_reducible refine Kd.C_drewN ?_ _) | (with_reducible refine Kd.C_drew ?_))); (case side2 => exact HC0.out); rintro e w' ⟨rfl, ⟨nd, rfl⟩⟩; refine ⟨_, rfl, ?_⟩) | ((with_reducible refine gate_callee (f := 17) rfl ?_); refine goesL_ (some 65) rfl rfl Try.func17 (by kernel_rfl) rfl #[.slice Ao13 t202.length co13, .int .i64 (wrap64 (1440 + (wrap64 (t213 * 12))))] rfl (by (try simp only [List.map_toArray, List.map_cons, List.map_nil]); first | done | rfl | (simp only [List.length_drop, List.length_take]; rfl)) ?_; (with_reducible refine (impl_RestCode.calls k1 _ _ t202 (wrap64 (1440 + (wrap64 (t213 * 12)))) t214 t215 _ ?side1 ?side2 A24.out).mono ?_); (case side1 => repeat (first | exact (Kd.R_reads' HO_3.out).2.2 | (with_reducible refine Kd.C_alloc ?_ _) | (with_reducible refine Kd.C_drewN ?_ _) | (with_reducible refine Kd.C_drew ?_))); (case side2 => exact (Kd.R_reads' HO_3.out).2.1); rintro e w62 ⟨rfl, hb⟩; refine ⟨_, rfl, ?_⟩; have n0_ := Aside0.mk (Kd.R_below (fr_ HO_3.out) hb); have n1_ := Aside0.mk (below_step (bel_ HB.out) hb); clear HO_3; clear HB; have HO_3 := n0_; have HB := n1_; clear n0_ n1_; (try clear hb); (try clear hb2); (try clear hk); (try clear hi); have p216 : 0 ≤ ((ji31) : Int) := of_decide_eq_true (by first | (with_reducible assumption) | assumption); have q216 : (ji31) < (t202.length : Int) := of_decide_eq_true (by first | (with_reducible assumption) | assumption); obtain ⟨ad216, e216, hx216_0, hx216_1⟩ := at_T43 (Kd.R_reads' HO_3.out).2.2 (ji31) p216 q216; cases e216; replace p216 := eq_true p216; replace q216 := eq_true q216) | ((with_reducible refine gate_callee (f := 13) rfl ?_); refine goesL_ (some 88) rfl rfl Try.func13 (by kernel_rfl) rfl #[.slice A0 l0.length c0, .int .i64 3] rfl (by (try simp only [List.map_toArray, List.map_cons, List.map_nil]); first | done | rfl | (simp only [List.length_drop, List.length_take]; rfl)) ?_; (with_reducible refine (laws_at.calls _ _ l0 3 t217 _ ?side1 ?side2 A37.out).mono ?_); (case side1 => repeat (first | exact (Kd.C_below HR0.out HB.out) | (with_reducible refine Kd.C_alloc ?_ _) | (with_reducible refine Kd.C_drewN ?_ _) | (with_reducible refine Kd.C_drew ?_))); (case side2 => exact HC0.out); rintro e w' ⟨rfl, ⟨nd, rfl⟩⟩; refine ⟨_, rfl, ?_⟩))
                     (try ((first | ((conv in (World.drewN w62 _) => skip); generalize hq_ : World.drewN w62 _ = w62) | (rw [drewN_self w62]; generalize hq_ : World.drewN w62 _ = w62)); have n0_ : Aside0 (Kd.R k43 43 w62 w.heap.size (fun _ => True) (.slice (some ad216) t202.length co13) t202) := ⟨by rw [← hq_]; exact (fr_ HO_3.out)⟩; have n1_ : Aside0 (Below w.heap.size w w62) := ⟨by rw [← hq_]; exact (bel_ HB.out)⟩; clear HO_3 HB hq_; have HO_3 := n0_; have HB := n1_; clear n0_ n1_))
                     have n0_ := Aside0.mk (Kd.R_drew HO_3.out)
                     have n1_ := Aside0.mk (below_drew1 HB.out)
                     clear HO_3
                     clear HB
                     have HO_3 := n0_
                     have HB := n1_
                     clear n0_ n1_
                     have q64 : ((ji38) : Int) ≤ ((t202.length : Int) : Int) := of_decide_eq_true (by first | (with_reducible assumption) | assumption)
                     obtain ⟨i064, hi064, _, hsz64, _⟩ := info_parts info43
                     have hroom64 : t202.length ≤ co13 := (Kd.R_reads' HO_3.out).2.1
                     have hC64 : Kd.C k43 _ (some ad216) t202.length t202 := (Kd.R_reads' HO_3.out).2.2
                     have hcut64 := cut_to (P := Try.prog) 38 43 .i64 Try.underlying38 hi064 (some ad216) t202.length co13 (ji38) (of_decide_eq_true (by first | (with_reducible assumption) | assumption)) q64 hroom64
                     have hr64 := Kd.C_take (m := ((ji38) : Int).toNat) hC64 (by omega)
                     have hy64 : y221.length = ((ji38) : Int).toNat := (by rw [Ny221.out, List.length_take]; omega)
                     rw [← Ny221.out] at hr64
                     rw [← hy64] at hcut64
                     have HR224 := Aside0.mk hr64
                     have HC224 := Aside0.mk (show y221.length ≤ co13 from by omega)
                     clear hr64 hC64 hroom64 hi064 hsz64
                     have KY64 := Aside0.mk hy64
                     clear hy64
                     have KL64 := Aside0.mk (show ((ji38) : Int).toNat ≤ t202.length from by omega)
                     replace q64 := eq_true q64
                     have q65 : ((ji42) : Int) ≤ ((t202.length : Int) : Int) := of_decide_eq_true (by first | (with_reducible assumption) | assumption)
                     obtain ⟨i065, hi065, _, hsz65, _⟩ := info_parts info43
                     have hroom65 : t202.length ≤ co13 := (Kd.R_reads' HO_3.out).2.1
                     have hC65 : Kd.C k43 _ (some ad216) t202.length t202 := (Kd.R_reads' HO_3.out).2.2
                     have q065 : (0 : Int) ≤ ((ji42) : Int) := of_decide_eq_true (by first | (with_reducible assumption) | assumption)
                     have hcut65 := cut_from (P := Try.prog) 38 43 .i64 Try.underlying38 hi065 2 hsz65 (some ad216) t202.length co13 (ji42) q065 q65
                     have hr65 := Kd.C_drop (m := ((ji42) : Int).toNat) (c := co13) hC65 (by omega) hroom65
                     obtain ⟨A65, hA65⟩ : ∃ A1, A1 = (if co13 = ((ji42) : Int).toNat then (some ad216) else ((some ad216) : Option Addr).map (·.add (((ji42) : Int).toNat * 2))) := ⟨_, rfl⟩
                     obtain ⟨c65, hc65⟩ : ∃ c1, c1 = co13 - ((ji42) : Int).toNat := ⟨_, rfl⟩
                     have hy65 : y228.length = t202.length - ((ji42) : Int).toNat := (by rw [Ny228.out, List.length_drop] <;> omega)
                     rw [show (t202).drop ((ji42) : Int).toNat = y228 from Ny228.out.symm] at hr65
                     replace hr65 : Kd.C k43 _ A65 y228.length y228 := (by rw [hA65]; exact hr65)
                     rw [← hy65, ← hA65, ← hc65] at hcut65
                     have HR231 := Aside0.mk hr65
                     have HC231 := Aside0.mk (show y228.length ≤ c65 from by rw [hy65, hc65]; exact Nat.sub_le_sub_right hroom65 _)
                     clear hr65 hC65 hroom65 hi065 hsz65 hc65
                     have KY65 := Aside0.mk hy65
                     have KA65 := Aside0.mk hA65
                     clear hy65 hA65
                     have KL65 := Aside0.mk (show ((ji42) : Int).toNat ≤ t202.length from by omega)
                     replace q65 := eq_true q65
                     refine start_ (n := 11) (S := fun w' => True) (ds := []) (bs 11 0) (by kernel_rfl) rfl rfl trivial (fun hHeld => ?_); refine with_tabW laws_FnRested.tab23 laws_FnRested.bits23 (fun HT_ HW_ => ?_)
                     generalize w62.drew = w63 at HO_3 HB HR224 HR231 hHeld ⊢
                     refine pu_ 1 93 HT_ (bs 11 2) rfl rfl ?_
                     refine pu_ 2 94 HT_ (bs 11 6) rfl rfl ?_
                     refine pu_ 3 95 HT_ (bs 11 14) rfl rfl ?_
                     refine pu_ 5 97 HT_ (bs 11 46) rfl rfl ?_
                     refine pu_ 6 98 HT_ (bs 11 110) rfl rfl ?_
                     refine pu_ 7 99 HT_ (bs 11 238) rfl rfl ?_
                     refine pu_ 8 100 HT_ (bs 11 494) rfl rfl ?_
                     refine one_ (i := 0) (N := some 92) (bs 11 495) rfl rfl (one_of HT_.out (by kernel_rfl)) (by decide) (fun K hK => ?_)
                     refine Kd.R_lit_step k43 _ 43 ?hg (N := 92) ?hd (xs := ([] : List (S43))) (inner := []) (ok := fun _ => True) (okp := fun _ => True) ?hr ?hp (fun _ hk => hk) trivial (Below.refl _ _) (Nat.le_refl _) (by simp) ?_; (case hd => rfl); (case hg => rfl); (case hr => first | (go_simp; done) | (go_simp; rfl)); (case hp => exact (Reps.none _ _))
                     intro v219 w66 ho67 hb hg_ hnew_
                     clear hg_ hnew_
                     (first | rw [← Ny218.out] at ho67 | (simp only [Int.reduceToNat] at ho67; rw [← Ny218.out] at ho67))
                     have n0_ := Aside0.mk (Kd.R_elder' (fr_ HO_3.out) (Kd.R_base ho67) hb)
                     have n1_ := Aside0.mk (Kd.R_lower (Kd.R_new' ho67 (Kd.R_lt (fr_ HO_3.out))) (below_size (bel_ HB.out)))
                     have n2_ := Aside0.mk (Kd.C_below (by repeat (first | (with_reducible exact HR224.out) | (with_reducible refine Kd.C_alloc ?_ _) | (with_reducible refine Kd.C_drewN ?_ _) | (with_reducible refine Kd.C_drew ?_) | exact HR224.out)) hb)
                     have n3_ := Aside0.mk (Kd.C_below (by repeat (first | (with_reducible exact HR231.out) | (with_reducible refine Kd.C_alloc ?_ _) | (with_reducible refine Kd.C_drewN ?_ _) | (with_reducible refine Kd.C_drew ?_) | exact HR231.out)) hb)
                     have n4_ := Aside0.mk (below_step (bel_ HB.out) hb)
                     clear HO_3
                     clear HR224
                     clear HR231
                     clear HB
                     have HO_3 := n0_
                     have HO220 := n1_
                     have HR224 := n2_
                     have HR231 := n3_
                     have HB := n4_
                     clear n0_ n1_ n2_ n3_ n4_
                     clear hb ho67
                     refine hK.out _ _ trivial (fun hHeld => ?_)
                     clear hK K
                     refine norm_ (a' := ?_) ?_ ?_
                     rotate_left
                     ·show Act.put _ (some 92) _ = _
                      simp only [Act.put, sA_, sZ_, sS_, i64_w, i32_w]
                      rfl
                     refine one_ (i := 4) (N := some 96) (bs 11 511) rfl rfl (one_of HT_.out (by kernel_rfl)) (by decide) (fun K hK => ?_)
                     refine Kd.R_append_rows_step k43 (w0 := w) w.heap.size (by rfl) (.tmp 92) (.tmp 95) 38 43 (.agg #[(.int .i64 0), (.int .i64 0)]) 16 rfl Try.underlying38 info43 rfl (by decide) (by omega) v219 y218 y221 _ _ _ (fun k_ => some k_ ≠ (.slice (some ad216) t202.length co13 : Value).ownBlock) (fun _ => False) rfl rfl ?aO ?aR (fun _ _ h => h) (fun _ h => h.elim) ?aF ?aB ?aS ?aL ?_
                     (case aR => repeat (first | exact (by repeat (first | (with_reducible exact HR224.out) | (with_reducible refine Kd.C_alloc ?_ _) | (with_reducible refine Kd.C_drewN ?_ _) | (with_reducible refine Kd.C_drew ?_) | exact HR224.out)) | (with_reducible refine Kd.C_alloc ?_ _) | (with_reducible refine Kd.C_drewN ?_ _) | (with_reducible refine Kd.C_drew ?_)))
                     (case aB => exact (bel_ HB.out))
                     (case aF => exact (fun k_ hk => Kd.fresh' (Kd.R_lt (fr_ HO_3.out)) k_ hk))
                     (case aO => exact (by (with_reducible repeat (first | apply Kd.R_alloc | apply Kd.R_drewN | apply Kd.R_drew)); exact Kd.R_mono HO220.out (fun _ hk => hk.2)))
                     (case aS => exact (below_size (bel_ HB.out)))
                     (case aL => have := LMc41.out; omega)
                     intro v226 w68 ho hb hg hat
                     rw [← Ny225.out] at ho
                     have n0_ := Aside0.mk (Kd.R_after (ok := (fun _ => True)) (fr_ HO_3.out) hg hat)
                     have n1_ := Aside0.mk (hb)
                     have n2_ := Aside0.mk ((show Kd.C k43 w68 (some ad216) y221.length y221 from by rw [Ny221.out]; exact Kd.C_take (m := ((ji38) : Int).toNat) ((Kd.R_reads' (Kd.R_after (ok := (fun _ => True)) (fr_ HO_3.out) hg hat)).2.2) KL64.out))
                     have n3_ := Aside0.mk ((show Kd.C k43 w68 A65 y228.length y228 from by rw [Ny228.out, KA65.out]; exact Kd.C_drop (m := ((ji42) : Int).toNat) (c := co13) ((Kd.R_reads' (Kd.R_after (ok := (fun _ => True)) (fr_ HO_3.out) hg hat)).2.2) KL65.out ((Kd.R_reads' (Kd.R_after (ok := (fun _ => True)) (fr_ HO_3.out) hg hat)).2.1)))
                     have n4_ := Aside0.mk (ho)
                     clear HO_3
                     clear HB
                     clear HR224
                     clear HR231
                     clear HO220
                     have HO_3 := n0_
                     have HB := n1_
                     have HR224 := n2_
                     have HR231 := n3_
                     have HO227 := n4_
                     clear n0_ n1_ n2_ n3_ n4_
                     clear ho hb hg hat
                     refine hK.out _ _ trivial (fun hHeld => ?_)
                     clear hK K
                     refine norm_ (a' := ?_) ?_ ?_
                     rotate_left
                     ·show Act.put _ (some 96) _ = _
                      simp only [Act.put, sA_, sZ_, sS_, i64_w, i32_w]
                      rfl
                     refine one_ (i := 9) (N := some 101) (bs 11 1023) rfl rfl (one_of HT_.out (by kernel_rfl)) (by decide) (fun K hK => ?_)
                     refine Kd.R_append_rows_step k43 (w0 := w) w.heap.size (by rfl) (.tmp 96) (.tmp 100) 38 43 (.agg #[(.int .i64 0), (.int .i64 0)]) 16 rfl Try.underlying38 info43 rfl (by decide) (by omega) v226 y225 y228 _ _ _ (fun k_ => some k_ ≠ (.slice (some ad216) t202.length co13 : Value).ownBlock) (fun _ => False) rfl rfl ?aO ?aR (fun _ _ h => h) (fun _ h => h.elim) ?aF ?aB ?aS ?aL ?_
                     (case aR => repeat (first | exact (by repeat (first | (with_reducible exact HR231.out) | (with_reducible refine Kd.C_alloc ?_ _) | (with_reducible refine Kd.C_drewN ?_ _) | (with_reducible refine Kd.C_drew ?_) | exact HR231.out)) | (with_reducible refine Kd.C_alloc ?_ _) | (with_reducible refine Kd.C_drewN ?_ _) | (with_reducible refine Kd.C_drew ?_)))
                     (case aB => exact (bel_ HB.out))
                     (case aF => exact (fun k_ hk => Kd.fresh' (Kd.R_lt (fr_ HO_3.out)) k_ hk))
                     (case aO => exact (fr_ HO227.out))
                     (case aS => exact (below_size (bel_ HB.out)))
                     (case aL => have := LMc45.out; omega)
                     intro v233 w69 ho hb hg hat
                     rw [← Ny232.out] at ho
                     have n0_ := Aside0.mk (Kd.R_after (ok := (fun _ => True)) (fr_ HO_3.out) hg hat)
                     have n1_ := Aside0.mk (hb)
                     have n2_ := Aside0.mk ((show Kd.C k43 w69 (some ad216) y221.length y221 from by rw [Ny221.out]; exact Kd.C_take (m := ((ji38) : Int).toNat) ((Kd.R_reads' (Kd.R_after (ok := (fun _ => True)) (fr_ HO_3.out) hg hat)).2.2) KL64.out))
                     have n3_ := Aside0.mk ((show Kd.C k43 w69 A65 y228.length y228 from by rw [Ny228.out, KA65.out]; exact Kd.C_drop (m := ((ji42) : Int).toNat) (c := co13) ((Kd.R_reads' (Kd.R_after (ok := (fun _ => True)) (fr_ HO_3.out) hg hat)).2.2) KL65.out ((Kd.R_reads' (Kd.R_after (ok := (fun _ => True)) (fr_ HO_3.out) hg hat)).2.1)))
                     have n4_ := Aside0.mk (ho)
                     clear HO_3
                     clear HB
                     clear HR224
                     clear HR231
                     clear HO227
                     have HO_3 := n0_
                     have HB := n1_
                     have HR224 := n2_
                     have HR231 := n3_
                     have HO234 := n4_
                     clear n0_ n1_ n2_ n3_ n4_
                     clear ho hb hg hat
                     refine hK.out _ _ trivial (fun hHeld => ?_)
                     clear hK K
                     refine norm_ (a' := ?_) ?_ ?_
                     rotate_left
                     ·show Act.put _ (some 101) _ = _
                      simp only [Act.put, sA_, sZ_, sS_, i64_w, i32_w]
                      rfl
                     refine pu_ 10 11 HT_ (bs 11 2047) rfl rfl ?_
                     refine done_ (done_of HT_.out (by kernel_rfl)) ?_
                     obtain ⟨Ao70, co70, eo70⟩ := Kd.R_slice HO234.out
                     subst eo70
                     try go_wp2_with (first | ((with_reducible refine gate_callee (f := 17) rfl ?_); refine goesL_ (some 105) rfl rfl Try.func17 (by kernel_rfl) rfl #[.slice Ao70 y232.length co70, .int .i64 (wrap64 (1440 + (wrap64 (t213 * 12))))] rfl (by (try simp only [List.map_toArray, List.map_cons, List.map_nil]); first | done | rfl | (simp only [List.length_drop, List.length_take]; rfl)) ?_; (with_reducible refine (impl_RestCode.calls k1 _ _ y232 (wrap64 (1440 + (wrap64 (t213 * 12)))) t235 t236 _ ?side1 ?side2 A46.out).mono ?_); (case side1 => repeat (first | exact (Kd.R_reads' HO234.out).2.2 | (with_reducible refine Kd.C_alloc ?_ _) | (with_reducible refine Kd.C_drewN ?_ _) | (with_reducible refine Kd.C_drew ?_))); (case side2 => exact (Kd.R_reads' HO234.out).2.1); rintro e w71 ⟨rfl, hb⟩; refine ⟨_, rfl, ?_⟩; have n0_ := Aside0.mk (Kd.R_below (fr_ HO_3.out) hb); have n1_ := Aside0.mk (Kd.R_below (fr_ HO234.out) hb); have n2_ := Aside0.mk (Kd.C_below (by repeat (first | (with_reducible exact HR224.out) | (with_reducible refine Kd.C_alloc ?_ _) | (with_reducible refine Kd.C_drewN ?_ _) | (with_reducible refine Kd.C_drew ?_) | exact HR224.out)) hb); have n3_ := Aside0.mk (Kd.C_below (by repeat (first | (with_reducible exact HR231.out) | (with_reducible refine Kd.C_alloc ?_ _) | (with_reducible refine Kd.C_drewN ?_ _) | (with_reducible refine Kd.C_drew ?_) | exact HR231.out)) hb); have n4_ := Aside0.mk (below_step (bel_ HB.out) hb); clear HO_3; clear HO234; clear HR224; clear HR231; clear HB; have HO_3 := n0_; have HO234 := n1_; have HR224 := n2_; have HR231 := n3_; have HB := n4_; clear n0_ n1_ n2_ n3_ n4_; (try clear hb); (try clear hb2); (try clear hk); (try clear hi)))
                     go_ret
                     exact ⟨by first | rfl | (simp [errW_none, errW_some] <;> rfl) | (simp only [← hji31, ← hji38, ← hji42]; first | rfl | (simp [errW_none, errW_some] <;> rfl)) | (simp [*, errW_none, errW_some] <;> rfl), bel_ HB.out⟩
                   ·rw [if_neg c48] at H
                    have c48b0 : (t235 == 0) = false := beq_eq_false_iff_ne.mpr c48
                    have c48b1 : (t235 != 0) = true := bne_iff_ne.mpr c48
                    obtain rfl := Option.some.inj H
                    try go_wp2_with (first | ((with_reducible refine gate_callee (f := 16) rfl ?_); refine goesL_ (some 55) rfl rfl Try.func16 (by kernel_rfl) rfl #[.slice Ao13 t202.length co13, .int .i64 0, .int .i64 100000000] rfl (by (try simp only [List.map_toArray, List.map_cons, List.map_nil]); first | done | rfl | (simp only [List.length_drop, List.length_take]; rfl)) ?_; (with_reducible refine (impl_WorkIn.calls k1 _ _ t202 0 100000000 t212 _ ?side1 ?side2 A21.out).mono ?_); (case side1 => repeat (first | exact (Kd.R_reads' HO_3.out).2.2 | (with_reducible refine Kd.C_alloc ?_ _) | (with_reducible refine Kd.C_drewN ?_ _) | (with_reducible refine Kd.C_drew ?_))); (case side2 => exact (Kd.R_reads' HO_3.out).2.1); rintro e w72 ⟨rfl, hb⟩; refine ⟨_, rfl, ?_⟩; have n0_ := Aside0.mk (Kd.R_below (fr_ HO_3.out) hb); have n1_ := Aside0.mk (below_step (bel_ HB.out) hb); clear HO_3; clear HB; have HO_3 := n0_; have HB := n1_; clear n0_ n1_; (try clear hb); (try clear hb2); (try clear hk); (try clear hi)) | ((with_reducible refine gate_callee (f := 13) rfl ?_); refine goesL_ (some 59) rfl rfl Try.func13 (by kernel_rfl) rfl #[.slice A0 l0.length c0, .int .i64 2] rfl (by (try simp only [List.map_toArray, List.map_cons, List.map_nil]); first | done | rfl | (simp only [List.length_drop, List.length_take]; rfl)) ?_; (with_reducible refine (laws_at.calls _ _ l0 2 t213 _ ?side1 ?side2 A23.out).mono ?_); (case side1 => repeat (first | exact (Kd.C_below HR0.out HB.out) | (with_reducible refine Kd.C_alloc ?_ _) | (with_reducible refine Kd.C_drewN ?_ _) | (with_reducible refine Kd.C_drew ?_))); (case side2 => exact HC0.out); rintro e w' ⟨rfl, ⟨nd, rfl⟩⟩; refine ⟨_, rfl, ?_⟩) | ((with_reducible refine gate_callee (f := 17) rfl ?_); refine goesL_ (some 65) rfl rfl Try.func17 (by kernel_rfl) rfl #[.slice Ao13 t202.length co13, .int .i64 (wrap64 (1440 + (wrap64 (t213 * 12))))] rfl (by (try simp only [List.map_toArray, List.map_cons, List.map_nil]); first | done | rfl | (simp only [List.length_drop, List.length_take]; rfl)) ?_; (with_reducible refine (impl_RestCode.calls k1 _ _ t202 (wrap64 (1440 + (wrap64 (t213 * 12)))) t214 t215 _ ?side1 ?side2 A24.out).mono ?_); (case side1 => repeat (first | exact (Kd.R_reads' HO_3.out).2.2 | (with_reducible refine Kd.C_alloc ?_ _) | (with_reducible refine Kd.C_drewN ?_ _) | (with_reducible refine Kd.C_drew ?_))); (case side2 => exact (Kd.R_reads' HO_3.out).2.1); rintro e w73 ⟨rfl, hb⟩; refine ⟨_, rfl, ?_⟩; have n0_ := Aside0.mk (Kd.R_below (fr_ HO_3.out) hb); have n1_ := Aside0.mk (below_step (bel_ HB.out) hb); clear HO_3; clear HB; have HO_3 := n0_; have HB := n1_; clear n0_ n1_; (try clear hb); (try clear hb2); (try clear hk); (try clear hi); have p216 : 0 ≤ ((ji31) : Int) := of_decide_eq_true (by first | (with_reducible assumption) | assumption); have q216 : (ji31) < (t202.length : Int) := of_decide_eq_true (by first | (with_reducible assumption) | assumption); obtain ⟨ad216, e216, hx216_0, hx216_1⟩ := at_T43 (Kd.R_reads' HO_3.out).2.2 (ji31) p216 q216; cases e216; replace p216 := eq_true p216; replace q216 := eq_true q216) | ((with_reducible refine gate_callee (f := 13) rfl ?_); refine goesL_ (some 88) rfl rfl Try.func13 (by kernel_rfl) rfl #[.slice A0 l0.length c0, .int .i64 3] rfl (by (try simp only [List.map_toArray, List.map_cons, List.map_nil]); first | done | rfl | (simp only [List.length_drop, List.length_take]; rfl)) ?_; (with_reducible refine (laws_at.calls _ _ l0 3 t217 _ ?side1 ?side2 A37.out).mono ?_); (case side1 => repeat (first | exact (Kd.C_below HR0.out HB.out) | (with_reducible refine Kd.C_alloc ?_ _) | (with_reducible refine Kd.C_drewN ?_ _) | (with_reducible refine Kd.C_drew ?_))); (case side2 => exact HC0.out); rintro e w' ⟨rfl, ⟨nd, rfl⟩⟩; refine ⟨_, rfl, ?_⟩))
                    (try ((first | ((conv in (World.drewN w73 _) => skip); generalize hq_ : World.drewN w73 _ = w73) | (rw [drewN_self w73]; generalize hq_ : World.drewN w73 _ = w73)); have n0_ : Aside0 (Kd.R k43 43 w73 w.heap.size (fun _ => True) (.slice (some ad216) t202.length co13) t202) := ⟨by rw [← hq_]; exact (fr_ HO_3.out)⟩; have n1_ : Aside0 (Below w.heap.size w w73) := ⟨by rw [← hq_]; exact (bel_ HB.out)⟩; clear HO_3 HB hq_; have HO_3 := n0_; have HB := n1_; clear n0_ n1_))
                    have n0_ := Aside0.mk (Kd.R_drew HO_3.out)
                    have n1_ := Aside0.mk (below_drew1 HB.out)
                    clear HO_3
                    clear HB
                    have HO_3 := n0_
                    have HB := n1_
                    clear n0_ n1_
                    have q75 : ((ji38) : Int) ≤ ((t202.length : Int) : Int) := of_decide_eq_true (by first | (with_reducible assumption) | assumption)
                    obtain ⟨i075, hi075, _, hsz75, _⟩ := info_parts info43
                    have hroom75 : t202.length ≤ co13 := (Kd.R_reads' HO_3.out).2.1
                    have hC75 : Kd.C k43 _ (some ad216) t202.length t202 := (Kd.R_reads' HO_3.out).2.2
                    have hcut75 := cut_to (P := Try.prog) 38 43 .i64 Try.underlying38 hi075 (some ad216) t202.length co13 (ji38) (of_decide_eq_true (by first | (with_reducible assumption) | assumption)) q75 hroom75
                    have hr75 := Kd.C_take (m := ((ji38) : Int).toNat) hC75 (by omega)
                    have hy75 : y221.length = ((ji38) : Int).toNat := (by rw [Ny221.out, List.length_take]; omega)
                    rw [← Ny221.out] at hr75
                    rw [← hy75] at hcut75
                    have HR224 := Aside0.mk hr75
                    have HC224 := Aside0.mk (show y221.length ≤ co13 from by omega)
                    clear hr75 hC75 hroom75 hi075 hsz75
                    have KY75 := Aside0.mk hy75
                    clear hy75
                    have KL75 := Aside0.mk (show ((ji38) : Int).toNat ≤ t202.length from by omega)
                    replace q75 := eq_true q75
                    have q76 : ((ji42) : Int) ≤ ((t202.length : Int) : Int) := of_decide_eq_true (by first | (with_reducible assumption) | assumption)
                    obtain ⟨i076, hi076, _, hsz76, _⟩ := info_parts info43
                    have hroom76 : t202.length ≤ co13 := (Kd.R_reads' HO_3.out).2.1
                    have hC76 : Kd.C k43 _ (some ad216) t202.length t202 := (Kd.R_reads' HO_3.out).2.2
                    have q076 : (0 : Int) ≤ ((ji42) : Int) := of_decide_eq_true (by first | (with_reducible assumption) | assumption)
                    have hcut76 := cut_from (P := Try.prog) 38 43 .i64 Try.underlying38 hi076 2 hsz76 (some ad216) t202.length co13 (ji42) q076 q76
                    have hr76 := Kd.C_drop (m := ((ji42) : Int).toNat) (c := co13) hC76 (by omega) hroom76
                    obtain ⟨A76, hA76⟩ : ∃ A1, A1 = (if co13 = ((ji42) : Int).toNat then (some ad216) else ((some ad216) : Option Addr).map (·.add (((ji42) : Int).toNat * 2))) := ⟨_, rfl⟩
                    obtain ⟨c76, hc76⟩ : ∃ c1, c1 = co13 - ((ji42) : Int).toNat := ⟨_, rfl⟩
                    have hy76 : y228.length = t202.length - ((ji42) : Int).toNat := (by rw [Ny228.out, List.length_drop] <;> omega)
                    rw [show (t202).drop ((ji42) : Int).toNat = y228 from Ny228.out.symm] at hr76
                    replace hr76 : Kd.C k43 _ A76 y228.length y228 := (by rw [hA76]; exact hr76)
                    rw [← hy76, ← hA76, ← hc76] at hcut76
                    have HR231 := Aside0.mk hr76
                    have HC231 := Aside0.mk (show y228.length ≤ c76 from by rw [hy76, hc76]; exact Nat.sub_le_sub_right hroom76 _)
                    clear hr76 hC76 hroom76 hi076 hsz76 hc76
                    have KY76 := Aside0.mk hy76
                    have KA76 := Aside0.mk hA76
                    clear hy76 hA76
                    have KL76 := Aside0.mk (show ((ji42) : Int).toNat ≤ t202.length from by omega)
                    replace q76 := eq_true q76
                    refine start_ (n := 11) (S := fun w' => True) (ds := []) (bs 11 0) (by kernel_rfl) rfl rfl trivial (fun hHeld => ?_); refine with_tabW laws_FnRested.tab23 laws_FnRested.bits23 (fun HT_ HW_ => ?_)
                    generalize w73.drew = w74 at HO_3 HB HR224 HR231 hHeld ⊢
                    refine pu_ 1 93 HT_ (bs 11 2) rfl rfl ?_
                    refine pu_ 2 94 HT_ (bs 11 6) rfl rfl ?_
                    refine pu_ 3 95 HT_ (bs 11 14) rfl rfl ?_
                    refine pu_ 5 97 HT_ (bs 11 46) rfl rfl ?_
                    refine pu_ 6 98 HT_ (bs 11 110) rfl rfl ?_
                    refine pu_ 7 99 HT_ (bs 11 238) rfl rfl ?_
                    refine pu_ 8 100 HT_ (bs 11 494) rfl rfl ?_
                    refine one_ (i := 0) (N := some 92) (bs 11 495) rfl rfl (one_of HT_.out (by kernel_rfl)) (by decide) (fun K hK => ?_)
                    refine Kd.R_lit_step k43 _ 43 ?hg (N := 92) ?hd (xs := ([] : List (S43))) (inner := []) (ok := fun _ => True) (okp := fun _ => True) ?hr ?hp (fun _ hk => hk) trivial (Below.refl _ _) (Nat.le_refl _) (by simp) ?_; (case hd => rfl); (case hg => rfl); (case hr => first | (go_simp; done) | (go_simp; rfl)); (case hp => exact (Reps.none _ _))
                    intro v219 w77 ho78 hb hg_ hnew_
                    clear hg_ hnew_
                    (first | rw [← Ny218.out] at ho78 | (simp only [Int.reduceToNat] at ho78; rw [← Ny218.out] at ho78))
                    have n0_ := Aside0.mk (Kd.R_elder' (fr_ HO_3.out) (Kd.R_base ho78) hb)
                    have n1_ := Aside0.mk (Kd.R_lower (Kd.R_new' ho78 (Kd.R_lt (fr_ HO_3.out))) (below_size (bel_ HB.out)))
                    have n2_ := Aside0.mk (Kd.C_below (by repeat (first | (with_reducible exact HR224.out) | (with_reducible refine Kd.C_alloc ?_ _) | (with_reducible refine Kd.C_drewN ?_ _) | (with_reducible refine Kd.C_drew ?_) | exact HR224.out)) hb)
                    have n3_ := Aside0.mk (Kd.C_below (by repeat (first | (with_reducible exact HR231.out) | (with_reducible refine Kd.C_alloc ?_ _) | (with_reducible refine Kd.C_drewN ?_ _) | (with_reducible refine Kd.C_drew ?_) | exact HR231.out)) hb)
                    have n4_ := Aside0.mk (below_step (bel_ HB.out) hb)
                    clear HO_3
                    clear HR224
                    clear HR231
                    clear HB
                    have HO_3 := n0_
                    have HO220 := n1_
                    have HR224 := n2_
                    have HR231 := n3_
                    have HB := n4_
                    clear n0_ n1_ n2_ n3_ n4_
                    clear hb ho78
                    refine hK.out _ _ trivial (fun hHeld => ?_)
                    clear hK K
                    refine norm_ (a' := ?_) ?_ ?_
                    rotate_left
                    ·show Act.put _ (some 92) _ = _
                     simp only [Act.put, sA_, sZ_, sS_, i64_w, i32_w]
                     rfl
                    refine one_ (i := 4) (N := some 96) (bs 11 511) rfl rfl (one_of HT_.out (by kernel_rfl)) (by decide) (fun K hK => ?_)
                    refine Kd.R_append_rows_step k43 (w0 := w) w.heap.size (by rfl) (.tmp 92) (.tmp 95) 38 43 (.agg #[(.int .i64 0), (.int .i64 0)]) 16 rfl Try.underlying38 info43 rfl (by decide) (by omega) v219 y218 y221 _ _ _ (fun k_ => some k_ ≠ (.slice (some ad216) t202.length co13 : Value).ownBlock) (fun _ => False) rfl rfl ?aO ?aR (fun _ _ h => h) (fun _ h => h.elim) ?aF ?aB ?aS ?aL ?_
                    (case aR => repeat (first | exact (by repeat (first | (with_reducible exact HR224.out) | (with_reducible refine Kd.C_alloc ?_ _) | (with_reducible refine Kd.C_drewN ?_ _) | (with_reducible refine Kd.C_drew ?_) | exact HR224.out)) | (with_reducible refine Kd.C_alloc ?_ _) | (with_reducible refine Kd.C_drewN ?_ _) | (with_reducible refine Kd.C_drew ?_)))
                    (case aB => exact (bel_ HB.out))
                    (case aF => exact (fun k_ hk => Kd.fresh' (Kd.R_lt (fr_ HO_3.out)) k_ hk))
                    (case aO => exact (by (with_reducible repeat (first | apply Kd.R_alloc | apply Kd.R_drewN | apply Kd.R_drew)); exact Kd.R_mono HO220.out (fun _ hk => hk.2)))
                    (case aS => exact (below_size (bel_ HB.out)))
                    (case aL => have := LMc41.out; omega)
                    intro v226 w79 ho hb hg hat
                    rw [← Ny225.out] at ho
                    have n0_ := Aside0.mk (Kd.R_after (ok := (fun _ => True)) (fr_ HO_3.out) hg hat)
                    have n1_ := Aside0.mk (hb)
                    have n2_ := Aside0.mk ((show Kd.C k43 w79 (some ad216) y221.length y221 from by rw [Ny221.out]; exact Kd.C_take (m := ((ji38) : Int).toNat) ((Kd.R_reads' (Kd.R_after (ok := (fun _ => True)) (fr_ HO_3.out) hg hat)).2.2) KL75.out))
                    have n3_ := Aside0.mk ((show Kd.C k43 w79 A76 y228.length y228 from by rw [Ny228.out, KA76.out]; exact Kd.C_drop (m := ((ji42) : Int).toNat) (c := co13) ((Kd.R_reads' (Kd.R_after (ok := (fun _ => True)) (fr_ HO_3.out) hg hat)).2.2) KL76.out ((Kd.R_reads' (Kd.R_after (ok := (fun _ => True)) (fr_ HO_3.out) hg hat)).2.1)))
                    have n4_ := Aside0.mk (ho)
                    clear HO_3
                    clear HB
                    clear HR224
                    clear HR231
                    clear HO220
                    have HO_3 := n0_
                    have HB := n1_
                    have HR224 := n2_
                    have HR231 := n3_
                    have HO227 := n4_
                    clear n0_ n1_ n2_ n3_ n4_
                    clear ho hb hg hat
                    refine hK.out _ _ trivial (fun hHeld => ?_)
                    clear hK K
                    refine norm_ (a' := ?_) ?_ ?_
                    rotate_left
                    ·show Act.put _ (some 96) _ = _
                     simp only [Act.put, sA_, sZ_, sS_, i64_w, i32_w]
                     rfl
                    refine one_ (i := 9) (N := some 101) (bs 11 1023) rfl rfl (one_of HT_.out (by kernel_rfl)) (by decide) (fun K hK => ?_)
                    refine Kd.R_append_rows_step k43 (w0 := w) w.heap.size (by rfl) (.tmp 96) (.tmp 100) 38 43 (.agg #[(.int .i64 0), (.int .i64 0)]) 16 rfl Try.underlying38 info43 rfl (by decide) (by omega) v226 y225 y228 _ _ _ (fun k_ => some k_ ≠ (.slice (some ad216) t202.length co13 : Value).ownBlock) (fun _ => False) rfl rfl ?aO ?aR (fun _ _ h => h) (fun _ h => h.elim) ?aF ?aB ?aS ?aL ?_
                    (case aR => repeat (first | exact (by repeat (first | (with_reducible exact HR231.out) | (with_reducible refine Kd.C_alloc ?_ _) | (with_reducible refine Kd.C_drewN ?_ _) | (with_reducible refine Kd.C_drew ?_) | exact HR231.out)) | (with_reducible refine Kd.C_alloc ?_ _) | (with_reducible refine Kd.C_drewN ?_ _) | (with_reducible refine Kd.C_drew ?_)))
                    (case aB => exact (bel_ HB.out))
                    (case aF => exact (fun k_ hk => Kd.fresh' (Kd.R_lt (fr_ HO_3.out)) k_ hk))
                    (case aO => exact (fr_ HO227.out))
                    (case aS => exact (below_size (bel_ HB.out)))
                    (case aL => have := LMc45.out; omega)
                    intro v233 w80 ho hb hg hat
                    rw [← Ny232.out] at ho
                    have n0_ := Aside0.mk (Kd.R_after (ok := (fun _ => True)) (fr_ HO_3.out) hg hat)
                    have n1_ := Aside0.mk (hb)
                    have n2_ := Aside0.mk ((show Kd.C k43 w80 (some ad216) y221.length y221 from by rw [Ny221.out]; exact Kd.C_take (m := ((ji38) : Int).toNat) ((Kd.R_reads' (Kd.R_after (ok := (fun _ => True)) (fr_ HO_3.out) hg hat)).2.2) KL75.out))
                    have n3_ := Aside0.mk ((show Kd.C k43 w80 A76 y228.length y228 from by rw [Ny228.out, KA76.out]; exact Kd.C_drop (m := ((ji42) : Int).toNat) (c := co13) ((Kd.R_reads' (Kd.R_after (ok := (fun _ => True)) (fr_ HO_3.out) hg hat)).2.2) KL76.out ((Kd.R_reads' (Kd.R_after (ok := (fun _ => True)) (fr_ HO_3.out) hg hat)).2.1)))
                    have n4_ := Aside0.mk (ho)
                    clear HO_3
                    clear HB
                    clear HR224
                    clear HR231
                    clear HO227
                    have HO_3 := n0_
                    have HB := n1_
                    have HR224 := n2_
                    have HR231 := n3_
                    have HO234 := n4_
                    clear n0_ n1_ n2_ n3_ n4_
                    clear ho hb hg hat
                    refine hK.out _ _ trivial (fun hHeld => ?_)
                    clear hK K
                    refine norm_ (a' := ?_) ?_ ?_
                    rotate_left
                    ·show Act.put _ (some 101) _ = _
                     simp only [Act.put, sA_, sZ_, sS_, i64_w, i32_w]
                     rfl
                    refine pu_ 10 11 HT_ (bs 11 2047) rfl rfl ?_
                    refine done_ (done_of HT_.out (by kernel_rfl)) ?_
                    obtain ⟨Ao81, co81, eo81⟩ := Kd.R_slice HO234.out
                    subst eo81
                    try go_wp2_with (first | ((with_reducible refine gate_callee (f := 17) rfl ?_); refine goesL_ (some 105) rfl rfl Try.func17 (by kernel_rfl) rfl #[.slice Ao81 y232.length co81, .int .i64 (wrap64 (1440 + (wrap64 (t213 * 12))))] rfl (by (try simp only [List.map_toArray, List.map_cons, List.map_nil]); first | done | rfl | (simp only [List.length_drop, List.length_take]; rfl)) ?_; (with_reducible refine (impl_RestCode.calls k1 _ _ y232 (wrap64 (1440 + (wrap64 (t213 * 12)))) t235 t236 _ ?side1 ?side2 A46.out).mono ?_); (case side1 => repeat (first | exact (Kd.R_reads' HO234.out).2.2 | (with_reducible refine Kd.C_alloc ?_ _) | (with_reducible refine Kd.C_drewN ?_ _) | (with_reducible refine Kd.C_drew ?_))); (case side2 => exact (Kd.R_reads' HO234.out).2.1); rintro e w82 ⟨rfl, hb⟩; refine ⟨_, rfl, ?_⟩; have n0_ := Aside0.mk (Kd.R_below (fr_ HO_3.out) hb); have n1_ := Aside0.mk (Kd.R_below (fr_ HO234.out) hb); have n2_ := Aside0.mk (Kd.C_below (by repeat (first | (with_reducible exact HR224.out) | (with_reducible refine Kd.C_alloc ?_ _) | (with_reducible refine Kd.C_drewN ?_ _) | (with_reducible refine Kd.C_drew ?_) | exact HR224.out)) hb); have n3_ := Aside0.mk (Kd.C_below (by repeat (first | (with_reducible exact HR231.out) | (with_reducible refine Kd.C_alloc ?_ _) | (with_reducible refine Kd.C_drewN ?_ _) | (with_reducible refine Kd.C_drew ?_) | exact HR231.out)) hb); have n4_ := Aside0.mk (below_step (bel_ HB.out) hb); clear HO_3; clear HO234; clear HR224; clear HR231; clear HB; have HO_3 := n0_; have HO234 := n1_; have HR224 := n2_; have HR231 := n3_; have HB := n4_; clear n0_ n1_ n2_ n3_ n4_; (try clear hb); (try clear hb2); (try clear hk); (try clear hi)))
                    go_ret
                    exact ⟨by first | rfl | (simp [errW_none, errW_some] <;> rfl) | (simp only [← hji31, ← hji38, ← hji42]; first | rfl | (simp [errW_none, errW_some] <;> rfl)) | (simp [*, errW_none, errW_some] <;> rfl), bel_ HB.out⟩
                  ·rw [if_neg c47] at H
                   have c47b0 : (t214 == 0) = false := beq_eq_false_iff_ne.mpr c47
                   have c47b1 : (t214 != 0) = true := bne_iff_ne.mpr c47
                   by_cases c83 : t215 ≥ 1440
                   ·rw [if_pos c83] at H
                    have c83b0 : decide (1440 ≤ t215) = true := decide_eq_true c83
                    clear c83
                    by_cases c84 : t215 ≤ (wrap64 (1440 + (wrap64 (t213 * 12))))
                    ·rw [if_pos c84] at H
                     have c84b0 : decide (t215 ≤ (wrap64 (1440 + (wrap64 (t213 * 12))))) = true := decide_eq_true c84
                     clear c84
                     by_cases c85 : t235 = 0
                     ·rw [if_pos c85] at H
                      have c85b0 : (t235 == 0) = true := beq_iff_eq.mpr c85
                      have c85b1 : (t235 != 0) = false := bne_eq_false_iff_eq.mpr c85
                      clear c85
                      obtain rfl := Option.some.inj H
                      try go_wp2_with (first | ((with_reducible refine gate_callee (f := 16) rfl ?_); refine goesL_ (some 55) rfl rfl Try.func16 (by kernel_rfl) rfl #[.slice Ao13 t202.length co13, .int .i64 0, .int .i64 100000000] rfl (by (try simp only [List.map_toArray, List.map_cons, List.map_nil]); first | done | rfl | (simp only [List.length_drop, List.length_take]; rfl)) ?_; (with_reducible refine (impl_WorkIn.calls k1 _ _ t202 0 100000000 t212 _ ?side1 ?side2 A21.out).mono ?_); (case side1 => repeat (first | exact (Kd.R_reads' HO_3.out).2.2 | (with_reducible refine Kd.C_alloc ?_ _) | (with_reducible refine Kd.C_drewN ?_ _) | (with_reducible refine Kd.C_drew ?_))); (case side2 => exact (Kd.R_reads' HO_3.out).2.1); rintro e w86 ⟨rfl, hb⟩; refine ⟨_, rfl, ?_⟩; have n0_ := Aside0.mk (Kd.R_below (fr_ HO_3.out) hb); have n1_ := Aside0.mk (below_step (bel_ HB.out) hb); clear HO_3; clear HB; have HO_3 := n0_; have HB := n1_; clear n0_ n1_; (try clear hb); (try clear hb2); (try clear hk); (try clear hi)) | ((with_reducible refine gate_callee (f := 13) rfl ?_); refine goesL_ (some 59) rfl rfl Try.func13 (by kernel_rfl) rfl #[.slice A0 l0.length c0, .int .i64 2] rfl (by (try simp only [List.map_toArray, List.map_cons, List.map_nil]); first | done | rfl | (simp only [List.length_drop, List.length_take]; rfl)) ?_; (with_reducible refine (laws_at.calls _ _ l0 2 t213 _ ?side1 ?side2 A23.out).mono ?_); (case side1 => repeat (first | exact (Kd.C_below HR0.out HB.out) | (with_reducible refine Kd.C_alloc ?_ _) | (with_reducible refine Kd.C_drewN ?_ _) | (with_reducible refine Kd.C_drew ?_))); (case side2 => exact HC0.out); rintro e w' ⟨rfl, ⟨nd, rfl⟩⟩; refine ⟨_, rfl, ?_⟩) | ((with_reducible refine gate_callee (f := 17) rfl ?_); refine goesL_ (some 65) rfl rfl Try.func17 (by kernel_rfl) rfl #[.slice Ao13 t202.length co13, .int .i64 (wrap64 (1440 + (wrap64 (t213 * 12))))] rfl (by (try simp only [List.map_toArray, List.map_cons, List.map_nil]); first | done | rfl | (simp only [List.length_drop, List.length_take]; rfl)) ?_; (with_reducible refine (impl_RestCode.calls k1 _ _ t202 (wrap64 (1440 + (wrap64 (t213 * 12)))) t214 t215 _ ?side1 ?side2 A24.out).mono ?_); (case side1 => repeat (first | exact (Kd.R_reads' HO_3.out).2.2 | (with_reducible refine Kd.C_alloc ?_ _) | (with_reducible refine Kd.C_drewN ?_ _) | (with_reducible refine Kd.C_drew ?_))); (case side2 => exact (Kd.R_reads' HO_3.out).2.1); rintro e w87 ⟨rfl, hb⟩; refine ⟨_, rfl, ?_⟩; have n0_ := Aside0.mk (Kd.R_below (fr_ HO_3.out) hb); have n1_ := Aside0.mk (below_step (bel_ HB.out) hb); clear HO_3; clear HB; have HO_3 := n0_; have HB := n1_; clear n0_ n1_; (try clear hb); (try clear hb2); (try clear hk); (try clear hi); have p216 : 0 ≤ ((ji31) : Int) := of_decide_eq_true (by first | (with_reducible assumption) | assumption); have q216 : (ji31) < (t202.length : Int) := of_decide_eq_true (by first | (with_reducible assumption) | assumption); obtain ⟨ad216, e216, hx216_0, hx216_1⟩ := at_T43 (Kd.R_reads' HO_3.out).2.2 (ji31) p216 q216; cases e216; replace p216 := eq_true p216; replace q216 := eq_true q216) | ((with_reducible refine gate_callee (f := 13) rfl ?_); refine goesL_ (some 88) rfl rfl Try.func13 (by kernel_rfl) rfl #[.slice A0 l0.length c0, .int .i64 3] rfl (by (try simp only [List.map_toArray, List.map_cons, List.map_nil]); first | done | rfl | (simp only [List.length_drop, List.length_take]; rfl)) ?_; (with_reducible refine (laws_at.calls _ _ l0 3 t217 _ ?side1 ?side2 A37.out).mono ?_); (case side1 => repeat (first | exact (Kd.C_below HR0.out HB.out) | (with_reducible refine Kd.C_alloc ?_ _) | (with_reducible refine Kd.C_drewN ?_ _) | (with_reducible refine Kd.C_drew ?_))); (case side2 => exact HC0.out); rintro e w' ⟨rfl, ⟨nd, rfl⟩⟩; refine ⟨_, rfl, ?_⟩))
                      (try ((first | ((conv in (World.drewN w87 _) => skip); generalize hq_ : World.drewN w87 _ = w87) | (rw [drewN_self w87]; generalize hq_ : World.drewN w87 _ = w87)); have n0_ : Aside0 (Kd.R k43 43 w87 w.heap.size (fun _ => True) (.slice (some ad216) t202.length co13) t202) := ⟨by rw [← hq_]; exact (fr_ HO_3.out)⟩; have n1_ : Aside0 (Below w.heap.size w w87) := ⟨by rw [← hq_]; exact (bel_ HB.out)⟩; clear HO_3 HB hq_; have HO_3 := n0_; have HB := n1_; clear n0_ n1_))
                      have n0_ := Aside0.mk (Kd.R_drew HO_3.out)
                      have n1_ := Aside0.mk (below_drew1 HB.out)
                      clear HO_3
                      clear HB
                      have HO_3 := n0_
                      have HB := n1_
                      clear n0_ n1_
                      have q89 : ((ji38) : Int) ≤ ((t202.length : Int) : Int) := of_decide_eq_true (by first | (with_reducible assumption) | assumption)
                      obtain ⟨i089, hi089, _, hsz89, _⟩ := info_parts info43
                      have hroom89 : t202.length ≤ co13 := (Kd.R_reads' HO_3.out).2.1
                      have hC89 : Kd.C k43 _ (some ad216) t202.length t202 := (Kd.R_reads' HO_3.out).2.2
                      have hcut89 := cut_to (P := Try.prog) 38 43 .i64 Try.underlying38 hi089 (some ad216) t202.length co13 (ji38) (of_decide_eq_true (by first | (with_reducible assumption) | assumption)) q89 hroom89
                      have hr89 := Kd.C_take (m := ((ji38) : Int).toNat) hC89 (by omega)
                      have hy89 : y221.length = ((ji38) : Int).toNat := (by rw [Ny221.out, List.length_take]; omega)
                      rw [← Ny221.out] at hr89
                      rw [← hy89] at hcut89
                      have HR224 := Aside0.mk hr89
                      have HC224 := Aside0.mk (show y221.length ≤ co13 from by omega)
                      clear hr89 hC89 hroom89 hi089 hsz89
                      have KY89 := Aside0.mk hy89
                      clear hy89
                      have KL89 := Aside0.mk (show ((ji38) : Int).toNat ≤ t202.length from by omega)
                      replace q89 := eq_true q89
                      have q90 : ((ji42) : Int) ≤ ((t202.length : Int) : Int) := of_decide_eq_true (by first | (with_reducible assumption) | assumption)
                      obtain ⟨i090, hi090, _, hsz90, _⟩ := info_parts info43
                      have hroom90 : t202.length ≤ co13 := (Kd.R_reads' HO_3.out).2.1
                      have hC90 : Kd.C k43 _ (some ad216) t202.length t202 := (Kd.R_reads' HO_3.out).2.2
                      have q090 : (0 : Int) ≤ ((ji42) : Int) := of_decide_eq_true (by first | (with_reducible assumption) | assumption)
                      have hcut90 := cut_from (P := Try.prog) 38 43 .i64 Try.underlying38 hi090 2 hsz90 (some ad216) t202.length co13 (ji42) q090 q90
                      have hr90 := Kd.C_drop (m := ((ji42) : Int).toNat) (c := co13) hC90 (by omega) hroom90
                      obtain ⟨A90, hA90⟩ : ∃ A1, A1 = (if co13 = ((ji42) : Int).toNat then (some ad216) else ((some ad216) : Option Addr).map (·.add (((ji42) : Int).toNat * 2))) := ⟨_, rfl⟩
                      obtain ⟨c90, hc90⟩ : ∃ c1, c1 = co13 - ((ji42) : Int).toNat := ⟨_, rfl⟩
                      have hy90 : y228.length = t202.length - ((ji42) : Int).toNat := (by rw [Ny228.out, List.length_drop] <;> omega)
                      rw [show (t202).drop ((ji42) : Int).toNat = y228 from Ny228.out.symm] at hr90
                      replace hr90 : Kd.C k43 _ A90 y228.length y228 := (by rw [hA90]; exact hr90)
                      rw [← hy90, ← hA90, ← hc90] at hcut90
                      have HR231 := Aside0.mk hr90
                      have HC231 := Aside0.mk (show y228.length ≤ c90 from by rw [hy90, hc90]; exact Nat.sub_le_sub_right hroom90 _)
                      clear hr90 hC90 hroom90 hi090 hsz90 hc90
                      have KY90 := Aside0.mk hy90
                      have KA90 := Aside0.mk hA90
                      clear hy90 hA90
                      have KL90 := Aside0.mk (show ((ji42) : Int).toNat ≤ t202.length from by omega)
                      replace q90 := eq_true q90
                      refine start_ (n := 11) (S := fun w' => True) (ds := []) (bs 11 0) (by kernel_rfl) rfl rfl trivial (fun hHeld => ?_); refine with_tabW laws_FnRested.tab23 laws_FnRested.bits23 (fun HT_ HW_ => ?_)
                      generalize w87.drew = w88 at HO_3 HB HR224 HR231 hHeld ⊢
                      refine pu_ 1 93 HT_ (bs 11 2) rfl rfl ?_
                      refine pu_ 2 94 HT_ (bs 11 6) rfl rfl ?_
                      refine pu_ 3 95 HT_ (bs 11 14) rfl rfl ?_
                      refine pu_ 5 97 HT_ (bs 11 46) rfl rfl ?_
                      refine pu_ 6 98 HT_ (bs 11 110) rfl rfl ?_
                      refine pu_ 7 99 HT_ (bs 11 238) rfl rfl ?_
                      refine pu_ 8 100 HT_ (bs 11 494) rfl rfl ?_
                      refine one_ (i := 0) (N := some 92) (bs 11 495) rfl rfl (one_of HT_.out (by kernel_rfl)) (by decide) (fun K hK => ?_)
                      refine Kd.R_lit_step k43 _ 43 ?hg (N := 92) ?hd (xs := ([] : List (S43))) (inner := []) (ok := fun _ => True) (okp := fun _ => True) ?hr ?hp (fun _ hk => hk) trivial (Below.refl _ _) (Nat.le_refl _) (by simp) ?_; (case hd => rfl); (case hg => rfl); (case hr => first | (go_simp; done) | (go_simp; rfl)); (case hp => exact (Reps.none _ _))
                      intro v219 w91 ho92 hb hg_ hnew_
                      clear hg_ hnew_
                      (first | rw [← Ny218.out] at ho92 | (simp only [Int.reduceToNat] at ho92; rw [← Ny218.out] at ho92))
                      have n0_ := Aside0.mk (Kd.R_elder' (fr_ HO_3.out) (Kd.R_base ho92) hb)
                      have n1_ := Aside0.mk (Kd.R_lower (Kd.R_new' ho92 (Kd.R_lt (fr_ HO_3.out))) (below_size (bel_ HB.out)))
                      have n2_ := Aside0.mk (Kd.C_below (by repeat (first | (with_reducible exact HR224.out) | (with_reducible refine Kd.C_alloc ?_ _) | (with_reducible refine Kd.C_drewN ?_ _) | (with_reducible refine Kd.C_drew ?_) | exact HR224.out)) hb)
                      have n3_ := Aside0.mk (Kd.C_below (by repeat (first | (with_reducible exact HR231.out) | (with_reducible refine Kd.C_alloc ?_ _) | (with_reducible refine Kd.C_drewN ?_ _) | (with_reducible refine Kd.C_drew ?_) | exact HR231.out)) hb)
                      have n4_ := Aside0.mk (below_step (bel_ HB.out) hb)
                      clear HO_3
                      clear HR224
                      clear HR231
                      clear HB
                      have HO_3 := n0_
                      have HO220 := n1_
                      have HR224 := n2_
                      have HR231 := n3_
                      have HB := n4_
                      clear n0_ n1_ n2_ n3_ n4_
                      clear hb ho92
                      refine hK.out _ _ trivial (fun hHeld => ?_)
                      clear hK K
                      refine norm_ (a' := ?_) ?_ ?_
                      rotate_left
                      ·show Act.put _ (some 92) _ = _
                       simp only [Act.put, sA_, sZ_, sS_, i64_w, i32_w]
                       rfl
                      refine one_ (i := 4) (N := some 96) (bs 11 511) rfl rfl (one_of HT_.out (by kernel_rfl)) (by decide) (fun K hK => ?_)
                      refine Kd.R_append_rows_step k43 (w0 := w) w.heap.size (by rfl) (.tmp 92) (.tmp 95) 38 43 (.agg #[(.int .i64 0), (.int .i64 0)]) 16 rfl Try.underlying38 info43 rfl (by decide) (by omega) v219 y218 y221 _ _ _ (fun k_ => some k_ ≠ (.slice (some ad216) t202.length co13 : Value).ownBlock) (fun _ => False) rfl rfl ?aO ?aR (fun _ _ h => h) (fun _ h => h.elim) ?aF ?aB ?aS ?aL ?_
                      (case aR => repeat (first | exact (by repeat (first | (with_reducible exact HR224.out) | (with_reducible refine Kd.C_alloc ?_ _) | (with_reducible refine Kd.C_drewN ?_ _) | (with_reducible refine Kd.C_drew ?_) | exact HR224.out)) | (with_reducible refine Kd.C_alloc ?_ _) | (with_reducible refine Kd.C_drewN ?_ _) | (with_reducible refine Kd.C_drew ?_)))
                      (case aB => exact (bel_ HB.out))
                      (case aF => exact (fun k_ hk => Kd.fresh' (Kd.R_lt (fr_ HO_3.out)) k_ hk))
                      (case aO => exact (by (with_reducible repeat (first | apply Kd.R_alloc | apply Kd.R_drewN | apply Kd.R_drew)); exact Kd.R_mono HO220.out (fun _ hk => hk.2)))
                      (case aS => exact (below_size (bel_ HB.out)))
                      (case aL => have := LMc41.out; omega)
                      intro v226 w93 ho hb hg hat
                      rw [← Ny225.out] at ho
                      have n0_ := Aside0.mk (Kd.R_after (ok := (fun _ => True)) (fr_ HO_3.out) hg hat)
                      have n1_ := Aside0.mk (hb)
                      have n2_ := Aside0.mk ((show Kd.C k43 w93 (some ad216) y221.length y221 from by rw [Ny221.out]; exact Kd.C_take (m := ((ji38) : Int).toNat) ((Kd.R_reads' (Kd.R_after (ok := (fun _ => True)) (fr_ HO_3.out) hg hat)).2.2) KL89.out))
                      have n3_ := Aside0.mk ((show Kd.C k43 w93 A90 y228.length y228 from by rw [Ny228.out, KA90.out]; exact Kd.C_drop (m := ((ji42) : Int).toNat) (c := co13) ((Kd.R_reads' (Kd.R_after (ok := (fun _ => True)) (fr_ HO_3.out) hg hat)).2.2) KL90.out ((Kd.R_reads' (Kd.R_after (ok := (fun _ => True)) (fr_ HO_3.out) hg hat)).2.1)))
                      have n4_ := Aside0.mk (ho)
                      clear HO_3
                      clear HB
                      clear HR224
                      clear HR231
                      clear HO220
                      have HO_3 := n0_
                      have HB := n1_
                      have HR224 := n2_
                      have HR231 := n3_
                      have HO227 := n4_
                      clear n0_ n1_ n2_ n3_ n4_
                      clear ho hb hg hat
                      refine hK.out _ _ trivial (fun hHeld => ?_)
                      clear hK K
                      refine norm_ (a' := ?_) ?_ ?_
                      rotate_left
                      ·show Act.put _ (some 96) _ = _
                       simp only [Act.put, sA_, sZ_, sS_, i64_w, i32_w]
                       rfl
                      refine one_ (i := 9) (N := some 101) (bs 11 1023) rfl rfl (one_of HT_.out (by kernel_rfl)) (by decide) (fun K hK => ?_)
                      refine Kd.R_append_rows_step k43 (w0 := w) w.heap.size (by rfl) (.tmp 96) (.tmp 100) 38 43 (.agg #[(.int .i64 0), (.int .i64 0)]) 16 rfl Try.underlying38 info43 rfl (by decide) (by omega) v226 y225 y228 _ _ _ (fun k_ => some k_ ≠ (.slice (some ad216) t202.length co13 : Value).ownBlock) (fun _ => False) rfl rfl ?aO ?aR (fun _ _ h => h) (fun _ h => h.elim) ?aF ?aB ?aS ?aL ?_
                      (case aR => repeat (first | exact (by repeat (first | (with_reducible exact HR231.out) | (with_reducible refine Kd.C_alloc ?_ _) | (with_reducible refine Kd.C_drewN ?_ _) | (with_reducible refine Kd.C_drew ?_) | exact HR231.out)) | (with_reducible refine Kd.C_alloc ?_ _) | (with_reducible refine Kd.C_drewN ?_ _) | (with_reducible refine Kd.C_drew ?_)))
                      (case aB => exact (bel_ HB.out))
                      (case aF => exact (fun k_ hk => Kd.fresh' (Kd.R_lt (fr_ HO_3.out)) k_ hk))
                      (case aO => exact (fr_ HO227.out))
                      (case aS => exact (below_size (bel_ HB.out)))
                      (case aL => have := LMc45.out; omega)
                      intro v233 w94 ho hb hg hat
                      rw [← Ny232.out] at ho
                      have n0_ := Aside0.mk (Kd.R_after (ok := (fun _ => True)) (fr_ HO_3.out) hg hat)
                      have n1_ := Aside0.mk (hb)
                      have n2_ := Aside0.mk ((show Kd.C k43 w94 (some ad216) y221.length y221 from by rw [Ny221.out]; exact Kd.C_take (m := ((ji38) : Int).toNat) ((Kd.R_reads' (Kd.R_after (ok := (fun _ => True)) (fr_ HO_3.out) hg hat)).2.2) KL89.out))
                      have n3_ := Aside0.mk ((show Kd.C k43 w94 A90 y228.length y228 from by rw [Ny228.out, KA90.out]; exact Kd.C_drop (m := ((ji42) : Int).toNat) (c := co13) ((Kd.R_reads' (Kd.R_after (ok := (fun _ => True)) (fr_ HO_3.out) hg hat)).2.2) KL90.out ((Kd.R_reads' (Kd.R_after (ok := (fun _ => True)) (fr_ HO_3.out) hg hat)).2.1)))
                      have n4_ := Aside0.mk (ho)
                      clear HO_3
                      clear HB
                      clear HR224
                      clear HR231
                      clear HO227
                      have HO_3 := n0_
                      have HB := n1_
                      have HR224 := n2_
                      have HR231 := n3_
                      have HO234 := n4_
                      clear n0_ n1_ n2_ n3_ n4_
                      clear ho hb hg hat
                      refine hK.out _ _ trivial (fun hHeld => ?_)
                      clear hK K
                      refine norm_ (a' := ?_) ?_ ?_
                      rotate_left
                      ·show Act.put _ (some 101) _ = _
                       simp only [Act.put, sA_, sZ_, sS_, i64_w, i32_w]
                       rfl
                      refine pu_ 10 11 HT_ (bs 11 2047) rfl rfl ?_
                      refine done_ (done_of HT_.out (by kernel_rfl)) ?_
                      obtain ⟨Ao95, co95, eo95⟩ := Kd.R_slice HO234.out
                      subst eo95
                      try go_wp2_with (first | ((with_reducible refine gate_callee (f := 17) rfl ?_); refine goesL_ (some 105) rfl rfl Try.func17 (by kernel_rfl) rfl #[.slice Ao95 y232.length co95, .int .i64 (wrap64 (1440 + (wrap64 (t213 * 12))))] rfl (by (try simp only [List.map_toArray, List.map_cons, List.map_nil]); first | done | rfl | (simp only [List.length_drop, List.length_take]; rfl)) ?_; (with_reducible refine (impl_RestCode.calls k1 _ _ y232 (wrap64 (1440 + (wrap64 (t213 * 12)))) t235 t236 _ ?side1 ?side2 A46.out).mono ?_); (case side1 => repeat (first | exact (Kd.R_reads' HO234.out).2.2 | (with_reducible refine Kd.C_alloc ?_ _) | (with_reducible refine Kd.C_drewN ?_ _) | (with_reducible refine Kd.C_drew ?_))); (case side2 => exact (Kd.R_reads' HO234.out).2.1); rintro e w96 ⟨rfl, hb⟩; refine ⟨_, rfl, ?_⟩; have n0_ := Aside0.mk (Kd.R_below (fr_ HO_3.out) hb); have n1_ := Aside0.mk (Kd.R_below (fr_ HO234.out) hb); have n2_ := Aside0.mk (Kd.C_below (by repeat (first | (with_reducible exact HR224.out) | (with_reducible refine Kd.C_alloc ?_ _) | (with_reducible refine Kd.C_drewN ?_ _) | (with_reducible refine Kd.C_drew ?_) | exact HR224.out)) hb); have n3_ := Aside0.mk (Kd.C_below (by repeat (first | (with_reducible exact HR231.out) | (with_reducible refine Kd.C_alloc ?_ _) | (with_reducible refine Kd.C_drewN ?_ _) | (with_reducible refine Kd.C_drew ?_) | exact HR231.out)) hb); have n4_ := Aside0.mk (below_step (bel_ HB.out) hb); clear HO_3; clear HO234; clear HR224; clear HR231; clear HB; have HO_3 := n0_; have HO234 := n1_; have HR224 := n2_; have HR231 := n3_; have HB := n4_; clear n0_ n1_ n2_ n3_ n4_; (try clear hb); (try clear hb2); (try clear hk); (try clear hi)))
                      go_ret
                      exact ⟨by first | rfl | (simp [errW_none, errW_some] <;> rfl) | (simp only [← hji31, ← hji38, ← hji42]; first | rfl | (simp [errW_none, errW_some] <;> rfl)) | (simp [*, errW_none, errW_some] <;> rfl), bel_ HB.out⟩
                     ·rw [if_neg c85] at H
                      have c85b0 : (t235 == 0) = false := beq_eq_false_iff_ne.mpr c85
                      have c85b1 : (t235 != 0) = true := bne_iff_ne.mpr c85
                      obtain rfl := Option.some.inj H
                      try go_wp2_with (first | ((with_reducible refine gate_callee (f := 16) rfl ?_); refine goesL_ (some 55) rfl rfl Try.func16 (by kernel_rfl) rfl #[.slice Ao13 t202.length co13, .int .i64 0, .int .i64 100000000] rfl (by (try simp only [List.map_toArray, List.map_cons, List.map_nil]); first | done | rfl | (simp only [List.length_drop, List.length_take]; rfl)) ?_; (with_reducible refine (impl_WorkIn.calls k1 _ _ t202 0 100000000 t212 _ ?side1 ?side2 A21.out).mono ?_); (case side1 => repeat (first | exact (Kd.R_reads' HO_3.out).2.2 | (with_reducible refine Kd.C_alloc ?_ _) | (with_reducible refine Kd.C_drewN ?_ _) | (with_reducible refine Kd.C_drew ?_))); (case side2 => exact (Kd.R_reads' HO_3.out).2.1); rintro e w97 ⟨rfl, hb⟩; refine ⟨_, rfl, ?_⟩; have n0_ := Aside0.mk (Kd.R_below (fr_ HO_3.out) hb); have n1_ := Aside0.mk (below_step (bel_ HB.out) hb); clear HO_3; clear HB; have HO_3 := n0_; have HB := n1_; clear n0_ n1_; (try clear hb); (try clear hb2); (try clear hk); (try clear hi)) | ((with_reducible refine gate_callee (f := 13) rfl ?_); refine goesL_ (some 59) rfl rfl Try.func13 (by kernel_rfl) rfl #[.slice A0 l0.length c0, .int .i64 2] rfl (by (try simp only [List.map_toArray, List.map_cons, List.map_nil]); first | done | rfl | (simp only [List.length_drop, List.length_take]; rfl)) ?_; (with_reducible refine (laws_at.calls _ _ l0 2 t213 _ ?side1 ?side2 A23.out).mono ?_); (case side1 => repeat (first | exact (Kd.C_below HR0.out HB.out) | (with_reducible refine Kd.C_alloc ?_ _) | (with_reducible refine Kd.C_drewN ?_ _) | (with_reducible refine Kd.C_drew ?_))); (case side2 => exact HC0.out); rintro e w' ⟨rfl, ⟨nd, rfl⟩⟩; refine ⟨_, rfl, ?_⟩) | ((with_reducible refine gate_callee (f := 17) rfl ?_); refine goesL_ (some 65) rfl rfl Try.func17 (by kernel_rfl) rfl #[.slice Ao13 t202.length co13, .int .i64 (wrap64 (1440 + (wrap64 (t213 * 12))))] rfl (by (try simp only [List.map_toArray, List.map_cons, List.map_nil]); first | done | rfl | (simp only [List.length_drop, List.length_take]; rfl)) ?_; (with_reducible refine (impl_RestCode.calls k1 _ _ t202 (wrap64 (1440 + (wrap64 (t213 * 12)))) t214 t215 _ ?side1 ?side2 A24.out).mono ?_); (case side1 => repeat (first | exact (Kd.R_reads' HO_3.out).2.2 | (with_reducible refine Kd.C_alloc ?_ _) | (with_reducible refine Kd.C_drewN ?_ _) | (with_reducible refine Kd.C_drew ?_))); (case side2 => exact (Kd.R_reads' HO_3.out).2.1); rintro e w98 ⟨rfl, hb⟩; refine ⟨_, rfl, ?_⟩; have n0_ := Aside0.mk (Kd.R_below (fr_ HO_3.out) hb); have n1_ := Aside0.mk (below_step (bel_ HB.out) hb); clear HO_3; clear HB; have HO_3 := n0_; have HB := n1_; clear n0_ n1_; (try clear hb); (try clear hb2); (try clear hk); (try clear hi); have p216 : 0 ≤ ((ji31) : Int) := of_decide_eq_true (by first | (with_reducible assumption) | assumption); have q216 : (ji31) < (t202.length : Int) := of_decide_eq_true (by first | (with_reducible assumption) | assumption); obtain ⟨ad216, e216, hx216_0, hx216_1⟩ := at_T43 (Kd.R_reads' HO_3.out).2.2 (ji31) p216 q216; cases e216; replace p216 := eq_true p216; replace q216 := eq_true q216) | ((with_reducible refine gate_callee (f := 13) rfl ?_); refine goesL_ (some 88) rfl rfl Try.func13 (by kernel_rfl) rfl #[.slice A0 l0.length c0, .int .i64 3] rfl (by (try simp only [List.map_toArray, List.map_cons, List.map_nil]); first | done | rfl | (simp only [List.length_drop, List.length_take]; rfl)) ?_; (with_reducible refine (laws_at.calls _ _ l0 3 t217 _ ?side1 ?side2 A37.out).mono ?_); (case side1 => repeat (first | exact (Kd.C_below HR0.out HB.out) | (with_reducible refine Kd.C_alloc ?_ _) | (with_reducible refine Kd.C_drewN ?_ _) | (with_reducible refine Kd.C_drew ?_))); (case side2 => exact HC0.out); rintro e w' ⟨rfl, ⟨nd, rfl⟩⟩; refine ⟨_, rfl, ?_⟩))
                      (try ((first | ((conv in (World.drewN w98 _) => skip); generalize hq_ : World.drewN w98 _ = w98) | (rw [drewN_self w98]; generalize hq_ : World.drewN w98 _ = w98)); have n0_ : Aside0 (Kd.R k43 43 w98 w.heap.size (fun _ => True) (.slice (some ad216) t202.length co13) t202) := ⟨by rw [← hq_]; exact (fr_ HO_3.out)⟩; have n1_ : Aside0 (Below w.heap.size w w98) := ⟨by rw [← hq_]; exact (bel_ HB.out)⟩; clear HO_3 HB hq_; have HO_3 := n0_; have HB := n1_; clear n0_ n1_))
                      have n0_ := Aside0.mk (Kd.R_drew HO_3.out)
                      have n1_ := Aside0.mk (below_drew1 HB.out)
                      clear HO_3
                      clear HB
                      have HO_3 := n0_
                      have HB := n1_
                      clear n0_ n1_
                      have q100 : ((ji38) : Int) ≤ ((t202.length : Int) : Int) := of_decide_eq_true (by first | (with_reducible assumption) | assumption)
                      obtain ⟨i0100, hi0100, _, hsz100, _⟩ := info_parts info43
                      have hroom100 : t202.length ≤ co13 := (Kd.R_reads' HO_3.out).2.1
                      have hC100 : Kd.C k43 _ (some ad216) t202.length t202 := (Kd.R_reads' HO_3.out).2.2
                      have hcut100 := cut_to (P := Try.prog) 38 43 .i64 Try.underlying38 hi0100 (some ad216) t202.length co13 (ji38) (of_decide_eq_true (by first | (with_reducible assumption) | assumption)) q100 hroom100
                      have hr100 := Kd.C_take (m := ((ji38) : Int).toNat) hC100 (by omega)
                      have hy100 : y221.length = ((ji38) : Int).toNat := (by rw [Ny221.out, List.length_take]; omega)
                      rw [← Ny221.out] at hr100
                      rw [← hy100] at hcut100
                      have HR224 := Aside0.mk hr100
                      have HC224 := Aside0.mk (show y221.length ≤ co13 from by omega)
                      clear hr100 hC100 hroom100 hi0100 hsz100
                      have KY100 := Aside0.mk hy100
                      clear hy100
                      have KL100 := Aside0.mk (show ((ji38) : Int).toNat ≤ t202.length from by omega)
                      replace q100 := eq_true q100
                      have q101 : ((ji42) : Int) ≤ ((t202.length : Int) : Int) := of_decide_eq_true (by first | (with_reducible assumption) | assumption)
                      obtain ⟨i0101, hi0101, _, hsz101, _⟩ := info_parts info43
                      have hroom101 : t202.length ≤ co13 := (Kd.R_reads' HO_3.out).2.1
                      have hC101 : Kd.C k43 _ (some ad216) t202.length t202 := (Kd.R_reads' HO_3.out).2.2
                      have q0101 : (0 : Int) ≤ ((ji42) : Int) := of_decide_eq_true (by first | (with_reducible assumption) | assumption)
                      have hcut101 := cut_from (P := Try.prog) 38 43 .i64 Try.underlying38 hi0101 2 hsz101 (some ad216) t202.length co13 (ji42) q0101 q101
                      have hr101 := Kd.C_drop (m := ((ji42) : Int).toNat) (c := co13) hC101 (by omega) hroom101
                      obtain ⟨A101, hA101⟩ : ∃ A1, A1 = (if co13 = ((ji42) : Int).toNat then (some ad216) else ((some ad216) : Option Addr).map (·.add (((ji42) : Int).toNat * 2))) := ⟨_, rfl⟩
                      obtain ⟨c101, hc101⟩ : ∃ c1, c1 = co13 - ((ji42) : Int).toNat := ⟨_, rfl⟩
                      have hy101 : y228.length = t202.length - ((ji42) : Int).toNat := (by rw [Ny228.out, List.length_drop] <;> omega)
                      rw [show (t202).drop ((ji42) : Int).toNat = y228 from Ny228.out.symm] at hr101
                      replace hr101 : Kd.C k43 _ A101 y228.length y228 := (by rw [hA101]; exact hr101)
                      rw [← hy101, ← hA101, ← hc101] at hcut101
                      have HR231 := Aside0.mk hr101
                      have HC231 := Aside0.mk (show y228.length ≤ c101 from by rw [hy101, hc101]; exact Nat.sub_le_sub_right hroom101 _)
                      clear hr101 hC101 hroom101 hi0101 hsz101 hc101
                      have KY101 := Aside0.mk hy101
                      have KA101 := Aside0.mk hA101
                      clear hy101 hA101
                      have KL101 := Aside0.mk (show ((ji42) : Int).toNat ≤ t202.length from by omega)
                      replace q101 := eq_true q101
                      refine start_ (n := 11) (S := fun w' => True) (ds := []) (bs 11 0) (by kernel_rfl) rfl rfl trivial (fun hHeld => ?_); refine with_tabW laws_FnRested.tab23 laws_FnRested.bits23 (fun HT_ HW_ => ?_)
                      generalize w98.drew = w99 at HO_3 HB HR224 HR231 hHeld ⊢
                      refine pu_ 1 93 HT_ (bs 11 2) rfl rfl ?_
                      refine pu_ 2 94 HT_ (bs 11 6) rfl rfl ?_
                      refine pu_ 3 95 HT_ (bs 11 14) rfl rfl ?_
                      refine pu_ 5 97 HT_ (bs 11 46) rfl rfl ?_
                      refine pu_ 6 98 HT_ (bs 11 110) rfl rfl ?_
                      refine pu_ 7 99 HT_ (bs 11 238) rfl rfl ?_
                      refine pu_ 8 100 HT_ (bs 11 494) rfl rfl ?_
                      refine one_ (i := 0) (N := some 92) (bs 11 495) rfl rfl (one_of HT_.out (by kernel_rfl)) (by decide) (fun K hK => ?_)
                      refine Kd.R_lit_step k43 _ 43 ?hg (N := 92) ?hd (xs := ([] : List (S43))) (inner := []) (ok := fun _ => True) (okp := fun _ => True) ?hr ?hp (fun _ hk => hk) trivial (Below.refl _ _) (Nat.le_refl _) (by simp) ?_; (case hd => rfl); (case hg => rfl); (case hr => first | (go_simp; done) | (go_simp; rfl)); (case hp => exact (Reps.none _ _))
                      intro v219 w102 ho103 hb hg_ hnew_
                      clear hg_ hnew_
                      (first | rw [← Ny218.out] at ho103 | (simp only [Int.reduceToNat] at ho103; rw [← Ny218.out] at ho103))
                      have n0_ := Aside0.mk (Kd.R_elder' (fr_ HO_3.out) (Kd.R_base ho103) hb)
                      have n1_ := Aside0.mk (Kd.R_lower (Kd.R_new' ho103 (Kd.R_lt (fr_ HO_3.out))) (below_size (bel_ HB.out)))
                      have n2_ := Aside0.mk (Kd.C_below (by repeat (first | (with_reducible exact HR224.out) | (with_reducible refine Kd.C_alloc ?_ _) | (with_reducible refine Kd.C_drewN ?_ _) | (with_reducible refine Kd.C_drew ?_) | exact HR224.out)) hb)
                      have n3_ := Aside0.mk (Kd.C_below (by repeat (first | (with_reducible exact HR231.out) | (with_reducible refine Kd.C_alloc ?_ _) | (with_reducible refine Kd.C_drewN ?_ _) | (with_reducible refine Kd.C_drew ?_) | exact HR231.out)) hb)
                      have n4_ := Aside0.mk (below_step (bel_ HB.out) hb)
                      clear HO_3
                      clear HR224
                      clear HR231
                      clear HB
                      have HO_3 := n0_
                      have HO220 := n1_
                      have HR224 := n2_
                      have HR231 := n3_
                      have HB := n4_
                      clear n0_ n1_ n2_ n3_ n4_
                      clear hb ho103
                      refine hK.out _ _ trivial (fun hHeld => ?_)
                      clear hK K
                      refine norm_ (a' := ?_) ?_ ?_
                      rotate_left
                      ·show Act.put _ (some 92) _ = _
                       simp only [Act.put, sA_, sZ_, sS_, i64_w, i32_w]
                       rfl
                      refine one_ (i := 4) (N := some 96) (bs 11 511) rfl rfl (one_of HT_.out (by kernel_rfl)) (by decide) (fun K hK => ?_)
                      refine Kd.R_append_rows_step k43 (w0 := w) w.heap.size (by rfl) (.tmp 92) (.tmp 95) 38 43 (.agg #[(.int .i64 0), (.int .i64 0)]) 16 rfl Try.underlying38 info43 rfl (by decide) (by omega) v219 y218 y221 _ _ _ (fun k_ => some k_ ≠ (.slice (some ad216) t202.length co13 : Value).ownBlock) (fun _ => False) rfl rfl ?aO ?aR (fun _ _ h => h) (fun _ h => h.elim) ?aF ?aB ?aS ?aL ?_
                      (case aR => repeat (first | exact (by repeat (first | (with_reducible exact HR224.out) | (with_reducible refine Kd.C_alloc ?_ _) | (with_reducible refine Kd.C_drewN ?_ _) | (with_reducible refine Kd.C_drew ?_) | exact HR224.out)) | (with_reducible refine Kd.C_alloc ?_ _) | (with_reducible refine Kd.C_drewN ?_ _) | (with_reducible refine Kd.C_drew ?_)))
                      (case aB => exact (bel_ HB.out))
                      (case aF => exact (fun k_ hk => Kd.fresh' (Kd.R_lt (fr_ HO_3.out)) k_ hk))
                      (case aO => exact (by (with_reducible repeat (first | apply Kd.R_alloc | apply Kd.R_drewN | apply Kd.R_drew)); exact Kd.R_mono HO220.out (fun _ hk => hk.2)))
                      (case aS => exact (below_size (bel_ HB.out)))
                      (case aL => have := LMc41.out; omega)
                      intro v226 w104 ho hb hg hat
                      rw [← Ny225.out] at ho
                      have n0_ := Aside0.mk (Kd.R_after (ok := (fun _ => True)) (fr_ HO_3.out) hg hat)
                      have n1_ := Aside0.mk (hb)
                      have n2_ := Aside0.mk ((show Kd.C k43 w104 (some ad216) y221.length y221 from by rw [Ny221.out]; exact Kd.C_take (m := ((ji38) : Int).toNat) ((Kd.R_reads' (Kd.R_after (ok := (fun _ => True)) (fr_ HO_3.out) hg hat)).2.2) KL100.out))
                      have n3_ := Aside0.mk ((show Kd.C k43 w104 A101 y228.length y228 from by rw [Ny228.out, KA101.out]; exact Kd.C_drop (m := ((ji42) : Int).toNat) (c := co13) ((Kd.R_reads' (Kd.R_after (ok := (fun _ => True)) (fr_ HO_3.out) hg hat)).2.2) KL101.out ((Kd.R_reads' (Kd.R_after (ok := (fun _ => True)) (fr_ HO_3.out) hg hat)).2.1)))
                      have n4_ := Aside0.mk (ho)
                      clear HO_3
                      clear HB
                      clear HR224
                      clear HR231
                      clear HO220
                      have HO_3 := n0_
                      have HB := n1_
                      have HR224 := n2_
                      have HR231 := n3_
                      have HO227 := n4_
                      clear n0_ n1_ n2_ n3_ n4_
                      clear ho hb hg hat
                      refine hK.out _ _ trivial (fun hHeld => ?_)
                      clear hK K
                      refine norm_ (a' := ?_) ?_ ?_
                      rotate_left
                      ·show Act.put _ (some 96) _ = _
                       simp only [Act.put, sA_, sZ_, sS_, i64_w, i32_w]
                       rfl
                      refine one_ (i := 9) (N := some 101) (bs 11 1023) rfl rfl (one_of HT_.out (by kernel_rfl)) (by decide) (fun K hK => ?_)
                      refine Kd.R_append_rows_step k43 (w0 := w) w.heap.size (by rfl) (.tmp 96) (.tmp 100) 38 43 (.agg #[(.int .i64 0), (.int .i64 0)]) 16 rfl Try.underlying38 info43 rfl (by decide) (by omega) v226 y225 y228 _ _ _ (fun k_ => some k_ ≠ (.slice (some ad216) t202.length co13 : Value).ownBlock) (fun _ => False) rfl rfl ?aO ?aR (fun _ _ h => h) (fun _ h => h.elim) ?aF ?aB ?aS ?aL ?_
                      (case aR => repeat (first | exact (by repeat (first | (with_reducible exact HR231.out) | (with_reducible refine Kd.C_alloc ?_ _) | (with_reducible refine Kd.C_drewN ?_ _) | (with_reducible refine Kd.C_drew ?_) | exact HR231.out)) | (with_reducible refine Kd.C_alloc ?_ _) | (with_reducible refine Kd.C_drewN ?_ _) | (with_reducible refine Kd.C_drew ?_)))
                      (case aB => exact (bel_ HB.out))
                      (case aF => exact (fun k_ hk => Kd.fresh' (Kd.R_lt (fr_ HO_3.out)) k_ hk))
                      (case aO => exact (fr_ HO227.out))
                      (case aS => exact (below_size (bel_ HB.out)))
                      (case aL => have := LMc45.out; omega)
                      intro v233 w105 ho hb hg hat
                      rw [← Ny232.out] at ho
                      have n0_ := Aside0.mk (Kd.R_after (ok := (fun _ => True)) (fr_ HO_3.out) hg hat)
                      have n1_ := Aside0.mk (hb)
                      have n2_ := Aside0.mk ((show Kd.C k43 w105 (some ad216) y221.length y221 from by rw [Ny221.out]; exact Kd.C_take (m := ((ji38) : Int).toNat) ((Kd.R_reads' (Kd.R_after (ok := (fun _ => True)) (fr_ HO_3.out) hg hat)).2.2) KL100.out))
                      have n3_ := Aside0.mk ((show Kd.C k43 w105 A101 y228.length y228 from by rw [Ny228.out, KA101.out]; exact Kd.C_drop (m := ((ji42) : Int).toNat) (c := co13) ((Kd.R_reads' (Kd.R_after (ok := (fun _ => True)) (fr_ HO_3.out) hg hat)).2.2) KL101.out ((Kd.R_reads' (Kd.R_after (ok := (fun _ => True)) (fr_ HO_3.out) hg hat)).2.1)))
                      have n4_ := Aside0.mk (ho)
                      clear HO_3
                      clear HB
                      clear HR224
                      clear HR231
                      clear HO227
                      have HO_3 := n0_
                      have HB := n1_
                      have HR224 := n2_
                      have HR231 := n3_
                      have HO234 := n4_
                      clear n0_ n1_ n2_ n3_ n4_
                      clear ho hb hg hat
                      refine hK.out _ _ trivial (fun hHeld => ?_)
                      clear hK K
                      refine norm_ (a' := ?_) ?_ ?_
                      rotate_left
                      ·show Act.put _ (some 101) _ = _
                       simp only [Act.put, sA_, sZ_, sS_, i64_w, i32_w]
                       rfl
                      refine pu_ 10 11 HT_ (bs 11 2047) rfl rfl ?_
                      refine done_ (done_of HT_.out (by kernel_rfl)) ?_
                      obtain ⟨Ao106, co106, eo106⟩ := Kd.R_slice HO234.out
                      subst eo106
                      try go_wp2_with (first | ((with_reducible refine gate_callee (f := 17) rfl ?_); refine goesL_ (some 105) rfl rfl Try.func17 (by kernel_rfl) rfl #[.slice Ao106 y232.length co106, .int .i64 (wrap64 (1440 + (wrap64 (t213 * 12))))] rfl (by (try simp only [List.map_toArray, List.map_cons, List.map_nil]); first | done | rfl | (simp only [List.length_drop, List.length_take]; rfl)) ?_; (with_reducible refine (impl_RestCode.calls k1 _ _ y232 (wrap64 (1440 + (wrap64 (t213 * 12)))) t235 t236 _ ?side1 ?side2 A46.out).mono ?_); (case side1 => repeat (first | exact (Kd.R_reads' HO234.out).2.2 | (with_reducible refine Kd.C_alloc ?_ _) | (with_reducible refine Kd.C_drewN ?_ _) | (with_reducible refine Kd.C_drew ?_))); (case side2 => exact (Kd.R_reads' HO234.out).2.1); rintro e w107 ⟨rfl, hb⟩; refine ⟨_, rfl, ?_⟩; have n0_ := Aside0.mk (Kd.R_below (fr_ HO_3.out) hb); have n1_ := Aside0.mk (Kd.R_below (fr_ HO234.out) hb); have n2_ := Aside0.mk (Kd.C_below (by repeat (first | (with_reducible exact HR224.out) | (with_reducible refine Kd.C_alloc ?_ _) | (with_reducible refine Kd.C_drewN ?_ _) | (with_reducible refine Kd.C_drew ?_) | exact HR224.out)) hb); have n3_ := Aside0.mk (Kd.C_below (by repeat (first | (with_reducible exact HR231.out) | (with_reducible refine Kd.C_alloc ?_ _) | (with_reducible refine Kd.C_drewN ?_ _) | (with_reducible refine Kd.C_drew ?_) | exact HR231.out)) hb); have n4_ := Aside0.mk (below_step (bel_ HB.out) hb); clear HO_3; clear HO234; clear HR224; clear HR231; clear HB; have HO_3 := n0_; have HO234 := n1_; have HR224 := n2_; have HR231 := n3_; have HB := n4_; clear n0_ n1_ n2_ n3_ n4_; (try clear hb); (try clear hb2); (try clear hk); (try clear hi)))
                      go_ret
                      exact ⟨by first | rfl | (simp [errW_none, errW_some] <;> rfl) | (simp only [← hji31, ← hji38, ← hji42]; first | rfl | (simp [errW_none, errW_some] <;> rfl)) | (simp [*, errW_none, errW_some] <;> rfl), bel_ HB.out⟩
                    ·rw [if_neg c84] at H
                     have c84b0 : decide (t215 ≤ (wrap64 (1440 + (wrap64 (t213 * 12))))) = false := decide_eq_false c84
                     clear c84
                     obtain rfl := Option.some.inj H
                     try go_wp2_with (first | ((with_reducible refine gate_callee (f := 16) rfl ?_); refine goesL_ (some 55) rfl rfl Try.func16 (by kernel_rfl) rfl #[.slice Ao13 t202.length co13, .int .i64 0, .int .i64 100000000] rfl (by (try simp only [List.map_toArray, List.map_cons, List.map_nil]); first | done | rfl | (simp only [List.length_drop, List.length_take]; rfl)) ?_; (with_reducible refine (impl_WorkIn.calls k1 _ _ t202 0 100000000 t212 _ ?side1 ?side2 A21.out).mono ?_); (case side1 => repeat (first | exact (Kd.R_reads' HO_3.out).2.2 | (with_reducible refine Kd.C_alloc ?_ _) | (with_reducible refine Kd.C_drewN ?_ _) | (with_reducible refine Kd.C_drew ?_))); (case side2 => exact (Kd.R_reads' HO_3.out).2.1); rintro e w108 ⟨rfl, hb⟩; refine ⟨_, rfl, ?_⟩; have n0_ := Aside0.mk (Kd.R_below (fr_ HO_3.out) hb); have n1_ := Aside0.mk (below_step (bel_ HB.out) hb); clear HO_3; clear HB; have HO_3 := n0_; have HB := n1_; clear n0_ n1_; (try clear hb); (try clear hb2); (try clear hk); (try clear hi)) | ((with_reducible refine gate_callee (f := 13) rfl ?_); refine goesL_ (some 59) rfl rfl Try.func13 (by kernel_rfl) rfl #[.slice A0 l0.length c0, .int .i64 2] rfl (by (try simp only [List.map_toArray, List.map_cons, List.map_nil]); first | done | rfl | (simp only [List.length_drop, List.length_take]; rfl)) ?_; (with_reducible refine (laws_at.calls _ _ l0 2 t213 _ ?side1 ?side2 A23.out).mono ?_); (case side1 => repeat (first | exact (Kd.C_below HR0.out HB.out) | (with_reducible refine Kd.C_alloc ?_ _) | (with_reducible refine Kd.C_drewN ?_ _) | (with_reducible refine Kd.C_drew ?_))); (case side2 => exact HC0.out); rintro e w' ⟨rfl, ⟨nd, rfl⟩⟩; refine ⟨_, rfl, ?_⟩) | ((with_reducible refine gate_callee (f := 17) rfl ?_); refine goesL_ (some 65) rfl rfl Try.func17 (by kernel_rfl) rfl #[.slice Ao13 t202.length co13, .int .i64 (wrap64 (1440 + (wrap64 (t213 * 12))))] rfl (by (try simp only [List.map_toArray, List.map_cons, List.map_nil]); first | done | rfl | (simp only [List.length_drop, List.length_take]; rfl)) ?_; (with_reducible refine (impl_RestCode.calls k1 _ _ t202 (wrap64 (1440 + (wrap64 (t213 * 12)))) t214 t215 _ ?side1 ?side2 A24.out).mono ?_); (case side1 => repeat (first | exact (Kd.R_reads' HO_3.out).2.2 | (with_reducible refine Kd.C_alloc ?_ _) | (with_reducible refine Kd.C_drewN ?_ _) | (with_reducible refine Kd.C_drew ?_))); (case side2 => exact (Kd.R_reads' HO_3.out).2.1); rintro e w109 ⟨rfl, hb⟩; refine ⟨_, rfl, ?_⟩; have n0_ := Aside0.mk (Kd.R_below (fr_ HO_3.out) hb); have n1_ := Aside0.mk (below_step (bel_ HB.out) hb); clear HO_3; clear HB; have HO_3 := n0_; have HB := n1_; clear n0_ n1_; (try clear hb); (try clear hb2); (try clear hk); (try clear hi); have p216 : 0 ≤ ((ji31) : Int) := of_decide_eq_true (by first | (with_reducible assumption) | assumption); have q216 : (ji31) < (t202.length : Int) := of_decide_eq_true (by first | (with_reducible assumption) | assumption); obtain ⟨ad216, e216, hx216_0, hx216_1⟩ := at_T43 (Kd.R_reads' HO_3.out).2.2 (ji31) p216 q216; cases e216; replace p216 := eq_true p216; replace q216 := eq_true q216) | ((with_reducible refine gate_callee (f := 13) rfl ?_); refine goesL_ (some 88) rfl rfl Try.func13 (by kernel_rfl) rfl #[.slice A0 l0.length c0, .int .i64 3] rfl (by (try simp only [List.map_toArray, List.map_cons, List.map_nil]); first | done | rfl | (simp only [List.length_drop, List.length_take]; rfl)) ?_; (with_reducible refine (laws_at.calls _ _ l0 3 t217 _ ?side1 ?side2 A37.out).mono ?_); (case side1 => repeat (first | exact (Kd.C_below HR0.out HB.out) | (with_reducible refine Kd.C_alloc ?_ _) | (with_reducible refine Kd.C_drewN ?_ _) | (with_reducible refine Kd.C_drew ?_))); (case side2 => exact HC0.out); rintro e w' ⟨rfl, ⟨nd, rfl⟩⟩; refine ⟨_, rfl, ?_⟩))
                     (try ((first | ((conv in (World.drewN w109 _) => skip); generalize hq_ : World.drewN w109 _ = w109) | (rw [drewN_self w109]; generalize hq_ : World.drewN w109 _ = w109)); have n0_ : Aside0 (Kd.R k43 43 w109 w.heap.size (fun _ => True) (.slice (some ad216) t202.length co13) t202) := ⟨by rw [← hq_]; exact (fr_ HO_3.out)⟩; have n1_ : Aside0 (Below w.heap.size w w109) := ⟨by rw [← hq_]; exact (bel_ HB.out)⟩; clear HO_3 HB hq_; have HO_3 := n0_; have HB := n1_; clear n0_ n1_))
                     have n0_ := Aside0.mk (Kd.R_drew HO_3.out)
                     have n1_ := Aside0.mk (below_drew1 HB.out)
                     clear HO_3
                     clear HB
                     have HO_3 := n0_
                     have HB := n1_
                     clear n0_ n1_
                     have q111 : ((ji38) : Int) ≤ ((t202.length : Int) : Int) := of_decide_eq_true (by first | (with_reducible assumption) | assumption)
                     obtain ⟨i0111, hi0111, _, hsz111, _⟩ := info_parts info43
                     have hroom111 : t202.length ≤ co13 := (Kd.R_reads' HO_3.out).2.1
                     have hC111 : Kd.C k43 _ (some ad216) t202.length t202 := (Kd.R_reads' HO_3.out).2.2
                     have hcut111 := cut_to (P := Try.prog) 38 43 .i64 Try.underlying38 hi0111 (some ad216) t202.length co13 (ji38) (of_decide_eq_true (by first | (with_reducible assumption) | assumption)) q111 hroom111
                     have hr111 := Kd.C_take (m := ((ji38) : Int).toNat) hC111 (by omega)
                     have hy111 : y221.length = ((ji38) : Int).toNat := (by rw [Ny221.out, List.length_take]; omega)
                     rw [← Ny221.out] at hr111
                     rw [← hy111] at hcut111
                     have HR224 := Aside0.mk hr111
                     have HC224 := Aside0.mk (show y221.length ≤ co13 from by omega)
                     clear hr111 hC111 hroom111 hi0111 hsz111
                     have KY111 := Aside0.mk hy111
                     clear hy111
                     have KL111 := Aside0.mk (show ((ji38) : Int).toNat ≤ t202.length from by omega)
                     replace q111 := eq_true q111
                     have q112 : ((ji42) : Int) ≤ ((t202.length : Int) : Int) := of_decide_eq_true (by first | (with_reducible assumption) | assumption)
                     obtain ⟨i0112, hi0112, _, hsz112, _⟩ := info_parts info43
                     have hroom112 : t202.length ≤ co13 := (Kd.R_reads' HO_3.out).2.1
                     have hC112 : Kd.C k43 _ (some ad216) t202.length t202 := (Kd.R_reads' HO_3.out).2.2
                     have q0112 : (0 : Int) ≤ ((ji42) : Int) := of_decide_eq_true (by first | (with_reducible assumption) | assumption)
                     have hcut112 := cut_from (P := Try.prog) 38 43 .i64 Try.underlying38 hi0112 2 hsz112 (some ad216) t202.length co13 (ji42) q0112 q112
                     have hr112 := Kd.C_drop (m := ((ji42) : Int).toNat) (c := co13) hC112 (by omega) hroom112
                     obtain ⟨A112, hA112⟩ : ∃ A1, A1 = (if co13 = ((ji42) : Int).toNat then (some ad216) else ((some ad216) : Option Addr).map (·.add (((ji42) : Int).toNat * 2))) := ⟨_, rfl⟩
                     obtain ⟨c112, hc112⟩ : ∃ c1, c1 = co13 - ((ji42) : Int).toNat := ⟨_, rfl⟩
                     have hy112 : y228.length = t202.length - ((ji42) : Int).toNat := (by rw [Ny228.out, List.length_drop] <;> omega)
                     rw [show (t202).drop ((ji42) : Int).toNat = y228 from Ny228.out.symm] at hr112
                     replace hr112 : Kd.C k43 _ A112 y228.length y228 := (by rw [hA112]; exact hr112)
                     rw [← hy112, ← hA112, ← hc112] at hcut112
                     have HR231 := Aside0.mk hr112
                     have HC231 := Aside0.mk (show y228.length ≤ c112 from by rw [hy112, hc112]; exact Nat.sub_le_sub_right hroom112 _)
                     clear hr112 hC112 hroom112 hi0112 hsz112 hc112
                     have KY112 := Aside0.mk hy112
                     have KA112 := Aside0.mk hA112
                     clear hy112 hA112
                     have KL112 := Aside0.mk (show ((ji42) : Int).toNat ≤ t202.length from by omega)
                     replace q112 := eq_true q112
                     refine start_ (n := 11) (S := fun w' => True) (ds := []) (bs 11 0) (by kernel_rfl) rfl rfl trivial (fun hHeld => ?_); refine with_tabW laws_FnRested.tab23 laws_FnRested.bits23 (fun HT_ HW_ => ?_)
                     generalize w109.drew = w110 at HO_3 HB HR224 HR231 hHeld ⊢
                     refine pu_ 1 93 HT_ (bs 11 2) rfl rfl ?_
                     refine pu_ 2 94 HT_ (bs 11 6) rfl rfl ?_
                     refine pu_ 3 95 HT_ (bs 11 14) rfl rfl ?_
                     refine pu_ 5 97 HT_ (bs 11 46) rfl rfl ?_
                     refine pu_ 6 98 HT_ (bs 11 110) rfl rfl ?_
                     refine pu_ 7 99 HT_ (bs 11 238) rfl rfl ?_
                     refine pu_ 8 100 HT_ (bs 11 494) rfl rfl ?_
                     refine one_ (i := 0) (N := some 92) (bs 11 495) rfl rfl (one_of HT_.out (by kernel_rfl)) (by decide) (fun K hK => ?_)
                     refine Kd.R_lit_step k43 _ 43 ?hg (N := 92) ?hd (xs := ([] : List (S43))) (inner := []) (ok := fun _ => True) (okp := fun _ => True) ?hr ?hp (fun _ hk => hk) trivial (Below.refl _ _) (Nat.le_refl _) (by simp) ?_; (case hd => rfl); (case hg => rfl); (case hr => first | (go_simp; done) | (go_simp; rfl)); (case hp => exact (Reps.none _ _))
                     intro v219 w113 ho114 hb hg_ hnew_
                     clear hg_ hnew_
                     (first | rw [← Ny218.out] at ho114 | (simp only [Int.reduceToNat] at ho114; rw [← Ny218.out] at ho114))
                     have n0_ := Aside0.mk (Kd.R_elder' (fr_ HO_3.out) (Kd.R_base ho114) hb)
                     have n1_ := Aside0.mk (Kd.R_lower (Kd.R_new' ho114 (Kd.R_lt (fr_ HO_3.out))) (below_size (bel_ HB.out)))
                     have n2_ := Aside0.mk (Kd.C_below (by repeat (first | (with_reducible exact HR224.out) | (with_reducible refine Kd.C_alloc ?_ _) | (with_reducible refine Kd.C_drewN ?_ _) | (with_reducible refine Kd.C_drew ?_) | exact HR224.out)) hb)
                     have n3_ := Aside0.mk (Kd.C_below (by repeat (first | (with_reducible exact HR231.out) | (with_reducible refine Kd.C_alloc ?_ _) | (with_reducible refine Kd.C_drewN ?_ _) | (with_reducible refine Kd.C_drew ?_) | exact HR231.out)) hb)
                     have n4_ := Aside0.mk (below_step (bel_ HB.out) hb)
                     clear HO_3
                     clear HR224
                     clear HR231
                     clear HB
                     have HO_3 := n0_
                     have HO220 := n1_
                     have HR224 := n2_
                     have HR231 := n3_
                     have HB := n4_
                     clear n0_ n1_ n2_ n3_ n4_
                     clear hb ho114
                     refine hK.out _ _ trivial (fun hHeld => ?_)
                     clear hK K
                     refine norm_ (a' := ?_) ?_ ?_
                     rotate_left
                     ·show Act.put _ (some 92) _ = _
                      simp only [Act.put, sA_, sZ_, sS_, i64_w, i32_w]
                      rfl
                     refine one_ (i := 4) (N := some 96) (bs 11 511) rfl rfl (one_of HT_.out (by kernel_rfl)) (by decide) (fun K hK => ?_)
                     refine Kd.R_append_rows_step k43 (w0 := w) w.heap.size (by rfl) (.tmp 92) (.tmp 95) 38 43 (.agg #[(.int .i64 0), (.int .i64 0)]) 16 rfl Try.underlying38 info43 rfl (by decide) (by omega) v219 y218 y221 _ _ _ (fun k_ => some k_ ≠ (.slice (some ad216) t202.length co13 : Value).ownBlock) (fun _ => False) rfl rfl ?aO ?aR (fun _ _ h => h) (fun _ h => h.elim) ?aF ?aB ?aS ?aL ?_
                     (case aR => repeat (first | exact (by repeat (first | (with_reducible exact HR224.out) | (with_reducible refine Kd.C_alloc ?_ _) | (with_reducible refine Kd.C_drewN ?_ _) | (with_reducible refine Kd.C_drew ?_) | exact HR224.out)) | (with_reducible refine Kd.C_alloc ?_ _) | (with_reducible refine Kd.C_drewN ?_ _) | (with_reducible refine Kd.C_drew ?_)))
                     (case aB => exact (bel_ HB.out))
                     (case aF => exact (fun k_ hk => Kd.fresh' (Kd.R_lt (fr_ HO_3.out)) k_ hk))
                     (case aO => exact (by (with_reducible repeat (first | apply Kd.R_alloc | apply Kd.R_drewN | apply Kd.R_drew)); exact Kd.R_mono HO220.out (fun _ hk => hk.2)))
                     (case aS => exact (below_size (bel_ HB.out)))
                     (case aL => have := LMc41.out; omega)
                     intro v226 w115 ho hb hg hat
                     rw [← Ny225.out] at ho
                     have n0_ := Aside0.mk (Kd.R_after (ok := (fun _ => True)) (fr_ HO_3.out) hg hat)
                     have n1_ := Aside0.mk (hb)
                     have n2_ := Aside0.mk ((show Kd.C k43 w115 (some ad216) y221.length y221 from by rw [Ny221.out]; exact Kd.C_take (m := ((ji38) : Int).toNat) ((Kd.R_reads' (Kd.R_after (ok := (fun _ => True)) (fr_ HO_3.out) hg hat)).2.2) KL111.out))
                     have n3_ := Aside0.mk ((show Kd.C k43 w115 A112 y228.length y228 from by rw [Ny228.out, KA112.out]; exact Kd.C_drop (m := ((ji42) : Int).toNat) (c := co13) ((Kd.R_reads' (Kd.R_after (ok := (fun _ => True)) (fr_ HO_3.out) hg hat)).2.2) KL112.out ((Kd.R_reads' (Kd.R_after (ok := (fun _ => True)) (fr_ HO_3.out) hg hat)).2.1)))
                     have n4_ := Aside0.mk (ho)
                     clear HO_3
                     clear HB
                     clear HR224
                     clear HR231
                     clear HO220
                     have HO_3 := n0_
                     have HB := n1_
                     have HR224 := n2_
                     have HR231 := n3_
                     have HO227 := n4_
                     clear n0_ n1_ n2_ n3_ n4_
                     clear ho hb hg hat
                     refine hK.out _ _ trivial (fun hHeld => ?_)
                     clear hK K
                     refine norm_ (a' := ?_) ?_ ?_
                     rotate_left
                     ·show Act.put _ (some 96) _ = _
                      simp only [Act.put, sA_, sZ_, sS_, i64_w, i32_w]
                      rfl
                     refine one_ (i := 9) (N := some 101) (bs 11 1023) rfl rfl (one_of HT_.out (by kernel_rfl)) (by decide) (fun K hK => ?_)
                     refine Kd.R_append_rows_step k43 (w0 := w) w.heap.size (by rfl) (.tmp 96) (.tmp 100) 38 43 (.agg #[(.int .i64 0), (.int .i64 0)]) 16 rfl Try.underlying38 info43 rfl (by decide) (by omega) v226 y225 y228 _ _ _ (fun k_ => some k_ ≠ (.slice (some ad216) t202.length co13 : Value).ownBlock) (fun _ => False) rfl rfl ?aO ?aR (fun _ _ h => h) (fun _ h => h.elim) ?aF ?aB ?aS ?aL ?_
                     (case aR => repeat (first | exact (by repeat (first | (with_reducible exact HR231.out) | (with_reducible refine Kd.C_alloc ?_ _) | (with_reducible refine Kd.C_drewN ?_ _) | (with_reducible refine Kd.C_drew ?_) | exact HR231.out)) | (with_reducible refine Kd.C_alloc ?_ _) | (with_reducible refine Kd.C_drewN ?_ _) | (with_reducible refine Kd.C_drew ?_)))
                     (case aB => exact (bel_ HB.out))
                     (case aF => exact (fun k_ hk => Kd.fresh' (Kd.R_lt (fr_ HO_3.out)) k_ hk))
                     (case aO => exact (fr_ HO227.out))
                     (case aS => exact (below_size (bel_ HB.out)))
                     (case aL => have := LMc45.out; omega)
                     intro v233 w116 ho hb hg hat
                     rw [← Ny232.out] at ho
                     have n0_ := Aside0.mk (Kd.R_after (ok := (fun _ => True)) (fr_ HO_3.out) hg hat)
                     have n1_ := Aside0.mk (hb)
                     have n2_ := Aside0.mk ((show Kd.C k43 w116 (some ad216) y221.length y221 from by rw [Ny221.out]; exact Kd.C_take (m := ((ji38) : Int).toNat) ((Kd.R_reads' (Kd.R_after (ok := (fun _ => True)) (fr_ HO_3.out) hg hat)).2.2) KL111.out))
                     have n3_ := Aside0.mk ((show Kd.C k43 w116 A112 y228.length y228 from by rw [Ny228.out, KA112.out]; exact Kd.C_drop (m := ((ji42) : Int).toNat) (c := co13) ((Kd.R_reads' (Kd.R_after (ok := (fun _ => True)) (fr_ HO_3.out) hg hat)).2.2) KL112.out ((Kd.R_reads' (Kd.R_after (ok := (fun _ => True)) (fr_ HO_3.out) hg hat)).2.1)))
                     have n4_ := Aside0.mk (ho)
                     clear HO_3
                     clear HB
                     clear HR224
                     clear HR231
                     clear HO227
                     have HO_3 := n0_
                     have HB := n1_
                     have HR224 := n2_
                     have HR231 := n3_
                     have HO234 := n4_
                     clear n0_ n1_ n2_ n3_ n4_
                     clear ho hb hg hat
                     refine hK.out _ _ trivial (fun hHeld => ?_)
                     clear hK K
                     refine norm_ (a' := ?_) ?_ ?_
                     rotate_left
                     ·show Act.put _ (some 101) _ = _
                      simp only [Act.put, sA_, sZ_, sS_, i64_w, i32_w]
                      rfl
                     refine pu_ 10 11 HT_ (bs 11 2047) rfl rfl ?_
                     refine done_ (done_of HT_.out (by kernel_rfl)) ?_
                     obtain ⟨Ao117, co117, eo117⟩ := Kd.R_slice HO234.out
                     subst eo117
                     try go_wp2_with (first | ((with_reducible refine gate_callee (f := 17) rfl ?_); refine goesL_ (some 105) rfl rfl Try.func17 (by kernel_rfl) rfl #[.slice Ao117 y232.length co117, .int .i64 (wrap64 (1440 + (wrap64 (t213 * 12))))] rfl (by (try simp only [List.map_toArray, List.map_cons, List.map_nil]); first | done | rfl | (simp only [List.length_drop, List.length_take]; rfl)) ?_; (with_reducible refine (impl_RestCode.calls k1 _ _ y232 (wrap64 (1440 + (wrap64 (t213 * 12)))) t235 t236 _ ?side1 ?side2 A46.out).mono ?_); (case side1 => repeat (first | exact (Kd.R_reads' HO234.out).2.2 | (with_reducible refine Kd.C_alloc ?_ _) | (with_reducible refine Kd.C_drewN ?_ _) | (with_reducible refine Kd.C_drew ?_))); (case side2 => exact (Kd.R_reads' HO234.out).2.1); rintro e w118 ⟨rfl, hb⟩; refine ⟨_, rfl, ?_⟩; have n0_ := Aside0.mk (Kd.R_below (fr_ HO_3.out) hb); have n1_ := Aside0.mk (Kd.R_below (fr_ HO234.out) hb); have n2_ := Aside0.mk (Kd.C_below (by repeat (first | (with_reducible exact HR224.out) | (with_reducible refine Kd.C_alloc ?_ _) | (with_reducible refine Kd.C_drewN ?_ _) | (with_reducible refine Kd.C_drew ?_) | exact HR224.out)) hb); have n3_ := Aside0.mk (Kd.C_below (by repeat (first | (with_reducible exact HR231.out) | (with_reducible refine Kd.C_alloc ?_ _) | (with_reducible refine Kd.C_drewN ?_ _) | (with_reducible refine Kd.C_drew ?_) | exact HR231.out)) hb); have n4_ := Aside0.mk (below_step (bel_ HB.out) hb); clear HO_3; clear HO234; clear HR224; clear HR231; clear HB; have HO_3 := n0_; have HO234 := n1_; have HR224 := n2_; have HR231 := n3_; have HB := n4_; clear n0_ n1_ n2_ n3_ n4_; (try clear hb); (try clear hb2); (try clear hk); (try clear hi)))
                     go_ret
                     exact ⟨by first | rfl | (simp [errW_none, errW_some] <;> rfl) | (simp only [← hji31, ← hji38, ← hji42]; first | rfl | (simp [errW_none, errW_some] <;> rfl)) | (simp [*, errW_none, errW_some] <;> rfl), bel_ HB.out⟩
                   ·rw [if_neg c83] at H
                    have c83b0 : decide (1440 ≤ t215) = false := decide_eq_false c83
                    clear c83
                    obtain rfl := Option.some.inj H
                    try go_wp2_with (first | ((with_reducible refine gate_callee (f := 16) rfl ?_); refine goesL_ (some 55) rfl rfl Try.func16 (by kernel_rfl) rfl #[.slice Ao13 t202.length co13, .int .i64 0, .int .i64 100000000] rfl (by (try simp only [List.map_toArray, List.map_cons, List.map_nil]); first | done | rfl | (simp only [List.length_drop, List.length_take]; rfl)) ?_; (with_reducible refine (impl_WorkIn.calls k1 _ _ t202 0 100000000 t212 _ ?side1 ?side2 A21.out).mono ?_); (case side1 => repeat (first | exact (Kd.R_reads' HO_3.out).2.2 | (with_reducible refine Kd.C_alloc ?_ _) | (with_reducible refine Kd.C_drewN ?_ _) | (with_reducible refine Kd.C_drew ?_))); (case side2 => exact (Kd.R_reads' HO_3.out).2.1); rintro e w119 ⟨rfl, hb⟩; refine ⟨_, rfl, ?_⟩; have n0_ := Aside0.mk (Kd.R_below (fr_ HO_3.out) hb); have n1_ := Aside0.mk (below_step (bel_ HB.out) hb); clear HO_3; clear HB; have HO_3 := n0_; have HB := n1_; clear n0_ n1_; (try clear hb); (try clear hb2); (try clear hk); (try clear hi)) | ((with_reducible refine gate_callee (f := 13) rfl ?_); refine goesL_ (some 59) rfl rfl Try.func13 (by kernel_rfl) rfl #[.slice A0 l0.length c0, .int .i64 2] rfl (by (try simp only [List.map_toArray, List.map_cons, List.map_nil]); first | done | rfl | (simp only [List.length_drop, List.length_take]; rfl)) ?_; (with_reducible refine (laws_at.calls _ _ l0 2 t213 _ ?side1 ?side2 A23.out).mono ?_); (case side1 => repeat (first | exact (Kd.C_below HR0.out HB.out) | (with_reducible refine Kd.C_alloc ?_ _) | (with_reducible refine Kd.C_drewN ?_ _) | (with_reducible refine Kd.C_drew ?_))); (case side2 => exact HC0.out); rintro e w' ⟨rfl, ⟨nd, rfl⟩⟩; refine ⟨_, rfl, ?_⟩) | ((with_reducible refine gate_callee (f := 17) rfl ?_); refine goesL_ (some 65) rfl rfl Try.func17 (by kernel_rfl) rfl #[.slice Ao13 t202.length co13, .int .i64 (wrap64 (1440 + (wrap64 (t213 * 12))))] rfl (by (try simp only [List.map_toArray, List.map_cons, List.map_nil]); first | done | rfl | (simp only [List.length_drop, List.length_take]; rfl)) ?_; (with_reducible refine (impl_RestCode.calls k1 _ _ t202 (wrap64 (1440 + (wrap64 (t213 * 12)))) t214 t215 _ ?side1 ?side2 A24.out).mono ?_); (case side1 => repeat (first | exact (Kd.R_reads' HO_3.out).2.2 | (with_reducible refine Kd.C_alloc ?_ _) | (with_reducible refine Kd.C_drewN ?_ _) | (with_reducible refine Kd.C_drew ?_))); (case side2 => exact (Kd.R_reads' HO_3.out).2.1); rintro e w120 ⟨rfl, hb⟩; refine ⟨_, rfl, ?_⟩; have n0_ := Aside0.mk (Kd.R_below (fr_ HO_3.out) hb); have n1_ := Aside0.mk (below_step (bel_ HB.out) hb); clear HO_3; clear HB; have HO_3 := n0_; have HB := n1_; clear n0_ n1_; (try clear hb); (try clear hb2); (try clear hk); (try clear hi); have p216 : 0 ≤ ((ji31) : Int) := of_decide_eq_true (by first | (with_reducible assumption) | assumption); have q216 : (ji31) < (t202.length : Int) := of_decide_eq_true (by first | (with_reducible assumption) | assumption); obtain ⟨ad216, e216, hx216_0, hx216_1⟩ := at_T43 (Kd.R_reads' HO_3.out).2.2 (ji31) p216 q216; cases e216; replace p216 := eq_true p216; replace q216 := eq_true q216) | ((with_reducible refine gate_callee (f := 13) rfl ?_); refine goesL_ (some 88) rfl rfl Try.func13 (by kernel_rfl) rfl #[.slice A0 l0.length c0, .int .i64 3] rfl (by (try simp only [List.map_toArray, List.map_cons, List.map_nil]); first | done | rfl | (simp only [List.length_drop, List.length_take]; rfl)) ?_; (with_reducible refine (laws_at.calls _ _ l0 3 t217 _ ?side1 ?side2 A37.out).mono ?_); (case side1 => repeat (first | exact (Kd.C_below HR0.out HB.out) | (with_reducible refine Kd.C_alloc ?_ _) | (with_reducible refine Kd.C_drewN ?_ _) | (with_reducible refine Kd.C_drew ?_))); (case side2 => exact HC0.out); rintro e w' ⟨rfl, ⟨nd, rfl⟩⟩; refine ⟨_, rfl, ?_⟩))
                    (try ((first | ((conv in (World.drewN w120 _) => skip); generalize hq_ : World.drewN w120 _ = w120) | (rw [drewN_self w120]; generalize hq_ : World.drewN w120 _ = w120)); have n0_ : Aside0 (Kd.R k43 43 w120 w.heap.size (fun _ => True) (.slice (some ad216) t202.length co13) t202) := ⟨by rw [← hq_]; exact (fr_ HO_3.out)⟩; have n1_ : Aside0 (Below w.heap.size w w120) := ⟨by rw [← hq_]; exact (bel_ HB.out)⟩; clear HO_3 HB hq_; have HO_3 := n0_; have HB := n1_; clear n0_ n1_))
                    have n0_ := Aside0.mk (Kd.R_drew HO_3.out)
                    have n1_ := Aside0.mk (below_drew1 HB.out)
                    clear HO_3
                    clear HB
                    have HO_3 := n0_
                    have HB := n1_
                    clear n0_ n1_
                    have q122 : ((ji38) : Int) ≤ ((t202.length : Int) : Int) := of_decide_eq_true (by first | (with_reducible assumption) | assumption)
                    obtain ⟨i0122, hi0122, _, hsz122, _⟩ := info_parts info43
                    have hroom122 : t202.length ≤ co13 := (Kd.R_reads' HO_3.out).2.1
                    have hC122 : Kd.C k43 _ (some ad216) t202.length t202 := (Kd.R_reads' HO_3.out).2.2
                    have hcut122 := cut_to (P := Try.prog) 38 43 .i64 Try.underlying38 hi0122 (some ad216) t202.length co13 (ji38) (of_decide_eq_true (by first | (with_reducible assumption) | assumption)) q122 hroom122
                    have hr122 := Kd.C_take (m := ((ji38) : Int).toNat) hC122 (by omega)
                    have hy122 : y221.length = ((ji38) : Int).toNat := (by rw [Ny221.out, List.length_take]; omega)
                    rw [← Ny221.out] at hr122
                    rw [← hy122] at hcut122
                    have HR224 := Aside0.mk hr122
                    have HC224 := Aside0.mk (show y221.length ≤ co13 from by omega)
                    clear hr122 hC122 hroom122 hi0122 hsz122
                    have KY122 := Aside0.mk hy122
                    clear hy122
                    have KL122 := Aside0.mk (show ((ji38) : Int).toNat ≤ t202.length from by omega)
                    replace q122 := eq_true q122
                    have q123 : ((ji42) : Int) ≤ ((t202.length : Int) : Int) := of_decide_eq_true (by first | (with_reducible assumption) | assumption)
                    obtain ⟨i0123, hi0123, _, hsz123, _⟩ := info_parts info43
                    have hroom123 : t202.length ≤ co13 := (Kd.R_reads' HO_3.out).2.1
                    have hC123 : Kd.C k43 _ (some ad216) t202.length t202 := (Kd.R_reads' HO_3.out).2.2
                    have q0123 : (0 : Int) ≤ ((ji42) : Int) := of_decide_eq_true (by first | (with_reducible assumption) | assumption)
                    have hcut123 := cut_from (P := Try.prog) 38 43 .i64 Try.underlying38 hi0123 2 hsz123 (some ad216) t202.length co13 (ji42) q0123 q123
                    have hr123 := Kd.C_drop (m := ((ji42) : Int).toNat) (c := co13) hC123 (by omega) hroom123
                    obtain ⟨A123, hA123⟩ : ∃ A1, A1 = (if co13 = ((ji42) : Int).toNat then (some ad216) else ((some ad216) : Option Addr).map (·.add (((ji42) : Int).toNat * 2))) := ⟨_, rfl⟩
                    obtain ⟨c123, hc123⟩ : ∃ c1, c1 = co13 - ((ji42) : Int).toNat := ⟨_, rfl⟩
                    have hy123 : y228.length = t202.length - ((ji42) : Int).toNat := (by rw [Ny228.out, List.length_drop] <;> omega)
                    rw [show (t202).drop ((ji42) : Int).toNat = y228 from Ny228.out.symm] at hr123
                    replace hr123 : Kd.C k43 _ A123 y228.length y228 := (by rw [hA123]; exact hr123)
                    rw [← hy123, ← hA123, ← hc123] at hcut123
                    have HR231 := Aside0.mk hr123
                    have HC231 := Aside0.mk (show y228.length ≤ c123 from by rw [hy123, hc123]; exact Nat.sub_le_sub_right hroom123 _)
                    clear hr123 hC123 hroom123 hi0123 hsz123 hc123
                    have KY123 := Aside0.mk hy123
                    have KA123 := Aside0.mk hA123
                    clear hy123 hA123
                    have KL123 := Aside0.mk (show ((ji42) : Int).toNat ≤ t202.length from by omega)
                    replace q123 := eq_true q123
                    refine start_ (n := 11) (S := fun w' => True) (ds := []) (bs 11 0) (by kernel_rfl) rfl rfl trivial (fun hHeld => ?_); refine with_tabW laws_FnRested.tab23 laws_FnRested.bits23 (fun HT_ HW_ => ?_)
                    generalize w120.drew = w121 at HO_3 HB HR224 HR231 hHeld ⊢
                    refine pu_ 1 93 HT_ (bs 11 2) rfl rfl ?_
                    refine pu_ 2 94 HT_ (bs 11 6) rfl rfl ?_
                    refine pu_ 3 95 HT_ (bs 11 14) rfl rfl ?_
                    refine pu_ 5 97 HT_ (bs 11 46) rfl rfl ?_
                    refine pu_ 6 98 HT_ (bs 11 110) rfl rfl ?_
                    refine pu_ 7 99 HT_ (bs 11 238) rfl rfl ?_
                    refine pu_ 8 100 HT_ (bs 11 494) rfl rfl ?_
                    refine one_ (i := 0) (N := some 92) (bs 11 495) rfl rfl (one_of HT_.out (by kernel_rfl)) (by decide) (fun K hK => ?_)
                    refine Kd.R_lit_step k43 _ 43 ?hg (N := 92) ?hd (xs := ([] : List (S43))) (inner := []) (ok := fun _ => True) (okp := fun _ => True) ?hr ?hp (fun _ hk => hk) trivial (Below.refl _ _) (Nat.le_refl _) (by simp) ?_; (case hd => rfl); (case hg => rfl); (case hr => first | (go_simp; done) | (go_simp; rfl)); (case hp => exact (Reps.none _ _))
                    intro v219 w124 ho125 hb hg_ hnew_
                    clear hg_ hnew_
                    (first | rw [← Ny218.out] at ho125 | (simp only [Int.reduceToNat] at ho125; rw [← Ny218.out] at ho125))
                    have n0_ := Aside0.mk (Kd.R_elder' (fr_ HO_3.out) (Kd.R_base ho125) hb)
                    have n1_ := Aside0.mk (Kd.R_lower (Kd.R_new' ho125 (Kd.R_lt (fr_ HO_3.out))) (below_size (bel_ HB.out)))
                    have n2_ := Aside0.mk (Kd.C_below (by repeat (first | (with_reducible exact HR224.out) | (with_reducible refine Kd.C_alloc ?_ _) | (with_reducible refine Kd.C_drewN ?_ _) | (with_reducible refine Kd.C_drew ?_) | exact HR224.out)) hb)
                    have n3_ := Aside0.mk (Kd.C_below (by repeat (first | (with_reducible exact HR231.out) | (with_reducible refine Kd.C_alloc ?_ _) | (with_reducible refine Kd.C_drewN ?_ _) | (with_reducible refine Kd.C_drew ?_) | exact HR231.out)) hb)
                    have n4_ := Aside0.mk (below_step (bel_ HB.out) hb)
                    clear HO_3
                    clear HR224
                    clear HR231
                    clear HB
                    have HO_3 := n0_
                    have HO220 := n1_
                    have HR224 := n2_
                    have HR231 := n3_
                    have HB := n4_
                    clear n0_ n1_ n2_ n3_ n4_
                    clear hb ho125
                    refine hK.out _ _ trivial (fun hHeld => ?_)
                    clear hK K
                    refine norm_ (a' := ?_) ?_ ?_
                    rotate_left
                    ·show Act.put _ (some 92) _ = _
                     simp only [Act.put, sA_, sZ_, sS_, i64_w, i32_w]
                     rfl
                    refine one_ (i := 4) (N := some 96) (bs 11 511) rfl rfl (one_of HT_.out (by kernel_rfl)) (by decide) (fun K hK => ?_)
                    refine Kd.R_append_rows_step k43 (w0 := w) w.heap.size (by rfl) (.tmp 92) (.tmp 95) 38 43 (.agg #[(.int .i64 0), (.int .i64 0)]) 16 rfl Try.underlying38 info43 rfl (by decide) (by omega) v219 y218 y221 _ _ _ (fun k_ => some k_ ≠ (.slice (some ad216) t202.length co13 : Value).ownBlock) (fun _ => False) rfl rfl ?aO ?aR (fun _ _ h => h) (fun _ h => h.elim) ?aF ?aB ?aS ?aL ?_
                    (case aR => repeat (first | exact (by repeat (first | (with_reducible exact HR224.out) | (with_reducible refine Kd.C_alloc ?_ _) | (with_reducible refine Kd.C_drewN ?_ _) | (with_reducible refine Kd.C_drew ?_) | exact HR224.out)) | (with_reducible refine Kd.C_alloc ?_ _) | (with_reducible refine Kd.C_drewN ?_ _) | (with_reducible refine Kd.C_drew ?_)))
                    (case aB => exact (bel_ HB.out))
                    (case aF => exact (fun k_ hk => Kd.fresh' (Kd.R_lt (fr_ HO_3.out)) k_ hk))
                    (case aO => exact (by (with_reducible repeat (first | apply Kd.R_alloc | apply Kd.R_drewN | apply Kd.R_drew)); exact Kd.R_mono HO220.out (fun _ hk => hk.2)))
                    (case aS => exact (below_size (bel_ HB.out)))
                    (case aL => have := LMc41.out; omega)
                    intro v226 w126 ho hb hg hat
                    rw [← Ny225.out] at ho
                    have n0_ := Aside0.mk (Kd.R_after (ok := (fun _ => True)) (fr_ HO_3.out) hg hat)
                    have n1_ := Aside0.mk (hb)
                    have n2_ := Aside0.mk ((show Kd.C k43 w126 (some ad216) y221.length y221 from by rw [Ny221.out]; exact Kd.C_take (m := ((ji38) : Int).toNat) ((Kd.R_reads' (Kd.R_after (ok := (fun _ => True)) (fr_ HO_3.out) hg hat)).2.2) KL122.out))
                    have n3_ := Aside0.mk ((show Kd.C k43 w126 A123 y228.length y228 from by rw [Ny228.out, KA123.out]; exact Kd.C_drop (m := ((ji42) : Int).toNat) (c := co13) ((Kd.R_reads' (Kd.R_after (ok := (fun _ => True)) (fr_ HO_3.out) hg hat)).2.2) KL123.out ((Kd.R_reads' (Kd.R_after (ok := (fun _ => True)) (fr_ HO_3.out) hg hat)).2.1)))
                    have n4_ := Aside0.mk (ho)
                    clear HO_3
                    clear HB
                    clear HR224
                    clear HR231
                    clear HO220
                    have HO_3 := n0_
                    have HB := n1_
                    have HR224 := n2_
                    have HR231 := n3_
                    have HO227 := n4_
                    clear n0_ n1_ n2_ n3_ n4_
                    clear ho hb hg hat
                    refine hK.out _ _ trivial (fun hHeld => ?_)
                    clear hK K
                    refine norm_ (a' := ?_) ?_ ?_
                    rotate_left
                    ·show Act.put _ (some 96) _ = _
                     simp only [Act.put, sA_, sZ_, sS_, i64_w, i32_w]
                     rfl
                    refine one_ (i := 9) (N := some 101) (bs 11 1023) rfl rfl (one_of HT_.out (by kernel_rfl)) (by decide) (fun K hK => ?_)
                    refine Kd.R_append_rows_step k43 (w0 := w) w.heap.size (by rfl) (.tmp 96) (.tmp 100) 38 43 (.agg #[(.int .i64 0), (.int .i64 0)]) 16 rfl Try.underlying38 info43 rfl (by decide) (by omega) v226 y225 y228 _ _ _ (fun k_ => some k_ ≠ (.slice (some ad216) t202.length co13 : Value).ownBlock) (fun _ => False) rfl rfl ?aO ?aR (fun _ _ h => h) (fun _ h => h.elim) ?aF ?aB ?aS ?aL ?_
                    (case aR => repeat (first | exact (by repeat (first | (with_reducible exact HR231.out) | (with_reducible refine Kd.C_alloc ?_ _) | (with_reducible refine Kd.C_drewN ?_ _) | (with_reducible refine Kd.C_drew ?_) | exact HR231.out)) | (with_reducible refine Kd.C_alloc ?_ _) | (with_reducible refine Kd.C_drewN ?_ _) | (with_reducible refine Kd.C_drew ?_)))
                    (case aB => exact (bel_ HB.out))
                    (case aF => exact (fun k_ hk => Kd.fresh' (Kd.R_lt (fr_ HO_3.out)) k_ hk))
                    (case aO => exact (fr_ HO227.out))
                    (case aS => exact (below_size (bel_ HB.out)))
                    (case aL => have := LMc45.out; omega)
                    intro v233 w127 ho hb hg hat
                    rw [← Ny232.out] at ho
                    have n0_ := Aside0.mk (Kd.R_after (ok := (fun _ => True)) (fr_ HO_3.out) hg hat)
                    have n1_ := Aside0.mk (hb)
                    have n2_ := Aside0.mk ((show Kd.C k43 w127 (some ad216) y221.length y221 from by rw [Ny221.out]; exact Kd.C_take (m := ((ji38) : Int).toNat) ((Kd.R_reads' (Kd.R_after (ok := (fun _ => True)) (fr_ HO_3.out) hg hat)).2.2) KL122.out))
                    have n3_ := Aside0.mk ((show Kd.C k43 w127 A123 y228.length y228 from by rw [Ny228.out, KA123.out]; exact Kd.C_drop (m := ((ji42) : Int).toNat) (c := co13) ((Kd.R_reads' (Kd.R_after (ok := (fun _ => True)) (fr_ HO_3.out) hg hat)).2.2) KL123.out ((Kd.R_reads' (Kd.R_after (ok := (fun _ => True)) (fr_ HO_3.out) hg hat)).2.1)))
                    have n4_ := Aside0.mk (ho)
                    clear HO_3
                    clear HB
                    clear HR224
                    clear HR231
                    clear HO227
                    have HO_3 := n0_
                    have HB := n1_
                    have HR224 := n2_
                    have HR231 := n3_
                    have HO234 := n4_
                    clear n0_ n1_ n2_ n3_ n4_
                    clear ho hb hg hat
                    refine hK.out _ _ trivial (fun hHeld => ?_)
                    clear hK K
                    refine norm_ (a' := ?_) ?_ ?_
                    rotate_left
                    ·show Act.put _ (some 101) _ = _
                     simp only [Act.put, sA_, sZ_, sS_, i64_w, i32_w]
                     rfl
                    refine pu_ 10 11 HT_ (bs 11 2047) rfl rfl ?_
                    refine done_ (done_of HT_.out (by kernel_rfl)) ?_
                    obtain ⟨Ao128, co128, eo128⟩ := Kd.R_slice HO234.out
                    subst eo128
                    try go_wp2_with (first | ((with_reducible refine gate_callee (f := 17) rfl ?_); refine goesL_ (some 105) rfl rfl Try.func17 (by kernel_rfl) rfl #[.slice Ao128 y232.length co128, .int .i64 (wrap64 (1440 + (wrap64 (t213 * 12))))] rfl (by (try simp only [List.map_toArray, List.map_cons, List.map_nil]); first | done | rfl | (simp only [List.length_drop, List.length_take]; rfl)) ?_; (with_reducible refine (impl_RestCode.calls k1 _ _ y232 (wrap64 (1440 + (wrap64 (t213 * 12)))) t235 t236 _ ?side1 ?side2 A46.out).mono ?_); (case side1 => repeat (first | exact (Kd.R_reads' HO234.out).2.2 | (with_reducible refine Kd.C_alloc ?_ _) | (with_reducible refine Kd.C_drewN ?_ _) | (with_reducible refine Kd.C_drew ?_))); (case side2 => exact (Kd.R_reads' HO234.out).2.1); rintro e w129 ⟨rfl, hb⟩; refine ⟨_, rfl, ?_⟩; have n0_ := Aside0.mk (Kd.R_below (fr_ HO_3.out) hb); have n1_ := Aside0.mk (Kd.R_below (fr_ HO234.out) hb); have n2_ := Aside0.mk (Kd.C_below (by repeat (first | (with_reducible exact HR224.out) | (with_reducible refine Kd.C_alloc ?_ _) | (with_reducible refine Kd.C_drewN ?_ _) | (with_reducible refine Kd.C_drew ?_) | exact HR224.out)) hb); have n3_ := Aside0.mk (Kd.C_below (by repeat (first | (with_reducible exact HR231.out) | (with_reducible refine Kd.C_alloc ?_ _) | (with_reducible refine Kd.C_drewN ?_ _) | (with_reducible refine Kd.C_drew ?_) | exact HR231.out)) hb); have n4_ := Aside0.mk (below_step (bel_ HB.out) hb); clear HO_3; clear HO234; clear HR224; clear HR231; clear HB; have HO_3 := n0_; have HO234 := n1_; have HR224 := n2_; have HR231 := n3_; have HB := n4_; clear n0_ n1_ n2_ n3_ n4_; (try clear hb); (try clear hb2); (try clear hk); (try clear hi)))
                    go_ret
                    exact ⟨by first | rfl | (simp [errW_none, errW_some] <;> rfl) | (simp only [← hji31, ← hji38, ← hji42]; first | rfl | (simp [errW_none, errW_some] <;> rfl)) | (simp [*, errW_none, errW_some] <;> rfl), bel_ HB.out⟩
                 ·rw [if_neg c45] at H
                  exact absurd H (by simp)
                ·rw [if_neg c44] at H
                 exact absurd H (by simp)
               ·rw [if_neg c43] at H
                exact absurd H (by simp)
              ·rw [if_neg c41] at H
               exact absurd H (by simp)
             ·rw [if_neg c40] at H
              exact absurd H (by simp)
            ·rw [if_neg c39] at H
             exact absurd H (by simp)
          ·rw [if_neg c33] at H
           exact absurd H (by simp)
         ·rw [if_neg c32] at H
          exact absurd H (by simp)
       ·rw [if_neg c22] at H
        have c22b0 : (t212 == x5_1) = false := beq_eq_false_iff_ne.mpr c22
        have c22b1 : (t212 != x5_1) = true := bne_iff_ne.mpr c22
        obtain rfl := Option.some.inj H
        go_wp2_with (first | ((with_reducible refine gate_callee (f := 16) rfl ?_); refine goesL_ (some 55) rfl rfl Try.func16 (by kernel_rfl) rfl #[.slice Ao13 t202.length co13, .int .i64 0, .int .i64 100000000] rfl (by (try simp only [List.map_toArray, List.map_cons, List.map_nil]); first | done | rfl | (simp only [List.length_drop, List.length_take]; rfl)) ?_; (with_reducible refine (impl_WorkIn.calls k1 _ _ t202 0 100000000 t212 _ ?side1 ?side2 A21.out).mono ?_); (case side1 => repeat (first | exact (Kd.R_reads' HO_3.out).2.2 | (with_reducible refine Kd.C_alloc ?_ _) | (with_reducible refine Kd.C_drewN ?_ _) | (with_reducible refine Kd.C_drew ?_))); (case side2 => exact (Kd.R_reads' HO_3.out).2.1); rintro e w130 ⟨rfl, hb⟩; refine ⟨_, rfl, ?_⟩; have n0_ := Aside0.mk (Kd.R_below (fr_ HO_3.out) hb); have n1_ := Aside0.mk (below_step (bel_ HB.out) hb); clear HO_3; clear HB; have HO_3 := n0_; have HB := n1_; clear n0_ n1_; (try clear hb); (try clear hb2); (try clear hk); (try clear hi)))
        go_ret
        exact ⟨by first | rfl | (simp [errW_none, errW_some] <;> rfl) | (simp [*, errW_none, errW_some] <;> rfl), bel_ HB.out⟩
   ·rw [if_neg c11] at H
    have c11b0 : ((wrap64 (t207 + t208)) == t209) = false := beq_eq_false_iff_ne.mpr c11
    have c11b1 : ((wrap64 (t207 + t208)) != t209) = true := bne_iff_ne.mpr c11
    obtain rfl := Option.some.inj H
    go_enter Try.func4, Try.ntmps4
    go_wp2_with (first | ((with_reducible refine gate_callee (f := 9) rfl ?_); refine goesL_ (some 15) rfl rfl Try.func9 (by kernel_rfl) rfl #[.slice A0 l0.length c0] rfl (by (try simp only [List.map_toArray, List.map_cons, List.map_nil]); first | done | rfl | (simp only [List.length_drop, List.length_take]; rfl)) ?_; (with_reducible refine (laws_big.calls _ _ l0 false _ ?side1 ?side2 A2.out).mono ?_); (case side1 => repeat (first | exact HR0.out | (with_reducible refine Kd.C_alloc ?_ _) | (with_reducible refine Kd.C_drewN ?_ _) | (with_reducible refine Kd.C_drew ?_))); (case side2 => exact HC0.out); rintro e w' ⟨rfl, ⟨nd, rfl⟩⟩; refine ⟨_, rfl, ?_⟩) | ((with_reducible refine gate_callee (f := 14) rfl ?_); refine goesL_ (some 17) rfl rfl Try.func14 (by kernel_rfl) rfl #[.slice A0 l0.length c0] rfl (by (try simp only [List.map_toArray, List.map_cons, List.map_nil]); first | done | rfl | (simp only [List.length_drop, List.length_take]; rfl)) ?_; (with_reducible refine (spec_DrawSpells.calls k _ _ l0 t202 _ ?side1 ?side2 A4.out).mono ?_); (case side1 => repeat (first | exact HR0.out | (with_reducible refine Kd.C_alloc ?_ _) | (with_reducible refine Kd.C_drewN ?_ _) | (with_reducible refine Kd.C_drew ?_))); (case side2 => exact HC0.out); rintro e w131 ⟨v203, rfl, ho0, hb⟩; refine ⟨_, rfl, ?_⟩; have n0_ := Aside0.mk (Kd.R_lower ho0 (below_size (bel_ HB.out))); have n1_ := Aside0.mk (below_step (bel_ HB.out) hb); clear HB; have HO204 := n0_; have HB := n1_; clear n0_ n1_; (try clear hb); (try clear hb2); (try clear hk); (try clear hi); (try clear ho0); obtain ⟨Ao132, co132, eo132⟩ := Kd.R_slice HO204.out; subst eo132) | ((with_reducible refine gate_callee (f := 15) rfl ?_); refine goesL_ (some 19) rfl rfl Try.func15 (by kernel_rfl) rfl #[.slice Ao132 t202.length co132] rfl (by (try simp only [List.map_toArray, List.map_cons, List.map_nil]); first | done | rfl | (simp only [List.length_drop, List.length_take]; rfl)) ?_; (with_reducible refine (impl_SpellsOk.calls k _ _ t202 true _ ?side1 ?side2 A5.out).mono ?_); (case side1 => repeat (first | exact (Kd.R_reads' HO204.out).2.2 | (with_reducible refine Kd.C_alloc ?_ _) | (with_reducible refine Kd.C_drewN ?_ _) | (with_reducible refine Kd.C_drew ?_))); (case side2 => exact (Kd.R_reads' HO204.out).2.1); rintro e w133 ⟨rfl, hb⟩; refine ⟨_, rfl, ?_⟩; have n0_ := Aside0.mk (Kd.R_below (fr_ HO204.out) hb); have n1_ := Aside0.mk (below_step (bel_ HB.out) hb); clear HO204; clear HB; have HO204 := n0_; have HB := n1_; clear n0_ n1_; (try clear hb); (try clear hb2); (try clear hk); (try clear hi)) | ((with_reducible refine gate_callee (f := 13) rfl ?_); refine goesL_ (some 22) rfl rfl Try.func13 (by kernel_rfl) rfl #[.slice A0 l0.length c0, .int .i64 1] rfl (by (try simp only [List.map_toArray, List.map_cons, List.map_nil]); first | done | rfl | (simp only [List.length_drop, List.length_take]; rfl)) ?_; (with_reducible refine (laws_at.calls _ _ l0 1 t206 _ ?side1 ?side2 A7.out).mono ?_); (case side1 => repeat (first | exact (Kd.C_below HR0.out HB.out) | (with_reducible refine Kd.C_alloc ?_ _) | (with_reducible refine Kd.C_drewN ?_ _) | (with_reducible refine Kd.C_drew ?_))); (case side2 => exact HC0.out); rintro e w' ⟨rfl, ⟨nd, rfl⟩⟩; refine ⟨_, rfl, ?_⟩) | ((with_reducible refine gate_callee (f := 16) rfl ?_); refine goesL_ (some 27) rfl rfl Try.func16 (by kernel_rfl) rfl #[.slice Ao132 t202.length co132, .int .i64 0, .int .i64 (wrap64 (200 + (wrap64 (t206 * 20))))] rfl (by (try simp only [List.map_toArray, List.map_cons, List.map_nil]); first | done | rfl | (simp only [List.length_drop, List.length_take]; rfl)) ?_; (with_reducible refine (impl_WorkIn.calls k _ _ t202 0 (wrap64 (200 + (wrap64 (t206 * 20)))) t207 _ ?side1 ?side2 A8.out).mono ?_); (case side1 => repeat (first | exact (Kd.R_reads' HO204.out).2.2 | (with_reducible refine Kd.C_alloc ?_ _) | (with_reducible refine Kd.C_drewN ?_ _) | (with_reducible refine Kd.C_drew ?_))); (case side2 => exact (Kd.R_reads' HO204.out).2.1); rintro e w134 ⟨rfl, hb⟩; refine ⟨_, rfl, ?_⟩; have n0_ := Aside0.mk (Kd.R_below (fr_ HO204.out) hb); have n1_ := Aside0.mk (below_step (bel_ HB.out) hb); clear HO204; clear HB; have HO204 := n0_; have HB := n1_; clear n0_ n1_; (try clear hb); (try clear hb2); (try clear hk); (try clear hi)) | ((with_reducible refine gate_callee (f := 16) rfl ?_); refine goesL_ (some 30) rfl rfl Try.func16 (by kernel_rfl) rfl #[.slice Ao132 t202.length co132, .int .i64 (wrap64 (200 + (wrap64 (t206 * 20)))), .int .i64 20000] rfl (by (try simp only [List.map_toArray, List.map_cons, List.map_nil]); first | done | rfl | (simp only [List.length_drop, List.length_take]; rfl)) ?_; (with_reducible refine (impl_WorkIn.calls k _ _ t202 (wrap64 (200 + (wrap64 (t206 * 20)))) 20000 t208 _ ?side1 ?side2 A9.out).mono ?_); (case side1 => repeat (first | exact (Kd.R_reads' HO204.out).2.2 | (with_reducible refine Kd.C_alloc ?_ _) | (with_reducible refine Kd.C_drewN ?_ _) | (with_reducible refine Kd.C_drew ?_))); (case side2 => exact (Kd.R_reads' HO204.out).2.1); rintro e w135 ⟨rfl, hb⟩; refine ⟨_, rfl, ?_⟩; have n0_ := Aside0.mk (Kd.R_below (fr_ HO204.out) hb); have n1_ := Aside0.mk (below_step (bel_ HB.out) hb); clear HO204; clear HB; have HO204 := n0_; have HB := n1_; clear n0_ n1_; (try clear hb); (try clear hb2); (try clear hk); (try clear hi)) | ((with_reducible refine gate_callee (f := 16) rfl ?_); refine goesL_ (some 33) rfl rfl Try.func16 (by kernel_rfl) rfl #[.slice Ao132 t202.length co132, .int .i64 0, .int .i64 20000] rfl (by (try simp only [List.map_toArray, List.map_cons, List.map_nil]); first | done | rfl | (simp only [List.length_drop, List.length_take]; rfl)) ?_; (with_reducible refine (impl_WorkIn.calls k _ _ t202 0 20000 t209 _ ?side1 ?side2 A10.out).mono ?_); (case side1 => repeat (first | exact (Kd.R_reads' HO204.out).2.2 | (with_reducible refine Kd.C_alloc ?_ _) | (with_reducible refine Kd.C_drewN ?_ _) | (with_reducible refine Kd.C_drew ?_))); (case side2 => exact (Kd.R_reads' HO204.out).2.1); rintro e w136 ⟨rfl, hb⟩; refine ⟨_, rfl, ?_⟩; have n0_ := Aside0.mk (Kd.R_below (fr_ HO204.out) hb); have n1_ := Aside0.mk (below_step (bel_ HB.out) hb); clear HO204; clear HB; have HO204 := n0_; have HB := n1_; clear n0_ n1_; (try clear hb); (try clear hb2); (try clear hk); (try clear hi)))
    go_ret
    exact ⟨by first | rfl | (simp [errW_none, errW_some] <;> rfl) | (simp [*, errW_none, errW_some] <;> rfl), bel_ HB.out⟩
  ·replace c6 := Bool.eq_false_iff.mpr c6
   subst c6
   have H1 : (some false) = some r := by rw [if_neg (show ¬ (false = true) by decide)] at H; exact H
   clear H
   have H := H1
   clear H1
   obtain rfl := Option.some.inj H
   go_enter Try.func4, Try.ntmps4
   go_wp2_with (first | ((with_reducible refine gate_callee (f := 9) rfl ?_); refine goesL_ (some 15) rfl rfl Try.func9 (by kernel_rfl) rfl #[.slice A0 l0.length c0] rfl (by (try simp only [List.map_toArray, List.map_cons, List.map_nil]); first | done | rfl | (simp only [List.length_drop, List.length_take]; rfl)) ?_; (with_reducible refine (laws_big.calls _ _ l0 false _ ?side1 ?side2 A2.out).mono ?_); (case side1 => repeat (first | exact HR0.out | (with_reducible refine Kd.C_alloc ?_ _) | (with_reducible refine Kd.C_drewN ?_ _) | (with_reducible refine Kd.C_drew ?_))); (case side2 => exact HC0.out); rintro e w' ⟨rfl, ⟨nd, rfl⟩⟩; refine ⟨_, rfl, ?_⟩) | ((with_reducible refine gate_callee (f := 14) rfl ?_); refine goesL_ (some 17) rfl rfl Try.func14 (by kernel_rfl) rfl #[.slice A0 l0.length c0] rfl (by (try simp only [List.map_toArray, List.map_cons, List.map_nil]); first | done | rfl | (simp only [List.length_drop, List.length_take]; rfl)) ?_; (with_reducible refine (spec_DrawSpells.calls k _ _ l0 t202 _ ?side1 ?side2 A4.out).mono ?_); (case side1 => repeat (first | exact HR0.out | (with_reducible refine Kd.C_alloc ?_ _) | (with_reducible refine Kd.C_drewN ?_ _) | (with_reducible refine Kd.C_drew ?_))); (case side2 => exact HC0.out); rintro e w137 ⟨v203, rfl, ho0, hb⟩; refine ⟨_, rfl, ?_⟩; have n0_ := Aside0.mk (Kd.R_lower ho0 (below_size (bel_ HB.out))); have n1_ := Aside0.mk (below_step (bel_ HB.out) hb); clear HB; have HO204 := n0_; have HB := n1_; clear n0_ n1_; (try clear hb); (try clear hb2); (try clear hk); (try clear hi); (try clear ho0); obtain ⟨Ao138, co138, eo138⟩ := Kd.R_slice HO204.out; subst eo138) | ((with_reducible refine gate_callee (f := 15) rfl ?_); refine goesL_ (some 19) rfl rfl Try.func15 (by kernel_rfl) rfl #[.slice Ao138 t202.length co138] rfl (by (try simp only [List.map_toArray, List.map_cons, List.map_nil]); first | done | rfl | (simp only [List.length_drop, List.length_take]; rfl)) ?_; (with_reducible refine (impl_SpellsOk.calls k _ _ t202 false _ ?side1 ?side2 A5.out).mono ?_); (case side1 => repeat (first | exact (Kd.R_reads' HO204.out).2.2 | (with_reducible refine Kd.C_alloc ?_ _) | (with_reducible refine Kd.C_drewN ?_ _) | (with_reducible refine Kd.C_drew ?_))); (case side2 => exact (Kd.R_reads' HO204.out).2.1); rintro e w139 ⟨rfl, hb⟩; refine ⟨_, rfl, ?_⟩; have n0_ := Aside0.mk (Kd.R_below (fr_ HO204.out) hb); have n1_ := Aside0.mk (below_step (bel_ HB.out) hb); clear HO204; clear HB; have HO204 := n0_; have HB := n1_; clear n0_ n1_; (try clear hb); (try clear hb2); (try clear hk); (try clear hi)))
   go_ret
   exact ⟨by first | rfl | (simp [errW_none, errW_some] <;> rfl) | (simp [*, errW_none, errW_some] <;> rfl), bel_ HB.out⟩

/-- THE ONE PURE STATEMENT of laws_FnRested: yours. -/
def laws_FnRested.Pure : Prop := ∀ (l0 : List Int), l0.length ≤ maxLen → l0.length * 1 ≤ 140737488351232 → (∀ x ∈ l0, (Lit.int .u8 x).wf = true) → ∃ k, laws_FnRested.f k l0 = some true
theorem laws_FnRested.walk (P : laws_FnRested.Pure) (a0 : Option Addr) (len0 cap0 : Nat) (z0 : List Int) (w : World) (w0 : (a0 = none ∧ len0 = 0 ∧ cap0 = 0 ∧ z0 = []) ∨ ∃ x, a0 = some x ∧ len0 ≤ cap0 ∧ cap0 ≤ maxLen ∧ z0.length = cap0 ∧ (∀ i, i < z0.length → w.cell? (x.add i) = some (.int .u8 (z0.getD i 0))) ∧ ∀ n ∈ z0, (Lit.int .u8 n).wf = true) (y0 : len0 * 1 ≤ 140737488351232) :
  Calls Try.prog 4 #[.slice a0 len0 cap0] w fun e w' => e = .returned (.bool true) ∧ Below w.heap.size w w' := by
 obtain ⟨l0, rfl, hr0, hm0, hw0, hc0⟩ := ReadsInt.ofRowC w0
 obtain ⟨k, h⟩ := P l0 hm0 y0 hw0
 refine (laws_FnRested.calls k _ _ l0 true w (Kd.C_of_reads (d := (0 : Int)) (h1 := fun _ => rfl) hr0) hc0 h).mono ?_
 rintro e w' ⟨rfl, hd⟩
 exact ⟨rfl, hd⟩

end Go.Proofs.Ytlphfhibnbhkfaa.PFnRested
