/- The Lean side of Go functions of this seat: what each answers, and that its run comes to that answer; written by a program of this work. -/
import Derived.Test.YtpepdjghajphlaaPFnLaidx0
import Derived.Test.YtpepdjghajphlaaPFnLaidx1
import Derived.Test.YtpepdjghajphlaaPFnLaidx2
import Derived.Test.YtpepdjghajphlaaPFnLaidx5
import Derived.Test.YtpepdjghajphlaaPFnLaidx7
import Derived.Test.YtpepdjghajphlaaPFnLaidx8
import Derived.Test.YtpepdjghajphlaaPFnLaidx9
import Derived.Test.YtpepdjghajphlaaPFnLaidx10
namespace Go.Proofs.Ytpepdjghajphlaa.PFnLaid
open Go.RowKit Go.Proofs.YtpepdjghajphlaaW.PrintWords Go.Proofs.YtpepdjghajphlaaW.PrintLast Go.Proofs.YtpepdjghajphlaaW.PrintMore
attribute [local go_sem] max2_int min2_int max_two min_two max_three min_three max_four min_four   -- for this text's walks alone
set_option linter.unusedVariables false
set_option linter.unusedSimpArgs false

attribute [local go_sem high] eqA37
/-! ### laws_FnLaid: function 4 -/
mutual
def laws_FnLaid.j0 : Nat → List Int → List (S42) → Int → Bool → Int → Int → Int → Int → Option (Bool)
  | 0, _, _, _, _, _, _, _, _ => none
  | k + 1, x0, x4, x5, x48, x339000, x339001, x339002, x339003 => if x48 = true then (some false) else ((laws_at.f x0 2).bind fun t344 => ((laws_at.f x0 2).bind fun t345 => ((laws_at.f x0 3).bind fun t346 => ((impl_Counted.f k x339000 x339001 x339002 x339003 x5 (wrap64 ((wrap64 ((wrap64 (x5 + 2)) + (wrap64 (t345 * 7)))) + (wrap64 (t346 * 9)))) x4).bind fun bt347 => ((impl_Laid.f k x339000 x339001 x339002 x339003 (([(⟨x5, wrap64 ((wrap64 (x5 + 1)) + (wrap64 (t344 * 7)))⟩ : S42), (⟨wrap64 ((wrap64 (x5 + 1)) + (wrap64 (t344 * 7))), wrap64 ((wrap64 ((wrap64 (x5 + 2)) + (wrap64 (t345 * 7)))) + (wrap64 (t346 * 9)))⟩ : S42)] : List (S42))) x4).bind fun bt355 => (if bt347.2.2.2 = true then (if bt355.2.2.2 = true then (if (!(bt347.1 == bt355.1) || (!(bt347.2.1 == bt355.2.1) || (!(bt347.2.2.1 == bt355.2.2.1)))) = true then (laws_FnLaid.j1 k x4 x5 (wrap64 ((wrap64 ((wrap64 (x5 + 2)) + (wrap64 (t345 * 7)))) + (wrap64 (t346 * 9)))) true x339000 x339001 x339002 x339003 bt347.1 bt347.2.1 bt347.2.2.1) else (if bt347.1 > x339001 then (laws_FnLaid.j1 k x4 x5 (wrap64 ((wrap64 ((wrap64 (x5 + 2)) + (wrap64 (t345 * 7)))) + (wrap64 (t346 * 9)))) true x339000 x339001 x339002 x339003 bt347.1 bt347.2.1 bt347.2.2.1) else (if bt347.2.1 > 0 then (laws_FnLaid.j1 k x4 x5 (wrap64 ((wrap64 ((wrap64 (x5 + 2)) + (wrap64 (t345 * 7)))) + (wrap64 (t346 * 9)))) (bt347.1 != x339001) x339000 x339001 x339002 x339003 bt347.1 bt347.2.1 bt347.2.2.1) else (laws_FnLaid.j1 k x4 x5 (wrap64 ((wrap64 ((wrap64 (x5 + 2)) + (wrap64 (t345 * 7)))) + (wrap64 (t346 * 9)))) false x339000 x339001 x339002 x339003 bt347.1 bt347.2.1 bt347.2.2.1)))) else (laws_FnLaid.j1 k x4 x5 (wrap64 ((wrap64 ((wrap64 (x5 + 2)) + (wrap64 (t345 * 7)))) + (wrap64 (t346 * 9)))) true x339000 x339001 x339002 x339003 bt347.1 bt347.2.1 bt347.2.2.1)) else (laws_FnLaid.j1 k x4 x5 (wrap64 ((wrap64 ((wrap64 (x5 + 2)) + (wrap64 (t345 * 7)))) + (wrap64 (t346 * 9)))) true x339000 x339001 x339002 x339003 bt347.1 bt347.2.1 bt347.2.2.1)))))))
def laws_FnLaid.j1 : Nat → List (S42) → Int → Int → Bool → Int → Int → Int → Int → Int → Int → Int → Option (Bool)
  | 0, _, _, _, _, _, _, _, _, _, _, _ => none
  | k + 1, x4, x5, x8, x115, x339000, x339001, x339002, x339003, x352000, x352001, x352002 => if x115 = true then (some false) else ((spec_WorkIn.f k x4 x5 x8).bind fun t360 => (if x352001 = 0 then (if x352000 = (wrap64 ((wrap64 (x8 - x5)) - t360)) then (if x352001 > 0 then (if x352002 = (wrap64 (x8 - x352001)) then (if x352002 < x5 then (some false) else ((impl_Owed.f k x339000 x339001 x339002 x339003 x352000 x352001 x352002).bind fun bt361 => (if bt361.2 = true then (some true) else (some false)))) else (some false)) else ((impl_Owed.f k x339000 x339001 x339002 x339003 x352000 x352001 x352002).bind fun bt363 => (if bt363.2 = true then (some (decide (bt363.1 ≤ 0))) else (some false)))) else (some false)) else (if x352001 > 0 then (if x352002 = (wrap64 (x8 - x352001)) then (if x352002 < x5 then (some false) else ((impl_Owed.f k x339000 x339001 x339002 x339003 x352000 x352001 x352002).bind fun bt365 => (if bt365.2 = true then (if bt365.1 ≥ 0 then (some true) else (some false)) else (some false)))) else (some false)) else ((impl_Owed.f k x339000 x339001 x339002 x339003 x352000 x352001 x352002).bind fun bt367 => (if bt367.2 = true then (if bt367.1 ≥ 0 then (some (decide (bt367.1 ≤ 0))) else (some false)) else (some false))))))
end
def laws_FnLaid.f (k : Nat) (l0 : List Int) : Option (Bool) := (laws_big.f l0).bind fun t330 => (if t330 = true then (some true) else ((spec_DrawLay.f k l0).bind fun bt331 => ((laws_at.f l0 1).bind fun t339 => ((impl_Starts.f k bt331.1 bt331.2.1 bt331.2.2.1 bt331.2.2.2.1 (wrap64 (t339 * 9)) bt331.2.2.2.2).bind fun bt340 => (if bt340.2 = true then ((laws_at.f l0 1).bind fun t342 => (if bt340.1 < (wrap64 ((wrap64 (t342 * 9)) + bt331.1)) then (laws_FnLaid.j0 k l0 bt331.2.2.2.2 bt340.1 true bt331.1 bt331.2.1 bt331.2.2.1 bt331.2.2.2.1) else ((impl_CharterOk.f bt331.1 bt331.2.1 bt331.2.2.1 bt331.2.2.2.1).bind fun t343 => (laws_FnLaid.j0 k l0 bt331.2.2.2.2 bt340.1 (!t343) bt331.1 bt331.2.1 bt331.2.2.1 bt331.2.2.2.1)))) else (laws_FnLaid.j0 k l0 bt331.2.2.2.2 bt340.1 true bt331.1 bt331.2.1 bt331.2.2.1 bt331.2.2.2.1))))))
theorem laws_FnLaid.mono_l : ∀ k, (∀ y0 y1 y2 y3 y4 y5 y6 y7, LeO (laws_FnLaid.j0 k y0 y1 y2 y3 y4 y5 y6 y7) (laws_FnLaid.j0 (k + 1) y0 y1 y2 y3 y4 y5 y6 y7)) ∧ (∀ y0 y1 y2 y3 y4 y5 y6 y7 y8 y9 y10, LeO (laws_FnLaid.j1 k y0 y1 y2 y3 y4 y5 y6 y7 y8 y9 y10) (laws_FnLaid.j1 (k + 1) y0 y1 y2 y3 y4 y5 y6 y7 y8 y9 y10))
  | 0 => ⟨fun _ _ _ _ _ _ _ _ r h => by simp [laws_FnLaid.j0] at h, fun _ _ _ _ _ _ _ _ _ _ _ r h => by simp [laws_FnLaid.j1] at h⟩
  | k + 1 => by
    obtain ⟨ih0, ih1⟩ := laws_FnLaid.mono_l k
    refine ⟨?_, ?_⟩
    · intro y0 y1 y2 y3 y4 y5 y6 y7
      unfold laws_FnLaid.j0
      repeat' first
      | (with_reducible exact ih0 _ _ _ _ _ _ _ _)
      | (with_reducible exact ih1 _ _ _ _ _ _ _ _ _ _ _)
      | (with_reducible exact impl_Counted.mono _ _ _ _ _ _ _ _)
      | (with_reducible exact impl_Laid.mono _ _ _ _ _ _ _)
      | (with_reducible exact impl_Owed.mono _ _ _ _ _ _ _ _)
      | (with_reducible exact impl_Starts.mono _ _ _ _ _ _ _)
      | (with_reducible exact spec_DrawLay.mono _ _)
      | (with_reducible exact spec_WorkIn.mono _ _ _ _)
      | (with_reducible exact LeO.refl _)
      | (with_reducible exact LeO.none _)
      | (with_reducible refine LeO.ite ?_ ?_)
      | (with_reducible refine LeO.bind ?_ (fun _ => ?_))
      | exact ih0 _ _ _ _ _ _ _ _
      | exact ih1 _ _ _ _ _ _ _ _ _ _ _
      | exact impl_Counted.mono _ _ _ _ _ _ _ _
      | exact impl_Laid.mono _ _ _ _ _ _ _
      | exact impl_Owed.mono _ _ _ _ _ _ _ _
      | exact impl_Starts.mono _ _ _ _ _ _ _
      | exact spec_DrawLay.mono _ _
      | exact spec_WorkIn.mono _ _ _ _
      | exact LeO.none _
      | refine LeO.ite ?_ ?_
      | refine LeO.bind ?_ (fun _ => ?_)
    · intro y0 y1 y2 y3 y4 y5 y6 y7 y8 y9 y10
      unfold laws_FnLaid.j1
      repeat' first
      | (with_reducible exact ih0 _ _ _ _ _ _ _ _)
      | (with_reducible exact ih1 _ _ _ _ _ _ _ _ _ _ _)
      | (with_reducible exact impl_Counted.mono _ _ _ _ _ _ _ _)
      | (with_reducible exact impl_Laid.mono _ _ _ _ _ _ _)
      | (with_reducible exact impl_Owed.mono _ _ _ _ _ _ _ _)
      | (with_reducible exact impl_Starts.mono _ _ _ _ _ _ _)
      | (with_reducible exact spec_DrawLay.mono _ _)
      | (with_reducible exact spec_WorkIn.mono _ _ _ _)
      | (with_reducible exact LeO.refl _)
      | (with_reducible exact LeO.none _)
      | (with_reducible refine LeO.ite ?_ ?_)
      | (with_reducible refine LeO.bind ?_ (fun _ => ?_))
      | exact ih0 _ _ _ _ _ _ _ _
      | exact ih1 _ _ _ _ _ _ _ _ _ _ _
      | exact impl_Counted.mono _ _ _ _ _ _ _ _
      | exact impl_Laid.mono _ _ _ _ _ _ _
      | exact impl_Owed.mono _ _ _ _ _ _ _ _
      | exact impl_Starts.mono _ _ _ _ _ _ _
      | exact spec_DrawLay.mono _ _
      | exact spec_WorkIn.mono _ _ _ _
      | exact LeO.none _
      | refine LeO.ite ?_ ?_
      | refine LeO.bind ?_ (fun _ => ?_)
theorem laws_FnLaid.mono : ∀ a0 k, LeO (laws_FnLaid.f k a0) (laws_FnLaid.f (k + 1) a0) := by
  intro a0 k
  obtain ⟨ih0, ih1⟩ := laws_FnLaid.mono_l k
  unfold laws_FnLaid.f
  repeat' first
      | (with_reducible exact ih0 _ _ _ _ _ _ _ _)
      | (with_reducible exact ih1 _ _ _ _ _ _ _ _ _ _ _)
      | (with_reducible exact impl_Counted.mono _ _ _ _ _ _ _ _)
      | (with_reducible exact impl_Laid.mono _ _ _ _ _ _ _)
      | (with_reducible exact impl_Owed.mono _ _ _ _ _ _ _ _)
      | (with_reducible exact impl_Starts.mono _ _ _ _ _ _ _)
      | (with_reducible exact spec_DrawLay.mono _ _)
      | (with_reducible exact spec_WorkIn.mono _ _ _ _)
      | (with_reducible exact LeO.refl _)
      | (with_reducible exact LeO.none _)
      | (with_reducible refine LeO.ite ?_ ?_)
      | (with_reducible refine LeO.bind ?_ (fun _ => ?_))
      | exact ih0 _ _ _ _ _ _ _ _
      | exact ih1 _ _ _ _ _ _ _ _ _ _ _
      | exact impl_Counted.mono _ _ _ _ _ _ _ _
      | exact impl_Laid.mono _ _ _ _ _ _ _
      | exact impl_Owed.mono _ _ _ _ _ _ _ _
      | exact impl_Starts.mono _ _ _ _ _ _ _
      | exact spec_DrawLay.mono _ _
      | exact spec_WorkIn.mono _ _ _ _
      | exact LeO.none _
      | refine LeO.ite ?_ ?_
      | refine LeO.bind ?_ (fun _ => ?_)
def laws_FnLaid.T4 : Bool × List (List Nat × List Nat) := (true, [([], []), ([], []), ([1], [1]), ([2], [2]), ([], []), ([0, 3, 4, 2], [0, 3, 4]), ([5], [5]), ([6], [6]), ([6], [6]), ([7, 5, 0, 1, 2, 3, 4, 5, 6, 7], [7]), ([8, 9, 0, 1, 2, 3, 4, 5, 6, 7, 8, 9], [8])])
def laws_FnLaid.B4 : List Nat := [0, 0, 2, 6, 0, 31, 63, 127, 127, 255, 1023]
theorem laws_FnLaid.tab4 : rtab .any (opsOf Try.f4 4) = laws_FnLaid.T4 := by kernel_rfl
theorem laws_FnLaid.bits4 : waitsOk laws_FnLaid.T4.2 laws_FnLaid.B4 = true := by kernel_rfl
def laws_FnLaid.T5 : Bool × List (List Nat × List Nat) := (true, [([], []), ([0], [0]), ([1], [1]), ([2], [2]), ([2], [2]), ([4, 2, 2], [2, 4]), ([5, 2], [2, 5]), ([2], [2]), ([7, 2], [2, 7]), ([6, 8, 2], [2, 6, 8]), ([3, 9, 2], [2, 3, 9]), ([2, 10], [2, 10]), ([11, 5], [11]), ([12], [12]), ([13, 12, 12], [12, 13]), ([14, 12], [12, 14]), ([12, 15], [12, 15])])
def laws_FnLaid.B5 : List Nat := [0, 1, 3, 7, 7, 23, 55, 7, 135, 503, 1023, 2047, 4095, 8191, 16383, 32767, 65535]
theorem laws_FnLaid.tab5 : rtab .any (opsOf Try.f4 5) = laws_FnLaid.T5 := by kernel_rfl
theorem laws_FnLaid.bits5 : waitsOk laws_FnLaid.T5.2 laws_FnLaid.B5 = true := by kernel_rfl
set_option maxHeartbeats 8000000 in
set_option maxRecDepth 100000 in
theorem laws_FnLaid.calls (k : Nat) (A0 : Option Addr) (c0 : Nat) (l0 : List Int) (r : Bool) (w : World) (hr0 : Kd.C (Kd.int .u8) w A0 l0.length l0) (hc0 : l0.length ≤ c0) (h : laws_FnLaid.f k l0 = some r) :
    Calls Try.prog 4 #[.slice A0 l0.length c0] w fun e w' => e = .returned (.bool r) ∧ Below w.heap.size w w' := by
  have hu29 := Try.underlying29
  have hu37 := Try.underlying37
  have hu42 := Try.underlying42
  have HR0 := Aside0.mk hr0
  have HC0 := Aside0.mk hc0
  clear hr0 hc0
  have HB := Aside0.mk (Below.refl w.heap.size w)
  have H : ((laws_big.f l0).bind fun t330 => (if t330 = true then (some true) else ((spec_DrawLay.f k l0).bind fun bt331 => ((laws_at.f l0 1).bind fun t339 => ((impl_Starts.f k bt331.1 bt331.2.1 bt331.2.2.1 bt331.2.2.2.1 (wrap64 (t339 * 9)) bt331.2.2.2.2).bind fun bt340 => (if bt340.2 = true then ((laws_at.f l0 1).bind fun t342 => (if bt340.1 < (wrap64 ((wrap64 (t342 * 9)) + bt331.1)) then (laws_FnLaid.j0 k l0 bt331.2.2.2.2 bt340.1 true bt331.1 bt331.2.1 bt331.2.2.1 bt331.2.2.2.1) else ((impl_CharterOk.f bt331.1 bt331.2.1 bt331.2.2.1 bt331.2.2.2.1).bind fun t343 => (laws_FnLaid.j0 k l0 bt331.2.2.2.2 bt340.1 (!t343) bt331.1 bt331.2.1 bt331.2.2.1 bt331.2.2.2.1)))) else (laws_FnLaid.j0 k l0 bt331.2.2.2.2 bt340.1 true bt331.1 bt331.2.1 bt331.2.2.1 bt331.2.2.2.1))))))) = some r := h
  clear h
  replace H := Option.bind_eq_some_iff.mp H
  obtain ⟨t330, A20, H⟩ := H
  replace H : (if t330 = true then (some true) else ((spec_DrawLay.f k l0).bind fun bt331 => ((laws_at.f l0 1).bind fun t339 => ((impl_Starts.f k bt331.1 bt331.2.1 bt331.2.2.1 bt331.2.2.2.1 (wrap64 (t339 * 9)) bt331.2.2.2.2).bind fun bt340 => (if bt340.2 = true then ((laws_at.f l0 1).bind fun t342 => (if bt340.1 < (wrap64 ((wrap64 (t342 * 9)) + bt331.1)) then (laws_FnLaid.j0 k l0 bt331.2.2.2.2 bt340.1 true bt331.1 bt331.2.1 bt331.2.2.1 bt331.2.2.2.1) else ((impl_CharterOk.f bt331.1 bt331.2.1 bt331.2.2.1 bt331.2.2.2.1).bind fun t343 => (laws_FnLaid.j0 k l0 bt331.2.2.2.2 bt340.1 (!t343) bt331.1 bt331.2.1 bt331.2.2.1 bt331.2.2.2.1)))) else (laws_FnLaid.j0 k l0 bt331.2.2.2.2 bt340.1 true bt331.1 bt331.2.1 bt331.2.2.1 bt331.2.2.2.1)))))) = some r := H
  have A2 := Aside0.mk A20
  clear A20
  by_cases c3 : t330 = true
  · subst c3
    have H1 : (some true) = some r := by rw [if_pos rfl] at H; exact H
    clear H
    have H := H1
    clear H1
    obtain rfl := Option.some.inj H
    go_enter Try.func4, Try.ntmps4
    go_wp2_with (first | ((with_reducible refine gate_callee (f := 7) rfl ?_); refine goesL_ (some 17) rfl rfl Try.func7 (by kernel_rfl) rfl #[.slice A0 l0.length c0] rfl (by (try simp only [List.map_toArray, List.map_cons, List.map_nil]); first | done | rfl | (simp only [List.length_drop, List.length_take]; rfl)) ?_; (with_reducible refine (laws_big.calls _ _ l0 true _ ?side1 ?side2 A2.out).mono ?_); (case side1 => repeat (first | exact HR0.out | (with_reducible refine Kd.C_alloc ?_ _) | (with_reducible refine Kd.C_drewN ?_ _) | (with_reducible refine Kd.C_drew ?_))); (case side2 => exact HC0.out); rintro e w' ⟨rfl, ⟨nd, rfl⟩⟩; refine ⟨_, rfl, ?_⟩))
    go_ret
    exact ⟨by first | rfl | (simp [errW_none, errW_some] <;> rfl) | (simp [*, errW_none, errW_some] <;> rfl), by repeat (first | (with_reducible first | exact HB.out | apply below_alloc | apply pw_below_drewN | apply below_drew1) | exact HB.out)⟩
  · replace c3 := Bool.eq_false_iff.mpr c3
    subst c3
    have H1 : ((spec_DrawLay.f k l0).bind fun bt331 => ((laws_at.f l0 1).bind fun t339 => ((impl_Starts.f k bt331.1 bt331.2.1 bt331.2.2.1 bt331.2.2.2.1 (wrap64 (t339 * 9)) bt331.2.2.2.2).bind fun bt340 => (if bt340.2 = true then ((laws_at.f l0 1).bind fun t342 => (if bt340.1 < (wrap64 ((wrap64 (t342 * 9)) + bt331.1)) then (laws_FnLaid.j0 k l0 bt331.2.2.2.2 bt340.1 true bt331.1 bt331.2.1 bt331.2.2.1 bt331.2.2.2.1) else ((impl_CharterOk.f bt331.1 bt331.2.1 bt331.2.2.1 bt331.2.2.2.1).bind fun t343 => (laws_FnLaid.j0 k l0 bt331.2.2.2.2 bt340.1 (!t343) bt331.1 bt331.2.1 bt331.2.2.1 bt331.2.2.2.1)))) else (laws_FnLaid.j0 k l0 bt331.2.2.2.2 bt340.1 true bt331.1 bt331.2.1 bt331.2.2.1 bt331.2.2.2.1))))) = some r := by rw [if_neg (show ¬ (false = true) by decide)] at H; exact H
    clear H
    have H := H1
    clear H1
    replace H := Option.bind_eq_some_iff.mp H
    obtain ⟨⟨t331, t332, t333, t334, t335⟩, A40, H⟩ := H
    replace H : ((laws_at.f l0 1).bind fun t339 => ((impl_Starts.f k t331 t332 t333 t334 (wrap64 (t339 * 9)) t335).bind fun bt340 => (if bt340.2 = true then ((laws_at.f l0 1).bind fun t342 => (if bt340.1 < (wrap64 ((wrap64 (t342 * 9)) + t331)) then (laws_FnLaid.j0 k l0 t335 bt340.1 true t331 t332 t333 t334) else ((impl_CharterOk.f t331 t332 t333 t334).bind fun t343 => (laws_FnLaid.j0 k l0 t335 bt340.1 (!t343) t331 t332 t333 t334)))) else (laws_FnLaid.j0 k l0 t335 bt340.1 true t331 t332 t333 t334)))) = some r := H
    have A4 := Aside0.mk A40
    clear A40
    replace H := Option.bind_eq_some_iff.mp H
    obtain ⟨t339, A50, H⟩ := H
    replace H : ((impl_Starts.f k t331 t332 t333 t334 (wrap64 (t339 * 9)) t335).bind fun bt340 => (if bt340.2 = true then ((laws_at.f l0 1).bind fun t342 => (if bt340.1 < (wrap64 ((wrap64 (t342 * 9)) + t331)) then (laws_FnLaid.j0 k l0 t335 bt340.1 true t331 t332 t333 t334) else ((impl_CharterOk.f t331 t332 t333 t334).bind fun t343 => (laws_FnLaid.j0 k l0 t335 bt340.1 (!t343) t331 t332 t333 t334)))) else (laws_FnLaid.j0 k l0 t335 bt340.1 true t331 t332 t333 t334))) = some r := H
    have A5 := Aside0.mk A50
    clear A50
    replace H := Option.bind_eq_some_iff.mp H
    obtain ⟨⟨t340, t341⟩, A60, H⟩ := H
    replace H : (if t341 = true then ((laws_at.f l0 1).bind fun t342 => (if t340 < (wrap64 ((wrap64 (t342 * 9)) + t331)) then (laws_FnLaid.j0 k l0 t335 t340 true t331 t332 t333 t334) else ((impl_CharterOk.f t331 t332 t333 t334).bind fun t343 => (laws_FnLaid.j0 k l0 t335 t340 (!t343) t331 t332 t333 t334)))) else (laws_FnLaid.j0 k l0 t335 t340 true t331 t332 t333 t334)) = some r := H
    have A6 := Aside0.mk A60
    clear A60
    have HC7 := Aside0.mk H
    clear H
    go_enter Try.func4, Try.ntmps4
    try go_wp2_with (first | ((with_reducible refine gate_callee (f := 7) rfl ?_); refine goesL_ (some 17) rfl rfl Try.func7 (by kernel_rfl) rfl #[.slice A0 l0.length c0] rfl (by (try simp only [List.map_toArray, List.map_cons, List.map_nil]); first | done | rfl | (simp only [List.length_drop, List.length_take]; rfl)) ?_; (with_reducible refine (laws_big.calls _ _ l0 false _ ?side1 ?side2 A2.out).mono ?_); (case side1 => repeat (first | exact HR0.out | (with_reducible refine Kd.C_alloc ?_ _) | (with_reducible refine Kd.C_drewN ?_ _) | (with_reducible refine Kd.C_drew ?_))); (case side2 => exact HC0.out); rintro e w' ⟨rfl, ⟨nd, rfl⟩⟩; refine ⟨_, rfl, ?_⟩) | ((with_reducible refine gate_callee (f := 10) rfl ?_); refine goesL_ (some 20) rfl rfl Try.func10 (by kernel_rfl) rfl #[.slice A0 l0.length c0] rfl (by (try simp only [List.map_toArray, List.map_cons, List.map_nil]); first | done | rfl | (simp only [List.length_drop, List.length_take]; rfl)) ?_; (with_reducible refine (spec_DrawLay.calls k _ _ l0 t331 t332 t333 t334 t335 _ ?side1 ?side2 A4.out).mono ?_); (case side1 => repeat (first | exact HR0.out | (with_reducible refine Kd.C_alloc ?_ _) | (with_reducible refine Kd.C_drewN ?_ _) | (with_reducible refine Kd.C_drew ?_))); (case side2 => exact HC0.out); rintro e w8 ⟨v336, rfl, ho0, hb⟩; refine ⟨_, rfl, ?_⟩; have n0_ := Aside0.mk (Kd.R_lower ho0 (below_size (by repeat (first | (with_reducible first | exact HB.out | apply below_alloc | apply pw_below_drewN | apply below_drew1) | exact HB.out)))); have n1_ := Aside0.mk (below_step (by repeat (first | (with_reducible first | exact HB.out | apply below_alloc | apply pw_below_drewN | apply below_drew1) | exact HB.out)) hb); clear HB; have HO337 := n0_; have HB := n1_; clear n0_ n1_; (try clear hb); (try clear hb2); (try clear hk); (try clear hi); (try clear ho0)) | ((with_reducible refine gate_dst (N := 3) rfl ?_); refine box_event ?hg (N := 3) ?hd (cs := #[.int .i64 0, .int .i64 0, .int .i64 0, .int .i64 0]) (t := 29) ?hr ?_; (case hd => rfl); (case hg => rfl); (case hr => first | (go_simp; done) | (go_simp; rfl)); intro gb338 hg w9 hbox hb; have n0_ := Aside0.mk (Kd.R_below (by (with_reducible repeat (first | apply Kd.R_alloc | apply Kd.R_drewN | apply Kd.R_drew)); exact HO337.out) hb); have n1_ := Aside0.mk (below_step (by repeat (first | (with_reducible first | exact HB.out | apply below_alloc | apply pw_below_drewN | apply below_drew1) | exact HB.out)) hb); have n2_ := Aside0.mk (hbox); have n3_ := Aside0.mk ((by rw [hg]; exact (below_size (by repeat (first | (with_reducible first | exact HB.out | apply below_alloc | apply pw_below_drewN | apply below_drew1) | exact HB.out))) : w.heap.size ≤ gb338)); have n4_ := Aside0.mk ((by rw [hg]; exact (below_size (by repeat (first | (with_reducible first | exact HB.out | apply below_alloc | apply pw_below_drewN | apply below_drew1) | exact HB.out))) : w.heap.size ≤ gb338)); clear HO337; clear HB; have HO337 := n0_; have HB := n1_; have BK338 := n2_; have GW338 := n3_; have GE338 := n4_; clear n0_ n1_ n2_ n3_ n4_; clear hb hbox hg; have hcz10_0 : w9.cell? ⟨gb338, 0, none⟩ = some (.int .i64 0) := (blk_cell BK338.out 0).trans rfl; have hcz10_1 : w9.cell? ⟨gb338, 1, none⟩ = some (.int .i64 0) := (blk_cell BK338.out 1).trans rfl; have hcz10_2 : w9.cell? ⟨gb338, 2, none⟩ = some (.int .i64 0) := (blk_cell BK338.out 2).trans rfl; have hcz10_3 : w9.cell? ⟨gb338, 3, none⟩ = some (.int .i64 0) := (blk_cell BK338.out 3).trans rfl; have hfz10_0 := blk_frozen BK338.out 0; have hfz10_1 := blk_frozen BK338.out 1; have hfz10_2 := blk_frozen BK338.out 2; have hfz10_3 := blk_frozen BK338.out 3))
    have n0_ : Aside0 (Kd.R k42 42 ((((w9.setCell ⟨gb338, 0, none⟩ (.int .i64 t331)).setCell ⟨gb338, 1, none⟩ (.int .i64 t332)).setCell ⟨gb338, 2, none⟩ (.int .i64 t333)).setCell ⟨gb338, 3, none⟩ (.int .i64 t334)) w.heap.size (fun _ => True) v336 t335) := ⟨by (with_reducible repeat (first | apply Kd.R_alloc | apply Kd.R_drewN | apply Kd.R_drew)); exact Kd.R_mono (Kd.R_far (p := ⟨gb338, 3, none⟩) (Kd.R_far (p := ⟨gb338, 2, none⟩) (Kd.R_far (p := ⟨gb338, 1, none⟩) (Kd.R_far (p := ⟨gb338, 0, none⟩) (Kd.R_types HO337.out BK338.out (by decide)) (fun _ hk => hk.2) (.int .i64 t331)) (fun _ hk => hk.2) (.int .i64 t332)) (fun _ hk => hk.2) (.int .i64 t333)) (fun _ hk => hk.2) (.int .i64 t334)) (fun _ hk => trivial)⟩
    have n1_ : Aside0 (((((w9.setCell ⟨gb338, 0, none⟩ (.int .i64 t331)).setCell ⟨gb338, 1, none⟩ (.int .i64 t332)).setCell ⟨gb338, 2, none⟩ (.int .i64 t333)).setCell ⟨gb338, 3, none⟩ (.int .i64 t334)).heap[gb338]? = some (.cells #[.int .i64 t331, .int .i64 t332, .int .i64 t333, .int .i64 t334] 29 (0, 0))) := ⟨by (with_reducible repeat (first | refine blk_drewN ?_ _ | refine blk_drew ?_ | refine blk_alloc ?_ _)); refine blk_put (cs := #[.int .i64 t331, .int .i64 t332, .int .i64 t333, .int .i64 0]) ?_ 3 _ rfl; (with_reducible repeat (first | refine blk_drewN ?_ _ | refine blk_drew ?_ | refine blk_alloc ?_ _)); refine blk_put (cs := #[.int .i64 t331, .int .i64 t332, .int .i64 0, .int .i64 0]) ?_ 2 _ rfl; (with_reducible repeat (first | refine blk_drewN ?_ _ | refine blk_drew ?_ | refine blk_alloc ?_ _)); refine blk_put (cs := #[.int .i64 t331, .int .i64 0, .int .i64 0, .int .i64 0]) ?_ 1 _ rfl; (with_reducible repeat (first | refine blk_drewN ?_ _ | refine blk_drew ?_ | refine blk_alloc ?_ _)); refine blk_put (cs := #[.int .i64 0, .int .i64 0, .int .i64 0, .int .i64 0]) ?_ 0 _ rfl; (with_reducible repeat (first | refine blk_drewN ?_ _ | refine blk_drew ?_ | refine blk_alloc ?_ _)); exact BK338.out⟩
    have n2_ : Aside0 (Below w.heap.size w ((((w9.setCell ⟨gb338, 0, none⟩ (.int .i64 t331)).setCell ⟨gb338, 1, none⟩ (.int .i64 t332)).setCell ⟨gb338, 2, none⟩ (.int .i64 t333)).setCell ⟨gb338, 3, none⟩ (.int .i64 t334))) := ⟨by repeat (first | (with_reducible first | exact HB.out | apply below_alloc | apply pw_below_drewN | apply below_drew1 | refine below_set ?_ GE338.out) | exact HB.out)⟩
    (try clear HO337)
    (try clear BK338)
    (try clear HB)
    generalize ((((w9.setCell ⟨gb338, 0, none⟩ (.int .i64 t331)).setCell ⟨gb338, 1, none⟩ (.int .i64 t332)).setCell ⟨gb338, 2, none⟩ (.int .i64 t333)).setCell ⟨gb338, 3, none⟩ (.int .i64 t334)) = w11 at n0_ n1_ n2_ ⊢
    have HO337 := n0_
    have BK338 := n1_
    have HB := n2_
    clear n0_ n1_ n2_
    have n0_ := Aside0.mk (Kd.R_drew HO337.out)
    have n1_ := Aside0.mk (blk_drew BK338.out)
    have n2_ := Aside0.mk (below_drew1 HB.out)
    clear HO337
    clear BK338
    clear HB
    have HO337 := n0_
    have BK338 := n1_
    have HB := n2_
    clear n0_ n1_ n2_
    refine start_ (n := 11) (S := fun w' => w'.cell? ⟨gb338, 0, none⟩ = some (.int .i64 t331) ∧ w'.cell? ⟨gb338, 1, none⟩ = some (.int .i64 t332) ∧ w'.cell? ⟨gb338, 2, none⟩ = some (.int .i64 t333) ∧ w'.cell? ⟨gb338, 3, none⟩ = some (.int .i64 t334)) (ds := []) #[false, false, false, false, false, false, false, false, false, false, false] (by kernel_rfl) rfl rfl ⟨(blk_cell BK338.out 0).trans rfl, (blk_cell BK338.out 1).trans rfl, (blk_cell BK338.out 2).trans rfl, (blk_cell BK338.out 3).trans rfl⟩ (fun hHeld => ?_); refine with_tabW laws_FnLaid.tab4 laws_FnLaid.bits4 (fun HT_ HW_ => ?_)
    generalize w11.drew = w12 at HO337 BK338 HB hHeld ⊢
    refine pure_ (i := 1) (N := some 25) (v := ?_) (a' := ?_) #[false, true, false, false, false, false, false, false, false, false, false] rfl rfl (any_of HT_.out (by kernel_rfl)) (fun _ _ _ h => h) (Or.inl ⟨by rfl, ?_⟩) ?_ ?_
    rotate_left
    · intro w'
      go_simp
      with_reducible rfl
    rotate_left
    · simp only [Act.put, List.setIfInBounds_toArray, List.set_cons_zero, List.set_cons_succ, i64_w, i32_w]
      rfl
    refine pure_ (i := 4) (N := some 28) (v := ?_) (a' := ?_) #[false, true, false, false, true, false, false, false, false, false, false] rfl rfl (any_of HT_.out (by kernel_rfl)) (fun _ _ _ h => h) (Or.inl ⟨by rfl, ?_⟩) ?_ ?_
    rotate_left
    · intro w'
      go_simp
      with_reducible rfl
    rotate_left
    · simp only [Act.put, List.setIfInBounds_toArray, List.set_cons_zero, List.set_cons_succ, i64_w, i32_w]
      rfl
    refine take_ (i := 0) (N := some 24) (v := ?_) (a' := ?_) #[true, true, false, false, true, false, false, false, false, false, false] rfl rfl (take_ofW HT_.out HW_.out (by kernel_rfl)) (fun _ _ _ h => h) (Or.inl ⟨by rfl, ?_⟩) hHeld ?_ ?_
    rotate_left
    · rintro w' ⟨s0, s1, s2, s3⟩
      go_simp
      with_reducible rfl
    rotate_left
    · simp only [Act.put, List.setIfInBounds_toArray, List.set_cons_zero, List.set_cons_succ, i64_w, i32_w]
      rfl
    refine one_ (i := 2) (N := some 26) #[true, true, true, false, true, false, false, false, false, false, false] rfl rfl (one_of HT_.out (by kernel_rfl)) (by decide) (fun K hK => ?_)
    refine goes_ Try.func8 (by kernel_rfl) rfl #[.slice A0 l0.length c0, .int .i64 1] (by rfl) rfl rfl (by (try simp only [List.map_toArray, List.map_cons, List.map_nil]); first | done | rfl | (simp only [List.length_drop, List.length_take]; rfl)) ?_
    with_reducible refine (laws_at.calls _ _ l0 1 t339 _ ?side1 ?side2 A5.out).mono ?_
    (case side1 => repeat (first | exact (Kd.C_below HR0.out HB.out) | (with_reducible refine Kd.C_alloc ?_ _) | (with_reducible refine Kd.C_drewN ?_ _) | (with_reducible refine Kd.C_drew ?_)))
    (case side2 => exact HC0.out)
    rintro e w' ⟨rfl, ⟨nd, rfl⟩⟩
    refine ⟨_, rfl, ?_⟩
    obtain ⟨Ao13, co13, eo13⟩ := Kd.R_slice HO337.out
    (first | subst eo13 | (injection eo13 with f1_ f2_ f3_; have f4_ := f1_.symm; have f5_ := f3_.symm; clear f1_ f2_ f3_; subst f4_; subst f5_))
    refine hK.out _ _ ⟨(blk_cell BK338.out 0).trans rfl, (blk_cell BK338.out 1).trans rfl, (blk_cell BK338.out 2).trans rfl, (blk_cell BK338.out 3).trans rfl⟩ (fun hHeld => ?_)
    clear hK K
    refine norm_ (a' := ?_) ?_ ?_
    rotate_left
    · show Act.put _ (some 26) _ = _
      simp only [Act.put, List.setIfInBounds_toArray, List.set_cons_zero, List.set_cons_succ, i64_w, i32_w]
      rfl
    refine pure_ (i := 3) (N := some 27) (v := ?_) (a' := ?_) #[true, true, true, true, true, false, false, false, false, false, false] rfl rfl (any_of HT_.out (by kernel_rfl)) (fun _ _ _ h => h) (Or.inl ⟨by rfl, ?_⟩) ?_ ?_
    rotate_left
    · intro w'
      go_simp
      with_reducible rfl
    rotate_left
    · simp only [Act.put, List.setIfInBounds_toArray, List.set_cons_zero, List.set_cons_succ, i64_w, i32_w]
      rfl
    refine one_ (i := 5) (N := some 29) #[true, true, true, true, true, true, false, false, false, false, false] rfl rfl (one_of HT_.out (by kernel_rfl)) (by decide) (fun K hK => ?_)
    refine goes_ Try.func11 (by kernel_rfl) rfl #[.agg #[.int .i64 t331, .int .i64 t332, .int .i64 t333, .int .i64 t334], .int .i64 (wrap64 (t339 * 9)), .slice Ao13 t335.length co13] (by rfl) rfl rfl (by (try simp only [List.map_toArray, List.map_cons, List.map_nil]); first | done | rfl | (simp only [List.length_drop, List.length_take]; rfl)) ?_
    with_reducible refine (impl_Starts.calls k t331 t332 t333 t334 (wrap64 (t339 * 9)) _ _ t335 t340 t341 _ ?side1 ?side2 A6.out).mono ?_
    (case side1 => repeat (first | exact (Kd.R_reads' HO337.out).2.2 | (with_reducible refine Kd.C_alloc ?_ _) | (with_reducible refine Kd.C_drewN ?_ _) | (with_reducible refine Kd.C_drew ?_)))
    (case side2 => exact (Kd.R_reads' HO337.out).2.1)
    rintro e w14 ⟨rfl, hb⟩
    refine ⟨_, rfl, ?_⟩
    have n0_ := Aside0.mk (Kd.R_below (by (with_reducible repeat (first | apply Kd.R_alloc | apply Kd.R_drewN | apply Kd.R_drew)); exact HO337.out) hb)
    have n1_ := Aside0.mk (blk_below (g := gb338) (o := .cells #[.int .i64 t331, .int .i64 t332, .int .i64 t333, .int .i64 t334] 29 (0, 0)) (by (with_reducible repeat (first | refine blk_drewN ?_ _ | refine blk_drew ?_ | refine blk_alloc ?_ _)); exact BK338.out) hb)
    have n2_ := Aside0.mk (below_step (by repeat (first | (with_reducible first | exact HB.out | apply below_alloc | apply pw_below_drewN | apply below_drew1 | refine below_set ?_ GE338.out) | exact HB.out)) hb)
    clear HO337
    clear BK338
    clear HB
    have HO337 := n0_
    have BK338 := n1_
    have HB := n2_
    clear n0_ n1_ n2_
    (try clear hb)
    (try clear hb2)
    (try clear hk)
    (try clear hi)
    refine hK.out _ _ ⟨(blk_cell BK338.out 0).trans rfl, (blk_cell BK338.out 1).trans rfl, (blk_cell BK338.out 2).trans rfl, (blk_cell BK338.out 3).trans rfl⟩ (fun hHeld => ?_)
    clear hK K
    refine norm_ (a' := ?_) ?_ ?_
    rotate_left
    · show Act.put _ (some 29) _ = _
      simp only [Act.put, List.setIfInBounds_toArray, List.set_cons_zero, List.set_cons_succ, i64_w, i32_w]
      rfl
    refine pure_ (i := 6) (N := some 23) (v := ?_) (a' := ?_) #[true, true, true, true, true, true, true, false, false, false, false] rfl rfl (any_of HT_.out (by kernel_rfl)) (fun _ _ _ h => h) (Or.inl ⟨by rfl, ?_⟩) ?_ ?_
    rotate_left
    · intro w'
      go_simp
      with_reducible rfl
    rotate_left
    · simp only [Act.put, List.setIfInBounds_toArray, List.set_cons_zero, List.set_cons_succ, i64_w, i32_w]
      rfl
    refine pure_ (i := 7) (N := some 30) (v := ?_) (a' := ?_) #[true, true, true, true, true, true, true, true, false, false, false] rfl rfl (any_of HT_.out (by kernel_rfl)) (fun _ _ _ h => h) (Or.inl ⟨by rfl, ?_⟩) ?_ ?_
    rotate_left
    · intro w'
      go_simp
      with_reducible rfl
    rotate_left
    · simp only [Act.put, List.setIfInBounds_toArray, List.set_cons_zero, List.set_cons_succ, i64_w, i32_w]
      rfl
    refine pure_ (i := 8) (N := some 31) (v := ?_) (a' := ?_) #[true, true, true, true, true, true, true, true, true, false, false] rfl rfl (any_of HT_.out (by kernel_rfl)) (fun _ _ _ h => h) (Or.inl ⟨by rfl, ?_⟩) ?_ ?_
    rotate_left
    · intro w'
      go_simp
      with_reducible rfl
    rotate_left
    · simp only [Act.put, List.setIfInBounds_toArray, List.set_cons_zero, List.set_cons_succ, i64_w, i32_w]
      rfl
    refine pure_ (i := 9) (N := some 5) (v := ?_) (a' := ?_) #[true, true, true, true, true, true, true, true, true, true, false] rfl rfl (any_of HT_.out (by kernel_rfl)) (fun _ _ _ h => h) (Or.inl ⟨by rfl, ?_⟩) ?_ ?_
    rotate_left
    · intro w'
      go_simp
      with_reducible rfl
    rotate_left
    · simp only [Act.put, List.setIfInBounds_toArray, List.set_cons_zero, List.set_cons_succ, i64_w, i32_w]
      rfl
    refine pure_ (i := 10) (N := some 6) (v := ?_) (a' := ?_) #[true, true, true, true, true, true, true, true, true, true, true] rfl rfl (any_of HT_.out (by kernel_rfl)) (fun _ _ _ h => h) (Or.inl ⟨by rfl, ?_⟩) ?_ ?_
    rotate_left
    · intro w'
      go_simp
      with_reducible rfl
    rotate_left
    · simp only [Act.put, List.setIfInBounds_toArray, List.set_cons_zero, List.set_cons_succ, i64_w, i32_w]
      rfl
    refine done_ (done_of HT_.out (by kernel_rfl)) ?_
    go_upto_region 5 with (fail)
    go_cut [48] (fun v48 wc => ∃ (kq : Nat) (x48_6 : Bool), v48 = .bool x48_6 ∧ Aside0 (laws_FnLaid.j0 kq l0 t335 t340 x48_6 t331 t332 t333 t334 = some r) ∧ Aside0 (kq ≤ k) ∧ Aside0 (Kd.R k42 42 wc w.heap.size (fun _ => True) (.slice Ao13 t335.length co13) t335) ∧ Aside0 (wc.heap[gb338]? = some (.cells #[.int .i64 t331, .int .i64 t332, .int .i64 t333, .int .i64 t334] 29 (0, 0))) ∧ Aside0 (Below w.heap.size w wc))
    case first =>
      have H := HC7.out
      clear HC7
      by_cases c15 : t341 = true
      · subst c15
        have H1 : ((laws_at.f l0 1).bind fun t342 => (if t340 < (wrap64 ((wrap64 (t342 * 9)) + t331)) then (laws_FnLaid.j0 k l0 t335 t340 true t331 t332 t333 t334) else ((impl_CharterOk.f t331 t332 t333 t334).bind fun t343 => (laws_FnLaid.j0 k l0 t335 t340 (!t343) t331 t332 t333 t334)))) = some r := by rw [if_pos rfl] at H; exact H
        clear H
        have H := H1
        clear H1
        replace H := Option.bind_eq_some_iff.mp H
        obtain ⟨t342, A160, H⟩ := H
        replace H : (if t340 < (wrap64 ((wrap64 (t342 * 9)) + t331)) then (laws_FnLaid.j0 k l0 t335 t340 true t331 t332 t333 t334) else ((impl_CharterOk.f t331 t332 t333 t334).bind fun t343 => (laws_FnLaid.j0 k l0 t335 t340 (!t343) t331 t332 t333 t334))) = some r := H
        have A16 := Aside0.mk A160
        clear A160
        by_cases c17 : t340 < (wrap64 ((wrap64 (t342 * 9)) + t331))
        · rw [if_pos c17] at H
          have c17b0 : decide (t340 < (wrap64 ((wrap64 (t342 * 9)) + t331))) = true := decide_eq_true c17
          clear c17
          (first | rw [c17b0] | (simp only [i64_w, i32_w]; rw [c17b0]) | skip)
          have H' := Aside0.mk H
          clear H
          try go_wp2
          have n0_ := Aside0.mk (Kd.R_drew HO337.out)
          have n1_ := Aside0.mk (blk_drew BK338.out)
          have n2_ := Aside0.mk (below_drew1 HB.out)
          clear HO337
          clear BK338
          clear HB
          have HO337 := n0_
          have BK338 := n1_
          have HB := n2_
          clear n0_ n1_ n2_
          refine start_ (n := 17) (S := fun w' => w'.cell? ⟨gb338, 0, none⟩ = some (.int .i64 t331) ∧ w'.cell? ⟨gb338, 1, none⟩ = some (.int .i64 t332) ∧ w'.cell? ⟨gb338, 2, none⟩ = some (.int .i64 t333) ∧ w'.cell? ⟨gb338, 3, none⟩ = some (.int .i64 t334)) (ds := []) #[false, false, false, false, false, false, false, false, false, false, false, false, false, false, false, false, false] (by kernel_rfl) rfl rfl ⟨(blk_cell BK338.out 0).trans rfl, (blk_cell BK338.out 1).trans rfl, (blk_cell BK338.out 2).trans rfl, (blk_cell BK338.out 3).trans rfl⟩ (fun hHeld => ?_); refine with_tabW laws_FnLaid.tab5 laws_FnLaid.bits5 (fun HT_ HW_ => ?_)
          generalize w14.drew = w18 at HO337 BK338 HB hHeld ⊢
          refine pure_ (i := 0) (N := some 32) (v := ?_) (a' := ?_) #[true, false, false, false, false, false, false, false, false, false, false, false, false, false, false, false, false] rfl rfl (any_of HT_.out (by kernel_rfl)) (fun _ _ _ h => h) (Or.inl ⟨by rfl, ?_⟩) ?_ ?_
          rotate_left
          · intro w'
            go_simp
            with_reducible rfl
          rotate_left
          · simp only [Act.put, List.setIfInBounds_toArray, List.set_cons_zero, List.set_cons_succ, i64_w, i32_w]
            rfl
          refine pure_ (i := 1) (N := some 33) (v := ?_) (a' := ?_) #[true, true, false, false, false, false, false, false, false, false, false, false, false, false, false, false, false] rfl rfl (any_of HT_.out (by kernel_rfl)) (fun _ _ _ h => h) (Or.inl ⟨by rfl, ?_⟩) ?_ ?_
          rotate_left
          · intro w'
            go_simp
            with_reducible rfl
          rotate_left
          · simp only [Act.put, List.setIfInBounds_toArray, List.set_cons_zero, List.set_cons_succ, i64_w, i32_w]
            rfl
          refine pure_ (i := 2) (N := some 34) (v := ?_) (a' := ?_) #[true, true, true, false, false, false, false, false, false, false, false, false, false, false, false, false, false] rfl rfl (any_of HT_.out (by kernel_rfl)) (fun _ _ _ h => h) (Or.inl ⟨by rfl, ?_⟩) ?_ ?_
          rotate_left
          · intro w'
            go_simp
            with_reducible rfl
          rotate_left
          · simp only [Act.put, List.setIfInBounds_toArray, List.set_cons_zero, List.set_cons_succ, i64_w, i32_w]
            rfl
          refine pure_ (i := 3) (N := some 35) (v := ?_) (a' := ?_) #[true, true, true, true, false, false, false, false, false, false, false, false, false, false, false, false, false] rfl rfl (any_of HT_.out (by kernel_rfl)) (fun _ _ _ h => h) (Or.inl ⟨by rfl, ?_⟩) ?_ ?_
          rotate_left
          · intro w'
            go_simp
            with_reducible rfl
          rotate_left
          · simp only [Act.put, List.setIfInBounds_toArray, List.set_cons_zero, List.set_cons_succ, i64_w, i32_w]
            rfl
          refine pure_ (i := 4) (N := some 36) (v := ?_) (a' := ?_) #[true, true, true, true, true, false, false, false, false, false, false, false, false, false, false, false, false] rfl rfl (any_of HT_.out (by kernel_rfl)) (fun _ _ _ h => h) (Or.inl ⟨by rfl, ?_⟩) ?_ ?_
          rotate_left
          · intro w'
            go_simp
            with_reducible rfl
          rotate_left
          · simp only [Act.put, List.setIfInBounds_toArray, List.set_cons_zero, List.set_cons_succ, i64_w, i32_w]
            rfl
          refine pure_ (i := 7) (N := some 39) (v := ?_) (a' := ?_) #[true, true, true, true, true, false, false, true, false, false, false, false, false, false, false, false, false] rfl rfl (any_of HT_.out (by kernel_rfl)) (fun _ _ _ h => h) (Or.inl ⟨by rfl, ?_⟩) ?_ ?_
          rotate_left
          · intro w'
            go_simp
            with_reducible rfl
          rotate_left
          · simp only [Act.put, List.setIfInBounds_toArray, List.set_cons_zero, List.set_cons_succ, i64_w, i32_w]
            rfl
          refine take_ (i := 8) (N := some 40) (v := ?_) (a' := ?_) #[true, true, true, true, true, false, false, true, true, false, false, false, false, false, false, false, false] rfl rfl (take_ofW HT_.out HW_.out (by kernel_rfl)) (fun _ _ _ h => h) (Or.inl ⟨by rfl, ?_⟩) hHeld ?_ ?_
          rotate_left
          · rintro w' ⟨s0, s1, s2, s3⟩
            go_simp
            with_reducible rfl
          rotate_left
          · simp only [Act.put, List.setIfInBounds_toArray, List.set_cons_zero, List.set_cons_succ, i64_w, i32_w]
            rfl
          refine one_ (i := 5) (N := some 37) #[true, true, true, true, true, true, false, true, true, false, false, false, false, false, false, false, false] rfl rfl (one_of HT_.out (by kernel_rfl)) (by decide) (fun K hK => ?_)
          refine goes_ Try.func8 (by kernel_rfl) rfl #[.slice A0 l0.length c0, .int .i64 1] (by rfl) rfl rfl (by (try simp only [List.map_toArray, List.map_cons, List.map_nil]); first | done | rfl | (simp only [List.length_drop, List.length_take]; rfl)) ?_
          with_reducible refine (laws_at.calls _ _ l0 1 t342 _ ?side1 ?side2 A16.out).mono ?_
          (case side1 => repeat (first | exact (Kd.C_below HR0.out HB.out) | (with_reducible refine Kd.C_alloc ?_ _) | (with_reducible refine Kd.C_drewN ?_ _) | (with_reducible refine Kd.C_drew ?_)))
          (case side2 => exact HC0.out)
          rintro e w' ⟨rfl, ⟨nd, rfl⟩⟩
          refine ⟨_, rfl, ?_⟩
          refine hK.out _ _ ⟨(blk_cell BK338.out 0).trans rfl, (blk_cell BK338.out 1).trans rfl, (blk_cell BK338.out 2).trans rfl, (blk_cell BK338.out 3).trans rfl⟩ (fun hHeld => ?_)
          clear hK K
          refine norm_ (a' := ?_) ?_ ?_
          rotate_left
          · show Act.put _ (some 37) _ = _
            simp only [Act.put, List.setIfInBounds_toArray, List.set_cons_zero, List.set_cons_succ, i64_w, i32_w]
            rfl
          refine pure_ (i := 6) (N := some 38) (v := ?_) (a' := ?_) #[true, true, true, true, true, true, true, true, true, false, false, false, false, false, false, false, false] rfl rfl (any_of HT_.out (by kernel_rfl)) (fun _ _ _ h => h) (Or.inl ⟨by rfl, ?_⟩) ?_ ?_
          rotate_left
          · intro w'
            go_simp
            with_reducible rfl
          rotate_left
          · simp only [Act.put, List.setIfInBounds_toArray, List.set_cons_zero, List.set_cons_succ, i64_w, i32_w]
            rfl
          refine pure_ (i := 9) (N := some 41) (v := ?_) (a' := ?_) #[true, true, true, true, true, true, true, true, true, true, false, false, false, false, false, false, false] rfl rfl (any_of HT_.out (by kernel_rfl)) (fun _ _ _ h => h) (Or.inl ⟨by rfl, ?_⟩) ?_ ?_
          rotate_left
          · intro w'
            go_simp
            with_reducible rfl
          rotate_left
          · simp only [Act.put, List.setIfInBounds_toArray, List.set_cons_zero, List.set_cons_succ, i64_w, i32_w]
            rfl
          refine pure_ (i := 10) (N := some 42) (v := ?_) (a' := ?_) #[true, true, true, true, true, true, true, true, true, true, true, false, false, false, false, false, false] rfl rfl (any_of HT_.out (by kernel_rfl)) (fun _ _ _ h => h) (Or.inl ⟨by rfl, ?_⟩) ?_ ?_
          rotate_left
          · intro w'
            go_simp
            with_reducible rfl
          rotate_left
          · simp only [Act.put, List.setIfInBounds_toArray, List.set_cons_zero, List.set_cons_succ, i64_w, i32_w]
            rfl
          refine pure_ (i := 11) (N := some 43) (v := ?_) (a' := ?_) #[true, true, true, true, true, true, true, true, true, true, true, true, false, false, false, false, false] rfl rfl (any_of HT_.out (by kernel_rfl)) (fun _ _ _ h => h) (Or.inl ⟨by rfl, ?_⟩) ?_ ?_
          rotate_left
          · intro w'
            go_simp
            with_reducible rfl
          rotate_left
          · simp only [Act.put, List.setIfInBounds_toArray, List.set_cons_zero, List.set_cons_succ, i64_w, i32_w]
            rfl
          refine pure_ (i := 12) (N := some 44) (v := ?_) (a' := ?_) #[true, true, true, true, true, true, true, true, true, true, true, true, true, false, false, false, false] rfl rfl (any_of HT_.out (by kernel_rfl)) (fun _ _ _ h => h) (Or.inl ⟨by rfl, ?_⟩) ?_ ?_
          rotate_left
          · intro w'
            go_simp
            with_reducible rfl
          rotate_left
          · simp only [Act.put, List.setIfInBounds_toArray, List.set_cons_zero, List.set_cons_succ, i64_w, i32_w]
            rfl
          refine pure_ (i := 13) (N := some 45) (v := undef) (a' := ?_) #[true, true, true, true, true, true, true, true, true, true, true, true, true, true, false, false, false] rfl rfl (any_of HT_.out (by kernel_rfl)) (fun _ _ _ h => h) (Or.inr ⟨by rfl, rfl⟩) ?_ ?_
          rotate_left
          · simp only [Act.put, List.setIfInBounds_toArray, List.set_cons_zero, List.set_cons_succ, i64_w, i32_w]
            rfl
          refine pure_ (i := 14) (N := some 46) (v := undef) (a' := ?_) #[true, true, true, true, true, true, true, true, true, true, true, true, true, true, true, false, false] rfl rfl (any_of HT_.out (by kernel_rfl)) (fun _ _ _ h => h) (Or.inr ⟨by rfl, rfl⟩) ?_ ?_
          rotate_left
          · simp only [Act.put, List.setIfInBounds_toArray, List.set_cons_zero, List.set_cons_succ, i64_w, i32_w]
            rfl
          refine pure_ (i := 15) (N := some 47) (v := undef) (a' := ?_) #[true, true, true, true, true, true, true, true, true, true, true, true, true, true, true, true, false] rfl rfl (any_of HT_.out (by kernel_rfl)) (fun _ _ _ h => h) (Or.inr ⟨by rfl, rfl⟩) ?_ ?_
          rotate_left
          · simp only [Act.put, List.setIfInBounds_toArray, List.set_cons_zero, List.set_cons_succ, i64_w, i32_w]
            rfl
          refine pure_ (i := 16) (N := some 48) (v := ?_) (a' := ?_) #[true, true, true, true, true, true, true, true, true, true, true, true, true, true, true, true, true] rfl rfl (any_of HT_.out (by kernel_rfl)) (fun _ _ _ h => h) (Or.inl ⟨by rfl, ?_⟩) ?_ ?_
          rotate_left
          · intro w'
            go_simp
            with_reducible rfl
          rotate_left
          · simp only [Act.put, List.setIfInBounds_toArray, List.set_cons_zero, List.set_cons_succ, i64_w, i32_w]
            rfl
          refine done_ (done_of HT_.out (by kernel_rfl)) ?_
          try go_wp2
          go_meet
          case rel => exact ⟨_, (true), (by first | rfl | (simp; done) | (simp [*]; done) | (simp [wrap64]; done)), H', ⟨by first | omega | exact Nat.le_refl _⟩, ⟨by (with_reducible repeat (first | apply Kd.R_alloc | apply Kd.R_drewN | apply Kd.R_drew)); exact HO337.out⟩, ⟨by (with_reducible repeat (first | refine blk_drewN ?_ _ | refine blk_drew ?_ | refine blk_alloc ?_ _)); exact BK338.out⟩, ⟨by repeat (first | (with_reducible first | exact HB.out | apply below_alloc | apply pw_below_drewN | apply below_drew1 | refine below_set ?_ GE338.out) | exact HB.out)⟩⟩
        · rw [if_neg c17] at H
          have c17b0 : decide (t340 < (wrap64 ((wrap64 (t342 * 9)) + t331))) = false := decide_eq_false c17
          clear c17
          (first | rw [c17b0] | (simp only [i64_w, i32_w]; rw [c17b0]) | skip)
          replace H := Option.bind_eq_some_iff.mp H
          obtain ⟨t343, A190, H⟩ := H
          replace H : (laws_FnLaid.j0 k l0 t335 t340 (!t343) t331 t332 t333 t334) = some r := H
          have A19 := Aside0.mk A190
          clear A190
          have H' := Aside0.mk H
          clear H
          try go_wp2
          have n0_ := Aside0.mk (Kd.R_drew HO337.out)
          have n1_ := Aside0.mk (blk_drew BK338.out)
          have n2_ := Aside0.mk (below_drew1 HB.out)
          clear HO337
          clear BK338
          clear HB
          have HO337 := n0_
          have BK338 := n1_
          have HB := n2_
          clear n0_ n1_ n2_
          refine start_ (n := 17) (S := fun w' => w'.cell? ⟨gb338, 0, none⟩ = some (.int .i64 t331) ∧ w'.cell? ⟨gb338, 1, none⟩ = some (.int .i64 t332) ∧ w'.cell? ⟨gb338, 2, none⟩ = some (.int .i64 t333) ∧ w'.cell? ⟨gb338, 3, none⟩ = some (.int .i64 t334)) (ds := []) #[false, false, false, false, false, false, false, false, false, false, false, false, false, false, false, false, false] (by kernel_rfl) rfl rfl ⟨(blk_cell BK338.out 0).trans rfl, (blk_cell BK338.out 1).trans rfl, (blk_cell BK338.out 2).trans rfl, (blk_cell BK338.out 3).trans rfl⟩ (fun hHeld => ?_); refine with_tabW laws_FnLaid.tab5 laws_FnLaid.bits5 (fun HT_ HW_ => ?_)
          generalize w14.drew = w20 at HO337 BK338 HB hHeld ⊢
          refine pure_ (i := 0) (N := some 32) (v := ?_) (a' := ?_) #[true, false, false, false, false, false, false, false, false, false, false, false, false, false, false, false, false] rfl rfl (any_of HT_.out (by kernel_rfl)) (fun _ _ _ h => h) (Or.inl ⟨by rfl, ?_⟩) ?_ ?_
          rotate_left
          · intro w'
            go_simp
            with_reducible rfl
          rotate_left
          · simp only [Act.put, List.setIfInBounds_toArray, List.set_cons_zero, List.set_cons_succ, i64_w, i32_w]
            rfl
          refine pure_ (i := 1) (N := some 33) (v := ?_) (a' := ?_) #[true, true, false, false, false, false, false, false, false, false, false, false, false, false, false, false, false] rfl rfl (any_of HT_.out (by kernel_rfl)) (fun _ _ _ h => h) (Or.inl ⟨by rfl, ?_⟩) ?_ ?_
          rotate_left
          · intro w'
            go_simp
            with_reducible rfl
          rotate_left
          · simp only [Act.put, List.setIfInBounds_toArray, List.set_cons_zero, List.set_cons_succ, i64_w, i32_w]
            rfl
          refine pure_ (i := 2) (N := some 34) (v := ?_) (a' := ?_) #[true, true, true, false, false, false, false, false, false, false, false, false, false, false, false, false, false] rfl rfl (any_of HT_.out (by kernel_rfl)) (fun _ _ _ h => h) (Or.inl ⟨by rfl, ?_⟩) ?_ ?_
          rotate_left
          · intro w'
            go_simp
            with_reducible rfl
          rotate_left
          · simp only [Act.put, List.setIfInBounds_toArray, List.set_cons_zero, List.set_cons_succ, i64_w, i32_w]
            rfl
          refine pure_ (i := 3) (N := some 35) (v := ?_) (a' := ?_) #[true, true, true, true, false, false, false, false, false, false, false, false, false, false, false, false, false] rfl rfl (any_of HT_.out (by kernel_rfl)) (fun _ _ _ h => h) (Or.inl ⟨by rfl, ?_⟩) ?_ ?_
          rotate_left
          · intro w'
            go_simp
            with_reducible rfl
          rotate_left
          · simp only [Act.put, List.setIfInBounds_toArray, List.set_cons_zero, List.set_cons_succ, i64_w, i32_w]
            rfl
          refine pure_ (i := 4) (N := some 36) (v := ?_) (a' := ?_) #[true, true, true, true, true, false, false, false, false, false, false, false, false, false, false, false, false] rfl rfl (any_of HT_.out (by kernel_rfl)) (fun _ _ _ h => h) (Or.inl ⟨by rfl, ?_⟩) ?_ ?_
          rotate_left
          · intro w'
            go_simp
            with_reducible rfl
          rotate_left
          · simp only [Act.put, List.setIfInBounds_toArray, List.set_cons_zero, List.set_cons_succ, i64_w, i32_w]
            rfl
          refine pure_ (i := 7) (N := some 39) (v := ?_) (a' := ?_) #[true, true, true, true, true, false, false, true, false, false, false, false, false, false, false, false, false] rfl rfl (any_of HT_.out (by kernel_rfl)) (fun _ _ _ h => h) (Or.inl ⟨by rfl, ?_⟩) ?_ ?_
          rotate_left
          · intro w'
            go_simp
            with_reducible rfl
          rotate_left
          · simp only [Act.put, List.setIfInBounds_toArray, List.set_cons_zero, List.set_cons_succ, i64_w, i32_w]
            rfl
          refine take_ (i := 8) (N := some 40) (v := ?_) (a' := ?_) #[true, true, true, true, true, false, false, true, true, false, false, false, false, false, false, false, false] rfl rfl (take_ofW HT_.out HW_.out (by kernel_rfl)) (fun _ _ _ h => h) (Or.inl ⟨by rfl, ?_⟩) hHeld ?_ ?_
          rotate_left
          · rintro w' ⟨s0, s1, s2, s3⟩
            go_simp
            with_reducible rfl
          rotate_left
          · simp only [Act.put, List.setIfInBounds_toArray, List.set_cons_zero, List.set_cons_succ, i64_w, i32_w]
            rfl
          refine one_ (i := 5) (N := some 37) #[true, true, true, true, true, true, false, true, true, false, false, false, false, false, false, false, false] rfl rfl (one_of HT_.out (by kernel_rfl)) (by decide) (fun K hK => ?_)
          refine goes_ Try.func8 (by kernel_rfl) rfl #[.slice A0 l0.length c0, .int .i64 1] (by rfl) rfl rfl (by (try simp only [List.map_toArray, List.map_cons, List.map_nil]); first | done | rfl | (simp only [List.length_drop, List.length_take]; rfl)) ?_
          with_reducible refine (laws_at.calls _ _ l0 1 t342 _ ?side1 ?side2 A16.out).mono ?_
          (case side1 => repeat (first | exact (Kd.C_below HR0.out HB.out) | (with_reducible refine Kd.C_alloc ?_ _) | (with_reducible refine Kd.C_drewN ?_ _) | (with_reducible refine Kd.C_drew ?_)))
          (case side2 => exact HC0.out)
          rintro e w' ⟨rfl, ⟨nd, rfl⟩⟩
          refine ⟨_, rfl, ?_⟩
          refine hK.out _ _ ⟨(blk_cell BK338.out 0).trans rfl, (blk_cell BK338.out 1).trans rfl, (blk_cell BK338.out 2).trans rfl, (blk_cell BK338.out 3).trans rfl⟩ (fun hHeld => ?_)
          clear hK K
          refine norm_ (a' := ?_) ?_ ?_
          rotate_left
          · show Act.put _ (some 37) _ = _
            simp only [Act.put, List.setIfInBounds_toArray, List.set_cons_zero, List.set_cons_succ, i64_w, i32_w]
            rfl
          refine pure_ (i := 6) (N := some 38) (v := ?_) (a' := ?_) #[true, true, true, true, true, true, true, true, true, false, false, false, false, false, false, false, false] rfl rfl (any_of HT_.out (by kernel_rfl)) (fun _ _ _ h => h) (Or.inl ⟨by rfl, ?_⟩) ?_ ?_
          rotate_left
          · intro w'
            go_simp
            with_reducible rfl
          rotate_left
          · simp only [Act.put, List.setIfInBounds_toArray, List.set_cons_zero, List.set_cons_succ, i64_w, i32_w]
            rfl
          refine pure_ (i := 9) (N := some 41) (v := ?_) (a' := ?_) #[true, true, true, true, true, true, true, true, true, true, false, false, false, false, false, false, false] rfl rfl (any_of HT_.out (by kernel_rfl)) (fun _ _ _ h => h) (Or.inl ⟨by rfl, ?_⟩) ?_ ?_
          rotate_left
          · intro w'
            go_simp
            with_reducible rfl
          rotate_left
          · simp only [Act.put, List.setIfInBounds_toArray, List.set_cons_zero, List.set_cons_succ, i64_w, i32_w]
            rfl
          refine pure_ (i := 10) (N := some 42) (v := ?_) (a' := ?_) #[true, true, true, true, true, true, true, true, true, true, true, false, false, false, false, false, false] rfl rfl (any_of HT_.out (by kernel_rfl)) (fun _ _ _ h => h) (Or.inl ⟨by rfl, ?_⟩) ?_ ?_
          rotate_left
          · intro w'
            go_simp
            with_reducible rfl
          rotate_left
          · simp only [Act.put, List.setIfInBounds_toArray, List.set_cons_zero, List.set_cons_succ, i64_w, i32_w]
            rfl
          refine pure_ (i := 11) (N := some 43) (v := ?_) (a' := ?_) #[true, true, true, true, true, true, true, true, true, true, true, true, false, false, false, false, false] rfl rfl (any_of HT_.out (by kernel_rfl)) (fun _ _ _ h => h) (Or.inl ⟨by rfl, ?_⟩) ?_ ?_
          rotate_left
          · intro w'
            go_simp
            with_reducible rfl
          rotate_left
          · simp only [Act.put, List.setIfInBounds_toArray, List.set_cons_zero, List.set_cons_succ, i64_w, i32_w]
            rfl
          refine pure_ (i := 12) (N := some 44) (v := ?_) (a' := ?_) #[true, true, true, true, true, true, true, true, true, true, true, true, true, false, false, false, false] rfl rfl (any_of HT_.out (by kernel_rfl)) (fun _ _ _ h => h) (Or.inl ⟨by rfl, ?_⟩) ?_ ?_
          rotate_left
          · intro w'
            go_simp
            with_reducible rfl
          rotate_left
          · simp only [Act.put, List.setIfInBounds_toArray, List.set_cons_zero, List.set_cons_succ, i64_w, i32_w]
            rfl
          refine take_ (i := 13) (N := some 45) (v := ?_) (a' := ?_) #[true, true, true, true, true, true, true, true, true, true, true, true, true, true, false, false, false] rfl rfl (take_ofW HT_.out HW_.out (by kernel_rfl)) (fun _ _ _ h => h) (Or.inl ⟨by rfl, ?_⟩) hHeld ?_ ?_
          rotate_left
          · rintro w' ⟨s0, s1, s2, s3⟩
            go_simp
            with_reducible rfl
          rotate_left
          · simp only [Act.put, List.setIfInBounds_toArray, List.set_cons_zero, List.set_cons_succ, i64_w, i32_w]
            rfl
          refine one_ (i := 14) (N := some 46) #[true, true, true, true, true, true, true, true, true, true, true, true, true, true, true, false, false] rfl rfl (one_of HT_.out (by kernel_rfl)) (by decide) (fun K hK => ?_)
          refine goes_ Try.func12 (by kernel_rfl) rfl #[.agg #[.int .i64 t331, .int .i64 t332, .int .i64 t333, .int .i64 t334]] (by rfl) rfl rfl (by (try simp only [List.map_toArray, List.map_cons, List.map_nil]); first | done | rfl | (simp only [List.length_drop, List.length_take]; rfl)) ?_
          with_reducible refine (impl_CharterOk.calls t331 t332 t333 t334 t343 _ A19.out).mono ?_
          rintro e w21 ⟨rfl, hb⟩
          refine ⟨_, rfl, ?_⟩
          have n0_ := Aside0.mk (Kd.R_below (by (with_reducible repeat (first | apply Kd.R_alloc | apply Kd.R_drewN | apply Kd.R_drew)); exact HO337.out) hb)
          have n1_ := Aside0.mk (blk_below (g := gb338) (o := .cells #[.int .i64 t331, .int .i64 t332, .int .i64 t333, .int .i64 t334] 29 (0, 0)) (by (with_reducible repeat (first | refine blk_drewN ?_ _ | refine blk_drew ?_ | refine blk_alloc ?_ _)); exact BK338.out) hb)
          have n2_ := Aside0.mk (below_step (by repeat (first | (with_reducible first | exact HB.out | apply below_alloc | apply pw_below_drewN | apply below_drew1 | refine below_set ?_ GE338.out) | exact HB.out)) hb)
          clear HO337
          clear BK338
          clear HB
          have HO337 := n0_
          have BK338 := n1_
          have HB := n2_
          clear n0_ n1_ n2_
          (try clear hb)
          (try clear hb2)
          (try clear hk)
          (try clear hi)
          refine hK.out _ _ ⟨(blk_cell BK338.out 0).trans rfl, (blk_cell BK338.out 1).trans rfl, (blk_cell BK338.out 2).trans rfl, (blk_cell BK338.out 3).trans rfl⟩ (fun hHeld => ?_)
          clear hK K
          refine norm_ (a' := ?_) ?_ ?_
          rotate_left
          · show Act.put _ (some 46) _ = _
            simp only [Act.put, List.setIfInBounds_toArray, List.set_cons_zero, List.set_cons_succ, i64_w, i32_w]
            rfl
          refine pure_ (i := 15) (N := some 47) (v := ?_) (a' := ?_) #[true, true, true, true, true, true, true, true, true, true, true, true, true, true, true, true, false] rfl rfl (any_of HT_.out (by kernel_rfl)) (fun _ _ _ h => h) (Or.inl ⟨by rfl, ?_⟩) ?_ ?_
          rotate_left
          · intro w'
            go_simp
            with_reducible rfl
          rotate_left
          · simp only [Act.put, List.setIfInBounds_toArray, List.set_cons_zero, List.set_cons_succ, i64_w, i32_w]
            rfl
          refine pure_ (i := 16) (N := some 48) (v := ?_) (a' := ?_) #[true, true, true, true, true, true, true, true, true, true, true, true, true, true, true, true, true] rfl rfl (any_of HT_.out (by kernel_rfl)) (fun _ _ _ h => h) (Or.inl ⟨by rfl, ?_⟩) ?_ ?_
          rotate_left
          · intro w'
            go_simp
            with_reducible rfl
          rotate_left
          · simp only [Act.put, List.setIfInBounds_toArray, List.set_cons_zero, List.set_cons_succ, i64_w, i32_w]
            rfl
          refine done_ (done_of HT_.out (by kernel_rfl)) ?_
          try go_wp2
          go_meet
          case rel => exact ⟨_, (!t343), (by first | rfl | (simp; done) | (simp [*]; done) | (simp [wrap64]; done)), H', ⟨by first | omega | exact Nat.le_refl _⟩, ⟨by (with_reducible repeat (first | apply Kd.R_alloc | apply Kd.R_drewN | apply Kd.R_drew)); exact HO337.out⟩, ⟨by (with_reducible repeat (first | refine blk_drewN ?_ _ | refine blk_drew ?_ | refine blk_alloc ?_ _)); exact BK338.out⟩, ⟨by repeat (first | (with_reducible first | exact HB.out | apply below_alloc | apply pw_below_drewN | apply below_drew1 | refine below_set ?_ GE338.out) | exact HB.out)⟩⟩
      · replace c15 := Bool.eq_false_iff.mpr c15
        subst c15
        have H1 : (laws_FnLaid.j0 k l0 t335 t340 true t331 t332 t333 t334) = some r := by rw [if_neg (show ¬ (false = true) by decide)] at H; exact H
        clear H
        have H := H1
        clear H1
        have H' := Aside0.mk H
        clear H
        try go_wp2
        have n0_ := Aside0.mk (Kd.R_drew HO337.out)
        have n1_ := Aside0.mk (blk_drew BK338.out)
        have n2_ := Aside0.mk (below_drew1 HB.out)
        clear HO337
        clear BK338
        clear HB
        have HO337 := n0_
        have BK338 := n1_
        have HB := n2_
        clear n0_ n1_ n2_
        refine start_ (n := 17) (S := fun w' => True) (ds := []) #[false, false, false, false, false, false, false, false, false, false, false, false, false, false, false, false, false] (by kernel_rfl) rfl rfl trivial (fun hHeld => ?_); refine with_tabW laws_FnLaid.tab5 laws_FnLaid.bits5 (fun HT_ HW_ => ?_)
        generalize w14.drew = w22 at HO337 BK338 HB hHeld ⊢
        refine pure_ (i := 0) (N := some 32) (v := ?_) (a' := ?_) #[true, false, false, false, false, false, false, false, false, false, false, false, false, false, false, false, false] rfl rfl (any_of HT_.out (by kernel_rfl)) (fun _ _ _ h => h) (Or.inl ⟨by rfl, ?_⟩) ?_ ?_
        rotate_left
        · intro w'
          go_simp
          with_reducible rfl
        rotate_left
        · simp only [Act.put, List.setIfInBounds_toArray, List.set_cons_zero, List.set_cons_succ, i64_w, i32_w]
          rfl
        refine pure_ (i := 1) (N := some 33) (v := ?_) (a' := ?_) #[true, true, false, false, false, false, false, false, false, false, false, false, false, false, false, false, false] rfl rfl (any_of HT_.out (by kernel_rfl)) (fun _ _ _ h => h) (Or.inl ⟨by rfl, ?_⟩) ?_ ?_
        rotate_left
        · intro w'
          go_simp
          with_reducible rfl
        rotate_left
        · simp only [Act.put, List.setIfInBounds_toArray, List.set_cons_zero, List.set_cons_succ, i64_w, i32_w]
          rfl
        refine pure_ (i := 2) (N := some 34) (v := ?_) (a' := ?_) #[true, true, true, false, false, false, false, false, false, false, false, false, false, false, false, false, false] rfl rfl (any_of HT_.out (by kernel_rfl)) (fun _ _ _ h => h) (Or.inl ⟨by rfl, ?_⟩) ?_ ?_
        rotate_left
        · intro w'
          go_simp
          with_reducible rfl
        rotate_left
        · simp only [Act.put, List.setIfInBounds_toArray, List.set_cons_zero, List.set_cons_succ, i64_w, i32_w]
          rfl
        refine pure_ (i := 3) (N := some 35) (v := undef) (a' := ?_) #[true, true, true, true, false, false, false, false, false, false, false, false, false, false, false, false, false] rfl rfl (any_of HT_.out (by kernel_rfl)) (fun _ _ _ h => h) (Or.inr ⟨by rfl, rfl⟩) ?_ ?_
        rotate_left
        · simp only [Act.put, List.setIfInBounds_toArray, List.set_cons_zero, List.set_cons_succ, i64_w, i32_w]
          rfl
        refine pure_ (i := 4) (N := some 36) (v := undef) (a' := ?_) #[true, true, true, true, true, false, false, false, false, false, false, false, false, false, false, false, false] rfl rfl (any_of HT_.out (by kernel_rfl)) (fun _ _ _ h => h) (Or.inr ⟨by rfl, rfl⟩) ?_ ?_
        rotate_left
        · simp only [Act.put, List.setIfInBounds_toArray, List.set_cons_zero, List.set_cons_succ, i64_w, i32_w]
          rfl
        refine pure_ (i := 5) (N := some 37) (v := undef) (a' := ?_) #[true, true, true, true, true, true, false, false, false, false, false, false, false, false, false, false, false] rfl rfl (any_of HT_.out (by kernel_rfl)) (fun _ _ _ h => h) (Or.inr ⟨by rfl, rfl⟩) ?_ ?_
        rotate_left
        · simp only [Act.put, List.setIfInBounds_toArray, List.set_cons_zero, List.set_cons_succ, i64_w, i32_w]
          rfl
        refine pure_ (i := 6) (N := some 38) (v := undef) (a' := ?_) #[true, true, true, true, true, true, true, false, false, false, false, false, false, false, false, false, false] rfl rfl (any_of HT_.out (by kernel_rfl)) (fun _ _ _ h => h) (Or.inr ⟨by rfl, rfl⟩) ?_ ?_
        rotate_left
        · simp only [Act.put, List.setIfInBounds_toArray, List.set_cons_zero, List.set_cons_succ, i64_w, i32_w]
          rfl
        refine pure_ (i := 7) (N := some 39) (v := undef) (a' := ?_) #[true, true, true, true, true, true, true, true, false, false, false, false, false, false, false, false, false] rfl rfl (any_of HT_.out (by kernel_rfl)) (fun _ _ _ h => h) (Or.inr ⟨by rfl, rfl⟩) ?_ ?_
        rotate_left
        · simp only [Act.put, List.setIfInBounds_toArray, List.set_cons_zero, List.set_cons_succ, i64_w, i32_w]
          rfl
        refine pure_ (i := 8) (N := some 40) (v := undef) (a' := ?_) #[true, true, true, true, true, true, true, true, true, false, false, false, false, false, false, false, false] rfl rfl (any_of HT_.out (by kernel_rfl)) (fun _ _ _ h => h) (Or.inr ⟨by rfl, rfl⟩) ?_ ?_
        rotate_left
        · simp only [Act.put, List.setIfInBounds_toArray, List.set_cons_zero, List.set_cons_succ, i64_w, i32_w]
          rfl
        refine pure_ (i := 9) (N := some 41) (v := undef) (a' := ?_) #[true, true, true, true, true, true, true, true, true, true, false, false, false, false, false, false, false] rfl rfl (any_of HT_.out (by kernel_rfl)) (fun _ _ _ h => h) (Or.inr ⟨by rfl, rfl⟩) ?_ ?_
        rotate_left
        · simp only [Act.put, List.setIfInBounds_toArray, List.set_cons_zero, List.set_cons_succ, i64_w, i32_w]
          rfl
        refine pure_ (i := 10) (N := some 42) (v := undef) (a' := ?_) #[true, true, true, true, true, true, true, true, true, true, true, false, false, false, false, false, false] rfl rfl (any_of HT_.out (by kernel_rfl)) (fun _ _ _ h => h) (Or.inr ⟨by rfl, rfl⟩) ?_ ?_
        rotate_left
        · simp only [Act.put, List.setIfInBounds_toArray, List.set_cons_zero, List.set_cons_succ, i64_w, i32_w]
          rfl
        refine pure_ (i := 11) (N := some 43) (v := ?_) (a' := ?_) #[true, true, true, true, true, true, true, true, true, true, true, true, false, false, false, false, false] rfl rfl (any_of HT_.out (by kernel_rfl)) (fun _ _ _ h => h) (Or.inl ⟨by rfl, ?_⟩) ?_ ?_
        rotate_left
        · intro w'
          go_simp
          with_reducible rfl
        rotate_left
        · simp only [Act.put, List.setIfInBounds_toArray, List.set_cons_zero, List.set_cons_succ, i64_w, i32_w]
          rfl
        refine pure_ (i := 12) (N := some 44) (v := ?_) (a' := ?_) #[true, true, true, true, true, true, true, true, true, true, true, true, true, false, false, false, false] rfl rfl (any_of HT_.out (by kernel_rfl)) (fun _ _ _ h => h) (Or.inl ⟨by rfl, ?_⟩) ?_ ?_
        rotate_left
        · intro w'
          go_simp
          with_reducible rfl
        rotate_left
        · simp only [Act.put, List.setIfInBounds_toArray, List.set_cons_zero, List.set_cons_succ, i64_w, i32_w]
          rfl
        refine pure_ (i := 13) (N := some 45) (v := undef) (a' := ?_) #[true, true, true, true, true, true, true, true, true, true, true, true, true, true, false, false, false] rfl rfl (any_of HT_.out (by kernel_rfl)) (fun _ _ _ h => h) (Or.inr ⟨by rfl, rfl⟩) ?_ ?_
        rotate_left
        · simp only [Act.put, List.setIfInBounds_toArray, List.set_cons_zero, List.set_cons_succ, i64_w, i32_w]
          rfl
        refine pure_ (i := 14) (N := some 46) (v := undef) (a' := ?_) #[true, true, true, true, true, true, true, true, true, true, true, true, true, true, true, false, false] rfl rfl (any_of HT_.out (by kernel_rfl)) (fun _ _ _ h => h) (Or.inr ⟨by rfl, rfl⟩) ?_ ?_
        rotate_left
        · simp only [Act.put, List.setIfInBounds_toArray, List.set_cons_zero, List.set_cons_succ, i64_w, i32_w]
          rfl
        refine pure_ (i := 15) (N := some 47) (v := undef) (a' := ?_) #[true, true, true, true, true, true, true, true, true, true, true, true, true, true, true, true, false] rfl rfl (any_of HT_.out (by kernel_rfl)) (fun _ _ _ h => h) (Or.inr ⟨by rfl, rfl⟩) ?_ ?_
        rotate_left
        · simp only [Act.put, List.setIfInBounds_toArray, List.set_cons_zero, List.set_cons_succ, i64_w, i32_w]
          rfl
        refine pure_ (i := 16) (N := some 48) (v := ?_) (a' := ?_) #[true, true, true, true, true, true, true, true, true, true, true, true, true, true, true, true, true] rfl rfl (any_of HT_.out (by kernel_rfl)) (fun _ _ _ h => h) (Or.inl ⟨by rfl, ?_⟩) ?_ ?_
        rotate_left
        · intro w'
          go_simp
          with_reducible rfl
        rotate_left
        · simp only [Act.put, List.setIfInBounds_toArray, List.set_cons_zero, List.set_cons_succ, i64_w, i32_w]
          rfl
        refine done_ (done_of HT_.out (by kernel_rfl)) ?_
        try go_wp2
        go_meet
        case rel => exact ⟨_, (true), (by first | rfl | (simp; done) | (simp [*]; done) | (simp [wrap64]; done)), H', ⟨by first | omega | exact Nat.le_refl _⟩, ⟨by (with_reducible repeat (first | apply Kd.R_alloc | apply Kd.R_drewN | apply Kd.R_drew)); exact HO337.out⟩, ⟨by (with_reducible repeat (first | refine blk_drewN ?_ _ | refine blk_drew ?_ | refine blk_alloc ?_ _)); exact BK338.out⟩, ⟨by repeat (first | (with_reducible first | exact HB.out | apply below_alloc | apply pw_below_drewN | apply below_drew1 | refine below_set ?_ GE338.out) | exact HB.out)⟩⟩
    case rest =>
      clear HC7
      try clear c1
      try clear p2
      try clear p6
      try clear c8
      try clear c11
      try clear c12
      try clear c15
      try clear c17
      try clear c17b0
      obtain ⟨kq, x48_6, rfl, HA, HJ6, HO_4, BK338, HB⟩ := hcut
      cases kq with
      | zero => exact absurd HA.out (by simp [laws_FnLaid.j0])
      | succ kj6 =>
        have H := HA.out
        clear HA
        simp only [laws_FnLaid.j0] at H
        by_cases c23 : x48_6 = true
        · subst c23
          have H1 : (some false) = some r := by rw [if_pos rfl] at H; exact H
          clear H
          have H := H1
          clear H1
          obtain rfl := Option.some.inj H
          go_wp2
          go_ret
          exact ⟨by first | rfl | (simp [errW_none, errW_some] <;> rfl) | (simp [*, errW_none, errW_some] <;> rfl), by repeat (first | (with_reducible first | exact HB.out | apply below_alloc | apply pw_below_drewN | apply below_drew1 | refine below_set ?_ GE338.out) | exact HB.out)⟩
        · replace c23 := Bool.eq_false_iff.mpr c23
          subst c23
          have H1 : ((laws_at.f l0 2).bind fun t344 => ((laws_at.f l0 2).bind fun t345 => ((laws_at.f l0 3).bind fun t346 => ((impl_Counted.f kj6 t331 t332 t333 t334 t340 (wrap64 ((wrap64 ((wrap64 (t340 + 2)) + (wrap64 (t345 * 7)))) + (wrap64 (t346 * 9)))) t335).bind fun bt347 => ((impl_Laid.f kj6 t331 t332 t333 t334 (([(⟨t340, wrap64 ((wrap64 (t340 + 1)) + (wrap64 (t344 * 7)))⟩ : S42), (⟨wrap64 ((wrap64 (t340 + 1)) + (wrap64 (t344 * 7))), wrap64 ((wrap64 ((wrap64 (t340 + 2)) + (wrap64 (t345 * 7)))) + (wrap64 (t346 * 9)))⟩ : S42)] : List (S42))) t335).bind fun bt355 => (if bt347.2.2.2 = true then (if bt355.2.2.2 = true then (if (!(bt347.1 == bt355.1) || (!(bt347.2.1 == bt355.2.1) || (!(bt347.2.2.1 == bt355.2.2.1)))) = true then (laws_FnLaid.j1 kj6 t335 t340 (wrap64 ((wrap64 ((wrap64 (t340 + 2)) + (wrap64 (t345 * 7)))) + (wrap64 (t346 * 9)))) true t331 t332 t333 t334 bt347.1 bt347.2.1 bt347.2.2.1) else (if bt347.1 > t332 then (laws_FnLaid.j1 kj6 t335 t340 (wrap64 ((wrap64 ((wrap64 (t340 + 2)) + (wrap64 (t345 * 7)))) + (wrap64 (t346 * 9)))) true t331 t332 t333 t334 bt347.1 bt347.2.1 bt347.2.2.1) else (if bt347.2.1 > 0 then (laws_FnLaid.j1 kj6 t335 t340 (wrap64 ((wrap64 ((wrap64 (t340 + 2)) + (wrap64 (t345 * 7)))) + (wrap64 (t346 * 9)))) (bt347.1 != t332) t331 t332 t333 t334 bt347.1 bt347.2.1 bt347.2.2.1) else (laws_FnLaid.j1 kj6 t335 t340 (wrap64 ((wrap64 ((wrap64 (t340 + 2)) + (wrap64 (t345 * 7)))) + (wrap64 (t346 * 9)))) false t331 t332 t333 t334 bt347.1 bt347.2.1 bt347.2.2.1)))) else (laws_FnLaid.j1 kj6 t335 t340 (wrap64 ((wrap64 ((wrap64 (t340 + 2)) + (wrap64 (t345 * 7)))) + (wrap64 (t346 * 9)))) true t331 t332 t333 t334 bt347.1 bt347.2.1 bt347.2.2.1)) else (laws_FnLaid.j1 kj6 t335 t340 (wrap64 ((wrap64 ((wrap64 (t340 + 2)) + (wrap64 (t345 * 7)))) + (wrap64 (t346 * 9)))) true t331 t332 t333 t334 bt347.1 bt347.2.1 bt347.2.2.1))))))) = some r := by rw [if_neg (show ¬ (false = true) by decide)] at H; exact H
          clear H
          have H := H1
          clear H1
          replace H := Option.bind_eq_some_iff.mp H
          obtain ⟨t344, A240, H⟩ := H
          replace H : ((laws_at.f l0 2).bind fun t345 => ((laws_at.f l0 3).bind fun t346 => ((impl_Counted.f kj6 t331 t332 t333 t334 t340 (wrap64 ((wrap64 ((wrap64 (t340 + 2)) + (wrap64 (t345 * 7)))) + (wrap64 (t346 * 9)))) t335).bind fun bt347 => ((impl_Laid.f kj6 t331 t332 t333 t334 (([(⟨t340, wrap64 ((wrap64 (t340 + 1)) + (wrap64 (t344 * 7)))⟩ : S42), (⟨wrap64 ((wrap64 (t340 + 1)) + (wrap64 (t344 * 7))), wrap64 ((wrap64 ((wrap64 (t340 + 2)) + (wrap64 (t345 * 7)))) + (wrap64 (t346 * 9)))⟩ : S42)] : List (S42))) t335).bind fun bt355 => (if bt347.2.2.2 = true then (if bt355.2.2.2 = true then (if (!(bt347.1 == bt355.1) || (!(bt347.2.1 == bt355.2.1) || (!(bt347.2.2.1 == bt355.2.2.1)))) = true then (laws_FnLaid.j1 kj6 t335 t340 (wrap64 ((wrap64 ((wrap64 (t340 + 2)) + (wrap64 (t345 * 7)))) + (wrap64 (t346 * 9)))) true t331 t332 t333 t334 bt347.1 bt347.2.1 bt347.2.2.1) else (if bt347.1 > t332 then (laws_FnLaid.j1 kj6 t335 t340 (wrap64 ((wrap64 ((wrap64 (t340 + 2)) + (wrap64 (t345 * 7)))) + (wrap64 (t346 * 9)))) true t331 t332 t333 t334 bt347.1 bt347.2.1 bt347.2.2.1) else (if bt347.2.1 > 0 then (laws_FnLaid.j1 kj6 t335 t340 (wrap64 ((wrap64 ((wrap64 (t340 + 2)) + (wrap64 (t345 * 7)))) + (wrap64 (t346 * 9)))) (bt347.1 != t332) t331 t332 t333 t334 bt347.1 bt347.2.1 bt347.2.2.1) else (laws_FnLaid.j1 kj6 t335 t340 (wrap64 ((wrap64 ((wrap64 (t340 + 2)) + (wrap64 (t345 * 7)))) + (wrap64 (t346 * 9)))) false t331 t332 t333 t334 bt347.1 bt347.2.1 bt347.2.2.1)))) else (laws_FnLaid.j1 kj6 t335 t340 (wrap64 ((wrap64 ((wrap64 (t340 + 2)) + (wrap64 (t345 * 7)))) + (wrap64 (t346 * 9)))) true t331 t332 t333 t334 bt347.1 bt347.2.1 bt347.2.2.1)) else (laws_FnLaid.j1 kj6 t335 t340 (wrap64 ((wrap64 ((wrap64 (t340 + 2)) + (wrap64 (t345 * 7)))) + (wrap64 (t346 * 9)))) true t331 t332 t333 t334 bt347.1 bt347.2.1 bt347.2.2.1)))))) = some r := H
          have A24 := Aside0.mk A240
          clear A240
          replace H := Option.bind_eq_some_iff.mp H
          obtain ⟨t345, A250, H⟩ := H
          replace H : ((laws_at.f l0 3).bind fun t346 => ((impl_Counted.f kj6 t331 t332 t333 t334 t340 (wrap64 ((wrap64 ((wrap64 (t340 + 2)) + (wrap64 (t345 * 7)))) + (wrap64 (t346 * 9)))) t335).bind fun bt347 => ((impl_Laid.f kj6 t331 t332 t333 t334 (([(⟨t340, wrap64 ((wrap64 (t340 + 1)) + (wrap64 (t344 * 7)))⟩ : S42), (⟨wrap64 ((wrap64 (t340 + 1)) + (wrap64 (t344 * 7))), wrap64 ((wrap64 ((wrap64 (t340 + 2)) + (wrap64 (t345 * 7)))) + (wrap64 (t346 * 9)))⟩ : S42)] : List (S42))) t335).bind fun bt355 => (if bt347.2.2.2 = true then (if bt355.2.2.2 = true then (if (!(bt347.1 == bt355.1) || (!(bt347.2.1 == bt355.2.1) || (!(bt347.2.2.1 == bt355.2.2.1)))) = true then (laws_FnLaid.j1 kj6 t335 t340 (wrap64 ((wrap64 ((wrap64 (t340 + 2)) + (wrap64 (t345 * 7)))) + (wrap64 (t346 * 9)))) true t331 t332 t333 t334 bt347.1 bt347.2.1 bt347.2.2.1) else (if bt347.1 > t332 then (laws_FnLaid.j1 kj6 t335 t340 (wrap64 ((wrap64 ((wrap64 (t340 + 2)) + (wrap64 (t345 * 7)))) + (wrap64 (t346 * 9)))) true t331 t332 t333 t334 bt347.1 bt347.2.1 bt347.2.2.1) else (if bt347.2.1 > 0 then (laws_FnLaid.j1 kj6 t335 t340 (wrap64 ((wrap64 ((wrap64 (t340 + 2)) + (wrap64 (t345 * 7)))) + (wrap64 (t346 * 9)))) (bt347.1 != t332) t331 t332 t333 t334 bt347.1 bt347.2.1 bt347.2.2.1) else (laws_FnLaid.j1 kj6 t335 t340 (wrap64 ((wrap64 ((wrap64 (t340 + 2)) + (wrap64 (t345 * 7)))) + (wrap64 (t346 * 9)))) false t331 t332 t333 t334 bt347.1 bt347.2.1 bt347.2.2.1)))) else (laws_FnLaid.j1 kj6 t335 t340 (wrap64 ((wrap64 ((wrap64 (t340 + 2)) + (wrap64 (t345 * 7)))) + (wrap64 (t346 * 9)))) true t331 t332 t333 t334 bt347.1 bt347.2.1 bt347.2.2.1)) else (laws_FnLaid.j1 kj6 t335 t340 (wrap64 ((wrap64 ((wrap64 (t340 + 2)) + (wrap64 (t345 * 7)))) + (wrap64 (t346 * 9)))) true t331 t332 t333 t334 bt347.1 bt347.2.1 bt347.2.2.1))))) = some r := H
          have A25 := Aside0.mk A250
          clear A250
          replace H := Option.bind_eq_some_iff.mp H
          obtain ⟨t346, A260, H⟩ := H
          replace H : ((impl_Counted.f kj6 t331 t332 t333 t334 t340 (wrap64 ((wrap64 ((wrap64 (t340 + 2)) + (wrap64 (t345 * 7)))) + (wrap64 (t346 * 9)))) t335).bind fun bt347 => ((impl_Laid.f kj6 t331 t332 t333 t334 (([(⟨t340, wrap64 ((wrap64 (t340 + 1)) + (wrap64 (t344 * 7)))⟩ : S42), (⟨wrap64 ((wrap64 (t340 + 1)) + (wrap64 (t344 * 7))), wrap64 ((wrap64 ((wrap64 (t340 + 2)) + (wrap64 (t345 * 7)))) + (wrap64 (t346 * 9)))⟩ : S42)] : List (S42))) t335).bind fun bt355 => (if bt347.2.2.2 = true then (if bt355.2.2.2 = true then (if (!(bt347.1 == bt355.1) || (!(bt347.2.1 == bt355.2.1) || (!(bt347.2.2.1 == bt355.2.2.1)))) = true then (laws_FnLaid.j1 kj6 t335 t340 (wrap64 ((wrap64 ((wrap64 (t340 + 2)) + (wrap64 (t345 * 7)))) + (wrap64 (t346 * 9)))) true t331 t332 t333 t334 bt347.1 bt347.2.1 bt347.2.2.1) else (if bt347.1 > t332 then (laws_FnLaid.j1 kj6 t335 t340 (wrap64 ((wrap64 ((wrap64 (t340 + 2)) + (wrap64 (t345 * 7)))) + (wrap64 (t346 * 9)))) true t331 t332 t333 t334 bt347.1 bt347.2.1 bt347.2.2.1) else (if bt347.2.1 > 0 then (laws_FnLaid.j1 kj6 t335 t340 (wrap64 ((wrap64 ((wrap64 (t340 + 2)) + (wrap64 (t345 * 7)))) + (wrap64 (t346 * 9)))) (bt347.1 != t332) t331 t332 t333 t334 bt347.1 bt347.2.1 bt347.2.2.1) else (laws_FnLaid.j1 kj6 t335 t340 (wrap64 ((wrap64 ((wrap64 (t340 + 2)) + (wrap64 (t345 * 7)))) + (wrap64 (t346 * 9)))) false t331 t332 t333 t334 bt347.1 bt347.2.1 bt347.2.2.1)))) else (laws_FnLaid.j1 kj6 t335 t340 (wrap64 ((wrap64 ((wrap64 (t340 + 2)) + (wrap64 (t345 * 7)))) + (wrap64 (t346 * 9)))) true t331 t332 t333 t334 bt347.1 bt347.2.1 bt347.2.2.1)) else (laws_FnLaid.j1 kj6 t335 t340 (wrap64 ((wrap64 ((wrap64 (t340 + 2)) + (wrap64 (t345 * 7)))) + (wrap64 (t346 * 9)))) true t331 t332 t333 t334 bt347.1 bt347.2.1 bt347.2.2.1)))) = some r := H
          have A26 := Aside0.mk A260
          clear A260
          replace H := Option.bind_eq_some_iff.mp H
          obtain ⟨⟨t347, t348, t349, t350⟩, A270, H⟩ := H
          replace H : ((impl_Laid.f kj6 t331 t332 t333 t334 (([(⟨t340, wrap64 ((wrap64 (t340 + 1)) + (wrap64 (t344 * 7)))⟩ : S42), (⟨wrap64 ((wrap64 (t340 + 1)) + (wrap64 (t344 * 7))), wrap64 ((wrap64 ((wrap64 (t340 + 2)) + (wrap64 (t345 * 7)))) + (wrap64 (t346 * 9)))⟩ : S42)] : List (S42))) t335).bind fun bt355 => (if t350 = true then (if bt355.2.2.2 = true then (if (!(t347 == bt355.1) || (!(t348 == bt355.2.1) || (!(t349 == bt355.2.2.1)))) = true then (laws_FnLaid.j1 kj6 t335 t340 (wrap64 ((wrap64 ((wrap64 (t340 + 2)) + (wrap64 (t345 * 7)))) + (wrap64 (t346 * 9)))) true t331 t332 t333 t334 t347 t348 t349) else (if t347 > t332 then (laws_FnLaid.j1 kj6 t335 t340 (wrap64 ((wrap64 ((wrap64 (t340 + 2)) + (wrap64 (t345 * 7)))) + (wrap64 (t346 * 9)))) true t331 t332 t333 t334 t347 t348 t349) else (if t348 > 0 then (laws_FnLaid.j1 kj6 t335 t340 (wrap64 ((wrap64 ((wrap64 (t340 + 2)) + (wrap64 (t345 * 7)))) + (wrap64 (t346 * 9)))) (t347 != t332) t331 t332 t333 t334 t347 t348 t349) else (laws_FnLaid.j1 kj6 t335 t340 (wrap64 ((wrap64 ((wrap64 (t340 + 2)) + (wrap64 (t345 * 7)))) + (wrap64 (t346 * 9)))) false t331 t332 t333 t334 t347 t348 t349)))) else (laws_FnLaid.j1 kj6 t335 t340 (wrap64 ((wrap64 ((wrap64 (t340 + 2)) + (wrap64 (t345 * 7)))) + (wrap64 (t346 * 9)))) true t331 t332 t333 t334 t347 t348 t349)) else (laws_FnLaid.j1 kj6 t335 t340 (wrap64 ((wrap64 ((wrap64 (t340 + 2)) + (wrap64 (t345 * 7)))) + (wrap64 (t346 * 9)))) true t331 t332 t333 t334 t347 t348 t349))) = some r := H
          have A27 := Aside0.mk A270
          clear A270
          obtain ⟨y352, hy352⟩ : ∃ y_ : List (S42), y_ = (([(⟨t340, wrap64 ((wrap64 (t340 + 1)) + (wrap64 (t344 * 7)))⟩ : S42), (⟨wrap64 ((wrap64 (t340 + 1)) + (wrap64 (t344 * 7))), wrap64 ((wrap64 ((wrap64 (t340 + 2)) + (wrap64 (t345 * 7)))) + (wrap64 (t346 * 9)))⟩ : S42)] : List (S42))) := ⟨_, rfl⟩
          replace H : ((impl_Laid.f kj6 t331 t332 t333 t334 y352 t335).bind fun bt355 => (if t350 = true then (if bt355.2.2.2 = true then (if (!(t347 == bt355.1) || (!(t348 == bt355.2.1) || (!(t349 == bt355.2.2.1)))) = true then (laws_FnLaid.j1 kj6 t335 t340 (wrap64 ((wrap64 ((wrap64 (t340 + 2)) + (wrap64 (t345 * 7)))) + (wrap64 (t346 * 9)))) true t331 t332 t333 t334 t347 t348 t349) else (if t347 > t332 then (laws_FnLaid.j1 kj6 t335 t340 (wrap64 ((wrap64 ((wrap64 (t340 + 2)) + (wrap64 (t345 * 7)))) + (wrap64 (t346 * 9)))) true t331 t332 t333 t334 t347 t348 t349) else (if t348 > 0 then (laws_FnLaid.j1 kj6 t335 t340 (wrap64 ((wrap64 ((wrap64 (t340 + 2)) + (wrap64 (t345 * 7)))) + (wrap64 (t346 * 9)))) (t347 != t332) t331 t332 t333 t334 t347 t348 t349) else (laws_FnLaid.j1 kj6 t335 t340 (wrap64 ((wrap64 ((wrap64 (t340 + 2)) + (wrap64 (t345 * 7)))) + (wrap64 (t346 * 9)))) false t331 t332 t333 t334 t347 t348 t349)))) else (laws_FnLaid.j1 kj6 t335 t340 (wrap64 ((wrap64 ((wrap64 (t340 + 2)) + (wrap64 (t345 * 7)))) + (wrap64 (t346 * 9)))) true t331 t332 t333 t334 t347 t348 t349)) else (laws_FnLaid.j1 kj6 t335 t340 (wrap64 ((wrap64 ((wrap64 (t340 + 2)) + (wrap64 (t345 * 7)))) + (wrap64 (t346 * 9)))) true t331 t332 t333 t334 t347 t348 t349))) = some r := by first | (rw [hy352]; with_reducible exact H) | (have H2_ := (Option.bind_some _ _).symm.trans H; rw [hy352]; with_reducible exact H2_) | (have H2_ := (Option.bind_some _ _).symm.trans H; with_reducible exact H2_) | with_reducible exact H | (rw [hy352]; exact H) | exact H
          have Ny352 := Aside0.mk hy352
          clear hy352
          replace H := Option.bind_eq_some_iff.mp H
          obtain ⟨⟨t355, t356, t357, t358⟩, A280, H⟩ := H
          replace H : (if t350 = true then (if t358 = true then (if (!(t347 == t355) || (!(t348 == t356) || (!(t349 == t357)))) = true then (laws_FnLaid.j1 kj6 t335 t340 (wrap64 ((wrap64 ((wrap64 (t340 + 2)) + (wrap64 (t345 * 7)))) + (wrap64 (t346 * 9)))) true t331 t332 t333 t334 t347 t348 t349) else (if t347 > t332 then (laws_FnLaid.j1 kj6 t335 t340 (wrap64 ((wrap64 ((wrap64 (t340 + 2)) + (wrap64 (t345 * 7)))) + (wrap64 (t346 * 9)))) true t331 t332 t333 t334 t347 t348 t349) else (if t348 > 0 then (laws_FnLaid.j1 kj6 t335 t340 (wrap64 ((wrap64 ((wrap64 (t340 + 2)) + (wrap64 (t345 * 7)))) + (wrap64 (t346 * 9)))) (t347 != t332) t331 t332 t333 t334 t347 t348 t349) else (laws_FnLaid.j1 kj6 t335 t340 (wrap64 ((wrap64 ((wrap64 (t340 + 2)) + (wrap64 (t345 * 7)))) + (wrap64 (t346 * 9)))) false t331 t332 t333 t334 t347 t348 t349)))) else (laws_FnLaid.j1 kj6 t335 t340 (wrap64 ((wrap64 ((wrap64 (t340 + 2)) + (wrap64 (t345 * 7)))) + (wrap64 (t346 * 9)))) true t331 t332 t333 t334 t347 t348 t349)) else (laws_FnLaid.j1 kj6 t335 t340 (wrap64 ((wrap64 ((wrap64 (t340 + 2)) + (wrap64 (t345 * 7)))) + (wrap64 (t346 * 9)))) true t331 t332 t333 t334 t347 t348 t349)) = some r := H
          have A28 := Aside0.mk A280
          clear A280
          have HC29 := Aside0.mk H
          clear H
          go_upto_region 10 with (first | ((with_reducible refine gate_callee (f := 8) rfl ?_); refine goesL_ (some 52) rfl rfl Try.func8 (by kernel_rfl) rfl #[.slice A0 l0.length c0, .int .i64 2] rfl (by (try simp only [List.map_toArray, List.map_cons, List.map_nil]); first | done | rfl | (simp only [List.length_drop, List.length_take]; rfl)) ?_; (with_reducible refine (laws_at.calls _ _ l0 2 t344 _ ?side1 ?side2 A24.out).mono ?_); (case side1 => repeat (first | exact (Kd.C_below HR0.out HB.out) | (with_reducible refine Kd.C_alloc ?_ _) | (with_reducible refine Kd.C_drewN ?_ _) | (with_reducible refine Kd.C_drew ?_))); (case side2 => exact HC0.out); rintro e w' ⟨rfl, ⟨nd, rfl⟩⟩; refine ⟨_, rfl, ?_⟩; (try ((first | generalize hq_ : World.drewN wc _ = wc | (rw [drewN_self wc]; generalize hq_ : World.drewN wc _ = wc)); have n0_ : Aside0 (Kd.R k42 42 wc w.heap.size (fun _ => True) (.slice Ao13 t335.length co13) t335) := ⟨by rw [← hq_]; exact (by (with_reducible repeat (first | apply Kd.R_alloc | apply Kd.R_drewN | apply Kd.R_drew)); exact HO_4.out)⟩; have n1_ : Aside0 (wc.heap[gb338]? = some (.cells #[.int .i64 t331, .int .i64 t332, .int .i64 t333, .int .i64 t334] 29 (0, 0))) := ⟨by rw [← hq_]; exact (by (with_reducible repeat (first | refine blk_drewN ?_ _ | refine blk_drew ?_ | refine blk_alloc ?_ _)); exact BK338.out)⟩; have n2_ : Aside0 (Below w.heap.size w wc) := ⟨by rw [← hq_]; exact (by repeat (first | (with_reducible first | exact HB.out | apply below_alloc | apply pw_below_drewN | apply below_drew1 | refine below_set ?_ GE338.out) | exact HB.out))⟩; clear HO_4 BK338 HB hq_; have HO_4 := n0_; have BK338 := n1_; have HB := n2_; clear n0_ n1_ n2_))) | ((with_reducible refine gate_callee (f := 8) rfl ?_); refine goesL_ (some 58) rfl rfl Try.func8 (by kernel_rfl) rfl #[.slice A0 l0.length c0, .int .i64 2] rfl (by (try simp only [List.map_toArray, List.map_cons, List.map_nil]); first | done | rfl | (simp only [List.length_drop, List.length_take]; rfl)) ?_; (with_reducible refine (laws_at.calls _ _ l0 2 t345 _ ?side1 ?side2 A25.out).mono ?_); (case side1 => repeat (first | exact (Kd.C_below HR0.out HB.out) | (with_reducible refine Kd.C_alloc ?_ _) | (with_reducible refine Kd.C_drewN ?_ _) | (with_reducible refine Kd.C_drew ?_))); (case side2 => exact HC0.out); rintro e w' ⟨rfl, ⟨nd, rfl⟩⟩; refine ⟨_, rfl, ?_⟩; (try ((first | generalize hq_ : World.drewN wc _ = wc | (rw [drewN_self wc]; generalize hq_ : World.drewN wc _ = wc)); have n0_ : Aside0 (Kd.R k42 42 wc w.heap.size (fun _ => True) (.slice Ao13 t335.length co13) t335) := ⟨by rw [← hq_]; exact (by (with_reducible repeat (first | apply Kd.R_alloc | apply Kd.R_drewN | apply Kd.R_drew)); exact HO_4.out)⟩; have n1_ : Aside0 (wc.heap[gb338]? = some (.cells #[.int .i64 t331, .int .i64 t332, .int .i64 t333, .int .i64 t334] 29 (0, 0))) := ⟨by rw [← hq_]; exact (by (with_reducible repeat (first | refine blk_drewN ?_ _ | refine blk_drew ?_ | refine blk_alloc ?_ _)); exact BK338.out)⟩; have n2_ : Aside0 (Below w.heap.size w wc) := ⟨by rw [← hq_]; exact (by repeat (first | (with_reducible first | exact HB.out | apply below_alloc | apply pw_below_drewN | apply below_drew1 | refine below_set ?_ GE338.out) | exact HB.out))⟩; clear HO_4 BK338 HB hq_; have HO_4 := n0_; have BK338 := n1_; have HB := n2_; clear n0_ n1_ n2_))) | ((with_reducible refine gate_callee (f := 8) rfl ?_); refine goesL_ (some 62) rfl rfl Try.func8 (by kernel_rfl) rfl #[.slice A0 l0.length c0, .int .i64 3] rfl (by (try simp only [List.map_toArray, List.map_cons, List.map_nil]); first | done | rfl | (simp only [List.length_drop, List.length_take]; rfl)) ?_; (with_reducible refine (laws_at.calls _ _ l0 3 t346 _ ?side1 ?side2 A26.out).mono ?_); (case side1 => repeat (first | exact (Kd.C_below HR0.out HB.out) | (with_reducible refine Kd.C_alloc ?_ _) | (with_reducible refine Kd.C_drewN ?_ _) | (with_reducible refine Kd.C_drew ?_))); (case side2 => exact HC0.out); rintro e w' ⟨rfl, ⟨nd, rfl⟩⟩; refine ⟨_, rfl, ?_⟩; (try ((first | generalize hq_ : World.drewN wc _ = wc | (rw [drewN_self wc]; generalize hq_ : World.drewN wc _ = wc)); have n0_ : Aside0 (Kd.R k42 42 wc w.heap.size (fun _ => True) (.slice Ao13 t335.length co13) t335) := ⟨by rw [← hq_]; exact (by (with_reducible repeat (first | apply Kd.R_alloc | apply Kd.R_drewN | apply Kd.R_drew)); exact HO_4.out)⟩; have n1_ : Aside0 (wc.heap[gb338]? = some (.cells #[.int .i64 t331, .int .i64 t332, .int .i64 t333, .int .i64 t334] 29 (0, 0))) := ⟨by rw [← hq_]; exact (by (with_reducible repeat (first | refine blk_drewN ?_ _ | refine blk_drew ?_ | refine blk_alloc ?_ _)); exact BK338.out)⟩; have n2_ : Aside0 (Below w.heap.size w wc) := ⟨by rw [← hq_]; exact (by repeat (first | (with_reducible first | exact HB.out | apply below_alloc | apply pw_below_drewN | apply below_drew1 | refine below_set ?_ GE338.out) | exact HB.out))⟩; clear HO_4 BK338 HB hq_; have HO_4 := n0_; have BK338 := n1_; have HB := n2_; clear n0_ n1_ n2_)); have hcz30_0 : wc.cell? ⟨gb338, 0, none⟩ = some (.int .i64 t331) := (blk_cell BK338.out 0).trans rfl; have hcz30_1 : wc.cell? ⟨gb338, 1, none⟩ = some (.int .i64 t332) := (blk_cell BK338.out 1).trans rfl; have hcz30_2 : wc.cell? ⟨gb338, 2, none⟩ = some (.int .i64 t333) := (blk_cell BK338.out 2).trans rfl; have hcz30_3 : wc.cell? ⟨gb338, 3, none⟩ = some (.int .i64 t334) := (blk_cell BK338.out 3).trans rfl; have hfz30_0 := blk_frozen BK338.out 0; have hfz30_1 := blk_frozen BK338.out 1; have hfz30_2 := blk_frozen BK338.out 2; have hfz30_3 := blk_frozen BK338.out 3) | ((with_reducible refine gate_callee (f := 13) rfl ?_); refine goesL_ (some 70) rfl rfl Try.func13 (by kernel_rfl) rfl #[.agg #[.int .i64 t331, .int .i64 t332, .int .i64 t333, .int .i64 t334], .int .i64 t340, .int .i64 (wrap64 ((wrap64 ((wrap64 (t340 + 2)) + (wrap64 (t345 * 7)))) + (wrap64 (t346 * 9)))), .slice Ao13 t335.length co13] rfl (by (try simp only [List.map_toArray, List.map_cons, List.map_nil]); first | done | rfl | (simp only [List.length_drop, List.length_take]; rfl)) ?_; (with_reducible refine (impl_Counted.calls kj6 t331 t332 t333 t334 t340 (wrap64 ((wrap64 ((wrap64 (t340 + 2)) + (wrap64 (t345 * 7)))) + (wrap64 (t346 * 9)))) _ _ t335 t347 t348 t349 t350 _ ?side1 ?side2 A27.out).mono ?_); (case side1 => repeat (first | exact (Kd.R_reads' HO_4.out).2.2 | (with_reducible refine Kd.C_alloc ?_ _) | (with_reducible refine Kd.C_drewN ?_ _) | (with_reducible refine Kd.C_drew ?_))); (case side2 => exact (Kd.R_reads' HO_4.out).2.1); rintro e w31 ⟨rfl, hb⟩; refine ⟨_, rfl, ?_⟩; have n0_ := Aside0.mk (Kd.R_below (by (with_reducible repeat (first | apply Kd.R_alloc | apply Kd.R_drewN | apply Kd.R_drew)); exact HO_4.out) hb); have n1_ := Aside0.mk (blk_below (g := gb338) (o := .cells #[.int .i64 t331, .int .i64 t332, .int .i64 t333, .int .i64 t334] 29 (0, 0)) (by (with_reducible repeat (first | refine blk_drewN ?_ _ | refine blk_drew ?_ | refine blk_alloc ?_ _)); exact BK338.out) hb); have n2_ := Aside0.mk (below_step (by repeat (first | (with_reducible first | exact HB.out | apply below_alloc | apply pw_below_drewN | apply below_drew1 | refine below_set ?_ GE338.out) | exact HB.out)) hb); clear HO_4; clear BK338; clear HB; have HO_4 := n0_; have BK338 := n1_; have HB := n2_; clear n0_ n1_ n2_; (try clear hb); (try clear hb2); (try clear hk); (try clear hi)) | ((with_reducible refine gate_dst (N := 9) rfl ?_); refine box_event ?hg (N := 9) ?hd (cs := #[.int .i64 0, .int .i64 0, .int .i64 0]) (t := 37) ?hr ?_; (case hd => rfl); (case hg => rfl); (case hr => first | (go_simp; done) | (go_simp; rfl)); intro gb351 hg w32 hbox hb; have n0_ := Aside0.mk (Kd.R_below (by (with_reducible repeat (first | apply Kd.R_alloc | apply Kd.R_drewN | apply Kd.R_drew)); exact HO_4.out) hb); have n1_ := Aside0.mk (blk_below (g := gb338) (o := .cells #[.int .i64 t331, .int .i64 t332, .int .i64 t333, .int .i64 t334] 29 (0, 0)) (by (with_reducible repeat (first | refine blk_drewN ?_ _ | refine blk_drew ?_ | refine blk_alloc ?_ _)); exact BK338.out) hb); have n2_ := Aside0.mk (below_step (by repeat (first | (with_reducible first | exact HB.out | apply below_alloc | apply pw_below_drewN | apply below_drew1 | refine below_set ?_ GE338.out) | exact HB.out)) hb); have n3_ := Aside0.mk (hbox); have n4_ := Aside0.mk ((by rw [hg]; exact (below_size (by repeat (first | (with_reducible first | exact HB.out | apply below_alloc | apply pw_below_drewN | apply below_drew1 | refine below_set ?_ GE338.out) | exact HB.out))) : w.heap.size ≤ gb351)); have n5_ := Aside0.mk ((by rw [hg]; exact (below_size (by repeat (first | (with_reducible first | exact HB.out | apply below_alloc | apply pw_below_drewN | apply below_drew1 | refine below_set ?_ GE338.out) | exact HB.out))) : w.heap.size ≤ gb351)); have n6_ := Aside0.mk ((by rw [hg]; exact Nat.ne_of_lt (blk_lt (g := gb338) (o := .cells #[.int .i64 t331, .int .i64 t332, .int .i64 t333, .int .i64 t334] 29 (0, 0)) (by (with_reducible repeat (first | refine blk_drewN ?_ _ | refine blk_drew ?_ | refine blk_alloc ?_ _)); exact BK338.out)) : gb338 ≠ gb351)); have n7_ := Aside0.mk ((by rw [hg]; exact Nat.ne_of_gt (blk_lt (g := gb338) (o := .cells #[.int .i64 t331, .int .i64 t332, .int .i64 t333, .int .i64 t334] 29 (0, 0)) (by (with_reducible repeat (first | refine blk_drewN ?_ _ | refine blk_drew ?_ | refine blk_alloc ?_ _)); exact BK338.out)) : gb351 ≠ gb338)); clear HO_4; clear BK338; clear HB; have HO_4 := n0_; have BK338 := n1_; have HB := n2_; have BK351 := n3_; have GW351 := n4_; have GE351 := n5_; have NB338_351 := n6_; have NB351_338 := n7_; clear n0_ n1_ n2_ n3_ n4_ n5_ n6_ n7_; clear hb hbox hg; have hnb33 := NB351_338.out; have hnc33 := NB338_351.out; have hcz34_0 : w32.cell? ⟨gb351, 0, none⟩ = some (.int .i64 0) := (blk_cell BK351.out 0).trans rfl; have hcz34_1 : w32.cell? ⟨gb351, 1, none⟩ = some (.int .i64 0) := (blk_cell BK351.out 1).trans rfl; have hcz34_2 : w32.cell? ⟨gb351, 2, none⟩ = some (.int .i64 0) := (blk_cell BK351.out 2).trans rfl; have hfz34_0 := blk_frozen BK351.out 0; have hfz34_1 := blk_frozen BK351.out 1; have hfz34_2 := blk_frozen BK351.out 2; have hcz35_0 : w32.cell? ⟨gb338, 0, none⟩ = some (.int .i64 t331) := (blk_cell BK338.out 0).trans rfl; have hcz35_1 : w32.cell? ⟨gb338, 1, none⟩ = some (.int .i64 t332) := (blk_cell BK338.out 1).trans rfl; have hcz35_2 : w32.cell? ⟨gb338, 2, none⟩ = some (.int .i64 t333) := (blk_cell BK338.out 2).trans rfl; have hcz35_3 : w32.cell? ⟨gb338, 3, none⟩ = some (.int .i64 t334) := (blk_cell BK338.out 3).trans rfl; have hfz35_0 := blk_frozen BK338.out 0; have hfz35_1 := blk_frozen BK338.out 1; have hfz35_2 := blk_frozen BK338.out 2; have hfz35_3 := blk_frozen BK338.out 3) | ((with_reducible refine gate_dst (N := 81) rfl ?_); refine Kd.R_lit k42 _ 42 ?hg (N := 81) ?hd (xs := ([(⟨t340, wrap64 ((wrap64 (t340 + 1)) + (wrap64 (t344 * 7)))⟩ : S42), (⟨wrap64 ((wrap64 (t340 + 1)) + (wrap64 (t344 * 7))), wrap64 ((wrap64 ((wrap64 (t340 + 2)) + (wrap64 (t345 * 7)))) + (wrap64 (t346 * 9)))⟩ : S42)] : List (S42))) (inner := [.int .i64 t340, .int .i64 (wrap64 ((wrap64 (t340 + 1)) + (wrap64 (t344 * 7)))), .int .i64 (wrap64 ((wrap64 (t340 + 1)) + (wrap64 (t344 * 7)))), .int .i64 (wrap64 ((wrap64 ((wrap64 (t340 + 2)) + (wrap64 (t345 * 7)))) + (wrap64 (t346 * 9))))]) (ok := fun _ => True) (okp := fun _ => True) ?hr ?hp (fun _ hk => hk) trivial (Below.refl _ _) (Nat.le_refl _) (by simp) ?_; (case hd => rfl); (case hg => rfl); (case hr => first | (go_simp; done) | (go_simp; rfl)); (case hp => exact (Reps.c2 (show Kd.M k42 _ _ _ (⟨t340, wrap64 ((wrap64 (t340 + 1)) + (wrap64 (t344 * 7)))⟩ : S42) [.int .i64 t340, .int .i64 (wrap64 ((wrap64 (t340 + 1)) + (wrap64 (t344 * 7))))] from (k42_mkM _ _ _ (⟨t340, wrap64 ((wrap64 (t340 + 1)) + (wrap64 (t344 * 7)))⟩ : S42) )) (Reps.c2 (show Kd.M k42 _ _ _ (⟨wrap64 ((wrap64 (t340 + 1)) + (wrap64 (t344 * 7))), wrap64 ((wrap64 ((wrap64 (t340 + 2)) + (wrap64 (t345 * 7)))) + (wrap64 (t346 * 9)))⟩ : S42) [.int .i64 (wrap64 ((wrap64 (t340 + 1)) + (wrap64 (t344 * 7)))), .int .i64 (wrap64 ((wrap64 ((wrap64 (t340 + 2)) + (wrap64 (t345 * 7)))) + (wrap64 (t346 * 9))))] from (k42_mkM _ _ _ (⟨wrap64 ((wrap64 (t340 + 1)) + (wrap64 (t344 * 7))), wrap64 ((wrap64 ((wrap64 (t340 + 2)) + (wrap64 (t345 * 7)))) + (wrap64 (t346 * 9)))⟩ : S42) )) (Reps.none _ _)))); intro v353 w36 ho37 hb hg_ hnew_; clear hg_ hnew_; (first | rw [← Ny352.out] at ho37 | (simp only [Int.reduceToNat] at ho37; rw [← Ny352.out] at ho37)); have n0_ := Aside0.mk (Kd.R_elder' (by (with_reducible repeat (first | apply Kd.R_alloc | apply Kd.R_drewN | apply Kd.R_drew)); exact (Kd.R_mono (Kd.R_far (p := ⟨gb351, 2, none⟩) (Kd.R_far (p := ⟨gb351, 1, none⟩) (Kd.R_far (p := ⟨gb351, 0, none⟩) (Kd.R_types HO_4.out BK351.out (by decide)) (fun _ hk => hk.2) (.int .i64 t347)) (fun _ hk => hk.2) (.int .i64 t348)) (fun _ hk => hk.2) (.int .i64 t349)) (fun _ h_ => h_.1))) (Kd.R_base ho37) hb); have n1_ := Aside0.mk (Kd.R_lower (Kd.R_new' ho37 (Kd.R_lt (by (with_reducible repeat (first | apply Kd.R_alloc | apply Kd.R_drewN | apply Kd.R_drew)); exact (Kd.R_mono (Kd.R_far (p := ⟨gb351, 2, none⟩) (Kd.R_far (p := ⟨gb351, 1, none⟩) (Kd.R_far (p := ⟨gb351, 0, none⟩) (Kd.R_types HO_4.out BK351.out (by decide)) (fun _ hk => hk.2) (.int .i64 t347)) (fun _ hk => hk.2) (.int .i64 t348)) (fun _ hk => hk.2) (.int .i64 t349)) (fun _ h_ => h_.1))))) (below_size (by repeat (first | (with_reducible first | exact HB.out | apply below_alloc | apply pw_below_drewN | apply below_drew1 | refine below_set ?_ GE338.out | refine below_set ?_ GE351.out) | exact HB.out)))); have n2_ := Aside0.mk (blk_below (g := gb338) (o := .cells #[.int .i64 t331, .int .i64 t332, .int .i64 t333, .int .i64 t334] 29 (0, 0)) (by (with_reducible repeat (first | refine blk_drewN ?_ _ | refine blk_drew ?_ | refine blk_alloc ?_ _)); refine blk_far ?_ NB338_351.out _; (with_reducible repeat (first | refine blk_drewN ?_ _ | refine blk_drew ?_ | refine blk_alloc ?_ _)); refine blk_far ?_ NB338_351.out _; (with_reducible repeat (first | refine blk_drewN ?_ _ | refine blk_drew ?_ | refine blk_alloc ?_ _)); refine blk_far ?_ NB338_351.out _; (with_reducible repeat (first | refine blk_drewN ?_ _ | refine blk_drew ?_ | refine blk_alloc ?_ _)); exact BK338.out) hb); have n3_ := Aside0.mk (blk_below (g := gb351) (o := .cells #[.int .i64 t347, .int .i64 t348, .int .i64 t349] 37 (0, 0)) (by (with_reducible repeat (first | refine blk_drewN ?_ _ | refine blk_drew ?_ | refine blk_alloc ?_ _)); refine blk_put (cs := #[.int .i64 t347, .int .i64 t348, .int .i64 0]) ?_ 2 _ rfl; (with_reducible repeat (first | refine blk_drewN ?_ _ | refine blk_drew ?_ | refine blk_alloc ?_ _)); refine blk_put (cs := #[.int .i64 t347, .int .i64 0, .int .i64 0]) ?_ 1 _ rfl; (with_reducible repeat (first | refine blk_drewN ?_ _ | refine blk_drew ?_ | refine blk_alloc ?_ _)); refine blk_put (cs := #[.int .i64 0, .int .i64 0, .int .i64 0]) ?_ 0 _ rfl; (with_reducible repeat (first | refine blk_drewN ?_ _ | refine blk_drew ?_ | refine blk_alloc ?_ _)); exact BK351.out) hb); have n4_ := Aside0.mk (below_step (by repeat (first | (with_reducible first | exact HB.out | apply below_alloc | apply pw_below_drewN | apply below_drew1 | refine below_set ?_ GE338.out | refine below_set ?_ GE351.out) | exact HB.out)) hb); clear HO_4; clear BK338; clear BK351; clear HB; have HO_4 := n0_; have HO354 := n1_; have BK338 := n2_; have BK351 := n3_; have HB := n4_; clear n0_ n1_ n2_ n3_ n4_; clear hb ho37; obtain ⟨Ao38, co38, eo38⟩ := Kd.R_slice HO354.out; subst eo38) | ((with_reducible refine gate_callee (f := 14) rfl ?_); refine goesL_ (some 83) rfl rfl Try.func14 (by kernel_rfl) rfl #[.agg #[.int .i64 t331, .int .i64 t332, .int .i64 t333, .int .i64 t334], .slice Ao38 y352.length co38, .slice Ao13 t335.length co13] rfl (by (try simp only [List.map_toArray, List.map_cons, List.map_nil]); first | done | rfl | (simp only [List.length_drop, List.length_take]; rfl)) ?_; (with_reducible refine (impl_Laid.calls kj6 t331 t332 t333 t334 _ _ y352 _ _ t335 t355 t356 t357 t358 _ ?side1 ?side2 ?side3 ?side4 A28.out).mono ?_); (case side1 => repeat (first | exact (Kd.R_reads' HO354.out).2.2 | (with_reducible refine Kd.C_alloc ?_ _) | (with_reducible refine Kd.C_drewN ?_ _) | (with_reducible refine Kd.C_drew ?_))); (case side2 => exact (Kd.R_reads' HO354.out).2.1); (case side3 => repeat (first | exact (Kd.R_reads' HO_4.out).2.2 | (with_reducible refine Kd.C_alloc ?_ _) | (with_reducible refine Kd.C_drewN ?_ _) | (with_reducible refine Kd.C_drew ?_))); (case side4 => exact (Kd.R_reads' HO_4.out).2.1); rintro e w39 ⟨rfl, hb⟩; refine ⟨_, rfl, ?_⟩; have n0_ := Aside0.mk (Kd.R_below (by (with_reducible repeat (first | apply Kd.R_alloc | apply Kd.R_drewN | apply Kd.R_drew)); exact HO_4.out) hb); have n1_ := Aside0.mk (Kd.R_below (by (with_reducible repeat (first | apply Kd.R_alloc | apply Kd.R_drewN | apply Kd.R_drew)); exact HO354.out) hb); have n2_ := Aside0.mk (blk_below (g := gb338) (o := .cells #[.int .i64 t331, .int .i64 t332, .int .i64 t333, .int .i64 t334] 29 (0, 0)) (by (with_reducible repeat (first | refine blk_drewN ?_ _ | refine blk_drew ?_ | refine blk_alloc ?_ _)); exact BK338.out) hb); have n3_ := Aside0.mk (blk_below (g := gb351) (o := .cells #[.int .i64 t347, .int .i64 t348, .int .i64 t349] 37 (0, 0)) (by (with_reducible repeat (first | refine blk_drewN ?_ _ | refine blk_drew ?_ | refine blk_alloc ?_ _)); exact BK351.out) hb); have n4_ := Aside0.mk (below_step (by repeat (first | (with_reducible first | exact HB.out | apply below_alloc | apply pw_below_drewN | apply below_drew1 | refine below_set ?_ GE338.out | refine below_set ?_ GE351.out) | exact HB.out)) hb); clear HO_4; clear HO354; clear BK338; clear BK351; clear HB; have HO_4 := n0_; have HO354 := n1_; have BK338 := n2_; have BK351 := n3_; have HB := n4_; clear n0_ n1_ n2_ n3_ n4_; (try clear hb); (try clear hb2); (try clear hk); (try clear hi)) | ((with_reducible refine gate_dst (N := 11) rfl ?_); refine box_event ?hg (N := 11) ?hd (cs := #[.int .i64 0, .int .i64 0, .int .i64 0]) (t := 37) ?hr ?_; (case hd => rfl); (case hg => rfl); (case hr => first | (go_simp; done) | (go_simp; rfl)); intro gb359 hg w40 hbox hb; have n0_ := Aside0.mk (Kd.R_below (by (with_reducible repeat (first | apply Kd.R_alloc | apply Kd.R_drewN | apply Kd.R_drew)); exact HO_4.out) hb); have n1_ := Aside0.mk (Kd.R_below (by (with_reducible repeat (first | apply Kd.R_alloc | apply Kd.R_drewN | apply Kd.R_drew)); exact HO354.out) hb); have n2_ := Aside0.mk (blk_below (g := gb338) (o := .cells #[.int .i64 t331, .int .i64 t332, .int .i64 t333, .int .i64 t334] 29 (0, 0)) (by (with_reducible repeat (first | refine blk_drewN ?_ _ | refine blk_drew ?_ | refine blk_alloc ?_ _)); exact BK338.out) hb); have n3_ := Aside0.mk (blk_below (g := gb351) (o := .cells #[.int .i64 t347, .int .i64 t348, .int .i64 t349] 37 (0, 0)) (by (with_reducible repeat (first | refine blk_drewN ?_ _ | refine blk_drew ?_ | refine blk_alloc ?_ _)); exact BK351.out) hb); have n4_ := Aside0.mk (below_step (by repeat (first | (with_reducible first | exact HB.out | apply below_alloc | apply pw_below_drewN | apply below_drew1 | refine below_set ?_ GE338.out | refine below_set ?_ GE351.out) | exact HB.out)) hb); have n5_ := Aside0.mk (hbox); have n6_ := Aside0.mk ((by rw [hg]; exact (below_size (by repeat (first | (with_reducible first | exact HB.out | apply below_alloc | apply pw_below_drewN | apply below_drew1 | refine below_set ?_ GE338.out | refine below_set ?_ GE351.out) | exact HB.out))) : w.heap.size ≤ gb359)); have n7_ := Aside0.mk ((by rw [hg]; exact (below_size (by repeat (first | (with_reducible first | exact HB.out | apply below_alloc | apply pw_below_drewN | apply below_drew1 | refine below_set ?_ GE338.out | refine below_set ?_ GE351.out) | exact HB.out))) : w.heap.size ≤ gb359)); have n8_ := Aside0.mk ((by rw [hg]; exact Nat.ne_of_lt (blk_lt (g := gb338) (o := .cells #[.int .i64 t331, .int .i64 t332, .int .i64 t333, .int .i64 t334] 29 (0, 0)) (by (with_reducible repeat (first | refine blk_drewN ?_ _ | refine blk_drew ?_ | refine blk_alloc ?_ _)); exact BK338.out)) : gb338 ≠ gb359)); have n9_ := Aside0.mk ((by rw [hg]; exact Nat.ne_of_gt (blk_lt (g := gb338) (o := .cells #[.int .i64 t331, .int .i64 t332, .int .i64 t333, .int .i64 t334] 29 (0, 0)) (by (with_reducible repeat (first | refine blk_drewN ?_ _ | refine blk_drew ?_ | refine blk_alloc ?_ _)); exact BK338.out)) : gb359 ≠ gb338)); have n10_ := Aside0.mk ((by rw [hg]; exact Nat.ne_of_lt (blk_lt (g := gb351) (o := .cells #[.int .i64 t347, .int .i64 t348, .int .i64 t349] 37 (0, 0)) (by (with_reducible repeat (first | refine blk_drewN ?_ _ | refine blk_drew ?_ | refine blk_alloc ?_ _)); exact BK351.out)) : gb351 ≠ gb359)); have n11_ := Aside0.mk ((by rw [hg]; exact Nat.ne_of_gt (blk_lt (g := gb351) (o := .cells #[.int .i64 t347, .int .i64 t348, .int .i64 t349] 37 (0, 0)) (by (with_reducible repeat (first | refine blk_drewN ?_ _ | refine blk_drew ?_ | refine blk_alloc ?_ _)); exact BK351.out)) : gb359 ≠ gb351)); clear HO_4; clear HO354; clear BK338; clear BK351; clear HB; have HO_4 := n0_; have HO354 := n1_; have BK338 := n2_; have BK351 := n3_; have HB := n4_; have BK359 := n5_; have GW359 := n6_; have GE359 := n7_; have NB338_359 := n8_; have NB359_338 := n9_; have NB351_359 := n10_; have NB359_351 := n11_; clear n0_ n1_ n2_ n3_ n4_ n5_ n6_ n7_ n8_ n9_ n10_ n11_; clear hb hbox hg; have hnb41 := NB359_338.out; have hnc41 := NB338_359.out; have hnb42 := NB359_351.out; have hnc42 := NB351_359.out; have hcz43_0 : w40.cell? ⟨gb359, 0, none⟩ = some (.int .i64 0) := (blk_cell BK359.out 0).trans rfl; have hcz43_1 : w40.cell? ⟨gb359, 1, none⟩ = some (.int .i64 0) := (blk_cell BK359.out 1).trans rfl; have hcz43_2 : w40.cell? ⟨gb359, 2, none⟩ = some (.int .i64 0) := (blk_cell BK359.out 2).trans rfl; have hfz43_0 := blk_frozen BK359.out 0; have hfz43_1 := blk_frozen BK359.out 1; have hfz43_2 := blk_frozen BK359.out 2))
          (try simp only [Act.put, List.setIfInBounds_toArray, List.set_cons_zero, List.set_cons_succ])
          go_cut [115] (fun v115 wc => ∃ (kq : Nat) (x115_28 : Bool), v115 = .bool x115_28 ∧ Aside0 (laws_FnLaid.j1 kq t335 t340 (wrap64 ((wrap64 ((wrap64 (t340 + 2)) + (wrap64 (t345 * 7)))) + (wrap64 (t346 * 9)))) x115_28 t331 t332 t333 t334 t347 t348 t349 = some r) ∧ Aside0 (kq ≤ kj6) ∧ Aside0 (Kd.R k42 42 wc w.heap.size (fun _ => True) (.slice Ao13 t335.length co13) t335) ∧ Aside0 (wc.heap[gb338]? = some (.cells #[.int .i64 t331, .int .i64 t332, .int .i64 t333, .int .i64 t334] 29 (0, 0))) ∧ Aside0 (wc.heap[gb351]? = some (.cells #[.int .i64 t347, .int .i64 t348, .int .i64 t349] 37 (0, 0))) ∧ Aside0 (wc.heap[gb359]? = some (.cells #[.int .i64 t355, .int .i64 t356, .int .i64 t357] 37 (0, 0))) ∧ Aside0 (Below w.heap.size w wc))
          case first =>
            have H := HC29.out
            clear HC29
            by_cases c44 : t350 = true
            · subst c44
              have H1 : (if t358 = true then (if (!(t347 == t355) || (!(t348 == t356) || (!(t349 == t357)))) = true then (laws_FnLaid.j1 kj6 t335 t340 (wrap64 ((wrap64 ((wrap64 (t340 + 2)) + (wrap64 (t345 * 7)))) + (wrap64 (t346 * 9)))) true t331 t332 t333 t334 t347 t348 t349) else (if t347 > t332 then (laws_FnLaid.j1 kj6 t335 t340 (wrap64 ((wrap64 ((wrap64 (t340 + 2)) + (wrap64 (t345 * 7)))) + (wrap64 (t346 * 9)))) true t331 t332 t333 t334 t347 t348 t349) else (if t348 > 0 then (laws_FnLaid.j1 kj6 t335 t340 (wrap64 ((wrap64 ((wrap64 (t340 + 2)) + (wrap64 (t345 * 7)))) + (wrap64 (t346 * 9)))) (t347 != t332) t331 t332 t333 t334 t347 t348 t349) else (laws_FnLaid.j1 kj6 t335 t340 (wrap64 ((wrap64 ((wrap64 (t340 + 2)) + (wrap64 (t345 * 7)))) + (wrap64 (t346 * 9)))) false t331 t332 t333 t334 t347 t348 t349)))) else (laws_FnLaid.j1 kj6 t335 t340 (wrap64 ((wrap64 ((wrap64 (t340 + 2)) + (wrap64 (t345 * 7)))) + (wrap64 (t346 * 9)))) true t331 t332 t333 t334 t347 t348 t349)) = some r := by rw [if_pos rfl] at H; exact H
              clear H
              have H := H1
              clear H1
              by_cases c45 : t358 = true
              · subst c45
                have H1 : (if (!(t347 == t355) || (!(t348 == t356) || (!(t349 == t357)))) = true then (laws_FnLaid.j1 kj6 t335 t340 (wrap64 ((wrap64 ((wrap64 (t340 + 2)) + (wrap64 (t345 * 7)))) + (wrap64 (t346 * 9)))) true t331 t332 t333 t334 t347 t348 t349) else (if t347 > t332 then (laws_FnLaid.j1 kj6 t335 t340 (wrap64 ((wrap64 ((wrap64 (t340 + 2)) + (wrap64 (t345 * 7)))) + (wrap64 (t346 * 9)))) true t331 t332 t333 t334 t347 t348 t349) else (if t348 > 0 then (laws_FnLaid.j1 kj6 t335 t340 (wrap64 ((wrap64 ((wrap64 (t340 + 2)) + (wrap64 (t345 * 7)))) + (wrap64 (t346 * 9)))) (t347 != t332) t331 t332 t333 t334 t347 t348 t349) else (laws_FnLaid.j1 kj6 t335 t340 (wrap64 ((wrap64 ((wrap64 (t340 + 2)) + (wrap64 (t345 * 7)))) + (wrap64 (t346 * 9)))) false t331 t332 t333 t334 t347 t348 t349)))) = some r := by rw [if_pos rfl] at H; exact H
                clear H
                have H := H1
                clear H1
                by_cases c46 : (!(t347 == t355) || (!(t348 == t356) || (!(t349 == t357)))) = true
                · rw [if_pos c46] at H
                  have c46b0 : (!(t347 == t355) || (!(t348 == t356) || (!(t349 == t357)))) = true := c46
                  clear c46
                  (first | rw [c46b0] | (simp only [i64_w, i32_w]; rw [c46b0]) | skip)
                  have H' := Aside0.mk H
                  clear H
                  have hnb47 := NB351_338.out
                  have hnc47 := NB338_351.out
                  have hnb48 := NB351_359.out
                  have hnc48 := NB359_351.out
                  have hcz49_0 : w40.cell? ⟨gb351, 0, none⟩ = some (.int .i64 t347) := (blk_cell BK351.out 0).trans rfl
                  have hcz49_1 : w40.cell? ⟨gb351, 1, none⟩ = some (.int .i64 t348) := (blk_cell BK351.out 1).trans rfl
                  have hcz49_2 : w40.cell? ⟨gb351, 2, none⟩ = some (.int .i64 t349) := (blk_cell BK351.out 2).trans rfl
                  have hfz49_0 := blk_frozen BK351.out 0
                  have hfz49_1 := blk_frozen BK351.out 1
                  have hfz49_2 := blk_frozen BK351.out 2
                  have hnb50 := NB359_338.out
                  have hnc50 := NB338_359.out
                  have hcz51_0 : w40.cell? ⟨gb359, 0, none⟩ = some (.int .i64 0) := (blk_cell BK359.out 0).trans rfl
                  have hcz51_1 : w40.cell? ⟨gb359, 1, none⟩ = some (.int .i64 0) := (blk_cell BK359.out 1).trans rfl
                  have hcz51_2 : w40.cell? ⟨gb359, 2, none⟩ = some (.int .i64 0) := (blk_cell BK359.out 2).trans rfl
                  have hfz51_0 := blk_frozen BK359.out 0
                  have hfz51_1 := blk_frozen BK359.out 1
                  have hfz51_2 := blk_frozen BK359.out 2
                  go_wp2
                  go_meet
                  case rel => exact ⟨_, (true), (by first | rfl | (simp; done) | (simp [*]; done) | (simp [wrap64]; done)), H', ⟨by have := HJ6.out; first | omega | exact Nat.le_refl _⟩, ⟨by (with_reducible repeat (first | apply Kd.R_alloc | apply Kd.R_drewN | apply Kd.R_drew)); exact Kd.R_mono (Kd.R_far (p := ⟨gb359, 2, none⟩) (Kd.R_far (p := ⟨gb359, 1, none⟩) (Kd.R_far (p := ⟨gb359, 0, none⟩) (Kd.R_types HO_4.out BK359.out (by decide)) (fun _ hk => hk.2) (.int .i64 t355)) (fun _ hk => hk.2) (.int .i64 t356)) (fun _ hk => hk.2) (.int .i64 t357)) (fun _ hk => trivial)⟩, ⟨by (with_reducible repeat (first | refine blk_drewN ?_ _ | refine blk_drew ?_ | refine blk_alloc ?_ _)); refine blk_far ?_ NB338_359.out _; (with_reducible repeat (first | refine blk_drewN ?_ _ | refine blk_drew ?_ | refine blk_alloc ?_ _)); refine blk_far ?_ NB338_359.out _; (with_reducible repeat (first | refine blk_drewN ?_ _ | refine blk_drew ?_ | refine blk_alloc ?_ _)); refine blk_far ?_ NB338_359.out _; (with_reducible repeat (first | refine blk_drewN ?_ _ | refine blk_drew ?_ | refine blk_alloc ?_ _)); exact BK338.out⟩, ⟨by (with_reducible repeat (first | refine blk_drewN ?_ _ | refine blk_drew ?_ | refine blk_alloc ?_ _)); refine blk_far ?_ NB351_359.out _; (with_reducible repeat (first | refine blk_drewN ?_ _ | refine blk_drew ?_ | refine blk_alloc ?_ _)); refine blk_far ?_ NB351_359.out _; (with_reducible repeat (first | refine blk_drewN ?_ _ | refine blk_drew ?_ | refine blk_alloc ?_ _)); refine blk_far ?_ NB351_359.out _; (with_reducible repeat (first | refine blk_drewN ?_ _ | refine blk_drew ?_ | refine blk_alloc ?_ _)); exact BK351.out⟩, ⟨by (with_reducible repeat (first | refine blk_drewN ?_ _ | refine blk_drew ?_ | refine blk_alloc ?_ _)); refine blk_put (cs := #[.int .i64 t355, .int .i64 t356, .int .i64 0]) ?_ 2 _ rfl; (with_reducible repeat (first | refine blk_drewN ?_ _ | refine blk_drew ?_ | refine blk_alloc ?_ _)); refine blk_put (cs := #[.int .i64 t355, .int .i64 0, .int .i64 0]) ?_ 1 _ rfl; (with_reducible repeat (first | refine blk_drewN ?_ _ | refine blk_drew ?_ | refine blk_alloc ?_ _)); refine blk_put (cs := #[.int .i64 0, .int .i64 0, .int .i64 0]) ?_ 0 _ rfl; (with_reducible repeat (first | refine blk_drewN ?_ _ | refine blk_drew ?_ | refine blk_alloc ?_ _)); exact BK359.out⟩, ⟨by repeat (first | (with_reducible first | exact HB.out | apply below_alloc | apply pw_below_drewN | apply below_drew1 | refine below_set ?_ GE338.out | refine below_set ?_ GE351.out | refine below_set ?_ GE359.out) | exact HB.out)⟩⟩
                · rw [if_neg c46] at H
                  have c46b0 : (!(t347 == t355) || (!(t348 == t356) || (!(t349 == t357)))) = false := by simpa using c46
                  clear c46
                  (first | rw [c46b0] | (simp only [i64_w, i32_w]; rw [c46b0]) | skip)
                  by_cases c52 : t347 > t332
                  · rw [if_pos c52] at H
                    have c52b0 : decide (t332 < t347) = true := decide_eq_true c52
                    clear c52
                    have H' := Aside0.mk H
                    clear H
                    have hnb53 := NB351_338.out
                    have hnc53 := NB338_351.out
                    have hnb54 := NB351_359.out
                    have hnc54 := NB359_351.out
                    have hcz55_0 : w40.cell? ⟨gb351, 0, none⟩ = some (.int .i64 t347) := (blk_cell BK351.out 0).trans rfl
                    have hcz55_1 : w40.cell? ⟨gb351, 1, none⟩ = some (.int .i64 t348) := (blk_cell BK351.out 1).trans rfl
                    have hcz55_2 : w40.cell? ⟨gb351, 2, none⟩ = some (.int .i64 t349) := (blk_cell BK351.out 2).trans rfl
                    have hfz55_0 := blk_frozen BK351.out 0
                    have hfz55_1 := blk_frozen BK351.out 1
                    have hfz55_2 := blk_frozen BK351.out 2
                    have hnb56 := NB359_338.out
                    have hnc56 := NB338_359.out
                    have hcz57_0 : w40.cell? ⟨gb359, 0, none⟩ = some (.int .i64 0) := (blk_cell BK359.out 0).trans rfl
                    have hcz57_1 : w40.cell? ⟨gb359, 1, none⟩ = some (.int .i64 0) := (blk_cell BK359.out 1).trans rfl
                    have hcz57_2 : w40.cell? ⟨gb359, 2, none⟩ = some (.int .i64 0) := (blk_cell BK359.out 2).trans rfl
                    have hfz57_0 := blk_frozen BK359.out 0
                    have hfz57_1 := blk_frozen BK359.out 1
                    have hfz57_2 := blk_frozen BK359.out 2
                    have hcz58_0 : w40.cell? ⟨gb338, 0, none⟩ = some (.int .i64 t331) := (blk_cell BK338.out 0).trans rfl
                    have hcz58_1 : w40.cell? ⟨gb338, 1, none⟩ = some (.int .i64 t332) := (blk_cell BK338.out 1).trans rfl
                    have hcz58_2 : w40.cell? ⟨gb338, 2, none⟩ = some (.int .i64 t333) := (blk_cell BK338.out 2).trans rfl
                    have hcz58_3 : w40.cell? ⟨gb338, 3, none⟩ = some (.int .i64 t334) := (blk_cell BK338.out 3).trans rfl
                    have hfz58_0 := blk_frozen BK338.out 0
                    have hfz58_1 := blk_frozen BK338.out 1
                    have hfz58_2 := blk_frozen BK338.out 2
                    have hfz58_3 := blk_frozen BK338.out 3
                    go_wp2
                    go_meet
                    case rel => exact ⟨_, (true), (by first | rfl | (simp; done) | (simp [*]; done) | (simp [wrap64]; done)), H', ⟨by have := HJ6.out; first | omega | exact Nat.le_refl _⟩, ⟨by (with_reducible repeat (first | apply Kd.R_alloc | apply Kd.R_drewN | apply Kd.R_drew)); exact Kd.R_mono (Kd.R_far (p := ⟨gb359, 2, none⟩) (Kd.R_far (p := ⟨gb359, 1, none⟩) (Kd.R_far (p := ⟨gb359, 0, none⟩) (Kd.R_types HO_4.out BK359.out (by decide)) (fun _ hk => hk.2) (.int .i64 t355)) (fun _ hk => hk.2) (.int .i64 t356)) (fun _ hk => hk.2) (.int .i64 t357)) (fun _ hk => trivial)⟩, ⟨by (with_reducible repeat (first | refine blk_drewN ?_ _ | refine blk_drew ?_ | refine blk_alloc ?_ _)); refine blk_far ?_ NB338_359.out _; (with_reducible repeat (first | refine blk_drewN ?_ _ | refine blk_drew ?_ | refine blk_alloc ?_ _)); refine blk_far ?_ NB338_359.out _; (with_reducible repeat (first | refine blk_drewN ?_ _ | refine blk_drew ?_ | refine blk_alloc ?_ _)); refine blk_far ?_ NB338_359.out _; (with_reducible repeat (first | refine blk_drewN ?_ _ | refine blk_drew ?_ | refine blk_alloc ?_ _)); exact BK338.out⟩, ⟨by (with_reducible repeat (first | refine blk_drewN ?_ _ | refine blk_drew ?_ | refine blk_alloc ?_ _)); refine blk_far ?_ NB351_359.out _; (with_reducible repeat (first | refine blk_drewN ?_ _ | refine blk_drew ?_ | refine blk_alloc ?_ _)); refine blk_far ?_ NB351_359.out _; (with_reducible repeat (first | refine blk_drewN ?_ _ | refine blk_drew ?_ | refine blk_alloc ?_ _)); refine blk_far ?_ NB351_359.out _; (with_reducible repeat (first | refine blk_drewN ?_ _ | refine blk_drew ?_ | refine blk_alloc ?_ _)); exact BK351.out⟩, ⟨by (with_reducible repeat (first | refine blk_drewN ?_ _ | refine blk_drew ?_ | refine blk_alloc ?_ _)); refine blk_put (cs := #[.int .i64 t355, .int .i64 t356, .int .i64 0]) ?_ 2 _ rfl; (with_reducible repeat (first | refine blk_drewN ?_ _ | refine blk_drew ?_ | refine blk_alloc ?_ _)); refine blk_put (cs := #[.int .i64 t355, .int .i64 0, .int .i64 0]) ?_ 1 _ rfl; (with_reducible repeat (first | refine blk_drewN ?_ _ | refine blk_drew ?_ | refine blk_alloc ?_ _)); refine blk_put (cs := #[.int .i64 0, .int .i64 0, .int .i64 0]) ?_ 0 _ rfl; (with_reducible repeat (first | refine blk_drewN ?_ _ | refine blk_drew ?_ | refine blk_alloc ?_ _)); exact BK359.out⟩, ⟨by repeat (first | (with_reducible first | exact HB.out | apply below_alloc | apply pw_below_drewN | apply below_drew1 | refine below_set ?_ GE338.out | refine below_set ?_ GE351.out | refine below_set ?_ GE359.out) | exact HB.out)⟩⟩
                  · rw [if_neg c52] at H
                    have c52b0 : decide (t332 < t347) = false := decide_eq_false c52
                    clear c52
                    by_cases c59 : t348 > 0
                    · rw [if_pos c59] at H
                      have c59b0 : decide (0 < t348) = true := decide_eq_true c59
                      clear c59
                      have H' := Aside0.mk H
                      clear H
                      have hnb60 := NB351_338.out
                      have hnc60 := NB338_351.out
                      have hnb61 := NB351_359.out
                      have hnc61 := NB359_351.out
                      have hcz62_0 : w40.cell? ⟨gb351, 0, none⟩ = some (.int .i64 t347) := (blk_cell BK351.out 0).trans rfl
                      have hcz62_1 : w40.cell? ⟨gb351, 1, none⟩ = some (.int .i64 t348) := (blk_cell BK351.out 1).trans rfl
                      have hcz62_2 : w40.cell? ⟨gb351, 2, none⟩ = some (.int .i64 t349) := (blk_cell BK351.out 2).trans rfl
                      have hfz62_0 := blk_frozen BK351.out 0
                      have hfz62_1 := blk_frozen BK351.out 1
                      have hfz62_2 := blk_frozen BK351.out 2
                      have hnb63 := NB359_338.out
                      have hnc63 := NB338_359.out
                      have hcz64_0 : w40.cell? ⟨gb359, 0, none⟩ = some (.int .i64 0) := (blk_cell BK359.out 0).trans rfl
                      have hcz64_1 : w40.cell? ⟨gb359, 1, none⟩ = some (.int .i64 0) := (blk_cell BK359.out 1).trans rfl
                      have hcz64_2 : w40.cell? ⟨gb359, 2, none⟩ = some (.int .i64 0) := (blk_cell BK359.out 2).trans rfl
                      have hfz64_0 := blk_frozen BK359.out 0
                      have hfz64_1 := blk_frozen BK359.out 1
                      have hfz64_2 := blk_frozen BK359.out 2
                      have hcz65_0 : w40.cell? ⟨gb338, 0, none⟩ = some (.int .i64 t331) := (blk_cell BK338.out 0).trans rfl
                      have hcz65_1 : w40.cell? ⟨gb338, 1, none⟩ = some (.int .i64 t332) := (blk_cell BK338.out 1).trans rfl
                      have hcz65_2 : w40.cell? ⟨gb338, 2, none⟩ = some (.int .i64 t333) := (blk_cell BK338.out 2).trans rfl
                      have hcz65_3 : w40.cell? ⟨gb338, 3, none⟩ = some (.int .i64 t334) := (blk_cell BK338.out 3).trans rfl
                      have hfz65_0 := blk_frozen BK338.out 0
                      have hfz65_1 := blk_frozen BK338.out 1
                      have hfz65_2 := blk_frozen BK338.out 2
                      have hfz65_3 := blk_frozen BK338.out 3
                      go_wp2
                      go_meet
                      case rel => exact ⟨_, ((t347 != t332)), (by first | rfl | (simp; done) | (simp [*]; done) | (simp [wrap64]; done)), H', ⟨by have := HJ6.out; first | omega | exact Nat.le_refl _⟩, ⟨by (with_reducible repeat (first | apply Kd.R_alloc | apply Kd.R_drewN | apply Kd.R_drew)); exact Kd.R_mono (Kd.R_far (p := ⟨gb359, 2, none⟩) (Kd.R_far (p := ⟨gb359, 1, none⟩) (Kd.R_far (p := ⟨gb359, 0, none⟩) (Kd.R_types HO_4.out BK359.out (by decide)) (fun _ hk => hk.2) (.int .i64 t355)) (fun _ hk => hk.2) (.int .i64 t356)) (fun _ hk => hk.2) (.int .i64 t357)) (fun _ hk => trivial)⟩, ⟨by (with_reducible repeat (first | refine blk_drewN ?_ _ | refine blk_drew ?_ | refine blk_alloc ?_ _)); refine blk_far ?_ NB338_359.out _; (with_reducible repeat (first | refine blk_drewN ?_ _ | refine blk_drew ?_ | refine blk_alloc ?_ _)); refine blk_far ?_ NB338_359.out _; (with_reducible repeat (first | refine blk_drewN ?_ _ | refine blk_drew ?_ | refine blk_alloc ?_ _)); refine blk_far ?_ NB338_359.out _; (with_reducible repeat (first | refine blk_drewN ?_ _ | refine blk_drew ?_ | refine blk_alloc ?_ _)); exact BK338.out⟩, ⟨by (with_reducible repeat (first | refine blk_drewN ?_ _ | refine blk_drew ?_ | refine blk_alloc ?_ _)); refine blk_far ?_ NB351_359.out _; (with_reducible repeat (first | refine blk_drewN ?_ _ | refine blk_drew ?_ | refine blk_alloc ?_ _)); refine blk_far ?_ NB351_359.out _; (with_reducible repeat (first | refine blk_drewN ?_ _ | refine blk_drew ?_ | refine blk_alloc ?_ _)); refine blk_far ?_ NB351_359.out _; (with_reducible repeat (first | refine blk_drewN ?_ _ | refine blk_drew ?_ | refine blk_alloc ?_ _)); exact BK351.out⟩, ⟨by (with_reducible repeat (first | refine blk_drewN ?_ _ | refine blk_drew ?_ | refine blk_alloc ?_ _)); refine blk_put (cs := #[.int .i64 t355, .int .i64 t356, .int .i64 0]) ?_ 2 _ rfl; (with_reducible repeat (first | refine blk_drewN ?_ _ | refine blk_drew ?_ | refine blk_alloc ?_ _)); refine blk_put (cs := #[.int .i64 t355, .int .i64 0, .int .i64 0]) ?_ 1 _ rfl; (with_reducible repeat (first | refine blk_drewN ?_ _ | refine blk_drew ?_ | refine blk_alloc ?_ _)); refine blk_put (cs := #[.int .i64 0, .int .i64 0, .int .i64 0]) ?_ 0 _ rfl; (with_reducible repeat (first | refine blk_drewN ?_ _ | refine blk_drew ?_ | refine blk_alloc ?_ _)); exact BK359.out⟩, ⟨by repeat (first | (with_reducible first | exact HB.out | apply below_alloc | apply pw_below_drewN | apply below_drew1 | refine below_set ?_ GE338.out | refine below_set ?_ GE351.out | refine below_set ?_ GE359.out) | exact HB.out)⟩⟩
                    · rw [if_neg c59] at H
                      have c59b0 : decide (0 < t348) = false := decide_eq_false c59
                      clear c59
                      have H' := Aside0.mk H
                      clear H
                      have hnb66 := NB351_338.out
                      have hnc66 := NB338_351.out
                      have hnb67 := NB351_359.out
                      have hnc67 := NB359_351.out
                      have hcz68_0 : w40.cell? ⟨gb351, 0, none⟩ = some (.int .i64 t347) := (blk_cell BK351.out 0).trans rfl
                      have hcz68_1 : w40.cell? ⟨gb351, 1, none⟩ = some (.int .i64 t348) := (blk_cell BK351.out 1).trans rfl
                      have hcz68_2 : w40.cell? ⟨gb351, 2, none⟩ = some (.int .i64 t349) := (blk_cell BK351.out 2).trans rfl
                      have hfz68_0 := blk_frozen BK351.out 0
                      have hfz68_1 := blk_frozen BK351.out 1
                      have hfz68_2 := blk_frozen BK351.out 2
                      have hnb69 := NB359_338.out
                      have hnc69 := NB338_359.out
                      have hcz70_0 : w40.cell? ⟨gb359, 0, none⟩ = some (.int .i64 0) := (blk_cell BK359.out 0).trans rfl
                      have hcz70_1 : w40.cell? ⟨gb359, 1, none⟩ = some (.int .i64 0) := (blk_cell BK359.out 1).trans rfl
                      have hcz70_2 : w40.cell? ⟨gb359, 2, none⟩ = some (.int .i64 0) := (blk_cell BK359.out 2).trans rfl
                      have hfz70_0 := blk_frozen BK359.out 0
                      have hfz70_1 := blk_frozen BK359.out 1
                      have hfz70_2 := blk_frozen BK359.out 2
                      have hcz71_0 : w40.cell? ⟨gb338, 0, none⟩ = some (.int .i64 t331) := (blk_cell BK338.out 0).trans rfl
                      have hcz71_1 : w40.cell? ⟨gb338, 1, none⟩ = some (.int .i64 t332) := (blk_cell BK338.out 1).trans rfl
                      have hcz71_2 : w40.cell? ⟨gb338, 2, none⟩ = some (.int .i64 t333) := (blk_cell BK338.out 2).trans rfl
                      have hcz71_3 : w40.cell? ⟨gb338, 3, none⟩ = some (.int .i64 t334) := (blk_cell BK338.out 3).trans rfl
                      have hfz71_0 := blk_frozen BK338.out 0
                      have hfz71_1 := blk_frozen BK338.out 1
                      have hfz71_2 := blk_frozen BK338.out 2
                      have hfz71_3 := blk_frozen BK338.out 3
                      go_wp2
                      go_meet
                      case rel => exact ⟨_, (false), (by first | rfl | (simp; done) | (simp [*]; done) | (simp [wrap64]; done)), H', ⟨by have := HJ6.out; first | omega | exact Nat.le_refl _⟩, ⟨by (with_reducible repeat (first | apply Kd.R_alloc | apply Kd.R_drewN | apply Kd.R_drew)); exact Kd.R_mono (Kd.R_far (p := ⟨gb359, 2, none⟩) (Kd.R_far (p := ⟨gb359, 1, none⟩) (Kd.R_far (p := ⟨gb359, 0, none⟩) (Kd.R_types HO_4.out BK359.out (by decide)) (fun _ hk => hk.2) (.int .i64 t355)) (fun _ hk => hk.2) (.int .i64 t356)) (fun _ hk => hk.2) (.int .i64 t357)) (fun _ hk => trivial)⟩, ⟨by (with_reducible repeat (first | refine blk_drewN ?_ _ | refine blk_drew ?_ | refine blk_alloc ?_ _)); refine blk_far ?_ NB338_359.out _; (with_reducible repeat (first | refine blk_drewN ?_ _ | refine blk_drew ?_ | refine blk_alloc ?_ _)); refine blk_far ?_ NB338_359.out _; (with_reducible repeat (first | refine blk_drewN ?_ _ | refine blk_drew ?_ | refine blk_alloc ?_ _)); refine blk_far ?_ NB338_359.out _; (with_reducible repeat (first | refine blk_drewN ?_ _ | refine blk_drew ?_ | refine blk_alloc ?_ _)); exact BK338.out⟩, ⟨by (with_reducible repeat (first | refine blk_drewN ?_ _ | refine blk_drew ?_ | refine blk_alloc ?_ _)); refine blk_far ?_ NB351_359.out _; (with_reducible repeat (first | refine blk_drewN ?_ _ | refine blk_drew ?_ | refine blk_alloc ?_ _)); refine blk_far ?_ NB351_359.out _; (with_reducible repeat (first | refine blk_drewN ?_ _ | refine blk_drew ?_ | refine blk_alloc ?_ _)); refine blk_far ?_ NB351_359.out _; (with_reducible repeat (first | refine blk_drewN ?_ _ | refine blk_drew ?_ | refine blk_alloc ?_ _)); exact BK351.out⟩, ⟨by (with_reducible repeat (first | refine blk_drewN ?_ _ | refine blk_drew ?_ | refine blk_alloc ?_ _)); refine blk_put (cs := #[.int .i64 t355, .int .i64 t356, .int .i64 0]) ?_ 2 _ rfl; (with_reducible repeat (first | refine blk_drewN ?_ _ | refine blk_drew ?_ | refine blk_alloc ?_ _)); refine blk_put (cs := #[.int .i64 t355, .int .i64 0, .int .i64 0]) ?_ 1 _ rfl; (with_reducible repeat (first | refine blk_drewN ?_ _ | refine blk_drew ?_ | refine blk_alloc ?_ _)); refine blk_put (cs := #[.int .i64 0, .int .i64 0, .int .i64 0]) ?_ 0 _ rfl; (with_reducible repeat (first | refine blk_drewN ?_ _ | refine blk_drew ?_ | refine blk_alloc ?_ _)); exact BK359.out⟩, ⟨by repeat (first | (with_reducible first | exact HB.out | apply below_alloc | apply pw_below_drewN | apply below_drew1 | refine below_set ?_ GE338.out | refine below_set ?_ GE351.out | refine below_set ?_ GE359.out) | exact HB.out)⟩⟩
              · replace c45 := Bool.eq_false_iff.mpr c45
                subst c45
                have H1 : (laws_FnLaid.j1 kj6 t335 t340 (wrap64 ((wrap64 ((wrap64 (t340 + 2)) + (wrap64 (t345 * 7)))) + (wrap64 (t346 * 9)))) true t331 t332 t333 t334 t347 t348 t349) = some r := by rw [if_neg (show ¬ (false = true) by decide)] at H; exact H
                clear H
                have H := H1
                clear H1
                have H' := Aside0.mk H
                clear H
                go_wp2
                go_meet
                case rel => exact ⟨_, (true), (by first | rfl | (simp; done) | (simp [*]; done) | (simp [wrap64]; done)), H', ⟨by have := HJ6.out; first | omega | exact Nat.le_refl _⟩, ⟨by (with_reducible repeat (first | apply Kd.R_alloc | apply Kd.R_drewN | apply Kd.R_drew)); exact Kd.R_mono (Kd.R_far (p := ⟨gb359, 2, none⟩) (Kd.R_far (p := ⟨gb359, 1, none⟩) (Kd.R_far (p := ⟨gb359, 0, none⟩) (Kd.R_types HO_4.out BK359.out (by decide)) (fun _ hk => hk.2) (.int .i64 t355)) (fun _ hk => hk.2) (.int .i64 t356)) (fun _ hk => hk.2) (.int .i64 t357)) (fun _ hk => trivial)⟩, ⟨by (with_reducible repeat (first | refine blk_drewN ?_ _ | refine blk_drew ?_ | refine blk_alloc ?_ _)); refine blk_far ?_ NB338_359.out _; (with_reducible repeat (first | refine blk_drewN ?_ _ | refine blk_drew ?_ | refine blk_alloc ?_ _)); refine blk_far ?_ NB338_359.out _; (with_reducible repeat (first | refine blk_drewN ?_ _ | refine blk_drew ?_ | refine blk_alloc ?_ _)); refine blk_far ?_ NB338_359.out _; (with_reducible repeat (first | refine blk_drewN ?_ _ | refine blk_drew ?_ | refine blk_alloc ?_ _)); exact BK338.out⟩, ⟨by (with_reducible repeat (first | refine blk_drewN ?_ _ | refine blk_drew ?_ | refine blk_alloc ?_ _)); refine blk_far ?_ NB351_359.out _; (with_reducible repeat (first | refine blk_drewN ?_ _ | refine blk_drew ?_ | refine blk_alloc ?_ _)); refine blk_far ?_ NB351_359.out _; (with_reducible repeat (first | refine blk_drewN ?_ _ | refine blk_drew ?_ | refine blk_alloc ?_ _)); refine blk_far ?_ NB351_359.out _; (with_reducible repeat (first | refine blk_drewN ?_ _ | refine blk_drew ?_ | refine blk_alloc ?_ _)); exact BK351.out⟩, ⟨by (with_reducible repeat (first | refine blk_drewN ?_ _ | refine blk_drew ?_ | refine blk_alloc ?_ _)); refine blk_put (cs := #[.int .i64 t355, .int .i64 t356, .int .i64 0]) ?_ 2 _ rfl; (with_reducible repeat (first | refine blk_drewN ?_ _ | refine blk_drew ?_ | refine blk_alloc ?_ _)); refine blk_put (cs := #[.int .i64 t355, .int .i64 0, .int .i64 0]) ?_ 1 _ rfl; (with_reducible repeat (first | refine blk_drewN ?_ _ | refine blk_drew ?_ | refine blk_alloc ?_ _)); refine blk_put (cs := #[.int .i64 0, .int .i64 0, .int .i64 0]) ?_ 0 _ rfl; (with_reducible repeat (first | refine blk_drewN ?_ _ | refine blk_drew ?_ | refine blk_alloc ?_ _)); exact BK359.out⟩, ⟨by repeat (first | (with_reducible first | exact HB.out | apply below_alloc | apply pw_below_drewN | apply below_drew1 | refine below_set ?_ GE338.out | refine below_set ?_ GE351.out | refine below_set ?_ GE359.out) | exact HB.out)⟩⟩
            · replace c44 := Bool.eq_false_iff.mpr c44
              subst c44
              have H1 : (laws_FnLaid.j1 kj6 t335 t340 (wrap64 ((wrap64 ((wrap64 (t340 + 2)) + (wrap64 (t345 * 7)))) + (wrap64 (t346 * 9)))) true t331 t332 t333 t334 t347 t348 t349) = some r := by rw [if_neg (show ¬ (false = true) by decide)] at H; exact H
              clear H
              have H := H1
              clear H1
              have H' := Aside0.mk H
              clear H
              go_wp2
              go_meet
              case rel => exact ⟨_, (true), (by first | rfl | (simp; done) | (simp [*]; done) | (simp [wrap64]; done)), H', ⟨by have := HJ6.out; first | omega | exact Nat.le_refl _⟩, ⟨by (with_reducible repeat (first | apply Kd.R_alloc | apply Kd.R_drewN | apply Kd.R_drew)); exact Kd.R_mono (Kd.R_far (p := ⟨gb359, 2, none⟩) (Kd.R_far (p := ⟨gb359, 1, none⟩) (Kd.R_far (p := ⟨gb359, 0, none⟩) (Kd.R_types HO_4.out BK359.out (by decide)) (fun _ hk => hk.2) (.int .i64 t355)) (fun _ hk => hk.2) (.int .i64 t356)) (fun _ hk => hk.2) (.int .i64 t357)) (fun _ hk => trivial)⟩, ⟨by (with_reducible repeat (first | refine blk_drewN ?_ _ | refine blk_drew ?_ | refine blk_alloc ?_ _)); refine blk_far ?_ NB338_359.out _; (with_reducible repeat (first | refine blk_drewN ?_ _ | refine blk_drew ?_ | refine blk_alloc ?_ _)); refine blk_far ?_ NB338_359.out _; (with_reducible repeat (first | refine blk_drewN ?_ _ | refine blk_drew ?_ | refine blk_alloc ?_ _)); refine blk_far ?_ NB338_359.out _; (with_reducible repeat (first | refine blk_drewN ?_ _ | refine blk_drew ?_ | refine blk_alloc ?_ _)); exact BK338.out⟩, ⟨by (with_reducible repeat (first | refine blk_drewN ?_ _ | refine blk_drew ?_ | refine blk_alloc ?_ _)); refine blk_far ?_ NB351_359.out _; (with_reducible repeat (first | refine blk_drewN ?_ _ | refine blk_drew ?_ | refine blk_alloc ?_ _)); refine blk_far ?_ NB351_359.out _; (with_reducible repeat (first | refine blk_drewN ?_ _ | refine blk_drew ?_ | refine blk_alloc ?_ _)); refine blk_far ?_ NB351_359.out _; (with_reducible repeat (first | refine blk_drewN ?_ _ | refine blk_drew ?_ | refine blk_alloc ?_ _)); exact BK351.out⟩, ⟨by (with_reducible repeat (first | refine blk_drewN ?_ _ | refine blk_drew ?_ | refine blk_alloc ?_ _)); refine blk_put (cs := #[.int .i64 t355, .int .i64 t356, .int .i64 0]) ?_ 2 _ rfl; (with_reducible repeat (first | refine blk_drewN ?_ _ | refine blk_drew ?_ | refine blk_alloc ?_ _)); refine blk_put (cs := #[.int .i64 t355, .int .i64 0, .int .i64 0]) ?_ 1 _ rfl; (with_reducible repeat (first | refine blk_drewN ?_ _ | refine blk_drew ?_ | refine blk_alloc ?_ _)); refine blk_put (cs := #[.int .i64 0, .int .i64 0, .int .i64 0]) ?_ 0 _ rfl; (with_reducible repeat (first | refine blk_drewN ?_ _ | refine blk_drew ?_ | refine blk_alloc ?_ _)); exact BK359.out⟩, ⟨by repeat (first | (with_reducible first | exact HB.out | apply below_alloc | apply pw_below_drewN | apply below_drew1 | refine below_set ?_ GE338.out | refine below_set ?_ GE351.out | refine below_set ?_ GE359.out) | exact HB.out)⟩⟩
          case rest =>
            clear HC29
            try clear c1
            try clear c2
            try clear p2
            try clear c3
            try clear c4
            try clear c5
            try clear c6
            try clear p6
            try clear c8
            try clear c11
            try clear c12
            try clear c13
            try clear c14
            try clear c15
            try clear c17
            try clear c17b0
            try clear c23
            try clear c33
            try clear c41
            try clear c42
            try clear c44
            try clear c45
            try clear c46
            try clear c46b0
            try clear c47
            try clear c48
            try clear c50
            try clear c52
            try clear c52b0
            try clear c53
            try clear c54
            try clear c56
            try clear c59
            try clear c59b0
            try clear c60
            try clear c61
            try clear c63
            try clear p64
            try clear c66
            try clear c67
            try clear c69
            try clear hcz30_0
            try clear hcz30_1
            try clear hcz30_2
            try clear hcz30_3
            try clear hcz34_0
            try clear hcz34_1
            try clear hcz34_2
            try clear hcz35_0
            try clear hcz35_1
            try clear hcz35_2
            try clear hcz35_3
            try clear hcz43_0
            try clear hcz43_1
            try clear hcz43_2
            try clear hcz49_0
            try clear hcz49_1
            try clear hcz49_2
            try clear hcz51_0
            try clear hcz51_1
            try clear hcz51_2
            try clear hcz55_0
            try clear hcz55_1
            try clear hcz55_2
            try clear hcz57_0
            try clear hcz57_1
            try clear hcz57_2
            try clear hcz58_0
            try clear hcz58_1
            try clear hcz58_2
            try clear hcz58_3
            try clear hcz62_0
            try clear hcz62_1
            try clear hcz62_2
            try clear hcz64_0
            try clear hcz64_1
            try clear hcz64_2
            try clear hcz65_0
            try clear hcz65_1
            try clear hcz65_2
            try clear hcz65_3
            try clear hcz68_0
            try clear hcz68_1
            try clear hcz68_2
            try clear hcz70_0
            try clear hcz70_1
            try clear hcz70_2
            try clear hcz71_0
            try clear hcz71_1
            try clear hcz71_2
            try clear hcz71_3
            try clear hfz30_0
            try clear hfz30_1
            try clear hfz30_2
            try clear hfz30_3
            try clear hfz34_0
            try clear hfz34_1
            try clear hfz34_2
            try clear hfz35_0
            try clear hfz35_1
            try clear hfz35_2
            try clear hfz35_3
            try clear hfz43_0
            try clear hfz43_1
            try clear hfz43_2
            try clear hfz49_0
            try clear hfz49_1
            try clear hfz49_2
            try clear hfz51_0
            try clear hfz51_1
            try clear hfz51_2
            try clear hfz55_0
            try clear hfz55_1
            try clear hfz55_2
            try clear hfz57_0
            try clear hfz57_1
            try clear hfz57_2
            try clear hfz58_0
            try clear hfz58_1
            try clear hfz58_2
            try clear hfz58_3
            try clear hfz62_0
            try clear hfz62_1
            try clear hfz62_2
            try clear hfz64_0
            try clear hfz64_1
            try clear hfz64_2
            try clear hfz65_0
            try clear hfz65_1
            try clear hfz65_2
            try clear hfz65_3
            try clear hfz68_0
            try clear hfz68_1
            try clear hfz68_2
            try clear hfz70_0
            try clear hfz70_1
            try clear hfz70_2
            try clear hfz71_0
            try clear hfz71_1
            try clear hfz71_2
            try clear hfz71_3
            try clear p2
            try clear p6
            obtain ⟨kq, x115_28, rfl, HA, HJ28, HO_4, BK338, BK351, BK359, HB⟩ := hcut
            cases kq with
            | zero => exact absurd HA.out (by simp [laws_FnLaid.j1])
            | succ kj28 =>
              have H := HA.out
              clear HA
              simp only [laws_FnLaid.j1] at H
              by_cases c72 : x115_28 = true
              · subst c72
                have H1 : (some false) = some r := by rw [if_pos rfl] at H; exact H
                clear H
                have H := H1
                clear H1
                obtain rfl := Option.some.inj H
                go_wp2
                go_ret
                exact ⟨by first | rfl | (simp [errW_none, errW_some] <;> rfl) | (simp [*, errW_none, errW_some] <;> rfl), by repeat (first | (with_reducible first | exact HB.out | apply below_alloc | apply pw_below_drewN | apply below_drew1 | refine below_set ?_ GE338.out | refine below_set ?_ GE351.out | refine below_set ?_ GE359.out) | exact HB.out)⟩
              · replace c72 := Bool.eq_false_iff.mpr c72
                subst c72
                have H1 : ((spec_WorkIn.f kj28 t335 t340 (wrap64 ((wrap64 ((wrap64 (t340 + 2)) + (wrap64 (t345 * 7)))) + (wrap64 (t346 * 9))))).bind fun t360 => (if t348 = 0 then (if t347 = (wrap64 ((wrap64 ((wrap64 ((wrap64 ((wrap64 (t340 + 2)) + (wrap64 (t345 * 7)))) + (wrap64 (t346 * 9)))) - t340)) - t360)) then (if t348 > 0 then (if t349 = (wrap64 ((wrap64 ((wrap64 ((wrap64 (t340 + 2)) + (wrap64 (t345 * 7)))) + (wrap64 (t346 * 9)))) - t348)) then (if t349 < t340 then (some false) else ((impl_Owed.f kj28 t331 t332 t333 t334 t347 t348 t349).bind fun bt361 => (if bt361.2 = true then (some true) else (some false)))) else (some false)) else ((impl_Owed.f kj28 t331 t332 t333 t334 t347 t348 t349).bind fun bt363 => (if bt363.2 = true then (some (decide (bt363.1 ≤ 0))) else (some false)))) else (some false)) else (if t348 > 0 then (if t349 = (wrap64 ((wrap64 ((wrap64 ((wrap64 (t340 + 2)) + (wrap64 (t345 * 7)))) + (wrap64 (t346 * 9)))) - t348)) then (if t349 < t340 then (some false) else ((impl_Owed.f kj28 t331 t332 t333 t334 t347 t348 t349).bind fun bt365 => (if bt365.2 = true then (if bt365.1 ≥ 0 then (some true) else (some false)) else (some false)))) else (some false)) else ((impl_Owed.f kj28 t331 t332 t333 t334 t347 t348 t349).bind fun bt367 => (if bt367.2 = true then (if bt367.1 ≥ 0 then (some (decide (bt367.1 ≤ 0))) else (some false)) else (some false)))))) = some r := by rw [if_neg (show ¬ (false = true) by decide)] at H; exact H
                clear H
                have H := H1
                clear H1
                replace H := Option.bind_eq_some_iff.mp H
                obtain ⟨t360, A730, H⟩ := H
                replace H : (if t348 = 0 then (if t347 = (wrap64 ((wrap64 ((wrap64 ((wrap64 ((wrap64 (t340 + 2)) + (wrap64 (t345 * 7)))) + (wrap64 (t346 * 9)))) - t340)) - t360)) then (if t348 > 0 then (if t349 = (wrap64 ((wrap64 ((wrap64 ((wrap64 (t340 + 2)) + (wrap64 (t345 * 7)))) + (wrap64 (t346 * 9)))) - t348)) then (if t349 < t340 then (some false) else ((impl_Owed.f kj28 t331 t332 t333 t334 t347 t348 t349).bind fun bt361 => (if bt361.2 = true then (some true) else (some false)))) else (some false)) else ((impl_Owed.f kj28 t331 t332 t333 t334 t347 t348 t349).bind fun bt363 => (if bt363.2 = true then (some (decide (bt363.1 ≤ 0))) else (some false)))) else (some false)) else (if t348 > 0 then (if t349 = (wrap64 ((wrap64 ((wrap64 ((wrap64 (t340 + 2)) + (wrap64 (t345 * 7)))) + (wrap64 (t346 * 9)))) - t348)) then (if t349 < t340 then (some false) else ((impl_Owed.f kj28 t331 t332 t333 t334 t347 t348 t349).bind fun bt365 => (if bt365.2 = true then (if bt365.1 ≥ 0 then (some true) else (some false)) else (some false)))) else (some false)) else ((impl_Owed.f kj28 t331 t332 t333 t334 t347 t348 t349).bind fun bt367 => (if bt367.2 = true then (if bt367.1 ≥ 0 then (some (decide (bt367.1 ≤ 0))) else (some false)) else (some false))))) = some r := H
                have A73 := Aside0.mk A730
                clear A730
                by_cases c74 : t348 = 0
                · rw [if_pos c74] at H
                  have c74b0 : (t348 == 0) = true := beq_iff_eq.mpr c74
                  have c74b1 : (t348 != 0) = false := bne_eq_false_iff_eq.mpr c74
                  clear c74
                  by_cases c75 : t347 = (wrap64 ((wrap64 ((wrap64 ((wrap64 ((wrap64 (t340 + 2)) + (wrap64 (t345 * 7)))) + (wrap64 (t346 * 9)))) - t340)) - t360))
                  · rw [if_pos c75] at H
                    have c75b0 : (t347 == (wrap64 ((wrap64 ((wrap64 ((wrap64 ((wrap64 (t340 + 2)) + (wrap64 (t345 * 7)))) + (wrap64 (t346 * 9)))) - t340)) - t360))) = true := beq_iff_eq.mpr c75
                    have c75b1 : (t347 != (wrap64 ((wrap64 ((wrap64 ((wrap64 ((wrap64 (t340 + 2)) + (wrap64 (t345 * 7)))) + (wrap64 (t346 * 9)))) - t340)) - t360))) = false := bne_eq_false_iff_eq.mpr c75
                    clear c75
                    by_cases c76 : t348 > 0
                    · rw [if_pos c76] at H
                      have c76b0 : decide (0 < t348) = true := decide_eq_true c76
                      clear c76
                      by_cases c77 : t349 = (wrap64 ((wrap64 ((wrap64 ((wrap64 (t340 + 2)) + (wrap64 (t345 * 7)))) + (wrap64 (t346 * 9)))) - t348))
                      · rw [if_pos c77] at H
                        have c77b0 : (t349 == (wrap64 ((wrap64 ((wrap64 ((wrap64 (t340 + 2)) + (wrap64 (t345 * 7)))) + (wrap64 (t346 * 9)))) - t348))) = true := beq_iff_eq.mpr c77
                        have c77b1 : (t349 != (wrap64 ((wrap64 ((wrap64 ((wrap64 (t340 + 2)) + (wrap64 (t345 * 7)))) + (wrap64 (t346 * 9)))) - t348))) = false := bne_eq_false_iff_eq.mpr c77
                        clear c77
                        by_cases c78 : t349 < t340
                        · rw [if_pos c78] at H
                          have c78b0 : decide (t349 < t340) = true := decide_eq_true c78
                          clear c78
                          obtain rfl := Option.some.inj H
                          go_wp2_with (first | ((with_reducible refine gate_callee (f := 15) rfl ?_); refine goesL_ (some 119) rfl rfl Try.func15 (by kernel_rfl) rfl #[.slice Ao13 t335.length co13, .int .i64 t340, .int .i64 (wrap64 ((wrap64 ((wrap64 (t340 + 2)) + (wrap64 (t345 * 7)))) + (wrap64 (t346 * 9))))] rfl (by (try simp only [List.map_toArray, List.map_cons, List.map_nil]); first | done | rfl | (simp only [List.length_drop, List.length_take]; rfl)) ?_; (with_reducible refine (spec_WorkIn.calls kj28 _ _ t335 t340 (wrap64 ((wrap64 ((wrap64 (t340 + 2)) + (wrap64 (t345 * 7)))) + (wrap64 (t346 * 9)))) t360 _ ?side1 ?side2 A73.out).mono ?_); (case side1 => repeat (first | exact (Kd.R_reads' HO_4.out).2.2 | (with_reducible refine Kd.C_alloc ?_ _) | (with_reducible refine Kd.C_drewN ?_ _) | (with_reducible refine Kd.C_drew ?_))); (case side2 => exact (Kd.R_reads' HO_4.out).2.1); rintro e w79 ⟨rfl, hb⟩; refine ⟨_, rfl, ?_⟩; have n0_ := Aside0.mk (Kd.R_below (by (with_reducible repeat (first | apply Kd.R_alloc | apply Kd.R_drewN | apply Kd.R_drew)); exact HO_4.out) hb); have n1_ := Aside0.mk (blk_below (g := gb338) (o := .cells #[.int .i64 t331, .int .i64 t332, .int .i64 t333, .int .i64 t334] 29 (0, 0)) (by (with_reducible repeat (first | refine blk_drewN ?_ _ | refine blk_drew ?_ | refine blk_alloc ?_ _)); exact BK338.out) hb); have n2_ := Aside0.mk (blk_below (g := gb351) (o := .cells #[.int .i64 t347, .int .i64 t348, .int .i64 t349] 37 (0, 0)) (by (with_reducible repeat (first | refine blk_drewN ?_ _ | refine blk_drew ?_ | refine blk_alloc ?_ _)); exact BK351.out) hb); have n3_ := Aside0.mk (blk_below (g := gb359) (o := .cells #[.int .i64 t355, .int .i64 t356, .int .i64 t357] 37 (0, 0)) (by (with_reducible repeat (first | refine blk_drewN ?_ _ | refine blk_drew ?_ | refine blk_alloc ?_ _)); exact BK359.out) hb); have n4_ := Aside0.mk (below_step (by repeat (first | (with_reducible first | exact HB.out | apply below_alloc | apply pw_below_drewN | apply below_drew1 | refine below_set ?_ GE338.out | refine below_set ?_ GE351.out | refine below_set ?_ GE359.out) | exact HB.out)) hb); clear HO_4; clear BK338; clear BK351; clear BK359; clear HB; have HO_4 := n0_; have BK338 := n1_; have BK351 := n2_; have BK359 := n3_; have HB := n4_; clear n0_ n1_ n2_ n3_ n4_; (try clear hb); (try clear hb2); (try clear hk); (try clear hi); have hnb80 := NB351_338.out; have hnc80 := NB338_351.out; have hnb81 := NB351_359.out; have hnc81 := NB359_351.out; have hcz82_0 : w79.cell? ⟨gb351, 0, none⟩ = some (.int .i64 t347) := (blk_cell BK351.out 0).trans rfl; have hcz82_1 : w79.cell? ⟨gb351, 1, none⟩ = some (.int .i64 t348) := (blk_cell BK351.out 1).trans rfl; have hcz82_2 : w79.cell? ⟨gb351, 2, none⟩ = some (.int .i64 t349) := (blk_cell BK351.out 2).trans rfl; have hfz82_0 := blk_frozen BK351.out 0; have hfz82_1 := blk_frozen BK351.out 1; have hfz82_2 := blk_frozen BK351.out 2))
                          go_ret
                          exact ⟨by first | rfl | (simp [errW_none, errW_some] <;> rfl) | (simp [*, errW_none, errW_some] <;> rfl), by repeat (first | (with_reducible first | exact HB.out | apply below_alloc | apply pw_below_drewN | apply below_drew1 | refine below_set ?_ GE338.out | refine below_set ?_ GE351.out | refine below_set ?_ GE359.out) | exact HB.out)⟩
                        · rw [if_neg c78] at H
                          have c78b0 : decide (t349 < t340) = false := decide_eq_false c78
                          clear c78
                          replace H := Option.bind_eq_some_iff.mp H
                          obtain ⟨⟨t361, t362⟩, A830, H⟩ := H
                          replace H : (if t362 = true then (some true) else (some false)) = some r := H
                          have A83 := Aside0.mk A830
                          clear A830
                          by_cases c84 : t362 = true
                          · subst c84
                            have H1 : (some true) = some r := by rw [if_pos rfl] at H; exact H
                            clear H
                            have H := H1
                            clear H1
                            obtain rfl := Option.some.inj H
                            go_wp2_with (first | ((with_reducible refine gate_callee (f := 15) rfl ?_); refine goesL_ (some 119) rfl rfl Try.func15 (by kernel_rfl) rfl #[.slice Ao13 t335.length co13, .int .i64 t340, .int .i64 (wrap64 ((wrap64 ((wrap64 (t340 + 2)) + (wrap64 (t345 * 7)))) + (wrap64 (t346 * 9))))] rfl (by (try simp only [List.map_toArray, List.map_cons, List.map_nil]); first | done | rfl | (simp only [List.length_drop, List.length_take]; rfl)) ?_; (with_reducible refine (spec_WorkIn.calls kj28 _ _ t335 t340 (wrap64 ((wrap64 ((wrap64 (t340 + 2)) + (wrap64 (t345 * 7)))) + (wrap64 (t346 * 9)))) t360 _ ?side1 ?side2 A73.out).mono ?_); (case side1 => repeat (first | exact (Kd.R_reads' HO_4.out).2.2 | (with_reducible refine Kd.C_alloc ?_ _) | (with_reducible refine Kd.C_drewN ?_ _) | (with_reducible refine Kd.C_drew ?_))); (case side2 => exact (Kd.R_reads' HO_4.out).2.1); rintro e w85 ⟨rfl, hb⟩; refine ⟨_, rfl, ?_⟩; have n0_ := Aside0.mk (Kd.R_below (by (with_reducible repeat (first | apply Kd.R_alloc | apply Kd.R_drewN | apply Kd.R_drew)); exact HO_4.out) hb); have n1_ := Aside0.mk (blk_below (g := gb338) (o := .cells #[.int .i64 t331, .int .i64 t332, .int .i64 t333, .int .i64 t334] 29 (0, 0)) (by (with_reducible repeat (first | refine blk_drewN ?_ _ | refine blk_drew ?_ | refine blk_alloc ?_ _)); exact BK338.out) hb); have n2_ := Aside0.mk (blk_below (g := gb351) (o := .cells #[.int .i64 t347, .int .i64 t348, .int .i64 t349] 37 (0, 0)) (by (with_reducible repeat (first | refine blk_drewN ?_ _ | refine blk_drew ?_ | refine blk_alloc ?_ _)); exact BK351.out) hb); have n3_ := Aside0.mk (blk_below (g := gb359) (o := .cells #[.int .i64 t355, .int .i64 t356, .int .i64 t357] 37 (0, 0)) (by (with_reducible repeat (first | refine blk_drewN ?_ _ | refine blk_drew ?_ | refine blk_alloc ?_ _)); exact BK359.out) hb); have n4_ := Aside0.mk (below_step (by repeat (first | (with_reducible first | exact HB.out | apply below_alloc | apply pw_below_drewN | apply below_drew1 | refine below_set ?_ GE338.out | refine below_set ?_ GE351.out | refine below_set ?_ GE359.out) | exact HB.out)) hb); clear HO_4; clear BK338; clear BK351; clear BK359; clear HB; have HO_4 := n0_; have BK338 := n1_; have BK351 := n2_; have BK359 := n3_; have HB := n4_; clear n0_ n1_ n2_ n3_ n4_; (try clear hb); (try clear hb2); (try clear hk); (try clear hi); have hnb86 := NB351_338.out; have hnc86 := NB338_351.out; have hnb87 := NB351_359.out; have hnc87 := NB359_351.out; have hcz88_0 : w85.cell? ⟨gb351, 0, none⟩ = some (.int .i64 t347) := (blk_cell BK351.out 0).trans rfl; have hcz88_1 : w85.cell? ⟨gb351, 1, none⟩ = some (.int .i64 t348) := (blk_cell BK351.out 1).trans rfl; have hcz88_2 : w85.cell? ⟨gb351, 2, none⟩ = some (.int .i64 t349) := (blk_cell BK351.out 2).trans rfl; have hfz88_0 := blk_frozen BK351.out 0; have hfz88_1 := blk_frozen BK351.out 1; have hfz88_2 := blk_frozen BK351.out 2; have hnb89 := NB338_359.out; have hnc89 := NB359_338.out; have hcz90_0 : w85.cell? ⟨gb338, 0, none⟩ = some (.int .i64 t331) := (blk_cell BK338.out 0).trans rfl; have hcz90_1 : w85.cell? ⟨gb338, 1, none⟩ = some (.int .i64 t332) := (blk_cell BK338.out 1).trans rfl; have hcz90_2 : w85.cell? ⟨gb338, 2, none⟩ = some (.int .i64 t333) := (blk_cell BK338.out 2).trans rfl; have hcz90_3 : w85.cell? ⟨gb338, 3, none⟩ = some (.int .i64 t334) := (blk_cell BK338.out 3).trans rfl; have hfz90_0 := blk_frozen BK338.out 0; have hfz90_1 := blk_frozen BK338.out 1; have hfz90_2 := blk_frozen BK338.out 2; have hfz90_3 := blk_frozen BK338.out 3) | ((with_reducible refine gate_callee (f := 16) rfl ?_); refine goesL_ (some 156) rfl rfl Try.func16 (by kernel_rfl) rfl #[.agg #[.int .i64 t331, .int .i64 t332, .int .i64 t333, .int .i64 t334], .agg #[.int .i64 t347, .int .i64 t348, .int .i64 t349]] rfl (by (try simp only [List.map_toArray, List.map_cons, List.map_nil]); first | done | rfl | (simp only [List.length_drop, List.length_take]; rfl)) ?_; (with_reducible refine (impl_Owed.calls kj28 t331 t332 t333 t334 t347 t348 t349 t361 true _ A83.out).mono ?_); rintro e w91 ⟨rfl, hb⟩; refine ⟨_, rfl, ?_⟩; have n0_ := Aside0.mk (Kd.R_below (by (with_reducible repeat (first | apply Kd.R_alloc | apply Kd.R_drewN | apply Kd.R_drew)); exact HO_4.out) hb); have n1_ := Aside0.mk (blk_below (g := gb338) (o := .cells #[.int .i64 t331, .int .i64 t332, .int .i64 t333, .int .i64 t334] 29 (0, 0)) (by (with_reducible repeat (first | refine blk_drewN ?_ _ | refine blk_drew ?_ | refine blk_alloc ?_ _)); exact BK338.out) hb); have n2_ := Aside0.mk (blk_below (g := gb351) (o := .cells #[.int .i64 t347, .int .i64 t348, .int .i64 t349] 37 (0, 0)) (by (with_reducible repeat (first | refine blk_drewN ?_ _ | refine blk_drew ?_ | refine blk_alloc ?_ _)); exact BK351.out) hb); have n3_ := Aside0.mk (blk_below (g := gb359) (o := .cells #[.int .i64 t355, .int .i64 t356, .int .i64 t357] 37 (0, 0)) (by (with_reducible repeat (first | refine blk_drewN ?_ _ | refine blk_drew ?_ | refine blk_alloc ?_ _)); exact BK359.out) hb); have n4_ := Aside0.mk (below_step (by repeat (first | (with_reducible first | exact HB.out | apply below_alloc | apply pw_below_drewN | apply below_drew1 | refine below_set ?_ GE338.out | refine below_set ?_ GE351.out | refine below_set ?_ GE359.out) | exact HB.out)) hb); clear HO_4; clear BK338; clear BK351; clear BK359; clear HB; have HO_4 := n0_; have BK338 := n1_; have BK351 := n2_; have BK359 := n3_; have HB := n4_; clear n0_ n1_ n2_ n3_ n4_; (try clear hb); (try clear hb2); (try clear hk); (try clear hi); have hcz92_0 : w91.cell? ⟨gb351, 0, none⟩ = some (.int .i64 t347) := (blk_cell BK351.out 0).trans rfl; have hcz92_1 : w91.cell? ⟨gb351, 1, none⟩ = some (.int .i64 t348) := (blk_cell BK351.out 1).trans rfl; have hcz92_2 : w91.cell? ⟨gb351, 2, none⟩ = some (.int .i64 t349) := (blk_cell BK351.out 2).trans rfl; have hfz92_0 := blk_frozen BK351.out 0; have hfz92_1 := blk_frozen BK351.out 1; have hfz92_2 := blk_frozen BK351.out 2))
                            go_ret
                            exact ⟨by first | rfl | (simp [errW_none, errW_some] <;> rfl) | (simp [*, errW_none, errW_some] <;> rfl), by repeat (first | (with_reducible first | exact HB.out | apply below_alloc | apply pw_below_drewN | apply below_drew1 | refine below_set ?_ GE338.out | refine below_set ?_ GE351.out | refine below_set ?_ GE359.out) | exact HB.out)⟩
                          · replace c84 := Bool.eq_false_iff.mpr c84
                            subst c84
                            have H1 : (some false) = some r := by rw [if_neg (show ¬ (false = true) by decide)] at H; exact H
                            clear H
                            have H := H1
                            clear H1
                            obtain rfl := Option.some.inj H
                            go_wp2_with (first | ((with_reducible refine gate_callee (f := 15) rfl ?_); refine goesL_ (some 119) rfl rfl Try.func15 (by kernel_rfl) rfl #[.slice Ao13 t335.length co13, .int .i64 t340, .int .i64 (wrap64 ((wrap64 ((wrap64 (t340 + 2)) + (wrap64 (t345 * 7)))) + (wrap64 (t346 * 9))))] rfl (by (try simp only [List.map_toArray, List.map_cons, List.map_nil]); first | done | rfl | (simp only [List.length_drop, List.length_take]; rfl)) ?_; (with_reducible refine (spec_WorkIn.calls kj28 _ _ t335 t340 (wrap64 ((wrap64 ((wrap64 (t340 + 2)) + (wrap64 (t345 * 7)))) + (wrap64 (t346 * 9)))) t360 _ ?side1 ?side2 A73.out).mono ?_); (case side1 => repeat (first | exact (Kd.R_reads' HO_4.out).2.2 | (with_reducible refine Kd.C_alloc ?_ _) | (with_reducible refine Kd.C_drewN ?_ _) | (with_reducible refine Kd.C_drew ?_))); (case side2 => exact (Kd.R_reads' HO_4.out).2.1); rintro e w93 ⟨rfl, hb⟩; refine ⟨_, rfl, ?_⟩; have n0_ := Aside0.mk (Kd.R_below (by (with_reducible repeat (first | apply Kd.R_alloc | apply Kd.R_drewN | apply Kd.R_drew)); exact HO_4.out) hb); have n1_ := Aside0.mk (blk_below (g := gb338) (o := .cells #[.int .i64 t331, .int .i64 t332, .int .i64 t333, .int .i64 t334] 29 (0, 0)) (by (with_reducible repeat (first | refine blk_drewN ?_ _ | refine blk_drew ?_ | refine blk_alloc ?_ _)); exact BK338.out) hb); have n2_ := Aside0.mk (blk_below (g := gb351) (o := .cells #[.int .i64 t347, .int .i64 t348, .int .i64 t349] 37 (0, 0)) (by (with_reducible repeat (first | refine blk_drewN ?_ _ | refine blk_drew ?_ | refine blk_alloc ?_ _)); exact BK351.out) hb); have n3_ := Aside0.mk (blk_below (g := gb359) (o := .cells #[.int .i64 t355, .int .i64 t356, .int .i64 t357] 37 (0, 0)) (by (with_reducible repeat (first | refine blk_drewN ?_ _ | refine blk_drew ?_ | refine blk_alloc ?_ _)); exact BK359.out) hb); have n4_ := Aside0.mk (below_step (by repeat (first | (with_reducible first | exact HB.out | apply below_alloc | apply pw_below_drewN | apply below_drew1 | refine below_set ?_ GE338.out | refine below_set ?_ GE351.out | refine below_set ?_ GE359.out) | exact HB.out)) hb); clear HO_4; clear BK338; clear BK351; clear BK359; clear HB; have HO_4 := n0_; have BK338 := n1_; have BK351 := n2_; have BK359 := n3_; have HB := n4_; clear n0_ n1_ n2_ n3_ n4_; (try clear hb); (try clear hb2); (try clear hk); (try clear hi); have hnb94 := NB351_338.out; have hnc94 := NB338_351.out; have hnb95 := NB351_359.out; have hnc95 := NB359_351.out; have hcz96_0 : w93.cell? ⟨gb351, 0, none⟩ = some (.int .i64 t347) := (blk_cell BK351.out 0).trans rfl; have hcz96_1 : w93.cell? ⟨gb351, 1, none⟩ = some (.int .i64 t348) := (blk_cell BK351.out 1).trans rfl; have hcz96_2 : w93.cell? ⟨gb351, 2, none⟩ = some (.int .i64 t349) := (blk_cell BK351.out 2).trans rfl; have hfz96_0 := blk_frozen BK351.out 0; have hfz96_1 := blk_frozen BK351.out 1; have hfz96_2 := blk_frozen BK351.out 2; have hnb97 := NB338_359.out; have hnc97 := NB359_338.out; have hcz98_0 : w93.cell? ⟨gb338, 0, none⟩ = some (.int .i64 t331) := (blk_cell BK338.out 0).trans rfl; have hcz98_1 : w93.cell? ⟨gb338, 1, none⟩ = some (.int .i64 t332) := (blk_cell BK338.out 1).trans rfl; have hcz98_2 : w93.cell? ⟨gb338, 2, none⟩ = some (.int .i64 t333) := (blk_cell BK338.out 2).trans rfl; have hcz98_3 : w93.cell? ⟨gb338, 3, none⟩ = some (.int .i64 t334) := (blk_cell BK338.out 3).trans rfl; have hfz98_0 := blk_frozen BK338.out 0; have hfz98_1 := blk_frozen BK338.out 1; have hfz98_2 := blk_frozen BK338.out 2; have hfz98_3 := blk_frozen BK338.out 3) | ((with_reducible refine gate_callee (f := 16) rfl ?_); refine goesL_ (some 156) rfl rfl Try.func16 (by kernel_rfl) rfl #[.agg #[.int .i64 t331, .int .i64 t332, .int .i64 t333, .int .i64 t334], .agg #[.int .i64 t347, .int .i64 t348, .int .i64 t349]] rfl (by (try simp only [List.map_toArray, List.map_cons, List.map_nil]); first | done | rfl | (simp only [List.length_drop, List.length_take]; rfl)) ?_; (with_reducible refine (impl_Owed.calls kj28 t331 t332 t333 t334 t347 t348 t349 t361 false _ A83.out).mono ?_); rintro e w99 ⟨rfl, hb⟩; refine ⟨_, rfl, ?_⟩; have n0_ := Aside0.mk (Kd.R_below (by (with_reducible repeat (first | apply Kd.R_alloc | apply Kd.R_drewN | apply Kd.R_drew)); exact HO_4.out) hb); have n1_ := Aside0.mk (blk_below (g := gb338) (o := .cells #[.int .i64 t331, .int .i64 t332, .int .i64 t333, .int .i64 t334] 29 (0, 0)) (by (with_reducible repeat (first | refine blk_drewN ?_ _ | refine blk_drew ?_ | refine blk_alloc ?_ _)); exact BK338.out) hb); have n2_ := Aside0.mk (blk_below (g := gb351) (o := .cells #[.int .i64 t347, .int .i64 t348, .int .i64 t349] 37 (0, 0)) (by (with_reducible repeat (first | refine blk_drewN ?_ _ | refine blk_drew ?_ | refine blk_alloc ?_ _)); exact BK351.out) hb); have n3_ := Aside0.mk (blk_below (g := gb359) (o := .cells #[.int .i64 t355, .int .i64 t356, .int .i64 t357] 37 (0, 0)) (by (with_reducible repeat (first | refine blk_drewN ?_ _ | refine blk_drew ?_ | refine blk_alloc ?_ _)); exact BK359.out) hb); have n4_ := Aside0.mk (below_step (by repeat (first | (with_reducible first | exact HB.out | apply below_alloc | apply pw_below_drewN | apply below_drew1 | refine below_set ?_ GE338.out | refine below_set ?_ GE351.out | refine below_set ?_ GE359.out) | exact HB.out)) hb); clear HO_4; clear BK338; clear BK351; clear BK359; clear HB; have HO_4 := n0_; have BK338 := n1_; have BK351 := n2_; have BK359 := n3_; have HB := n4_; clear n0_ n1_ n2_ n3_ n4_; (try clear hb); (try clear hb2); (try clear hk); (try clear hi)))
                            go_ret
                            exact ⟨by first | rfl | (simp [errW_none, errW_some] <;> rfl) | (simp [*, errW_none, errW_some] <;> rfl), by repeat (first | (with_reducible first | exact HB.out | apply below_alloc | apply pw_below_drewN | apply below_drew1 | refine below_set ?_ GE338.out | refine below_set ?_ GE351.out | refine below_set ?_ GE359.out) | exact HB.out)⟩
                      · rw [if_neg c77] at H
                        have c77b0 : (t349 == (wrap64 ((wrap64 ((wrap64 ((wrap64 (t340 + 2)) + (wrap64 (t345 * 7)))) + (wrap64 (t346 * 9)))) - t348))) = false := beq_eq_false_iff_ne.mpr c77
                        have c77b1 : (t349 != (wrap64 ((wrap64 ((wrap64 ((wrap64 (t340 + 2)) + (wrap64 (t345 * 7)))) + (wrap64 (t346 * 9)))) - t348))) = true := bne_iff_ne.mpr c77
                        obtain rfl := Option.some.inj H
                        go_wp2_with (first | ((with_reducible refine gate_callee (f := 15) rfl ?_); refine goesL_ (some 119) rfl rfl Try.func15 (by kernel_rfl) rfl #[.slice Ao13 t335.length co13, .int .i64 t340, .int .i64 (wrap64 ((wrap64 ((wrap64 (t340 + 2)) + (wrap64 (t345 * 7)))) + (wrap64 (t346 * 9))))] rfl (by (try simp only [List.map_toArray, List.map_cons, List.map_nil]); first | done | rfl | (simp only [List.length_drop, List.length_take]; rfl)) ?_; (with_reducible refine (spec_WorkIn.calls kj28 _ _ t335 t340 (wrap64 ((wrap64 ((wrap64 (t340 + 2)) + (wrap64 (t345 * 7)))) + (wrap64 (t346 * 9)))) t360 _ ?side1 ?side2 A73.out).mono ?_); (case side1 => repeat (first | exact (Kd.R_reads' HO_4.out).2.2 | (with_reducible refine Kd.C_alloc ?_ _) | (with_reducible refine Kd.C_drewN ?_ _) | (with_reducible refine Kd.C_drew ?_))); (case side2 => exact (Kd.R_reads' HO_4.out).2.1); rintro e w100 ⟨rfl, hb⟩; refine ⟨_, rfl, ?_⟩; have n0_ := Aside0.mk (Kd.R_below (by (with_reducible repeat (first | apply Kd.R_alloc | apply Kd.R_drewN | apply Kd.R_drew)); exact HO_4.out) hb); have n1_ := Aside0.mk (blk_below (g := gb338) (o := .cells #[.int .i64 t331, .int .i64 t332, .int .i64 t333, .int .i64 t334] 29 (0, 0)) (by (with_reducible repeat (first | refine blk_drewN ?_ _ | refine blk_drew ?_ | refine blk_alloc ?_ _)); exact BK338.out) hb); have n2_ := Aside0.mk (blk_below (g := gb351) (o := .cells #[.int .i64 t347, .int .i64 t348, .int .i64 t349] 37 (0, 0)) (by (with_reducible repeat (first | refine blk_drewN ?_ _ | refine blk_drew ?_ | refine blk_alloc ?_ _)); exact BK351.out) hb); have n3_ := Aside0.mk (blk_below (g := gb359) (o := .cells #[.int .i64 t355, .int .i64 t356, .int .i64 t357] 37 (0, 0)) (by (with_reducible repeat (first | refine blk_drewN ?_ _ | refine blk_drew ?_ | refine blk_alloc ?_ _)); exact BK359.out) hb); have n4_ := Aside0.mk (below_step (by repeat (first | (with_reducible first | exact HB.out | apply below_alloc | apply pw_below_drewN | apply below_drew1 | refine below_set ?_ GE338.out | refine below_set ?_ GE351.out | refine below_set ?_ GE359.out) | exact HB.out)) hb); clear HO_4; clear BK338; clear BK351; clear BK359; clear HB; have HO_4 := n0_; have BK338 := n1_; have BK351 := n2_; have BK359 := n3_; have HB := n4_; clear n0_ n1_ n2_ n3_ n4_; (try clear hb); (try clear hb2); (try clear hk); (try clear hi); have hnb101 := NB351_338.out; have hnc101 := NB338_351.out; have hnb102 := NB351_359.out; have hnc102 := NB359_351.out; have hcz103_0 : w100.cell? ⟨gb351, 0, none⟩ = some (.int .i64 t347) := (blk_cell BK351.out 0).trans rfl; have hcz103_1 : w100.cell? ⟨gb351, 1, none⟩ = some (.int .i64 t348) := (blk_cell BK351.out 1).trans rfl; have hcz103_2 : w100.cell? ⟨gb351, 2, none⟩ = some (.int .i64 t349) := (blk_cell BK351.out 2).trans rfl; have hfz103_0 := blk_frozen BK351.out 0; have hfz103_1 := blk_frozen BK351.out 1; have hfz103_2 := blk_frozen BK351.out 2))
                        go_ret
                        exact ⟨by first | rfl | (simp [errW_none, errW_some] <;> rfl) | (simp [*, errW_none, errW_some] <;> rfl), by repeat (first | (with_reducible first | exact HB.out | apply below_alloc | apply pw_below_drewN | apply below_drew1 | refine below_set ?_ GE338.out | refine below_set ?_ GE351.out | refine below_set ?_ GE359.out) | exact HB.out)⟩
                    · rw [if_neg c76] at H
                      have c76b0 : decide (0 < t348) = false := decide_eq_false c76
                      clear c76
                      replace H := Option.bind_eq_some_iff.mp H
                      obtain ⟨⟨t363, t364⟩, A1040, H⟩ := H
                      replace H : (if t364 = true then (some (decide (t363 ≤ 0))) else (some false)) = some r := H
                      have A104 := Aside0.mk A1040
                      clear A1040
                      by_cases c105 : t364 = true
                      · subst c105
                        have H1 : (some (decide (t363 ≤ 0))) = some r := by rw [if_pos rfl] at H; exact H
                        clear H
                        have H := H1
                        clear H1
                        obtain rfl := Option.some.inj H
                        go_wp2_with (first | ((with_reducible refine gate_callee (f := 15) rfl ?_); refine goesL_ (some 119) rfl rfl Try.func15 (by kernel_rfl) rfl #[.slice Ao13 t335.length co13, .int .i64 t340, .int .i64 (wrap64 ((wrap64 ((wrap64 (t340 + 2)) + (wrap64 (t345 * 7)))) + (wrap64 (t346 * 9))))] rfl (by (try simp only [List.map_toArray, List.map_cons, List.map_nil]); first | done | rfl | (simp only [List.length_drop, List.length_take]; rfl)) ?_; (with_reducible refine (spec_WorkIn.calls kj28 _ _ t335 t340 (wrap64 ((wrap64 ((wrap64 (t340 + 2)) + (wrap64 (t345 * 7)))) + (wrap64 (t346 * 9)))) t360 _ ?side1 ?side2 A73.out).mono ?_); (case side1 => repeat (first | exact (Kd.R_reads' HO_4.out).2.2 | (with_reducible refine Kd.C_alloc ?_ _) | (with_reducible refine Kd.C_drewN ?_ _) | (with_reducible refine Kd.C_drew ?_))); (case side2 => exact (Kd.R_reads' HO_4.out).2.1); rintro e w106 ⟨rfl, hb⟩; refine ⟨_, rfl, ?_⟩; have n0_ := Aside0.mk (Kd.R_below (by (with_reducible repeat (first | apply Kd.R_alloc | apply Kd.R_drewN | apply Kd.R_drew)); exact HO_4.out) hb); have n1_ := Aside0.mk (blk_below (g := gb338) (o := .cells #[.int .i64 t331, .int .i64 t332, .int .i64 t333, .int .i64 t334] 29 (0, 0)) (by (with_reducible repeat (first | refine blk_drewN ?_ _ | refine blk_drew ?_ | refine blk_alloc ?_ _)); exact BK338.out) hb); have n2_ := Aside0.mk (blk_below (g := gb351) (o := .cells #[.int .i64 t347, .int .i64 t348, .int .i64 t349] 37 (0, 0)) (by (with_reducible repeat (first | refine blk_drewN ?_ _ | refine blk_drew ?_ | refine blk_alloc ?_ _)); exact BK351.out) hb); have n3_ := Aside0.mk (blk_below (g := gb359) (o := .cells #[.int .i64 t355, .int .i64 t356, .int .i64 t357] 37 (0, 0)) (by (with_reducible repeat (first | refine blk_drewN ?_ _ | refine blk_drew ?_ | refine blk_alloc ?_ _)); exact BK359.out) hb); have n4_ := Aside0.mk (below_step (by repeat (first | (with_reducible first | exact HB.out | apply below_alloc | apply pw_below_drewN | apply below_drew1 | refine below_set ?_ GE338.out | refine below_set ?_ GE351.out | refine below_set ?_ GE359.out) | exact HB.out)) hb); clear HO_4; clear BK338; clear BK351; clear BK359; clear HB; have HO_4 := n0_; have BK338 := n1_; have BK351 := n2_; have BK359 := n3_; have HB := n4_; clear n0_ n1_ n2_ n3_ n4_; (try clear hb); (try clear hb2); (try clear hk); (try clear hi); have hnb107 := NB351_338.out; have hnc107 := NB338_351.out; have hnb108 := NB351_359.out; have hnc108 := NB359_351.out; have hcz109_0 : w106.cell? ⟨gb351, 0, none⟩ = some (.int .i64 t347) := (blk_cell BK351.out 0).trans rfl; have hcz109_1 : w106.cell? ⟨gb351, 1, none⟩ = some (.int .i64 t348) := (blk_cell BK351.out 1).trans rfl; have hcz109_2 : w106.cell? ⟨gb351, 2, none⟩ = some (.int .i64 t349) := (blk_cell BK351.out 2).trans rfl; have hfz109_0 := blk_frozen BK351.out 0; have hfz109_1 := blk_frozen BK351.out 1; have hfz109_2 := blk_frozen BK351.out 2; have hnb110 := NB338_359.out; have hnc110 := NB359_338.out; have hcz111_0 : w106.cell? ⟨gb338, 0, none⟩ = some (.int .i64 t331) := (blk_cell BK338.out 0).trans rfl; have hcz111_1 : w106.cell? ⟨gb338, 1, none⟩ = some (.int .i64 t332) := (blk_cell BK338.out 1).trans rfl; have hcz111_2 : w106.cell? ⟨gb338, 2, none⟩ = some (.int .i64 t333) := (blk_cell BK338.out 2).trans rfl; have hcz111_3 : w106.cell? ⟨gb338, 3, none⟩ = some (.int .i64 t334) := (blk_cell BK338.out 3).trans rfl; have hfz111_0 := blk_frozen BK338.out 0; have hfz111_1 := blk_frozen BK338.out 1; have hfz111_2 := blk_frozen BK338.out 2; have hfz111_3 := blk_frozen BK338.out 3) | ((with_reducible refine gate_callee (f := 16) rfl ?_); refine goesL_ (some 156) rfl rfl Try.func16 (by kernel_rfl) rfl #[.agg #[.int .i64 t331, .int .i64 t332, .int .i64 t333, .int .i64 t334], .agg #[.int .i64 t347, .int .i64 t348, .int .i64 t349]] rfl (by (try simp only [List.map_toArray, List.map_cons, List.map_nil]); first | done | rfl | (simp only [List.length_drop, List.length_take]; rfl)) ?_; (with_reducible refine (impl_Owed.calls kj28 t331 t332 t333 t334 t347 t348 t349 t363 true _ A104.out).mono ?_); rintro e w112 ⟨rfl, hb⟩; refine ⟨_, rfl, ?_⟩; have n0_ := Aside0.mk (Kd.R_below (by (with_reducible repeat (first | apply Kd.R_alloc | apply Kd.R_drewN | apply Kd.R_drew)); exact HO_4.out) hb); have n1_ := Aside0.mk (blk_below (g := gb338) (o := .cells #[.int .i64 t331, .int .i64 t332, .int .i64 t333, .int .i64 t334] 29 (0, 0)) (by (with_reducible repeat (first | refine blk_drewN ?_ _ | refine blk_drew ?_ | refine blk_alloc ?_ _)); exact BK338.out) hb); have n2_ := Aside0.mk (blk_below (g := gb351) (o := .cells #[.int .i64 t347, .int .i64 t348, .int .i64 t349] 37 (0, 0)) (by (with_reducible repeat (first | refine blk_drewN ?_ _ | refine blk_drew ?_ | refine blk_alloc ?_ _)); exact BK351.out) hb); have n3_ := Aside0.mk (blk_below (g := gb359) (o := .cells #[.int .i64 t355, .int .i64 t356, .int .i64 t357] 37 (0, 0)) (by (with_reducible repeat (first | refine blk_drewN ?_ _ | refine blk_drew ?_ | refine blk_alloc ?_ _)); exact BK359.out) hb); have n4_ := Aside0.mk (below_step (by repeat (first | (with_reducible first | exact HB.out | apply below_alloc | apply pw_below_drewN | apply below_drew1 | refine below_set ?_ GE338.out | refine below_set ?_ GE351.out | refine below_set ?_ GE359.out) | exact HB.out)) hb); clear HO_4; clear BK338; clear BK351; clear BK359; clear HB; have HO_4 := n0_; have BK338 := n1_; have BK351 := n2_; have BK359 := n3_; have HB := n4_; clear n0_ n1_ n2_ n3_ n4_; (try clear hb); (try clear hb2); (try clear hk); (try clear hi); have hcz113_0 : w112.cell? ⟨gb351, 0, none⟩ = some (.int .i64 t347) := (blk_cell BK351.out 0).trans rfl; have hcz113_1 : w112.cell? ⟨gb351, 1, none⟩ = some (.int .i64 t348) := (blk_cell BK351.out 1).trans rfl; have hcz113_2 : w112.cell? ⟨gb351, 2, none⟩ = some (.int .i64 t349) := (blk_cell BK351.out 2).trans rfl; have hfz113_0 := blk_frozen BK351.out 0; have hfz113_1 := blk_frozen BK351.out 1; have hfz113_2 := blk_frozen BK351.out 2))
                        go_ret
                        exact ⟨by first | rfl | (simp [errW_none, errW_some] <;> rfl) | (simp [*, errW_none, errW_some] <;> rfl), by repeat (first | (with_reducible first | exact HB.out | apply below_alloc | apply pw_below_drewN | apply below_drew1 | refine below_set ?_ GE338.out | refine below_set ?_ GE351.out | refine below_set ?_ GE359.out) | exact HB.out)⟩
                      · replace c105 := Bool.eq_false_iff.mpr c105
                        subst c105
                        have H1 : (some false) = some r := by rw [if_neg (show ¬ (false = true) by decide)] at H; exact H
                        clear H
                        have H := H1
                        clear H1
                        obtain rfl := Option.some.inj H
                        go_wp2_with (first | ((with_reducible refine gate_callee (f := 15) rfl ?_); refine goesL_ (some 119) rfl rfl Try.func15 (by kernel_rfl) rfl #[.slice Ao13 t335.length co13, .int .i64 t340, .int .i64 (wrap64 ((wrap64 ((wrap64 (t340 + 2)) + (wrap64 (t345 * 7)))) + (wrap64 (t346 * 9))))] rfl (by (try simp only [List.map_toArray, List.map_cons, List.map_nil]); first | done | rfl | (simp only [List.length_drop, List.length_take]; rfl)) ?_; (with_reducible refine (spec_WorkIn.calls kj28 _ _ t335 t340 (wrap64 ((wrap64 ((wrap64 (t340 + 2)) + (wrap64 (t345 * 7)))) + (wrap64 (t346 * 9)))) t360 _ ?side1 ?side2 A73.out).mono ?_); (case side1 => repeat (first | exact (Kd.R_reads' HO_4.out).2.2 | (with_reducible refine Kd.C_alloc ?_ _) | (with_reducible refine Kd.C_drewN ?_ _) | (with_reducible refine Kd.C_drew ?_))); (case side2 => exact (Kd.R_reads' HO_4.out).2.1); rintro e w114 ⟨rfl, hb⟩; refine ⟨_, rfl, ?_⟩; have n0_ := Aside0.mk (Kd.R_below (by (with_reducible repeat (first | apply Kd.R_alloc | apply Kd.R_drewN | apply Kd.R_drew)); exact HO_4.out) hb); have n1_ := Aside0.mk (blk_below (g := gb338) (o := .cells #[.int .i64 t331, .int .i64 t332, .int .i64 t333, .int .i64 t334] 29 (0, 0)) (by (with_reducible repeat (first | refine blk_drewN ?_ _ | refine blk_drew ?_ | refine blk_alloc ?_ _)); exact BK338.out) hb); have n2_ := Aside0.mk (blk_below (g := gb351) (o := .cells #[.int .i64 t347, .int .i64 t348, .int .i64 t349] 37 (0, 0)) (by (with_reducible repeat (first | refine blk_drewN ?_ _ | refine blk_drew ?_ | refine blk_alloc ?_ _)); exact BK351.out) hb); have n3_ := Aside0.mk (blk_below (g := gb359) (o := .cells #[.int .i64 t355, .int .i64 t356, .int .i64 t357] 37 (0, 0)) (by (with_reducible repeat (first | refine blk_drewN ?_ _ | refine blk_drew ?_ | refine blk_alloc ?_ _)); exact BK359.out) hb); have n4_ := Aside0.mk (below_step (by repeat (first | (with_reducible first | exact HB.out | apply below_alloc | apply pw_below_drewN | apply below_drew1 | refine below_set ?_ GE338.out | refine below_set ?_ GE351.out | refine below_set ?_ GE359.out) | exact HB.out)) hb); clear HO_4; clear BK338; clear BK351; clear BK359; clear HB; have HO_4 := n0_; have BK338 := n1_; have BK351 := n2_; have BK359 := n3_; have HB := n4_; clear n0_ n1_ n2_ n3_ n4_; (try clear hb); (try clear hb2); (try clear hk); (try clear hi); have hnb115 := NB351_338.out; have hnc115 := NB338_351.out; have hnb116 := NB351_359.out; have hnc116 := NB359_351.out; have hcz117_0 : w114.cell? ⟨gb351, 0, none⟩ = some (.int .i64 t347) := (blk_cell BK351.out 0).trans rfl; have hcz117_1 : w114.cell? ⟨gb351, 1, none⟩ = some (.int .i64 t348) := (blk_cell BK351.out 1).trans rfl; have hcz117_2 : w114.cell? ⟨gb351, 2, none⟩ = some (.int .i64 t349) := (blk_cell BK351.out 2).trans rfl; have hfz117_0 := blk_frozen BK351.out 0; have hfz117_1 := blk_frozen BK351.out 1; have hfz117_2 := blk_frozen BK351.out 2; have hnb118 := NB338_359.out; have hnc118 := NB359_338.out; have hcz119_0 : w114.cell? ⟨gb338, 0, none⟩ = some (.int .i64 t331) := (blk_cell BK338.out 0).trans rfl; have hcz119_1 : w114.cell? ⟨gb338, 1, none⟩ = some (.int .i64 t332) := (blk_cell BK338.out 1).trans rfl; have hcz119_2 : w114.cell? ⟨gb338, 2, none⟩ = some (.int .i64 t333) := (blk_cell BK338.out 2).trans rfl; have hcz119_3 : w114.cell? ⟨gb338, 3, none⟩ = some (.int .i64 t334) := (blk_cell BK338.out 3).trans rfl; have hfz119_0 := blk_frozen BK338.out 0; have hfz119_1 := blk_frozen BK338.out 1; have hfz119_2 := blk_frozen BK338.out 2; have hfz119_3 := blk_frozen BK338.out 3) | ((with_reducible refine gate_callee (f := 16) rfl ?_); refine goesL_ (some 156) rfl rfl Try.func16 (by kernel_rfl) rfl #[.agg #[.int .i64 t331, .int .i64 t332, .int .i64 t333, .int .i64 t334], .agg #[.int .i64 t347, .int .i64 t348, .int .i64 t349]] rfl (by (try simp only [List.map_toArray, List.map_cons, List.map_nil]); first | done | rfl | (simp only [List.length_drop, List.length_take]; rfl)) ?_; (with_reducible refine (impl_Owed.calls kj28 t331 t332 t333 t334 t347 t348 t349 t363 false _ A104.out).mono ?_); rintro e w120 ⟨rfl, hb⟩; refine ⟨_, rfl, ?_⟩; have n0_ := Aside0.mk (Kd.R_below (by (with_reducible repeat (first | apply Kd.R_alloc | apply Kd.R_drewN | apply Kd.R_drew)); exact HO_4.out) hb); have n1_ := Aside0.mk (blk_below (g := gb338) (o := .cells #[.int .i64 t331, .int .i64 t332, .int .i64 t333, .int .i64 t334] 29 (0, 0)) (by (with_reducible repeat (first | refine blk_drewN ?_ _ | refine blk_drew ?_ | refine blk_alloc ?_ _)); exact BK338.out) hb); have n2_ := Aside0.mk (blk_below (g := gb351) (o := .cells #[.int .i64 t347, .int .i64 t348, .int .i64 t349] 37 (0, 0)) (by (with_reducible repeat (first | refine blk_drewN ?_ _ | refine blk_drew ?_ | refine blk_alloc ?_ _)); exact BK351.out) hb); have n3_ := Aside0.mk (blk_below (g := gb359) (o := .cells #[.int .i64 t355, .int .i64 t356, .int .i64 t357] 37 (0, 0)) (by (with_reducible repeat (first | refine blk_drewN ?_ _ | refine blk_drew ?_ | refine blk_alloc ?_ _)); exact BK359.out) hb); have n4_ := Aside0.mk (below_step (by repeat (first | (with_reducible first | exact HB.out | apply below_alloc | apply pw_below_drewN | apply below_drew1 | refine below_set ?_ GE338.out | refine below_set ?_ GE351.out | refine below_set ?_ GE359.out) | exact HB.out)) hb); clear HO_4; clear BK338; clear BK351; clear BK359; clear HB; have HO_4 := n0_; have BK338 := n1_; have BK351 := n2_; have BK359 := n3_; have HB := n4_; clear n0_ n1_ n2_ n3_ n4_; (try clear hb); (try clear hb2); (try clear hk); (try clear hi)))
                        go_ret
                        exact ⟨by first | rfl | (simp [errW_none, errW_some] <;> rfl) | (simp [*, errW_none, errW_some] <;> rfl), by repeat (first | (with_reducible first | exact HB.out | apply below_alloc | apply pw_below_drewN | apply below_drew1 | refine below_set ?_ GE338.out | refine below_set ?_ GE351.out | refine below_set ?_ GE359.out) | exact HB.out)⟩
                  · rw [if_neg c75] at H
                    have c75b0 : (t347 == (wrap64 ((wrap64 ((wrap64 ((wrap64 ((wrap64 (t340 + 2)) + (wrap64 (t345 * 7)))) + (wrap64 (t346 * 9)))) - t340)) - t360))) = false := beq_eq_false_iff_ne.mpr c75
                    have c75b1 : (t347 != (wrap64 ((wrap64 ((wrap64 ((wrap64 ((wrap64 (t340 + 2)) + (wrap64 (t345 * 7)))) + (wrap64 (t346 * 9)))) - t340)) - t360))) = true := bne_iff_ne.mpr c75
                    obtain rfl := Option.some.inj H
                    go_wp2_with (first | ((with_reducible refine gate_callee (f := 15) rfl ?_); refine goesL_ (some 119) rfl rfl Try.func15 (by kernel_rfl) rfl #[.slice Ao13 t335.length co13, .int .i64 t340, .int .i64 (wrap64 ((wrap64 ((wrap64 (t340 + 2)) + (wrap64 (t345 * 7)))) + (wrap64 (t346 * 9))))] rfl (by (try simp only [List.map_toArray, List.map_cons, List.map_nil]); first | done | rfl | (simp only [List.length_drop, List.length_take]; rfl)) ?_; (with_reducible refine (spec_WorkIn.calls kj28 _ _ t335 t340 (wrap64 ((wrap64 ((wrap64 (t340 + 2)) + (wrap64 (t345 * 7)))) + (wrap64 (t346 * 9)))) t360 _ ?side1 ?side2 A73.out).mono ?_); (case side1 => repeat (first | exact (Kd.R_reads' HO_4.out).2.2 | (with_reducible refine Kd.C_alloc ?_ _) | (with_reducible refine Kd.C_drewN ?_ _) | (with_reducible refine Kd.C_drew ?_))); (case side2 => exact (Kd.R_reads' HO_4.out).2.1); rintro e w121 ⟨rfl, hb⟩; refine ⟨_, rfl, ?_⟩; have n0_ := Aside0.mk (Kd.R_below (by (with_reducible repeat (first | apply Kd.R_alloc | apply Kd.R_drewN | apply Kd.R_drew)); exact HO_4.out) hb); have n1_ := Aside0.mk (blk_below (g := gb338) (o := .cells #[.int .i64 t331, .int .i64 t332, .int .i64 t333, .int .i64 t334] 29 (0, 0)) (by (with_reducible repeat (first | refine blk_drewN ?_ _ | refine blk_drew ?_ | refine blk_alloc ?_ _)); exact BK338.out) hb); have n2_ := Aside0.mk (blk_below (g := gb351) (o := .cells #[.int .i64 t347, .int .i64 t348, .int .i64 t349] 37 (0, 0)) (by (with_reducible repeat (first | refine blk_drewN ?_ _ | refine blk_drew ?_ | refine blk_alloc ?_ _)); exact BK351.out) hb); have n3_ := Aside0.mk (blk_below (g := gb359) (o := .cells #[.int .i64 t355, .int .i64 t356, .int .i64 t357] 37 (0, 0)) (by (with_reducible repeat (first | refine blk_drewN ?_ _ | refine blk_drew ?_ | refine blk_alloc ?_ _)); exact BK359.out) hb); have n4_ := Aside0.mk (below_step (by repeat (first | (with_reducible first | exact HB.out | apply below_alloc | apply pw_below_drewN | apply below_drew1 | refine below_set ?_ GE338.out | refine below_set ?_ GE351.out | refine below_set ?_ GE359.out) | exact HB.out)) hb); clear HO_4; clear BK338; clear BK351; clear BK359; clear HB; have HO_4 := n0_; have BK338 := n1_; have BK351 := n2_; have BK359 := n3_; have HB := n4_; clear n0_ n1_ n2_ n3_ n4_; (try clear hb); (try clear hb2); (try clear hk); (try clear hi); have hnb122 := NB351_338.out; have hnc122 := NB338_351.out; have hnb123 := NB351_359.out; have hnc123 := NB359_351.out; have hcz124_0 : w121.cell? ⟨gb351, 0, none⟩ = some (.int .i64 t347) := (blk_cell BK351.out 0).trans rfl; have hcz124_1 : w121.cell? ⟨gb351, 1, none⟩ = some (.int .i64 t348) := (blk_cell BK351.out 1).trans rfl; have hcz124_2 : w121.cell? ⟨gb351, 2, none⟩ = some (.int .i64 t349) := (blk_cell BK351.out 2).trans rfl; have hfz124_0 := blk_frozen BK351.out 0; have hfz124_1 := blk_frozen BK351.out 1; have hfz124_2 := blk_frozen BK351.out 2))
                    go_ret
                    exact ⟨by first | rfl | (simp [errW_none, errW_some] <;> rfl) | (simp [*, errW_none, errW_some] <;> rfl), by repeat (first | (with_reducible first | exact HB.out | apply below_alloc | apply pw_below_drewN | apply below_drew1 | refine below_set ?_ GE338.out | refine below_set ?_ GE351.out | refine below_set ?_ GE359.out) | exact HB.out)⟩
                · rw [if_neg c74] at H
                  have c74b0 : (t348 == 0) = false := beq_eq_false_iff_ne.mpr c74
                  have c74b1 : (t348 != 0) = true := bne_iff_ne.mpr c74
                  by_cases c125 : t348 > 0
                  · rw [if_pos c125] at H
                    have c125b0 : decide (0 < t348) = true := decide_eq_true c125
                    clear c125
                    by_cases c126 : t349 = (wrap64 ((wrap64 ((wrap64 ((wrap64 (t340 + 2)) + (wrap64 (t345 * 7)))) + (wrap64 (t346 * 9)))) - t348))
                    · rw [if_pos c126] at H
                      have c126b0 : (t349 == (wrap64 ((wrap64 ((wrap64 ((wrap64 (t340 + 2)) + (wrap64 (t345 * 7)))) + (wrap64 (t346 * 9)))) - t348))) = true := beq_iff_eq.mpr c126
                      have c126b1 : (t349 != (wrap64 ((wrap64 ((wrap64 ((wrap64 (t340 + 2)) + (wrap64 (t345 * 7)))) + (wrap64 (t346 * 9)))) - t348))) = false := bne_eq_false_iff_eq.mpr c126
                      clear c126
                      by_cases c127 : t349 < t340
                      · rw [if_pos c127] at H
                        have c127b0 : decide (t349 < t340) = true := decide_eq_true c127
                        clear c127
                        obtain rfl := Option.some.inj H
                        go_wp2_with (first | ((with_reducible refine gate_callee (f := 15) rfl ?_); refine goesL_ (some 119) rfl rfl Try.func15 (by kernel_rfl) rfl #[.slice Ao13 t335.length co13, .int .i64 t340, .int .i64 (wrap64 ((wrap64 ((wrap64 (t340 + 2)) + (wrap64 (t345 * 7)))) + (wrap64 (t346 * 9))))] rfl (by (try simp only [List.map_toArray, List.map_cons, List.map_nil]); first | done | rfl | (simp only [List.length_drop, List.length_take]; rfl)) ?_; (with_reducible refine (spec_WorkIn.calls kj28 _ _ t335 t340 (wrap64 ((wrap64 ((wrap64 (t340 + 2)) + (wrap64 (t345 * 7)))) + (wrap64 (t346 * 9)))) t360 _ ?side1 ?side2 A73.out).mono ?_); (case side1 => repeat (first | exact (Kd.R_reads' HO_4.out).2.2 | (with_reducible refine Kd.C_alloc ?_ _) | (with_reducible refine Kd.C_drewN ?_ _) | (with_reducible refine Kd.C_drew ?_))); (case side2 => exact (Kd.R_reads' HO_4.out).2.1); rintro e w128 ⟨rfl, hb⟩; refine ⟨_, rfl, ?_⟩; have n0_ := Aside0.mk (Kd.R_below (by (with_reducible repeat (first | apply Kd.R_alloc | apply Kd.R_drewN | apply Kd.R_drew)); exact HO_4.out) hb); have n1_ := Aside0.mk (blk_below (g := gb338) (o := .cells #[.int .i64 t331, .int .i64 t332, .int .i64 t333, .int .i64 t334] 29 (0, 0)) (by (with_reducible repeat (first | refine blk_drewN ?_ _ | refine blk_drew ?_ | refine blk_alloc ?_ _)); exact BK338.out) hb); have n2_ := Aside0.mk (blk_below (g := gb351) (o := .cells #[.int .i64 t347, .int .i64 t348, .int .i64 t349] 37 (0, 0)) (by (with_reducible repeat (first | refine blk_drewN ?_ _ | refine blk_drew ?_ | refine blk_alloc ?_ _)); exact BK351.out) hb); have n3_ := Aside0.mk (blk_below (g := gb359) (o := .cells #[.int .i64 t355, .int .i64 t356, .int .i64 t357] 37 (0, 0)) (by (with_reducible repeat (first | refine blk_drewN ?_ _ | refine blk_drew ?_ | refine blk_alloc ?_ _)); exact BK359.out) hb); have n4_ := Aside0.mk (below_step (by repeat (first | (with_reducible first | exact HB.out | apply below_alloc | apply pw_below_drewN | apply below_drew1 | refine below_set ?_ GE338.out | refine below_set ?_ GE351.out | refine below_set ?_ GE359.out) | exact HB.out)) hb); clear HO_4; clear BK338; clear BK351; clear BK359; clear HB; have HO_4 := n0_; have BK338 := n1_; have BK351 := n2_; have BK359 := n3_; have HB := n4_; clear n0_ n1_ n2_ n3_ n4_; (try clear hb); (try clear hb2); (try clear hk); (try clear hi); have hnb129 := NB351_338.out; have hnc129 := NB338_351.out; have hnb130 := NB351_359.out; have hnc130 := NB359_351.out; have hcz131_0 : w128.cell? ⟨gb351, 0, none⟩ = some (.int .i64 t347) := (blk_cell BK351.out 0).trans rfl; have hcz131_1 : w128.cell? ⟨gb351, 1, none⟩ = some (.int .i64 t348) := (blk_cell BK351.out 1).trans rfl; have hcz131_2 : w128.cell? ⟨gb351, 2, none⟩ = some (.int .i64 t349) := (blk_cell BK351.out 2).trans rfl; have hfz131_0 := blk_frozen BK351.out 0; have hfz131_1 := blk_frozen BK351.out 1; have hfz131_2 := blk_frozen BK351.out 2))
                        go_ret
                        exact ⟨by first | rfl | (simp [errW_none, errW_some] <;> rfl) | (simp [*, errW_none, errW_some] <;> rfl), by repeat (first | (with_reducible first | exact HB.out | apply below_alloc | apply pw_below_drewN | apply below_drew1 | refine below_set ?_ GE338.out | refine below_set ?_ GE351.out | refine below_set ?_ GE359.out) | exact HB.out)⟩
                      · rw [if_neg c127] at H
                        have c127b0 : decide (t349 < t340) = false := decide_eq_false c127
                        clear c127
                        replace H := Option.bind_eq_some_iff.mp H
                        obtain ⟨⟨t365, t366⟩, A1320, H⟩ := H
                        replace H : (if t366 = true then (if t365 ≥ 0 then (some true) else (some false)) else (some false)) = some r := H
                        have A132 := Aside0.mk A1320
                        clear A1320
                        by_cases c133 : t366 = true
                        · subst c133
                          have H1 : (if t365 ≥ 0 then (some true) else (some false)) = some r := by rw [if_pos rfl] at H; exact H
                          clear H
                          have H := H1
                          clear H1
                          by_cases c134 : t365 ≥ 0
                          · rw [if_pos c134] at H
                            have c134b0 : decide (0 ≤ t365) = true := decide_eq_true c134
                            clear c134
                            obtain rfl := Option.some.inj H
                            go_wp2_with (first | ((with_reducible refine gate_callee (f := 15) rfl ?_); refine goesL_ (some 119) rfl rfl Try.func15 (by kernel_rfl) rfl #[.slice Ao13 t335.length co13, .int .i64 t340, .int .i64 (wrap64 ((wrap64 ((wrap64 (t340 + 2)) + (wrap64 (t345 * 7)))) + (wrap64 (t346 * 9))))] rfl (by (try simp only [List.map_toArray, List.map_cons, List.map_nil]); first | done | rfl | (simp only [List.length_drop, List.length_take]; rfl)) ?_; (with_reducible refine (spec_WorkIn.calls kj28 _ _ t335 t340 (wrap64 ((wrap64 ((wrap64 (t340 + 2)) + (wrap64 (t345 * 7)))) + (wrap64 (t346 * 9)))) t360 _ ?side1 ?side2 A73.out).mono ?_); (case side1 => repeat (first | exact (Kd.R_reads' HO_4.out).2.2 | (with_reducible refine Kd.C_alloc ?_ _) | (with_reducible refine Kd.C_drewN ?_ _) | (with_reducible refine Kd.C_drew ?_))); (case side2 => exact (Kd.R_reads' HO_4.out).2.1); rintro e w135 ⟨rfl, hb⟩; refine ⟨_, rfl, ?_⟩; have n0_ := Aside0.mk (Kd.R_below (by (with_reducible repeat (first | apply Kd.R_alloc | apply Kd.R_drewN | apply Kd.R_drew)); exact HO_4.out) hb); have n1_ := Aside0.mk (blk_below (g := gb338) (o := .cells #[.int .i64 t331, .int .i64 t332, .int .i64 t333, .int .i64 t334] 29 (0, 0)) (by (with_reducible repeat (first | refine blk_drewN ?_ _ | refine blk_drew ?_ | refine blk_alloc ?_ _)); exact BK338.out) hb); have n2_ := Aside0.mk (blk_below (g := gb351) (o := .cells #[.int .i64 t347, .int .i64 t348, .int .i64 t349] 37 (0, 0)) (by (with_reducible repeat (first | refine blk_drewN ?_ _ | refine blk_drew ?_ | refine blk_alloc ?_ _)); exact BK351.out) hb); have n3_ := Aside0.mk (blk_below (g := gb359) (o := .cells #[.int .i64 t355, .int .i64 t356, .int .i64 t357] 37 (0, 0)) (by (with_reducible repeat (first | refine blk_drewN ?_ _ | refine blk_drew ?_ | refine blk_alloc ?_ _)); exact BK359.out) hb); have n4_ := Aside0.mk (below_step (by repeat (first | (with_reducible first | exact HB.out | apply below_alloc | apply pw_below_drewN | apply below_drew1 | refine below_set ?_ GE338.out | refine below_set ?_ GE351.out | refine below_set ?_ GE359.out) | exact HB.out)) hb); clear HO_4; clear BK338; clear BK351; clear BK359; clear HB; have HO_4 := n0_; have BK338 := n1_; have BK351 := n2_; have BK359 := n3_; have HB := n4_; clear n0_ n1_ n2_ n3_ n4_; (try clear hb); (try clear hb2); (try clear hk); (try clear hi); have hnb136 := NB351_338.out; have hnc136 := NB338_351.out; have hnb137 := NB351_359.out; have hnc137 := NB359_351.out; have hcz138_0 : w135.cell? ⟨gb351, 0, none⟩ = some (.int .i64 t347) := (blk_cell BK351.out 0).trans rfl; have hcz138_1 : w135.cell? ⟨gb351, 1, none⟩ = some (.int .i64 t348) := (blk_cell BK351.out 1).trans rfl; have hcz138_2 : w135.cell? ⟨gb351, 2, none⟩ = some (.int .i64 t349) := (blk_cell BK351.out 2).trans rfl; have hfz138_0 := blk_frozen BK351.out 0; have hfz138_1 := blk_frozen BK351.out 1; have hfz138_2 := blk_frozen BK351.out 2; have hnb139 := NB338_359.out; have hnc139 := NB359_338.out; have hcz140_0 : w135.cell? ⟨gb338, 0, none⟩ = some (.int .i64 t331) := (blk_cell BK338.out 0).trans rfl; have hcz140_1 : w135.cell? ⟨gb338, 1, none⟩ = some (.int .i64 t332) := (blk_cell BK338.out 1).trans rfl; have hcz140_2 : w135.cell? ⟨gb338, 2, none⟩ = some (.int .i64 t333) := (blk_cell BK338.out 2).trans rfl; have hcz140_3 : w135.cell? ⟨gb338, 3, none⟩ = some (.int .i64 t334) := (blk_cell BK338.out 3).trans rfl; have hfz140_0 := blk_frozen BK338.out 0; have hfz140_1 := blk_frozen BK338.out 1; have hfz140_2 := blk_frozen BK338.out 2; have hfz140_3 := blk_frozen BK338.out 3) | ((with_reducible refine gate_callee (f := 16) rfl ?_); refine goesL_ (some 156) rfl rfl Try.func16 (by kernel_rfl) rfl #[.agg #[.int .i64 t331, .int .i64 t332, .int .i64 t333, .int .i64 t334], .agg #[.int .i64 t347, .int .i64 t348, .int .i64 t349]] rfl (by (try simp only [List.map_toArray, List.map_cons, List.map_nil]); first | done | rfl | (simp only [List.length_drop, List.length_take]; rfl)) ?_; (with_reducible refine (impl_Owed.calls kj28 t331 t332 t333 t334 t347 t348 t349 t365 true _ A132.out).mono ?_); rintro e w141 ⟨rfl, hb⟩; refine ⟨_, rfl, ?_⟩; have n0_ := Aside0.mk (Kd.R_below (by (with_reducible repeat (first | apply Kd.R_alloc | apply Kd.R_drewN | apply Kd.R_drew)); exact HO_4.out) hb); have n1_ := Aside0.mk (blk_below (g := gb338) (o := .cells #[.int .i64 t331, .int .i64 t332, .int .i64 t333, .int .i64 t334] 29 (0, 0)) (by (with_reducible repeat (first | refine blk_drewN ?_ _ | refine blk_drew ?_ | refine blk_alloc ?_ _)); exact BK338.out) hb); have n2_ := Aside0.mk (blk_below (g := gb351) (o := .cells #[.int .i64 t347, .int .i64 t348, .int .i64 t349] 37 (0, 0)) (by (with_reducible repeat (first | refine blk_drewN ?_ _ | refine blk_drew ?_ | refine blk_alloc ?_ _)); exact BK351.out) hb); have n3_ := Aside0.mk (blk_below (g := gb359) (o := .cells #[.int .i64 t355, .int .i64 t356, .int .i64 t357] 37 (0, 0)) (by (with_reducible repeat (first | refine blk_drewN ?_ _ | refine blk_drew ?_ | refine blk_alloc ?_ _)); exact BK359.out) hb); have n4_ := Aside0.mk (below_step (by repeat (first | (with_reducible first | exact HB.out | apply below_alloc | apply pw_below_drewN | apply below_drew1 | refine below_set ?_ GE338.out | refine below_set ?_ GE351.out | refine below_set ?_ GE359.out) | exact HB.out)) hb); clear HO_4; clear BK338; clear BK351; clear BK359; clear HB; have HO_4 := n0_; have BK338 := n1_; have BK351 := n2_; have BK359 := n3_; have HB := n4_; clear n0_ n1_ n2_ n3_ n4_; (try clear hb); (try clear hb2); (try clear hk); (try clear hi); have hcz142_0 : w141.cell? ⟨gb351, 0, none⟩ = some (.int .i64 t347) := (blk_cell BK351.out 0).trans rfl; have hcz142_1 : w141.cell? ⟨gb351, 1, none⟩ = some (.int .i64 t348) := (blk_cell BK351.out 1).trans rfl; have hcz142_2 : w141.cell? ⟨gb351, 2, none⟩ = some (.int .i64 t349) := (blk_cell BK351.out 2).trans rfl; have hfz142_0 := blk_frozen BK351.out 0; have hfz142_1 := blk_frozen BK351.out 1; have hfz142_2 := blk_frozen BK351.out 2))
                            go_ret
                            exact ⟨by first | rfl | (simp [errW_none, errW_some] <;> rfl) | (simp [*, errW_none, errW_some] <;> rfl), by repeat (first | (with_reducible first | exact HB.out | apply below_alloc | apply pw_below_drewN | apply below_drew1 | refine below_set ?_ GE338.out | refine below_set ?_ GE351.out | refine below_set ?_ GE359.out) | exact HB.out)⟩
                          · rw [if_neg c134] at H
                            have c134b0 : decide (0 ≤ t365) = false := decide_eq_false c134
                            clear c134
                            obtain rfl := Option.some.inj H
                            go_wp2_with (first | ((with_reducible refine gate_callee (f := 15) rfl ?_); refine goesL_ (some 119) rfl rfl Try.func15 (by kernel_rfl) rfl #[.slice Ao13 t335.length co13, .int .i64 t340, .int .i64 (wrap64 ((wrap64 ((wrap64 (t340 + 2)) + (wrap64 (t345 * 7)))) + (wrap64 (t346 * 9))))] rfl (by (try simp only [List.map_toArray, List.map_cons, List.map_nil]); first | done | rfl | (simp only [List.length_drop, List.length_take]; rfl)) ?_; (with_reducible refine (spec_WorkIn.calls kj28 _ _ t335 t340 (wrap64 ((wrap64 ((wrap64 (t340 + 2)) + (wrap64 (t345 * 7)))) + (wrap64 (t346 * 9)))) t360 _ ?side1 ?side2 A73.out).mono ?_); (case side1 => repeat (first | exact (Kd.R_reads' HO_4.out).2.2 | (with_reducible refine Kd.C_alloc ?_ _) | (with_reducible refine Kd.C_drewN ?_ _) | (with_reducible refine Kd.C_drew ?_))); (case side2 => exact (Kd.R_reads' HO_4.out).2.1); rintro e w143 ⟨rfl, hb⟩; refine ⟨_, rfl, ?_⟩; have n0_ := Aside0.mk (Kd.R_below (by (with_reducible repeat (first | apply Kd.R_alloc | apply Kd.R_drewN | apply Kd.R_drew)); exact HO_4.out) hb); have n1_ := Aside0.mk (blk_below (g := gb338) (o := .cells #[.int .i64 t331, .int .i64 t332, .int .i64 t333, .int .i64 t334] 29 (0, 0)) (by (with_reducible repeat (first | refine blk_drewN ?_ _ | refine blk_drew ?_ | refine blk_alloc ?_ _)); exact BK338.out) hb); have n2_ := Aside0.mk (blk_below (g := gb351) (o := .cells #[.int .i64 t347, .int .i64 t348, .int .i64 t349] 37 (0, 0)) (by (with_reducible repeat (first | refine blk_drewN ?_ _ | refine blk_drew ?_ | refine blk_alloc ?_ _)); exact BK351.out) hb); have n3_ := Aside0.mk (blk_below (g := gb359) (o := .cells #[.int .i64 t355, .int .i64 t356, .int .i64 t357] 37 (0, 0)) (by (with_reducible repeat (first | refine blk_drewN ?_ _ | refine blk_drew ?_ | refine blk_alloc ?_ _)); exact BK359.out) hb); have n4_ := Aside0.mk (below_step (by repeat (first | (with_reducible first | exact HB.out | apply below_alloc | apply pw_below_drewN | apply below_drew1 | refine below_set ?_ GE338.out | refine below_set ?_ GE351.out | refine below_set ?_ GE359.out) | exact HB.out)) hb); clear HO_4; clear BK338; clear BK351; clear BK359; clear HB; have HO_4 := n0_; have BK338 := n1_; have BK351 := n2_; have BK359 := n3_; have HB := n4_; clear n0_ n1_ n2_ n3_ n4_; (try clear hb); (try clear hb2); (try clear hk); (try clear hi); have hnb144 := NB351_338.out; have hnc144 := NB338_351.out; have hnb145 := NB351_359.out; have hnc145 := NB359_351.out; have hcz146_0 : w143.cell? ⟨gb351, 0, none⟩ = some (.int .i64 t347) := (blk_cell BK351.out 0).trans rfl; have hcz146_1 : w143.cell? ⟨gb351, 1, none⟩ = some (.int .i64 t348) := (blk_cell BK351.out 1).trans rfl; have hcz146_2 : w143.cell? ⟨gb351, 2, none⟩ = some (.int .i64 t349) := (blk_cell BK351.out 2).trans rfl; have hfz146_0 := blk_frozen BK351.out 0; have hfz146_1 := blk_frozen BK351.out 1; have hfz146_2 := blk_frozen BK351.out 2; have hnb147 := NB338_359.out; have hnc147 := NB359_338.out; have hcz148_0 : w143.cell? ⟨gb338, 0, none⟩ = some (.int .i64 t331) := (blk_cell BK338.out 0).trans rfl; have hcz148_1 : w143.cell? ⟨gb338, 1, none⟩ = some (.int .i64 t332) := (blk_cell BK338.out 1).trans rfl; have hcz148_2 : w143.cell? ⟨gb338, 2, none⟩ = some (.int .i64 t333) := (blk_cell BK338.out 2).trans rfl; have hcz148_3 : w143.cell? ⟨gb338, 3, none⟩ = some (.int .i64 t334) := (blk_cell BK338.out 3).trans rfl; have hfz148_0 := blk_frozen BK338.out 0; have hfz148_1 := blk_frozen BK338.out 1; have hfz148_2 := blk_frozen BK338.out 2; have hfz148_3 := blk_frozen BK338.out 3) | ((with_reducible refine gate_callee (f := 16) rfl ?_); refine goesL_ (some 156) rfl rfl Try.func16 (by kernel_rfl) rfl #[.agg #[.int .i64 t331, .int .i64 t332, .int .i64 t333, .int .i64 t334], .agg #[.int .i64 t347, .int .i64 t348, .int .i64 t349]] rfl (by (try simp only [List.map_toArray, List.map_cons, List.map_nil]); first | done | rfl | (simp only [List.length_drop, List.length_take]; rfl)) ?_; (with_reducible refine (impl_Owed.calls kj28 t331 t332 t333 t334 t347 t348 t349 t365 true _ A132.out).mono ?_); rintro e w149 ⟨rfl, hb⟩; refine ⟨_, rfl, ?_⟩; have n0_ := Aside0.mk (Kd.R_below (by (with_reducible repeat (first | apply Kd.R_alloc | apply Kd.R_drewN | apply Kd.R_drew)); exact HO_4.out) hb); have n1_ := Aside0.mk (blk_below (g := gb338) (o := .cells #[.int .i64 t331, .int .i64 t332, .int .i64 t333, .int .i64 t334] 29 (0, 0)) (by (with_reducible repeat (first | refine blk_drewN ?_ _ | refine blk_drew ?_ | refine blk_alloc ?_ _)); exact BK338.out) hb); have n2_ := Aside0.mk (blk_below (g := gb351) (o := .cells #[.int .i64 t347, .int .i64 t348, .int .i64 t349] 37 (0, 0)) (by (with_reducible repeat (first | refine blk_drewN ?_ _ | refine blk_drew ?_ | refine blk_alloc ?_ _)); exact BK351.out) hb); have n3_ := Aside0.mk (blk_below (g := gb359) (o := .cells #[.int .i64 t355, .int .i64 t356, .int .i64 t357] 37 (0, 0)) (by (with_reducible repeat (first | refine blk_drewN ?_ _ | refine blk_drew ?_ | refine blk_alloc ?_ _)); exact BK359.out) hb); have n4_ := Aside0.mk (below_step (by repeat (first | (with_reducible first | exact HB.out | apply below_alloc | apply pw_below_drewN | apply below_drew1 | refine below_set ?_ GE338.out | refine below_set ?_ GE351.out | refine below_set ?_ GE359.out) | exact HB.out)) hb); clear HO_4; clear BK338; clear BK351; clear BK359; clear HB; have HO_4 := n0_; have BK338 := n1_; have BK351 := n2_; have BK359 := n3_; have HB := n4_; clear n0_ n1_ n2_ n3_ n4_; (try clear hb); (try clear hb2); (try clear hk); (try clear hi); have hcz150_0 : w149.cell? ⟨gb351, 0, none⟩ = some (.int .i64 t347) := (blk_cell BK351.out 0).trans rfl; have hcz150_1 : w149.cell? ⟨gb351, 1, none⟩ = some (.int .i64 t348) := (blk_cell BK351.out 1).trans rfl; have hcz150_2 : w149.cell? ⟨gb351, 2, none⟩ = some (.int .i64 t349) := (blk_cell BK351.out 2).trans rfl; have hfz150_0 := blk_frozen BK351.out 0; have hfz150_1 := blk_frozen BK351.out 1; have hfz150_2 := blk_frozen BK351.out 2))
                            go_ret
                            exact ⟨by first | rfl | (simp [errW_none, errW_some] <;> rfl) | (simp [*, errW_none, errW_some] <;> rfl), by repeat (first | (with_reducible first | exact HB.out | apply below_alloc | apply pw_below_drewN | apply below_drew1 | refine below_set ?_ GE338.out | refine below_set ?_ GE351.out | refine below_set ?_ GE359.out) | exact HB.out)⟩
                        · replace c133 := Bool.eq_false_iff.mpr c133
                          subst c133
                          have H1 : (some false) = some r := by rw [if_neg (show ¬ (false = true) by decide)] at H; exact H
                          clear H
                          have H := H1
                          clear H1
                          obtain rfl := Option.some.inj H
                          go_wp2_with (first | ((with_reducible refine gate_callee (f := 15) rfl ?_); refine goesL_ (some 119) rfl rfl Try.func15 (by kernel_rfl) rfl #[.slice Ao13 t335.length co13, .int .i64 t340, .int .i64 (wrap64 ((wrap64 ((wrap64 (t340 + 2)) + (wrap64 (t345 * 7)))) + (wrap64 (t346 * 9))))] rfl (by (try simp only [List.map_toArray, List.map_cons, List.map_nil]); first | done | rfl | (simp only [List.length_drop, List.length_take]; rfl)) ?_; (with_reducible refine (spec_WorkIn.calls kj28 _ _ t335 t340 (wrap64 ((wrap64 ((wrap64 (t340 + 2)) + (wrap64 (t345 * 7)))) + (wrap64 (t346 * 9)))) t360 _ ?side1 ?side2 A73.out).mono ?_); (case side1 => repeat (first | exact (Kd.R_reads' HO_4.out).2.2 | (with_reducible refine Kd.C_alloc ?_ _) | (with_reducible refine Kd.C_drewN ?_ _) | (with_reducible refine Kd.C_drew ?_))); (case side2 => exact (Kd.R_reads' HO_4.out).2.1); rintro e w151 ⟨rfl, hb⟩; refine ⟨_, rfl, ?_⟩; have n0_ := Aside0.mk (Kd.R_below (by (with_reducible repeat (first | apply Kd.R_alloc | apply Kd.R_drewN | apply Kd.R_drew)); exact HO_4.out) hb); have n1_ := Aside0.mk (blk_below (g := gb338) (o := .cells #[.int .i64 t331, .int .i64 t332, .int .i64 t333, .int .i64 t334] 29 (0, 0)) (by (with_reducible repeat (first | refine blk_drewN ?_ _ | refine blk_drew ?_ | refine blk_alloc ?_ _)); exact BK338.out) hb); have n2_ := Aside0.mk (blk_below (g := gb351) (o := .cells #[.int .i64 t347, .int .i64 t348, .int .i64 t349] 37 (0, 0)) (by (with_reducible repeat (first | refine blk_drewN ?_ _ | refine blk_drew ?_ | refine blk_alloc ?_ _)); exact BK351.out) hb); have n3_ := Aside0.mk (blk_below (g := gb359) (o := .cells #[.int .i64 t355, .int .i64 t356, .int .i64 t357] 37 (0, 0)) (by (with_reducible repeat (first | refine blk_drewN ?_ _ | refine blk_drew ?_ | refine blk_alloc ?_ _)); exact BK359.out) hb); have n4_ := Aside0.mk (below_step (by repeat (first | (with_reducible first | exact HB.out | apply below_alloc | apply pw_below_drewN | apply below_drew1 | refine below_set ?_ GE338.out | refine below_set ?_ GE351.out | refine below_set ?_ GE359.out) | exact HB.out)) hb); clear HO_4; clear BK338; clear BK351; clear BK359; clear HB; have HO_4 := n0_; have BK338 := n1_; have BK351 := n2_; have BK359 := n3_; have HB := n4_; clear n0_ n1_ n2_ n3_ n4_; (try clear hb); (try clear hb2); (try clear hk); (try clear hi); have hnb152 := NB351_338.out; have hnc152 := NB338_351.out; have hnb153 := NB351_359.out; have hnc153 := NB359_351.out; have hcz154_0 : w151.cell? ⟨gb351, 0, none⟩ = some (.int .i64 t347) := (blk_cell BK351.out 0).trans rfl; have hcz154_1 : w151.cell? ⟨gb351, 1, none⟩ = some (.int .i64 t348) := (blk_cell BK351.out 1).trans rfl; have hcz154_2 : w151.cell? ⟨gb351, 2, none⟩ = some (.int .i64 t349) := (blk_cell BK351.out 2).trans rfl; have hfz154_0 := blk_frozen BK351.out 0; have hfz154_1 := blk_frozen BK351.out 1; have hfz154_2 := blk_frozen BK351.out 2; have hnb155 := NB338_359.out; have hnc155 := NB359_338.out; have hcz156_0 : w151.cell? ⟨gb338, 0, none⟩ = some (.int .i64 t331) := (blk_cell BK338.out 0).trans rfl; have hcz156_1 : w151.cell? ⟨gb338, 1, none⟩ = some (.int .i64 t332) := (blk_cell BK338.out 1).trans rfl; have hcz156_2 : w151.cell? ⟨gb338, 2, none⟩ = some (.int .i64 t333) := (blk_cell BK338.out 2).trans rfl; have hcz156_3 : w151.cell? ⟨gb338, 3, none⟩ = some (.int .i64 t334) := (blk_cell BK338.out 3).trans rfl; have hfz156_0 := blk_frozen BK338.out 0; have hfz156_1 := blk_frozen BK338.out 1; have hfz156_2 := blk_frozen BK338.out 2; have hfz156_3 := blk_frozen BK338.out 3) | ((with_reducible refine gate_callee (f := 16) rfl ?_); refine goesL_ (some 156) rfl rfl Try.func16 (by kernel_rfl) rfl #[.agg #[.int .i64 t331, .int .i64 t332, .int .i64 t333, .int .i64 t334], .agg #[.int .i64 t347, .int .i64 t348, .int .i64 t349]] rfl (by (try simp only [List.map_toArray, List.map_cons, List.map_nil]); first | done | rfl | (simp only [List.length_drop, List.length_take]; rfl)) ?_; (with_reducible refine (impl_Owed.calls kj28 t331 t332 t333 t334 t347 t348 t349 t365 false _ A132.out).mono ?_); rintro e w157 ⟨rfl, hb⟩; refine ⟨_, rfl, ?_⟩; have n0_ := Aside0.mk (Kd.R_below (by (with_reducible repeat (first | apply Kd.R_alloc | apply Kd.R_drewN | apply Kd.R_drew)); exact HO_4.out) hb); have n1_ := Aside0.mk (blk_below (g := gb338) (o := .cells #[.int .i64 t331, .int .i64 t332, .int .i64 t333, .int .i64 t334] 29 (0, 0)) (by (with_reducible repeat (first | refine blk_drewN ?_ _ | refine blk_drew ?_ | refine blk_alloc ?_ _)); exact BK338.out) hb); have n2_ := Aside0.mk (blk_below (g := gb351) (o := .cells #[.int .i64 t347, .int .i64 t348, .int .i64 t349] 37 (0, 0)) (by (with_reducible repeat (first | refine blk_drewN ?_ _ | refine blk_drew ?_ | refine blk_alloc ?_ _)); exact BK351.out) hb); have n3_ := Aside0.mk (blk_below (g := gb359) (o := .cells #[.int .i64 t355, .int .i64 t356, .int .i64 t357] 37 (0, 0)) (by (with_reducible repeat (first | refine blk_drewN ?_ _ | refine blk_drew ?_ | refine blk_alloc ?_ _)); exact BK359.out) hb); have n4_ := Aside0.mk (below_step (by repeat (first | (with_reducible first | exact HB.out | apply below_alloc | apply pw_below_drewN | apply below_drew1 | refine below_set ?_ GE338.out | refine below_set ?_ GE351.out | refine below_set ?_ GE359.out) | exact HB.out)) hb); clear HO_4; clear BK338; clear BK351; clear BK359; clear HB; have HO_4 := n0_; have BK338 := n1_; have BK351 := n2_; have BK359 := n3_; have HB := n4_; clear n0_ n1_ n2_ n3_ n4_; (try clear hb); (try clear hb2); (try clear hk); (try clear hi)))
                          go_ret
                          exact ⟨by first | rfl | (simp [errW_none, errW_some] <;> rfl) | (simp [*, errW_none, errW_some] <;> rfl), by repeat (first | (with_reducible first | exact HB.out | apply below_alloc | apply pw_below_drewN | apply below_drew1 | refine below_set ?_ GE338.out | refine below_set ?_ GE351.out | refine below_set ?_ GE359.out) | exact HB.out)⟩
                    · rw [if_neg c126] at H
                      have c126b0 : (t349 == (wrap64 ((wrap64 ((wrap64 ((wrap64 (t340 + 2)) + (wrap64 (t345 * 7)))) + (wrap64 (t346 * 9)))) - t348))) = false := beq_eq_false_iff_ne.mpr c126
                      have c126b1 : (t349 != (wrap64 ((wrap64 ((wrap64 ((wrap64 (t340 + 2)) + (wrap64 (t345 * 7)))) + (wrap64 (t346 * 9)))) - t348))) = true := bne_iff_ne.mpr c126
                      obtain rfl := Option.some.inj H
                      go_wp2_with (first | ((with_reducible refine gate_callee (f := 15) rfl ?_); refine goesL_ (some 119) rfl rfl Try.func15 (by kernel_rfl) rfl #[.slice Ao13 t335.length co13, .int .i64 t340, .int .i64 (wrap64 ((wrap64 ((wrap64 (t340 + 2)) + (wrap64 (t345 * 7)))) + (wrap64 (t346 * 9))))] rfl (by (try simp only [List.map_toArray, List.map_cons, List.map_nil]); first | done | rfl | (simp only [List.length_drop, List.length_take]; rfl)) ?_; (with_reducible refine (spec_WorkIn.calls kj28 _ _ t335 t340 (wrap64 ((wrap64 ((wrap64 (t340 + 2)) + (wrap64 (t345 * 7)))) + (wrap64 (t346 * 9)))) t360 _ ?side1 ?side2 A73.out).mono ?_); (case side1 => repeat (first | exact (Kd.R_reads' HO_4.out).2.2 | (with_reducible refine Kd.C_alloc ?_ _) | (with_reducible refine Kd.C_drewN ?_ _) | (with_reducible refine Kd.C_drew ?_))); (case side2 => exact (Kd.R_reads' HO_4.out).2.1); rintro e w158 ⟨rfl, hb⟩; refine ⟨_, rfl, ?_⟩; have n0_ := Aside0.mk (Kd.R_below (by (with_reducible repeat (first | apply Kd.R_alloc | apply Kd.R_drewN | apply Kd.R_drew)); exact HO_4.out) hb); have n1_ := Aside0.mk (blk_below (g := gb338) (o := .cells #[.int .i64 t331, .int .i64 t332, .int .i64 t333, .int .i64 t334] 29 (0, 0)) (by (with_reducible repeat (first | refine blk_drewN ?_ _ | refine blk_drew ?_ | refine blk_alloc ?_ _)); exact BK338.out) hb); have n2_ := Aside0.mk (blk_below (g := gb351) (o := .cells #[.int .i64 t347, .int .i64 t348, .int .i64 t349] 37 (0, 0)) (by (with_reducible repeat (first | refine blk_drewN ?_ _ | refine blk_drew ?_ | refine blk_alloc ?_ _)); exact BK351.out) hb); have n3_ := Aside0.mk (blk_below (g := gb359) (o := .cells #[.int .i64 t355, .int .i64 t356, .int .i64 t357] 37 (0, 0)) (by (with_reducible repeat (first | refine blk_drewN ?_ _ | refine blk_drew ?_ | refine blk_alloc ?_ _)); exact BK359.out) hb); have n4_ := Aside0.mk (below_step (by repeat (first | (with_reducible first | exact HB.out | apply below_alloc | apply pw_below_drewN | apply below_drew1 | refine below_set ?_ GE338.out | refine below_set ?_ GE351.out | refine below_set ?_ GE359.out) | exact HB.out)) hb); clear HO_4; clear BK338; clear BK351; clear BK359; clear HB; have HO_4 := n0_; have BK338 := n1_; have BK351 := n2_; have BK359 := n3_; have HB := n4_; clear n0_ n1_ n2_ n3_ n4_; (try clear hb); (try clear hb2); (try clear hk); (try clear hi); have hnb159 := NB351_338.out; have hnc159 := NB338_351.out; have hnb160 := NB351_359.out; have hnc160 := NB359_351.out; have hcz161_0 : w158.cell? ⟨gb351, 0, none⟩ = some (.int .i64 t347) := (blk_cell BK351.out 0).trans rfl; have hcz161_1 : w158.cell? ⟨gb351, 1, none⟩ = some (.int .i64 t348) := (blk_cell BK351.out 1).trans rfl; have hcz161_2 : w158.cell? ⟨gb351, 2, none⟩ = some (.int .i64 t349) := (blk_cell BK351.out 2).trans rfl; have hfz161_0 := blk_frozen BK351.out 0; have hfz161_1 := blk_frozen BK351.out 1; have hfz161_2 := blk_frozen BK351.out 2))
                      go_ret
                      exact ⟨by first | rfl | (simp [errW_none, errW_some] <;> rfl) | (simp [*, errW_none, errW_some] <;> rfl), by repeat (first | (with_reducible first | exact HB.out | apply below_alloc | apply pw_below_drewN | apply below_drew1 | refine below_set ?_ GE338.out | refine below_set ?_ GE351.out | refine below_set ?_ GE359.out) | exact HB.out)⟩
                  · rw [if_neg c125] at H
                    have c125b0 : decide (0 < t348) = false := decide_eq_false c125
                    clear c125
                    replace H := Option.bind_eq_some_iff.mp H
                    obtain ⟨⟨t367, t368⟩, A1620, H⟩ := H
                    replace H : (if t368 = true then (if t367 ≥ 0 then (some (decide (t367 ≤ 0))) else (some false)) else (some false)) = some r := H
                    have A162 := Aside0.mk A1620
                    clear A1620
                    by_cases c163 : t368 = true
                    · subst c163
                      have H1 : (if t367 ≥ 0 then (some (decide (t367 ≤ 0))) else (some false)) = some r := by rw [if_pos rfl] at H; exact H
                      clear H
                      have H := H1
                      clear H1
                      by_cases c164 : t367 ≥ 0
                      · rw [if_pos c164] at H
                        have c164b0 : decide (0 ≤ t367) = true := decide_eq_true c164
                        clear c164
                        obtain rfl := Option.some.inj H
                        go_wp2_with (first | ((with_reducible refine gate_callee (f := 15) rfl ?_); refine goesL_ (some 119) rfl rfl Try.func15 (by kernel_rfl) rfl #[.slice Ao13 t335.length co13, .int .i64 t340, .int .i64 (wrap64 ((wrap64 ((wrap64 (t340 + 2)) + (wrap64 (t345 * 7)))) + (wrap64 (t346 * 9))))] rfl (by (try simp only [List.map_toArray, List.map_cons, List.map_nil]); first | done | rfl | (simp only [List.length_drop, List.length_take]; rfl)) ?_; (with_reducible refine (spec_WorkIn.calls kj28 _ _ t335 t340 (wrap64 ((wrap64 ((wrap64 (t340 + 2)) + (wrap64 (t345 * 7)))) + (wrap64 (t346 * 9)))) t360 _ ?side1 ?side2 A73.out).mono ?_); (case side1 => repeat (first | exact (Kd.R_reads' HO_4.out).2.2 | (with_reducible refine Kd.C_alloc ?_ _) | (with_reducible refine Kd.C_drewN ?_ _) | (with_reducible refine Kd.C_drew ?_))); (case side2 => exact (Kd.R_reads' HO_4.out).2.1); rintro e w165 ⟨rfl, hb⟩; refine ⟨_, rfl, ?_⟩; have n0_ := Aside0.mk (Kd.R_below (by (with_reducible repeat (first | apply Kd.R_alloc | apply Kd.R_drewN | apply Kd.R_drew)); exact HO_4.out) hb); have n1_ := Aside0.mk (blk_below (g := gb338) (o := .cells #[.int .i64 t331, .int .i64 t332, .int .i64 t333, .int .i64 t334] 29 (0, 0)) (by (with_reducible repeat (first | refine blk_drewN ?_ _ | refine blk_drew ?_ | refine blk_alloc ?_ _)); exact BK338.out) hb); have n2_ := Aside0.mk (blk_below (g := gb351) (o := .cells #[.int .i64 t347, .int .i64 t348, .int .i64 t349] 37 (0, 0)) (by (with_reducible repeat (first | refine blk_drewN ?_ _ | refine blk_drew ?_ | refine blk_alloc ?_ _)); exact BK351.out) hb); have n3_ := Aside0.mk (blk_below (g := gb359) (o := .cells #[.int .i64 t355, .int .i64 t356, .int .i64 t357] 37 (0, 0)) (by (with_reducible repeat (first | refine blk_drewN ?_ _ | refine blk_drew ?_ | refine blk_alloc ?_ _)); exact BK359.out) hb); have n4_ := Aside0.mk (below_step (by repeat (first | (with_reducible first | exact HB.out | apply below_alloc | apply pw_below_drewN | apply below_drew1 | refine below_set ?_ GE338.out | refine below_set ?_ GE351.out | refine below_set ?_ GE359.out) | exact HB.out)) hb); clear HO_4; clear BK338; clear BK351; clear BK359; clear HB; have HO_4 := n0_; have BK338 := n1_; have BK351 := n2_; have BK359 := n3_; have HB := n4_; clear n0_ n1_ n2_ n3_ n4_; (try clear hb); (try clear hb2); (try clear hk); (try clear hi); have hnb166 := NB351_338.out; have hnc166 := NB338_351.out; have hnb167 := NB351_359.out; have hnc167 := NB359_351.out; have hcz168_0 : w165.cell? ⟨gb351, 0, none⟩ = some (.int .i64 t347) := (blk_cell BK351.out 0).trans rfl; have hcz168_1 : w165.cell? ⟨gb351, 1, none⟩ = some (.int .i64 t348) := (blk_cell BK351.out 1).trans rfl; have hcz168_2 : w165.cell? ⟨gb351, 2, none⟩ = some (.int .i64 t349) := (blk_cell BK351.out 2).trans rfl; have hfz168_0 := blk_frozen BK351.out 0; have hfz168_1 := blk_frozen BK351.out 1; have hfz168_2 := blk_frozen BK351.out 2; have hnb169 := NB338_359.out; have hnc169 := NB359_338.out; have hcz170_0 : w165.cell? ⟨gb338, 0, none⟩ = some (.int .i64 t331) := (blk_cell BK338.out 0).trans rfl; have hcz170_1 : w165.cell? ⟨gb338, 1, none⟩ = some (.int .i64 t332) := (blk_cell BK338.out 1).trans rfl; have hcz170_2 : w165.cell? ⟨gb338, 2, none⟩ = some (.int .i64 t333) := (blk_cell BK338.out 2).trans rfl; have hcz170_3 : w165.cell? ⟨gb338, 3, none⟩ = some (.int .i64 t334) := (blk_cell BK338.out 3).trans rfl; have hfz170_0 := blk_frozen BK338.out 0; have hfz170_1 := blk_frozen BK338.out 1; have hfz170_2 := blk_frozen BK338.out 2; have hfz170_3 := blk_frozen BK338.out 3) | ((with_reducible refine gate_callee (f := 16) rfl ?_); refine goesL_ (some 156) rfl rfl Try.func16 (by kernel_rfl) rfl #[.agg #[.int .i64 t331, .int .i64 t332, .int .i64 t333, .int .i64 t334], .agg #[.int .i64 t347, .int .i64 t348, .int .i64 t349]] rfl (by (try simp only [List.map_toArray, List.map_cons, List.map_nil]); first | done | rfl | (simp only [List.length_drop, List.length_take]; rfl)) ?_; (with_reducible refine (impl_Owed.calls kj28 t331 t332 t333 t334 t347 t348 t349 t367 true _ A162.out).mono ?_); rintro e w171 ⟨rfl, hb⟩; refine ⟨_, rfl, ?_⟩; have n0_ := Aside0.mk (Kd.R_below (by (with_reducible repeat (first | apply Kd.R_alloc | apply Kd.R_drewN | apply Kd.R_drew)); exact HO_4.out) hb); have n1_ := Aside0.mk (blk_below (g := gb338) (o := .cells #[.int .i64 t331, .int .i64 t332, .int .i64 t333, .int .i64 t334] 29 (0, 0)) (by (with_reducible repeat (first | refine blk_drewN ?_ _ | refine blk_drew ?_ | refine blk_alloc ?_ _)); exact BK338.out) hb); have n2_ := Aside0.mk (blk_below (g := gb351) (o := .cells #[.int .i64 t347, .int .i64 t348, .int .i64 t349] 37 (0, 0)) (by (with_reducible repeat (first | refine blk_drewN ?_ _ | refine blk_drew ?_ | refine blk_alloc ?_ _)); exact BK351.out) hb); have n3_ := Aside0.mk (blk_below (g := gb359) (o := .cells #[.int .i64 t355, .int .i64 t356, .int .i64 t357] 37 (0, 0)) (by (with_reducible repeat (first | refine blk_drewN ?_ _ | refine blk_drew ?_ | refine blk_alloc ?_ _)); exact BK359.out) hb); have n4_ := Aside0.mk (below_step (by repeat (first | (with_reducible first | exact HB.out | apply below_alloc | apply pw_below_drewN | apply below_drew1 | refine below_set ?_ GE338.out | refine below_set ?_ GE351.out | refine below_set ?_ GE359.out) | exact HB.out)) hb); clear HO_4; clear BK338; clear BK351; clear BK359; clear HB; have HO_4 := n0_; have BK338 := n1_; have BK351 := n2_; have BK359 := n3_; have HB := n4_; clear n0_ n1_ n2_ n3_ n4_; (try clear hb); (try clear hb2); (try clear hk); (try clear hi); have hcz172_0 : w171.cell? ⟨gb351, 0, none⟩ = some (.int .i64 t347) := (blk_cell BK351.out 0).trans rfl; have hcz172_1 : w171.cell? ⟨gb351, 1, none⟩ = some (.int .i64 t348) := (blk_cell BK351.out 1).trans rfl; have hcz172_2 : w171.cell? ⟨gb351, 2, none⟩ = some (.int .i64 t349) := (blk_cell BK351.out 2).trans rfl; have hfz172_0 := blk_frozen BK351.out 0; have hfz172_1 := blk_frozen BK351.out 1; have hfz172_2 := blk_frozen BK351.out 2))
                        go_ret
                        exact ⟨by first | rfl | (simp [errW_none, errW_some] <;> rfl) | (simp [*, errW_none, errW_some] <;> rfl), by repeat (first | (with_reducible first | exact HB.out | apply below_alloc | apply pw_below_drewN | apply below_drew1 | refine below_set ?_ GE338.out | refine below_set ?_ GE351.out | refine below_set ?_ GE359.out) | exact HB.out)⟩
                      · rw [if_neg c164] at H
                        have c164b0 : decide (0 ≤ t367) = false := decide_eq_false c164
                        clear c164
                        obtain rfl := Option.some.inj H
                        go_wp2_with (first | ((with_reducible refine gate_callee (f := 15) rfl ?_); refine goesL_ (some 119) rfl rfl Try.func15 (by kernel_rfl) rfl #[.slice Ao13 t335.length co13, .int .i64 t340, .int .i64 (wrap64 ((wrap64 ((wrap64 (t340 + 2)) + (wrap64 (t345 * 7)))) + (wrap64 (t346 * 9))))] rfl (by (try simp only [List.map_toArray, List.map_cons, List.map_nil]); first | done | rfl | (simp only [List.length_drop, List.length_take]; rfl)) ?_; (with_reducible refine (spec_WorkIn.calls kj28 _ _ t335 t340 (wrap64 ((wrap64 ((wrap64 (t340 + 2)) + (wrap64 (t345 * 7)))) + (wrap64 (t346 * 9)))) t360 _ ?side1 ?side2 A73.out).mono ?_); (case side1 => repeat (first | exact (Kd.R_reads' HO_4.out).2.2 | (with_reducible refine Kd.C_alloc ?_ _) | (with_reducible refine Kd.C_drewN ?_ _) | (with_reducible refine Kd.C_drew ?_))); (case side2 => exact (Kd.R_reads' HO_4.out).2.1); rintro e w173 ⟨rfl, hb⟩; refine ⟨_, rfl, ?_⟩; have n0_ := Aside0.mk (Kd.R_below (by (with_reducible repeat (first | apply Kd.R_alloc | apply Kd.R_drewN | apply Kd.R_drew)); exact HO_4.out) hb); have n1_ := Aside0.mk (blk_below (g := gb338) (o := .cells #[.int .i64 t331, .int .i64 t332, .int .i64 t333, .int .i64 t334] 29 (0, 0)) (by (with_reducible repeat (first | refine blk_drewN ?_ _ | refine blk_drew ?_ | refine blk_alloc ?_ _)); exact BK338.out) hb); have n2_ := Aside0.mk (blk_below (g := gb351) (o := .cells #[.int .i64 t347, .int .i64 t348, .int .i64 t349] 37 (0, 0)) (by (with_reducible repeat (first | refine blk_drewN ?_ _ | refine blk_drew ?_ | refine blk_alloc ?_ _)); exact BK351.out) hb); have n3_ := Aside0.mk (blk_below (g := gb359) (o := .cells #[.int .i64 t355, .int .i64 t356, .int .i64 t357] 37 (0, 0)) (by (with_reducible repeat (first | refine blk_drewN ?_ _ | refine blk_drew ?_ | refine blk_alloc ?_ _)); exact BK359.out) hb); have n4_ := Aside0.mk (below_step (by repeat (first | (with_reducible first | exact HB.out | apply below_alloc | apply pw_below_drewN | apply below_drew1 | refine below_set ?_ GE338.out | refine below_set ?_ GE351.out | refine below_set ?_ GE359.out) | exact HB.out)) hb); clear HO_4; clear BK338; clear BK351; clear BK359; clear HB; have HO_4 := n0_; have BK338 := n1_; have BK351 := n2_; have BK359 := n3_; have HB := n4_; clear n0_ n1_ n2_ n3_ n4_; (try clear hb); (try clear hb2); (try clear hk); (try clear hi); have hnb174 := NB351_338.out; have hnc174 := NB338_351.out; have hnb175 := NB351_359.out; have hnc175 := NB359_351.out; have hcz176_0 : w173.cell? ⟨gb351, 0, none⟩ = some (.int .i64 t347) := (blk_cell BK351.out 0).trans rfl; have hcz176_1 : w173.cell? ⟨gb351, 1, none⟩ = some (.int .i64 t348) := (blk_cell BK351.out 1).trans rfl; have hcz176_2 : w173.cell? ⟨gb351, 2, none⟩ = some (.int .i64 t349) := (blk_cell BK351.out 2).trans rfl; have hfz176_0 := blk_frozen BK351.out 0; have hfz176_1 := blk_frozen BK351.out 1; have hfz176_2 := blk_frozen BK351.out 2; have hnb177 := NB338_359.out; have hnc177 := NB359_338.out; have hcz178_0 : w173.cell? ⟨gb338, 0, none⟩ = some (.int .i64 t331) := (blk_cell BK338.out 0).trans rfl; have hcz178_1 : w173.cell? ⟨gb338, 1, none⟩ = some (.int .i64 t332) := (blk_cell BK338.out 1).trans rfl; have hcz178_2 : w173.cell? ⟨gb338, 2, none⟩ = some (.int .i64 t333) := (blk_cell BK338.out 2).trans rfl; have hcz178_3 : w173.cell? ⟨gb338, 3, none⟩ = some (.int .i64 t334) := (blk_cell BK338.out 3).trans rfl; have hfz178_0 := blk_frozen BK338.out 0; have hfz178_1 := blk_frozen BK338.out 1; have hfz178_2 := blk_frozen BK338.out 2; have hfz178_3 := blk_frozen BK338.out 3) | ((with_reducible refine gate_callee (f := 16) rfl ?_); refine goesL_ (some 156) rfl rfl Try.func16 (by kernel_rfl) rfl #[.agg #[.int .i64 t331, .int .i64 t332, .int .i64 t333, .int .i64 t334], .agg #[.int .i64 t347, .int .i64 t348, .int .i64 t349]] rfl (by (try simp only [List.map_toArray, List.map_cons, List.map_nil]); first | done | rfl | (simp only [List.length_drop, List.length_take]; rfl)) ?_; (with_reducible refine (impl_Owed.calls kj28 t331 t332 t333 t334 t347 t348 t349 t367 true _ A162.out).mono ?_); rintro e w179 ⟨rfl, hb⟩; refine ⟨_, rfl, ?_⟩; have n0_ := Aside0.mk (Kd.R_below (by (with_reducible repeat (first | apply Kd.R_alloc | apply Kd.R_drewN | apply Kd.R_drew)); exact HO_4.out) hb); have n1_ := Aside0.mk (blk_below (g := gb338) (o := .cells #[.int .i64 t331, .int .i64 t332, .int .i64 t333, .int .i64 t334] 29 (0, 0)) (by (with_reducible repeat (first | refine blk_drewN ?_ _ | refine blk_drew ?_ | refine blk_alloc ?_ _)); exact BK338.out) hb); have n2_ := Aside0.mk (blk_below (g := gb351) (o := .cells #[.int .i64 t347, .int .i64 t348, .int .i64 t349] 37 (0, 0)) (by (with_reducible repeat (first | refine blk_drewN ?_ _ | refine blk_drew ?_ | refine blk_alloc ?_ _)); exact BK351.out) hb); have n3_ := Aside0.mk (blk_below (g := gb359) (o := .cells #[.int .i64 t355, .int .i64 t356, .int .i64 t357] 37 (0, 0)) (by (with_reducible repeat (first | refine blk_drewN ?_ _ | refine blk_drew ?_ | refine blk_alloc ?_ _)); exact BK359.out) hb); have n4_ := Aside0.mk (below_step (by repeat (first | (with_reducible first | exact HB.out | apply below_alloc | apply pw_below_drewN | apply below_drew1 | refine below_set ?_ GE338.out | refine below_set ?_ GE351.out | refine below_set ?_ GE359.out) | exact HB.out)) hb); clear HO_4; clear BK338; clear BK351; clear BK359; clear HB; have HO_4 := n0_; have BK338 := n1_; have BK351 := n2_; have BK359 := n3_; have HB := n4_; clear n0_ n1_ n2_ n3_ n4_; (try clear hb); (try clear hb2); (try clear hk); (try clear hi); have hcz180_0 : w179.cell? ⟨gb351, 0, none⟩ = some (.int .i64 t347) := (blk_cell BK351.out 0).trans rfl; have hcz180_1 : w179.cell? ⟨gb351, 1, none⟩ = some (.int .i64 t348) := (blk_cell BK351.out 1).trans rfl; have hcz180_2 : w179.cell? ⟨gb351, 2, none⟩ = some (.int .i64 t349) := (blk_cell BK351.out 2).trans rfl; have hfz180_0 := blk_frozen BK351.out 0; have hfz180_1 := blk_frozen BK351.out 1; have hfz180_2 := blk_frozen BK351.out 2))
                        go_ret
                        exact ⟨by first | rfl | (simp [errW_none, errW_some] <;> rfl) | (simp [*, errW_none, errW_some] <;> rfl), by repeat (first | (with_reducible first | exact HB.out | apply below_alloc | apply pw_below_drewN | apply below_drew1 | refine below_set ?_ GE338.out | refine below_set ?_ GE351.out | refine below_set ?_ GE359.out) | exact HB.out)⟩
                    · replace c163 := Bool.eq_false_iff.mpr c163
                      subst c163
                      have H1 : (some false) = some r := by rw [if_neg (show ¬ (false = true) by decide)] at H; exact H
                      clear H
                      have H := H1
                      clear H1
                      obtain rfl := Option.some.inj H
                      go_wp2_with (first | ((with_reducible refine gate_callee (f := 15) rfl ?_); refine goesL_ (some 119) rfl rfl Try.func15 (by kernel_rfl) rfl #[.slice Ao13 t335.length co13, .int .i64 t340, .int .i64 (wrap64 ((wrap64 ((wrap64 (t340 + 2)) + (wrap64 (t345 * 7)))) + (wrap64 (t346 * 9))))] rfl (by (try simp only [List.map_toArray, List.map_cons, List.map_nil]); first | done | rfl | (simp only [List.length_drop, List.length_take]; rfl)) ?_; (with_reducible refine (spec_WorkIn.calls kj28 _ _ t335 t340 (wrap64 ((wrap64 ((wrap64 (t340 + 2)) + (wrap64 (t345 * 7)))) + (wrap64 (t346 * 9)))) t360 _ ?side1 ?side2 A73.out).mono ?_); (case side1 => repeat (first | exact (Kd.R_reads' HO_4.out).2.2 | (with_reducible refine Kd.C_alloc ?_ _) | (with_reducible refine Kd.C_drewN ?_ _) | (with_reducible refine Kd.C_drew ?_))); (case side2 => exact (Kd.R_reads' HO_4.out).2.1); rintro e w181 ⟨rfl, hb⟩; refine ⟨_, rfl, ?_⟩; have n0_ := Aside0.mk (Kd.R_below (by (with_reducible repeat (first | apply Kd.R_alloc | apply Kd.R_drewN | apply Kd.R_drew)); exact HO_4.out) hb); have n1_ := Aside0.mk (blk_below (g := gb338) (o := .cells #[.int .i64 t331, .int .i64 t332, .int .i64 t333, .int .i64 t334] 29 (0, 0)) (by (with_reducible repeat (first | refine blk_drewN ?_ _ | refine blk_drew ?_ | refine blk_alloc ?_ _)); exact BK338.out) hb); have n2_ := Aside0.mk (blk_below (g := gb351) (o := .cells #[.int .i64 t347, .int .i64 t348, .int .i64 t349] 37 (0, 0)) (by (with_reducible repeat (first | refine blk_drewN ?_ _ | refine blk_drew ?_ | refine blk_alloc ?_ _)); exact BK351.out) hb); have n3_ := Aside0.mk (blk_below (g := gb359) (o := .cells #[.int .i64 t355, .int .i64 t356, .int .i64 t357] 37 (0, 0)) (by (with_reducible repeat (first | refine blk_drewN ?_ _ | refine blk_drew ?_ | refine blk_alloc ?_ _)); exact BK359.out) hb); have n4_ := Aside0.mk (below_step (by repeat (first | (with_reducible first | exact HB.out | apply below_alloc | apply pw_below_drewN | apply below_drew1 | refine below_set ?_ GE338.out | refine below_set ?_ GE351.out | refine below_set ?_ GE359.out) | exact HB.out)) hb); clear HO_4; clear BK338; clear BK351; clear BK359; clear HB; have HO_4 := n0_; have BK338 := n1_; have BK351 := n2_; have BK359 := n3_; have HB := n4_; clear n0_ n1_ n2_ n3_ n4_; (try clear hb); (try clear hb2); (try clear hk); (try clear hi); have hnb182 := NB351_338.out; have hnc182 := NB338_351.out; have hnb183 := NB351_359.out; have hnc183 := NB359_351.out; have hcz184_0 : w181.cell? ⟨gb351, 0, none⟩ = some (.int .i64 t347) := (blk_cell BK351.out 0).trans rfl; have hcz184_1 : w181.cell? ⟨gb351, 1, none⟩ = some (.int .i64 t348) := (blk_cell BK351.out 1).trans rfl; have hcz184_2 : w181.cell? ⟨gb351, 2, none⟩ = some (.int .i64 t349) := (blk_cell BK351.out 2).trans rfl; have hfz184_0 := blk_frozen BK351.out 0; have hfz184_1 := blk_frozen BK351.out 1; have hfz184_2 := blk_frozen BK351.out 2; have hnb185 := NB338_359.out; have hnc185 := NB359_338.out; have hcz186_0 : w181.cell? ⟨gb338, 0, none⟩ = some (.int .i64 t331) := (blk_cell BK338.out 0).trans rfl; have hcz186_1 : w181.cell? ⟨gb338, 1, none⟩ = some (.int .i64 t332) := (blk_cell BK338.out 1).trans rfl; have hcz186_2 : w181.cell? ⟨gb338, 2, none⟩ = some (.int .i64 t333) := (blk_cell BK338.out 2).trans rfl; have hcz186_3 : w181.cell? ⟨gb338, 3, none⟩ = some (.int .i64 t334) := (blk_cell BK338.out 3).trans rfl; have hfz186_0 := blk_frozen BK338.out 0; have hfz186_1 := blk_frozen BK338.out 1; have hfz186_2 := blk_frozen BK338.out 2; have hfz186_3 := blk_frozen BK338.out 3) | ((with_reducible refine gate_callee (f := 16) rfl ?_); refine goesL_ (some 156) rfl rfl Try.func16 (by kernel_rfl) rfl #[.agg #[.int .i64 t331, .int .i64 t332, .int .i64 t333, .int .i64 t334], .agg #[.int .i64 t347, .int .i64 t348, .int .i64 t349]] rfl (by (try simp only [List.map_toArray, List.map_cons, List.map_nil]); first | done | rfl | (simp only [List.length_drop, List.length_take]; rfl)) ?_; (with_reducible refine (impl_Owed.calls kj28 t331 t332 t333 t334 t347 t348 t349 t367 false _ A162.out).mono ?_); rintro e w187 ⟨rfl, hb⟩; refine ⟨_, rfl, ?_⟩; have n0_ := Aside0.mk (Kd.R_below (by (with_reducible repeat (first | apply Kd.R_alloc | apply Kd.R_drewN | apply Kd.R_drew)); exact HO_4.out) hb); have n1_ := Aside0.mk (blk_below (g := gb338) (o := .cells #[.int .i64 t331, .int .i64 t332, .int .i64 t333, .int .i64 t334] 29 (0, 0)) (by (with_reducible repeat (first | refine blk_drewN ?_ _ | refine blk_drew ?_ | refine blk_alloc ?_ _)); exact BK338.out) hb); have n2_ := Aside0.mk (blk_below (g := gb351) (o := .cells #[.int .i64 t347, .int .i64 t348, .int .i64 t349] 37 (0, 0)) (by (with_reducible repeat (first | refine blk_drewN ?_ _ | refine blk_drew ?_ | refine blk_alloc ?_ _)); exact BK351.out) hb); have n3_ := Aside0.mk (blk_below (g := gb359) (o := .cells #[.int .i64 t355, .int .i64 t356, .int .i64 t357] 37 (0, 0)) (by (with_reducible repeat (first | refine blk_drewN ?_ _ | refine blk_drew ?_ | refine blk_alloc ?_ _)); exact BK359.out) hb); have n4_ := Aside0.mk (below_step (by repeat (first | (with_reducible first | exact HB.out | apply below_alloc | apply pw_below_drewN | apply below_drew1 | refine below_set ?_ GE338.out | refine below_set ?_ GE351.out | refine below_set ?_ GE359.out) | exact HB.out)) hb); clear HO_4; clear BK338; clear BK351; clear BK359; clear HB; have HO_4 := n0_; have BK338 := n1_; have BK351 := n2_; have BK359 := n3_; have HB := n4_; clear n0_ n1_ n2_ n3_ n4_; (try clear hb); (try clear hb2); (try clear hk); (try clear hi)))
                      go_ret
                      exact ⟨by first | rfl | (simp [errW_none, errW_some] <;> rfl) | (simp [*, errW_none, errW_some] <;> rfl), by repeat (first | (with_reducible first | exact HB.out | apply below_alloc | apply pw_below_drewN | apply below_drew1 | refine below_set ?_ GE338.out | refine below_set ?_ GE351.out | refine below_set ?_ GE359.out) | exact HB.out)⟩

/-- THE ONE PURE STATEMENT of laws_FnLaid: yours. -/
def laws_FnLaid.Pure : Prop := ∀ (l0 : List Int), l0.length ≤ maxLen → l0.length * 1 ≤ 140737488351232 → (∀ x ∈ l0, (Lit.int .u8 x).wf = true) → ∃ k, laws_FnLaid.f k l0 = some true
theorem laws_FnLaid.walk (P : laws_FnLaid.Pure) (a0 : Option Addr) (len0 cap0 : Nat) (z0 : List Int) (w : World) (w0 : (a0 = none ∧ len0 = 0 ∧ cap0 = 0 ∧ z0 = []) ∨ ∃ x, a0 = some x ∧ len0 ≤ cap0 ∧ cap0 ≤ maxLen ∧ z0.length = cap0 ∧ (∀ i, i < z0.length → w.cell? (x.add i) = some (.int .u8 (z0.getD i 0))) ∧ ∀ n ∈ z0, (Lit.int .u8 n).wf = true) (y0 : len0 * 1 ≤ 140737488351232) :
    Calls Try.prog 4 #[.slice a0 len0 cap0] w fun e w' => e = .returned (.bool true) ∧ Below w.heap.size w w' := by
  obtain ⟨l0, rfl, hr0, hm0, hw0, hc0⟩ := ReadsInt.ofRowC w0
  obtain ⟨k, h⟩ := P l0 hm0 y0 hw0
  refine (laws_FnLaid.calls k _ _ l0 true w (Kd.C_of_reads (d := (0 : Int)) (h1 := fun _ => rfl) hr0) hc0 h).mono ?_
  rintro e w' ⟨rfl, hd⟩
  exact ⟨rfl, hd⟩

end Go.Proofs.Ytpepdjghajphlaa.PFnLaid
