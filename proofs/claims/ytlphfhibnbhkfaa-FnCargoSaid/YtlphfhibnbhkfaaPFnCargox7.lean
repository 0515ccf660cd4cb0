/- The Lean side of Go functions of this seat: what each answers, and that its run comes to that answer; written by a program of this work. -/
import Derived.Test.YtlphfhibnbhkfaaPFnCargox0
import Derived.Test.YtlphfhibnbhkfaaPFnCargox1
import Derived.Test.YtlphfhibnbhkfaaPFnCargox2
import Derived.Test.YtlphfhibnbhkfaaPFnCargox3
import Derived.Test.YtlphfhibnbhkfaaPFnCargox4
import Derived.Test.YtlphfhibnbhkfaaPFnCargox5
import Derived.Test.YtlphfhibnbhkfaaPFnCargox6
namespace Go.Proofs.Ytlphfhibnbhkfaa.PFnCargo
open Go.RowKit Go.Proofs.YtlphfhibnbhkfaaW.PrintWords Go.Proofs.YtlphfhibnbhkfaaW.PrintLast Go.Proofs.YtlphfhibnbhkfaaW.PrintMore
attribute [local go_sem] max2_int min2_int max_two min_two max_three min_three max_four min_four   -- for this text's walks alone
set_option linter.unusedVariables false
set_option linter.unusedSimpArgs false

attribute [local go_sem high] eqA63
/-! ### laws_FnCargo: function 6 -/
mutual
def laws_FnCargo.l0 : Nat → List (S63) → List (S61) → List (S63) → Int → Option (Bool)
 | 0, _, _, _, _ => none
 | k + 1, x3, x4, x5, x6 => if x6 < (x4.length : Int) then (if 0 ≤ x6 then ((impl_CargoStep.f k x5 ((rd_T61 x4 x6).f0) ((rd_T61 x4 x6).f1) ((rd_T61 x4 x6).f2) ((rd_T61 x4 x6).f3) 100000).bind fun bt360 => (if (bt360.1.length : Int) = (x5.length : Int) then (laws_FnCargo.l1 k x3 x4 x5 x6 bt360.1 bt360.2 0 0) else (some false))) else (none)) else ((impl_CargoRun.f k x3 x4 100000).bind fun bt385 => (if (bt385.1.length : Int) = (x5.length : Int) then (laws_FnCargo.l3 k x4 x5 bt385.1 bt385.2 0) else (some false)))
def laws_FnCargo.l1 : Nat → List (S63) → List (S61) → List (S63) → Int → List (S63) → Int → Int → Int → Option (Bool)
 | 0, _, _, _, _, _, _, _, _ => none
 | k + 1, x3, x4, x5, x6, x7, x8, x9, x10 => if x10 < (x5.length : Int) then (if 0 ≤ x10 then (if x10 < (x7.length : Int) then (if x8 = 0 then (laws_FnCargo.l1 k x3 x4 x5 x6 x7 x8 (wrap64 ((wrap64 (x9 + ((rd_T63 x7 x10).f0))) - ((rd_T63 x5 x10).f0))) (wrap64 (x10 + 1))) else (if (!(((rd_T63 x7 x10).f0) == ((rd_T63 x5 x10).f0)) || (!(((rd_T63 x7 x10).f1) == ((rd_T63 x5 x10).f1)) || (!(((rd_T63 x7 x10).f2) == ((rd_T63 x5 x10).f2)) || (!(((rd_T63 x7 x10).f3) == ((rd_T63 x5 x10).f3)) || (!(((rd_T63 x7 x10).f4) == ((rd_T63 x5 x10).f4))))))) = true then (some false) else (laws_FnCargo.l1 k x3 x4 x5 x6 x7 x8 (wrap64 ((wrap64 (x9 + ((rd_T63 x7 x10).f0))) - ((rd_T63 x5 x10).f0))) (wrap64 (x10 + 1))))) else (none)) else (none)) else (if x8 = 0 then (if 0 ≤ x6 then (if x6 < (x4.length : Int) then (laws_FnCargo.j2 k x3 x4 x6 x7 x8 x9 0 (((rd_T61 x4 x6).f0) == 1)) else (none)) else (none)) else (laws_FnCargo.j2 k x3 x4 x6 x7 x8 x9 0 false))
def laws_FnCargo.j2 : Nat → List (S63) → List (S61) → Int → List (S63) → Int → Int → Int → Bool → Option (Bool)
 | 0, _, _, _, _, _, _, _, _ => none
 | k + 1, x3, x4, x6, x7, x8, x9, x11, x88 => if x88 = true then (if 0 ≤ x6 then (if x6 < (x4.length : Int) then (laws_FnCargo.j3 k x3 x4 x6 x7 x8 x9 ((rd_T61 x4 x6).f3)) else (none)) else (none)) else (laws_FnCargo.j3 k x3 x4 x6 x7 x8 x9 x11)
def laws_FnCargo.j3 : Nat → List (S63) → List (S61) → Int → List (S63) → Int → Int → Int → Option (Bool)
 | 0, _, _, _, _, _, _, _ => none
 | k + 1, x3, x4, x6, x7, x8, x9, x11 => if x8 = 0 then (if 0 ≤ x6 then (if x6 < (x4.length : Int) then (laws_FnCargo.j4 k x3 x4 x6 x7 x8 x9 x11 (((rd_T61 x4 x6).f0) == 2)) else (none)) else (none)) else (laws_FnCargo.j4 k x3 x4 x6 x7 x8 x9 x11 false)
def laws_FnCargo.j4 : Nat → List (S63) → List (S61) → Int → List (S63) → Int → Int → Int → Bool → Option (Bool)
 | 0, _, _, _, _, _, _, _, _ => none
 | k + 1, x3, x4, x6, x7, x8, x9, x11, x103 => if x103 = true then (if 0 ≤ x6 then (if x6 < (x4.length : Int) then (laws_FnCargo.j5 k x3 x4 x6 x7 x8 x9 (wrap64 (-((rd_T61 x4 x6).f3)))) else (none)) else (none)) else (laws_FnCargo.j5 k x3 x4 x6 x7 x8 x9 x11)
def laws_FnCargo.j5 : Nat → List (S63) → List (S61) → Int → List (S63) → Int → Int → Int → Option (Bool)
 | 0, _, _, _, _, _, _, _ => none
 | k + 1, x3, x4, x6, x7, x8, x9, x11 => if x9 = x11 then (if x8 = 0 then (if 0 ≤ x6 then (if x6 < (x4.length : Int) then ((some (([(rd_T61 x4 x6).f1] : List Int) : List Int)).bind fun y373 => (if ((rd_T61 x4 x6).f0) = 3 then (if y373.length < 17592186044416 then (laws_FnCargo.j6 k x3 x4 x6 x7 (y373 ++ [(rd_T61 x4 x6).f2])) else (none)) else (laws_FnCargo.j6 k x3 x4 x6 x7 y373))) else (none)) else (none)) else (laws_FnCargo.l0 k x3 x4 x7 (wrap64 (x6 + 1)))) else (some false)
def laws_FnCargo.j6 : Nat → List (S63) → List (S61) → Int → List (S63) → List Int → Option (Bool)
 | 0, _, _, _, _, _ => none
 | k + 1, x3, x4, x6, x7, x12 => laws_FnCargo.l2 k x3 x4 x6 x7 x12 (x12.length : Int) 0
def laws_FnCargo.l2 : Nat → List (S63) → List (S61) → Int → List (S63) → List Int → Int → Int → Option (Bool)
 | 0, _, _, _, _, _, _, _ => none
 | k + 1, x3, x4, x6, x7, x135, x136, x137 => if x137 < x136 then (if 0 ≤ x137 then (if x137 < (x135.length : Int) then (if 0 ≤ (rd x135 x137) then (if (rd x135 x137) < (x7.length : Int) then (if ((rd_T63 x7 (rd x135 x137)).f4) > 110 then (if ((rd_T63 x7 (rd x135 x137)).f3) ≥ 20 then (if ((rd_T63 x7 (rd x135 x137)).f3) ≤ 600 then (some false) else (laws_FnCargo.l2 k x3 x4 x6 x7 x135 x136 (wrap64 (x137 + 1)))) else (laws_FnCargo.l2 k x3 x4 x6 x7 x135 x136 (wrap64 (x137 + 1)))) else (laws_FnCargo.l2 k x3 x4 x6 x7 x135 x136 (wrap64 (x137 + 1)))) else (none)) else (none)) else (none)) else (none)) else ((impl_TanksOk.f k x7).bind fun t384 => (if t384 = true then (laws_FnCargo.l0 k x3 x4 x7 (wrap64 (x6 + 1))) else (some false)))
def laws_FnCargo.l3 : Nat → List (S61) → List (S63) → List (S63) → List Int → Int → Option (Bool)
 | 0, _, _, _, _, _ => none
 | k + 1, x4, x5, x16, x17, x18 => if x18 < (x5.length : Int) then (if 0 ≤ x18 then (if x18 < (x16.length : Int) then (if (!(((rd_T63 x16 x18).f0) == ((rd_T63 x5 x18).f0)) || (!(((rd_T63 x16 x18).f1) == ((rd_T63 x5 x18).f1)) || (!(((rd_T63 x16 x18).f2) == ((rd_T63 x5 x18).f2)) || (!(((rd_T63 x16 x18).f3) == ((rd_T63 x5 x18).f3)) || (!(((rd_T63 x16 x18).f4) == ((rd_T63 x5 x18).f4))))))) = true then (some false) else (laws_FnCargo.l3 k x4 x5 x16 x17 (wrap64 (x18 + 1)))) else (none)) else (none)) else (if (x17.length : Int) = (x4.length : Int) then ((impl_TanksOk.f k x5).bind fun t393 => (some t393)) else (some false))
end
def laws_FnCargo.f (k : Nat) (l0 : List Int) : Option (Bool) := (laws_big.f l0).bind fun t352 => (if t352 = true then (some true) else ((spec_DrawCargo.f k l0).bind fun bt353 => (laws_FnCargo.l0 k bt353.1 bt353.2 bt353.1 0)))
theorem laws_FnCargo.mono_l : ∀ k, (∀ y0 y1 y2 y3, LeO (laws_FnCargo.l0 k y0 y1 y2 y3) (laws_FnCargo.l0 (k + 1) y0 y1 y2 y3)) ∧ (∀ y0 y1 y2 y3 y4 y5 y6 y7, LeO (laws_FnCargo.l1 k y0 y1 y2 y3 y4 y5 y6 y7) (laws_FnCargo.l1 (k + 1) y0 y1 y2 y3 y4 y5 y6 y7)) ∧ (∀ y0 y1 y2 y3 y4 y5 y6 y7, LeO (laws_FnCargo.j2 k y0 y1 y2 y3 y4 y5 y6 y7) (laws_FnCargo.j2 (k + 1) y0 y1 y2 y3 y4 y5 y6 y7)) ∧ (∀ y0 y1 y2 y3 y4 y5 y6, LeO (laws_FnCargo.j3 k y0 y1 y2 y3 y4 y5 y6) (laws_FnCargo.j3 (k + 1) y0 y1 y2 y3 y4 y5 y6)) ∧ (∀ y0 y1 y2 y3 y4 y5 y6 y7, LeO (laws_FnCargo.j4 k y0 y1 y2 y3 y4 y5 y6 y7) (laws_FnCargo.j4 (k + 1) y0 y1 y2 y3 y4 y5 y6 y7)) ∧ (∀ y0 y1 y2 y3 y4 y5 y6, LeO (laws_FnCargo.j5 k y0 y1 y2 y3 y4 y5 y6) (laws_FnCargo.j5 (k + 1) y0 y1 y2 y3 y4 y5 y6)) ∧ (∀ y0 y1 y2 y3 y4, LeO (laws_FnCargo.j6 k y0 y1 y2 y3 y4) (laws_FnCargo.j6 (k + 1) y0 y1 y2 y3 y4)) ∧ (∀ y0 y1 y2 y3 y4 y5 y6, LeO (laws_FnCargo.l2 k y0 y1 y2 y3 y4 y5 y6) (laws_FnCargo.l2 (k + 1) y0 y1 y2 y3 y4 y5 y6)) ∧ (∀ y0 y1 y2 y3 y4, LeO (laws_FnCargo.l3 k y0 y1 y2 y3 y4) (laws_FnCargo.l3 (k + 1) y0 y1 y2 y3 y4))
 | 0 => ⟨fun _ _ _ _ r h => by simp [laws_FnCargo.l0] at h, fun _ _ _ _ _ _ _ _ r h => by simp [laws_FnCargo.l1] at h, fun _ _ _ _ _ _ _ _ r h => by simp [laws_FnCargo.j2] at h, fun _ _ _ _ _ _ _ r h => by simp [laws_FnCargo.j3] at h, fun _ _ _ _ _ _ _ _ r h => by simp [laws_FnCargo.j4] at h, fun _ _ _ _ _ _ _ r h => by simp [laws_FnCargo.j5] at h, fun _ _ _ _ _ r h => by simp [laws_FnCargo.j6] at h, fun _ _ _ _ _ _ _ r h => by simp [laws_FnCargo.l2] at h, fun _ _ _ _ _ r h => by simp [laws_FnCargo.l3] at h⟩
 | k + 1 => by
  obtain ⟨ih0, ih1, ih2, ih3, ih4, ih5, ih6, ih7, ih8⟩ := laws_FnCargo.mono_l k
  refine ⟨?_, ?_, ?_, ?_, ?_, ?_, ?_, ?_, ?_⟩
  ·intro y0 y1 y2 y3
   unfold laws_FnCargo.l0
   repeat' first
   | (with_reducible exact ih0 _ _ _ _)
   | (with_reducible exact ih1 _ _ _ _ _ _ _ _)
   | (with_reducible exact ih2 _ _ _ _ _ _ _ _)
   | (with_reducible exact ih3 _ _ _ _ _ _ _)
   | (with_reducible exact ih4 _ _ _ _ _ _ _ _)
   | (with_reducible exact ih5 _ _ _ _ _ _ _)
   | (with_reducible exact ih6 _ _ _ _ _)
   | (with_reducible exact ih7 _ _ _ _ _ _ _)
   | (with_reducible exact ih8 _ _ _ _ _)
   | (with_reducible exact impl_CargoRun.mono _ _ _ _)
   | (with_reducible exact impl_CargoStep.mono _ _ _ _ _ _ _)
   | (with_reducible exact impl_TanksOk.mono _ _)
   | (with_reducible exact spec_DrawCargo.mono _ _)
   | (with_reducible exact LeO.refl _)
   | (with_reducible exact LeO.none _)
   | (with_reducible refine LeO.ite ?_ ?_)
   | (with_reducible refine LeO.bind ?_ (fun _ => ?_))
   | exact ih0 _ _ _ _
   | exact ih1 _ _ _ _ _ _ _ _
   | exact ih2 _ _ _ _ _ _ _ _
   | exact ih3 _ _ _ _ _ _ _
   | exact ih4 _ _ _ _ _ _ _ _
   | exact ih5 _ _ _ _ _ _ _
   | exact ih6 _ _ _ _ _
   | exact ih7 _ _ _ _ _ _ _
   | exact ih8 _ _ _ _ _
   | exact impl_CargoRun.mono _ _ _ _
   | exact impl_CargoStep.mono _ _ _ _ _ _ _
   | exact impl_TanksOk.mono _ _
   | exact spec_DrawCargo.mono _ _
   | exact LeO.none _
   | refine LeO.ite ?_ ?_
   | refine LeO.bind ?_ (fun _ => ?_)
  ·intro y0 y1 y2 y3 y4 y5 y6 y7
   unfold laws_FnCargo.l1
   repeat' first
   | (with_reducible exact ih0 _ _ _ _)
   | (with_reducible exact ih1 _ _ _ _ _ _ _ _)
   | (with_reducible exact ih2 _ _ _ _ _ _ _ _)
   | (with_reducible exact ih3 _ _ _ _ _ _ _)
   | (with_reducible exact ih4 _ _ _ _ _ _ _ _)
   | (with_reducible exact ih5 _ _ _ _ _ _ _)
   | (with_reducible exact ih6 _ _ _ _ _)
   | (with_reducible exact ih7 _ _ _ _ _ _ _)
   | (with_reducible exact ih8 _ _ _ _ _)
   | (with_reducible exact impl_CargoRun.mono _ _ _ _)
   | (with_reducible exact impl_CargoStep.mono _ _ _ _ _ _ _)
   | (with_reducible exact impl_TanksOk.mono _ _)
   | (with_reducible exact spec_DrawCargo.mono _ _)
   | (with_reducible exact LeO.refl _)
   | (with_reducible exact LeO.none _)
   | (with_reducible refine LeO.ite ?_ ?_)
   | (with_reducible refine LeO.bind ?_ (fun _ => ?_))
   | exact ih0 _ _ _ _
   | exact ih1 _ _ _ _ _ _ _ _
   | exact ih2 _ _ _ _ _ _ _ _
   | exact ih3 _ _ _ _ _ _ _
   | exact ih4 _ _ _ _ _ _ _ _
   | exact ih5 _ _ _ _ _ _ _
   | exact ih6 _ _ _ _ _
   | exact ih7 _ _ _ _ _ _ _
   | exact ih8 _ _ _ _ _
   | exact impl_CargoRun.mono _ _ _ _
   | exact impl_CargoStep.mono _ _ _ _ _ _ _
   | exact impl_TanksOk.mono _ _
   | exact spec_DrawCargo.mono _ _
   | exact LeO.none _
   | refine LeO.ite ?_ ?_
   | refine LeO.bind ?_ (fun _ => ?_)
  ·intro y0 y1 y2 y3 y4 y5 y6 y7
   unfold laws_FnCargo.j2
   repeat' first
   | (with_reducible exact ih0 _ _ _ _)
   | (with_reducible exact ih1 _ _ _ _ _ _ _ _)
   | (with_reducible exact ih2 _ _ _ _ _ _ _ _)
   | (with_reducible exact ih3 _ _ _ _ _ _ _)
   | (with_reducible exact ih4 _ _ _ _ _ _ _ _)
   | (with_reducible exact ih5 _ _ _ _ _ _ _)
   | (with_reducible exact ih6 _ _ _ _ _)
   | (with_reducible exact ih7 _ _ _ _ _ _ _)
   | (with_reducible exact ih8 _ _ _ _ _)
   | (with_reducible exact impl_CargoRun.mono _ _ _ _)
   | (with_reducible exact impl_CargoStep.mono _ _ _ _ _ _ _)
   | (with_reducible exact impl_TanksOk.mono _ _)
   | (with_reducible exact spec_DrawCargo.mono _ _)
   | (with_reducible exact LeO.refl _)
   | (with_reducible exact LeO.none _)
   | (with_reducible refine LeO.ite ?_ ?_)
   | (with_reducible refine LeO.bind ?_ (fun _ => ?_))
   | exact ih0 _ _ _ _
   | exact ih1 _ _ _ _ _ _ _ _
   | exact ih2 _ _ _ _ _ _ _ _
   | exact ih3 _ _ _ _ _ _ _
   | exact ih4 _ _ _ _ _ _ _ _
   | exact ih5 _ _ _ _ _ _ _
   | exact ih6 _ _ _ _ _
   | exact ih7 _ _ _ _ _ _ _
   | exact ih8 _ _ _ _ _
   | exact impl_CargoRun.mono _ _ _ _
   | exact impl_CargoStep.mono _ _ _ _ _ _ _
   | exact impl_TanksOk.mono _ _
   | exact spec_DrawCargo.mono _ _
   | exact LeO.none _
   | refine LeO.ite ?_ ?_
   | refine LeO.bind ?_ (fun _ => ?_)
  ·intro y0 y1 y2 y3 y4 y5 y6
   unfold laws_FnCargo.j3
   repeat' first
   | (with_reducible exact ih0 _ _ _ _)
   | (with_reducible exact ih1 _ _ _ _ _ _ _ _)
   | (with_reducible exact ih2 _ _ _ _ _ _ _ _)
   | (with_reducible exact ih3 _ _ _ _ _ _ _)
   | (with_reducible exact ih4 _ _ _ _ _ _ _ _)
   | (with_reducible exact ih5 _ _ _ _ _ _ _)
   | (with_reducible exact ih6 _ _ _ _ _)
   | (with_reducible exact ih7 _ _ _ _ _ _ _)
   | (with_reducible exact ih8 _ _ _ _ _)
   | (with_reducible exact impl_CargoRun.mono _ _ _ _)
   | (with_reducible exact impl_CargoStep.mono _ _ _ _ _ _ _)
   | (with_reducible exact impl_TanksOk.mono _ _)
   | (with_reducible exact spec_DrawCargo.mono _ _)
   | (with_reducible exact LeO.refl _)
   | (with_reducible exact LeO.none _)
   | (with_reducible refine LeO.ite ?_ ?_)
   | (with_reducible refine LeO.bind ?_ (fun _ => ?_))
   | exact ih0 _ _ _ _
   | exact ih1 _ _ _ _ _ _ _ _
   | exact ih2 _ _ _ _ _ _ _ _
   | exact ih3 _ _ _ _ _ _ _
   | exact ih4 _ _ _ _ _ _ _ _
   | exact ih5 _ _ _ _ _ _ _
   | exact ih6 _ _ _ _ _
   | exact ih7 _ _ _ _ _ _ _
   | exact ih8 _ _ _ _ _
   | exact impl_CargoRun.mono _ _ _ _
   | exact impl_CargoStep.mono _ _ _ _ _ _ _
   | exact impl_TanksOk.mono _ _
   | exact spec_DrawCargo.mono _ _
   | exact LeO.none _
   | refine LeO.ite ?_ ?_
   | refine LeO.bind ?_ (fun _ => ?_)
  ·intro y0 y1 y2 y3 y4 y5 y6 y7
   unfold laws_FnCargo.j4
   repeat' first
   | (with_reducible exact ih0 _ _ _ _)
   | (with_reducible exact ih1 _ _ _ _ _ _ _ _)
   | (with_reducible exact ih2 _ _ _ _ _ _ _ _)
   | (with_reducible exact ih3 _ _ _ _ _ _ _)
   | (with_reducible exact ih4 _ _ _ _ _ _ _ _)
   | (with_reducible exact ih5 _ _ _ _ _ _ _)
   | (with_reducible exact ih6 _ _ _ _ _)
   | (with_reducible exact ih7 _ _ _ _ _ _ _)
   | (with_reducible exact ih8 _ _ _ _ _)
   | (with_reducible exact impl_CargoRun.mono _ _ _ _)
   | (with_reducible exact impl_CargoStep.mono _ _ _ _ _ _ _)
   | (with_reducible exact impl_TanksOk.mono _ _)
   | (with_reducible exact spec_DrawCargo.mono _ _)
   | (with_reducible exact LeO.refl _)
   | (with_reducible exact LeO.none _)
   | (with_reducible refine LeO.ite ?_ ?_)
   | (with_reducible refine LeO.bind ?_ (fun _ => ?_))
   | exact ih0 _ _ _ _
   | exact ih1 _ _ _ _ _ _ _ _
   | exact ih2 _ _ _ _ _ _ _ _
   | exact ih3 _ _ _ _ _ _ _
   | exact ih4 _ _ _ _ _ _ _ _
   | exact ih5 _ _ _ _ _ _ _
   | exact ih6 _ _ _ _ _
   | exact ih7 _ _ _ _ _ _ _
   | exact ih8 _ _ _ _ _
   | exact impl_CargoRun.mono _ _ _ _
   | exact impl_CargoStep.mono _ _ _ _ _ _ _
   | exact impl_TanksOk.mono _ _
   | exact spec_DrawCargo.mono _ _
   | exact LeO.none _
   | refine LeO.ite ?_ ?_
   | refine LeO.bind ?_ (fun _ => ?_)
  ·intro y0 y1 y2 y3 y4 y5 y6
   unfold laws_FnCargo.j5
   repeat' first
   | (with_reducible exact ih0 _ _ _ _)
   | (with_reducible exact ih1 _ _ _ _ _ _ _ _)
   | (with_reducible exact ih2 _ _ _ _ _ _ _ _)
   | (with_reducible exact ih3 _ _ _ _ _ _ _)
   | (with_reducible exact ih4 _ _ _ _ _ _ _ _)
   | (with_reducible exact ih5 _ _ _ _ _ _ _)
   | (with_reducible exact ih6 _ _ _ _ _)
   | (with_reducible exact ih7 _ _ _ _ _ _ _)
   | (with_reducible exact ih8 _ _ _ _ _)
   | (with_reducible exact impl_CargoRun.mono _ _ _ _)
   | (with_reducible exact impl_CargoStep.mono _ _ _ _ _ _ _)
   | (with_reducible exact impl_TanksOk.mono _ _)
   | (with_reducible exact spec_DrawCargo.mono _ _)
   | (with_reducible exact LeO.refl _)
   | (with_reducible exact LeO.none _)
   | (with_reducible refine LeO.ite ?_ ?_)
   | (with_reducible refine LeO.bind ?_ (fun _ => ?_))
   | exact ih0 _ _ _ _
   | exact ih1 _ _ _ _ _ _ _ _
   | exact ih2 _ _ _ _ _ _ _ _
   | exact ih3 _ _ _ _ _ _ _
   | exact ih4 _ _ _ _ _ _ _ _
   | exact ih5 _ _ _ _ _ _ _
   | exact ih6 _ _ _ _ _
   | exact ih7 _ _ _ _ _ _ _
   | exact ih8 _ _ _ _ _
   | exact impl_CargoRun.mono _ _ _ _
   | exact impl_CargoStep.mono _ _ _ _ _ _ _
   | exact impl_TanksOk.mono _ _
   | exact spec_DrawCargo.mono _ _
   | exact LeO.none _
   | refine LeO.ite ?_ ?_
   | refine LeO.bind ?_ (fun _ => ?_)
  ·intro y0 y1 y2 y3 y4
   unfold laws_FnCargo.j6
   repeat' first
   | (with_reducible exact ih0 _ _ _ _)
   | (with_reducible exact ih1 _ _ _ _ _ _ _ _)
   | (with_reducible exact ih2 _ _ _ _ _ _ _ _)
   | (with_reducible exact ih3 _ _ _ _ _ _ _)
   | (with_reducible exact ih4 _ _ _ _ _ _ _ _)
   | (with_reducible exact ih5 _ _ _ _ _ _ _)
   | (with_reducible exact ih6 _ _ _ _ _)
   | (with_reducible exact ih7 _ _ _ _ _ _ _)
   | (with_reducible exact ih8 _ _ _ _ _)
   | (with_reducible exact impl_CargoRun.mono _ _ _ _)
   | (with_reducible exact impl_CargoStep.mono _ _ _ _ _ _ _)
   | (with_reducible exact impl_TanksOk.mono _ _)
   | (with_reducible exact spec_DrawCargo.mono _ _)
   | (with_reducible exact LeO.refl _)
   | (with_reducible exact LeO.none _)
   | (with_reducible refine LeO.ite ?_ ?_)
   | (with_reducible refine LeO.bind ?_ (fun _ => ?_))
   | exact ih0 _ _ _ _
   | exact ih1 _ _ _ _ _ _ _ _
   | exact ih2 _ _ _ _ _ _ _ _
   | exact ih3 _ _ _ _ _ _ _
   | exact ih4 _ _ _ _ _ _ _ _
   | exact ih5 _ _ _ _ _ _ _
   | exact ih6 _ _ _ _ _
   | exact ih7 _ _ _ _ _ _ _
   | exact ih8 _ _ _ _ _
   | exact impl_CargoRun.mono _ _ _ _
   | exact impl_CargoStep.mono _ _ _ _ _ _ _
   | exact impl_TanksOk.mono _ _
   | exact spec_DrawCargo.mono _ _
   | exact LeO.none _
   | refine LeO.ite ?_ ?_
   | refine LeO.bind ?_ (fun _ => ?_)
  ·intro y0 y1 y2 y3 y4 y5 y6
   unfold laws_FnCargo.l2
   repeat' first
   | (with_reducible exact ih0 _ _ _ _)
   | (with_reducible exact ih1 _ _ _ _ _ _ _ _)
   | (with_reducible exact ih2 _ _ _ _ _ _ _ _)
   | (with_reducible exact ih3 _ _ _ _ _ _ _)
   | (with_reducible exact ih4 _ _ _ _ _ _ _ _)
   | (with_reducible exact ih5 _ _ _ _ _ _ _)
   | (with_reducible exact ih6 _ _ _ _ _)
   | (with_reducible exact ih7 _ _ _ _ _ _ _)
   | (with_reducible exact ih8 _ _ _ _ _)
   | (with_reducible exact impl_CargoRun.mono _ _ _ _)
   | (with_reducible exact impl_CargoStep.mono _ _ _ _ _ _ _)
   | (with_reducible exact impl_TanksOk.mono _ _)
   | (with_reducible exact spec_DrawCargo.mono _ _)
   | (with_reducible exact LeO.refl _)
   | (with_reducible exact LeO.none _)
   | (with_reducible refine LeO.ite ?_ ?_)
   | (with_reducible refine LeO.bind ?_ (fun _ => ?_))
   | exact ih0 _ _ _ _
   | exact ih1 _ _ _ _ _ _ _ _
   | exact ih2 _ _ _ _ _ _ _ _
   | exact ih3 _ _ _ _ _ _ _
   | exact ih4 _ _ _ _ _ _ _ _
   | exact ih5 _ _ _ _ _ _ _
   | exact ih6 _ _ _ _ _
   | exact ih7 _ _ _ _ _ _ _
   | exact ih8 _ _ _ _ _
   | exact impl_CargoRun.mono _ _ _ _
   | exact impl_CargoStep.mono _ _ _ _ _ _ _
   | exact impl_TanksOk.mono _ _
   | exact spec_DrawCargo.mono _ _
   | exact LeO.none _
   | refine LeO.ite ?_ ?_
   | refine LeO.bind ?_ (fun _ => ?_)
  ·intro y0 y1 y2 y3 y4
   unfold laws_FnCargo.l3
   repeat' first
   | (with_reducible exact ih0 _ _ _ _)
   | (with_reducible exact ih1 _ _ _ _ _ _ _ _)
   | (with_reducible exact ih2 _ _ _ _ _ _ _ _)
   | (with_reducible exact ih3 _ _ _ _ _ _ _)
   | (with_reducible exact ih4 _ _ _ _ _ _ _ _)
   | (with_reducible exact ih5 _ _ _ _ _ _ _)
   | (with_reducible exact ih6 _ _ _ _ _)
   | (with_reducible exact ih7 _ _ _ _ _ _ _)
   | (with_reducible exact ih8 _ _ _ _ _)
   | (with_reducible exact impl_CargoRun.mono _ _ _ _)
   | (with_reducible exact impl_CargoStep.mono _ _ _ _ _ _ _)
   | (with_reducible exact impl_TanksOk.mono _ _)
   | (with_reducible exact spec_DrawCargo.mono _ _)
   | (with_reducible exact LeO.refl _)
   | (with_reducible exact LeO.none _)
   | (with_reducible refine LeO.ite ?_ ?_)
   | (with_reducible refine LeO.bind ?_ (fun _ => ?_))
   | exact ih0 _ _ _ _
   | exact ih1 _ _ _ _ _ _ _ _
   | exact ih2 _ _ _ _ _ _ _ _
   | exact ih3 _ _ _ _ _ _ _
   | exact ih4 _ _ _ _ _ _ _ _
   | exact ih5 _ _ _ _ _ _ _
   | exact ih6 _ _ _ _ _
   | exact ih7 _ _ _ _ _ _ _
   | exact ih8 _ _ _ _ _
   | exact impl_CargoRun.mono _ _ _ _
   | exact impl_CargoStep.mono _ _ _ _ _ _ _
   | exact impl_TanksOk.mono _ _
   | exact spec_DrawCargo.mono _ _
   | exact LeO.none _
   | refine LeO.ite ?_ ?_
   | refine LeO.bind ?_ (fun _ => ?_)
theorem laws_FnCargo.mono : ∀ a0 k, LeO (laws_FnCargo.f k a0) (laws_FnCargo.f (k + 1) a0) := by
 intro a0 k
 obtain ⟨ih0, ih1, ih2, ih3, ih4, ih5, ih6, ih7, ih8⟩ := laws_FnCargo.mono_l k
 unfold laws_FnCargo.f
 repeat' first
   | (with_reducible exact ih0 _ _ _ _)
   | (with_reducible exact ih1 _ _ _ _ _ _ _ _)
   | (with_reducible exact ih2 _ _ _ _ _ _ _ _)
   | (with_reducible exact ih3 _ _ _ _ _ _ _)
   | (with_reducible exact ih4 _ _ _ _ _ _ _ _)
   | (with_reducible exact ih5 _ _ _ _ _ _ _)
   | (with_reducible exact ih6 _ _ _ _ _)
   | (with_reducible exact ih7 _ _ _ _ _ _ _)
   | (with_reducible exact ih8 _ _ _ _ _)
   | (with_reducible exact impl_CargoRun.mono _ _ _ _)
   | (with_reducible exact impl_CargoStep.mono _ _ _ _ _ _ _)
   | (with_reducible exact impl_TanksOk.mono _ _)
   | (with_reducible exact spec_DrawCargo.mono _ _)
   | (with_reducible exact LeO.refl _)
   | (with_reducible exact LeO.none _)
   | (with_reducible refine LeO.ite ?_ ?_)
   | (with_reducible refine LeO.bind ?_ (fun _ => ?_))
   | exact ih0 _ _ _ _
   | exact ih1 _ _ _ _ _ _ _ _
   | exact ih2 _ _ _ _ _ _ _ _
   | exact ih3 _ _ _ _ _ _ _
   | exact ih4 _ _ _ _ _ _ _ _
   | exact ih5 _ _ _ _ _ _ _
   | exact ih6 _ _ _ _ _
   | exact ih7 _ _ _ _ _ _ _
   | exact ih8 _ _ _ _ _
   | exact impl_CargoRun.mono _ _ _ _
   | exact impl_CargoStep.mono _ _ _ _ _ _ _
   | exact impl_TanksOk.mono _ _
   | exact spec_DrawCargo.mono _ _
   | exact LeO.none _
   | refine LeO.ite ?_ ?_
   | refine LeO.bind ?_ (fun _ => ?_)
set_option maxHeartbeats 8000000 in
set_option maxRecDepth 100000 in
theorem laws_FnCargo.calls (k : Nat) (A0 : Option Addr) (c0 : Nat) (l0 : List Int) (r : Bool) (w : World) (hr0 : Kd.C (Kd.int .u8) w A0 l0.length l0) (hc0 : l0.length ≤ c0) (h : laws_FnCargo.f k l0 = some r) :
  Calls Try.prog 6 #[.slice A0 l0.length c0] w fun e w' => e = .returned (.bool r) ∧ Below w.heap.size w w' := by
 have hu61 := Try.underlying61
 have hu63 := Try.underlying63
 have HR0 := Aside0.mk hr0
 have HC0 := Aside0.mk hc0
 clear hr0 hc0
 have HB := Aside0.mk (Below.refl w.heap.size w)
 have H : ((laws_big.f l0).bind fun t352 => (if t352 = true then (some true) else ((spec_DrawCargo.f k l0).bind fun bt353 => (laws_FnCargo.l0 k bt353.1 bt353.2 bt353.1 0)))) = some r := h
 clear h; replace H := Option.bind_eq_some_iff.mp H
 obtain ⟨t352, A20, H⟩ := H
 replace H : (if t352 = true then (some true) else ((spec_DrawCargo.f k l0).bind fun bt353 => (laws_FnCargo.l0 k bt353.1 bt353.2 bt353.1 0))) = some r := H
 have A2 := Aside0.mk A20
 clear A20
 by_cases c3 : t352 = true
 ·subst c3
  have H1 : (some true) = some r := by rw [if_pos rfl] at H; exact H
  clear H
  have H := H1
  clear H1
  obtain rfl := Option.some.inj H
  go_enter Try.func6, Try.ntmps6
  go_wp2_with (first | (go_at_call 9; (with_reducible refine (laws_big.calls _ _ l0 true _ ?side1 ?side2 A2.out).mono ?_); (case side1 => repeat (first | exact HR0.out | (with_reducible refine Kd.C_alloc ?_ _) | (with_reducible refine Kd.C_drewN ?_ _) | (with_reducible refine Kd.C_drew ?_))); (case side2 => exact HC0.out); rintro e w' ⟨rfl, ⟨nd, rfl⟩⟩; (try first | exact ⟨rfl, _, World.drewN_drewN _ _ _⟩ | exact ⟨rfl, _, Eq.trans (World.drewN_drewN _ _ _) (congrArg (World.drewN _) (Nat.add_assoc _ _ _))⟩)))
  repeat (go_quiet (first | (go_at_call 9; (with_reducible refine (laws_big.calls _ _ l0 true _ ?side1 ?side2 A2.out).mono ?_); (case side1 => repeat (first | exact HR0.out | (with_reducible refine Kd.C_alloc ?_ _) | (with_reducible refine Kd.C_drewN ?_ _) | (with_reducible refine Kd.C_drew ?_))); (case side2 => exact HC0.out); rintro e w' ⟨rfl, ⟨nd, rfl⟩⟩; (try first | exact ⟨rfl, _, World.drewN_drewN _ _ _⟩ | exact ⟨rfl, _, Eq.trans (World.drewN_drewN _ _ _) (congrArg (World.drewN _) (Nat.add_assoc _ _ _))⟩))); try go_wp2_with (first | (go_at_call 9; (with_reducible refine (laws_big.calls _ _ l0 true _ ?side1 ?side2 A2.out).mono ?_); (case side1 => repeat (first | exact HR0.out | (with_reducible refine Kd.C_alloc ?_ _) | (with_reducible refine Kd.C_drewN ?_ _) | (with_reducible refine Kd.C_drew ?_))); (case side2 => exact HC0.out); rintro e w' ⟨rfl, ⟨nd, rfl⟩⟩; (try first | exact ⟨rfl, _, World.drewN_drewN _ _ _⟩ | exact ⟨rfl, _, Eq.trans (World.drewN_drewN _ _ _) (congrArg (World.drewN _) (Nat.add_assoc _ _ _))⟩))))
  go_ret
  exact ⟨by first | rfl | (simp [errW_none, errW_some] <;> rfl) | (simp [*, errW_none, errW_some] <;> rfl), bel_ HB.out⟩
 case neg =>
 replace c3 := Bool.eq_false_iff.mpr c3
 subst c3
 have H1 : ((spec_DrawCargo.f k l0).bind fun bt353 => (laws_FnCargo.l0 k bt353.1 bt353.2 bt353.1 0)) = some r := by rw [if_neg (show ¬ (false = true) by decide)] at H; exact H
 clear H
 have H := H1
 clear H1; replace H := Option.bind_eq_some_iff.mp H
 obtain ⟨⟨t353, t354⟩, A40, H⟩ := H
 replace H : (laws_FnCargo.l0 k t353 t354 t353 0) = some r := H
 have A4 := Aside0.mk A40
 clear A40
 have H' := Aside0.mk H
 clear H
 go_enter Try.func6, Try.ntmps6
 go_wp2_with (first | (go_at_call 9; (with_reducible refine (laws_big.calls _ _ l0 false _ ?side1 ?side2 A2.out).mono ?_); (case side1 => repeat (first | exact HR0.out | (with_reducible refine Kd.C_alloc ?_ _) | (with_reducible refine Kd.C_drewN ?_ _) | (with_reducible refine Kd.C_drew ?_))); (case side2 => exact HC0.out); rintro e w' ⟨rfl, ⟨nd, rfl⟩⟩; (try first | exact ⟨rfl, _, World.drewN_drewN _ _ _⟩ | exact ⟨rfl, _, Eq.trans (World.drewN_drewN _ _ _) (congrArg (World.drewN _) (Nat.add_assoc _ _ _))⟩)) | (go_at_call 25; (with_reducible refine (spec_DrawCargo.calls k _ _ l0 t353 t354 _ ?side1 ?side2 A4.out).mono ?_); (case side1 => repeat (first | exact HR0.out | (with_reducible refine Kd.C_alloc ?_ _) | (with_reducible refine Kd.C_drewN ?_ _) | (with_reducible refine Kd.C_drew ?_))); (case side2 => exact HC0.out); rintro e w5 ⟨v355, v357, rfl, ho0, ho1, hb⟩; have HO356 := Aside0.mk (Kd.R_lower ho0 (below_size (bel_ HB.out))); have HO358 := Aside0.mk (Kd.R_lower ho1 (below_size (bel_ HB.out))); replace HB := Aside0.mk (below_step (bel_ HB.out) hb); (try clear hb); (try clear hb2); (try clear hk); (try clear hi); (try clear ho0); (try clear ho1)))
 repeat (go_quiet (first | (go_at_call 9; (with_reducible refine (laws_big.calls _ _ l0 false _ ?side1 ?side2 A2.out).mono ?_); (case side1 => repeat (first | exact HR0.out | (with_reducible refine Kd.C_alloc ?_ _) | (with_reducible refine Kd.C_drewN ?_ _) | (with_reducible refine Kd.C_drew ?_))); (case side2 => exact HC0.out); rintro e w' ⟨rfl, ⟨nd, rfl⟩⟩; (try first | exact ⟨rfl, _, World.drewN_drewN _ _ _⟩ | exact ⟨rfl, _, Eq.trans (World.drewN_drewN _ _ _) (congrArg (World.drewN _) (Nat.add_assoc _ _ _))⟩)) | (go_at_call 25; (with_reducible refine (spec_DrawCargo.calls k _ _ l0 t353 t354 _ ?side1 ?side2 A4.out).mono ?_); (case side1 => repeat (first | exact HR0.out | (with_reducible refine Kd.C_alloc ?_ _) | (with_reducible refine Kd.C_drewN ?_ _) | (with_reducible refine Kd.C_drew ?_))); (case side2 => exact HC0.out); rintro e w5 ⟨v355, v357, rfl, ho0, ho1, hb⟩; have HO356 := Aside0.mk (Kd.R_lower ho0 (below_size (bel_ HB.out))); have HO358 := Aside0.mk (Kd.R_lower ho1 (below_size (bel_ HB.out))); replace HB := Aside0.mk (below_step (bel_ HB.out) hb); (try clear hb); (try clear hb2); (try clear hk); (try clear hi); (try clear ho0); (try clear ho1))); try go_wp2_with (first | (go_at_call 9; (with_reducible refine (laws_big.calls _ _ l0 false _ ?side1 ?side2 A2.out).mono ?_); (case side1 => repeat (first | exact HR0.out | (with_reducible refine Kd.C_alloc ?_ _) | (with_reducible refine Kd.C_drewN ?_ _) | (with_reducible refine Kd.C_drew ?_))); (case side2 => exact HC0.out); rintro e w' ⟨rfl, ⟨nd, rfl⟩⟩; (try first | exact ⟨rfl, _, World.drewN_drewN _ _ _⟩ | exact ⟨rfl, _, Eq.trans (World.drewN_drewN _ _ _) (congrArg (World.drewN _) (Nat.add_assoc _ _ _))⟩)) | (go_at_call 25; (with_reducible refine (spec_DrawCargo.calls k _ _ l0 t353 t354 _ ?side1 ?side2 A4.out).mono ?_); (case side1 => repeat (first | exact HR0.out | (with_reducible refine Kd.C_alloc ?_ _) | (with_reducible refine Kd.C_drewN ?_ _) | (with_reducible refine Kd.C_drew ?_))); (case side2 => exact HC0.out); rintro e w5 ⟨v355, v357, rfl, ho0, ho1, hb⟩; have HO356 := Aside0.mk (Kd.R_lower ho0 (below_size (bel_ HB.out))); have HO358 := Aside0.mk (Kd.R_lower ho1 (below_size (bel_ HB.out))); replace HB := Aside0.mk (below_step (bel_ HB.out) hb); (try clear hb); (try clear hb2); (try clear hk); (try clear hi); (try clear ho0); (try clear ho1))))
 (try simp only [Act.put, sA_, sZ_, sS_])
 go_loopg [5, 6] k (fun kq v5 v6 w' => ∃ (x5_1 : List (S63)) (x6_1 : Int), v6 = .int .i64 x6_1 ∧ Aside0 (laws_FnCargo.l0 kq t353 t354 x5_1 x6_1 = some r) ∧ Aside0 (kq ≤ k) ∧ Aside0 (Kd.R k63 63 w' w.heap.size (fun _ => True) v355 t353) ∧ Aside0 (Kd.R k61 61 w' w.heap.size (fun _ => True) v357 t354) ∧ Aside0 (Kd.R k63 63 w' w.heap.size (fun _ => True) v5 x5_1) ∧ Aside0 (Below w.heap.size w w'))
 case atStart => exact ⟨(t353), (0), rl_, H', ⟨Nat.le_refl _⟩, ⟨fr_ HO356.out⟩, ⟨fr_ HO358.out⟩, ⟨fr_ HO356.out⟩, ⟨bel_ HB.out⟩⟩
 case round =>
  clear H'
  try clear c3
  obtain ⟨x5_1, x6_1, rfl, HA, HK1, HO_3, HO_4, HO_5, HB⟩ := hrel
  cases gk with
  | zero => exact absurd HA.out (by simp [laws_FnCargo.l0])
  | succ k1 =>
   have H := HA.out
   clear HA
   simp only [laws_FnCargo.l0] at H
   by_cases c6 : x6_1 < (t354.length : Int)
   ·rw [if_pos c6] at H
    have c6b0 : decide (x6_1 < (t354.length : Int)) = true := decide_eq_true c6
    clear c6
    by_cases c7 : 0 ≤ x6_1
    ·rw [if_pos c7] at H
     have c7b0 : decide (0 ≤ x6_1) = true := decide_eq_true c7
     clear c7; replace H := Option.bind_eq_some_iff.mp H
     obtain ⟨⟨t360, t363⟩, A80, H⟩ := H
     replace H : (if (t360.length : Int) = (x5_1.length : Int) then (laws_FnCargo.l1 k1 t353 t354 x5_1 x6_1 t360 t363 0 0) else (some false)) = some r := H
     have A8 := Aside0.mk A80
     clear A80
     by_cases c9 : (t360.length : Int) = (x5_1.length : Int)
     ·rw [if_pos c9] at H
      have c9b0 : ((t360.length : Int) == (x5_1.length : Int)) = true := beq_iff_eq.mpr c9
      have c9b1 : ((t360.length : Int) != (x5_1.length : Int)) = false := bne_eq_false_iff_eq.mpr c9
      have c9b2 : (t360.length == x5_1.length) = true := by first | simpa using c9 | (simp at c9 ⊢; omega)
      clear c9
      have H' := Aside0.mk H
      clear H
      obtain ⟨Ao10, co10, eo10⟩ := Kd.R_slice HO_4.out
      subst eo10
      have p359 : 0 ≤ (x6_1 : Int) := of_decide_eq_true (by first | (with_reducible assumption) | assumption)
      have q359 : x6_1 < (t354.length : Int) := of_decide_eq_true (by first | (with_reducible assumption) | assumption)
      obtain ⟨ad359, e359, hx359_0, hx359_1, hx359_2, hx359_3⟩ := at_T61 (Kd.R_reads' HO_4.out).2.2 x6_1 p359 q359
      cases e359
      replace p359 := eq_true p359; replace q359 := eq_true q359
      obtain ⟨Ao11, co11, eo11⟩ := Kd.R_slice HO_5.out
      subst eo11
      go_wp2_with (first | (go_at_call 26; (with_reducible refine (impl_CargoStep.calls k1 _ _ x5_1 ((rd_T61 t354 x6_1).f0) ((rd_T61 t354 x6_1).f1) ((rd_T61 t354 x6_1).f2) ((rd_T61 t354 x6_1).f3) 100000 t360 t363 _ ?side1 ?side2 A8.out).mono ?_); (case side1 => repeat (first | exact (Kd.R_reads' HO_5.out).2.2 | (with_reducible refine Kd.C_alloc ?_ _) | (with_reducible refine Kd.C_drewN ?_ _) | (with_reducible refine Kd.C_drew ?_))); (case side2 => exact (Kd.R_reads' HO_5.out).2.1); rintro e w12 ⟨v361, rfl, ho0, hb⟩; replace HO_4 := Aside0.mk (Kd.R_below (fr_ HO_4.out) hb); have HO362 := Aside0.mk (Kd.R_lower (Kd.R_new' (Kd.R_new' ho0 (Kd.R_lt (fr_ HO_3.out))) (Kd.R_lt (fr_ HO_5.out))) (below_size (bel_ HB.out))); replace HO_3 := Aside0.mk (Kd.R_elder' (fr_ HO_3.out) (Kd.R_base ho0) hb); replace HO_5 := Aside0.mk (Kd.R_elder' (fr_ HO_5.out) (Kd.R_base ho0) hb); replace HB := Aside0.mk (below_step (bel_ HB.out) hb); (try clear hb); (try clear hb2); (try clear hk); (try clear hi); (try clear ho0); obtain ⟨Ao13, co13, eo13⟩ := Kd.R_slice HO362.out; subst eo13))
      repeat (go_quiet (first | (go_at_call 26; (with_reducible refine (impl_CargoStep.calls k1 _ _ x5_1 ((rd_T61 t354 x6_1).f0) ((rd_T61 t354 x6_1).f1) ((rd_T61 t354 x6_1).f2) ((rd_T61 t354 x6_1).f3) 100000 t360 t363 _ ?side1 ?side2 A8.out).mono ?_); (case side1 => repeat (first | exact (Kd.R_reads' HO_5.out).2.2 | (with_reducible refine Kd.C_alloc ?_ _) | (with_reducible refine Kd.C_drewN ?_ _) | (with_reducible refine Kd.C_drew ?_))); (case side2 => exact (Kd.R_reads' HO_5.out).2.1); rintro e w12 ⟨v361, rfl, ho0, hb⟩; replace HO_4 := Aside0.mk (Kd.R_below (fr_ HO_4.out) hb); have HO362 := Aside0.mk (Kd.R_lower (Kd.R_new' (Kd.R_new' ho0 (Kd.R_lt (fr_ HO_3.out))) (Kd.R_lt (fr_ HO_5.out))) (below_size (bel_ HB.out))); replace HO_3 := Aside0.mk (Kd.R_elder' (fr_ HO_3.out) (Kd.R_base ho0) hb); replace HO_5 := Aside0.mk (Kd.R_elder' (fr_ HO_5.out) (Kd.R_base ho0) hb); replace HB := Aside0.mk (below_step (bel_ HB.out) hb); (try clear hb); (try clear hb2); (try clear hk); (try clear hi); (try clear ho0); obtain ⟨Ao13, co13, eo13⟩ := Kd.R_slice HO362.out; subst eo13)); try go_wp2_with (first | (go_at_call 26; (with_reducible refine (impl_CargoStep.calls k1 _ _ x5_1 ((rd_T61 t354 x6_1).f0) ((rd_T61 t354 x6_1).f1) ((rd_T61 t354 x6_1).f2) ((rd_T61 t354 x6_1).f3) 100000 t360 t363 _ ?side1 ?side2 A8.out).mono ?_); (case side1 => repeat (first | exact (Kd.R_reads' HO_5.out).2.2 | (with_reducible refine Kd.C_alloc ?_ _) | (with_reducible refine Kd.C_drewN ?_ _) | (with_reducible refine Kd.C_drew ?_))); (case side2 => exact (Kd.R_reads' HO_5.out).2.1); rintro e w12 ⟨v361, rfl, ho0, hb⟩; replace HO_4 := Aside0.mk (Kd.R_below (fr_ HO_4.out) hb); have HO362 := Aside0.mk (Kd.R_lower (Kd.R_new' (Kd.R_new' ho0 (Kd.R_lt (fr_ HO_3.out))) (Kd.R_lt (fr_ HO_5.out))) (below_size (bel_ HB.out))); replace HO_3 := Aside0.mk (Kd.R_elder' (fr_ HO_3.out) (Kd.R_base ho0) hb); replace HO_5 := Aside0.mk (Kd.R_elder' (fr_ HO_5.out) (Kd.R_base ho0) hb); replace HB := Aside0.mk (below_step (bel_ HB.out) hb); (try clear hb); (try clear hb2); (try clear hk); (try clear hi); (try clear ho0); obtain ⟨Ao13, co13, eo13⟩ := Kd.R_slice HO362.out; subst eo13)))
      go_loopg [9, 10] k1 (fun kq v9 v10 w' => ∃ (x9_2 : Int) (x10_2 : Int), v9 = .int .i64 x9_2 ∧ v10 = .int .i64 x10_2 ∧ Aside0 (laws_FnCargo.l1 kq t353 t354 x5_1 x6_1 t360 t363 x9_2 x10_2 = some r) ∧ Aside0 (kq ≤ k1) ∧ Aside0 (Kd.R k63 63 w' w.heap.size (fun k_ => some k_ ≠ ((.slice Ao13 t360.length co13) : Value).ownBlock) v355 t353) ∧ Aside0 (Kd.R k61 61 w' w.heap.size (fun _ => True) (.slice (some ad359) t354.length co10) t354) ∧ Aside0 (Kd.R k63 63 w' w.heap.size (fun k_ => some k_ ≠ ((.slice Ao13 t360.length co13) : Value).ownBlock) (.slice Ao11 x5_1.length co11) x5_1) ∧ Aside0 (Kd.R k63 63 w' w.heap.size (fun k_ => nB_ (v355) k_ ∧ some k_ ≠ ((.slice Ao11 x5_1.length co11) : Value).ownBlock) (.slice Ao13 t360.length co13) t360) ∧ Aside0 (Below w.heap.size w w'))
      case atStart => exact ⟨(0), (0), rl_, rl_, H', ⟨Nat.le_refl _⟩, ⟨rn_ HO_3.out (fun _ hk => hk.2)⟩, ⟨fr_ HO_4.out⟩, ⟨rn_ HO_5.out (fun _ hk => hk.2)⟩, ⟨rn_ HO362.out (fun _ hk => ⟨hk.1.2, hk.2⟩)⟩, ⟨bel_ HB.out⟩⟩
      case round =>
       clear H'
       try clear c3
       try clear c6
       try clear c6b0
       try clear c7
       try clear c7b0
       try clear c9
       try clear c9b0
       try clear c9b1
       try clear c9b2
       try clear hx359_0
       try clear hx359_1
       try clear hx359_2
       try clear hx359_3
       try clear p359
       try clear q359
       obtain ⟨x9_2, x10_2, rfl, rfl, HA, HK2, HO_3, HO_4, HO_5, HO_7, HB⟩ := hrel
       cases gk with
       | zero => exact absurd HA.out (by simp [laws_FnCargo.l1])
       | succ k2 =>
        have H := HA.out
        clear HA
        simp only [laws_FnCargo.l1] at H
        by_cases c14 : x10_2 < (x5_1.length : Int)
        ·rw [if_pos c14] at H
         have c14b0 : decide (x10_2 < (x5_1.length : Int)) = true := decide_eq_true c14
         clear c14
         by_cases c15 : 0 ≤ x10_2
         ·rw [if_pos c15] at H
          have c15b0 : decide (0 ≤ x10_2) = true := decide_eq_true c15
          clear c15
          by_cases c16 : x10_2 < (t360.length : Int)
          ·rw [if_pos c16] at H
           have c16b0 : decide (x10_2 < (t360.length : Int)) = true := decide_eq_true c16
           clear c16
           by_cases c17 : t363 = 0
           ·rw [if_pos c17] at H
            have c17b0 : (t363 == 0) = true := beq_iff_eq.mpr c17
            have c17b1 : (t363 != 0) = false := bne_eq_false_iff_eq.mpr c17
            clear c17
            have H' := Aside0.mk H
            clear H
            have p364 : 0 ≤ (x10_2 : Int) := of_decide_eq_true (by first | (with_reducible assumption) | assumption)
            have q364 : x10_2 < (t360.length : Int) := of_decide_eq_true (by first | (with_reducible assumption) | assumption)
            obtain ⟨ad364, e364, hx364_0, hx364_1, hx364_2, hx364_3, hx364_4⟩ := at_T63 (Kd.R_reads' HO_7.out).2.2 x10_2 p364 q364
            cases e364
            replace p364 := eq_true p364; replace q364 := eq_true q364
            have p365 : 0 ≤ (x10_2 : Int) := of_decide_eq_true (by first | (with_reducible assumption) | assumption)
            have q365 : x10_2 < (x5_1.length : Int) := of_decide_eq_true (by first | (with_reducible assumption) | assumption)
            obtain ⟨ad365, e365, hx365_0, hx365_1, hx365_2, hx365_3, hx365_4⟩ := at_T63 (Kd.R_reads' HO_5.out).2.2 x10_2 p365 q365
            cases e365
            replace p365 := eq_true p365; replace q365 := eq_true q365
            go_wp2
            repeat (go_quiet (fail); try go_wp2)
            go_roundg k2
            case measure => have := HK1.out; have := HK2.out; omega
            case rel => exact ⟨(wrap64 ((wrap64 (x9_2 + ((rd_T63 t360 x10_2).f0))) - ((rd_T63 x5_1 x10_2).f0))), (wrap64 (x10_2 + 1)), rl_, rl_, H', ⟨by have := HK1.out; have := HK2.out; omega⟩, ⟨fr_ HO_3.out⟩, ⟨fr_ HO_4.out⟩, ⟨fr_ HO_5.out⟩, ⟨fr_ HO_7.out⟩, ⟨bel_ HB.out⟩⟩
           case neg =>
           rw [if_neg c17] at H
           have c17b0 : (t363 == 0) = false := beq_eq_false_iff_ne.mpr c17
           have c17b1 : (t363 != 0) = true := bne_iff_ne.mpr c17
           by_cases c18 : (!(((rd_T63 t360 x10_2).f0) == ((rd_T63 x5_1 x10_2).f0)) || (!(((rd_T63 t360 x10_2).f1) == ((rd_T63 x5_1 x10_2).f1)) || (!(((rd_T63 t360 x10_2).f2) == ((rd_T63 x5_1 x10_2).f2)) || (!(((rd_T63 t360 x10_2).f3) == ((rd_T63 x5_1 x10_2).f3)) || (!(((rd_T63 t360 x10_2).f4) == ((rd_T63 x5_1 x10_2).f4))))))) = true
           ·rw [if_pos c18] at H
            have c18b0 : (!(((rd_T63 t360 x10_2).f0) == ((rd_T63 x5_1 x10_2).f0)) || (!(((rd_T63 t360 x10_2).f1) == ((rd_T63 x5_1 x10_2).f1)) || (!(((rd_T63 t360 x10_2).f2) == ((rd_T63 x5_1 x10_2).f2)) || (!(((rd_T63 t360 x10_2).f3) == ((rd_T63 x5_1 x10_2).f3)) || (!(((rd_T63 t360 x10_2).f4) == ((rd_T63 x5_1 x10_2).f4))))))) = true := c18
            clear c18
            obtain rfl := Option.some.inj H
            have p364 : 0 ≤ (x10_2 : Int) := of_decide_eq_true (by first | (with_reducible assumption) | assumption)
            have q364 : x10_2 < (t360.length : Int) := of_decide_eq_true (by first | (with_reducible assumption) | assumption)
            obtain ⟨ad364, e364, hx364_0, hx364_1, hx364_2, hx364_3, hx364_4⟩ := at_T63 (Kd.R_reads' HO_7.out).2.2 x10_2 p364 q364
            cases e364
            replace p364 := eq_true p364; replace q364 := eq_true q364
            have p365 : 0 ≤ (x10_2 : Int) := of_decide_eq_true (by first | (with_reducible assumption) | assumption)
            have q365 : x10_2 < (x5_1.length : Int) := of_decide_eq_true (by first | (with_reducible assumption) | assumption)
            obtain ⟨ad365, e365, hx365_0, hx365_1, hx365_2, hx365_3, hx365_4⟩ := at_T63 (Kd.R_reads' HO_5.out).2.2 x10_2 p365 q365
            cases e365
            replace p365 := eq_true p365; replace q365 := eq_true q365
            have p366 : 0 ≤ (x10_2 : Int) := of_decide_eq_true (by first | (with_reducible assumption) | assumption)
            have q366 : x10_2 < (t360.length : Int) := of_decide_eq_true (by first | (with_reducible assumption) | assumption)
            obtain ⟨ad366, e366, hx366_0, hx366_1, hx366_2, hx366_3, hx366_4⟩ := at_T63 (Kd.R_reads' HO_7.out).2.2 x10_2 p366 q366
            obtain rfl : ad364 = ad366 := (by injection e366)
            replace p366 := eq_true p366; replace q366 := eq_true q366
            have p367 : 0 ≤ (x10_2 : Int) := of_decide_eq_true (by first | (with_reducible assumption) | assumption)
            have q367 : x10_2 < (x5_1.length : Int) := of_decide_eq_true (by first | (with_reducible assumption) | assumption)
            obtain ⟨ad367, e367, hx367_0, hx367_1, hx367_2, hx367_3, hx367_4⟩ := at_T63 (Kd.R_reads' HO_5.out).2.2 x10_2 p367 q367
            obtain rfl : ad365 = ad367 := (by injection e367)
            replace p367 := eq_true p367; replace q367 := eq_true q367
            go_wp2
            repeat (go_quiet (fail); try go_wp2)
            go_ret
            exact ⟨by first | rfl | (simp [errW_none, errW_some] <;> rfl) | (simp [*, errW_none, errW_some] <;> rfl), bel_ HB.out⟩
           case neg =>
           rw [if_neg c18] at H
           have c18b0 : (!(((rd_T63 t360 x10_2).f0) == ((rd_T63 x5_1 x10_2).f0)) || (!(((rd_T63 t360 x10_2).f1) == ((rd_T63 x5_1 x10_2).f1)) || (!(((rd_T63 t360 x10_2).f2) == ((rd_T63 x5_1 x10_2).f2)) || (!(((rd_T63 t360 x10_2).f3) == ((rd_T63 x5_1 x10_2).f3)) || (!(((rd_T63 t360 x10_2).f4) == ((rd_T63 x5_1 x10_2).f4))))))) = false := by simpa using c18
           clear c18
           have H' := Aside0.mk H
           clear H
           have p364 : 0 ≤ (x10_2 : Int) := of_decide_eq_true (by first | (with_reducible assumption) | assumption)
           have q364 : x10_2 < (t360.length : Int) := of_decide_eq_true (by first | (with_reducible assumption) | assumption)
           obtain ⟨ad364, e364, hx364_0, hx364_1, hx364_2, hx364_3, hx364_4⟩ := at_T63 (Kd.R_reads' HO_7.out).2.2 x10_2 p364 q364
           cases e364
           replace p364 := eq_true p364; replace q364 := eq_true q364
           have p365 : 0 ≤ (x10_2 : Int) := of_decide_eq_true (by first | (with_reducible assumption) | assumption)
           have q365 : x10_2 < (x5_1.length : Int) := of_decide_eq_true (by first | (with_reducible assumption) | assumption)
           obtain ⟨ad365, e365, hx365_0, hx365_1, hx365_2, hx365_3, hx365_4⟩ := at_T63 (Kd.R_reads' HO_5.out).2.2 x10_2 p365 q365
           cases e365
           replace p365 := eq_true p365; replace q365 := eq_true q365
           have p366 : 0 ≤ (x10_2 : Int) := of_decide_eq_true (by first | (with_reducible assumption) | assumption)
           have q366 : x10_2 < (t360.length : Int) := of_decide_eq_true (by first | (with_reducible assumption) | assumption)
           obtain ⟨ad366, e366, hx366_0, hx366_1, hx366_2, hx366_3, hx366_4⟩ := at_T63 (Kd.R_reads' HO_7.out).2.2 x10_2 p366 q366
           obtain rfl : ad364 = ad366 := (by injection e366)
           replace p366 := eq_true p366; replace q366 := eq_true q366
           have p367 : 0 ≤ (x10_2 : Int) := of_decide_eq_true (by first | (with_reducible assumption) | assumption)
           have q367 : x10_2 < (x5_1.length : Int) := of_decide_eq_true (by first | (with_reducible assumption) | assumption)
           obtain ⟨ad367, e367, hx367_0, hx367_1, hx367_2, hx367_3, hx367_4⟩ := at_T63 (Kd.R_reads' HO_5.out).2.2 x10_2 p367 q367
           obtain rfl : ad365 = ad367 := (by injection e367)
           replace p367 := eq_true p367; replace q367 := eq_true q367
           go_wp2
           repeat (go_quiet (fail); try go_wp2)
           go_roundg k2
           case measure => have := HK1.out; have := HK2.out; omega
           case rel => exact ⟨(wrap64 ((wrap64 (x9_2 + ((rd_T63 t360 x10_2).f0))) - ((rd_T63 x5_1 x10_2).f0))), (wrap64 (x10_2 + 1)), rl_, rl_, H', ⟨by have := HK1.out; have := HK2.out; omega⟩, ⟨fr_ HO_3.out⟩, ⟨fr_ HO_4.out⟩, ⟨fr_ HO_5.out⟩, ⟨fr_ HO_7.out⟩, ⟨bel_ HB.out⟩⟩
          ·rw [if_neg c16] at H
           exact absurd H (by simp)
         ·rw [if_neg c15] at H
          exact absurd H (by simp)
        case neg =>
        rw [if_neg c14] at H
        have c14b0 : decide (x10_2 < (x5_1.length : Int)) = false := decide_eq_false c14
        clear c14
        have HC19 := Aside0.mk H
        clear H
        go_upto_region 19 with (fail)
        repeat (go_quiet (fail); go_upto_region 19 with (fail))
        go_cut [88] (fun v88 wc => ∃ (kq : Nat) (x88_18 : Bool), v88 = .bool x88_18 ∧ Aside0 (laws_FnCargo.j2 kq t353 t354 x6_1 t360 t363 x9_2 0 x88_18 = some r) ∧ Aside0 (kq ≤ k2) ∧ Aside0 (Kd.R k63 63 wc w.heap.size (fun k_ => some k_ ≠ ((.slice Ao13 t360.length co13) : Value).ownBlock) v355 t353) ∧ Aside0 (Kd.R k61 61 wc w.heap.size (fun _ => True) (.slice (some ad359) t354.length co10) t354) ∧ Aside0 (Kd.R k63 63 wc w.heap.size (fun k_ => nB_ (v355) k_) (.slice Ao13 t360.length co13) t360) ∧ Aside0 (Below w.heap.size w wc))
        case first =>
         have H := HC19.out
         clear HC19
         by_cases c20 : t363 = 0
         ·rw [if_pos c20] at H
          have c20b0 : (t363 == 0) = true := beq_iff_eq.mpr c20
          have c20b1 : (t363 != 0) = false := bne_eq_false_iff_eq.mpr c20
          clear c20
          (first | rw [c20b0] | (simp only [i64_w, i32_w]; rw [c20b0]) | skip)
          by_cases c21 : 0 ≤ x6_1
          ·rw [if_pos c21] at H
           have c21b0 : decide (0 ≤ x6_1) = true := decide_eq_true c21
           clear c21
           by_cases c22 : x6_1 < (t354.length : Int)
           ·rw [if_pos c22] at H
            have c22b0 : decide (x6_1 < (t354.length : Int)) = true := decide_eq_true c22
            clear c22
            have H' := Aside0.mk H
            clear H
            have p368 : 0 ≤ (x6_1 : Int) := of_decide_eq_true (by first | (with_reducible assumption) | assumption)
            have q368 : x6_1 < (t354.length : Int) := of_decide_eq_true (by first | (with_reducible assumption) | assumption)
            obtain ⟨ad368, e368, hx368_0, hx368_1, hx368_2, hx368_3⟩ := at_T61 (Kd.R_reads' HO_4.out).2.2 x6_1 p368 q368
            obtain rfl : ad359 = ad368 := (by injection e368)
            replace p368 := eq_true p368; replace q368 := eq_true q368
            go_wp2
            repeat (go_quiet (fail); try go_wp2)
            go_meet
            case rel => exact ⟨_, ((((rd_T61 t354 x6_1).f0) == 1)), rl_, H', ⟨by have := HK1.out; have := HK2.out; first | omega | exact Nat.le_refl _⟩, ⟨fr_ HO_3.out⟩, ⟨fr_ HO_4.out⟩, ⟨rn_ HO_7.out (fun _ hk => hk.1)⟩, ⟨bel_ HB.out⟩⟩
           ·rw [if_neg c22] at H
            exact absurd H (by simp)
          ·rw [if_neg c21] at H
           exact absurd H (by simp)
         ·rw [if_neg c20] at H
          have c20b0 : (t363 == 0) = false := beq_eq_false_iff_ne.mpr c20
          have c20b1 : (t363 != 0) = true := bne_iff_ne.mpr c20
          (first | rw [c20b0] | (simp only [i64_w, i32_w]; rw [c20b0]) | skip)
          have H' := Aside0.mk H
          clear H
          go_wp2
          repeat (go_quiet (fail); try go_wp2)
          go_meet
          case rel => exact ⟨_, (false), rl_, H', ⟨by have := HK1.out; have := HK2.out; first | omega | exact Nat.le_refl _⟩, ⟨fr_ HO_3.out⟩, ⟨fr_ HO_4.out⟩, ⟨rn_ HO_7.out (fun _ hk => hk.1)⟩, ⟨bel_ HB.out⟩⟩
        case rest =>
        clear HC19
        try clear c3
        try clear c6
        try clear c6b0
        try clear c7
        try clear c7b0
        try clear c9
        try clear c9b0
        try clear c9b1
        try clear c9b2
        try clear c14
        try clear c14b0
        try clear hx359_0
        try clear hx359_1
        try clear hx359_2
        try clear hx359_3
        try clear p359
        try clear q359
        obtain ⟨kq, x88_18, rfl, HA, HJ18, HO_3, HO_4, HO_7, HB⟩ := hcut
        cases kq with
        | zero => exact absurd HA.out (by simp [laws_FnCargo.j2])
        | succ kj18 =>
         have H := HA.out
         clear HA
         simp only [laws_FnCargo.j2] at H
         have HC23 := Aside0.mk H
         clear H
         go_upto_if 88 with (fail)
         repeat (go_quiet (fail); go_upto_if 88 with (fail))
         go_cut [11] (fun v11 wc => ∃ (kq : Nat) (x11_22 : Int), v11 = .int .i64 x11_22 ∧ Aside0 (laws_FnCargo.j3 kq t353 t354 x6_1 t360 t363 x9_2 x11_22 = some r) ∧ Aside0 (kq ≤ kj18) ∧ Aside0 (Kd.R k63 63 wc w.heap.size (fun k_ => some k_ ≠ ((.slice Ao13 t360.length co13) : Value).ownBlock) v355 t353) ∧ Aside0 (Kd.R k61 61 wc w.heap.size (fun _ => True) (.slice (some ad359) t354.length co10) t354) ∧ Aside0 (Kd.R k63 63 wc w.heap.size (fun k_ => nB_ (v355) k_) (.slice Ao13 t360.length co13) t360) ∧ Aside0 (Below w.heap.size w wc))
         case first =>
          have H := HC23.out
          clear HC23
          by_cases c24 : x88_18 = true
          ·subst c24
           have H1 : (if 0 ≤ x6_1 then (if x6_1 < (t354.length : Int) then (laws_FnCargo.j3 kj18 t353 t354 x6_1 t360 t363 x9_2 ((rd_T61 t354 x6_1).f3)) else (none)) else (none)) = some r := by rw [if_pos rfl] at H; exact H
           clear H
           have H := H1
           clear H1
           by_cases c25 : 0 ≤ x6_1
           ·rw [if_pos c25] at H
            have c25b0 : decide (0 ≤ x6_1) = true := decide_eq_true c25
            clear c25
            (first | rw [c25b0] | (simp only [i64_w, i32_w]; rw [c25b0]) | skip)
            by_cases c26 : x6_1 < (t354.length : Int)
            ·rw [if_pos c26] at H
             have c26b0 : decide (x6_1 < (t354.length : Int)) = true := decide_eq_true c26
             clear c26
             have H' := Aside0.mk H
             clear H
             have p369 : 0 ≤ (x6_1 : Int) := of_decide_eq_true (by first | (with_reducible assumption) | assumption)
             have q369 : x6_1 < (t354.length : Int) := of_decide_eq_true (by first | (with_reducible assumption) | assumption)
             obtain ⟨ad369, e369, hx369_0, hx369_1, hx369_2, hx369_3⟩ := at_T61 (Kd.R_reads' HO_4.out).2.2 x6_1 p369 q369
             obtain rfl : ad359 = ad369 := (by injection e369)
             replace p369 := eq_true p369; replace q369 := eq_true q369
             go_wp2
             repeat (go_quiet (fail); try go_wp2)
             go_meet
             case rel => exact ⟨_, ((rd_T61 t354 x6_1).f3), rl_, H', ⟨by have := HK1.out; have := HK2.out; have := HJ18.out; first | omega | exact Nat.le_refl _⟩, ⟨fr_ HO_3.out⟩, ⟨fr_ HO_4.out⟩, ⟨fr_ HO_7.out⟩, ⟨bel_ HB.out⟩⟩
            ·rw [if_neg c26] at H
             exact absurd H (by simp)
           ·rw [if_neg c25] at H
            exact absurd H (by simp)
          ·replace c24 := Bool.eq_false_iff.mpr c24
           subst c24
           have H1 : (laws_FnCargo.j3 kj18 t353 t354 x6_1 t360 t363 x9_2 0) = some r := by rw [if_neg (show ¬ (false = true) by decide)] at H; exact H
           clear H
           have H := H1
           clear H1
           have H' := Aside0.mk H
           clear H
           go_wp2
           repeat (go_quiet (fail); try go_wp2)
           go_meet
           case rel => exact ⟨_, (0), rl_, H', ⟨by have := HK1.out; have := HK2.out; have := HJ18.out; first | omega | exact Nat.le_refl _⟩, ⟨fr_ HO_3.out⟩, ⟨fr_ HO_4.out⟩, ⟨fr_ HO_7.out⟩, ⟨bel_ HB.out⟩⟩
         case rest =>
         clear HC23
         try clear c3
         try clear c6
         try clear c6b0
         try clear c7
         try clear c7b0
         try clear c9
         try clear c9b0
         try clear c9b1
         try clear c9b2
         try clear c14
         try clear c14b0
         try clear hx359_0
         try clear hx359_1
         try clear hx359_2
         try clear hx359_3
         try clear p359
         try clear q359
         obtain ⟨kq, x11_22, rfl, HA, HJ22, HO_3, HO_4, HO_7, HB⟩ := hcut
         cases kq with
         | zero => exact absurd HA.out (by simp [laws_FnCargo.j3])
         | succ kj22 =>
          have H := HA.out
          clear HA
          simp only [laws_FnCargo.j3] at H
          have HC27 := Aside0.mk H
          clear H
          go_upto_region 21 with (fail)
          repeat (go_quiet (fail); go_upto_region 21 with (fail))
          go_cut [103] (fun v103 wc => ∃ (kq : Nat) (x103_26 : Bool), v103 = .bool x103_26 ∧ Aside0 (laws_FnCargo.j4 kq t353 t354 x6_1 t360 t363 x9_2 x11_22 x103_26 = some r) ∧ Aside0 (kq ≤ kj22) ∧ Aside0 (Kd.R k63 63 wc w.heap.size (fun k_ => some k_ ≠ ((.slice Ao13 t360.length co13) : Value).ownBlock) v355 t353) ∧ Aside0 (Kd.R k61 61 wc w.heap.size (fun _ => True) (.slice (some ad359) t354.length co10) t354) ∧ Aside0 (Kd.R k63 63 wc w.heap.size (fun k_ => nB_ (v355) k_) (.slice Ao13 t360.length co13) t360) ∧ Aside0 (Below w.heap.size w wc))
          case first =>
           have H := HC27.out
           clear HC27
           by_cases c28 : t363 = 0
           ·rw [if_pos c28] at H
            have c28b0 : (t363 == 0) = true := beq_iff_eq.mpr c28
            have c28b1 : (t363 != 0) = false := bne_eq_false_iff_eq.mpr c28
            clear c28
            (first | rw [c28b0] | (simp only [i64_w, i32_w]; rw [c28b0]) | skip)
            by_cases c29 : 0 ≤ x6_1
            ·rw [if_pos c29] at H
             have c29b0 : decide (0 ≤ x6_1) = true := decide_eq_true c29
             clear c29
             by_cases c30 : x6_1 < (t354.length : Int)
             ·rw [if_pos c30] at H
              have c30b0 : decide (x6_1 < (t354.length : Int)) = true := decide_eq_true c30
              clear c30
              have H' := Aside0.mk H
              clear H
              have p370 : 0 ≤ (x6_1 : Int) := of_decide_eq_true (by first | (with_reducible assumption) | assumption)
              have q370 : x6_1 < (t354.length : Int) := of_decide_eq_true (by first | (with_reducible assumption) | assumption)
              obtain ⟨ad370, e370, hx370_0, hx370_1, hx370_2, hx370_3⟩ := at_T61 (Kd.R_reads' HO_4.out).2.2 x6_1 p370 q370
              obtain rfl : ad359 = ad370 := (by injection e370)
              replace p370 := eq_true p370; replace q370 := eq_true q370
              go_wp2
              repeat (go_quiet (fail); try go_wp2)
              go_meet
              case rel => exact ⟨_, ((((rd_T61 t354 x6_1).f0) == 2)), rl_, H', ⟨by have := HK1.out; have := HK2.out; have := HJ18.out; have := HJ22.out; first | omega | exact Nat.le_refl _⟩, ⟨fr_ HO_3.out⟩, ⟨fr_ HO_4.out⟩, ⟨fr_ HO_7.out⟩, ⟨bel_ HB.out⟩⟩
             ·rw [if_neg c30] at H
              exact absurd H (by simp)
            ·rw [if_neg c29] at H
             exact absurd H (by simp)
           ·rw [if_neg c28] at H
            have c28b0 : (t363 == 0) = false := beq_eq_false_iff_ne.mpr c28
            have c28b1 : (t363 != 0) = true := bne_iff_ne.mpr c28
            (first | rw [c28b0] | (simp only [i64_w, i32_w]; rw [c28b0]) | skip)
            have H' := Aside0.mk H
            clear H
            go_wp2
            repeat (go_quiet (fail); try go_wp2)
            go_meet
            case rel => exact ⟨_, (false), rl_, H', ⟨by have := HK1.out; have := HK2.out; have := HJ18.out; have := HJ22.out; first | omega | exact Nat.le_refl _⟩, ⟨fr_ HO_3.out⟩, ⟨fr_ HO_4.out⟩, ⟨fr_ HO_7.out⟩, ⟨bel_ HB.out⟩⟩
          case rest =>
          clear HC27
          try clear c3
          try clear c6
          try clear c6b0
          try clear c7
          try clear c7b0
          try clear c9
          try clear c9b0
          try clear c9b1
          try clear c9b2
          try clear c14
          try clear c14b0
          try clear hx359_0
          try clear hx359_1
          try clear hx359_2
          try clear hx359_3
          try clear p359
          try clear q359
          obtain ⟨kq, x103_26, rfl, HA, HJ26, HO_3, HO_4, HO_7, HB⟩ := hcut
          cases kq with
          | zero => exact absurd HA.out (by simp [laws_FnCargo.j4])
          | succ kj26 =>
           have H := HA.out
           clear HA
           simp only [laws_FnCargo.j4] at H
           have HC31 := Aside0.mk H
           clear H
           go_upto_if 103 with (fail)
           repeat (go_quiet (fail); go_upto_if 103 with (fail))
           go_cut [11] (fun v11 wc => ∃ (kq : Nat) (x11_30 : Int), v11 = .int .i64 x11_30 ∧ Aside0 (laws_FnCargo.j5 kq t353 t354 x6_1 t360 t363 x9_2 x11_30 = some r) ∧ Aside0 (kq ≤ kj26) ∧ Aside0 (Kd.R k63 63 wc w.heap.size (fun k_ => some k_ ≠ ((.slice Ao13 t360.length co13) : Value).ownBlock) v355 t353) ∧ Aside0 (Kd.R k61 61 wc w.heap.size (fun _ => True) (.slice (some ad359) t354.length co10) t354) ∧ Aside0 (Kd.R k63 63 wc w.heap.size (fun k_ => nB_ (v355) k_) (.slice Ao13 t360.length co13) t360) ∧ Aside0 (Below w.heap.size w wc))
           case first =>
            have H := HC31.out
            clear HC31
            by_cases c32 : x103_26 = true
            ·subst c32
             have H1 : (if 0 ≤ x6_1 then (if x6_1 < (t354.length : Int) then (laws_FnCargo.j5 kj26 t353 t354 x6_1 t360 t363 x9_2 (wrap64 (-((rd_T61 t354 x6_1).f3)))) else (none)) else (none)) = some r := by rw [if_pos rfl] at H; exact H
             clear H
             have H := H1
             clear H1
             by_cases c33 : 0 ≤ x6_1
             ·rw [if_pos c33] at H
              have c33b0 : decide (0 ≤ x6_1) = true := decide_eq_true c33
              clear c33
              (first | rw [c33b0] | (simp only [i64_w, i32_w]; rw [c33b0]) | skip)
              by_cases c34 : x6_1 < (t354.length : Int)
              ·rw [if_pos c34] at H
               have c34b0 : decide (x6_1 < (t354.length : Int)) = true := decide_eq_true c34
               clear c34
               have H' := Aside0.mk H
               clear H
               have p371 : 0 ≤ (x6_1 : Int) := of_decide_eq_true (by first | (with_reducible assumption) | assumption)
               have q371 : x6_1 < (t354.length : Int) := of_decide_eq_true (by first | (with_reducible assumption) | assumption)
               obtain ⟨ad371, e371, hx371_0, hx371_1, hx371_2, hx371_3⟩ := at_T61 (Kd.R_reads' HO_4.out).2.2 x6_1 p371 q371
               obtain rfl : ad359 = ad371 := (by injection e371)
               replace p371 := eq_true p371; replace q371 := eq_true q371
               go_wp2
               repeat (go_quiet (fail); try go_wp2)
               go_meet
               case rel => exact ⟨_, (wrap64 (-((rd_T61 t354 x6_1).f3))), rl_, H', ⟨by have := HK1.out; have := HK2.out; have := HJ18.out; have := HJ22.out; have := HJ26.out; first | omega | exact Nat.le_refl _⟩, ⟨fr_ HO_3.out⟩, ⟨fr_ HO_4.out⟩, ⟨fr_ HO_7.out⟩, ⟨bel_ HB.out⟩⟩
              ·rw [if_neg c34] at H
               exact absurd H (by simp)
             ·rw [if_neg c33] at H
              exact absurd H (by simp)
            ·replace c32 := Bool.eq_false_iff.mpr c32
             subst c32
             have H1 : (laws_FnCargo.j5 kj26 t353 t354 x6_1 t360 t363 x9_2 x11_22) = some r := by rw [if_neg (show ¬ (false = true) by decide)] at H; exact H
             clear H
             have H := H1
             clear H1
             have H' := Aside0.mk H
             clear H
             go_wp2
             repeat (go_quiet (fail); try go_wp2)
             go_meet
             case rel => exact ⟨_, (x11_22), rl_, H', ⟨by have := HK1.out; have := HK2.out; have := HJ18.out; have := HJ22.out; have := HJ26.out; first | omega | exact Nat.le_refl _⟩, ⟨fr_ HO_3.out⟩, ⟨fr_ HO_4.out⟩, ⟨fr_ HO_7.out⟩, ⟨bel_ HB.out⟩⟩
           case rest =>
           clear HC31
           try clear c3
           try clear c6
           try clear c6b0
           try clear c7
           try clear c7b0
           try clear c9
           try clear c9b0
           try clear c9b1
           try clear c9b2
           try clear c14
           try clear c14b0
           try clear hx359_0
           try clear hx359_1
           try clear hx359_2
           try clear hx359_3
           try clear p359
           try clear q359
           obtain ⟨kq, x11_30, rfl, HA, HJ30, HO_3, HO_4, HO_7, HB⟩ := hcut
           cases kq with
           | zero => exact absurd HA.out (by simp [laws_FnCargo.j5])
           | succ kj30 =>
            have H := HA.out
            clear HA
            simp only [laws_FnCargo.j5] at H
            by_cases c35 : x9_2 = x11_30
            ·rw [if_pos c35] at H
             have c35b0 : (x9_2 == x11_30) = true := beq_iff_eq.mpr c35
             have c35b1 : (x9_2 != x11_30) = false := bne_eq_false_iff_eq.mpr c35
             clear c35
             by_cases c36 : t363 = 0
             ·rw [if_pos c36] at H
              have c36b0 : (t363 == 0) = true := beq_iff_eq.mpr c36
              have c36b1 : (t363 != 0) = false := bne_eq_false_iff_eq.mpr c36
              clear c36
              by_cases c37 : 0 ≤ x6_1
              ·rw [if_pos c37] at H
               have c37b0 : decide (0 ≤ x6_1) = true := decide_eq_true c37
               clear c37
               by_cases c38 : x6_1 < (t354.length : Int)
               ·rw [if_pos c38] at H
                have c38b0 : decide (x6_1 < (t354.length : Int)) = true := decide_eq_true c38
                clear c38
                obtain ⟨y373, hy373⟩ : ∃ y_ : List Int, y_ = (([(rd_T61 t354 x6_1).f1] : List Int)) := ⟨_, rfl⟩
                replace H : (if ((rd_T61 t354 x6_1).f0) = 3 then (if y373.length < 17592186044416 then (laws_FnCargo.j6 kj30 t353 t354 x6_1 t360 (y373 ++ [(rd_T61 t354 x6_1).f2])) else (none)) else (laws_FnCargo.j6 kj30 t353 t354 x6_1 t360 y373)) = some r := by first | (rw [hy373]; with_reducible exact H) | (have H2_ := (Option.bind_some _ _).symm.trans H; rw [hy373]; with_reducible exact H2_) | (have H2_ := (Option.bind_some _ _).symm.trans H; with_reducible exact H2_) | with_reducible exact H | (rw [hy373]; exact H) | exact H
                have Ny373 := Aside0.mk hy373
                clear hy373
                have HC39 := Aside0.mk H
                clear H
                have p372 : 0 ≤ (x6_1 : Int) := of_decide_eq_true (by first | (with_reducible assumption) | assumption)
                have q372 : x6_1 < (t354.length : Int) := of_decide_eq_true (by first | (with_reducible assumption) | assumption)
                obtain ⟨ad372, e372, hx372_0, hx372_1, hx372_2, hx372_3⟩ := at_T61 (Kd.R_reads' HO_4.out).2.2 x6_1 p372 q372
                obtain rfl : ad359 = ad372 := (by injection e372)
                replace p372 := eq_true p372; replace q372 := eq_true q372
                go_upto_if 126 with (first | ((with_reducible refine gate_dst (N := 120) rfl ?_); refine Kd.R_lit (Kd.int .i64) _ 3 ?hg (N := 120) ?hd (xs := ([(rd_T61 t354 x6_1).f1] : List Int)) (inner := [.int .i64 ((rd_T61 t354 x6_1).f1)]) (ok := fun _ => True) (okp := fun _ => True) ?hr ?hp (fun _ hk => hk) trivial (Below.refl _ _) (Nat.le_refl _) (by simp) ?_; (case hd => rfl); (case hg => rfl); (case hr => first | (go_simp; done) | (go_simp; rfl)); (case hp => exact (Reps.one (show Kd.M (Kd.int .i64) _ _ _ ((rd_T61 t354 x6_1).f1) [.int .i64 ((rd_T61 t354 x6_1).f1)] from rfl) (Reps.none _ _))); intro v374 w40 ho41 hb hg_ hnew_; clear hg_ hnew_; (first | rw [← Ny373.out] at ho41 | (simp only [Int.reduceToNat] at ho41; rw [← Ny373.out] at ho41)); replace HO_3 := Aside0.mk (Kd.R_below (fr_ HO_3.out) hb); replace HO_4 := Aside0.mk (Kd.R_below (fr_ HO_4.out) hb); replace HO_7 := Aside0.mk (Kd.R_below (fr_ HO_7.out) hb); have HO375 := Aside0.mk (Kd.R_lower ho41 (below_size (bel_ HB.out))); replace HB := Aside0.mk (below_step (bel_ HB.out) hb); clear hb ho41; have p376 : 0 ≤ (x6_1 : Int) := of_decide_eq_true (by first | (with_reducible assumption) | assumption); have q376 : x6_1 < (t354.length : Int) := of_decide_eq_true (by first | (with_reducible assumption) | assumption); obtain ⟨ad376, e376, hx376_0, hx376_1, hx376_2, hx376_3⟩ := at_T61 (Kd.R_reads' HO_4.out).2.2 x6_1 p376 q376; obtain rfl : ad359 = ad376 := (by injection e376); replace p376 := eq_true p376; replace q376 := eq_true q376))
                repeat (go_quiet (first | ((with_reducible refine gate_dst (N := 120) rfl ?_); refine Kd.R_lit (Kd.int .i64) _ 3 ?hg (N := 120) ?hd (xs := ([(rd_T61 t354 x6_1).f1] : List Int)) (inner := [.int .i64 ((rd_T61 t354 x6_1).f1)]) (ok := fun _ => True) (okp := fun _ => True) ?hr ?hp (fun _ hk => hk) trivial (Below.refl _ _) (Nat.le_refl _) (by simp) ?_; (case hd => rfl); (case hg => rfl); (case hr => first | (go_simp; done) | (go_simp; rfl)); (case hp => exact (Reps.one (show Kd.M (Kd.int .i64) _ _ _ ((rd_T61 t354 x6_1).f1) [.int .i64 ((rd_T61 t354 x6_1).f1)] from rfl) (Reps.none _ _))); intro v374 w40 ho41 hb hg_ hnew_; clear hg_ hnew_; (first | rw [← Ny373.out] at ho41 | (simp only [Int.reduceToNat] at ho41; rw [← Ny373.out] at ho41)); replace HO_3 := Aside0.mk (Kd.R_below (fr_ HO_3.out) hb); replace HO_4 := Aside0.mk (Kd.R_below (fr_ HO_4.out) hb); replace HO_7 := Aside0.mk (Kd.R_below (fr_ HO_7.out) hb); have HO375 := Aside0.mk (Kd.R_lower ho41 (below_size (bel_ HB.out))); replace HB := Aside0.mk (below_step (bel_ HB.out) hb); clear hb ho41; have p376 : 0 ≤ (x6_1 : Int) := of_decide_eq_true (by first | (with_reducible assumption) | assumption); have q376 : x6_1 < (t354.length : Int) := of_decide_eq_true (by first | (with_reducible assumption) | assumption); obtain ⟨ad376, e376, hx376_0, hx376_1, hx376_2, hx376_3⟩ := at_T61 (Kd.R_reads' HO_4.out).2.2 x6_1 p376 q376; obtain rfl : ad359 = ad376 := (by injection e376); replace p376 := eq_true p376; replace q376 := eq_true q376)); go_upto_if 126 with (first | ((with_reducible refine gate_dst (N := 120) rfl ?_); refine Kd.R_lit (Kd.int .i64) _ 3 ?hg (N := 120) ?hd (xs := ([(rd_T61 t354 x6_1).f1] : List Int)) (inner := [.int .i64 ((rd_T61 t354 x6_1).f1)]) (ok := fun _ => True) (okp := fun _ => True) ?hr ?hp (fun _ hk => hk) trivial (Below.refl _ _) (Nat.le_refl _) (by simp) ?_; (case hd => rfl); (case hg => rfl); (case hr => first | (go_simp; done) | (go_simp; rfl)); (case hp => exact (Reps.one (show Kd.M (Kd.int .i64) _ _ _ ((rd_T61 t354 x6_1).f1) [.int .i64 ((rd_T61 t354 x6_1).f1)] from rfl) (Reps.none _ _))); intro v374 w40 ho41 hb hg_ hnew_; clear hg_ hnew_; (first | rw [← Ny373.out] at ho41 | (simp only [Int.reduceToNat] at ho41; rw [← Ny373.out] at ho41)); replace HO_3 := Aside0.mk (Kd.R_below (fr_ HO_3.out) hb); replace HO_4 := Aside0.mk (Kd.R_below (fr_ HO_4.out) hb); replace HO_7 := Aside0.mk (Kd.R_below (fr_ HO_7.out) hb); have HO375 := Aside0.mk (Kd.R_lower ho41 (below_size (bel_ HB.out))); replace HB := Aside0.mk (below_step (bel_ HB.out) hb); clear hb ho41; have p376 : 0 ≤ (x6_1 : Int) := of_decide_eq_true (by first | (with_reducible assumption) | assumption); have q376 : x6_1 < (t354.length : Int) := of_decide_eq_true (by first | (with_reducible assumption) | assumption); obtain ⟨ad376, e376, hx376_0, hx376_1, hx376_2, hx376_3⟩ := at_T61 (Kd.R_reads' HO_4.out).2.2 x6_1 p376 q376; obtain rfl : ad359 = ad376 := (by injection e376); replace p376 := eq_true p376; replace q376 := eq_true q376)))
                (try simp only [Act.put, sA_, sZ_, sS_])
                go_cut [12] (fun v12 wc => ∃ (kq : Nat) (x12_38 : List Int), Aside0 (laws_FnCargo.j6 kq t353 t354 x6_1 t360 x12_38 = some r) ∧ Aside0 (kq ≤ kj30) ∧ Aside0 (Kd.R k63 63 wc w.heap.size (fun k_ => some k_ ≠ ((.slice Ao13 t360.length co13) : Value).ownBlock) v355 t353) ∧ Aside0 (Kd.R k61 61 wc w.heap.size (fun _ => True) (.slice (some ad359) t354.length co10) t354) ∧ Aside0 (Kd.R k63 63 wc w.heap.size (fun k_ => nB_ (v355) k_) (.slice Ao13 t360.length co13) t360) ∧ Aside0 (Kd.R (Kd.int .i64) 3 wc w.heap.size (fun _ => True) v12 x12_38) ∧ Aside0 (Below w.heap.size w wc))
                case first =>
                 have H := HC39.out
                 clear HC39
                 by_cases c42 : ((rd_T61 t354 x6_1).f0) = 3
                 ·rw [if_pos c42] at H
                  have c42b0 : (((rd_T61 t354 x6_1).f0) == 3) = true := beq_iff_eq.mpr c42
                  have c42b1 : (((rd_T61 t354 x6_1).f0) != 3) = false := bne_eq_false_iff_eq.mpr c42
                  clear c42
                  (first | rw [c42b0] | (simp only [i64_w, i32_w]; rw [c42b0]) | skip)
                  by_cases c43 : y373.length < 17592186044416
                  ·rw [if_pos c43] at H
                   have LMc43 := Aside0.mk c43
                   clear c43
                   obtain ⟨y378, hy378⟩ : ∃ y_ : List Int, y_ = (y373 ++ [(rd_T61 t354 x6_1).f2]) := ⟨_, rfl⟩
                   replace H : (laws_FnCargo.j6 kj30 t353 t354 x6_1 t360 y378) = some r := by first | (rw [hy378]; with_reducible exact H) | (have H2_ := (Option.bind_some _ _).symm.trans H; rw [hy378]; with_reducible exact H2_) | (have H2_ := (Option.bind_some _ _).symm.trans H; with_reducible exact H2_) | with_reducible exact H | (rw [hy378]; exact H) | exact H
                   have Ny378 := Aside0.mk hy378
                   clear hy378
                   have H' := Aside0.mk H
                   clear H
                   have p377 : 0 ≤ (x6_1 : Int) := of_decide_eq_true (by first | (with_reducible assumption) | assumption)
                   have q377 : x6_1 < (t354.length : Int) := of_decide_eq_true (by first | (with_reducible assumption) | assumption)
                   obtain ⟨ad377, e377, hx377_0, hx377_1, hx377_2, hx377_3⟩ := at_T61 (Kd.R_reads' HO_4.out).2.2 x6_1 p377 q377
                   obtain rfl : ad359 = ad377 := (by injection e377)
                   replace p377 := eq_true p377; replace q377 := eq_true q377
                   go_wp2_with (first | ((with_reducible refine gate_builtin (b := .append) (xs := #[.tmp 127, .tmp 133]) rfl ?_); at_builtin; refine Kd.R_append (Kd.int .i64) (w0 := w) w.heap.size rfl (.tmp 127) (.tmp 133) 28 3 (.int .i64 0) 8 rfl Try.underlying28 info3 rfl (by decide) (by omega) v374 y373 ((rd_T61 t354 x6_1).f2) [.int .i64 ((rd_T61 t354 x6_1).f2)] (fun _ => True) (fun _ => False) rfl rfl ?aP (fun _ hk => hk.elim) ?aF ?aO ?aB ?aS ?aL ?_; (case aP => exact rfl); (case aB => exact (bel_ HB.out)); (case aF => exact (fun _ _ => trivial)); (case aO => exact (fr_ HO375.out)); (case aS => exact (below_size (bel_ HB.out))); (case aL => have := LMc43.out; omega); intro v379 w44 ho hb hg hat; rw [← Ny378.out] at ho; replace HO_3 := Aside0.mk (Kd.R_over' (fr_ HO_3.out) (Kd.R_typed (fr_ HO375.out)) (by decide) hg); replace HO_4 := Aside0.mk (Kd.R_over' (fr_ HO_4.out) (Kd.R_typed (fr_ HO375.out)) (by decide) hg); replace HO_7 := Aside0.mk (Kd.R_over' (fr_ HO_7.out) (Kd.R_typed (fr_ HO375.out)) (by decide) hg); replace HB := Aside0.mk (hb); have HO380 := Aside0.mk (ho); clear HO375; clear ho hb hg hat))
                   repeat (go_quiet (first | ((with_reducible refine gate_builtin (b := .append) (xs := #[.tmp 127, .tmp 133]) rfl ?_); at_builtin; refine Kd.R_append (Kd.int .i64) (w0 := w) w.heap.size rfl (.tmp 127) (.tmp 133) 28 3 (.int .i64 0) 8 rfl Try.underlying28 info3 rfl (by decide) (by omega) v374 y373 ((rd_T61 t354 x6_1).f2) [.int .i64 ((rd_T61 t354 x6_1).f2)] (fun _ => True) (fun _ => False) rfl rfl ?aP (fun _ hk => hk.elim) ?aF ?aO ?aB ?aS ?aL ?_; (case aP => exact rfl); (case aB => exact (bel_ HB.out)); (case aF => exact (fun _ _ => trivial)); (case aO => exact (fr_ HO375.out)); (case aS => exact (below_size (bel_ HB.out))); (case aL => have := LMc43.out; omega); intro v379 w44 ho hb hg hat; rw [← Ny378.out] at ho; replace HO_3 := Aside0.mk (Kd.R_over' (fr_ HO_3.out) (Kd.R_typed (fr_ HO375.out)) (by decide) hg); replace HO_4 := Aside0.mk (Kd.R_over' (fr_ HO_4.out) (Kd.R_typed (fr_ HO375.out)) (by decide) hg); replace HO_7 := Aside0.mk (Kd.R_over' (fr_ HO_7.out) (Kd.R_typed (fr_ HO375.out)) (by decide) hg); replace HB := Aside0.mk (hb); have HO380 := Aside0.mk (ho); clear HO375; clear ho hb hg hat)); try go_wp2_with (first | ((with_reducible refine gate_builtin (b := .append) (xs := #[.tmp 127, .tmp 133]) rfl ?_); at_builtin; refine Kd.R_append (Kd.int .i64) (w0 := w) w.heap.size rfl (.tmp 127) (.tmp 133) 28 3 (.int .i64 0) 8 rfl Try.underlying28 info3 rfl (by decide) (by omega) v374 y373 ((rd_T61 t354 x6_1).f2) [.int .i64 ((rd_T61 t354 x6_1).f2)] (fun _ => True) (fun _ => False) rfl rfl ?aP (fun _ hk => hk.elim) ?aF ?aO ?aB ?aS ?aL ?_; (case aP => exact rfl); (case aB => exact (bel_ HB.out)); (case aF => exact (fun _ _ => trivial)); (case aO => exact (fr_ HO375.out)); (case aS => exact (below_size (bel_ HB.out))); (case aL => have := LMc43.out; omega); intro v379 w44 ho hb hg hat; rw [← Ny378.out] at ho; replace HO_3 := Aside0.mk (Kd.R_over' (fr_ HO_3.out) (Kd.R_typed (fr_ HO375.out)) (by decide) hg); replace HO_4 := Aside0.mk (Kd.R_over' (fr_ HO_4.out) (Kd.R_typed (fr_ HO375.out)) (by decide) hg); replace HO_7 := Aside0.mk (Kd.R_over' (fr_ HO_7.out) (Kd.R_typed (fr_ HO375.out)) (by decide) hg); replace HB := Aside0.mk (hb); have HO380 := Aside0.mk (ho); clear HO375; clear ho hb hg hat)))
                   go_meet
                   case rel => exact ⟨_, (y378), H', ⟨by have := HK1.out; have := HK2.out; have := HJ18.out; have := HJ22.out; have := HJ26.out; have := HJ30.out; first | omega | exact Nat.le_refl _⟩, ⟨fr_ HO_3.out⟩, ⟨fr_ HO_4.out⟩, ⟨fr_ HO_7.out⟩, ⟨fr_ HO380.out⟩, ⟨bel_ HB.out⟩⟩
                  ·rw [if_neg c43] at H
                   exact absurd H (by simp)
                 ·rw [if_neg c42] at H
                  have c42b0 : (((rd_T61 t354 x6_1).f0) == 3) = false := beq_eq_false_iff_ne.mpr c42
                  have c42b1 : (((rd_T61 t354 x6_1).f0) != 3) = true := bne_iff_ne.mpr c42
                  (first | rw [c42b0] | (simp only [i64_w, i32_w]; rw [c42b0]) | skip)
                  have H' := Aside0.mk H
                  clear H
                  go_wp2
                  repeat (go_quiet (fail); try go_wp2)
                  go_meet
                  case rel => exact ⟨_, (y373), H', ⟨by have := HK1.out; have := HK2.out; have := HJ18.out; have := HJ22.out; have := HJ26.out; have := HJ30.out; first | omega | exact Nat.le_refl _⟩, ⟨fr_ HO_3.out⟩, ⟨fr_ HO_4.out⟩, ⟨fr_ HO_7.out⟩, ⟨fr_ HO375.out⟩, ⟨bel_ HB.out⟩⟩
                case rest =>
                clear HC39
                try clear c3
                try clear c6
                try clear c6b0
                try clear c7
                try clear c7b0
                try clear c9
                try clear c9b0
                try clear c9b1
                try clear c9b2
                try clear c14
                try clear c14b0
                try clear c35
                try clear c35b0
                try clear c35b1
                try clear c36
                try clear c36b0
                try clear c36b1
                try clear c37
                try clear c37b0
                try clear c38
                try clear c38b0
                try clear hx359_0
                try clear hx359_1
                try clear hx359_2
                try clear hx359_3
                try clear hx372_0
                try clear hx372_1
                try clear hx372_2
                try clear hx372_3
                try clear hx376_0
                try clear hx376_1
                try clear hx376_2
                try clear hx376_3
                try clear p359
                try clear p372
                try clear p376
                try clear q359
                try clear q372
                try clear q376
                obtain ⟨kq, x12_38, HA, HJ38, HO_3, HO_4, HO_7, HO_12, HB⟩ := hcut
                cases kq with
                | zero => exact absurd HA.out (by simp [laws_FnCargo.j6])
                | succ kj38 =>
                 have H := HA.out
                 clear HA
                 simp only [laws_FnCargo.j6] at H
                 have H' := Aside0.mk H
                 clear H
                 obtain ⟨Ao45, co45, eo45⟩ := Kd.R_slice HO_12.out
                 subst eo45
                 go_wp2
                 repeat (go_quiet (fail); try go_wp2)
                 go_loopg [137] kj38 (fun kq v137 w' => ∃ (x137_8 : Int), v137 = .int .i64 x137_8 ∧ Aside0 (laws_FnCargo.l2 kq t353 t354 x6_1 t360 x12_38 (x12_38.length : Int) x137_8 = some r) ∧ Aside0 (kq ≤ kj38) ∧ Aside0 (Kd.R k63 63 w' w.heap.size (fun k_ => some k_ ≠ ((.slice Ao13 t360.length co13) : Value).ownBlock) v355 t353) ∧ Aside0 (Kd.R k61 61 w' w.heap.size (fun _ => True) (.slice (some ad359) t354.length co10) t354) ∧ Aside0 (Kd.R k63 63 w' w.heap.size (fun k_ => nB_ (v355) k_) (.slice Ao13 t360.length co13) t360) ∧ Aside0 (Kd.R (Kd.int .i64) 3 w' w.heap.size (fun _ => True) (.slice Ao45 x12_38.length co45) x12_38) ∧ Aside0 (Below w.heap.size w w'))
                 case atStart => exact ⟨(0), rl_, H', ⟨Nat.le_refl _⟩, ⟨fr_ HO_3.out⟩, ⟨fr_ HO_4.out⟩, ⟨fr_ HO_7.out⟩, ⟨fr_ HO_12.out⟩, ⟨bel_ HB.out⟩⟩
                 case round =>
                  clear H'
                  try clear c3
                  try clear c6
                  try clear c6b0
                  try clear c7
                  try clear c7b0
                  try clear c9
                  try clear c9b0
                  try clear c9b1
                  try clear c9b2
                  try clear c14
                  try clear c14b0
                  try clear c35
                  try clear c35b0
                  try clear c35b1
                  try clear c36
                  try clear c36b0
                  try clear c36b1
                  try clear c37
                  try clear c37b0
                  try clear c38
                  try clear c38b0
                  try clear hx359_0
                  try clear hx359_1
                  try clear hx359_2
                  try clear hx359_3
                  try clear hx372_0
                  try clear hx372_1
                  try clear hx372_2
                  try clear hx372_3
                  try clear hx376_0
                  try clear hx376_1
                  try clear hx376_2
                  try clear hx376_3
                  try clear p359
                  try clear p372
                  try clear p376
                  try clear q359
                  try clear q372
                  try clear q376
                  obtain ⟨x137_8, rfl, HA, HK8, HO_3, HO_4, HO_7, HO_135, HB⟩ := hrel
                  cases gk with
                  | zero => exact absurd HA.out (by simp [laws_FnCargo.l2])
                  | succ k8 =>
                   have H := HA.out
                   clear HA
                   simp only [laws_FnCargo.l2] at H
                   by_cases c46 : x137_8 < (x12_38.length : Int)
                   ·rw [if_pos c46] at H
                    have c46b0 : decide (x137_8 < (x12_38.length : Int)) = true := decide_eq_true c46
                    clear c46
                    by_cases c47 : 0 ≤ x137_8
                    ·rw [if_pos c47] at H
                     have c47b0 : decide (0 ≤ x137_8) = true := decide_eq_true c47
                     clear c47
                     by_cases c48 : x137_8 < (x12_38.length : Int)
                     ·rw [if_pos c48] at H
                      have c48b0 : decide (x137_8 < (x12_38.length : Int)) = true := decide_eq_true c48
                      clear c48
                      by_cases c49 : 0 ≤ (rd x12_38 x137_8)
                      ·rw [if_pos c49] at H
                       have c49b0 : decide (0 ≤ (rd x12_38 x137_8)) = true := decide_eq_true c49
                       clear c49
                       by_cases c50 : (rd x12_38 x137_8) < (t360.length : Int)
                       ·rw [if_pos c50] at H
                        have c50b0 : decide ((rd x12_38 x137_8) < (t360.length : Int)) = true := decide_eq_true c50
                        clear c50
                        by_cases c51 : ((rd_T63 t360 (rd x12_38 x137_8)).f4) > 110
                        ·rw [if_pos c51] at H
                         have c51b0 : decide (110 < ((rd_T63 t360 (rd x12_38 x137_8)).f4)) = true := decide_eq_true c51
                         clear c51
                         by_cases c52 : ((rd_T63 t360 (rd x12_38 x137_8)).f3) ≥ 20
                         ·rw [if_pos c52] at H
                          have c52b0 : decide (20 ≤ ((rd_T63 t360 (rd x12_38 x137_8)).f3)) = true := decide_eq_true c52
                          clear c52
                          by_cases c53 : ((rd_T63 t360 (rd x12_38 x137_8)).f3) ≤ 600
                          ·rw [if_pos c53] at H
                           have c53b0 : decide (((rd_T63 t360 (rd x12_38 x137_8)).f3) ≤ 600) = true := decide_eq_true c53
                           clear c53
                           obtain rfl := Option.some.inj H
                           have p381 : 0 ≤ (x137_8 : Int) := of_decide_eq_true (by first | (with_reducible assumption) | assumption)
                           have q381 : x137_8 < (x12_38.length : Int) := of_decide_eq_true (by first | (with_reducible assumption) | assumption)
                           obtain ⟨ad381, e381, hx381_0⟩ := Kd.at_int (Kd.R_reads' HO_135.out).2.2 x137_8 p381 q381
                           cases e381
                           replace p381 := eq_true p381; replace q381 := eq_true q381
                           have p382 : 0 ≤ ((rd x12_38 x137_8) : Int) := of_decide_eq_true (by first | (with_reducible assumption) | assumption)
                           have q382 : (rd x12_38 x137_8) < (t360.length : Int) := of_decide_eq_true (by first | (with_reducible assumption) | assumption)
                           obtain ⟨ad382, e382, hx382_0, hx382_1, hx382_2, hx382_3, hx382_4⟩ := at_T63 (Kd.R_reads' HO_7.out).2.2 (rd x12_38 x137_8) p382 q382
                           cases e382
                           replace p382 := eq_true p382; replace q382 := eq_true q382
                           go_wp2_with (first | ((with_reducible refine gate_dst (N := 15) rfl ?_); refine box_event ?hg (N := 15) ?hd (cs := #[.int .i64 0, .int .i64 0, .int .i64 0, .int .i64 0, .int .i64 0]) (t := 63) ?hr ?_; (case hd => rfl); (case hg => rfl); (case hr => first | (go_simp; done) | (go_simp; rfl)); intro gb383 hg w54 hbox hb; replace HO_3 := Aside0.mk (Kd.R_below (Kd.R_elderB (fr_ HO_3.out) gb383 (Nat.le_of_eq hg.symm)) hb); replace HO_4 := Aside0.mk (Kd.R_below (fr_ HO_4.out) hb); replace HO_7 := Aside0.mk (Kd.R_below (Kd.R_elderB (fr_ HO_7.out) gb383 (Nat.le_of_eq hg.symm)) hb); replace HO_135 := Aside0.mk (Kd.R_below (fr_ HO_135.out) hb); have BK383 := Aside0.mk (hbox); have GW383 := Aside0.mk ((by rw [hg]; exact (below_size (bel_ HB.out)) : w.heap.size ≤ gb383)); have GE383 := Aside0.mk ((by rw [hg]; exact (below_size (bel_ HB.out)) : w.heap.size ≤ gb383)); replace HB := Aside0.mk (below_step (bel_ HB.out) hb); clear hb hbox hg; have hcz55_0 : w54.cell? ⟨gb383, 0, none⟩ = some (.int .i64 0) := bc_ BK383.out 0; have hcz55_1 : w54.cell? ⟨gb383, 1, none⟩ = some (.int .i64 0) := bc_ BK383.out 1; have hcz55_2 : w54.cell? ⟨gb383, 2, none⟩ = some (.int .i64 0) := bc_ BK383.out 2; have hcz55_3 : w54.cell? ⟨gb383, 3, none⟩ = some (.int .i64 0) := bc_ BK383.out 3; have hcz55_4 : w54.cell? ⟨gb383, 4, none⟩ = some (.int .i64 0) := bc_ BK383.out 4; have hfz55_0 := blk_frozen BK383.out 0; have hfz55_1 := blk_frozen BK383.out 1; have hfz55_2 := blk_frozen BK383.out 2; have hfz55_3 := blk_frozen BK383.out 3; have hfz55_4 := blk_frozen BK383.out 4))
                           repeat (go_quiet (first | ((with_reducible refine gate_dst (N := 15) rfl ?_); refine box_event ?hg (N := 15) ?hd (cs := #[.int .i64 0, .int .i64 0, .int .i64 0, .int .i64 0, .int .i64 0]) (t := 63) ?hr ?_; (case hd => rfl); (case hg => rfl); (case hr => first | (go_simp; done) | (go_simp; rfl)); intro gb383 hg w54 hbox hb; replace HO_3 := Aside0.mk (Kd.R_below (Kd.R_elderB (fr_ HO_3.out) gb383 (Nat.le_of_eq hg.symm)) hb); replace HO_4 := Aside0.mk (Kd.R_below (fr_ HO_4.out) hb); replace HO_7 := Aside0.mk (Kd.R_below (Kd.R_elderB (fr_ HO_7.out) gb383 (Nat.le_of_eq hg.symm)) hb); replace HO_135 := Aside0.mk (Kd.R_below (fr_ HO_135.out) hb); have BK383 := Aside0.mk (hbox); have GW383 := Aside0.mk ((by rw [hg]; exact (below_size (bel_ HB.out)) : w.heap.size ≤ gb383)); have GE383 := Aside0.mk ((by rw [hg]; exact (below_size (bel_ HB.out)) : w.heap.size ≤ gb383)); replace HB := Aside0.mk (below_step (bel_ HB.out) hb); clear hb hbox hg; have hcz55_0 : w54.cell? ⟨gb383, 0, none⟩ = some (.int .i64 0) := bc_ BK383.out 0; have hcz55_1 : w54.cell? ⟨gb383, 1, none⟩ = some (.int .i64 0) := bc_ BK383.out 1; have hcz55_2 : w54.cell? ⟨gb383, 2, none⟩ = some (.int .i64 0) := bc_ BK383.out 2; have hcz55_3 : w54.cell? ⟨gb383, 3, none⟩ = some (.int .i64 0) := bc_ BK383.out 3; have hcz55_4 : w54.cell? ⟨gb383, 4, none⟩ = some (.int .i64 0) := bc_ BK383.out 4; have hfz55_0 := blk_frozen BK383.out 0; have hfz55_1 := blk_frozen BK383.out 1; have hfz55_2 := blk_frozen BK383.out 2; have hfz55_3 := blk_frozen BK383.out 3; have hfz55_4 := blk_frozen BK383.out 4)); try go_wp2_with (first | ((with_reducible refine gate_dst (N := 15) rfl ?_); refine box_event ?hg (N := 15) ?hd (cs := #[.int .i64 0, .int .i64 0, .int .i64 0, .int .i64 0, .int .i64 0]) (t := 63) ?hr ?_; (case hd => rfl); (case hg => rfl); (case hr => first | (go_simp; done) | (go_simp; rfl)); intro gb383 hg w54 hbox hb; replace HO_3 := Aside0.mk (Kd.R_below (Kd.R_elderB (fr_ HO_3.out) gb383 (Nat.le_of_eq hg.symm)) hb); replace HO_4 := Aside0.mk (Kd.R_below (fr_ HO_4.out) hb); replace HO_7 := Aside0.mk (Kd.R_below (Kd.R_elderB (fr_ HO_7.out) gb383 (Nat.le_of_eq hg.symm)) hb); replace HO_135 := Aside0.mk (Kd.R_below (fr_ HO_135.out) hb); have BK383 := Aside0.mk (hbox); have GW383 := Aside0.mk ((by rw [hg]; exact (below_size (bel_ HB.out)) : w.heap.size ≤ gb383)); have GE383 := Aside0.mk ((by rw [hg]; exact (below_size (bel_ HB.out)) : w.heap.size ≤ gb383)); replace HB := Aside0.mk (below_step (bel_ HB.out) hb); clear hb hbox hg; have hcz55_0 : w54.cell? ⟨gb383, 0, none⟩ = some (.int .i64 0) := bc_ BK383.out 0; have hcz55_1 : w54.cell? ⟨gb383, 1, none⟩ = some (.int .i64 0) := bc_ BK383.out 1; have hcz55_2 : w54.cell? ⟨gb383, 2, none⟩ = some (.int .i64 0) := bc_ BK383.out 2; have hcz55_3 : w54.cell? ⟨gb383, 3, none⟩ = some (.int .i64 0) := bc_ BK383.out 3; have hcz55_4 : w54.cell? ⟨gb383, 4, none⟩ = some (.int .i64 0) := bc_ BK383.out 4; have hfz55_0 := blk_frozen BK383.out 0; have hfz55_1 := blk_frozen BK383.out 1; have hfz55_2 := blk_frozen BK383.out 2; have hfz55_3 := blk_frozen BK383.out 3; have hfz55_4 := blk_frozen BK383.out 4)))
                           go_ret
                           exact ⟨by first | rfl | (simp [errW_none, errW_some] <;> rfl) | (simp [*, errW_none, errW_some] <;> rfl), bel_ HB.out⟩
                          case neg =>
                          rw [if_neg c53] at H
                          have c53b0 : decide (((rd_T63 t360 (rd x12_38 x137_8)).f3) ≤ 600) = false := decide_eq_false c53
                          clear c53
                          have H' := Aside0.mk H
                          clear H
                          have p381 : 0 ≤ (x137_8 : Int) := of_decide_eq_true (by first | (with_reducible assumption) | assumption)
                          have q381 : x137_8 < (x12_38.length : Int) := of_decide_eq_true (by first | (with_reducible assumption) | assumption)
                          obtain ⟨ad381, e381, hx381_0⟩ := Kd.at_int (Kd.R_reads' HO_135.out).2.2 x137_8 p381 q381
                          cases e381
                          replace p381 := eq_true p381; replace q381 := eq_true q381
                          have p382 : 0 ≤ ((rd x12_38 x137_8) : Int) := of_decide_eq_true (by first | (with_reducible assumption) | assumption)
                          have q382 : (rd x12_38 x137_8) < (t360.length : Int) := of_decide_eq_true (by first | (with_reducible assumption) | assumption)
                          obtain ⟨ad382, e382, hx382_0, hx382_1, hx382_2, hx382_3, hx382_4⟩ := at_T63 (Kd.R_reads' HO_7.out).2.2 (rd x12_38 x137_8) p382 q382
                          cases e382
                          replace p382 := eq_true p382; replace q382 := eq_true q382
                          go_wp2_with (first | ((with_reducible refine gate_dst (N := 15) rfl ?_); refine box_event ?hg (N := 15) ?hd (cs := #[.int .i64 0, .int .i64 0, .int .i64 0, .int .i64 0, .int .i64 0]) (t := 63) ?hr ?_; (case hd => rfl); (case hg => rfl); (case hr => first | (go_simp; done) | (go_simp; rfl)); intro gb383 hg w56 hbox hb; replace HO_3 := Aside0.mk (Kd.R_below (Kd.R_elderB (fr_ HO_3.out) gb383 (Nat.le_of_eq hg.symm)) hb); replace HO_4 := Aside0.mk (Kd.R_below (fr_ HO_4.out) hb); replace HO_7 := Aside0.mk (Kd.R_below (Kd.R_elderB (fr_ HO_7.out) gb383 (Nat.le_of_eq hg.symm)) hb); replace HO_135 := Aside0.mk (Kd.R_below (fr_ HO_135.out) hb); have BK383 := Aside0.mk (hbox); have GW383 := Aside0.mk ((by rw [hg]; exact (below_size (bel_ HB.out)) : w.heap.size ≤ gb383)); have GE383 := Aside0.mk ((by rw [hg]; exact (below_size (bel_ HB.out)) : w.heap.size ≤ gb383)); replace HB := Aside0.mk (below_step (bel_ HB.out) hb); clear hb hbox hg; have hcz57_0 : w56.cell? ⟨gb383, 0, none⟩ = some (.int .i64 0) := bc_ BK383.out 0; have hcz57_1 : w56.cell? ⟨gb383, 1, none⟩ = some (.int .i64 0) := bc_ BK383.out 1; have hcz57_2 : w56.cell? ⟨gb383, 2, none⟩ = some (.int .i64 0) := bc_ BK383.out 2; have hcz57_3 : w56.cell? ⟨gb383, 3, none⟩ = some (.int .i64 0) := bc_ BK383.out 3; have hcz57_4 : w56.cell? ⟨gb383, 4, none⟩ = some (.int .i64 0) := bc_ BK383.out 4; have hfz57_0 := blk_frozen BK383.out 0; have hfz57_1 := blk_frozen BK383.out 1; have hfz57_2 := blk_frozen BK383.out 2; have hfz57_3 := blk_frozen BK383.out 3; have hfz57_4 := blk_frozen BK383.out 4))
                          repeat (go_quiet (first | ((with_reducible refine gate_dst (N := 15) rfl ?_); refine box_event ?hg (N := 15) ?hd (cs := #[.int .i64 0, .int .i64 0, .int .i64 0, .int .i64 0, .int .i64 0]) (t := 63) ?hr ?_; (case hd => rfl); (case hg => rfl); (case hr => first | (go_simp; done) | (go_simp; rfl)); intro gb383 hg w56 hbox hb; replace HO_3 := Aside0.mk (Kd.R_below (Kd.R_elderB (fr_ HO_3.out) gb383 (Nat.le_of_eq hg.symm)) hb); replace HO_4 := Aside0.mk (Kd.R_below (fr_ HO_4.out) hb); replace HO_7 := Aside0.mk (Kd.R_below (Kd.R_elderB (fr_ HO_7.out) gb383 (Nat.le_of_eq hg.symm)) hb); replace HO_135 := Aside0.mk (Kd.R_below (fr_ HO_135.out) hb); have BK383 := Aside0.mk (hbox); have GW383 := Aside0.mk ((by rw [hg]; exact (below_size (bel_ HB.out)) : w.heap.size ≤ gb383)); have GE383 := Aside0.mk ((by rw [hg]; exact (below_size (bel_ HB.out)) : w.heap.size ≤ gb383)); replace HB := Aside0.mk (below_step (bel_ HB.out) hb); clear hb hbox hg; have hcz57_0 : w56.cell? ⟨gb383, 0, none⟩ = some (.int .i64 0) := bc_ BK383.out 0; have hcz57_1 : w56.cell? ⟨gb383, 1, none⟩ = some (.int .i64 0) := bc_ BK383.out 1; have hcz57_2 : w56.cell? ⟨gb383, 2, none⟩ = some (.int .i64 0) := bc_ BK383.out 2; have hcz57_3 : w56.cell? ⟨gb383, 3, none⟩ = some (.int .i64 0) := bc_ BK383.out 3; have hcz57_4 : w56.cell? ⟨gb383, 4, none⟩ = some (.int .i64 0) := bc_ BK383.out 4; have hfz57_0 := blk_frozen BK383.out 0; have hfz57_1 := blk_frozen BK383.out 1; have hfz57_2 := blk_frozen BK383.out 2; have hfz57_3 := blk_frozen BK383.out 3; have hfz57_4 := blk_frozen BK383.out 4)); try go_wp2_with (first | ((with_reducible refine gate_dst (N := 15) rfl ?_); refine box_event ?hg (N := 15) ?hd (cs := #[.int .i64 0, .int .i64 0, .int .i64 0, .int .i64 0, .int .i64 0]) (t := 63) ?hr ?_; (case hd => rfl); (case hg => rfl); (case hr => first | (go_simp; done) | (go_simp; rfl)); intro gb383 hg w56 hbox hb; replace HO_3 := Aside0.mk (Kd.R_below (Kd.R_elderB (fr_ HO_3.out) gb383 (Nat.le_of_eq hg.symm)) hb); replace HO_4 := Aside0.mk (Kd.R_below (fr_ HO_4.out) hb); replace HO_7 := Aside0.mk (Kd.R_below (Kd.R_elderB (fr_ HO_7.out) gb383 (Nat.le_of_eq hg.symm)) hb); replace HO_135 := Aside0.mk (Kd.R_below (fr_ HO_135.out) hb); have BK383 := Aside0.mk (hbox); have GW383 := Aside0.mk ((by rw [hg]; exact (below_size (bel_ HB.out)) : w.heap.size ≤ gb383)); have GE383 := Aside0.mk ((by rw [hg]; exact (below_size (bel_ HB.out)) : w.heap.size ≤ gb383)); replace HB := Aside0.mk (below_step (bel_ HB.out) hb); clear hb hbox hg; have hcz57_0 : w56.cell? ⟨gb383, 0, none⟩ = some (.int .i64 0) := bc_ BK383.out 0; have hcz57_1 : w56.cell? ⟨gb383, 1, none⟩ = some (.int .i64 0) := bc_ BK383.out 1; have hcz57_2 : w56.cell? ⟨gb383, 2, none⟩ = some (.int .i64 0) := bc_ BK383.out 2; have hcz57_3 : w56.cell? ⟨gb383, 3, none⟩ = some (.int .i64 0) := bc_ BK383.out 3; have hcz57_4 : w56.cell? ⟨gb383, 4, none⟩ = some (.int .i64 0) := bc_ BK383.out 4; have hfz57_0 := blk_frozen BK383.out 0; have hfz57_1 := blk_frozen BK383.out 1; have hfz57_2 := blk_frozen BK383.out 2; have hfz57_3 := blk_frozen BK383.out 3; have hfz57_4 := blk_frozen BK383.out 4)))
                          go_roundg k8
                          case measure => have := HK1.out; have := HK2.out; have := HJ18.out; have := HJ22.out; have := HJ26.out; have := HJ30.out; have := HJ38.out; have := HK8.out; omega
                          case rel => exact ⟨(wrap64 (x137_8 + 1)), rl_, H', ⟨by have := HK1.out; have := HK2.out; have := HJ18.out; have := HJ22.out; have := HJ26.out; have := HJ30.out; have := HJ38.out; have := HK8.out; omega⟩, ⟨by (with_reducible repeat (first | apply Kd.R_alloc | apply Kd.R_drewN | apply Kd.R_drew)); exact Kd.R_mono (Kd.R_far (p := ⟨gb383, 4, none⟩) (Kd.R_far (p := ⟨gb383, 3, none⟩) (Kd.R_far (p := ⟨gb383, 2, none⟩) (Kd.R_far (p := ⟨gb383, 1, none⟩) (Kd.R_far (p := ⟨gb383, 0, none⟩) (Kd.R_mono HO_3.out (fun k_ hk => (⟨hk, hk.2⟩ : _ ∧ k_ ≠ gb383))) (fun _ hk => hk.2) (.int .i64 ((rd_T63 t360 (rd x12_38 x137_8)).f0))) (fun _ hk => hk.2) (.int .i64 ((rd_T63 t360 (rd x12_38 x137_8)).f1))) (fun _ hk => hk.2) (.int .i64 ((rd_T63 t360 (rd x12_38 x137_8)).f2))) (fun _ hk => hk.2) (.int .i64 ((rd_T63 t360 (rd x12_38 x137_8)).f3))) (fun _ hk => hk.2) (.int .i64 ((rd_T63 t360 (rd x12_38 x137_8)).f4))) (fun _ hk => hk.1.1)⟩, ⟨by (with_reducible repeat (first | apply Kd.R_alloc | apply Kd.R_drewN | apply Kd.R_drew)); exact Kd.R_mono (Kd.R_far (p := ⟨gb383, 4, none⟩) (Kd.R_far (p := ⟨gb383, 3, none⟩) (Kd.R_far (p := ⟨gb383, 2, none⟩) (Kd.R_far (p := ⟨gb383, 1, none⟩) (Kd.R_far (p := ⟨gb383, 0, none⟩) (Kd.R_types HO_4.out BK383.out (by decide)) (fun _ hk => hk.2) (.int .i64 ((rd_T63 t360 (rd x12_38 x137_8)).f0))) (fun _ hk => hk.2) (.int .i64 ((rd_T63 t360 (rd x12_38 x137_8)).f1))) (fun _ hk => hk.2) (.int .i64 ((rd_T63 t360 (rd x12_38 x137_8)).f2))) (fun _ hk => hk.2) (.int .i64 ((rd_T63 t360 (rd x12_38 x137_8)).f3))) (fun _ hk => hk.2) (.int .i64 ((rd_T63 t360 (rd x12_38 x137_8)).f4))) (fun _ hk => trivial)⟩, ⟨by (with_reducible repeat (first | apply Kd.R_alloc | apply Kd.R_drewN | apply Kd.R_drew)); exact Kd.R_mono (Kd.R_far (p := ⟨gb383, 4, none⟩) (Kd.R_far (p := ⟨gb383, 3, none⟩) (Kd.R_far (p := ⟨gb383, 2, none⟩) (Kd.R_far (p := ⟨gb383, 1, none⟩) (Kd.R_far (p := ⟨gb383, 0, none⟩) (Kd.R_mono HO_7.out (fun k_ hk => (⟨hk, hk.2⟩ : _ ∧ k_ ≠ gb383))) (fun _ hk => hk.2) (.int .i64 ((rd_T63 t360 (rd x12_38 x137_8)).f0))) (fun _ hk => hk.2) (.int .i64 ((rd_T63 t360 (rd x12_38 x137_8)).f1))) (fun _ hk => hk.2) (.int .i64 ((rd_T63 t360 (rd x12_38 x137_8)).f2))) (fun _ hk => hk.2) (.int .i64 ((rd_T63 t360 (rd x12_38 x137_8)).f3))) (fun _ hk => hk.2) (.int .i64 ((rd_T63 t360 (rd x12_38 x137_8)).f4))) (fun _ hk => hk.1.1)⟩, ⟨by (with_reducible repeat (first | apply Kd.R_alloc | apply Kd.R_drewN | apply Kd.R_drew)); exact Kd.R_mono (Kd.R_far (p := ⟨gb383, 4, none⟩) (Kd.R_far (p := ⟨gb383, 3, none⟩) (Kd.R_far (p := ⟨gb383, 2, none⟩) (Kd.R_far (p := ⟨gb383, 1, none⟩) (Kd.R_far (p := ⟨gb383, 0, none⟩) (Kd.R_types HO_135.out BK383.out (by decide)) (fun _ hk => hk.2) (.int .i64 ((rd_T63 t360 (rd x12_38 x137_8)).f0))) (fun _ hk => hk.2) (.int .i64 ((rd_T63 t360 (rd x12_38 x137_8)).f1))) (fun _ hk => hk.2) (.int .i64 ((rd_T63 t360 (rd x12_38 x137_8)).f2))) (fun _ hk => hk.2) (.int .i64 ((rd_T63 t360 (rd x12_38 x137_8)).f3))) (fun _ hk => hk.2) (.int .i64 ((rd_T63 t360 (rd x12_38 x137_8)).f4))) (fun _ hk => trivial)⟩, ⟨bel_ HB.out⟩⟩
                         case neg =>
                         rw [if_neg c52] at H
                         have c52b0 : decide (20 ≤ ((rd_T63 t360 (rd x12_38 x137_8)).f3)) = false := decide_eq_false c52
                         clear c52
                         have H' := Aside0.mk H
                         clear H
                         have p381 : 0 ≤ (x137_8 : Int) := of_decide_eq_true (by first | (with_reducible assumption) | assumption)
                         have q381 : x137_8 < (x12_38.length : Int) := of_decide_eq_true (by first | (with_reducible assumption) | assumption)
                         obtain ⟨ad381, e381, hx381_0⟩ := Kd.at_int (Kd.R_reads' HO_135.out).2.2 x137_8 p381 q381
                         cases e381
                         replace p381 := eq_true p381; replace q381 := eq_true q381
                         have p382 : 0 ≤ ((rd x12_38 x137_8) : Int) := of_decide_eq_true (by first | (with_reducible assumption) | assumption)
                         have q382 : (rd x12_38 x137_8) < (t360.length : Int) := of_decide_eq_true (by first | (with_reducible assumption) | assumption)
                         obtain ⟨ad382, e382, hx382_0, hx382_1, hx382_2, hx382_3, hx382_4⟩ := at_T63 (Kd.R_reads' HO_7.out).2.2 (rd x12_38 x137_8) p382 q382
                         cases e382
                         replace p382 := eq_true p382; replace q382 := eq_true q382
                         go_wp2_with (first | ((with_reducible refine gate_dst (N := 15) rfl ?_); refine box_event ?hg (N := 15) ?hd (cs := #[.int .i64 0, .int .i64 0, .int .i64 0, .int .i64 0, .int .i64 0]) (t := 63) ?hr ?_; (case hd => rfl); (case hg => rfl); (case hr => first | (go_simp; done) | (go_simp; rfl)); intro gb383 hg w58 hbox hb; replace HO_3 := Aside0.mk (Kd.R_below (Kd.R_elderB (fr_ HO_3.out) gb383 (Nat.le_of_eq hg.symm)) hb); replace HO_4 := Aside0.mk (Kd.R_below (fr_ HO_4.out) hb); replace HO_7 := Aside0.mk (Kd.R_below (Kd.R_elderB (fr_ HO_7.out) gb383 (Nat.le_of_eq hg.symm)) hb); replace HO_135 := Aside0.mk (Kd.R_below (fr_ HO_135.out) hb); have BK383 := Aside0.mk (hbox); have GW383 := Aside0.mk ((by rw [hg]; exact (below_size (bel_ HB.out)) : w.heap.size ≤ gb383)); have GE383 := Aside0.mk ((by rw [hg]; exact (below_size (bel_ HB.out)) : w.heap.size ≤ gb383)); replace HB := Aside0.mk (below_step (bel_ HB.out) hb); clear hb hbox hg; have hcz59_0 : w58.cell? ⟨gb383, 0, none⟩ = some (.int .i64 0) := bc_ BK383.out 0; have hcz59_1 : w58.cell? ⟨gb383, 1, none⟩ = some (.int .i64 0) := bc_ BK383.out 1; have hcz59_2 : w58.cell? ⟨gb383, 2, none⟩ = some (.int .i64 0) := bc_ BK383.out 2; have hcz59_3 : w58.cell? ⟨gb383, 3, none⟩ = some (.int .i64 0) := bc_ BK383.out 3; have hcz59_4 : w58.cell? ⟨gb383, 4, none⟩ = some (.int .i64 0) := bc_ BK383.out 4; have hfz59_0 := blk_frozen BK383.out 0; have hfz59_1 := blk_frozen BK383.out 1; have hfz59_2 := blk_frozen BK383.out 2; have hfz59_3 := blk_frozen BK383.out 3; have hfz59_4 := blk_frozen BK383.out 4))
                         repeat (go_quiet (first | ((with_reducible refine gate_dst (N := 15) rfl ?_); refine box_event ?hg (N := 15) ?hd (cs := #[.int .i64 0, .int .i64 0, .int .i64 0, .int .i64 0, .int .i64 0]) (t := 63) ?hr ?_; (case hd => rfl); (case hg => rfl); (case hr => first | (go_simp; done) | (go_simp; rfl)); intro gb383 hg w58 hbox hb; replace HO_3 := Aside0.mk (Kd.R_below (Kd.R_elderB (fr_ HO_3.out) gb383 (Nat.le_of_eq hg.symm)) hb); replace HO_4 := Aside0.mk (Kd.R_below (fr_ HO_4.out) hb); replace HO_7 := Aside0.mk (Kd.R_below (Kd.R_elderB (fr_ HO_7.out) gb383 (Nat.le_of_eq hg.symm)) hb); replace HO_135 := Aside0.mk (Kd.R_below (fr_ HO_135.out) hb); have BK383 := Aside0.mk (hbox); have GW383 := Aside0.mk ((by rw [hg]; exact (below_size (bel_ HB.out)) : w.heap.size ≤ gb383)); have GE383 := Aside0.mk ((by rw [hg]; exact (below_size (bel_ HB.out)) : w.heap.size ≤ gb383)); replace HB := Aside0.mk (below_step (bel_ HB.out) hb); clear hb hbox hg; have hcz59_0 : w58.cell? ⟨gb383, 0, none⟩ = some (.int .i64 0) := bc_ BK383.out 0; have hcz59_1 : w58.cell? ⟨gb383, 1, none⟩ = some (.int .i64 0) := bc_ BK383.out 1; have hcz59_2 : w58.cell? ⟨gb383, 2, none⟩ = some (.int .i64 0) := bc_ BK383.out 2; have hcz59_3 : w58.cell? ⟨gb383, 3, none⟩ = some (.int .i64 0) := bc_ BK383.out 3; have hcz59_4 : w58.cell? ⟨gb383, 4, none⟩ = some (.int .i64 0) := bc_ BK383.out 4; have hfz59_0 := blk_frozen BK383.out 0; have hfz59_1 := blk_frozen BK383.out 1; have hfz59_2 := blk_frozen BK383.out 2; have hfz59_3 := blk_frozen BK383.out 3; have hfz59_4 := blk_frozen BK383.out 4)); try go_wp2_with (first | ((with_reducible refine gate_dst (N := 15) rfl ?_); refine box_event ?hg (N := 15) ?hd (cs := #[.int .i64 0, .int .i64 0, .int .i64 0, .int .i64 0, .int .i64 0]) (t := 63) ?hr ?_; (case hd => rfl); (case hg => rfl); (case hr => first | (go_simp; done) | (go_simp; rfl)); intro gb383 hg w58 hbox hb; replace HO_3 := Aside0.mk (Kd.R_below (Kd.R_elderB (fr_ HO_3.out) gb383 (Nat.le_of_eq hg.symm)) hb); replace HO_4 := Aside0.mk (Kd.R_below (fr_ HO_4.out) hb); replace HO_7 := Aside0.mk (Kd.R_below (Kd.R_elderB (fr_ HO_7.out) gb383 (Nat.le_of_eq hg.symm)) hb); replace HO_135 := Aside0.mk (Kd.R_below (fr_ HO_135.out) hb); have BK383 := Aside0.mk (hbox); have GW383 := Aside0.mk ((by rw [hg]; exact (below_size (bel_ HB.out)) : w.heap.size ≤ gb383)); have GE383 := Aside0.mk ((by rw [hg]; exact (below_size (bel_ HB.out)) : w.heap.size ≤ gb383)); replace HB := Aside0.mk (below_step (bel_ HB.out) hb); clear hb hbox hg; have hcz59_0 : w58.cell? ⟨gb383, 0, none⟩ = some (.int .i64 0) := bc_ BK383.out 0; have hcz59_1 : w58.cell? ⟨gb383, 1, none⟩ = some (.int .i64 0) := bc_ BK383.out 1; have hcz59_2 : w58.cell? ⟨gb383, 2, none⟩ = some (.int .i64 0) := bc_ BK383.out 2; have hcz59_3 : w58.cell? ⟨gb383, 3, none⟩ = some (.int .i64 0) := bc_ BK383.out 3; have hcz59_4 : w58.cell? ⟨gb383, 4, none⟩ = some (.int .i64 0) := bc_ BK383.out 4; have hfz59_0 := blk_frozen BK383.out 0; have hfz59_1 := blk_frozen BK383.out 1; have hfz59_2 := blk_frozen BK383.out 2; have hfz59_3 := blk_frozen BK383.out 3; have hfz59_4 := blk_frozen BK383.out 4)))
                         go_roundg k8
                         case measure => have := HK1.out; have := HK2.out; have := HJ18.out; have := HJ22.out; have := HJ26.out; have := HJ30.out; have := HJ38.out; have := HK8.out; omega
                         case rel => exact ⟨(wrap64 (x137_8 + 1)), rl_, H', ⟨by have := HK1.out; have := HK2.out; have := HJ18.out; have := HJ22.out; have := HJ26.out; have := HJ30.out; have := HJ38.out; have := HK8.out; omega⟩, ⟨by (with_reducible repeat (first | apply Kd.R_alloc | apply Kd.R_drewN | apply Kd.R_drew)); exact Kd.R_mono (Kd.R_far (p := ⟨gb383, 4, none⟩) (Kd.R_far (p := ⟨gb383, 3, none⟩) (Kd.R_far (p := ⟨gb383, 2, none⟩) (Kd.R_far (p := ⟨gb383, 1, none⟩) (Kd.R_far (p := ⟨gb383, 0, none⟩) (Kd.R_mono HO_3.out (fun k_ hk => (⟨hk, hk.2⟩ : _ ∧ k_ ≠ gb383))) (fun _ hk => hk.2) (.int .i64 ((rd_T63 t360 (rd x12_38 x137_8)).f0))) (fun _ hk => hk.2) (.int .i64 ((rd_T63 t360 (rd x12_38 x137_8)).f1))) (fun _ hk => hk.2) (.int .i64 ((rd_T63 t360 (rd x12_38 x137_8)).f2))) (fun _ hk => hk.2) (.int .i64 ((rd_T63 t360 (rd x12_38 x137_8)).f3))) (fun _ hk => hk.2) (.int .i64 ((rd_T63 t360 (rd x12_38 x137_8)).f4))) (fun _ hk => hk.1.1)⟩, ⟨by (with_reducible repeat (first | apply Kd.R_alloc | apply Kd.R_drewN | apply Kd.R_drew)); exact Kd.R_mono (Kd.R_far (p := ⟨gb383, 4, none⟩) (Kd.R_far (p := ⟨gb383, 3, none⟩) (Kd.R_far (p := ⟨gb383, 2, none⟩) (Kd.R_far (p := ⟨gb383, 1, none⟩) (Kd.R_far (p := ⟨gb383, 0, none⟩) (Kd.R_types HO_4.out BK383.out (by decide)) (fun _ hk => hk.2) (.int .i64 ((rd_T63 t360 (rd x12_38 x137_8)).f0))) (fun _ hk => hk.2) (.int .i64 ((rd_T63 t360 (rd x12_38 x137_8)).f1))) (fun _ hk => hk.2) (.int .i64 ((rd_T63 t360 (rd x12_38 x137_8)).f2))) (fun _ hk => hk.2) (.int .i64 ((rd_T63 t360 (rd x12_38 x137_8)).f3))) (fun _ hk => hk.2) (.int .i64 ((rd_T63 t360 (rd x12_38 x137_8)).f4))) (fun _ hk => trivial)⟩, ⟨by (with_reducible repeat (first | apply Kd.R_alloc | apply Kd.R_drewN | apply Kd.R_drew)); exact Kd.R_mono (Kd.R_far (p := ⟨gb383, 4, none⟩) (Kd.R_far (p := ⟨gb383, 3, none⟩) (Kd.R_far (p := ⟨gb383, 2, none⟩) (Kd.R_far (p := ⟨gb383, 1, none⟩) (Kd.R_far (p := ⟨gb383, 0, none⟩) (Kd.R_mono HO_7.out (fun k_ hk => (⟨hk, hk.2⟩ : _ ∧ k_ ≠ gb383))) (fun _ hk => hk.2) (.int .i64 ((rd_T63 t360 (rd x12_38 x137_8)).f0))) (fun _ hk => hk.2) (.int .i64 ((rd_T63 t360 (rd x12_38 x137_8)).f1))) (fun _ hk => hk.2) (.int .i64 ((rd_T63 t360 (rd x12_38 x137_8)).f2))) (fun _ hk => hk.2) (.int .i64 ((rd_T63 t360 (rd x12_38 x137_8)).f3))) (fun _ hk => hk.2) (.int .i64 ((rd_T63 t360 (rd x12_38 x137_8)).f4))) (fun _ hk => hk.1.1)⟩, ⟨by (with_reducible repeat (first | apply Kd.R_alloc | apply Kd.R_drewN | apply Kd.R_drew)); exact Kd.R_mono (Kd.R_far (p := ⟨gb383, 4, none⟩) (Kd.R_far (p := ⟨gb383, 3, none⟩) (Kd.R_far (p := ⟨gb383, 2, none⟩) (Kd.R_far (p := ⟨gb383, 1, none⟩) (Kd.R_far (p := ⟨gb383, 0, none⟩) (Kd.R_types HO_135.out BK383.out (by decide)) (fun _ hk => hk.2) (.int .i64 ((rd_T63 t360 (rd x12_38 x137_8)).f0))) (fun _ hk => hk.2) (.int .i64 ((rd_T63 t360 (rd x12_38 x137_8)).f1))) (fun _ hk => hk.2) (.int .i64 ((rd_T63 t360 (rd x12_38 x137_8)).f2))) (fun _ hk => hk.2) (.int .i64 ((rd_T63 t360 (rd x12_38 x137_8)).f3))) (fun _ hk => hk.2) (.int .i64 ((rd_T63 t360 (rd x12_38 x137_8)).f4))) (fun _ hk => trivial)⟩, ⟨bel_ HB.out⟩⟩
                        case neg =>
                        rw [if_neg c51] at H
                        have c51b0 : decide (110 < ((rd_T63 t360 (rd x12_38 x137_8)).f4)) = false := decide_eq_false c51
                        clear c51
                        have H' := Aside0.mk H
                        clear H
                        have p381 : 0 ≤ (x137_8 : Int) := of_decide_eq_true (by first | (with_reducible assumption) | assumption)
                        have q381 : x137_8 < (x12_38.length : Int) := of_decide_eq_true (by first | (with_reducible assumption) | assumption)
                        obtain ⟨ad381, e381, hx381_0⟩ := Kd.at_int (Kd.R_reads' HO_135.out).2.2 x137_8 p381 q381
                        cases e381
                        replace p381 := eq_true p381; replace q381 := eq_true q381
                        have p382 : 0 ≤ ((rd x12_38 x137_8) : Int) := of_decide_eq_true (by first | (with_reducible assumption) | assumption)
                        have q382 : (rd x12_38 x137_8) < (t360.length : Int) := of_decide_eq_true (by first | (with_reducible assumption) | assumption)
                        obtain ⟨ad382, e382, hx382_0, hx382_1, hx382_2, hx382_3, hx382_4⟩ := at_T63 (Kd.R_reads' HO_7.out).2.2 (rd x12_38 x137_8) p382 q382
                        cases e382
                        replace p382 := eq_true p382; replace q382 := eq_true q382
                        go_wp2_with (first | ((with_reducible refine gate_dst (N := 15) rfl ?_); refine box_event ?hg (N := 15) ?hd (cs := #[.int .i64 0, .int .i64 0, .int .i64 0, .int .i64 0, .int .i64 0]) (t := 63) ?hr ?_; (case hd => rfl); (case hg => rfl); (case hr => first | (go_simp; done) | (go_simp; rfl)); intro gb383 hg w60 hbox hb; replace HO_3 := Aside0.mk (Kd.R_below (Kd.R_elderB (fr_ HO_3.out) gb383 (Nat.le_of_eq hg.symm)) hb); replace HO_4 := Aside0.mk (Kd.R_below (fr_ HO_4.out) hb); replace HO_7 := Aside0.mk (Kd.R_below (Kd.R_elderB (fr_ HO_7.out) gb383 (Nat.le_of_eq hg.symm)) hb); replace HO_135 := Aside0.mk (Kd.R_below (fr_ HO_135.out) hb); have BK383 := Aside0.mk (hbox); have GW383 := Aside0.mk ((by rw [hg]; exact (below_size (bel_ HB.out)) : w.heap.size ≤ gb383)); have GE383 := Aside0.mk ((by rw [hg]; exact (below_size (bel_ HB.out)) : w.heap.size ≤ gb383)); replace HB := Aside0.mk (below_step (bel_ HB.out) hb); clear hb hbox hg; have hcz61_0 : w60.cell? ⟨gb383, 0, none⟩ = some (.int .i64 0) := bc_ BK383.out 0; have hcz61_1 : w60.cell? ⟨gb383, 1, none⟩ = some (.int .i64 0) := bc_ BK383.out 1; have hcz61_2 : w60.cell? ⟨gb383, 2, none⟩ = some (.int .i64 0) := bc_ BK383.out 2; have hcz61_3 : w60.cell? ⟨gb383, 3, none⟩ = some (.int .i64 0) := bc_ BK383.out 3; have hcz61_4 : w60.cell? ⟨gb383, 4, none⟩ = some (.int .i64 0) := bc_ BK383.out 4; have hfz61_0 := blk_frozen BK383.out 0; have hfz61_1 := blk_frozen BK383.out 1; have hfz61_2 := blk_frozen BK383.out 2; have hfz61_3 := blk_frozen BK383.out 3; have hfz61_4 := blk_frozen BK383.out 4))
                        repeat (go_quiet (first | ((with_reducible refine gate_dst (N := 15) rfl ?_); refine box_event ?hg (N := 15) ?hd (cs := #[.int .i64 0, .int .i64 0, .int .i64 0, .int .i64 0, .int .i64 0]) (t := 63) ?hr ?_; (case hd => rfl); (case hg => rfl); (case hr => first | (go_simp; done) | (go_simp; rfl)); intro gb383 hg w60 hbox hb; replace HO_3 := Aside0.mk (Kd.R_below (Kd.R_elderB (fr_ HO_3.out) gb383 (Nat.le_of_eq hg.symm)) hb); replace HO_4 := Aside0.mk (Kd.R_below (fr_ HO_4.out) hb); replace HO_7 := Aside0.mk (Kd.R_below (Kd.R_elderB (fr_ HO_7.out) gb383 (Nat.le_of_eq hg.symm)) hb); replace HO_135 := Aside0.mk (Kd.R_below (fr_ HO_135.out) hb); have BK383 := Aside0.mk (hbox); have GW383 := Aside0.mk ((by rw [hg]; exact (below_size (bel_ HB.out)) : w.heap.size ≤ gb383)); have GE383 := Aside0.mk ((by rw [hg]; exact (below_size (bel_ HB.out)) : w.heap.size ≤ gb383)); replace HB := Aside0.mk (below_step (bel_ HB.out) hb); clear hb hbox hg; have hcz61_0 : w60.cell? ⟨gb383, 0, none⟩ = some (.int .i64 0) := bc_ BK383.out 0; have hcz61_1 : w60.cell? ⟨gb383, 1, none⟩ = some (.int .i64 0) := bc_ BK383.out 1; have hcz61_2 : w60.cell? ⟨gb383, 2, none⟩ = some (.int .i64 0) := bc_ BK383.out 2; have hcz61_3 : w60.cell? ⟨gb383, 3, none⟩ = some (.int .i64 0) := bc_ BK383.out 3; have hcz61_4 : w60.cell? ⟨gb383, 4, none⟩ = some (.int .i64 0) := bc_ BK383.out 4; have hfz61_0 := blk_frozen BK383.out 0; have hfz61_1 := blk_frozen BK383.out 1; have hfz61_2 := blk_frozen BK383.out 2; have hfz61_3 := blk_frozen BK383.out 3; have hfz61_4 := blk_frozen BK383.out 4)); try go_wp2_with (first | ((with_reducible refine gate_dst (N := 15) rfl ?_); refine box_event ?hg (N := 15) ?hd (cs := #[.int .i64 0, .int .i64 0, .int .i64 0, .int .i64 0, .int .i64 0]) (t := 63) ?hr ?_; (case hd => rfl); (case hg => rfl); (case hr => first | (go_simp; done) | (go_simp; rfl)); intro gb383 hg w60 hbox hb; replace HO_3 := Aside0.mk (Kd.R_below (Kd.R_elderB (fr_ HO_3.out) gb383 (Nat.le_of_eq hg.symm)) hb); replace HO_4 := Aside0.mk (Kd.R_below (fr_ HO_4.out) hb); replace HO_7 := Aside0.mk (Kd.R_below (Kd.R_elderB (fr_ HO_7.out) gb383 (Nat.le_of_eq hg.symm)) hb); replace HO_135 := Aside0.mk (Kd.R_below (fr_ HO_135.out) hb); have BK383 := Aside0.mk (hbox); have GW383 := Aside0.mk ((by rw [hg]; exact (below_size (bel_ HB.out)) : w.heap.size ≤ gb383)); have GE383 := Aside0.mk ((by rw [hg]; exact (below_size (bel_ HB.out)) : w.heap.size ≤ gb383)); replace HB := Aside0.mk (below_step (bel_ HB.out) hb); clear hb hbox hg; have hcz61_0 : w60.cell? ⟨gb383, 0, none⟩ = some (.int .i64 0) := bc_ BK383.out 0; have hcz61_1 : w60.cell? ⟨gb383, 1, none⟩ = some (.int .i64 0) := bc_ BK383.out 1; have hcz61_2 : w60.cell? ⟨gb383, 2, none⟩ = some (.int .i64 0) := bc_ BK383.out 2; have hcz61_3 : w60.cell? ⟨gb383, 3, none⟩ = some (.int .i64 0) := bc_ BK383.out 3; have hcz61_4 : w60.cell? ⟨gb383, 4, none⟩ = some (.int .i64 0) := bc_ BK383.out 4; have hfz61_0 := blk_frozen BK383.out 0; have hfz61_1 := blk_frozen BK383.out 1; have hfz61_2 := blk_frozen BK383.out 2; have hfz61_3 := blk_frozen BK383.out 3; have hfz61_4 := blk_frozen BK383.out 4)))
                        go_roundg k8
                        case measure => have := HK1.out; have := HK2.out; have := HJ18.out; have := HJ22.out; have := HJ26.out; have := HJ30.out; have := HJ38.out; have := HK8.out; omega
                        case rel => exact ⟨(wrap64 (x137_8 + 1)), rl_, H', ⟨by have := HK1.out; have := HK2.out; have := HJ18.out; have := HJ22.out; have := HJ26.out; have := HJ30.out; have := HJ38.out; have := HK8.out; omega⟩, ⟨by (with_reducible repeat (first | apply Kd.R_alloc | apply Kd.R_drewN | apply Kd.R_drew)); exact Kd.R_mono (Kd.R_far (p := ⟨gb383, 4, none⟩) (Kd.R_far (p := ⟨gb383, 3, none⟩) (Kd.R_far (p := ⟨gb383, 2, none⟩) (Kd.R_far (p := ⟨gb383, 1, none⟩) (Kd.R_far (p := ⟨gb383, 0, none⟩) (Kd.R_mono HO_3.out (fun k_ hk => (⟨hk, hk.2⟩ : _ ∧ k_ ≠ gb383))) (fun _ hk => hk.2) (.int .i64 ((rd_T63 t360 (rd x12_38 x137_8)).f0))) (fun _ hk => hk.2) (.int .i64 ((rd_T63 t360 (rd x12_38 x137_8)).f1))) (fun _ hk => hk.2) (.int .i64 ((rd_T63 t360 (rd x12_38 x137_8)).f2))) (fun _ hk => hk.2) (.int .i64 ((rd_T63 t360 (rd x12_38 x137_8)).f3))) (fun _ hk => hk.2) (.int .i64 ((rd_T63 t360 (rd x12_38 x137_8)).f4))) (fun _ hk => hk.1.1)⟩, ⟨by (with_reducible repeat (first | apply Kd.R_alloc | apply Kd.R_drewN | apply Kd.R_drew)); exact Kd.R_mono (Kd.R_far (p := ⟨gb383, 4, none⟩) (Kd.R_far (p := ⟨gb383, 3, none⟩) (Kd.R_far (p := ⟨gb383, 2, none⟩) (Kd.R_far (p := ⟨gb383, 1, none⟩) (Kd.R_far (p := ⟨gb383, 0, none⟩) (Kd.R_types HO_4.out BK383.out (by decide)) (fun _ hk => hk.2) (.int .i64 ((rd_T63 t360 (rd x12_38 x137_8)).f0))) (fun _ hk => hk.2) (.int .i64 ((rd_T63 t360 (rd x12_38 x137_8)).f1))) (fun _ hk => hk.2) (.int .i64 ((rd_T63 t360 (rd x12_38 x137_8)).f2))) (fun _ hk => hk.2) (.int .i64 ((rd_T63 t360 (rd x12_38 x137_8)).f3))) (fun _ hk => hk.2) (.int .i64 ((rd_T63 t360 (rd x12_38 x137_8)).f4))) (fun _ hk => trivial)⟩, ⟨by (with_reducible repeat (first | apply Kd.R_alloc | apply Kd.R_drewN | apply Kd.R_drew)); exact Kd.R_mono (Kd.R_far (p := ⟨gb383, 4, none⟩) (Kd.R_far (p := ⟨gb383, 3, none⟩) (Kd.R_far (p := ⟨gb383, 2, none⟩) (Kd.R_far (p := ⟨gb383, 1, none⟩) (Kd.R_far (p := ⟨gb383, 0, none⟩) (Kd.R_mono HO_7.out (fun k_ hk => (⟨hk, hk.2⟩ : _ ∧ k_ ≠ gb383))) (fun _ hk => hk.2) (.int .i64 ((rd_T63 t360 (rd x12_38 x137_8)).f0))) (fun _ hk => hk.2) (.int .i64 ((rd_T63 t360 (rd x12_38 x137_8)).f1))) (fun _ hk => hk.2) (.int .i64 ((rd_T63 t360 (rd x12_38 x137_8)).f2))) (fun _ hk => hk.2) (.int .i64 ((rd_T63 t360 (rd x12_38 x137_8)).f3))) (fun _ hk => hk.2) (.int .i64 ((rd_T63 t360 (rd x12_38 x137_8)).f4))) (fun _ hk => hk.1.1)⟩, ⟨by (with_reducible repeat (first | apply Kd.R_alloc | apply Kd.R_drewN | apply Kd.R_drew)); exact Kd.R_mono (Kd.R_far (p := ⟨gb383, 4, none⟩) (Kd.R_far (p := ⟨gb383, 3, none⟩) (Kd.R_far (p := ⟨gb383, 2, none⟩) (Kd.R_far (p := ⟨gb383, 1, none⟩) (Kd.R_far (p := ⟨gb383, 0, none⟩) (Kd.R_types HO_135.out BK383.out (by decide)) (fun _ hk => hk.2) (.int .i64 ((rd_T63 t360 (rd x12_38 x137_8)).f0))) (fun _ hk => hk.2) (.int .i64 ((rd_T63 t360 (rd x12_38 x137_8)).f1))) (fun _ hk => hk.2) (.int .i64 ((rd_T63 t360 (rd x12_38 x137_8)).f2))) (fun _ hk => hk.2) (.int .i64 ((rd_T63 t360 (rd x12_38 x137_8)).f3))) (fun _ hk => hk.2) (.int .i64 ((rd_T63 t360 (rd x12_38 x137_8)).f4))) (fun _ hk => trivial)⟩, ⟨bel_ HB.out⟩⟩
                       ·rw [if_neg c50] at H
                        exact absurd H (by simp)
                      ·rw [if_neg c49] at H
                       exact absurd H (by simp)
                     ·rw [if_neg c48] at H
                      exact absurd H (by simp)
                    ·rw [if_neg c47] at H
                     exact absurd H (by simp)
                   case neg =>
                   rw [if_neg c46] at H
                   have c46b0 : decide (x137_8 < (x12_38.length : Int)) = false := decide_eq_false c46
                   clear c46; replace H := Option.bind_eq_some_iff.mp H
                   obtain ⟨t384, A620, H⟩ := H
                   replace H : (if t384 = true then (laws_FnCargo.l0 k8 t353 t354 t360 (wrap64 (x6_1 + 1))) else (some false)) = some r := H
                   have A62 := Aside0.mk A620
                   clear A620
                   by_cases c63 : t384 = true
                   ·subst c63
                    have H1 : (laws_FnCargo.l0 k8 t353 t354 t360 (wrap64 (x6_1 + 1))) = some r := by rw [if_pos rfl] at H; exact H
                    clear H
                    have H := H1
                    clear H1
                    have H' := Aside0.mk H
                    clear H
                    go_wp2_with (first | (go_at_call 27; (with_reducible refine (impl_TanksOk.calls k8 _ _ t360 true _ ?side1 ?side2 A62.out).mono ?_); (case side1 => repeat (first | exact (Kd.R_reads' HO_7.out).2.2 | (with_reducible refine Kd.C_alloc ?_ _) | (with_reducible refine Kd.C_drewN ?_ _) | (with_reducible refine Kd.C_drew ?_))); (case side2 => exact (Kd.R_reads' HO_7.out).2.1); rintro e w64 ⟨rfl, hb⟩; replace HO_3 := Aside0.mk (Kd.R_below (fr_ HO_3.out) hb); replace HO_4 := Aside0.mk (Kd.R_below (fr_ HO_4.out) hb); replace HO_7 := Aside0.mk (Kd.R_below (fr_ HO_7.out) hb); replace HO_135 := Aside0.mk (Kd.R_below (fr_ HO_135.out) hb); replace HB := Aside0.mk (below_step (bel_ HB.out) hb); (try clear hb); (try clear hb2); (try clear hk); (try clear hi)))
                    repeat (go_quiet (first | (go_at_call 27; (with_reducible refine (impl_TanksOk.calls k8 _ _ t360 true _ ?side1 ?side2 A62.out).mono ?_); (case side1 => repeat (first | exact (Kd.R_reads' HO_7.out).2.2 | (with_reducible refine Kd.C_alloc ?_ _) | (with_reducible refine Kd.C_drewN ?_ _) | (with_reducible refine Kd.C_drew ?_))); (case side2 => exact (Kd.R_reads' HO_7.out).2.1); rintro e w64 ⟨rfl, hb⟩; replace HO_3 := Aside0.mk (Kd.R_below (fr_ HO_3.out) hb); replace HO_4 := Aside0.mk (Kd.R_below (fr_ HO_4.out) hb); replace HO_7 := Aside0.mk (Kd.R_below (fr_ HO_7.out) hb); replace HO_135 := Aside0.mk (Kd.R_below (fr_ HO_135.out) hb); replace HB := Aside0.mk (below_step (bel_ HB.out) hb); (try clear hb); (try clear hb2); (try clear hk); (try clear hi))); try go_wp2_with (first | (go_at_call 27; (with_reducible refine (impl_TanksOk.calls k8 _ _ t360 true _ ?side1 ?side2 A62.out).mono ?_); (case side1 => repeat (first | exact (Kd.R_reads' HO_7.out).2.2 | (with_reducible refine Kd.C_alloc ?_ _) | (with_reducible refine Kd.C_drewN ?_ _) | (with_reducible refine Kd.C_drew ?_))); (case side2 => exact (Kd.R_reads' HO_7.out).2.1); rintro e w64 ⟨rfl, hb⟩; replace HO_3 := Aside0.mk (Kd.R_below (fr_ HO_3.out) hb); replace HO_4 := Aside0.mk (Kd.R_below (fr_ HO_4.out) hb); replace HO_7 := Aside0.mk (Kd.R_below (fr_ HO_7.out) hb); replace HO_135 := Aside0.mk (Kd.R_below (fr_ HO_135.out) hb); replace HB := Aside0.mk (below_step (bel_ HB.out) hb); (try clear hb); (try clear hb2); (try clear hk); (try clear hi))))
                    go_roundg k8
                    case measure => have := HK1.out; have := HK2.out; have := HJ18.out; have := HJ22.out; have := HJ26.out; have := HJ30.out; have := HJ38.out; have := HK8.out; omega
                    case rel => exact ⟨(t360), (wrap64 (x6_1 + 1)), rl_, H', ⟨by have := HK1.out; have := HK2.out; have := HJ18.out; have := HJ22.out; have := HJ26.out; have := HJ30.out; have := HJ38.out; have := HK8.out; omega⟩, ⟨by (with_reducible repeat (first | apply Kd.R_alloc | apply Kd.R_drewN | apply Kd.R_drew)); exact Kd.R_mono HO_3.out (fun _ hk => trivial)⟩, ⟨fr_ HO_4.out⟩, ⟨by (with_reducible repeat (first | apply Kd.R_alloc | apply Kd.R_drewN | apply Kd.R_drew)); exact Kd.R_mono HO_7.out (fun _ hk => trivial)⟩, ⟨bel_ HB.out⟩⟩
                   ·replace c63 := Bool.eq_false_iff.mpr c63
                    subst c63
                    have H1 : (some false) = some r := by rw [if_neg (show ¬ (false = true) by decide)] at H; exact H
                    clear H
                    have H := H1
                    clear H1
                    obtain rfl := Option.some.inj H
                    go_wp2_with (first | (go_at_call 27; (with_reducible refine (impl_TanksOk.calls k8 _ _ t360 false _ ?side1 ?side2 A62.out).mono ?_); (case side1 => repeat (first | exact (Kd.R_reads' HO_7.out).2.2 | (with_reducible refine Kd.C_alloc ?_ _) | (with_reducible refine Kd.C_drewN ?_ _) | (with_reducible refine Kd.C_drew ?_))); (case side2 => exact (Kd.R_reads' HO_7.out).2.1); rintro e w65 ⟨rfl, hb⟩; replace HO_3 := Aside0.mk (Kd.R_below (fr_ HO_3.out) hb); replace HO_4 := Aside0.mk (Kd.R_below (fr_ HO_4.out) hb); replace HO_7 := Aside0.mk (Kd.R_below (fr_ HO_7.out) hb); replace HO_135 := Aside0.mk (Kd.R_below (fr_ HO_135.out) hb); replace HB := Aside0.mk (below_step (bel_ HB.out) hb); (try clear hb); (try clear hb2); (try clear hk); (try clear hi)))
                    repeat (go_quiet (first | (go_at_call 27; (with_reducible refine (impl_TanksOk.calls k8 _ _ t360 false _ ?side1 ?side2 A62.out).mono ?_); (case side1 => repeat (first | exact (Kd.R_reads' HO_7.out).2.2 | (with_reducible refine Kd.C_alloc ?_ _) | (with_reducible refine Kd.C_drewN ?_ _) | (with_reducible refine Kd.C_drew ?_))); (case side2 => exact (Kd.R_reads' HO_7.out).2.1); rintro e w65 ⟨rfl, hb⟩; replace HO_3 := Aside0.mk (Kd.R_below (fr_ HO_3.out) hb); replace HO_4 := Aside0.mk (Kd.R_below (fr_ HO_4.out) hb); replace HO_7 := Aside0.mk (Kd.R_below (fr_ HO_7.out) hb); replace HO_135 := Aside0.mk (Kd.R_below (fr_ HO_135.out) hb); replace HB := Aside0.mk (below_step (bel_ HB.out) hb); (try clear hb); (try clear hb2); (try clear hk); (try clear hi))); try go_wp2_with (first | (go_at_call 27; (with_reducible refine (impl_TanksOk.calls k8 _ _ t360 false _ ?side1 ?side2 A62.out).mono ?_); (case side1 => repeat (first | exact (Kd.R_reads' HO_7.out).2.2 | (with_reducible refine Kd.C_alloc ?_ _) | (with_reducible refine Kd.C_drewN ?_ _) | (with_reducible refine Kd.C_drew ?_))); (case side2 => exact (Kd.R_reads' HO_7.out).2.1); rintro e w65 ⟨rfl, hb⟩; replace HO_3 := Aside0.mk (Kd.R_below (fr_ HO_3.out) hb); replace HO_4 := Aside0.mk (Kd.R_below (fr_ HO_4.out) hb); replace HO_7 := Aside0.mk (Kd.R_below (fr_ HO_7.out) hb); replace HO_135 := Aside0.mk (Kd.R_below (fr_ HO_135.out) hb); replace HB := Aside0.mk (below_step (bel_ HB.out) hb); (try clear hb); (try clear hb2); (try clear hk); (try clear hi))))
                    go_ret
                    exact ⟨by first | rfl | (simp [errW_none, errW_some] <;> rfl) | (simp [*, errW_none, errW_some] <;> rfl), bel_ HB.out⟩
               ·rw [if_neg c38] at H
                exact absurd H (by simp)
              ·rw [if_neg c37] at H
               exact absurd H (by simp)
             ·rw [if_neg c36] at H
              have c36b0 : (t363 == 0) = false := beq_eq_false_iff_ne.mpr c36
              have c36b1 : (t363 != 0) = true := bne_iff_ne.mpr c36
              have H' := Aside0.mk H
              clear H
              go_wp2
              repeat (go_quiet (fail); try go_wp2)
              go_roundg kj30
              case measure => have := HK1.out; have := HK2.out; have := HJ18.out; have := HJ22.out; have := HJ26.out; have := HJ30.out; omega
              case rel => exact ⟨(t360), (wrap64 (x6_1 + 1)), rl_, H', ⟨by have := HK1.out; have := HK2.out; have := HJ18.out; have := HJ22.out; have := HJ26.out; have := HJ30.out; omega⟩, ⟨by (with_reducible repeat (first | apply Kd.R_alloc | apply Kd.R_drewN | apply Kd.R_drew)); exact Kd.R_mono HO_3.out (fun _ hk => trivial)⟩, ⟨fr_ HO_4.out⟩, ⟨by (with_reducible repeat (first | apply Kd.R_alloc | apply Kd.R_drewN | apply Kd.R_drew)); exact Kd.R_mono HO_7.out (fun _ hk => trivial)⟩, ⟨bel_ HB.out⟩⟩
            ·rw [if_neg c35] at H
             have c35b0 : (x9_2 == x11_30) = false := beq_eq_false_iff_ne.mpr c35
             have c35b1 : (x9_2 != x11_30) = true := bne_iff_ne.mpr c35
             obtain rfl := Option.some.inj H
             go_wp2
             repeat (go_quiet (fail); try go_wp2)
             go_ret
             exact ⟨by first | rfl | (simp [errW_none, errW_some] <;> rfl) | (simp [*, errW_none, errW_some] <;> rfl), bel_ HB.out⟩
     case neg =>
     rw [if_neg c9] at H
     have c9b0 : ((t360.length : Int) == (x5_1.length : Int)) = false := beq_eq_false_iff_ne.mpr c9
     have c9b1 : ((t360.length : Int) != (x5_1.length : Int)) = true := bne_iff_ne.mpr c9
     have c9b2 : (t360.length == x5_1.length) = false := by first | simpa using c9 | (simp at c9 ⊢; omega)
     obtain rfl := Option.some.inj H
     obtain ⟨Ao66, co66, eo66⟩ := Kd.R_slice HO_4.out
     subst eo66
     have p359 : 0 ≤ (x6_1 : Int) := of_decide_eq_true (by first | (with_reducible assumption) | assumption)
     have q359 : x6_1 < (t354.length : Int) := of_decide_eq_true (by first | (with_reducible assumption) | assumption)
     obtain ⟨ad359, e359, hx359_0, hx359_1, hx359_2, hx359_3⟩ := at_T61 (Kd.R_reads' HO_4.out).2.2 x6_1 p359 q359
     cases e359
     replace p359 := eq_true p359; replace q359 := eq_true q359
     obtain ⟨Ao67, co67, eo67⟩ := Kd.R_slice HO_5.out
     subst eo67
     go_wp2_with (first | (go_at_call 26; (with_reducible refine (impl_CargoStep.calls k1 _ _ x5_1 ((rd_T61 t354 x6_1).f0) ((rd_T61 t354 x6_1).f1) ((rd_T61 t354 x6_1).f2) ((rd_T61 t354 x6_1).f3) 100000 t360 t363 _ ?side1 ?side2 A8.out).mono ?_); (case side1 => repeat (first | exact (Kd.R_reads' HO_5.out).2.2 | (with_reducible refine Kd.C_alloc ?_ _) | (with_reducible refine Kd.C_drewN ?_ _) | (with_reducible refine Kd.C_drew ?_))); (case side2 => exact (Kd.R_reads' HO_5.out).2.1); rintro e w68 ⟨v361, rfl, ho0, hb⟩; replace HO_4 := Aside0.mk (Kd.R_below (fr_ HO_4.out) hb); have HO362 := Aside0.mk (Kd.R_lower (Kd.R_new' (Kd.R_new' ho0 (Kd.R_lt (fr_ HO_3.out))) (Kd.R_lt (fr_ HO_5.out))) (below_size (bel_ HB.out))); replace HO_3 := Aside0.mk (Kd.R_elder' (fr_ HO_3.out) (Kd.R_base ho0) hb); replace HO_5 := Aside0.mk (Kd.R_elder' (fr_ HO_5.out) (Kd.R_base ho0) hb); replace HB := Aside0.mk (below_step (bel_ HB.out) hb); (try clear hb); (try clear hb2); (try clear hk); (try clear hi); (try clear ho0); obtain ⟨Ao69, co69, eo69⟩ := Kd.R_slice HO362.out; subst eo69))
     repeat (go_quiet (first | (go_at_call 26; (with_reducible refine (impl_CargoStep.calls k1 _ _ x5_1 ((rd_T61 t354 x6_1).f0) ((rd_T61 t354 x6_1).f1) ((rd_T61 t354 x6_1).f2) ((rd_T61 t354 x6_1).f3) 100000 t360 t363 _ ?side1 ?side2 A8.out).mono ?_); (case side1 => repeat (first | exact (Kd.R_reads' HO_5.out).2.2 | (with_reducible refine Kd.C_alloc ?_ _) | (with_reducible refine Kd.C_drewN ?_ _) | (with_reducible refine Kd.C_drew ?_))); (case side2 => exact (Kd.R_reads' HO_5.out).2.1); rintro e w68 ⟨v361, rfl, ho0, hb⟩; replace HO_4 := Aside0.mk (Kd.R_below (fr_ HO_4.out) hb); have HO362 := Aside0.mk (Kd.R_lower (Kd.R_new' (Kd.R_new' ho0 (Kd.R_lt (fr_ HO_3.out))) (Kd.R_lt (fr_ HO_5.out))) (below_size (bel_ HB.out))); replace HO_3 := Aside0.mk (Kd.R_elder' (fr_ HO_3.out) (Kd.R_base ho0) hb); replace HO_5 := Aside0.mk (Kd.R_elder' (fr_ HO_5.out) (Kd.R_base ho0) hb); replace HB := Aside0.mk (below_step (bel_ HB.out) hb); (try clear hb); (try clear hb2); (try clear hk); (try clear hi); (try clear ho0); obtain ⟨Ao69, co69, eo69⟩ := Kd.R_slice HO362.out; subst eo69)); try go_wp2_with (first | (go_at_call 26; (with_reducible refine (impl_CargoStep.calls k1 _ _ x5_1 ((rd_T61 t354 x6_1).f0) ((rd_T61 t354 x6_1).f1) ((rd_T61 t354 x6_1).f2) ((rd_T61 t354 x6_1).f3) 100000 t360 t363 _ ?side1 ?side2 A8.out).mono ?_); (case side1 => repeat (first | exact (Kd.R_reads' HO_5.out).2.2 | (with_reducible refine Kd.C_alloc ?_ _) | (with_reducible refine Kd.C_drewN ?_ _) | (with_reducible refine Kd.C_drew ?_))); (case side2 => exact (Kd.R_reads' HO_5.out).2.1); rintro e w68 ⟨v361, rfl, ho0, hb⟩; replace HO_4 := Aside0.mk (Kd.R_below (fr_ HO_4.out) hb); have HO362 := Aside0.mk (Kd.R_lower (Kd.R_new' (Kd.R_new' ho0 (Kd.R_lt (fr_ HO_3.out))) (Kd.R_lt (fr_ HO_5.out))) (below_size (bel_ HB.out))); replace HO_3 := Aside0.mk (Kd.R_elder' (fr_ HO_3.out) (Kd.R_base ho0) hb); replace HO_5 := Aside0.mk (Kd.R_elder' (fr_ HO_5.out) (Kd.R_base ho0) hb); replace HB := Aside0.mk (below_step (bel_ HB.out) hb); (try clear hb); (try clear hb2); (try clear hk); (try clear hi); (try clear ho0); obtain ⟨Ao69, co69, eo69⟩ := Kd.R_slice HO362.out; subst eo69)))
     go_ret
     exact ⟨by first | rfl | (simp [errW_none, errW_some] <;> rfl) | (simp [*, errW_none, errW_some] <;> rfl), bel_ HB.out⟩
    ·rw [if_neg c7] at H
     exact absurd H (by simp)
   case neg =>
   rw [if_neg c6] at H
   have c6b0 : decide (x6_1 < (t354.length : Int)) = false := decide_eq_false c6
   clear c6; replace H := Option.bind_eq_some_iff.mp H
   obtain ⟨⟨t385, t386⟩, A700, H⟩ := H
   replace H : (if (t385.length : Int) = (x5_1.length : Int) then (laws_FnCargo.l3 k1 t354 x5_1 t385 t386 0) else (some false)) = some r := H
   have A70 := Aside0.mk A700
   clear A700
   by_cases c71 : (t385.length : Int) = (x5_1.length : Int)
   ·rw [if_pos c71] at H
    have c71b0 : ((t385.length : Int) == (x5_1.length : Int)) = true := beq_iff_eq.mpr c71
    have c71b1 : ((t385.length : Int) != (x5_1.length : Int)) = false := bne_eq_false_iff_eq.mpr c71
    have c71b2 : (t385.length == x5_1.length) = true := by first | simpa using c71 | (simp at c71 ⊢; omega)
    clear c71
    have H' := Aside0.mk H
    clear H
    obtain ⟨Ao72, co72, eo72⟩ := Kd.R_slice HO_4.out
    subst eo72
    obtain ⟨Ao73, co73, eo73⟩ := Kd.R_slice HO_3.out
    subst eo73
    go_wp2_with (first | (go_at_call 28; (with_reducible refine (impl_CargoRun.calls k1 _ _ t353 _ _ t354 100000 t385 t386 _ ?side1 ?side2 ?side3 ?side4 A70.out).mono ?_); (case side1 => repeat (first | exact (Kd.R_reads' HO_3.out).2.2 | (with_reducible refine Kd.C_alloc ?_ _) | (with_reducible refine Kd.C_drewN ?_ _) | (with_reducible refine Kd.C_drew ?_))); (case side2 => exact (Kd.R_reads' HO_3.out).2.1); (case side3 => repeat (first | exact (Kd.R_reads' HO_4.out).2.2 | (with_reducible refine Kd.C_alloc ?_ _) | (with_reducible refine Kd.C_drewN ?_ _) | (with_reducible refine Kd.C_drew ?_))); (case side4 => exact (Kd.R_reads' HO_4.out).2.1); rintro e w74 ⟨v387, v389, rfl, ho0, ho1, hb⟩; replace HO_4 := Aside0.mk (Kd.R_below (fr_ HO_4.out) hb); have HO388 := Aside0.mk (Kd.R_lower (Kd.R_new' (Kd.R_new' ho0 (Kd.R_lt (fr_ HO_3.out))) (Kd.R_lt (fr_ HO_5.out))) (below_size (bel_ HB.out))); replace HO_3 := Aside0.mk (Kd.R_elder' (fr_ HO_3.out) (Kd.R_base ho0) hb); replace HO_5 := Aside0.mk (Kd.R_elder' (fr_ HO_5.out) (Kd.R_base ho0) hb); have HO390 := Aside0.mk (Kd.R_lower ho1 (below_size (bel_ HB.out))); replace HB := Aside0.mk (below_step (bel_ HB.out) hb); (try clear hb); (try clear hb2); (try clear hk); (try clear hi); (try clear ho0); (try clear ho1); obtain ⟨Ao75, co75, eo75⟩ := Kd.R_slice HO388.out; subst eo75; obtain ⟨Ao76, co76, eo76⟩ := Kd.R_slice HO_5.out; subst eo76))
    repeat (go_quiet (first | (go_at_call 28; (with_reducible refine (impl_CargoRun.calls k1 _ _ t353 _ _ t354 100000 t385 t386 _ ?side1 ?side2 ?side3 ?side4 A70.out).mono ?_); (case side1 => repeat (first | exact (Kd.R_reads' HO_3.out).2.2 | (with_reducible refine Kd.C_alloc ?_ _) | (with_reducible refine Kd.C_drewN ?_ _) | (with_reducible refine Kd.C_drew ?_))); (case side2 => exact (Kd.R_reads' HO_3.out).2.1); (case side3 => repeat (first | exact (Kd.R_reads' HO_4.out).2.2 | (with_reducible refine Kd.C_alloc ?_ _) | (with_reducible refine Kd.C_drewN ?_ _) | (with_reducible refine Kd.C_drew ?_))); (case side4 => exact (Kd.R_reads' HO_4.out).2.1); rintro e w74 ⟨v387, v389, rfl, ho0, ho1, hb⟩; replace HO_4 := Aside0.mk (Kd.R_below (fr_ HO_4.out) hb); have HO388 := Aside0.mk (Kd.R_lower (Kd.R_new' (Kd.R_new' ho0 (Kd.R_lt (fr_ HO_3.out))) (Kd.R_lt (fr_ HO_5.out))) (below_size (bel_ HB.out))); replace HO_3 := Aside0.mk (Kd.R_elder' (fr_ HO_3.out) (Kd.R_base ho0) hb); replace HO_5 := Aside0.mk (Kd.R_elder' (fr_ HO_5.out) (Kd.R_base ho0) hb); have HO390 := Aside0.mk (Kd.R_lower ho1 (below_size (bel_ HB.out))); replace HB := Aside0.mk (below_step (bel_ HB.out) hb); (try clear hb); (try clear hb2); (try clear hk); (try clear hi); (try clear ho0); (try clear ho1); obtain ⟨Ao75, co75, eo75⟩ := Kd.R_slice HO388.out; subst eo75; obtain ⟨Ao76, co76, eo76⟩ := Kd.R_slice HO_5.out; subst eo76)); try go_wp2_with (first | (go_at_call 28; (with_reducible refine (impl_CargoRun.calls k1 _ _ t353 _ _ t354 100000 t385 t386 _ ?side1 ?side2 ?side3 ?side4 A70.out).mono ?_); (case side1 => repeat (first | exact (Kd.R_reads' HO_3.out).2.2 | (with_reducible refine Kd.C_alloc ?_ _) | (with_reducible refine Kd.C_drewN ?_ _) | (with_reducible refine Kd.C_drew ?_))); (case side2 => exact (Kd.R_reads' HO_3.out).2.1); (case side3 => repeat (first | exact (Kd.R_reads' HO_4.out).2.2 | (with_reducible refine Kd.C_alloc ?_ _) | (with_reducible refine Kd.C_drewN ?_ _) | (with_reducible refine Kd.C_drew ?_))); (case side4 => exact (Kd.R_reads' HO_4.out).2.1); rintro e w74 ⟨v387, v389, rfl, ho0, ho1, hb⟩; replace HO_4 := Aside0.mk (Kd.R_below (fr_ HO_4.out) hb); have HO388 := Aside0.mk (Kd.R_lower (Kd.R_new' (Kd.R_new' ho0 (Kd.R_lt (fr_ HO_3.out))) (Kd.R_lt (fr_ HO_5.out))) (below_size (bel_ HB.out))); replace HO_3 := Aside0.mk (Kd.R_elder' (fr_ HO_3.out) (Kd.R_base ho0) hb); replace HO_5 := Aside0.mk (Kd.R_elder' (fr_ HO_5.out) (Kd.R_base ho0) hb); have HO390 := Aside0.mk (Kd.R_lower ho1 (below_size (bel_ HB.out))); replace HB := Aside0.mk (below_step (bel_ HB.out) hb); (try clear hb); (try clear hb2); (try clear hk); (try clear hi); (try clear ho0); (try clear ho1); obtain ⟨Ao75, co75, eo75⟩ := Kd.R_slice HO388.out; subst eo75; obtain ⟨Ao76, co76, eo76⟩ := Kd.R_slice HO_5.out; subst eo76)))
    go_loopg [18] k1 (fun kq v18 w' => ∃ (x18_2 : Int), v18 = .int .i64 x18_2 ∧ Aside0 (laws_FnCargo.l3 kq t354 x5_1 t385 t386 x18_2 = some r) ∧ Aside0 (kq ≤ k1) ∧ Aside0 (Kd.R k61 61 w' w.heap.size (fun _ => True) (.slice Ao72 t354.length co72) t354) ∧ Aside0 (Kd.R k63 63 w' w.heap.size (fun k_ => some k_ ≠ ((.slice Ao75 t385.length co75) : Value).ownBlock) (.slice Ao76 x5_1.length co76) x5_1) ∧ Aside0 (Kd.R k63 63 w' w.heap.size (fun k_ => some k_ ≠ ((.slice Ao76 x5_1.length co76) : Value).ownBlock) (.slice Ao75 t385.length co75) t385) ∧ Aside0 (Kd.R (Kd.int .i64) 3 w' w.heap.size (fun _ => True) v389 t386) ∧ Aside0 (Below w.heap.size w w'))
    case atStart => exact ⟨(0), rl_, H', ⟨Nat.le_refl _⟩, ⟨fr_ HO_4.out⟩, ⟨rn_ HO_5.out (fun _ hk => hk.2)⟩, ⟨rn_ HO388.out (fun _ hk => hk.2)⟩, ⟨fr_ HO390.out⟩, ⟨bel_ HB.out⟩⟩
    case round =>
     clear H'
     try clear c3
     try clear c6
     try clear c6b0
     try clear c71
     try clear c71b0
     try clear c71b1
     try clear c71b2
     obtain ⟨x18_2, rfl, HA, HK2, HO_4, HO_5, HO_16, HO_17, HB⟩ := hrel
     cases gk with
     | zero => exact absurd HA.out (by simp [laws_FnCargo.l3])
     | succ k2 =>
      have H := HA.out
      clear HA
      simp only [laws_FnCargo.l3] at H
      by_cases c77 : x18_2 < (x5_1.length : Int)
      ·rw [if_pos c77] at H
       have c77b0 : decide (x18_2 < (x5_1.length : Int)) = true := decide_eq_true c77
       clear c77
       by_cases c78 : 0 ≤ x18_2
       ·rw [if_pos c78] at H
        have c78b0 : decide (0 ≤ x18_2) = true := decide_eq_true c78
        clear c78
        by_cases c79 : x18_2 < (t385.length : Int)
        ·rw [if_pos c79] at H
         have c79b0 : decide (x18_2 < (t385.length : Int)) = true := decide_eq_true c79
         clear c79
         by_cases c80 : (!(((rd_T63 t385 x18_2).f0) == ((rd_T63 x5_1 x18_2).f0)) || (!(((rd_T63 t385 x18_2).f1) == ((rd_T63 x5_1 x18_2).f1)) || (!(((rd_T63 t385 x18_2).f2) == ((rd_T63 x5_1 x18_2).f2)) || (!(((rd_T63 t385 x18_2).f3) == ((rd_T63 x5_1 x18_2).f3)) || (!(((rd_T63 t385 x18_2).f4) == ((rd_T63 x5_1 x18_2).f4))))))) = true
         ·rw [if_pos c80] at H
          have c80b0 : (!(((rd_T63 t385 x18_2).f0) == ((rd_T63 x5_1 x18_2).f0)) || (!(((rd_T63 t385 x18_2).f1) == ((rd_T63 x5_1 x18_2).f1)) || (!(((rd_T63 t385 x18_2).f2) == ((rd_T63 x5_1 x18_2).f2)) || (!(((rd_T63 t385 x18_2).f3) == ((rd_T63 x5_1 x18_2).f3)) || (!(((rd_T63 t385 x18_2).f4) == ((rd_T63 x5_1 x18_2).f4))))))) = true := c80
          clear c80
          obtain rfl := Option.some.inj H
          have p391 : 0 ≤ (x18_2 : Int) := of_decide_eq_true (by first | (with_reducible assumption) | assumption)
          have q391 : x18_2 < (t385.length : Int) := of_decide_eq_true (by first | (with_reducible assumption) | assumption)
          obtain ⟨ad391, e391, hx391_0, hx391_1, hx391_2, hx391_3, hx391_4⟩ := at_T63 (Kd.R_reads' HO_16.out).2.2 x18_2 p391 q391
          cases e391
          replace p391 := eq_true p391; replace q391 := eq_true q391
          have p392 : 0 ≤ (x18_2 : Int) := of_decide_eq_true (by first | (with_reducible assumption) | assumption)
          have q392 : x18_2 < (x5_1.length : Int) := of_decide_eq_true (by first | (with_reducible assumption) | assumption)
          obtain ⟨ad392, e392, hx392_0, hx392_1, hx392_2, hx392_3, hx392_4⟩ := at_T63 (Kd.R_reads' HO_5.out).2.2 x18_2 p392 q392
          cases e392
          replace p392 := eq_true p392; replace q392 := eq_true q392
          go_wp2
          repeat (go_quiet (fail); try go_wp2)
          go_ret
          exact ⟨by first | rfl | (simp [errW_none, errW_some] <;> rfl) | (simp [*, errW_none, errW_some] <;> rfl), bel_ HB.out⟩
         case neg =>
         rw [if_neg c80] at H
         have c80b0 : (!(((rd_T63 t385 x18_2).f0) == ((rd_T63 x5_1 x18_2).f0)) || (!(((rd_T63 t385 x18_2).f1) == ((rd_T63 x5_1 x18_2).f1)) || (!(((rd_T63 t385 x18_2).f2) == ((rd_T63 x5_1 x18_2).f2)) || (!(((rd_T63 t385 x18_2).f3) == ((rd_T63 x5_1 x18_2).f3)) || (!(((rd_T63 t385 x18_2).f4) == ((rd_T63 x5_1 x18_2).f4))))))) = false := by simpa using c80
         clear c80
         have H' := Aside0.mk H
         clear H
         have p391 : 0 ≤ (x18_2 : Int) := of_decide_eq_true (by first | (with_reducible assumption) | assumption)
         have q391 : x18_2 < (t385.length : Int) := of_decide_eq_true (by first | (with_reducible assumption) | assumption)
         obtain ⟨ad391, e391, hx391_0, hx391_1, hx391_2, hx391_3, hx391_4⟩ := at_T63 (Kd.R_reads' HO_16.out).2.2 x18_2 p391 q391
         cases e391
         replace p391 := eq_true p391; replace q391 := eq_true q391
         have p392 : 0 ≤ (x18_2 : Int) := of_decide_eq_true (by first | (with_reducible assumption) | assumption)
         have q392 : x18_2 < (x5_1.length : Int) := of_decide_eq_true (by first | (with_reducible assumption) | assumption)
         obtain ⟨ad392, e392, hx392_0, hx392_1, hx392_2, hx392_3, hx392_4⟩ := at_T63 (Kd.R_reads' HO_5.out).2.2 x18_2 p392 q392
         cases e392
         replace p392 := eq_true p392; replace q392 := eq_true q392
         go_wp2
         repeat (go_quiet (fail); try go_wp2)
         go_roundg k2
         case measure => have := HK1.out; have := HK2.out; omega
         case rel => exact ⟨(wrap64 (x18_2 + 1)), rl_, H', ⟨by have := HK1.out; have := HK2.out; omega⟩, ⟨fr_ HO_4.out⟩, ⟨fr_ HO_5.out⟩, ⟨fr_ HO_16.out⟩, ⟨fr_ HO_17.out⟩, ⟨bel_ HB.out⟩⟩
        ·rw [if_neg c79] at H
         exact absurd H (by simp)
       ·rw [if_neg c78] at H
        exact absurd H (by simp)
      case neg =>
      rw [if_neg c77] at H
      have c77b0 : decide (x18_2 < (x5_1.length : Int)) = false := decide_eq_false c77
      clear c77
      by_cases c81 : (t386.length : Int) = (t354.length : Int)
      ·rw [if_pos c81] at H
       have c81b0 : ((t386.length : Int) == (t354.length : Int)) = true := beq_iff_eq.mpr c81
       have c81b1 : ((t386.length : Int) != (t354.length : Int)) = false := bne_eq_false_iff_eq.mpr c81
       have c81b2 : (t386.length == t354.length) = true := by first | simpa using c81 | (simp at c81 ⊢; omega)
       clear c81; replace H := Option.bind_eq_some_iff.mp H
       obtain ⟨t393, A820, H⟩ := H
       replace H : (some t393) = some r := H
       have A82 := Aside0.mk A820
       clear A820
       obtain rfl := Option.some.inj H
       obtain ⟨Ao83, co83, eo83⟩ := Kd.R_slice HO_17.out
       subst eo83
       go_wp2_with (first | (go_at_call 27; (with_reducible refine (impl_TanksOk.calls k2 _ _ x5_1 t393 _ ?side1 ?side2 A82.out).mono ?_); (case side1 => repeat (first | exact (Kd.R_reads' HO_5.out).2.2 | (with_reducible refine Kd.C_alloc ?_ _) | (with_reducible refine Kd.C_drewN ?_ _) | (with_reducible refine Kd.C_drew ?_))); (case side2 => exact (Kd.R_reads' HO_5.out).2.1); rintro e w84 ⟨rfl, hb⟩; replace HO_4 := Aside0.mk (Kd.R_below (fr_ HO_4.out) hb); replace HO_5 := Aside0.mk (Kd.R_below (fr_ HO_5.out) hb); replace HO_16 := Aside0.mk (Kd.R_below (fr_ HO_16.out) hb); replace HO_17 := Aside0.mk (Kd.R_below (fr_ HO_17.out) hb); replace HB := Aside0.mk (below_step (bel_ HB.out) hb); (try clear hb); (try clear hb2); (try clear hk); (try clear hi)))
       repeat (go_quiet (first | (go_at_call 27; (with_reducible refine (impl_TanksOk.calls k2 _ _ x5_1 t393 _ ?side1 ?side2 A82.out).mono ?_); (case side1 => repeat (first | exact (Kd.R_reads' HO_5.out).2.2 | (with_reducible refine Kd.C_alloc ?_ _) | (with_reducible refine Kd.C_drewN ?_ _) | (with_reducible refine Kd.C_drew ?_))); (case side2 => exact (Kd.R_reads' HO_5.out).2.1); rintro e w84 ⟨rfl, hb⟩; replace HO_4 := Aside0.mk (Kd.R_below (fr_ HO_4.out) hb); replace HO_5 := Aside0.mk (Kd.R_below (fr_ HO_5.out) hb); replace HO_16 := Aside0.mk (Kd.R_below (fr_ HO_16.out) hb); replace HO_17 := Aside0.mk (Kd.R_below (fr_ HO_17.out) hb); replace HB := Aside0.mk (below_step (bel_ HB.out) hb); (try clear hb); (try clear hb2); (try clear hk); (try clear hi))); try go_wp2_with (first | (go_at_call 27; (with_reducible refine (impl_TanksOk.calls k2 _ _ x5_1 t393 _ ?side1 ?side2 A82.out).mono ?_); (case side1 => repeat (first | exact (Kd.R_reads' HO_5.out).2.2 | (with_reducible refine Kd.C_alloc ?_ _) | (with_reducible refine Kd.C_drewN ?_ _) | (with_reducible refine Kd.C_drew ?_))); (case side2 => exact (Kd.R_reads' HO_5.out).2.1); rintro e w84 ⟨rfl, hb⟩; replace HO_4 := Aside0.mk (Kd.R_below (fr_ HO_4.out) hb); replace HO_5 := Aside0.mk (Kd.R_below (fr_ HO_5.out) hb); replace HO_16 := Aside0.mk (Kd.R_below (fr_ HO_16.out) hb); replace HO_17 := Aside0.mk (Kd.R_below (fr_ HO_17.out) hb); replace HB := Aside0.mk (below_step (bel_ HB.out) hb); (try clear hb); (try clear hb2); (try clear hk); (try clear hi))))
       go_ret
       exact ⟨by first | rfl | (simp [errW_none, errW_some] <;> rfl) | (simp [*, errW_none, errW_some] <;> rfl), bel_ HB.out⟩
      ·rw [if_neg c81] at H
       have c81b0 : ((t386.length : Int) == (t354.length : Int)) = false := beq_eq_false_iff_ne.mpr c81
       have c81b1 : ((t386.length : Int) != (t354.length : Int)) = true := bne_iff_ne.mpr c81
       have c81b2 : (t386.length == t354.length) = false := by first | simpa using c81 | (simp at c81 ⊢; omega)
       obtain rfl := Option.some.inj H
       obtain ⟨Ao85, co85, eo85⟩ := Kd.R_slice HO_17.out
       subst eo85
       go_wp2
       repeat (go_quiet (fail); try go_wp2)
       go_ret
       exact ⟨by first | rfl | (simp [errW_none, errW_some] <;> rfl) | (simp [*, errW_none, errW_some] <;> rfl), bel_ HB.out⟩
   case neg =>
   rw [if_neg c71] at H
   have c71b0 : ((t385.length : Int) == (x5_1.length : Int)) = false := beq_eq_false_iff_ne.mpr c71
   have c71b1 : ((t385.length : Int) != (x5_1.length : Int)) = true := bne_iff_ne.mpr c71
   have c71b2 : (t385.length == x5_1.length) = false := by first | simpa using c71 | (simp at c71 ⊢; omega)
   obtain rfl := Option.some.inj H
   obtain ⟨Ao86, co86, eo86⟩ := Kd.R_slice HO_4.out
   subst eo86
   obtain ⟨Ao87, co87, eo87⟩ := Kd.R_slice HO_3.out
   subst eo87
   go_wp2_with (first | (go_at_call 28; (with_reducible refine (impl_CargoRun.calls k1 _ _ t353 _ _ t354 100000 t385 t386 _ ?side1 ?side2 ?side3 ?side4 A70.out).mono ?_); (case side1 => repeat (first | exact (Kd.R_reads' HO_3.out).2.2 | (with_reducible refine Kd.C_alloc ?_ _) | (with_reducible refine Kd.C_drewN ?_ _) | (with_reducible refine Kd.C_drew ?_))); (case side2 => exact (Kd.R_reads' HO_3.out).2.1); (case side3 => repeat (first | exact (Kd.R_reads' HO_4.out).2.2 | (with_reducible refine Kd.C_alloc ?_ _) | (with_reducible refine Kd.C_drewN ?_ _) | (with_reducible refine Kd.C_drew ?_))); (case side4 => exact (Kd.R_reads' HO_4.out).2.1); rintro e w88 ⟨v387, v389, rfl, ho0, ho1, hb⟩; replace HO_4 := Aside0.mk (Kd.R_below (fr_ HO_4.out) hb); have HO388 := Aside0.mk (Kd.R_lower (Kd.R_new' (Kd.R_new' ho0 (Kd.R_lt (fr_ HO_3.out))) (Kd.R_lt (fr_ HO_5.out))) (below_size (bel_ HB.out))); replace HO_3 := Aside0.mk (Kd.R_elder' (fr_ HO_3.out) (Kd.R_base ho0) hb); replace HO_5 := Aside0.mk (Kd.R_elder' (fr_ HO_5.out) (Kd.R_base ho0) hb); have HO390 := Aside0.mk (Kd.R_lower ho1 (below_size (bel_ HB.out))); replace HB := Aside0.mk (below_step (bel_ HB.out) hb); (try clear hb); (try clear hb2); (try clear hk); (try clear hi); (try clear ho0); (try clear ho1); obtain ⟨Ao89, co89, eo89⟩ := Kd.R_slice HO388.out; subst eo89; obtain ⟨Ao90, co90, eo90⟩ := Kd.R_slice HO_5.out; subst eo90))
   repeat (go_quiet (first | (go_at_call 28; (with_reducible refine (impl_CargoRun.calls k1 _ _ t353 _ _ t354 100000 t385 t386 _ ?side1 ?side2 ?side3 ?side4 A70.out).mono ?_); (case side1 => repeat (first | exact (Kd.R_reads' HO_3.out).2.2 | (with_reducible refine Kd.C_alloc ?_ _) | (with_reducible refine Kd.C_drewN ?_ _) | (with_reducible refine Kd.C_drew ?_))); (case side2 => exact (Kd.R_reads' HO_3.out).2.1); (case side3 => repeat (first | exact (Kd.R_reads' HO_4.out).2.2 | (with_reducible refine Kd.C_alloc ?_ _) | (with_reducible refine Kd.C_drewN ?_ _) | (with_reducible refine Kd.C_drew ?_))); (case side4 => exact (Kd.R_reads' HO_4.out).2.1); rintro e w88 ⟨v387, v389, rfl, ho0, ho1, hb⟩; replace HO_4 := Aside0.mk (Kd.R_below (fr_ HO_4.out) hb); have HO388 := Aside0.mk (Kd.R_lower (Kd.R_new' (Kd.R_new' ho0 (Kd.R_lt (fr_ HO_3.out))) (Kd.R_lt (fr_ HO_5.out))) (below_size (bel_ HB.out))); replace HO_3 := Aside0.mk (Kd.R_elder' (fr_ HO_3.out) (Kd.R_base ho0) hb); replace HO_5 := Aside0.mk (Kd.R_elder' (fr_ HO_5.out) (Kd.R_base ho0) hb); have HO390 := Aside0.mk (Kd.R_lower ho1 (below_size (bel_ HB.out))); replace HB := Aside0.mk (below_step (bel_ HB.out) hb); (try clear hb); (try clear hb2); (try clear hk); (try clear hi); (try clear ho0); (try clear ho1); obtain ⟨Ao89, co89, eo89⟩ := Kd.R_slice HO388.out; subst eo89; obtain ⟨Ao90, co90, eo90⟩ := Kd.R_slice HO_5.out; subst eo90)); try go_wp2_with (first | (go_at_call 28; (with_reducible refine (impl_CargoRun.calls k1 _ _ t353 _ _ t354 100000 t385 t386 _ ?side1 ?side2 ?side3 ?side4 A70.out).mono ?_); (case side1 => repeat (first | exact (Kd.R_reads' HO_3.out).2.2 | (with_reducible refine Kd.C_alloc ?_ _) | (with_reducible refine Kd.C_drewN ?_ _) | (with_reducible refine Kd.C_drew ?_))); (case side2 => exact (Kd.R_reads' HO_3.out).2.1); (case side3 => repeat (first | exact (Kd.R_reads' HO_4.out).2.2 | (with_reducible refine Kd.C_alloc ?_ _) | (with_reducible refine Kd.C_drewN ?_ _) | (with_reducible refine Kd.C_drew ?_))); (case side4 => exact (Kd.R_reads' HO_4.out).2.1); rintro e w88 ⟨v387, v389, rfl, ho0, ho1, hb⟩; replace HO_4 := Aside0.mk (Kd.R_below (fr_ HO_4.out) hb); have HO388 := Aside0.mk (Kd.R_lower (Kd.R_new' (Kd.R_new' ho0 (Kd.R_lt (fr_ HO_3.out))) (Kd.R_lt (fr_ HO_5.out))) (below_size (bel_ HB.out))); replace HO_3 := Aside0.mk (Kd.R_elder' (fr_ HO_3.out) (Kd.R_base ho0) hb); replace HO_5 := Aside0.mk (Kd.R_elder' (fr_ HO_5.out) (Kd.R_base ho0) hb); have HO390 := Aside0.mk (Kd.R_lower ho1 (below_size (bel_ HB.out))); replace HB := Aside0.mk (below_step (bel_ HB.out) hb); (try clear hb); (try clear hb2); (try clear hk); (try clear hi); (try clear ho0); (try clear ho1); obtain ⟨Ao89, co89, eo89⟩ := Kd.R_slice HO388.out; subst eo89; obtain ⟨Ao90, co90, eo90⟩ := Kd.R_slice HO_5.out; subst eo90)))
   go_ret
   exact ⟨by first | rfl | (simp [errW_none, errW_some] <;> rfl) | (simp [*, errW_none, errW_some] <;> rfl), bel_ HB.out⟩

/-- THE ONE PURE STATEMENT of laws_FnCargo: yours. -/
def laws_FnCargo.Pure : Prop := ∀ (l0 : List Int), l0.length ≤ maxLen → l0.length * 1 ≤ 140737488351232 → (∀ x ∈ l0, (Lit.int .u8 x).wf = true) → ∃ k, laws_FnCargo.f k l0 = some true
theorem laws_FnCargo.walk (P : laws_FnCargo.Pure) (a0 : Option Addr) (len0 cap0 : Nat) (z0 : List Int) (w : World) (w0 : (a0 = none ∧ len0 = 0 ∧ cap0 = 0 ∧ z0 = []) ∨ ∃ x, a0 = some x ∧ len0 ≤ cap0 ∧ cap0 ≤ maxLen ∧ z0.length = cap0 ∧ (∀ i, i < z0.length → w.cell? (x.add i) = some (.int .u8 (z0.getD i 0))) ∧ ∀ n ∈ z0, (Lit.int .u8 n).wf = true) (y0 : len0 * 1 ≤ 140737488351232) :
  Calls Try.prog 6 #[.slice a0 len0 cap0] w fun e w' => e = .returned (.bool true) ∧ Below w.heap.size w w' := by
 obtain ⟨l0, rfl, hr0, hm0, hw0, hc0⟩ := ReadsInt.ofRowC w0
 obtain ⟨k, h⟩ := P l0 hm0 y0 hw0
 refine (laws_FnCargo.calls k _ _ l0 true w (Kd.C_of_reads (d := (0 : Int)) (h1 := fun _ => rfl) hr0) hc0 h).mono ?_
 rintro e w' ⟨rfl, hd⟩
 exact ⟨rfl, hd⟩

end Go.Proofs.Ytlphfhibnbhkfaa.PFnCargo
