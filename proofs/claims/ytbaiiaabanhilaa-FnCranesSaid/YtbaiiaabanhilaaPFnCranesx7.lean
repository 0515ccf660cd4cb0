/- The Lean side of Go functions of this seat: what each answers, and that its run comes to that answer; written by a program of this work. -/
import Derived.Test.YtbaiiaabanhilaaPFnCranesx0
import Derived.Test.YtbaiiaabanhilaaPFnCranesx1
import Derived.Test.YtbaiiaabanhilaaPFnCranesx2
import Derived.Test.YtbaiiaabanhilaaPFnCranesx3
import Derived.Test.YtbaiiaabanhilaaPFnCranesx4
import Derived.Test.YtbaiiaabanhilaaPFnCranesx5
import Derived.Test.YtbaiiaabanhilaaPFnCranesx6
namespace Go.Proofs.Ytbaiiaabanhilaa.PFnCranes
open Go.RowKit Go.Proofs.YtbaiiaabanhilaaW.PrintWords Go.Proofs.YtbaiiaabanhilaaW.PrintLast Go.Proofs.YtbaiiaabanhilaaW.PrintMore
attribute [local go_sem] max2_int min2_int max_two min_two max_three min_three max_four min_four   -- for this text's walks alone
set_option linter.unusedVariables false
set_option linter.unusedSimpArgs false

attribute [local go_sem high] eqA34
/-! ### laws_FnCranes: function 3 -/
mutual
def laws_FnCranes.l0 : Nat → List (S34) → Int → List (S31) → List (S34) → Int → Option (Bool)
 | 0, _, _, _, _, _ => none
 | k + 1, x3, x4, x5, x6, x7 => if x7 < (x5.length : Int) then (if 0 ≤ x7 then ((impl_DoMove.f k x6 x4 ((rd_T31 x5 x7).f0) ((rd_T31 x5 x7).f1)).bind fun bt257 => ((impl_CranesOk.f k bt257.1 x4).bind fun t261 => (if t261 = true then (laws_FnCranes.j1 k x3 x4 x5 x6 x7 bt257.1 bt257.2 ((bt257.1.length : Int) != (x6.length : Int))) else (laws_FnCranes.j1 k x3 x4 x5 x6 x7 bt257.1 bt257.2 true)))) else (none)) else ((impl_RunMoves.f k x3 x4 x5).bind fun bt279 => (if (bt279.1.length : Int) = (x6.length : Int) then (laws_FnCranes.l3 k x5 x6 bt279.1 bt279.2 0) else (some false)))
def laws_FnCranes.j1 : Nat → List (S34) → Int → List (S31) → List (S34) → Int → List (S34) → Int → Bool → Option (Bool)
 | 0, _, _, _, _, _, _, _, _ => none
 | k + 1, x3, x4, x5, x6, x7, x8, x9, x52 => if x52 = true then (some false) else (laws_FnCranes.l1 k x3 x4 x5 x6 x7 x8 x9 0)
def laws_FnCranes.l1 : Nat → List (S34) → Int → List (S31) → List (S34) → Int → List (S34) → Int → Int → Option (Bool)
 | 0, _, _, _, _, _, _, _, _ => none
 | k + 1, x3, x4, x5, x6, x7, x8, x9, x10 => if x10 < (x6.length : Int) then (if 0 ≤ x10 then (if x10 < (x8.length : Int) then (if (!(((rd_T34 x8 x10).f0) == ((rd_T34 x6 x10).f0)) || (!(((rd_T34 x8 x10).f1) == ((rd_T34 x6 x10).f1)) || (!(((rd_T34 x8 x10).f2) == ((rd_T34 x6 x10).f2))))) = true then (if x9 = 0 then (if 0 ≤ x7 then (if x7 < (x5.length : Int) then (if x10 = ((rd_T31 x5 x7).f0) then (if ((rd_T34 x8 x10).f0) = ((rd_T31 x5 x7).f1) then (laws_FnCranes.l1 k x3 x4 x5 x6 x7 x8 x9 (wrap64 (x10 + 1))) else (some false)) else (some false)) else (none)) else (none)) else (some false)) else (laws_FnCranes.l1 k x3 x4 x5 x6 x7 x8 x9 (wrap64 (x10 + 1)))) else (none)) else (none)) else (if 0 ≤ x7 then (if x7 < (x5.length : Int) then ((impl_PushMove.f k x6 x4 ((rd_T31 x5 x7).f0) ((rd_T31 x5 x7).f1)).bind fun bt268 => (if (bt268.1.length : Int) = (x6.length : Int) then (if x9 = 0 then (if bt268.2 = true then (if 0 ≤ ((rd_T31 x5 x7).f0) then (if ((rd_T31 x5 x7).f0) < (bt268.1.length : Int) then (if ((rd_T34 bt268.1 ((rd_T31 x5 x7).f0)).f0) = ((rd_T31 x5 x7).f1) then ((impl_CranesOk.f k bt268.1 x4).bind fun t275 => (laws_FnCranes.j3 k x3 x4 x5 x6 x7 x8 x9 bt268.1 (!t275))) else (laws_FnCranes.j3 k x3 x4 x5 x6 x7 x8 x9 bt268.1 true)) else (none)) else (none)) else (laws_FnCranes.j3 k x3 x4 x5 x6 x7 x8 x9 bt268.1 true)) else ((impl_CranesOk.f k bt268.1 x4).bind fun t276 => (laws_FnCranes.j3 k x3 x4 x5 x6 x7 x8 x9 bt268.1 (!t276)))) else (some false))) else (none)) else (none))
def laws_FnCranes.j3 : Nat → List (S34) → Int → List (S31) → List (S34) → Int → List (S34) → Int → List (S34) → Bool → Option (Bool)
 | 0, _, _, _, _, _, _, _, _, _ => none
 | k + 1, x3, x4, x5, x6, x7, x8, x9, x11, x137 => if x137 = true then (some false) else (laws_FnCranes.l2 k x3 x4 x5 x6 x7 x8 x9 x11 0)
def laws_FnCranes.l2 : Nat → List (S34) → Int → List (S31) → List (S34) → Int → List (S34) → Int → List (S34) → Int → Option (Bool)
 | 0, _, _, _, _, _, _, _, _, _ => none
 | k + 1, x3, x4, x5, x6, x7, x8, x9, x11, x13 => if x13 < (x6.length : Int) then (laws_FnCranes.j5 k x3 x4 x5 x6 x7 x8 x9 x11 x13 (x9 == 0)) else (laws_FnCranes.j5 k x3 x4 x5 x6 x7 x8 x9 x11 x13 false)
def laws_FnCranes.j5 : Nat → List (S34) → Int → List (S31) → List (S34) → Int → List (S34) → Int → List (S34) → Int → Bool → Option (Bool)
 | 0, _, _, _, _, _, _, _, _, _, _ => none
 | k + 1, x3, x4, x5, x6, x7, x8, x9, x11, x13, x145 => if x145 = true then (if 0 ≤ x13 then (if x13 < (x11.length : Int) then (if x13 < (x8.length : Int) then (if (!(((rd_T34 x11 x13).f0) == ((rd_T34 x8 x13).f0)) || (!(((rd_T34 x11 x13).f1) == ((rd_T34 x8 x13).f1)) || (!(((rd_T34 x11 x13).f2) == ((rd_T34 x8 x13).f2))))) = true then (some false) else (laws_FnCranes.l2 k x3 x4 x5 x6 x7 x8 x9 x11 (wrap64 (x13 + 1)))) else (none)) else (none)) else (none)) else (laws_FnCranes.l0 k x3 x4 x5 x8 (wrap64 (x7 + 1)))
def laws_FnCranes.l3 : Nat → List (S31) → List (S34) → List (S34) → List Int → Int → Option (Bool)
 | 0, _, _, _, _, _ => none
 | k + 1, x5, x6, x14, x15, x16 => if x16 < (x6.length : Int) then (if 0 ≤ x16 then (if x16 < (x14.length : Int) then (if (!(((rd_T34 x14 x16).f0) == ((rd_T34 x6 x16).f0)) || (!(((rd_T34 x14 x16).f1) == ((rd_T34 x6 x16).f1)) || (!(((rd_T34 x14 x16).f2) == ((rd_T34 x6 x16).f2))))) = true then (some false) else (laws_FnCranes.l3 k x5 x6 x14 x15 (wrap64 (x16 + 1)))) else (none)) else (none)) else (some ((x15.length : Int) == (x5.length : Int)))
end
def laws_FnCranes.f (k : Nat) (l0 : List Int) : Option (Bool) := (laws_big.f l0).bind fun t248 => (if t248 = true then (some true) else ((spec_DrawRail.f k l0).bind fun bt249 => (laws_FnCranes.l0 k bt249.1 bt249.2.1 bt249.2.2 bt249.1 0)))
theorem laws_FnCranes.mono_l : ∀ k, (∀ y0 y1 y2 y3 y4, LeO (laws_FnCranes.l0 k y0 y1 y2 y3 y4) (laws_FnCranes.l0 (k + 1) y0 y1 y2 y3 y4)) ∧ (∀ y0 y1 y2 y3 y4 y5 y6 y7, LeO (laws_FnCranes.j1 k y0 y1 y2 y3 y4 y5 y6 y7) (laws_FnCranes.j1 (k + 1) y0 y1 y2 y3 y4 y5 y6 y7)) ∧ (∀ y0 y1 y2 y3 y4 y5 y6 y7, LeO (laws_FnCranes.l1 k y0 y1 y2 y3 y4 y5 y6 y7) (laws_FnCranes.l1 (k + 1) y0 y1 y2 y3 y4 y5 y6 y7)) ∧ (∀ y0 y1 y2 y3 y4 y5 y6 y7 y8, LeO (laws_FnCranes.j3 k y0 y1 y2 y3 y4 y5 y6 y7 y8) (laws_FnCranes.j3 (k + 1) y0 y1 y2 y3 y4 y5 y6 y7 y8)) ∧ (∀ y0 y1 y2 y3 y4 y5 y6 y7 y8, LeO (laws_FnCranes.l2 k y0 y1 y2 y3 y4 y5 y6 y7 y8) (laws_FnCranes.l2 (k + 1) y0 y1 y2 y3 y4 y5 y6 y7 y8)) ∧ (∀ y0 y1 y2 y3 y4 y5 y6 y7 y8 y9, LeO (laws_FnCranes.j5 k y0 y1 y2 y3 y4 y5 y6 y7 y8 y9) (laws_FnCranes.j5 (k + 1) y0 y1 y2 y3 y4 y5 y6 y7 y8 y9)) ∧ (∀ y0 y1 y2 y3 y4, LeO (laws_FnCranes.l3 k y0 y1 y2 y3 y4) (laws_FnCranes.l3 (k + 1) y0 y1 y2 y3 y4))
 | 0 => ⟨fun _ _ _ _ _ r h => by simp [laws_FnCranes.l0] at h, fun _ _ _ _ _ _ _ _ r h => by simp [laws_FnCranes.j1] at h, fun _ _ _ _ _ _ _ _ r h => by simp [laws_FnCranes.l1] at h, fun _ _ _ _ _ _ _ _ _ r h => by simp [laws_FnCranes.j3] at h, fun _ _ _ _ _ _ _ _ _ r h => by simp [laws_FnCranes.l2] at h, fun _ _ _ _ _ _ _ _ _ _ r h => by simp [laws_FnCranes.j5] at h, fun _ _ _ _ _ r h => by simp [laws_FnCranes.l3] at h⟩
 | k + 1 => by
  obtain ⟨ih0, ih1, ih2, ih3, ih4, ih5, ih6⟩ := laws_FnCranes.mono_l k
  refine ⟨?_, ?_, ?_, ?_, ?_, ?_, ?_⟩
  ·intro y0 y1 y2 y3 y4
   unfold laws_FnCranes.l0
   repeat' first
   | (with_reducible exact ih0 _ _ _ _ _)
   | (with_reducible exact ih1 _ _ _ _ _ _ _ _)
   | (with_reducible exact ih2 _ _ _ _ _ _ _ _)
   | (with_reducible exact ih3 _ _ _ _ _ _ _ _ _)
   | (with_reducible exact ih4 _ _ _ _ _ _ _ _ _)
   | (with_reducible exact ih5 _ _ _ _ _ _ _ _ _ _)
   | (with_reducible exact ih6 _ _ _ _ _)
   | (with_reducible exact impl_CranesOk.mono _ _ _)
   | (with_reducible exact impl_DoMove.mono _ _ _ _ _)
   | (with_reducible exact impl_PushMove.mono _ _ _ _ _)
   | (with_reducible exact impl_RunMoves.mono _ _ _ _)
   | (with_reducible exact spec_DrawRail.mono _ _)
   | (with_reducible exact LeO.refl _)
   | (with_reducible exact LeO.none _)
   | (with_reducible refine LeO.ite ?_ ?_)
   | (with_reducible refine LeO.bind ?_ (fun _ => ?_))
   | exact ih0 _ _ _ _ _
   | exact ih1 _ _ _ _ _ _ _ _
   | exact ih2 _ _ _ _ _ _ _ _
   | exact ih3 _ _ _ _ _ _ _ _ _
   | exact ih4 _ _ _ _ _ _ _ _ _
   | exact ih5 _ _ _ _ _ _ _ _ _ _
   | exact ih6 _ _ _ _ _
   | exact impl_CranesOk.mono _ _ _
   | exact impl_DoMove.mono _ _ _ _ _
   | exact impl_PushMove.mono _ _ _ _ _
   | exact impl_RunMoves.mono _ _ _ _
   | exact spec_DrawRail.mono _ _
   | exact LeO.none _
   | refine LeO.ite ?_ ?_
   | refine LeO.bind ?_ (fun _ => ?_)
  ·intro y0 y1 y2 y3 y4 y5 y6 y7
   unfold laws_FnCranes.j1
   repeat' first
   | (with_reducible exact ih0 _ _ _ _ _)
   | (with_reducible exact ih1 _ _ _ _ _ _ _ _)
   | (with_reducible exact ih2 _ _ _ _ _ _ _ _)
   | (with_reducible exact ih3 _ _ _ _ _ _ _ _ _)
   | (with_reducible exact ih4 _ _ _ _ _ _ _ _ _)
   | (with_reducible exact ih5 _ _ _ _ _ _ _ _ _ _)
   | (with_reducible exact ih6 _ _ _ _ _)
   | (with_reducible exact impl_CranesOk.mono _ _ _)
   | (with_reducible exact impl_DoMove.mono _ _ _ _ _)
   | (with_reducible exact impl_PushMove.mono _ _ _ _ _)
   | (with_reducible exact impl_RunMoves.mono _ _ _ _)
   | (with_reducible exact spec_DrawRail.mono _ _)
   | (with_reducible exact LeO.refl _)
   | (with_reducible exact LeO.none _)
   | (with_reducible refine LeO.ite ?_ ?_)
   | (with_reducible refine LeO.bind ?_ (fun _ => ?_))
   | exact ih0 _ _ _ _ _
   | exact ih1 _ _ _ _ _ _ _ _
   | exact ih2 _ _ _ _ _ _ _ _
   | exact ih3 _ _ _ _ _ _ _ _ _
   | exact ih4 _ _ _ _ _ _ _ _ _
   | exact ih5 _ _ _ _ _ _ _ _ _ _
   | exact ih6 _ _ _ _ _
   | exact impl_CranesOk.mono _ _ _
   | exact impl_DoMove.mono _ _ _ _ _
   | exact impl_PushMove.mono _ _ _ _ _
   | exact impl_RunMoves.mono _ _ _ _
   | exact spec_DrawRail.mono _ _
   | exact LeO.none _
   | refine LeO.ite ?_ ?_
   | refine LeO.bind ?_ (fun _ => ?_)
  ·intro y0 y1 y2 y3 y4 y5 y6 y7
   unfold laws_FnCranes.l1
   repeat' first
   | (with_reducible exact ih0 _ _ _ _ _)
   | (with_reducible exact ih1 _ _ _ _ _ _ _ _)
   | (with_reducible exact ih2 _ _ _ _ _ _ _ _)
   | (with_reducible exact ih3 _ _ _ _ _ _ _ _ _)
   | (with_reducible exact ih4 _ _ _ _ _ _ _ _ _)
   | (with_reducible exact ih5 _ _ _ _ _ _ _ _ _ _)
   | (with_reducible exact ih6 _ _ _ _ _)
   | (with_reducible exact impl_CranesOk.mono _ _ _)
   | (with_reducible exact impl_DoMove.mono _ _ _ _ _)
   | (with_reducible exact impl_PushMove.mono _ _ _ _ _)
   | (with_reducible exact impl_RunMoves.mono _ _ _ _)
   | (with_reducible exact spec_DrawRail.mono _ _)
   | (with_reducible exact LeO.refl _)
   | (with_reducible exact LeO.none _)
   | (with_reducible refine LeO.ite ?_ ?_)
   | (with_reducible refine LeO.bind ?_ (fun _ => ?_))
   | exact ih0 _ _ _ _ _
   | exact ih1 _ _ _ _ _ _ _ _
   | exact ih2 _ _ _ _ _ _ _ _
   | exact ih3 _ _ _ _ _ _ _ _ _
   | exact ih4 _ _ _ _ _ _ _ _ _
   | exact ih5 _ _ _ _ _ _ _ _ _ _
   | exact ih6 _ _ _ _ _
   | exact impl_CranesOk.mono _ _ _
   | exact impl_DoMove.mono _ _ _ _ _
   | exact impl_PushMove.mono _ _ _ _ _
   | exact impl_RunMoves.mono _ _ _ _
   | exact spec_DrawRail.mono _ _
   | exact LeO.none _
   | refine LeO.ite ?_ ?_
   | refine LeO.bind ?_ (fun _ => ?_)
  ·intro y0 y1 y2 y3 y4 y5 y6 y7 y8
   unfold laws_FnCranes.j3
   repeat' first
   | (with_reducible exact ih0 _ _ _ _ _)
   | (with_reducible exact ih1 _ _ _ _ _ _ _ _)
   | (with_reducible exact ih2 _ _ _ _ _ _ _ _)
   | (with_reducible exact ih3 _ _ _ _ _ _ _ _ _)
   | (with_reducible exact ih4 _ _ _ _ _ _ _ _ _)
   | (with_reducible exact ih5 _ _ _ _ _ _ _ _ _ _)
   | (with_reducible exact ih6 _ _ _ _ _)
   | (with_reducible exact impl_CranesOk.mono _ _ _)
   | (with_reducible exact impl_DoMove.mono _ _ _ _ _)
   | (with_reducible exact impl_PushMove.mono _ _ _ _ _)
   | (with_reducible exact impl_RunMoves.mono _ _ _ _)
   | (with_reducible exact spec_DrawRail.mono _ _)
   | (with_reducible exact LeO.refl _)
   | (with_reducible exact LeO.none _)
   | (with_reducible refine LeO.ite ?_ ?_)
   | (with_reducible refine LeO.bind ?_ (fun _ => ?_))
   | exact ih0 _ _ _ _ _
   | exact ih1 _ _ _ _ _ _ _ _
   | exact ih2 _ _ _ _ _ _ _ _
   | exact ih3 _ _ _ _ _ _ _ _ _
   | exact ih4 _ _ _ _ _ _ _ _ _
   | exact ih5 _ _ _ _ _ _ _ _ _ _
   | exact ih6 _ _ _ _ _
   | exact impl_CranesOk.mono _ _ _
   | exact impl_DoMove.mono _ _ _ _ _
   | exact impl_PushMove.mono _ _ _ _ _
   | exact impl_RunMoves.mono _ _ _ _
   | exact spec_DrawRail.mono _ _
   | exact LeO.none _
   | refine LeO.ite ?_ ?_
   | refine LeO.bind ?_ (fun _ => ?_)
  ·intro y0 y1 y2 y3 y4 y5 y6 y7 y8
   unfold laws_FnCranes.l2
   repeat' first
   | (with_reducible exact ih0 _ _ _ _ _)
   | (with_reducible exact ih1 _ _ _ _ _ _ _ _)
   | (with_reducible exact ih2 _ _ _ _ _ _ _ _)
   | (with_reducible exact ih3 _ _ _ _ _ _ _ _ _)
   | (with_reducible exact ih4 _ _ _ _ _ _ _ _ _)
   | (with_reducible exact ih5 _ _ _ _ _ _ _ _ _ _)
   | (with_reducible exact ih6 _ _ _ _ _)
   | (with_reducible exact impl_CranesOk.mono _ _ _)
   | (with_reducible exact impl_DoMove.mono _ _ _ _ _)
   | (with_reducible exact impl_PushMove.mono _ _ _ _ _)
   | (with_reducible exact impl_RunMoves.mono _ _ _ _)
   | (with_reducible exact spec_DrawRail.mono _ _)
   | (with_reducible exact LeO.refl _)
   | (with_reducible exact LeO.none _)
   | (with_reducible refine LeO.ite ?_ ?_)
   | (with_reducible refine LeO.bind ?_ (fun _ => ?_))
   | exact ih0 _ _ _ _ _
   | exact ih1 _ _ _ _ _ _ _ _
   | exact ih2 _ _ _ _ _ _ _ _
   | exact ih3 _ _ _ _ _ _ _ _ _
   | exact ih4 _ _ _ _ _ _ _ _ _
   | exact ih5 _ _ _ _ _ _ _ _ _ _
   | exact ih6 _ _ _ _ _
   | exact impl_CranesOk.mono _ _ _
   | exact impl_DoMove.mono _ _ _ _ _
   | exact impl_PushMove.mono _ _ _ _ _
   | exact impl_RunMoves.mono _ _ _ _
   | exact spec_DrawRail.mono _ _
   | exact LeO.none _
   | refine LeO.ite ?_ ?_
   | refine LeO.bind ?_ (fun _ => ?_)
  ·intro y0 y1 y2 y3 y4 y5 y6 y7 y8 y9
   unfold laws_FnCranes.j5
   repeat' first
   | (with_reducible exact ih0 _ _ _ _ _)
   | (with_reducible exact ih1 _ _ _ _ _ _ _ _)
   | (with_reducible exact ih2 _ _ _ _ _ _ _ _)
   | (with_reducible exact ih3 _ _ _ _ _ _ _ _ _)
   | (with_reducible exact ih4 _ _ _ _ _ _ _ _ _)
   | (with_reducible exact ih5 _ _ _ _ _ _ _ _ _ _)
   | (with_reducible exact ih6 _ _ _ _ _)
   | (with_reducible exact impl_CranesOk.mono _ _ _)
   | (with_reducible exact impl_DoMove.mono _ _ _ _ _)
   | (with_reducible exact impl_PushMove.mono _ _ _ _ _)
   | (with_reducible exact impl_RunMoves.mono _ _ _ _)
   | (with_reducible exact spec_DrawRail.mono _ _)
   | (with_reducible exact LeO.refl _)
   | (with_reducible exact LeO.none _)
   | (with_reducible refine LeO.ite ?_ ?_)
   | (with_reducible refine LeO.bind ?_ (fun _ => ?_))
   | exact ih0 _ _ _ _ _
   | exact ih1 _ _ _ _ _ _ _ _
   | exact ih2 _ _ _ _ _ _ _ _
   | exact ih3 _ _ _ _ _ _ _ _ _
   | exact ih4 _ _ _ _ _ _ _ _ _
   | exact ih5 _ _ _ _ _ _ _ _ _ _
   | exact ih6 _ _ _ _ _
   | exact impl_CranesOk.mono _ _ _
   | exact impl_DoMove.mono _ _ _ _ _
   | exact impl_PushMove.mono _ _ _ _ _
   | exact impl_RunMoves.mono _ _ _ _
   | exact spec_DrawRail.mono _ _
   | exact LeO.none _
   | refine LeO.ite ?_ ?_
   | refine LeO.bind ?_ (fun _ => ?_)
  ·intro y0 y1 y2 y3 y4
   unfold laws_FnCranes.l3
   repeat' first
   | (with_reducible exact ih0 _ _ _ _ _)
   | (with_reducible exact ih1 _ _ _ _ _ _ _ _)
   | (with_reducible exact ih2 _ _ _ _ _ _ _ _)
   | (with_reducible exact ih3 _ _ _ _ _ _ _ _ _)
   | (with_reducible exact ih4 _ _ _ _ _ _ _ _ _)
   | (with_reducible exact ih5 _ _ _ _ _ _ _ _ _ _)
   | (with_reducible exact ih6 _ _ _ _ _)
   | (with_reducible exact impl_CranesOk.mono _ _ _)
   | (with_reducible exact impl_DoMove.mono _ _ _ _ _)
   | (with_reducible exact impl_PushMove.mono _ _ _ _ _)
   | (with_reducible exact impl_RunMoves.mono _ _ _ _)
   | (with_reducible exact spec_DrawRail.mono _ _)
   | (with_reducible exact LeO.refl _)
   | (with_reducible exact LeO.none _)
   | (with_reducible refine LeO.ite ?_ ?_)
   | (with_reducible refine LeO.bind ?_ (fun _ => ?_))
   | exact ih0 _ _ _ _ _
   | exact ih1 _ _ _ _ _ _ _ _
   | exact ih2 _ _ _ _ _ _ _ _
   | exact ih3 _ _ _ _ _ _ _ _ _
   | exact ih4 _ _ _ _ _ _ _ _ _
   | exact ih5 _ _ _ _ _ _ _ _ _ _
   | exact ih6 _ _ _ _ _
   | exact impl_CranesOk.mono _ _ _
   | exact impl_DoMove.mono _ _ _ _ _
   | exact impl_PushMove.mono _ _ _ _ _
   | exact impl_RunMoves.mono _ _ _ _
   | exact spec_DrawRail.mono _ _
   | exact LeO.none _
   | refine LeO.ite ?_ ?_
   | refine LeO.bind ?_ (fun _ => ?_)
theorem laws_FnCranes.mono : ∀ a0 k, LeO (laws_FnCranes.f k a0) (laws_FnCranes.f (k + 1) a0) := by
 intro a0 k
 obtain ⟨ih0, ih1, ih2, ih3, ih4, ih5, ih6⟩ := laws_FnCranes.mono_l k
 unfold laws_FnCranes.f
 repeat' first
   | (with_reducible exact ih0 _ _ _ _ _)
   | (with_reducible exact ih1 _ _ _ _ _ _ _ _)
   | (with_reducible exact ih2 _ _ _ _ _ _ _ _)
   | (with_reducible exact ih3 _ _ _ _ _ _ _ _ _)
   | (with_reducible exact ih4 _ _ _ _ _ _ _ _ _)
   | (with_reducible exact ih5 _ _ _ _ _ _ _ _ _ _)
   | (with_reducible exact ih6 _ _ _ _ _)
   | (with_reducible exact impl_CranesOk.mono _ _ _)
   | (with_reducible exact impl_DoMove.mono _ _ _ _ _)
   | (with_reducible exact impl_PushMove.mono _ _ _ _ _)
   | (with_reducible exact impl_RunMoves.mono _ _ _ _)
   | (with_reducible exact spec_DrawRail.mono _ _)
   | (with_reducible exact LeO.refl _)
   | (with_reducible exact LeO.none _)
   | (with_reducible refine LeO.ite ?_ ?_)
   | (with_reducible refine LeO.bind ?_ (fun _ => ?_))
   | exact ih0 _ _ _ _ _
   | exact ih1 _ _ _ _ _ _ _ _
   | exact ih2 _ _ _ _ _ _ _ _
   | exact ih3 _ _ _ _ _ _ _ _ _
   | exact ih4 _ _ _ _ _ _ _ _ _
   | exact ih5 _ _ _ _ _ _ _ _ _ _
   | exact ih6 _ _ _ _ _
   | exact impl_CranesOk.mono _ _ _
   | exact impl_DoMove.mono _ _ _ _ _
   | exact impl_PushMove.mono _ _ _ _ _
   | exact impl_RunMoves.mono _ _ _ _
   | exact spec_DrawRail.mono _ _
   | exact LeO.none _
   | refine LeO.ite ?_ ?_
   | refine LeO.bind ?_ (fun _ => ?_)
def laws_FnCranes.T14 : Bool × List (List Nat × List Nat) := (true, [([], []), ([], []), ([0, 1], [0, 1]), ([2], [2]), ([], []), ([], []), ([4, 5], [4, 5]), ([6], [6]), ([3, 7], [3, 7]), ([8], [8]), ([9], [9]), ([10, 9], [9, 10]), ([11, 9, 9], [9, 11]), ([12], [12]), ([12], [12]), ([12], [12]), ([14, 15, 12], [12, 14, 15]), ([16, 12], [12, 16]), ([17, 12], [12, 17]), ([13, 18, 12], [12, 13, 18]), ([12, 19, 9], [9, 12, 19]), ([20, 12, 9], [9, 20]), ([21], [21]), ([21], [21]), ([22, 23, 21], [21, 22, 23]), ([24, 21], [21, 24]), ([25, 21], [21, 25]), ([21], [21]), ([21], [21]), ([27, 28, 21], [21, 27, 28]), ([29, 21], [21, 29]), ([30, 21], [21, 30]), ([26, 31, 21], [21, 26, 31]), ([21, 32, 9], [9, 21, 32]), ([9, 33], [9, 33])])
def laws_FnCranes.B14 : List Nat := [0, 0, 3, 7, 0, 0, 48, 112, 255, 511, 1023, 2047, 4095, 8191, 8191, 8191, 57343, 122879, 253951, 524287, 1048575, 2097151, 4194303, 4194303, 16777215, 33554431, 67108863, 4194303, 4194303, 406847487, 943718399, 2017460223, 4294967295, 8589934591, 17179869183]
theorem laws_FnCranes.tab14 : rtab .any (opsOf Try.f3 14) = laws_FnCranes.T14 := by kernel_rfl
theorem laws_FnCranes.bits14 : waitsOk laws_FnCranes.T14.2 laws_FnCranes.B14 = true := by kernel_rfl
def laws_FnCranes.T19 : Bool × List (List Nat × List Nat) := (true, [([], []), ([0], [0]), ([1], [1]), ([2], [2]), ([3, 2], [2, 3]), ([4, 2, 2], [2, 4]), ([5], [5]), ([5], [5]), ([5], [5]), ([7, 8, 5], [5, 7, 8]), ([9, 5], [5, 9]), ([10, 5], [5, 10]), ([6, 11, 5], [5, 6, 11]), ([12, 5], [5, 12]), ([13, 5], [5, 13]), ([5], [5]), ([5], [5]), ([15, 16, 5], [5, 15, 16]), ([17, 5], [5, 17]), ([18, 5], [5, 18]), ([14, 19, 5], [5, 14, 19]), ([5, 20, 2], [2, 5, 20]), ([2, 21], [2, 21]), ([22, 5], [22]), ([23], [23]), ([23], [23]), ([24, 25, 23, 23], [23, 24, 25]), ([26, 23], [23, 26]), ([23, 27], [23, 27])])
def laws_FnCranes.B19 : List Nat := [0, 1, 3, 7, 15, 31, 63, 63, 63, 447, 959, 1983, 4095, 8191, 16383, 63, 63, 98367, 229439, 491583, 1048575, 2097151, 4194303, 8388607, 16777215, 16777215, 67108863, 134217727, 268435455]
theorem laws_FnCranes.tab19 : rtab .any (opsOf Try.f3 19) = laws_FnCranes.T19 := by kernel_rfl
theorem laws_FnCranes.bits19 : waitsOk laws_FnCranes.T19.2 laws_FnCranes.B19 = true := by kernel_rfl
def laws_FnCranes.T24 : Bool × List (List Nat × List Nat) := (true, [([], []), ([], []), ([0, 1], [0, 1]), ([2], [2]), ([], []), ([], []), ([4, 5], [4, 5]), ([6], [6]), ([3, 7], [3, 7])])
def laws_FnCranes.B24 : List Nat := [0, 0, 3, 7, 0, 0, 48, 112, 255]
theorem laws_FnCranes.tab24 : rtab .any (opsOf Try.f3 24) = laws_FnCranes.T24 := by kernel_rfl
theorem laws_FnCranes.bits24 : waitsOk laws_FnCranes.T24.2 laws_FnCranes.B24 = true := by kernel_rfl
def laws_FnCranes.T33 : Bool × List (List Nat × List Nat) := (true, [([], []), ([], []), ([0, 1], [0, 1]), ([2], [2]), ([], []), ([], []), ([4, 5], [4, 5]), ([6], [6]), ([3, 7], [3, 7])])
def laws_FnCranes.B33 : List Nat := [0, 0, 3, 7, 0, 0, 48, 112, 255]
theorem laws_FnCranes.tab33 : rtab .any (opsOf Try.f3 33) = laws_FnCranes.T33 := by kernel_rfl
theorem laws_FnCranes.bits33 : waitsOk laws_FnCranes.T33.2 laws_FnCranes.B33 = true := by kernel_rfl
set_option maxHeartbeats 8000000 in
set_option maxRecDepth 100000 in
theorem laws_FnCranes.calls (k : Nat) (A0 : Option Addr) (c0 : Nat) (l0 : List Int) (r : Bool) (w : World) (hr0 : Kd.C (Kd.int .u8) w A0 l0.length l0) (hc0 : l0.length ≤ c0) (h : laws_FnCranes.f k l0 = some r) :
  Calls Try.prog 3 #[.slice A0 l0.length c0] w fun e w' => e = .returned (.bool r) ∧ Below w.heap.size w w' := by
 have hu31 := Try.underlying31
 have hu34 := Try.underlying34
 have HR0 := Aside0.mk hr0
 have HC0 := Aside0.mk hc0
 clear hr0 hc0
 have HB := Aside0.mk (Below.refl w.heap.size w)
 have H : ((laws_big.f l0).bind fun t248 => (if t248 = true then (some true) else ((spec_DrawRail.f k l0).bind fun bt249 => (laws_FnCranes.l0 k bt249.1 bt249.2.1 bt249.2.2 bt249.1 0)))) = some r := h
 clear h
 replace H := Option.bind_eq_some_iff.mp H
 obtain ⟨t248, A20, H⟩ := H
 replace H : (if t248 = true then (some true) else ((spec_DrawRail.f k l0).bind fun bt249 => (laws_FnCranes.l0 k bt249.1 bt249.2.1 bt249.2.2 bt249.1 0))) = some r := H
 have A2 := Aside0.mk A20
 clear A20
 by_cases c3 : t248 = true
 ·subst c3
  have H1 : (some true) = some r := by rw [if_pos rfl] at H; exact H
  clear H
  have H := H1
  clear H1
  obtain rfl := Option.some.inj H
  go_enter Try.func3, Try.ntmps3
  go_wp2_with (first | ((with_reducible refine gate_callee (f := 7) rfl ?_); refine goesL_ (some 18) rfl rfl Try.func7 (by kernel_rfl) rfl #[.slice A0 l0.length c0] rfl (by (try simp only [List.map_toArray, List.map_cons, List.map_nil]); first | done | rfl | (simp only [List.length_drop, List.length_take]; rfl)) ?_; (with_reducible refine (laws_big.calls _ _ l0 true _ ?side1 ?side2 A2.out).mono ?_); (case side1 => repeat (first | exact HR0.out | (with_reducible refine Kd.C_alloc ?_ _) | (with_reducible refine Kd.C_drewN ?_ _) | (with_reducible refine Kd.C_drew ?_))); (case side2 => exact HC0.out); rintro e w' ⟨rfl, ⟨nd, rfl⟩⟩; refine ⟨_, rfl, ?_⟩))
  go_ret
  exact ⟨by first | rfl | (simp [errW_none, errW_some] <;> rfl) | (simp [*, errW_none, errW_some] <;> rfl), bel_ HB.out⟩
 ·replace c3 := Bool.eq_false_iff.mpr c3
  subst c3
  have H1 : ((spec_DrawRail.f k l0).bind fun bt249 => (laws_FnCranes.l0 k bt249.1 bt249.2.1 bt249.2.2 bt249.1 0)) = some r := by rw [if_neg (show ¬ (false = true) by decide)] at H; exact H
  clear H
  have H := H1
  clear H1
  replace H := Option.bind_eq_some_iff.mp H
  obtain ⟨⟨t249, t250, t251⟩, A40, H⟩ := H
  replace H : (laws_FnCranes.l0 k t249 t250 t251 t249 0) = some r := H
  have A4 := Aside0.mk A40
  clear A40
  have H' := Aside0.mk H
  clear H
  go_enter Try.func3, Try.ntmps3
  go_wp2_with (first | ((with_reducible refine gate_callee (f := 7) rfl ?_); refine goesL_ (some 18) rfl rfl Try.func7 (by kernel_rfl) rfl #[.slice A0 l0.length c0] rfl (by (try simp only [List.map_toArray, List.map_cons, List.map_nil]); first | done | rfl | (simp only [List.length_drop, List.length_take]; rfl)) ?_; (with_reducible refine (laws_big.calls _ _ l0 false _ ?side1 ?side2 A2.out).mono ?_); (case side1 => repeat (first | exact HR0.out | (with_reducible refine Kd.C_alloc ?_ _) | (with_reducible refine Kd.C_drewN ?_ _) | (with_reducible refine Kd.C_drew ?_))); (case side2 => exact HC0.out); rintro e w' ⟨rfl, ⟨nd, rfl⟩⟩; refine ⟨_, rfl, ?_⟩) | ((with_reducible refine gate_callee (f := 8) rfl ?_); refine goesL_ (some 21) rfl rfl Try.func8 (by kernel_rfl) rfl #[.slice A0 l0.length c0] rfl (by (try simp only [List.map_toArray, List.map_cons, List.map_nil]); first | done | rfl | (simp only [List.length_drop, List.length_take]; rfl)) ?_; (with_reducible refine (spec_DrawRail.calls k _ _ l0 t249 t250 t251 _ ?side1 ?side2 A4.out).mono ?_); (case side1 => repeat (first | exact HR0.out | (with_reducible refine Kd.C_alloc ?_ _) | (with_reducible refine Kd.C_drewN ?_ _) | (with_reducible refine Kd.C_drew ?_))); (case side2 => exact HC0.out); rintro e w5 ⟨v252, v254, rfl, ho0, ho1, hb⟩; refine ⟨_, rfl, ?_⟩; have n0_ := Aside0.mk (Kd.R_lower ho0 (below_size (bel_ HB.out))); have n1_ := Aside0.mk (Kd.R_lower ho1 (below_size (bel_ HB.out))); have n2_ := Aside0.mk (below_step (bel_ HB.out) hb); clear HB; have HO253 := n0_; have HO255 := n1_; have HB := n2_; clear n0_ n1_ n2_; (try clear hb); (try clear hb2); (try clear hk); (try clear hi); (try clear ho0); (try clear ho1)))
  go_loopg [6, 7] k (fun kq v6 v7 w' => ∃ (x6_1 : List (S34)) (x7_1 : Int), v7 = .int .i64 x7_1 ∧ Aside0 (laws_FnCranes.l0 kq t249 t250 t251 x6_1 x7_1 = some r) ∧ Aside0 (kq ≤ k) ∧ Aside0 (Kd.R k34 34 w' w.heap.size (fun _ => True) v252 t249) ∧ Aside0 (Kd.R k31 31 w' w.heap.size (fun _ => True) v254 t251) ∧ Aside0 (Kd.R k34 34 w' w.heap.size (fun _ => True) v6 x6_1) ∧ Aside0 (Below w.heap.size w w'))
  case atStart => exact ⟨(t249), (0), (by first | rfl | (simp; done) | (simp [*]; done) | (simp [wrap64]; done)), H', ⟨Nat.le_refl _⟩, ⟨by (with_reducible repeat (first | apply Kd.R_alloc | apply Kd.R_drewN | apply Kd.R_drew)); exact HO253.out⟩, ⟨by (with_reducible repeat (first | apply Kd.R_alloc | apply Kd.R_drewN | apply Kd.R_drew)); exact HO255.out⟩, ⟨by (with_reducible repeat (first | apply Kd.R_alloc | apply Kd.R_drewN | apply Kd.R_drew)); exact HO253.out⟩, ⟨bel_ HB.out⟩⟩
  case round =>
   clear H'
   try clear c3
   obtain ⟨x6_1, x7_1, rfl, HA, HK1, HO_3, HO_5, HO_6, HB⟩ := hrel
   cases gk with
   | zero => exact absurd HA.out (by simp [laws_FnCranes.l0])
   | succ k1 =>
    have H := HA.out
    clear HA
    simp only [laws_FnCranes.l0] at H
    by_cases c6 : x7_1 < (t251.length : Int)
    ·rw [if_pos c6] at H
     have c6b0 : decide (x7_1 < (t251.length : Int)) = true := decide_eq_true c6
     clear c6
     by_cases c7 : 0 ≤ x7_1
     ·rw [if_pos c7] at H
      have c7b0 : decide (0 ≤ x7_1) = true := decide_eq_true c7
      clear c7
      replace H := Option.bind_eq_some_iff.mp H
      obtain ⟨⟨t257, t260⟩, A80, H⟩ := H
      replace H : ((impl_CranesOk.f k1 t257 t250).bind fun t261 => (if t261 = true then (laws_FnCranes.j1 k1 t249 t250 t251 x6_1 x7_1 t257 t260 ((t257.length : Int) != (x6_1.length : Int))) else (laws_FnCranes.j1 k1 t249 t250 t251 x6_1 x7_1 t257 t260 true))) = some r := H
      have A8 := Aside0.mk A80
      clear A80
      have HC9 := Aside0.mk H
      clear H
      obtain ⟨Ao10, co10, eo10⟩ := Kd.R_slice HO_5.out
      subst eo10
      have p256 : 0 ≤ (x7_1 : Int) := of_decide_eq_true (by first | (with_reducible assumption) | assumption)
      have q256 : x7_1 < (t251.length : Int) := of_decide_eq_true (by first | (with_reducible assumption) | assumption)
      obtain ⟨ad256, e256, hx256_0, hx256_1⟩ := at_T31 (Kd.R_reads' HO_5.out).2.2 x7_1 p256 q256
      cases e256
      replace p256 := eq_true p256
      replace q256 := eq_true q256
      obtain ⟨Ao11, co11, eo11⟩ := Kd.R_slice HO_6.out
      subst eo11
      go_upto_region 9 with (first | ((with_reducible refine gate_callee (f := 9) rfl ?_); refine goesL_ (some 39) rfl rfl Try.func9 (by kernel_rfl) rfl #[.slice Ao11 x6_1.length co11, .int .i64 t250, .agg #[.int .i64 ((rd_T31 t251 x7_1).f0), .int .i64 ((rd_T31 t251 x7_1).f1)]] rfl (by (try simp only [List.map_toArray, List.map_cons, List.map_nil]); first | done | rfl | (simp only [List.length_drop, List.length_take]; rfl)) ?_; (with_reducible refine (impl_DoMove.calls k1 _ _ x6_1 t250 ((rd_T31 t251 x7_1).f0) ((rd_T31 t251 x7_1).f1) t257 t260 _ ?side1 ?side2 A8.out).mono ?_); (case side1 => repeat (first | exact (Kd.R_reads' HO_6.out).2.2 | (with_reducible refine Kd.C_alloc ?_ _) | (with_reducible refine Kd.C_drewN ?_ _) | (with_reducible refine Kd.C_drew ?_))); (case side2 => exact (Kd.R_reads' HO_6.out).2.1); rintro e w12 ⟨v258, rfl, ho0, hb⟩; refine ⟨_, rfl, ?_⟩; have n0_ := Aside0.mk (Kd.R_elder' (fr_ HO_3.out) (Kd.R_base ho0) hb); have n1_ := Aside0.mk (Kd.R_below (fr_ HO_5.out) hb); have n2_ := Aside0.mk (Kd.R_elder' (fr_ HO_6.out) (Kd.R_base ho0) hb); have n3_ := Aside0.mk (Kd.R_lower (Kd.R_new' (Kd.R_new' ho0 (Kd.R_lt (fr_ HO_3.out))) (Kd.R_lt (fr_ HO_6.out))) (below_size (bel_ HB.out))); have n4_ := Aside0.mk (below_step (bel_ HB.out) hb); clear HO_3; clear HO_5; clear HO_6; clear HB; have HO_3 := n0_; have HO_5 := n1_; have HO_6 := n2_; have HO259 := n3_; have HB := n4_; clear n0_ n1_ n2_ n3_ n4_; (try clear hb); (try clear hb2); (try clear hk); (try clear hi); (try clear ho0)))
      (try simp only [Act.put, sA_, sZ_, sS_])
      go_cut [52] (fun v52 wc => ∃ (kq : Nat) (x52_8 : Bool), v52 = .bool x52_8 ∧ Aside0 (laws_FnCranes.j1 kq t249 t250 t251 x6_1 x7_1 t257 t260 x52_8 = some r) ∧ Aside0 (kq ≤ k1) ∧ Aside0 (Kd.R k34 34 wc w.heap.size (fun k_ => some k_ ≠ (v258 : Value).ownBlock) v252 t249) ∧ Aside0 (Kd.R k31 31 wc w.heap.size (fun _ => True) (.slice (some ad256) t251.length co10) t251) ∧ Aside0 (Kd.R k34 34 wc w.heap.size (fun k_ => some k_ ≠ (v258 : Value).ownBlock) (.slice Ao11 x6_1.length co11) x6_1) ∧ Aside0 (Kd.R k34 34 wc w.heap.size (fun k_ => some k_ ≠ (v252 : Value).ownBlock ∧ some k_ ≠ ((.slice Ao11 x6_1.length co11) : Value).ownBlock) v258 t257) ∧ Aside0 (Below w.heap.size w wc))
      case first =>
       have H := HC9.out
       clear HC9
       replace H := Option.bind_eq_some_iff.mp H
       obtain ⟨t261, A130, H⟩ := H
       replace H : (if t261 = true then (laws_FnCranes.j1 k1 t249 t250 t251 x6_1 x7_1 t257 t260 ((t257.length : Int) != (x6_1.length : Int))) else (laws_FnCranes.j1 k1 t249 t250 t251 x6_1 x7_1 t257 t260 true)) = some r := H
       have A13 := Aside0.mk A130
       clear A130
       by_cases c14 : t261 = true
       ·subst c14
        have H1 : (laws_FnCranes.j1 k1 t249 t250 t251 x6_1 x7_1 t257 t260 ((t257.length : Int) != (x6_1.length : Int))) = some r := by rw [if_pos rfl] at H; exact H
        clear H
        have H := H1
        clear H1
        have H' := Aside0.mk H
        clear H
        obtain ⟨Ao15, co15, eo15⟩ := Kd.R_slice HO259.out
        subst eo15
        go_wp2_with (first | ((with_reducible refine gate_callee (f := 10) rfl ?_); refine goesL_ (some 44) rfl rfl Try.func10 (by kernel_rfl) rfl #[.slice Ao15 t257.length co15, .int .i64 t250] rfl (by (try simp only [List.map_toArray, List.map_cons, List.map_nil]); first | done | rfl | (simp only [List.length_drop, List.length_take]; rfl)) ?_; (with_reducible refine (impl_CranesOk.calls k1 _ _ t257 t250 true _ ?side1 ?side2 A13.out).mono ?_); (case side1 => repeat (first | exact (Kd.R_reads' HO259.out).2.2 | (with_reducible refine Kd.C_alloc ?_ _) | (with_reducible refine Kd.C_drewN ?_ _) | (with_reducible refine Kd.C_drew ?_))); (case side2 => exact (Kd.R_reads' HO259.out).2.1); rintro e w16 ⟨rfl, hb⟩; refine ⟨_, rfl, ?_⟩; have n0_ := Aside0.mk (Kd.R_below (fr_ HO_3.out) hb); have n1_ := Aside0.mk (Kd.R_below (fr_ HO_5.out) hb); have n2_ := Aside0.mk (Kd.R_below (fr_ HO_6.out) hb); have n3_ := Aside0.mk (Kd.R_below (fr_ HO259.out) hb); have n4_ := Aside0.mk (below_step (bel_ HB.out) hb); clear HO_3; clear HO_5; clear HO_6; clear HO259; clear HB; have HO_3 := n0_; have HO_5 := n1_; have HO_6 := n2_; have HO259 := n3_; have HB := n4_; clear n0_ n1_ n2_ n3_ n4_; (try clear hb); (try clear hb2); (try clear hk); (try clear hi)))
        go_meet
        case rel => exact ⟨_, (((t257.length : Int) != (x6_1.length : Int))), (by first | rfl | (simp; done) | (simp [*]; done) | (simp [wrap64]; done)), H', ⟨by have := HK1.out; first | omega | exact Nat.le_refl _⟩, ⟨by (with_reducible repeat (first | apply Kd.R_alloc | apply Kd.R_drewN | apply Kd.R_drew)); exact Kd.R_mono HO_3.out (fun _ hk => hk.2)⟩, ⟨by (with_reducible repeat (first | apply Kd.R_alloc | apply Kd.R_drewN | apply Kd.R_drew)); exact HO_5.out⟩, ⟨by (with_reducible repeat (first | apply Kd.R_alloc | apply Kd.R_drewN | apply Kd.R_drew)); exact Kd.R_mono HO_6.out (fun _ hk => hk.2)⟩, ⟨by (with_reducible repeat (first | apply Kd.R_alloc | apply Kd.R_drewN | apply Kd.R_drew)); exact Kd.R_mono HO259.out (fun _ hk => ⟨hk.1.2, hk.2⟩)⟩, ⟨bel_ HB.out⟩⟩
       ·replace c14 := Bool.eq_false_iff.mpr c14
        subst c14
        have H1 : (laws_FnCranes.j1 k1 t249 t250 t251 x6_1 x7_1 t257 t260 true) = some r := by rw [if_neg (show ¬ (false = true) by decide)] at H; exact H
        clear H
        have H := H1
        clear H1
        have H' := Aside0.mk H
        clear H
        obtain ⟨Ao17, co17, eo17⟩ := Kd.R_slice HO259.out
        subst eo17
        go_wp2_with (first | ((with_reducible refine gate_callee (f := 10) rfl ?_); refine goesL_ (some 44) rfl rfl Try.func10 (by kernel_rfl) rfl #[.slice Ao17 t257.length co17, .int .i64 t250] rfl (by (try simp only [List.map_toArray, List.map_cons, List.map_nil]); first | done | rfl | (simp only [List.length_drop, List.length_take]; rfl)) ?_; (with_reducible refine (impl_CranesOk.calls k1 _ _ t257 t250 false _ ?side1 ?side2 A13.out).mono ?_); (case side1 => repeat (first | exact (Kd.R_reads' HO259.out).2.2 | (with_reducible refine Kd.C_alloc ?_ _) | (with_reducible refine Kd.C_drewN ?_ _) | (with_reducible refine Kd.C_drew ?_))); (case side2 => exact (Kd.R_reads' HO259.out).2.1); rintro e w18 ⟨rfl, hb⟩; refine ⟨_, rfl, ?_⟩; have n0_ := Aside0.mk (Kd.R_below (fr_ HO_3.out) hb); have n1_ := Aside0.mk (Kd.R_below (fr_ HO_5.out) hb); have n2_ := Aside0.mk (Kd.R_below (fr_ HO_6.out) hb); have n3_ := Aside0.mk (Kd.R_below (fr_ HO259.out) hb); have n4_ := Aside0.mk (below_step (bel_ HB.out) hb); clear HO_3; clear HO_5; clear HO_6; clear HO259; clear HB; have HO_3 := n0_; have HO_5 := n1_; have HO_6 := n2_; have HO259 := n3_; have HB := n4_; clear n0_ n1_ n2_ n3_ n4_; (try clear hb); (try clear hb2); (try clear hk); (try clear hi)))
        go_meet
        case rel => exact ⟨_, (true), (by first | rfl | (simp; done) | (simp [*]; done) | (simp [wrap64]; done)), H', ⟨by have := HK1.out; first | omega | exact Nat.le_refl _⟩, ⟨by (with_reducible repeat (first | apply Kd.R_alloc | apply Kd.R_drewN | apply Kd.R_drew)); exact Kd.R_mono HO_3.out (fun _ hk => hk.2)⟩, ⟨by (with_reducible repeat (first | apply Kd.R_alloc | apply Kd.R_drewN | apply Kd.R_drew)); exact HO_5.out⟩, ⟨by (with_reducible repeat (first | apply Kd.R_alloc | apply Kd.R_drewN | apply Kd.R_drew)); exact Kd.R_mono HO_6.out (fun _ hk => hk.2)⟩, ⟨by (with_reducible repeat (first | apply Kd.R_alloc | apply Kd.R_drewN | apply Kd.R_drew)); exact Kd.R_mono HO259.out (fun _ hk => ⟨hk.1.2, hk.2⟩)⟩, ⟨bel_ HB.out⟩⟩
      case rest =>
       clear HC9
       try clear c3
       try clear c6
       try clear c6b0
       try clear c7
       try clear c7b0
       try clear hx256_0
       try clear hx256_1
       try clear p256
       try clear q256
       obtain ⟨kq, x52_8, rfl, HA, HJ8, HO_3, HO_5, HO_6, HO_8, HB⟩ := hcut
       cases kq with
       | zero => exact absurd HA.out (by simp [laws_FnCranes.j1])
       | succ kj8 =>
        have H := HA.out
        clear HA
        simp only [laws_FnCranes.j1] at H
        by_cases c19 : x52_8 = true
        ·subst c19
         have H1 : (some false) = some r := by rw [if_pos rfl] at H; exact H
         clear H
         have H := H1
         clear H1
         obtain rfl := Option.some.inj H
         go_wp2
         go_ret
         exact ⟨by first | rfl | (simp [errW_none, errW_some] <;> rfl) | (simp [*, errW_none, errW_some] <;> rfl), bel_ HB.out⟩
        ·replace c19 := Bool.eq_false_iff.mpr c19
         subst c19
         have H1 : (laws_FnCranes.l1 kj8 t249 t250 t251 x6_1 x7_1 t257 t260 0) = some r := by rw [if_neg (show ¬ (false = true) by decide)] at H; exact H
         clear H
         have H := H1
         clear H1
         have H' := Aside0.mk H
         clear H
         go_wp2
         go_loopg [10] kj8 (fun kq v10 w' => ∃ (x10_3 : Int), v10 = .int .i64 x10_3 ∧ Aside0 (laws_FnCranes.l1 kq t249 t250 t251 x6_1 x7_1 t257 t260 x10_3 = some r) ∧ Aside0 (kq ≤ kj8) ∧ Aside0 (Kd.R k34 34 w' w.heap.size (fun k_ => some k_ ≠ (v258 : Value).ownBlock) v252 t249) ∧ Aside0 (Kd.R k31 31 w' w.heap.size (fun _ => True) (.slice (some ad256) t251.length co10) t251) ∧ Aside0 (Kd.R k34 34 w' w.heap.size (fun k_ => some k_ ≠ (v258 : Value).ownBlock) (.slice Ao11 x6_1.length co11) x6_1) ∧ Aside0 (Kd.R k34 34 w' w.heap.size (fun k_ => some k_ ≠ (v252 : Value).ownBlock ∧ some k_ ≠ ((.slice Ao11 x6_1.length co11) : Value).ownBlock) v258 t257) ∧ Aside0 (Below w.heap.size w w'))
         case atStart => exact ⟨(0), (by first | rfl | (simp; done) | (simp [*]; done) | (simp [wrap64]; done)), H', ⟨Nat.le_refl _⟩, ⟨by (with_reducible repeat (first | apply Kd.R_alloc | apply Kd.R_drewN | apply Kd.R_drew)); exact HO_3.out⟩, ⟨by (with_reducible repeat (first | apply Kd.R_alloc | apply Kd.R_drewN | apply Kd.R_drew)); exact HO_5.out⟩, ⟨by (with_reducible repeat (first | apply Kd.R_alloc | apply Kd.R_drewN | apply Kd.R_drew)); exact HO_6.out⟩, ⟨by (with_reducible repeat (first | apply Kd.R_alloc | apply Kd.R_drewN | apply Kd.R_drew)); exact HO_8.out⟩, ⟨bel_ HB.out⟩⟩
         case round =>
          clear H'
          try clear c3
          try clear c6
          try clear c6b0
          try clear c7
          try clear c7b0
          try clear c19
          try clear hx256_0
          try clear hx256_1
          try clear p256
          try clear q256
          obtain ⟨x10_3, rfl, HA, HK3, HO_3, HO_5, HO_6, HO_8, HB⟩ := hrel
          cases gk with
          | zero => exact absurd HA.out (by simp [laws_FnCranes.l1])
          | succ k3 =>
           have H := HA.out
           clear HA
           simp only [laws_FnCranes.l1] at H
           by_cases c20 : x10_3 < (x6_1.length : Int)
           ·rw [if_pos c20] at H
            have c20b0 : decide (x10_3 < (x6_1.length : Int)) = true := decide_eq_true c20
            clear c20
            by_cases c21 : 0 ≤ x10_3
            ·rw [if_pos c21] at H
             have c21b0 : decide (0 ≤ x10_3) = true := decide_eq_true c21
             clear c21
             by_cases c22 : x10_3 < (t257.length : Int)
             ·rw [if_pos c22] at H
              have c22b0 : decide (x10_3 < (t257.length : Int)) = true := decide_eq_true c22
              clear c22
              by_cases c23 : (!(((rd_T34 t257 x10_3).f0) == ((rd_T34 x6_1 x10_3).f0)) || (!(((rd_T34 t257 x10_3).f1) == ((rd_T34 x6_1 x10_3).f1)) || (!(((rd_T34 t257 x10_3).f2) == ((rd_T34 x6_1 x10_3).f2))))) = true
              ·rw [if_pos c23] at H
               have c23b0 : (!(((rd_T34 t257 x10_3).f0) == ((rd_T34 x6_1 x10_3).f0)) || (!(((rd_T34 t257 x10_3).f1) == ((rd_T34 x6_1 x10_3).f1)) || (!(((rd_T34 t257 x10_3).f2) == ((rd_T34 x6_1 x10_3).f2))))) = true := c23
               clear c23
               by_cases c24 : t260 = 0
               ·rw [if_pos c24] at H
                have c24b0 : (t260 == 0) = true := beq_iff_eq.mpr c24
                have c24b1 : (t260 != 0) = false := bne_eq_false_iff_eq.mpr c24
                clear c24
                by_cases c25 : 0 ≤ x7_1
                ·rw [if_pos c25] at H
                 have c25b0 : decide (0 ≤ x7_1) = true := decide_eq_true c25
                 clear c25
                 by_cases c26 : x7_1 < (t251.length : Int)
                 ·rw [if_pos c26] at H
                  have c26b0 : decide (x7_1 < (t251.length : Int)) = true := decide_eq_true c26
                  clear c26
                  by_cases c27 : x10_3 = ((rd_T31 t251 x7_1).f0)
                  ·rw [if_pos c27] at H
                   have c27b0 : (x10_3 == ((rd_T31 t251 x7_1).f0)) = true := beq_iff_eq.mpr c27
                   have c27b1 : (x10_3 != ((rd_T31 t251 x7_1).f0)) = false := bne_eq_false_iff_eq.mpr c27
                   clear c27
                   by_cases c28 : ((rd_T34 t257 x10_3).f0) = ((rd_T31 t251 x7_1).f1)
                   ·rw [if_pos c28] at H
                    have c28b0 : (((rd_T34 t257 x10_3).f0) == ((rd_T31 t251 x7_1).f1)) = true := beq_iff_eq.mpr c28
                    have c28b1 : (((rd_T34 t257 x10_3).f0) != ((rd_T31 t251 x7_1).f1)) = false := bne_eq_false_iff_eq.mpr c28
                    clear c28
                    have H' := Aside0.mk H
                    clear H
                    try go_wp2
                    have n0_ := Aside0.mk (Kd.R_drew HO_3.out)
                    have n1_ := Aside0.mk (Kd.R_drew HO_5.out)
                    have n2_ := Aside0.mk (Kd.R_drew HO_6.out)
                    have n3_ := Aside0.mk (Kd.R_drew HO_8.out)
                    have n4_ := Aside0.mk (below_drew1 HB.out)
                    clear HO_3
                    clear HO_5
                    clear HO_6
                    clear HO_8
                    clear HB
                    have HO_3 := n0_
                    have HO_5 := n1_
                    have HO_6 := n2_
                    have HO_8 := n3_
                    have HB := n4_
                    clear n0_ n1_ n2_ n3_ n4_
                    obtain ⟨Ao30, co30, eo30⟩ := Kd.R_slice HO_8.out
                    (first | subst eo30 | (injection eo30 with f1_ f2_ f3_; have f4_ := f1_.symm; have f5_ := f3_.symm; clear f1_ f2_ f3_; subst f4_; subst f5_))
                    have p262 : 0 ≤ (x10_3 : Int) := of_decide_eq_true (by first | (with_reducible assumption) | assumption)
                    have q262 : x10_3 < (t257.length : Int) := of_decide_eq_true (by first | (with_reducible assumption) | assumption)
                    obtain ⟨ad262, e262, hx262_0, hx262_1, hx262_2⟩ := at_T34 (Kd.R_reads' HO_8.out).2.2 x10_3 p262 q262
                    cases e262
                    replace p262 := eq_true p262
                    replace q262 := eq_true q262
                    have p263 : 0 ≤ (x10_3 : Int) := of_decide_eq_true (by first | (with_reducible assumption) | assumption)
                    have q263 : x10_3 < (x6_1.length : Int) := of_decide_eq_true (by first | (with_reducible assumption) | assumption)
                    obtain ⟨ad263, e263, hx263_0, hx263_1, hx263_2⟩ := at_T34 (Kd.R_reads' HO_6.out).2.2 x10_3 p263 q263
                    cases e263
                    replace p263 := eq_true p263
                    replace q263 := eq_true q263
                    have p264 : 0 ≤ (x7_1 : Int) := of_decide_eq_true (by first | (with_reducible assumption) | assumption)
                    have q264 : x7_1 < (t251.length : Int) := of_decide_eq_true (by first | (with_reducible assumption) | assumption)
                    obtain ⟨ad264, e264, hx264_0, hx264_1⟩ := at_T31 (Kd.R_reads' HO_5.out).2.2 x7_1 p264 q264
                    obtain rfl : ad256 = ad264 := (by injection e264)
                    replace p264 := eq_true p264
                    replace q264 := eq_true q264
                    have p265 : 0 ≤ (x10_3 : Int) := of_decide_eq_true (by first | (with_reducible assumption) | assumption)
                    have q265 : x10_3 < (t257.length : Int) := of_decide_eq_true (by first | (with_reducible assumption) | assumption)
                    obtain ⟨ad265, e265, hx265_0, hx265_1, hx265_2⟩ := at_T34 (Kd.R_reads' HO_8.out).2.2 x10_3 p265 q265
                    obtain rfl : ad262 = ad265 := (by injection e265)
                    replace p265 := eq_true p265
                    replace q265 := eq_true q265
                    have p266 : 0 ≤ (x7_1 : Int) := of_decide_eq_true (by first | (with_reducible assumption) | assumption)
                    have q266 : x7_1 < (t251.length : Int) := of_decide_eq_true (by first | (with_reducible assumption) | assumption)
                    obtain ⟨ad266, e266, hx266_0, hx266_1⟩ := at_T31 (Kd.R_reads' HO_5.out).2.2 x7_1 p266 q266
                    obtain rfl : ad256 = ad266 := (by injection e266)
                    replace p266 := eq_true p266
                    replace q266 := eq_true q266
                    refine start_ (n := 35) (S := fun w' => w'.cell? (ad262.add ((x10_3).toNat * 3)) = some (.int .i64 ((rd_T34 t257 x10_3).f0)) ∧ w'.cell? ⟨(ad262.add ((x10_3).toNat * 3)).block, (ad262.add ((x10_3).toNat * 3)).off + 1, none⟩ = some (.int .i64 ((rd_T34 t257 x10_3).f1)) ∧ w'.cell? ⟨(ad262.add ((x10_3).toNat * 3)).block, (ad262.add ((x10_3).toNat * 3)).off + 2, none⟩ = some (.int .i64 ((rd_T34 t257 x10_3).f2)) ∧ w'.cell? (ad263.add ((x10_3).toNat * 3)) = some (.int .i64 ((rd_T34 x6_1 x10_3).f0)) ∧ w'.cell? ⟨(ad263.add ((x10_3).toNat * 3)).block, (ad263.add ((x10_3).toNat * 3)).off + 1, none⟩ = some (.int .i64 ((rd_T34 x6_1 x10_3).f1)) ∧ w'.cell? ⟨(ad263.add ((x10_3).toNat * 3)).block, (ad263.add ((x10_3).toNat * 3)).off + 2, none⟩ = some (.int .i64 ((rd_T34 x6_1 x10_3).f2)) ∧ w'.cell? (ad256.add ((x7_1).toNat * 2)) = some (.int .i64 ((rd_T31 t251 x7_1).f0)) ∧ w'.cell? ⟨(ad256.add ((x7_1).toNat * 2)).block, (ad256.add ((x7_1).toNat * 2)).off + 1, none⟩ = some (.int .i64 ((rd_T31 t251 x7_1).f1)) ∧ w'.cell? (ad262.add ((x10_3).toNat * 3)) = some (.int .i64 ((rd_T34 t257 x10_3).f0)) ∧ w'.cell? ⟨(ad262.add ((x10_3).toNat * 3)).block, (ad262.add ((x10_3).toNat * 3)).off + 1, none⟩ = some (.int .i64 ((rd_T34 t257 x10_3).f1)) ∧ w'.cell? ⟨(ad262.add ((x10_3).toNat * 3)).block, (ad262.add ((x10_3).toNat * 3)).off + 2, none⟩ = some (.int .i64 ((rd_T34 t257 x10_3).f2)) ∧ w'.cell? (ad256.add ((x7_1).toNat * 2)) = some (.int .i64 ((rd_T31 t251 x7_1).f0)) ∧ w'.cell? ⟨(ad256.add ((x7_1).toNat * 2)).block, (ad256.add ((x7_1).toNat * 2)).off + 1, none⟩ = some (.int .i64 ((rd_T31 t251 x7_1).f1))) (ds := []) (bs 35 0) (by kernel_rfl) rfl rfl ⟨hx262_0, hx262_1, hx262_2, hx263_0, hx263_1, hx263_2, hx264_0, hx264_1, hx265_0, hx265_1, hx265_2, hx266_0, hx266_1⟩ (fun hHeld => ?_); refine with_tabW laws_FnCranes.tab14 laws_FnCranes.bits14 (fun HT_ HW_ => ?_)
                    generalize wr.drew = w29 at HO_3 HO_5 HO_6 HO_8 HB hx262_0 hx262_1 hx262_2 hx263_0 hx263_1 hx263_2 hx264_0 hx264_1 hx265_0 hx265_1 hx265_2 hx266_0 hx266_1 hHeld ⊢
                    refine pure_ (i := 0) (N := some 59) (v := ?_) (a' := ?_) (bs 35 1) rfl rfl (any_of HT_.out (by kernel_rfl)) (fun _ _ _ h => h) (Or.inl ⟨by rfl, ?_⟩) ?_ ?_
                    rotate_left
                    ·intro w'
                     go_simp
                     with_reducible rfl
                    rotate_left
                    ·simp only [Act.put, sA_, sZ_, sS_, i64_w, i32_w]
                     rfl
                    refine pure_ (i := 1) (N := some 60) (v := ?_) (a' := ?_) (bs 35 3) rfl rfl (any_of HT_.out (by kernel_rfl)) (fun _ _ _ h => h) (Or.inl ⟨by rfl, ?_⟩) ?_ ?_
                    rotate_left
                    ·intro w'
                     go_simp
                     with_reducible rfl
                    rotate_left
                    ·simp only [Act.put, sA_, sZ_, sS_, i64_w, i32_w]
                     rfl
                    refine pure_ (i := 2) (N := some 61) (v := ?_) (a' := ?_) (bs 35 7) rfl rfl (any_of HT_.out (by kernel_rfl)) (fun _ _ _ h => h) (Or.inl ⟨by rfl, ?_⟩) ?_ ?_
                    rotate_left
                    ·intro w'
                     go_simp
                     with_reducible rfl
                    rotate_left
                    ·simp only [Act.put, sA_, sZ_, sS_, i64_w, i32_w]
                     rfl
                    refine pure_ (i := 4) (N := some 63) (v := ?_) (a' := ?_) (bs 35 23) rfl rfl (any_of HT_.out (by kernel_rfl)) (fun _ _ _ h => h) (Or.inl ⟨by rfl, ?_⟩) ?_ ?_
                    rotate_left
                    ·intro w'
                     go_simp
                     with_reducible rfl
                    rotate_left
                    ·simp only [Act.put, sA_, sZ_, sS_, i64_w, i32_w]
                     rfl
                    refine pure_ (i := 5) (N := some 64) (v := ?_) (a' := ?_) (bs 35 55) rfl rfl (any_of HT_.out (by kernel_rfl)) (fun _ _ _ h => h) (Or.inl ⟨by rfl, ?_⟩) ?_ ?_
                    rotate_left
                    ·intro w'
                     go_simp
                     with_reducible rfl
                    rotate_left
                    ·simp only [Act.put, sA_, sZ_, sS_, i64_w, i32_w]
                     rfl
                    refine pure_ (i := 6) (N := some 65) (v := ?_) (a' := ?_) (bs 35 119) rfl rfl (any_of HT_.out (by kernel_rfl)) (fun _ _ _ h => h) (Or.inl ⟨by rfl, ?_⟩) ?_ ?_
                    rotate_left
                    ·intro w'
                     go_simp
                     with_reducible rfl
                    rotate_left
                    ·simp only [Act.put, sA_, sZ_, sS_, i64_w, i32_w]
                     rfl
                    refine take_ (i := 3) (N := some 62) (v := ?_) (a' := ?_) (bs 35 127) rfl rfl (take_ofW HT_.out HW_.out (by kernel_rfl)) (fun _ _ _ h => h) (Or.inl ⟨by rfl, ?_⟩) hHeld ?_ ?_
                    rotate_left
                    ·rintro w' ⟨s0, s1, s2, s3, s4, s5, s6, s7, s8, s9, s10, s11, s12⟩
                     go_simp
                     with_reducible rfl
                    rotate_left
                    ·simp only [Act.put, sA_, sZ_, sS_, i64_w, i32_w]
                     rfl
                    refine take_ (i := 7) (N := some 66) (v := ?_) (a' := ?_) (bs 35 255) rfl rfl (take_ofW HT_.out HW_.out (by kernel_rfl)) (fun _ _ _ h => h) (Or.inl ⟨by rfl, ?_⟩) hHeld ?_ ?_
                    rotate_left
                    ·rintro w' ⟨s0, s1, s2, s3, s4, s5, s6, s7, s8, s9, s10, s11, s12⟩
                     go_simp
                     with_reducible rfl
                    rotate_left
                    ·simp only [Act.put, sA_, sZ_, sS_, i64_w, i32_w]
                     rfl
                    refine pure_ (i := 8) (N := some 67) (v := ?_) (a' := ?_) (bs 35 511) rfl rfl (any_of HT_.out (by kernel_rfl)) (fun _ _ _ h => h) (Or.inl ⟨by rfl, ?_⟩) ?_ ?_
                    rotate_left
                    ·intro w'
                     go_simp
                     with_reducible rfl
                    rotate_left
                    ·simp only [Act.put, sA_, sZ_, sS_, i64_w, i32_w]
                     rfl
                    refine pure_ (i := 9) (N := some 68) (v := ?_) (a' := ?_) (bs 35 1023) rfl rfl (any_of HT_.out (by kernel_rfl)) (fun _ _ _ h => h) (Or.inl ⟨by rfl, ?_⟩) ?_ ?_
                    rotate_left
                    ·intro w'
                     go_simp
                     with_reducible rfl
                    rotate_left
                    ·simp only [Act.put, sA_, sZ_, sS_, i64_w, i32_w]
                     rfl
                    refine pure_ (i := 10) (N := some 69) (v := ?_) (a' := ?_) (bs 35 2047) rfl rfl (any_of HT_.out (by kernel_rfl)) (fun _ _ _ h => h) (Or.inl ⟨by rfl, ?_⟩) ?_ ?_
                    rotate_left
                    ·intro w'
                     go_simp
                     with_reducible rfl
                    rotate_left
                    ·simp only [Act.put, sA_, sZ_, sS_, i64_w, i32_w]
                     rfl
                    refine pure_ (i := 11) (N := some 70) (v := ?_) (a' := ?_) (bs 35 4095) rfl rfl (any_of HT_.out (by kernel_rfl)) (fun _ _ _ h => h) (Or.inl ⟨by rfl, ?_⟩) ?_ ?_
                    rotate_left
                    ·intro w'
                     go_simp
                     with_reducible rfl
                    rotate_left
                    ·simp only [Act.put, sA_, sZ_, sS_, i64_w, i32_w]
                     rfl
                    refine pure_ (i := 12) (N := some 71) (v := ?_) (a' := ?_) (bs 35 8191) rfl rfl (any_of HT_.out (by kernel_rfl)) (fun _ _ _ h => h) (Or.inl ⟨by rfl, ?_⟩) ?_ ?_
                    rotate_left
                    ·intro w'
                     go_simp
                     with_reducible rfl
                    rotate_left
                    ·simp only [Act.put, sA_, sZ_, sS_, i64_w, i32_w]
                     rfl
                    refine pure_ (i := 13) (N := some 72) (v := ?_) (a' := ?_) (bs 35 16383) rfl rfl (any_of HT_.out (by kernel_rfl)) (fun _ _ _ h => h) (Or.inl ⟨by rfl, ?_⟩) ?_ ?_
                    rotate_left
                    ·intro w'
                     go_simp
                     with_reducible rfl
                    rotate_left
                    ·simp only [Act.put, sA_, sZ_, sS_, i64_w, i32_w]
                     rfl
                    refine pure_ (i := 14) (N := some 73) (v := ?_) (a' := ?_) (bs 35 32767) rfl rfl (any_of HT_.out (by kernel_rfl)) (fun _ _ _ h => h) (Or.inl ⟨by rfl, ?_⟩) ?_ ?_
                    rotate_left
                    ·intro w'
                     go_simp
                     with_reducible rfl
                    rotate_left
                    ·simp only [Act.put, sA_, sZ_, sS_, i64_w, i32_w]
                     rfl
                    refine pure_ (i := 15) (N := some 74) (v := ?_) (a' := ?_) (bs 35 65535) rfl rfl (any_of HT_.out (by kernel_rfl)) (fun _ _ _ h => h) (Or.inl ⟨by rfl, ?_⟩) ?_ ?_
                    rotate_left
                    ·intro w'
                     go_simp
                     with_reducible rfl
                    rotate_left
                    ·simp only [Act.put, sA_, sZ_, sS_, i64_w, i32_w]
                     rfl
                    refine pure_ (i := 16) (N := some 75) (v := ?_) (a' := ?_) (bs 35 131071) rfl rfl (any_of HT_.out (by kernel_rfl)) (fun _ _ _ h => h) (Or.inl ⟨by rfl, ?_⟩) ?_ ?_
                    rotate_left
                    ·intro w'
                     go_simp
                     with_reducible rfl
                    rotate_left
                    ·simp only [Act.put, sA_, sZ_, sS_, i64_w, i32_w]
                     rfl
                    refine pure_ (i := 17) (N := some 76) (v := ?_) (a' := ?_) (bs 35 262143) rfl rfl (any_of HT_.out (by kernel_rfl)) (fun _ _ _ h => h) (Or.inl ⟨by rfl, ?_⟩) ?_ ?_
                    rotate_left
                    ·intro w'
                     go_simp
                     with_reducible rfl
                    rotate_left
                    ·simp only [Act.put, sA_, sZ_, sS_, i64_w, i32_w]
                     rfl
                    refine take_ (i := 18) (N := some 77) (v := ?_) (a' := ?_) (bs 35 524287) rfl rfl (take_ofW HT_.out HW_.out (by kernel_rfl)) (fun _ _ _ h => h) (Or.inl ⟨by rfl, ?_⟩) hHeld ?_ ?_
                    rotate_left
                    ·rintro w' ⟨s0, s1, s2, s3, s4, s5, s6, s7, s8, s9, s10, s11, s12⟩
                     go_simp
                     with_reducible rfl
                    rotate_left
                    ·simp only [Act.put, sA_, sZ_, sS_, i64_w, i32_w]
                     rfl
                    refine pure_ (i := 19) (N := some 78) (v := ?_) (a' := ?_) (bs 35 1048575) rfl rfl (any_of HT_.out (by kernel_rfl)) (fun _ _ _ h => h) (Or.inl ⟨by rfl, ?_⟩) ?_ ?_
                    rotate_left
                    ·intro w'
                     go_simp
                     with_reducible rfl
                    rotate_left
                    ·simp only [Act.put, sA_, sZ_, sS_, i64_w, i32_w]
                     rfl
                    refine pure_ (i := 20) (N := some 79) (v := ?_) (a' := ?_) (bs 35 2097151) rfl rfl (any_of HT_.out (by kernel_rfl)) (fun _ _ _ h => h) (Or.inl ⟨by rfl, ?_⟩) ?_ ?_
                    rotate_left
                    ·intro w'
                     go_simp
                     with_reducible rfl
                    rotate_left
                    ·simp only [Act.put, sA_, sZ_, sS_, i64_w, i32_w]
                     rfl
                    refine pure_ (i := 21) (N := some 80) (v := ?_) (a' := ?_) (bs 35 4194303) rfl rfl (any_of HT_.out (by kernel_rfl)) (fun _ _ _ h => h) (Or.inl ⟨by rfl, ?_⟩) ?_ ?_
                    rotate_left
                    ·intro w'
                     go_simp
                     with_reducible rfl
                    rotate_left
                    ·simp only [Act.put, sA_, sZ_, sS_, i64_w, i32_w]
                     rfl
                    refine pure_ (i := 22) (N := some 81) (v := ?_) (a' := ?_) (bs 35 8388607) rfl rfl (any_of HT_.out (by kernel_rfl)) (fun _ _ _ h => h) (Or.inl ⟨by rfl, ?_⟩) ?_ ?_
                    rotate_left
                    ·intro w'
                     go_simp
                     with_reducible rfl
                    rotate_left
                    ·simp only [Act.put, sA_, sZ_, sS_, i64_w, i32_w]
                     rfl
                    refine pure_ (i := 23) (N := some 82) (v := ?_) (a' := ?_) (bs 35 16777215) rfl rfl (any_of HT_.out (by kernel_rfl)) (fun _ _ _ h => h) (Or.inl ⟨by rfl, ?_⟩) ?_ ?_
                    rotate_left
                    ·intro w'
                     go_simp
                     with_reducible rfl
                    rotate_left
                    ·simp only [Act.put, sA_, sZ_, sS_, i64_w, i32_w]
                     rfl
                    refine pure_ (i := 24) (N := some 83) (v := ?_) (a' := ?_) (bs 35 33554431) rfl rfl (any_of HT_.out (by kernel_rfl)) (fun _ _ _ h => h) (Or.inl ⟨by rfl, ?_⟩) ?_ ?_
                    rotate_left
                    ·intro w'
                     go_simp
                     with_reducible rfl
                    rotate_left
                    ·simp only [Act.put, sA_, sZ_, sS_, i64_w, i32_w]
                     rfl
                    refine pure_ (i := 25) (N := some 84) (v := ?_) (a' := ?_) (bs 35 67108863) rfl rfl (any_of HT_.out (by kernel_rfl)) (fun _ _ _ h => h) (Or.inl ⟨by rfl, ?_⟩) ?_ ?_
                    rotate_left
                    ·intro w'
                     go_simp
                     with_reducible rfl
                    rotate_left
                    ·simp only [Act.put, sA_, sZ_, sS_, i64_w, i32_w]
                     rfl
                    refine pure_ (i := 27) (N := some 86) (v := ?_) (a' := ?_) (bs 35 201326591) rfl rfl (any_of HT_.out (by kernel_rfl)) (fun _ _ _ h => h) (Or.inl ⟨by rfl, ?_⟩) ?_ ?_
                    rotate_left
                    ·intro w'
                     go_simp
                     with_reducible rfl
                    rotate_left
                    ·simp only [Act.put, sA_, sZ_, sS_, i64_w, i32_w]
                     rfl
                    refine pure_ (i := 28) (N := some 87) (v := ?_) (a' := ?_) (bs 35 469762047) rfl rfl (any_of HT_.out (by kernel_rfl)) (fun _ _ _ h => h) (Or.inl ⟨by rfl, ?_⟩) ?_ ?_
                    rotate_left
                    ·intro w'
                     go_simp
                     with_reducible rfl
                    rotate_left
                    ·simp only [Act.put, sA_, sZ_, sS_, i64_w, i32_w]
                     rfl
                    refine pure_ (i := 29) (N := some 88) (v := ?_) (a' := ?_) (bs 35 1006632959) rfl rfl (any_of HT_.out (by kernel_rfl)) (fun _ _ _ h => h) (Or.inl ⟨by rfl, ?_⟩) ?_ ?_
                    rotate_left
                    ·intro w'
                     go_simp
                     with_reducible rfl
                    rotate_left
                    ·simp only [Act.put, sA_, sZ_, sS_, i64_w, i32_w]
                     rfl
                    refine pure_ (i := 30) (N := some 89) (v := ?_) (a' := ?_) (bs 35 2080374783) rfl rfl (any_of HT_.out (by kernel_rfl)) (fun _ _ _ h => h) (Or.inl ⟨by rfl, ?_⟩) ?_ ?_
                    rotate_left
                    ·intro w'
                     go_simp
                     with_reducible rfl
                    rotate_left
                    ·simp only [Act.put, sA_, sZ_, sS_, i64_w, i32_w]
                     rfl
                    refine take_ (i := 26) (N := some 85) (v := ?_) (a' := ?_) (bs 35 2147483647) rfl rfl (take_ofW HT_.out HW_.out (by kernel_rfl)) (fun _ _ _ h => h) (Or.inl ⟨by rfl, ?_⟩) hHeld ?_ ?_
                    rotate_left
                    ·rintro w' ⟨s0, s1, s2, s3, s4, s5, s6, s7, s8, s9, s10, s11, s12⟩
                     go_simp
                     with_reducible rfl
                    rotate_left
                    ·simp only [Act.put, sA_, sZ_, sS_, i64_w, i32_w]
                     rfl
                    refine take_ (i := 31) (N := some 90) (v := ?_) (a' := ?_) (bs 35 4294967295) rfl rfl (take_ofW HT_.out HW_.out (by kernel_rfl)) (fun _ _ _ h => h) (Or.inl ⟨by rfl, ?_⟩) hHeld ?_ ?_
                    rotate_left
                    ·rintro w' ⟨s0, s1, s2, s3, s4, s5, s6, s7, s8, s9, s10, s11, s12⟩
                     go_simp
                     with_reducible rfl
                    rotate_left
                    ·simp only [Act.put, sA_, sZ_, sS_, i64_w, i32_w]
                     rfl
                    refine pure_ (i := 32) (N := some 91) (v := ?_) (a' := ?_) (bs 35 8589934591) rfl rfl (any_of HT_.out (by kernel_rfl)) (fun _ _ _ h => h) (Or.inl ⟨by rfl, ?_⟩) ?_ ?_
                    rotate_left
                    ·intro w'
                     go_simp
                     with_reducible rfl
                    rotate_left
                    ·simp only [Act.put, sA_, sZ_, sS_, i64_w, i32_w]
                     rfl
                    refine pure_ (i := 33) (N := some 92) (v := ?_) (a' := ?_) (bs 35 17179869183) rfl rfl (any_of HT_.out (by kernel_rfl)) (fun _ _ _ h => h) (Or.inl ⟨by rfl, ?_⟩) ?_ ?_
                    rotate_left
                    ·intro w'
                     go_simp
                     with_reducible rfl
                    rotate_left
                    ·simp only [Act.put, sA_, sZ_, sS_, i64_w, i32_w]
                     rfl
                    refine pure_ (i := 34) (N := some 93) (v := ?_) (a' := ?_) (bs 35 34359738367) rfl rfl (any_of HT_.out (by kernel_rfl)) (fun _ _ _ h => h) (Or.inl ⟨by rfl, ?_⟩) ?_ ?_
                    rotate_left
                    ·intro w'
                     go_simp
                     with_reducible rfl
                    rotate_left
                    ·simp only [Act.put, sA_, sZ_, sS_, i64_w, i32_w]
                     rfl
                    refine done_ (done_of HT_.out (by kernel_rfl)) ?_
                    try go_wp2
                    go_roundg k3
                    case measure => have := HK1.out; have := HJ8.out; have := HK3.out; omega
                    case rel => exact ⟨(wrap64 (x10_3 + 1)), (by first | rfl | (simp; done) | (simp [*]; done) | (simp [wrap64]; done)), H', ⟨by have := HK1.out; have := HJ8.out; have := HK3.out; omega⟩, ⟨by (with_reducible repeat (first | apply Kd.R_alloc | apply Kd.R_drewN | apply Kd.R_drew)); exact HO_3.out⟩, ⟨by (with_reducible repeat (first | apply Kd.R_alloc | apply Kd.R_drewN | apply Kd.R_drew)); exact HO_5.out⟩, ⟨by (with_reducible repeat (first | apply Kd.R_alloc | apply Kd.R_drewN | apply Kd.R_drew)); exact HO_6.out⟩, ⟨by (with_reducible repeat (first | apply Kd.R_alloc | apply Kd.R_drewN | apply Kd.R_drew)); exact HO_8.out⟩, ⟨bel_ HB.out⟩⟩
                   ·rw [if_neg c28] at H
                    have c28b0 : (((rd_T34 t257 x10_3).f0) == ((rd_T31 t251 x7_1).f1)) = false := beq_eq_false_iff_ne.mpr c28
                    have c28b1 : (((rd_T34 t257 x10_3).f0) != ((rd_T31 t251 x7_1).f1)) = true := bne_iff_ne.mpr c28
                    obtain rfl := Option.some.inj H
                    try go_wp2
                    have n0_ := Aside0.mk (Kd.R_drew HO_3.out)
                    have n1_ := Aside0.mk (Kd.R_drew HO_5.out)
                    have n2_ := Aside0.mk (Kd.R_drew HO_6.out)
                    have n3_ := Aside0.mk (Kd.R_drew HO_8.out)
                    have n4_ := Aside0.mk (below_drew1 HB.out)
                    clear HO_3
                    clear HO_5
                    clear HO_6
                    clear HO_8
                    clear HB
                    have HO_3 := n0_
                    have HO_5 := n1_
                    have HO_6 := n2_
                    have HO_8 := n3_
                    have HB := n4_
                    clear n0_ n1_ n2_ n3_ n4_
                    obtain ⟨Ao32, co32, eo32⟩ := Kd.R_slice HO_8.out
                    (first | subst eo32 | (injection eo32 with f1_ f2_ f3_; have f4_ := f1_.symm; have f5_ := f3_.symm; clear f1_ f2_ f3_; subst f4_; subst f5_))
                    have p262 : 0 ≤ (x10_3 : Int) := of_decide_eq_true (by first | (with_reducible assumption) | assumption)
                    have q262 : x10_3 < (t257.length : Int) := of_decide_eq_true (by first | (with_reducible assumption) | assumption)
                    obtain ⟨ad262, e262, hx262_0, hx262_1, hx262_2⟩ := at_T34 (Kd.R_reads' HO_8.out).2.2 x10_3 p262 q262
                    cases e262
                    replace p262 := eq_true p262
                    replace q262 := eq_true q262
                    have p263 : 0 ≤ (x10_3 : Int) := of_decide_eq_true (by first | (with_reducible assumption) | assumption)
                    have q263 : x10_3 < (x6_1.length : Int) := of_decide_eq_true (by first | (with_reducible assumption) | assumption)
                    obtain ⟨ad263, e263, hx263_0, hx263_1, hx263_2⟩ := at_T34 (Kd.R_reads' HO_6.out).2.2 x10_3 p263 q263
                    cases e263
                    replace p263 := eq_true p263
                    replace q263 := eq_true q263
                    have p264 : 0 ≤ (x7_1 : Int) := of_decide_eq_true (by first | (with_reducible assumption) | assumption)
                    have q264 : x7_1 < (t251.length : Int) := of_decide_eq_true (by first | (with_reducible assumption) | assumption)
                    obtain ⟨ad264, e264, hx264_0, hx264_1⟩ := at_T31 (Kd.R_reads' HO_5.out).2.2 x7_1 p264 q264
                    obtain rfl : ad256 = ad264 := (by injection e264)
                    replace p264 := eq_true p264
                    replace q264 := eq_true q264
                    have p265 : 0 ≤ (x10_3 : Int) := of_decide_eq_true (by first | (with_reducible assumption) | assumption)
                    have q265 : x10_3 < (t257.length : Int) := of_decide_eq_true (by first | (with_reducible assumption) | assumption)
                    obtain ⟨ad265, e265, hx265_0, hx265_1, hx265_2⟩ := at_T34 (Kd.R_reads' HO_8.out).2.2 x10_3 p265 q265
                    obtain rfl : ad262 = ad265 := (by injection e265)
                    replace p265 := eq_true p265
                    replace q265 := eq_true q265
                    have p266 : 0 ≤ (x7_1 : Int) := of_decide_eq_true (by first | (with_reducible assumption) | assumption)
                    have q266 : x7_1 < (t251.length : Int) := of_decide_eq_true (by first | (with_reducible assumption) | assumption)
                    obtain ⟨ad266, e266, hx266_0, hx266_1⟩ := at_T31 (Kd.R_reads' HO_5.out).2.2 x7_1 p266 q266
                    obtain rfl : ad256 = ad266 := (by injection e266)
                    replace p266 := eq_true p266
                    replace q266 := eq_true q266
                    refine start_ (n := 35) (S := fun w' => w'.cell? (ad262.add ((x10_3).toNat * 3)) = some (.int .i64 ((rd_T34 t257 x10_3).f0)) ∧ w'.cell? ⟨(ad262.add ((x10_3).toNat * 3)).block, (ad262.add ((x10_3).toNat * 3)).off + 1, none⟩ = some (.int .i64 ((rd_T34 t257 x10_3).f1)) ∧ w'.cell? ⟨(ad262.add ((x10_3).toNat * 3)).block, (ad262.add ((x10_3).toNat * 3)).off + 2, none⟩ = some (.int .i64 ((rd_T34 t257 x10_3).f2)) ∧ w'.cell? (ad263.add ((x10_3).toNat * 3)) = some (.int .i64 ((rd_T34 x6_1 x10_3).f0)) ∧ w'.cell? ⟨(ad263.add ((x10_3).toNat * 3)).block, (ad263.add ((x10_3).toNat * 3)).off + 1, none⟩ = some (.int .i64 ((rd_T34 x6_1 x10_3).f1)) ∧ w'.cell? ⟨(ad263.add ((x10_3).toNat * 3)).block, (ad263.add ((x10_3).toNat * 3)).off + 2, none⟩ = some (.int .i64 ((rd_T34 x6_1 x10_3).f2)) ∧ w'.cell? (ad256.add ((x7_1).toNat * 2)) = some (.int .i64 ((rd_T31 t251 x7_1).f0)) ∧ w'.cell? ⟨(ad256.add ((x7_1).toNat * 2)).block, (ad256.add ((x7_1).toNat * 2)).off + 1, none⟩ = some (.int .i64 ((rd_T31 t251 x7_1).f1)) ∧ w'.cell? (ad262.add ((x10_3).toNat * 3)) = some (.int .i64 ((rd_T34 t257 x10_3).f0)) ∧ w'.cell? ⟨(ad262.add ((x10_3).toNat * 3)).block, (ad262.add ((x10_3).toNat * 3)).off + 1, none⟩ = some (.int .i64 ((rd_T34 t257 x10_3).f1)) ∧ w'.cell? ⟨(ad262.add ((x10_3).toNat * 3)).block, (ad262.add ((x10_3).toNat * 3)).off + 2, none⟩ = some (.int .i64 ((rd_T34 t257 x10_3).f2)) ∧ w'.cell? (ad256.add ((x7_1).toNat * 2)) = some (.int .i64 ((rd_T31 t251 x7_1).f0)) ∧ w'.cell? ⟨(ad256.add ((x7_1).toNat * 2)).block, (ad256.add ((x7_1).toNat * 2)).off + 1, none⟩ = some (.int .i64 ((rd_T31 t251 x7_1).f1))) (ds := []) (bs 35 0) (by kernel_rfl) rfl rfl ⟨hx262_0, hx262_1, hx262_2, hx263_0, hx263_1, hx263_2, hx264_0, hx264_1, hx265_0, hx265_1, hx265_2, hx266_0, hx266_1⟩ (fun hHeld => ?_); refine with_tabW laws_FnCranes.tab14 laws_FnCranes.bits14 (fun HT_ HW_ => ?_)
                    generalize wr.drew = w31 at HO_3 HO_5 HO_6 HO_8 HB hx262_0 hx262_1 hx262_2 hx263_0 hx263_1 hx263_2 hx264_0 hx264_1 hx265_0 hx265_1 hx265_2 hx266_0 hx266_1 hHeld ⊢
                    refine pure_ (i := 0) (N := some 59) (v := ?_) (a' := ?_) (bs 35 1) rfl rfl (any_of HT_.out (by kernel_rfl)) (fun _ _ _ h => h) (Or.inl ⟨by rfl, ?_⟩) ?_ ?_
                    rotate_left
                    ·intro w'
                     go_simp
                     with_reducible rfl
                    rotate_left
                    ·simp only [Act.put, sA_, sZ_, sS_, i64_w, i32_w]
                     rfl
                    refine pure_ (i := 1) (N := some 60) (v := ?_) (a' := ?_) (bs 35 3) rfl rfl (any_of HT_.out (by kernel_rfl)) (fun _ _ _ h => h) (Or.inl ⟨by rfl, ?_⟩) ?_ ?_
                    rotate_left
                    ·intro w'
                     go_simp
                     with_reducible rfl
                    rotate_left
                    ·simp only [Act.put, sA_, sZ_, sS_, i64_w, i32_w]
                     rfl
                    refine pure_ (i := 2) (N := some 61) (v := ?_) (a' := ?_) (bs 35 7) rfl rfl (any_of HT_.out (by kernel_rfl)) (fun _ _ _ h => h) (Or.inl ⟨by rfl, ?_⟩) ?_ ?_
                    rotate_left
                    ·intro w'
                     go_simp
                     with_reducible rfl
                    rotate_left
                    ·simp only [Act.put, sA_, sZ_, sS_, i64_w, i32_w]
                     rfl
                    refine pure_ (i := 4) (N := some 63) (v := ?_) (a' := ?_) (bs 35 23) rfl rfl (any_of HT_.out (by kernel_rfl)) (fun _ _ _ h => h) (Or.inl ⟨by rfl, ?_⟩) ?_ ?_
                    rotate_left
                    ·intro w'
                     go_simp
                     with_reducible rfl
                    rotate_left
                    ·simp only [Act.put, sA_, sZ_, sS_, i64_w, i32_w]
                     rfl
                    refine pure_ (i := 5) (N := some 64) (v := ?_) (a' := ?_) (bs 35 55) rfl rfl (any_of HT_.out (by kernel_rfl)) (fun _ _ _ h => h) (Or.inl ⟨by rfl, ?_⟩) ?_ ?_
                    rotate_left
                    ·intro w'
                     go_simp
                     with_reducible rfl
                    rotate_left
                    ·simp only [Act.put, sA_, sZ_, sS_, i64_w, i32_w]
                     rfl
                    refine pure_ (i := 6) (N := some 65) (v := ?_) (a' := ?_) (bs 35 119) rfl rfl (any_of HT_.out (by kernel_rfl)) (fun _ _ _ h => h) (Or.inl ⟨by rfl, ?_⟩) ?_ ?_
                    rotate_left
                    ·intro w'
                     go_simp
                     with_reducible rfl
                    rotate_left
                    ·simp only [Act.put, sA_, sZ_, sS_, i64_w, i32_w]
                     rfl
                    refine take_ (i := 3) (N := some 62) (v := ?_) (a' := ?_) (bs 35 127) rfl rfl (take_ofW HT_.out HW_.out (by kernel_rfl)) (fun _ _ _ h => h) (Or.inl ⟨by rfl, ?_⟩) hHeld ?_ ?_
                    rotate_left
                    ·rintro w' ⟨s0, s1, s2, s3, s4, s5, s6, s7, s8, s9, s10, s11, s12⟩
                     go_simp
                     with_reducible rfl
                    rotate_left
                    ·simp only [Act.put, sA_, sZ_, sS_, i64_w, i32_w]
                     rfl
                    refine take_ (i := 7) (N := some 66) (v := ?_) (a' := ?_) (bs 35 255) rfl rfl (take_ofW HT_.out HW_.out (by kernel_rfl)) (fun _ _ _ h => h) (Or.inl ⟨by rfl, ?_⟩) hHeld ?_ ?_
                    rotate_left
                    ·rintro w' ⟨s0, s1, s2, s3, s4, s5, s6, s7, s8, s9, s10, s11, s12⟩
                     go_simp
                     with_reducible rfl
                    rotate_left
                    ·simp only [Act.put, sA_, sZ_, sS_, i64_w, i32_w]
                     rfl
                    refine pure_ (i := 8) (N := some 67) (v := ?_) (a' := ?_) (bs 35 511) rfl rfl (any_of HT_.out (by kernel_rfl)) (fun _ _ _ h => h) (Or.inl ⟨by rfl, ?_⟩) ?_ ?_
                    rotate_left
                    ·intro w'
                     go_simp
                     with_reducible rfl
                    rotate_left
                    ·simp only [Act.put, sA_, sZ_, sS_, i64_w, i32_w]
                     rfl
                    refine pure_ (i := 9) (N := some 68) (v := ?_) (a' := ?_) (bs 35 1023) rfl rfl (any_of HT_.out (by kernel_rfl)) (fun _ _ _ h => h) (Or.inl ⟨by rfl, ?_⟩) ?_ ?_
                    rotate_left
                    ·intro w'
                     go_simp
                     with_reducible rfl
                    rotate_left
                    ·simp only [Act.put, sA_, sZ_, sS_, i64_w, i32_w]
                     rfl
                    refine pure_ (i := 10) (N := some 69) (v := ?_) (a' := ?_) (bs 35 2047) rfl rfl (any_of HT_.out (by kernel_rfl)) (fun _ _ _ h => h) (Or.inl ⟨by rfl, ?_⟩) ?_ ?_
                    rotate_left
                    ·intro w'
                     go_simp
                     with_reducible rfl
                    rotate_left
                    ·simp only [Act.put, sA_, sZ_, sS_, i64_w, i32_w]
                     rfl
                    refine pure_ (i := 11) (N := some 70) (v := ?_) (a' := ?_) (bs 35 4095) rfl rfl (any_of HT_.out (by kernel_rfl)) (fun _ _ _ h => h) (Or.inl ⟨by rfl, ?_⟩) ?_ ?_
                    rotate_left
                    ·intro w'
                     go_simp
                     with_reducible rfl
                    rotate_left
                    ·simp only [Act.put, sA_, sZ_, sS_, i64_w, i32_w]
                     rfl
                    refine pure_ (i := 12) (N := some 71) (v := ?_) (a' := ?_) (bs 35 8191) rfl rfl (any_of HT_.out (by kernel_rfl)) (fun _ _ _ h => h) (Or.inl ⟨by rfl, ?_⟩) ?_ ?_
                    rotate_left
                    ·intro w'
                     go_simp
                     with_reducible rfl
                    rotate_left
                    ·simp only [Act.put, sA_, sZ_, sS_, i64_w, i32_w]
                     rfl
                    refine pure_ (i := 13) (N := some 72) (v := ?_) (a' := ?_) (bs 35 16383) rfl rfl (any_of HT_.out (by kernel_rfl)) (fun _ _ _ h => h) (Or.inl ⟨by rfl, ?_⟩) ?_ ?_
                    rotate_left
                    ·intro w'
                     go_simp
                     with_reducible rfl
                    rotate_left
                    ·simp only [Act.put, sA_, sZ_, sS_, i64_w, i32_w]
                     rfl
                    refine pure_ (i := 14) (N := some 73) (v := ?_) (a' := ?_) (bs 35 32767) rfl rfl (any_of HT_.out (by kernel_rfl)) (fun _ _ _ h => h) (Or.inl ⟨by rfl, ?_⟩) ?_ ?_
                    rotate_left
                    ·intro w'
                     go_simp
                     with_reducible rfl
                    rotate_left
                    ·simp only [Act.put, sA_, sZ_, sS_, i64_w, i32_w]
                     rfl
                    refine pure_ (i := 15) (N := some 74) (v := ?_) (a' := ?_) (bs 35 65535) rfl rfl (any_of HT_.out (by kernel_rfl)) (fun _ _ _ h => h) (Or.inl ⟨by rfl, ?_⟩) ?_ ?_
                    rotate_left
                    ·intro w'
                     go_simp
                     with_reducible rfl
                    rotate_left
                    ·simp only [Act.put, sA_, sZ_, sS_, i64_w, i32_w]
                     rfl
                    refine pure_ (i := 16) (N := some 75) (v := ?_) (a' := ?_) (bs 35 131071) rfl rfl (any_of HT_.out (by kernel_rfl)) (fun _ _ _ h => h) (Or.inl ⟨by rfl, ?_⟩) ?_ ?_
                    rotate_left
                    ·intro w'
                     go_simp
                     with_reducible rfl
                    rotate_left
                    ·simp only [Act.put, sA_, sZ_, sS_, i64_w, i32_w]
                     rfl
                    refine pure_ (i := 17) (N := some 76) (v := ?_) (a' := ?_) (bs 35 262143) rfl rfl (any_of HT_.out (by kernel_rfl)) (fun _ _ _ h => h) (Or.inl ⟨by rfl, ?_⟩) ?_ ?_
                    rotate_left
                    ·intro w'
                     go_simp
                     with_reducible rfl
                    rotate_left
                    ·simp only [Act.put, sA_, sZ_, sS_, i64_w, i32_w]
                     rfl
                    refine take_ (i := 18) (N := some 77) (v := ?_) (a' := ?_) (bs 35 524287) rfl rfl (take_ofW HT_.out HW_.out (by kernel_rfl)) (fun _ _ _ h => h) (Or.inl ⟨by rfl, ?_⟩) hHeld ?_ ?_
                    rotate_left
                    ·rintro w' ⟨s0, s1, s2, s3, s4, s5, s6, s7, s8, s9, s10, s11, s12⟩
                     go_simp
                     with_reducible rfl
                    rotate_left
                    ·simp only [Act.put, sA_, sZ_, sS_, i64_w, i32_w]
                     rfl
                    refine pure_ (i := 19) (N := some 78) (v := ?_) (a' := ?_) (bs 35 1048575) rfl rfl (any_of HT_.out (by kernel_rfl)) (fun _ _ _ h => h) (Or.inl ⟨by rfl, ?_⟩) ?_ ?_
                    rotate_left
                    ·intro w'
                     go_simp
                     with_reducible rfl
                    rotate_left
                    ·simp only [Act.put, sA_, sZ_, sS_, i64_w, i32_w]
                     rfl
                    refine pure_ (i := 20) (N := some 79) (v := ?_) (a' := ?_) (bs 35 2097151) rfl rfl (any_of HT_.out (by kernel_rfl)) (fun _ _ _ h => h) (Or.inl ⟨by rfl, ?_⟩) ?_ ?_
                    rotate_left
                    ·intro w'
                     go_simp
                     with_reducible rfl
                    rotate_left
                    ·simp only [Act.put, sA_, sZ_, sS_, i64_w, i32_w]
                     rfl
                    refine pure_ (i := 21) (N := some 80) (v := ?_) (a' := ?_) (bs 35 4194303) rfl rfl (any_of HT_.out (by kernel_rfl)) (fun _ _ _ h => h) (Or.inl ⟨by rfl, ?_⟩) ?_ ?_
                    rotate_left
                    ·intro w'
                     go_simp
                     with_reducible rfl
                    rotate_left
                    ·simp only [Act.put, sA_, sZ_, sS_, i64_w, i32_w]
                     rfl
                    refine pure_ (i := 22) (N := some 81) (v := ?_) (a' := ?_) (bs 35 8388607) rfl rfl (any_of HT_.out (by kernel_rfl)) (fun _ _ _ h => h) (Or.inl ⟨by rfl, ?_⟩) ?_ ?_
                    rotate_left
                    ·intro w'
                     go_simp
                     with_reducible rfl
                    rotate_left
                    ·simp only [Act.put, sA_, sZ_, sS_, i64_w, i32_w]
                     rfl
                    refine pure_ (i := 23) (N := some 82) (v := ?_) (a' := ?_) (bs 35 16777215) rfl rfl (any_of HT_.out (by kernel_rfl)) (fun _ _ _ h => h) (Or.inl ⟨by rfl, ?_⟩) ?_ ?_
                    rotate_left
                    ·intro w'
                     go_simp
                     with_reducible rfl
                    rotate_left
                    ·simp only [Act.put, sA_, sZ_, sS_, i64_w, i32_w]
                     rfl
                    refine pure_ (i := 24) (N := some 83) (v := ?_) (a' := ?_) (bs 35 33554431) rfl rfl (any_of HT_.out (by kernel_rfl)) (fun _ _ _ h => h) (Or.inl ⟨by rfl, ?_⟩) ?_ ?_
                    rotate_left
                    ·intro w'
                     go_simp
                     with_reducible rfl
                    rotate_left
                    ·simp only [Act.put, sA_, sZ_, sS_, i64_w, i32_w]
                     rfl
                    refine pure_ (i := 25) (N := some 84) (v := ?_) (a' := ?_) (bs 35 67108863) rfl rfl (any_of HT_.out (by kernel_rfl)) (fun _ _ _ h => h) (Or.inl ⟨by rfl, ?_⟩) ?_ ?_
                    rotate_left
                    ·intro w'
                     go_simp
                     with_reducible rfl
                    rotate_left
                    ·simp only [Act.put, sA_, sZ_, sS_, i64_w, i32_w]
                     rfl
                    refine pure_ (i := 27) (N := some 86) (v := ?_) (a' := ?_) (bs 35 201326591) rfl rfl (any_of HT_.out (by kernel_rfl)) (fun _ _ _ h => h) (Or.inl ⟨by rfl, ?_⟩) ?_ ?_
                    rotate_left
                    ·intro w'
                     go_simp
                     with_reducible rfl
                    rotate_left
                    ·simp only [Act.put, sA_, sZ_, sS_, i64_w, i32_w]
                     rfl
                    refine pure_ (i := 28) (N := some 87) (v := ?_) (a' := ?_) (bs 35 469762047) rfl rfl (any_of HT_.out (by kernel_rfl)) (fun _ _ _ h => h) (Or.inl ⟨by rfl, ?_⟩) ?_ ?_
                    rotate_left
                    ·intro w'
                     go_simp
                     with_reducible rfl
                    rotate_left
                    ·simp only [Act.put, sA_, sZ_, sS_, i64_w, i32_w]
                     rfl
                    refine pure_ (i := 29) (N := some 88) (v := ?_) (a' := ?_) (bs 35 1006632959) rfl rfl (any_of HT_.out (by kernel_rfl)) (fun _ _ _ h => h) (Or.inl ⟨by rfl, ?_⟩) ?_ ?_
                    rotate_left
                    ·intro w'
                     go_simp
                     with_reducible rfl
                    rotate_left
                    ·simp only [Act.put, sA_, sZ_, sS_, i64_w, i32_w]
                     rfl
                    refine pure_ (i := 30) (N := some 89) (v := ?_) (a' := ?_) (bs 35 2080374783) rfl rfl (any_of HT_.out (by kernel_rfl)) (fun _ _ _ h => h) (Or.inl ⟨by rfl, ?_⟩) ?_ ?_
                    rotate_left
                    ·intro w'
                     go_simp
                     with_reducible rfl
                    rotate_left
                    ·simp only [Act.put, sA_, sZ_, sS_, i64_w, i32_w]
                     rfl
                    refine take_ (i := 26) (N := some 85) (v := ?_) (a' := ?_) (bs 35 2147483647) rfl rfl (take_ofW HT_.out HW_.out (by kernel_rfl)) (fun _ _ _ h => h) (Or.inl ⟨by rfl, ?_⟩) hHeld ?_ ?_
                    rotate_left
                    ·rintro w' ⟨s0, s1, s2, s3, s4, s5, s6, s7, s8, s9, s10, s11, s12⟩
                     go_simp
                     with_reducible rfl
                    rotate_left
                    ·simp only [Act.put, sA_, sZ_, sS_, i64_w, i32_w]
                     rfl
                    refine take_ (i := 31) (N := some 90) (v := ?_) (a' := ?_) (bs 35 4294967295) rfl rfl (take_ofW HT_.out HW_.out (by kernel_rfl)) (fun _ _ _ h => h) (Or.inl ⟨by rfl, ?_⟩) hHeld ?_ ?_
                    rotate_left
                    ·rintro w' ⟨s0, s1, s2, s3, s4, s5, s6, s7, s8, s9, s10, s11, s12⟩
                     go_simp
                     with_reducible rfl
                    rotate_left
                    ·simp only [Act.put, sA_, sZ_, sS_, i64_w, i32_w]
                     rfl
                    refine pure_ (i := 32) (N := some 91) (v := ?_) (a' := ?_) (bs 35 8589934591) rfl rfl (any_of HT_.out (by kernel_rfl)) (fun _ _ _ h => h) (Or.inl ⟨by rfl, ?_⟩) ?_ ?_
                    rotate_left
                    ·intro w'
                     go_simp
                     with_reducible rfl
                    rotate_left
                    ·simp only [Act.put, sA_, sZ_, sS_, i64_w, i32_w]
                     rfl
                    refine pure_ (i := 33) (N := some 92) (v := ?_) (a' := ?_) (bs 35 17179869183) rfl rfl (any_of HT_.out (by kernel_rfl)) (fun _ _ _ h => h) (Or.inl ⟨by rfl, ?_⟩) ?_ ?_
                    rotate_left
                    ·intro w'
                     go_simp
                     with_reducible rfl
                    rotate_left
                    ·simp only [Act.put, sA_, sZ_, sS_, i64_w, i32_w]
                     rfl
                    refine pure_ (i := 34) (N := some 93) (v := ?_) (a' := ?_) (bs 35 34359738367) rfl rfl (any_of HT_.out (by kernel_rfl)) (fun _ _ _ h => h) (Or.inl ⟨by rfl, ?_⟩) ?_ ?_
                    rotate_left
                    ·intro w'
                     go_simp
                     with_reducible rfl
                    rotate_left
                    ·simp only [Act.put, sA_, sZ_, sS_, i64_w, i32_w]
                     rfl
                    refine done_ (done_of HT_.out (by kernel_rfl)) ?_
                    try go_wp2
                    go_ret
                    exact ⟨by first | rfl | (simp [errW_none, errW_some] <;> rfl) | (simp [*, errW_none, errW_some] <;> rfl), bel_ HB.out⟩
                  ·rw [if_neg c27] at H
                   have c27b0 : (x10_3 == ((rd_T31 t251 x7_1).f0)) = false := beq_eq_false_iff_ne.mpr c27
                   have c27b1 : (x10_3 != ((rd_T31 t251 x7_1).f0)) = true := bne_iff_ne.mpr c27
                   obtain rfl := Option.some.inj H
                   try go_wp2
                   have n0_ := Aside0.mk (Kd.R_drew HO_3.out)
                   have n1_ := Aside0.mk (Kd.R_drew HO_5.out)
                   have n2_ := Aside0.mk (Kd.R_drew HO_6.out)
                   have n3_ := Aside0.mk (Kd.R_drew HO_8.out)
                   have n4_ := Aside0.mk (below_drew1 HB.out)
                   clear HO_3
                   clear HO_5
                   clear HO_6
                   clear HO_8
                   clear HB
                   have HO_3 := n0_
                   have HO_5 := n1_
                   have HO_6 := n2_
                   have HO_8 := n3_
                   have HB := n4_
                   clear n0_ n1_ n2_ n3_ n4_
                   obtain ⟨Ao34, co34, eo34⟩ := Kd.R_slice HO_8.out
                   (first | subst eo34 | (injection eo34 with f1_ f2_ f3_; have f4_ := f1_.symm; have f5_ := f3_.symm; clear f1_ f2_ f3_; subst f4_; subst f5_))
                   have p262 : 0 ≤ (x10_3 : Int) := of_decide_eq_true (by first | (with_reducible assumption) | assumption)
                   have q262 : x10_3 < (t257.length : Int) := of_decide_eq_true (by first | (with_reducible assumption) | assumption)
                   obtain ⟨ad262, e262, hx262_0, hx262_1, hx262_2⟩ := at_T34 (Kd.R_reads' HO_8.out).2.2 x10_3 p262 q262
                   cases e262
                   replace p262 := eq_true p262
                   replace q262 := eq_true q262
                   have p263 : 0 ≤ (x10_3 : Int) := of_decide_eq_true (by first | (with_reducible assumption) | assumption)
                   have q263 : x10_3 < (x6_1.length : Int) := of_decide_eq_true (by first | (with_reducible assumption) | assumption)
                   obtain ⟨ad263, e263, hx263_0, hx263_1, hx263_2⟩ := at_T34 (Kd.R_reads' HO_6.out).2.2 x10_3 p263 q263
                   cases e263
                   replace p263 := eq_true p263
                   replace q263 := eq_true q263
                   have p264 : 0 ≤ (x7_1 : Int) := of_decide_eq_true (by first | (with_reducible assumption) | assumption)
                   have q264 : x7_1 < (t251.length : Int) := of_decide_eq_true (by first | (with_reducible assumption) | assumption)
                   obtain ⟨ad264, e264, hx264_0, hx264_1⟩ := at_T31 (Kd.R_reads' HO_5.out).2.2 x7_1 p264 q264
                   obtain rfl : ad256 = ad264 := (by injection e264)
                   replace p264 := eq_true p264
                   replace q264 := eq_true q264
                   refine start_ (n := 35) (S := fun w' => w'.cell? (ad262.add ((x10_3).toNat * 3)) = some (.int .i64 ((rd_T34 t257 x10_3).f0)) ∧ w'.cell? ⟨(ad262.add ((x10_3).toNat * 3)).block, (ad262.add ((x10_3).toNat * 3)).off + 1, none⟩ = some (.int .i64 ((rd_T34 t257 x10_3).f1)) ∧ w'.cell? ⟨(ad262.add ((x10_3).toNat * 3)).block, (ad262.add ((x10_3).toNat * 3)).off + 2, none⟩ = some (.int .i64 ((rd_T34 t257 x10_3).f2)) ∧ w'.cell? (ad263.add ((x10_3).toNat * 3)) = some (.int .i64 ((rd_T34 x6_1 x10_3).f0)) ∧ w'.cell? ⟨(ad263.add ((x10_3).toNat * 3)).block, (ad263.add ((x10_3).toNat * 3)).off + 1, none⟩ = some (.int .i64 ((rd_T34 x6_1 x10_3).f1)) ∧ w'.cell? ⟨(ad263.add ((x10_3).toNat * 3)).block, (ad263.add ((x10_3).toNat * 3)).off + 2, none⟩ = some (.int .i64 ((rd_T34 x6_1 x10_3).f2)) ∧ w'.cell? (ad256.add ((x7_1).toNat * 2)) = some (.int .i64 ((rd_T31 t251 x7_1).f0)) ∧ w'.cell? ⟨(ad256.add ((x7_1).toNat * 2)).block, (ad256.add ((x7_1).toNat * 2)).off + 1, none⟩ = some (.int .i64 ((rd_T31 t251 x7_1).f1))) (ds := []) (bs 35 0) (by kernel_rfl) rfl rfl ⟨hx262_0, hx262_1, hx262_2, hx263_0, hx263_1, hx263_2, hx264_0, hx264_1⟩ (fun hHeld => ?_); refine with_tabW laws_FnCranes.tab14 laws_FnCranes.bits14 (fun HT_ HW_ => ?_)
                   generalize wr.drew = w33 at HO_3 HO_5 HO_6 HO_8 HB hx262_0 hx262_1 hx262_2 hx263_0 hx263_1 hx263_2 hx264_0 hx264_1 hHeld ⊢
                   refine pure_ (i := 0) (N := some 59) (v := ?_) (a' := ?_) (bs 35 1) rfl rfl (any_of HT_.out (by kernel_rfl)) (fun _ _ _ h => h) (Or.inl ⟨by rfl, ?_⟩) ?_ ?_
                   rotate_left
                   ·intro w'
                    go_simp
                    with_reducible rfl
                   rotate_left
                   ·simp only [Act.put, sA_, sZ_, sS_, i64_w, i32_w]
                    rfl
                   refine pure_ (i := 1) (N := some 60) (v := ?_) (a' := ?_) (bs 35 3) rfl rfl (any_of HT_.out (by kernel_rfl)) (fun _ _ _ h => h) (Or.inl ⟨by rfl, ?_⟩) ?_ ?_
                   rotate_left
                   ·intro w'
                    go_simp
                    with_reducible rfl
                   rotate_left
                   ·simp only [Act.put, sA_, sZ_, sS_, i64_w, i32_w]
                    rfl
                   refine pure_ (i := 2) (N := some 61) (v := ?_) (a' := ?_) (bs 35 7) rfl rfl (any_of HT_.out (by kernel_rfl)) (fun _ _ _ h => h) (Or.inl ⟨by rfl, ?_⟩) ?_ ?_
                   rotate_left
                   ·intro w'
                    go_simp
                    with_reducible rfl
                   rotate_left
                   ·simp only [Act.put, sA_, sZ_, sS_, i64_w, i32_w]
                    rfl
                   refine pure_ (i := 4) (N := some 63) (v := ?_) (a' := ?_) (bs 35 23) rfl rfl (any_of HT_.out (by kernel_rfl)) (fun _ _ _ h => h) (Or.inl ⟨by rfl, ?_⟩) ?_ ?_
                   rotate_left
                   ·intro w'
                    go_simp
                    with_reducible rfl
                   rotate_left
                   ·simp only [Act.put, sA_, sZ_, sS_, i64_w, i32_w]
                    rfl
                   refine pure_ (i := 5) (N := some 64) (v := ?_) (a' := ?_) (bs 35 55) rfl rfl (any_of HT_.out (by kernel_rfl)) (fun _ _ _ h => h) (Or.inl ⟨by rfl, ?_⟩) ?_ ?_
                   rotate_left
                   ·intro w'
                    go_simp
                    with_reducible rfl
                   rotate_left
                   ·simp only [Act.put, sA_, sZ_, sS_, i64_w, i32_w]
                    rfl
                   refine pure_ (i := 6) (N := some 65) (v := ?_) (a' := ?_) (bs 35 119) rfl rfl (any_of HT_.out (by kernel_rfl)) (fun _ _ _ h => h) (Or.inl ⟨by rfl, ?_⟩) ?_ ?_
                   rotate_left
                   ·intro w'
                    go_simp
                    with_reducible rfl
                   rotate_left
                   ·simp only [Act.put, sA_, sZ_, sS_, i64_w, i32_w]
                    rfl
                   refine take_ (i := 3) (N := some 62) (v := ?_) (a' := ?_) (bs 35 127) rfl rfl (take_ofW HT_.out HW_.out (by kernel_rfl)) (fun _ _ _ h => h) (Or.inl ⟨by rfl, ?_⟩) hHeld ?_ ?_
                   rotate_left
                   ·rintro w' ⟨s0, s1, s2, s3, s4, s5, s6, s7⟩
                    go_simp
                    with_reducible rfl
                   rotate_left
                   ·simp only [Act.put, sA_, sZ_, sS_, i64_w, i32_w]
                    rfl
                   refine take_ (i := 7) (N := some 66) (v := ?_) (a' := ?_) (bs 35 255) rfl rfl (take_ofW HT_.out HW_.out (by kernel_rfl)) (fun _ _ _ h => h) (Or.inl ⟨by rfl, ?_⟩) hHeld ?_ ?_
                   rotate_left
                   ·rintro w' ⟨s0, s1, s2, s3, s4, s5, s6, s7⟩
                    go_simp
                    with_reducible rfl
                   rotate_left
                   ·simp only [Act.put, sA_, sZ_, sS_, i64_w, i32_w]
                    rfl
                   refine pure_ (i := 8) (N := some 67) (v := ?_) (a' := ?_) (bs 35 511) rfl rfl (any_of HT_.out (by kernel_rfl)) (fun _ _ _ h => h) (Or.inl ⟨by rfl, ?_⟩) ?_ ?_
                   rotate_left
                   ·intro w'
                    go_simp
                    with_reducible rfl
                   rotate_left
                   ·simp only [Act.put, sA_, sZ_, sS_, i64_w, i32_w]
                    rfl
                   refine pure_ (i := 9) (N := some 68) (v := ?_) (a' := ?_) (bs 35 1023) rfl rfl (any_of HT_.out (by kernel_rfl)) (fun _ _ _ h => h) (Or.inl ⟨by rfl, ?_⟩) ?_ ?_
                   rotate_left
                   ·intro w'
                    go_simp
                    with_reducible rfl
                   rotate_left
                   ·simp only [Act.put, sA_, sZ_, sS_, i64_w, i32_w]
                    rfl
                   refine pure_ (i := 10) (N := some 69) (v := ?_) (a' := ?_) (bs 35 2047) rfl rfl (any_of HT_.out (by kernel_rfl)) (fun _ _ _ h => h) (Or.inl ⟨by rfl, ?_⟩) ?_ ?_
                   rotate_left
                   ·intro w'
                    go_simp
                    with_reducible rfl
                   rotate_left
                   ·simp only [Act.put, sA_, sZ_, sS_, i64_w, i32_w]
                    rfl
                   refine pure_ (i := 11) (N := some 70) (v := ?_) (a' := ?_) (bs 35 4095) rfl rfl (any_of HT_.out (by kernel_rfl)) (fun _ _ _ h => h) (Or.inl ⟨by rfl, ?_⟩) ?_ ?_
                   rotate_left
                   ·intro w'
                    go_simp
                    with_reducible rfl
                   rotate_left
                   ·simp only [Act.put, sA_, sZ_, sS_, i64_w, i32_w]
                    rfl
                   refine pure_ (i := 12) (N := some 71) (v := ?_) (a' := ?_) (bs 35 8191) rfl rfl (any_of HT_.out (by kernel_rfl)) (fun _ _ _ h => h) (Or.inl ⟨by rfl, ?_⟩) ?_ ?_
                   rotate_left
                   ·intro w'
                    go_simp
                    with_reducible rfl
                   rotate_left
                   ·simp only [Act.put, sA_, sZ_, sS_, i64_w, i32_w]
                    rfl
                   refine pure_ (i := 13) (N := some 72) (v := ?_) (a' := ?_) (bs 35 16383) rfl rfl (any_of HT_.out (by kernel_rfl)) (fun _ _ _ h => h) (Or.inl ⟨by rfl, ?_⟩) ?_ ?_
                   rotate_left
                   ·intro w'
                    go_simp
                    with_reducible rfl
                   rotate_left
                   ·simp only [Act.put, sA_, sZ_, sS_, i64_w, i32_w]
                    rfl
                   refine pure_ (i := 14) (N := some 73) (v := ?_) (a' := ?_) (bs 35 32767) rfl rfl (any_of HT_.out (by kernel_rfl)) (fun _ _ _ h => h) (Or.inl ⟨by rfl, ?_⟩) ?_ ?_
                   rotate_left
                   ·intro w'
                    go_simp
                    with_reducible rfl
                   rotate_left
                   ·simp only [Act.put, sA_, sZ_, sS_, i64_w, i32_w]
                    rfl
                   refine pure_ (i := 15) (N := some 74) (v := ?_) (a' := ?_) (bs 35 65535) rfl rfl (any_of HT_.out (by kernel_rfl)) (fun _ _ _ h => h) (Or.inl ⟨by rfl, ?_⟩) ?_ ?_
                   rotate_left
                   ·intro w'
                    go_simp
                    with_reducible rfl
                   rotate_left
                   ·simp only [Act.put, sA_, sZ_, sS_, i64_w, i32_w]
                    rfl
                   refine pure_ (i := 16) (N := some 75) (v := ?_) (a' := ?_) (bs 35 131071) rfl rfl (any_of HT_.out (by kernel_rfl)) (fun _ _ _ h => h) (Or.inl ⟨by rfl, ?_⟩) ?_ ?_
                   rotate_left
                   ·intro w'
                    go_simp
                    with_reducible rfl
                   rotate_left
                   ·simp only [Act.put, sA_, sZ_, sS_, i64_w, i32_w]
                    rfl
                   refine pure_ (i := 17) (N := some 76) (v := ?_) (a' := ?_) (bs 35 262143) rfl rfl (any_of HT_.out (by kernel_rfl)) (fun _ _ _ h => h) (Or.inl ⟨by rfl, ?_⟩) ?_ ?_
                   rotate_left
                   ·intro w'
                    go_simp
                    with_reducible rfl
                   rotate_left
                   ·simp only [Act.put, sA_, sZ_, sS_, i64_w, i32_w]
                    rfl
                   refine take_ (i := 18) (N := some 77) (v := ?_) (a' := ?_) (bs 35 524287) rfl rfl (take_ofW HT_.out HW_.out (by kernel_rfl)) (fun _ _ _ h => h) (Or.inl ⟨by rfl, ?_⟩) hHeld ?_ ?_
                   rotate_left
                   ·rintro w' ⟨s0, s1, s2, s3, s4, s5, s6, s7⟩
                    go_simp
                    with_reducible rfl
                   rotate_left
                   ·simp only [Act.put, sA_, sZ_, sS_, i64_w, i32_w]
                    rfl
                   refine pure_ (i := 19) (N := some 78) (v := ?_) (a' := ?_) (bs 35 1048575) rfl rfl (any_of HT_.out (by kernel_rfl)) (fun _ _ _ h => h) (Or.inl ⟨by rfl, ?_⟩) ?_ ?_
                   rotate_left
                   ·intro w'
                    go_simp
                    with_reducible rfl
                   rotate_left
                   ·simp only [Act.put, sA_, sZ_, sS_, i64_w, i32_w]
                    rfl
                   refine pure_ (i := 20) (N := some 79) (v := ?_) (a' := ?_) (bs 35 2097151) rfl rfl (any_of HT_.out (by kernel_rfl)) (fun _ _ _ h => h) (Or.inl ⟨by rfl, ?_⟩) ?_ ?_
                   rotate_left
                   ·intro w'
                    go_simp
                    with_reducible rfl
                   rotate_left
                   ·simp only [Act.put, sA_, sZ_, sS_, i64_w, i32_w]
                    rfl
                   refine pure_ (i := 21) (N := some 80) (v := ?_) (a' := ?_) (bs 35 4194303) rfl rfl (any_of HT_.out (by kernel_rfl)) (fun _ _ _ h => h) (Or.inl ⟨by rfl, ?_⟩) ?_ ?_
                   rotate_left
                   ·intro w'
                    go_simp
                    with_reducible rfl
                   rotate_left
                   ·simp only [Act.put, sA_, sZ_, sS_, i64_w, i32_w]
                    rfl
                   refine pure_ (i := 22) (N := some 81) (v := undef) (a' := ?_) (bs 35 8388607) rfl rfl (any_of HT_.out (by kernel_rfl)) (fun _ _ _ h => h) (Or.inr ⟨by rfl, rfl⟩) ?_ ?_
                   rotate_left
                   ·simp only [Act.put, sA_, sZ_, sS_, i64_w, i32_w]
                    rfl
                   refine pure_ (i := 23) (N := some 82) (v := undef) (a' := ?_) (bs 35 16777215) rfl rfl (any_of HT_.out (by kernel_rfl)) (fun _ _ _ h => h) (Or.inr ⟨by rfl, rfl⟩) ?_ ?_
                   rotate_left
                   ·simp only [Act.put, sA_, sZ_, sS_, i64_w, i32_w]
                    rfl
                   refine pure_ (i := 24) (N := some 83) (v := undef) (a' := ?_) (bs 35 33554431) rfl rfl (any_of HT_.out (by kernel_rfl)) (fun _ _ _ h => h) (Or.inr ⟨by rfl, rfl⟩) ?_ ?_
                   rotate_left
                   ·simp only [Act.put, sA_, sZ_, sS_, i64_w, i32_w]
                    rfl
                   refine pure_ (i := 25) (N := some 84) (v := undef) (a' := ?_) (bs 35 67108863) rfl rfl (any_of HT_.out (by kernel_rfl)) (fun _ _ _ h => h) (Or.inr ⟨by rfl, rfl⟩) ?_ ?_
                   rotate_left
                   ·simp only [Act.put, sA_, sZ_, sS_, i64_w, i32_w]
                    rfl
                   refine pure_ (i := 26) (N := some 85) (v := undef) (a' := ?_) (bs 35 134217727) rfl rfl (any_of HT_.out (by kernel_rfl)) (fun _ _ _ h => h) (Or.inr ⟨by rfl, rfl⟩) ?_ ?_
                   rotate_left
                   ·simp only [Act.put, sA_, sZ_, sS_, i64_w, i32_w]
                    rfl
                   refine pure_ (i := 27) (N := some 86) (v := undef) (a' := ?_) (bs 35 268435455) rfl rfl (any_of HT_.out (by kernel_rfl)) (fun _ _ _ h => h) (Or.inr ⟨by rfl, rfl⟩) ?_ ?_
                   rotate_left
                   ·simp only [Act.put, sA_, sZ_, sS_, i64_w, i32_w]
                    rfl
                   refine pure_ (i := 28) (N := some 87) (v := undef) (a' := ?_) (bs 35 536870911) rfl rfl (any_of HT_.out (by kernel_rfl)) (fun _ _ _ h => h) (Or.inr ⟨by rfl, rfl⟩) ?_ ?_
                   rotate_left
                   ·simp only [Act.put, sA_, sZ_, sS_, i64_w, i32_w]
                    rfl
                   refine pure_ (i := 29) (N := some 88) (v := undef) (a' := ?_) (bs 35 1073741823) rfl rfl (any_of HT_.out (by kernel_rfl)) (fun _ _ _ h => h) (Or.inr ⟨by rfl, rfl⟩) ?_ ?_
                   rotate_left
                   ·simp only [Act.put, sA_, sZ_, sS_, i64_w, i32_w]
                    rfl
                   refine pure_ (i := 30) (N := some 89) (v := undef) (a' := ?_) (bs 35 2147483647) rfl rfl (any_of HT_.out (by kernel_rfl)) (fun _ _ _ h => h) (Or.inr ⟨by rfl, rfl⟩) ?_ ?_
                   rotate_left
                   ·simp only [Act.put, sA_, sZ_, sS_, i64_w, i32_w]
                    rfl
                   refine pure_ (i := 31) (N := some 90) (v := undef) (a' := ?_) (bs 35 4294967295) rfl rfl (any_of HT_.out (by kernel_rfl)) (fun _ _ _ h => h) (Or.inr ⟨by rfl, rfl⟩) ?_ ?_
                   rotate_left
                   ·simp only [Act.put, sA_, sZ_, sS_, i64_w, i32_w]
                    rfl
                   refine pure_ (i := 32) (N := some 91) (v := undef) (a' := ?_) (bs 35 8589934591) rfl rfl (any_of HT_.out (by kernel_rfl)) (fun _ _ _ h => h) (Or.inr ⟨by rfl, rfl⟩) ?_ ?_
                   rotate_left
                   ·simp only [Act.put, sA_, sZ_, sS_, i64_w, i32_w]
                    rfl
                   refine pure_ (i := 33) (N := some 92) (v := ?_) (a' := ?_) (bs 35 17179869183) rfl rfl (any_of HT_.out (by kernel_rfl)) (fun _ _ _ h => h) (Or.inl ⟨by rfl, ?_⟩) ?_ ?_
                   rotate_left
                   ·intro w'
                    go_simp
                    with_reducible rfl
                   rotate_left
                   ·simp only [Act.put, sA_, sZ_, sS_, i64_w, i32_w]
                    rfl
                   refine pure_ (i := 34) (N := some 93) (v := ?_) (a' := ?_) (bs 35 34359738367) rfl rfl (any_of HT_.out (by kernel_rfl)) (fun _ _ _ h => h) (Or.inl ⟨by rfl, ?_⟩) ?_ ?_
                   rotate_left
                   ·intro w'
                    go_simp
                    with_reducible rfl
                   rotate_left
                   ·simp only [Act.put, sA_, sZ_, sS_, i64_w, i32_w]
                    rfl
                   refine done_ (done_of HT_.out (by kernel_rfl)) ?_
                   try go_wp2
                   go_ret
                   exact ⟨by first | rfl | (simp [errW_none, errW_some] <;> rfl) | (simp [*, errW_none, errW_some] <;> rfl), bel_ HB.out⟩
                 ·rw [if_neg c26] at H
                  exact absurd H (by simp)
                ·rw [if_neg c25] at H
                 exact absurd H (by simp)
               ·rw [if_neg c24] at H
                have c24b0 : (t260 == 0) = false := beq_eq_false_iff_ne.mpr c24
                have c24b1 : (t260 != 0) = true := bne_iff_ne.mpr c24
                obtain rfl := Option.some.inj H
                try go_wp2
                have n0_ := Aside0.mk (Kd.R_drew HO_3.out)
                have n1_ := Aside0.mk (Kd.R_drew HO_5.out)
                have n2_ := Aside0.mk (Kd.R_drew HO_6.out)
                have n3_ := Aside0.mk (Kd.R_drew HO_8.out)
                have n4_ := Aside0.mk (below_drew1 HB.out)
                clear HO_3
                clear HO_5
                clear HO_6
                clear HO_8
                clear HB
                have HO_3 := n0_
                have HO_5 := n1_
                have HO_6 := n2_
                have HO_8 := n3_
                have HB := n4_
                clear n0_ n1_ n2_ n3_ n4_
                obtain ⟨Ao36, co36, eo36⟩ := Kd.R_slice HO_8.out
                (first | subst eo36 | (injection eo36 with f1_ f2_ f3_; have f4_ := f1_.symm; have f5_ := f3_.symm; clear f1_ f2_ f3_; subst f4_; subst f5_))
                have p262 : 0 ≤ (x10_3 : Int) := of_decide_eq_true (by first | (with_reducible assumption) | assumption)
                have q262 : x10_3 < (t257.length : Int) := of_decide_eq_true (by first | (with_reducible assumption) | assumption)
                obtain ⟨ad262, e262, hx262_0, hx262_1, hx262_2⟩ := at_T34 (Kd.R_reads' HO_8.out).2.2 x10_3 p262 q262
                cases e262
                replace p262 := eq_true p262
                replace q262 := eq_true q262
                have p263 : 0 ≤ (x10_3 : Int) := of_decide_eq_true (by first | (with_reducible assumption) | assumption)
                have q263 : x10_3 < (x6_1.length : Int) := of_decide_eq_true (by first | (with_reducible assumption) | assumption)
                obtain ⟨ad263, e263, hx263_0, hx263_1, hx263_2⟩ := at_T34 (Kd.R_reads' HO_6.out).2.2 x10_3 p263 q263
                cases e263
                replace p263 := eq_true p263
                replace q263 := eq_true q263
                refine start_ (n := 35) (S := fun w' => w'.cell? (ad262.add ((x10_3).toNat * 3)) = some (.int .i64 ((rd_T34 t257 x10_3).f0)) ∧ w'.cell? ⟨(ad262.add ((x10_3).toNat * 3)).block, (ad262.add ((x10_3).toNat * 3)).off + 1, none⟩ = some (.int .i64 ((rd_T34 t257 x10_3).f1)) ∧ w'.cell? ⟨(ad262.add ((x10_3).toNat * 3)).block, (ad262.add ((x10_3).toNat * 3)).off + 2, none⟩ = some (.int .i64 ((rd_T34 t257 x10_3).f2)) ∧ w'.cell? (ad263.add ((x10_3).toNat * 3)) = some (.int .i64 ((rd_T34 x6_1 x10_3).f0)) ∧ w'.cell? ⟨(ad263.add ((x10_3).toNat * 3)).block, (ad263.add ((x10_3).toNat * 3)).off + 1, none⟩ = some (.int .i64 ((rd_T34 x6_1 x10_3).f1)) ∧ w'.cell? ⟨(ad263.add ((x10_3).toNat * 3)).block, (ad263.add ((x10_3).toNat * 3)).off + 2, none⟩ = some (.int .i64 ((rd_T34 x6_1 x10_3).f2))) (ds := []) (bs 35 0) (by kernel_rfl) rfl rfl ⟨hx262_0, hx262_1, hx262_2, hx263_0, hx263_1, hx263_2⟩ (fun hHeld => ?_); refine with_tabW laws_FnCranes.tab14 laws_FnCranes.bits14 (fun HT_ HW_ => ?_)
                generalize wr.drew = w35 at HO_3 HO_5 HO_6 HO_8 HB hx262_0 hx262_1 hx262_2 hx263_0 hx263_1 hx263_2 hHeld ⊢
                refine pure_ (i := 0) (N := some 59) (v := ?_) (a' := ?_) (bs 35 1) rfl rfl (any_of HT_.out (by kernel_rfl)) (fun _ _ _ h => h) (Or.inl ⟨by rfl, ?_⟩) ?_ ?_
                rotate_left
                ·intro w'
                 go_simp
                 with_reducible rfl
                rotate_left
                ·simp only [Act.put, sA_, sZ_, sS_, i64_w, i32_w]
                 rfl
                refine pure_ (i := 1) (N := some 60) (v := ?_) (a' := ?_) (bs 35 3) rfl rfl (any_of HT_.out (by kernel_rfl)) (fun _ _ _ h => h) (Or.inl ⟨by rfl, ?_⟩) ?_ ?_
                rotate_left
                ·intro w'
                 go_simp
                 with_reducible rfl
                rotate_left
                ·simp only [Act.put, sA_, sZ_, sS_, i64_w, i32_w]
                 rfl
                refine pure_ (i := 2) (N := some 61) (v := ?_) (a' := ?_) (bs 35 7) rfl rfl (any_of HT_.out (by kernel_rfl)) (fun _ _ _ h => h) (Or.inl ⟨by rfl, ?_⟩) ?_ ?_
                rotate_left
                ·intro w'
                 go_simp
                 with_reducible rfl
                rotate_left
                ·simp only [Act.put, sA_, sZ_, sS_, i64_w, i32_w]
                 rfl
                refine pure_ (i := 4) (N := some 63) (v := ?_) (a' := ?_) (bs 35 23) rfl rfl (any_of HT_.out (by kernel_rfl)) (fun _ _ _ h => h) (Or.inl ⟨by rfl, ?_⟩) ?_ ?_
                rotate_left
                ·intro w'
                 go_simp
                 with_reducible rfl
                rotate_left
                ·simp only [Act.put, sA_, sZ_, sS_, i64_w, i32_w]
                 rfl
                refine pure_ (i := 5) (N := some 64) (v := ?_) (a' := ?_) (bs 35 55) rfl rfl (any_of HT_.out (by kernel_rfl)) (fun _ _ _ h => h) (Or.inl ⟨by rfl, ?_⟩) ?_ ?_
                rotate_left
                ·intro w'
                 go_simp
                 with_reducible rfl
                rotate_left
                ·simp only [Act.put, sA_, sZ_, sS_, i64_w, i32_w]
                 rfl
                refine pure_ (i := 6) (N := some 65) (v := ?_) (a' := ?_) (bs 35 119) rfl rfl (any_of HT_.out (by kernel_rfl)) (fun _ _ _ h => h) (Or.inl ⟨by rfl, ?_⟩) ?_ ?_
                rotate_left
                ·intro w'
                 go_simp
                 with_reducible rfl
                rotate_left
                ·simp only [Act.put, sA_, sZ_, sS_, i64_w, i32_w]
                 rfl
                refine take_ (i := 3) (N := some 62) (v := ?_) (a' := ?_) (bs 35 127) rfl rfl (take_ofW HT_.out HW_.out (by kernel_rfl)) (fun _ _ _ h => h) (Or.inl ⟨by rfl, ?_⟩) hHeld ?_ ?_
                rotate_left
                ·rintro w' ⟨s0, s1, s2, s3, s4, s5⟩
                 go_simp
                 with_reducible rfl
                rotate_left
                ·simp only [Act.put, sA_, sZ_, sS_, i64_w, i32_w]
                 rfl
                refine take_ (i := 7) (N := some 66) (v := ?_) (a' := ?_) (bs 35 255) rfl rfl (take_ofW HT_.out HW_.out (by kernel_rfl)) (fun _ _ _ h => h) (Or.inl ⟨by rfl, ?_⟩) hHeld ?_ ?_
                rotate_left
                ·rintro w' ⟨s0, s1, s2, s3, s4, s5⟩
                 go_simp
                 with_reducible rfl
                rotate_left
                ·simp only [Act.put, sA_, sZ_, sS_, i64_w, i32_w]
                 rfl
                refine pure_ (i := 8) (N := some 67) (v := ?_) (a' := ?_) (bs 35 511) rfl rfl (any_of HT_.out (by kernel_rfl)) (fun _ _ _ h => h) (Or.inl ⟨by rfl, ?_⟩) ?_ ?_
                rotate_left
                ·intro w'
                 go_simp
                 with_reducible rfl
                rotate_left
                ·simp only [Act.put, sA_, sZ_, sS_, i64_w, i32_w]
                 rfl
                refine pure_ (i := 9) (N := some 68) (v := ?_) (a' := ?_) (bs 35 1023) rfl rfl (any_of HT_.out (by kernel_rfl)) (fun _ _ _ h => h) (Or.inl ⟨by rfl, ?_⟩) ?_ ?_
                rotate_left
                ·intro w'
                 go_simp
                 with_reducible rfl
                rotate_left
                ·simp only [Act.put, sA_, sZ_, sS_, i64_w, i32_w]
                 rfl
                refine pure_ (i := 10) (N := some 69) (v := ?_) (a' := ?_) (bs 35 2047) rfl rfl (any_of HT_.out (by kernel_rfl)) (fun _ _ _ h => h) (Or.inl ⟨by rfl, ?_⟩) ?_ ?_
                rotate_left
                ·intro w'
                 go_simp
                 with_reducible rfl
                rotate_left
                ·simp only [Act.put, sA_, sZ_, sS_, i64_w, i32_w]
                 rfl
                refine pure_ (i := 11) (N := some 70) (v := ?_) (a' := ?_) (bs 35 4095) rfl rfl (any_of HT_.out (by kernel_rfl)) (fun _ _ _ h => h) (Or.inl ⟨by rfl, ?_⟩) ?_ ?_
                rotate_left
                ·intro w'
                 go_simp
                 with_reducible rfl
                rotate_left
                ·simp only [Act.put, sA_, sZ_, sS_, i64_w, i32_w]
                 rfl
                refine pure_ (i := 12) (N := some 71) (v := ?_) (a' := ?_) (bs 35 8191) rfl rfl (any_of HT_.out (by kernel_rfl)) (fun _ _ _ h => h) (Or.inl ⟨by rfl, ?_⟩) ?_ ?_
                rotate_left
                ·intro w'
                 go_simp
                 with_reducible rfl
                rotate_left
                ·simp only [Act.put, sA_, sZ_, sS_, i64_w, i32_w]
                 rfl
                refine pure_ (i := 13) (N := some 72) (v := undef) (a' := ?_) (bs 35 16383) rfl rfl (any_of HT_.out (by kernel_rfl)) (fun _ _ _ h => h) (Or.inr ⟨by rfl, rfl⟩) ?_ ?_
                rotate_left
                ·simp only [Act.put, sA_, sZ_, sS_, i64_w, i32_w]
                 rfl
                refine pure_ (i := 14) (N := some 73) (v := undef) (a' := ?_) (bs 35 32767) rfl rfl (any_of HT_.out (by kernel_rfl)) (fun _ _ _ h => h) (Or.inr ⟨by rfl, rfl⟩) ?_ ?_
                rotate_left
                ·simp only [Act.put, sA_, sZ_, sS_, i64_w, i32_w]
                 rfl
                refine pure_ (i := 15) (N := some 74) (v := undef) (a' := ?_) (bs 35 65535) rfl rfl (any_of HT_.out (by kernel_rfl)) (fun _ _ _ h => h) (Or.inr ⟨by rfl, rfl⟩) ?_ ?_
                rotate_left
                ·simp only [Act.put, sA_, sZ_, sS_, i64_w, i32_w]
                 rfl
                refine pure_ (i := 16) (N := some 75) (v := undef) (a' := ?_) (bs 35 131071) rfl rfl (any_of HT_.out (by kernel_rfl)) (fun _ _ _ h => h) (Or.inr ⟨by rfl, rfl⟩) ?_ ?_
                rotate_left
                ·simp only [Act.put, sA_, sZ_, sS_, i64_w, i32_w]
                 rfl
                refine pure_ (i := 17) (N := some 76) (v := undef) (a' := ?_) (bs 35 262143) rfl rfl (any_of HT_.out (by kernel_rfl)) (fun _ _ _ h => h) (Or.inr ⟨by rfl, rfl⟩) ?_ ?_
                rotate_left
                ·simp only [Act.put, sA_, sZ_, sS_, i64_w, i32_w]
                 rfl
                refine pure_ (i := 18) (N := some 77) (v := undef) (a' := ?_) (bs 35 524287) rfl rfl (any_of HT_.out (by kernel_rfl)) (fun _ _ _ h => h) (Or.inr ⟨by rfl, rfl⟩) ?_ ?_
                rotate_left
                ·simp only [Act.put, sA_, sZ_, sS_, i64_w, i32_w]
                 rfl
                refine pure_ (i := 19) (N := some 78) (v := undef) (a' := ?_) (bs 35 1048575) rfl rfl (any_of HT_.out (by kernel_rfl)) (fun _ _ _ h => h) (Or.inr ⟨by rfl, rfl⟩) ?_ ?_
                rotate_left
                ·simp only [Act.put, sA_, sZ_, sS_, i64_w, i32_w]
                 rfl
                refine pure_ (i := 20) (N := some 79) (v := ?_) (a' := ?_) (bs 35 2097151) rfl rfl (any_of HT_.out (by kernel_rfl)) (fun _ _ _ h => h) (Or.inl ⟨by rfl, ?_⟩) ?_ ?_
                rotate_left
                ·intro w'
                 go_simp
                 with_reducible rfl
                rotate_left
                ·simp only [Act.put, sA_, sZ_, sS_, i64_w, i32_w]
                 rfl
                refine pure_ (i := 21) (N := some 80) (v := ?_) (a' := ?_) (bs 35 4194303) rfl rfl (any_of HT_.out (by kernel_rfl)) (fun _ _ _ h => h) (Or.inl ⟨by rfl, ?_⟩) ?_ ?_
                rotate_left
                ·intro w'
                 go_simp
                 with_reducible rfl
                rotate_left
                ·simp only [Act.put, sA_, sZ_, sS_, i64_w, i32_w]
                 rfl
                refine pure_ (i := 22) (N := some 81) (v := undef) (a' := ?_) (bs 35 8388607) rfl rfl (any_of HT_.out (by kernel_rfl)) (fun _ _ _ h => h) (Or.inr ⟨by rfl, rfl⟩) ?_ ?_
                rotate_left
                ·simp only [Act.put, sA_, sZ_, sS_, i64_w, i32_w]
                 rfl
                refine pure_ (i := 23) (N := some 82) (v := undef) (a' := ?_) (bs 35 16777215) rfl rfl (any_of HT_.out (by kernel_rfl)) (fun _ _ _ h => h) (Or.inr ⟨by rfl, rfl⟩) ?_ ?_
                rotate_left
                ·simp only [Act.put, sA_, sZ_, sS_, i64_w, i32_w]
                 rfl
                refine pure_ (i := 24) (N := some 83) (v := undef) (a' := ?_) (bs 35 33554431) rfl rfl (any_of HT_.out (by kernel_rfl)) (fun _ _ _ h => h) (Or.inr ⟨by rfl, rfl⟩) ?_ ?_
                rotate_left
                ·simp only [Act.put, sA_, sZ_, sS_, i64_w, i32_w]
                 rfl
                refine pure_ (i := 25) (N := some 84) (v := undef) (a' := ?_) (bs 35 67108863) rfl rfl (any_of HT_.out (by kernel_rfl)) (fun _ _ _ h => h) (Or.inr ⟨by rfl, rfl⟩) ?_ ?_
                rotate_left
                ·simp only [Act.put, sA_, sZ_, sS_, i64_w, i32_w]
                 rfl
                refine pure_ (i := 26) (N := some 85) (v := undef) (a' := ?_) (bs 35 134217727) rfl rfl (any_of HT_.out (by kernel_rfl)) (fun _ _ _ h => h) (Or.inr ⟨by rfl, rfl⟩) ?_ ?_
                rotate_left
                ·simp only [Act.put, sA_, sZ_, sS_, i64_w, i32_w]
                 rfl
                refine pure_ (i := 27) (N := some 86) (v := undef) (a' := ?_) (bs 35 268435455) rfl rfl (any_of HT_.out (by kernel_rfl)) (fun _ _ _ h => h) (Or.inr ⟨by rfl, rfl⟩) ?_ ?_
                rotate_left
                ·simp only [Act.put, sA_, sZ_, sS_, i64_w, i32_w]
                 rfl
                refine pure_ (i := 28) (N := some 87) (v := undef) (a' := ?_) (bs 35 536870911) rfl rfl (any_of HT_.out (by kernel_rfl)) (fun _ _ _ h => h) (Or.inr ⟨by rfl, rfl⟩) ?_ ?_
                rotate_left
                ·simp only [Act.put, sA_, sZ_, sS_, i64_w, i32_w]
                 rfl
                refine pure_ (i := 29) (N := some 88) (v := undef) (a' := ?_) (bs 35 1073741823) rfl rfl (any_of HT_.out (by kernel_rfl)) (fun _ _ _ h => h) (Or.inr ⟨by rfl, rfl⟩) ?_ ?_
                rotate_left
                ·simp only [Act.put, sA_, sZ_, sS_, i64_w, i32_w]
                 rfl
                refine pure_ (i := 30) (N := some 89) (v := undef) (a' := ?_) (bs 35 2147483647) rfl rfl (any_of HT_.out (by kernel_rfl)) (fun _ _ _ h => h) (Or.inr ⟨by rfl, rfl⟩) ?_ ?_
                rotate_left
                ·simp only [Act.put, sA_, sZ_, sS_, i64_w, i32_w]
                 rfl
                refine pure_ (i := 31) (N := some 90) (v := undef) (a' := ?_) (bs 35 4294967295) rfl rfl (any_of HT_.out (by kernel_rfl)) (fun _ _ _ h => h) (Or.inr ⟨by rfl, rfl⟩) ?_ ?_
                rotate_left
                ·simp only [Act.put, sA_, sZ_, sS_, i64_w, i32_w]
                 rfl
                refine pure_ (i := 32) (N := some 91) (v := undef) (a' := ?_) (bs 35 8589934591) rfl rfl (any_of HT_.out (by kernel_rfl)) (fun _ _ _ h => h) (Or.inr ⟨by rfl, rfl⟩) ?_ ?_
                rotate_left
                ·simp only [Act.put, sA_, sZ_, sS_, i64_w, i32_w]
                 rfl
                refine pure_ (i := 33) (N := some 92) (v := ?_) (a' := ?_) (bs 35 17179869183) rfl rfl (any_of HT_.out (by kernel_rfl)) (fun _ _ _ h => h) (Or.inl ⟨by rfl, ?_⟩) ?_ ?_
                rotate_left
                ·intro w'
                 go_simp
                 with_reducible rfl
                rotate_left
                ·simp only [Act.put, sA_, sZ_, sS_, i64_w, i32_w]
                 rfl
                refine pure_ (i := 34) (N := some 93) (v := ?_) (a' := ?_) (bs 35 34359738367) rfl rfl (any_of HT_.out (by kernel_rfl)) (fun _ _ _ h => h) (Or.inl ⟨by rfl, ?_⟩) ?_ ?_
                rotate_left
                ·intro w'
                 go_simp
                 with_reducible rfl
                rotate_left
                ·simp only [Act.put, sA_, sZ_, sS_, i64_w, i32_w]
                 rfl
                refine done_ (done_of HT_.out (by kernel_rfl)) ?_
                try go_wp2
                go_ret
                exact ⟨by first | rfl | (simp [errW_none, errW_some] <;> rfl) | (simp [*, errW_none, errW_some] <;> rfl), bel_ HB.out⟩
              ·rw [if_neg c23] at H
               have c23b0 : (!(((rd_T34 t257 x10_3).f0) == ((rd_T34 x6_1 x10_3).f0)) || (!(((rd_T34 t257 x10_3).f1) == ((rd_T34 x6_1 x10_3).f1)) || (!(((rd_T34 t257 x10_3).f2) == ((rd_T34 x6_1 x10_3).f2))))) = false := by simpa using c23
               clear c23
               have H' := Aside0.mk H
               clear H
               try go_wp2
               have n0_ := Aside0.mk (Kd.R_drew HO_3.out)
               have n1_ := Aside0.mk (Kd.R_drew HO_5.out)
               have n2_ := Aside0.mk (Kd.R_drew HO_6.out)
               have n3_ := Aside0.mk (Kd.R_drew HO_8.out)
               have n4_ := Aside0.mk (below_drew1 HB.out)
               clear HO_3
               clear HO_5
               clear HO_6
               clear HO_8
               clear HB
               have HO_3 := n0_
               have HO_5 := n1_
               have HO_6 := n2_
               have HO_8 := n3_
               have HB := n4_
               clear n0_ n1_ n2_ n3_ n4_
               obtain ⟨Ao38, co38, eo38⟩ := Kd.R_slice HO_8.out
               (first | subst eo38 | (injection eo38 with f1_ f2_ f3_; have f4_ := f1_.symm; have f5_ := f3_.symm; clear f1_ f2_ f3_; subst f4_; subst f5_))
               have p262 : 0 ≤ (x10_3 : Int) := of_decide_eq_true (by first | (with_reducible assumption) | assumption)
               have q262 : x10_3 < (t257.length : Int) := of_decide_eq_true (by first | (with_reducible assumption) | assumption)
               obtain ⟨ad262, e262, hx262_0, hx262_1, hx262_2⟩ := at_T34 (Kd.R_reads' HO_8.out).2.2 x10_3 p262 q262
               cases e262
               replace p262 := eq_true p262
               replace q262 := eq_true q262
               have p263 : 0 ≤ (x10_3 : Int) := of_decide_eq_true (by first | (with_reducible assumption) | assumption)
               have q263 : x10_3 < (x6_1.length : Int) := of_decide_eq_true (by first | (with_reducible assumption) | assumption)
               obtain ⟨ad263, e263, hx263_0, hx263_1, hx263_2⟩ := at_T34 (Kd.R_reads' HO_6.out).2.2 x10_3 p263 q263
               cases e263
               replace p263 := eq_true p263
               replace q263 := eq_true q263
               refine start_ (n := 35) (S := fun w' => w'.cell? (ad262.add ((x10_3).toNat * 3)) = some (.int .i64 ((rd_T34 t257 x10_3).f0)) ∧ w'.cell? ⟨(ad262.add ((x10_3).toNat * 3)).block, (ad262.add ((x10_3).toNat * 3)).off + 1, none⟩ = some (.int .i64 ((rd_T34 t257 x10_3).f1)) ∧ w'.cell? ⟨(ad262.add ((x10_3).toNat * 3)).block, (ad262.add ((x10_3).toNat * 3)).off + 2, none⟩ = some (.int .i64 ((rd_T34 t257 x10_3).f2)) ∧ w'.cell? (ad263.add ((x10_3).toNat * 3)) = some (.int .i64 ((rd_T34 x6_1 x10_3).f0)) ∧ w'.cell? ⟨(ad263.add ((x10_3).toNat * 3)).block, (ad263.add ((x10_3).toNat * 3)).off + 1, none⟩ = some (.int .i64 ((rd_T34 x6_1 x10_3).f1)) ∧ w'.cell? ⟨(ad263.add ((x10_3).toNat * 3)).block, (ad263.add ((x10_3).toNat * 3)).off + 2, none⟩ = some (.int .i64 ((rd_T34 x6_1 x10_3).f2))) (ds := []) (bs 35 0) (by kernel_rfl) rfl rfl ⟨hx262_0, hx262_1, hx262_2, hx263_0, hx263_1, hx263_2⟩ (fun hHeld => ?_); refine with_tabW laws_FnCranes.tab14 laws_FnCranes.bits14 (fun HT_ HW_ => ?_)
               generalize wr.drew = w37 at HO_3 HO_5 HO_6 HO_8 HB hx262_0 hx262_1 hx262_2 hx263_0 hx263_1 hx263_2 hHeld ⊢
               refine pure_ (i := 0) (N := some 59) (v := ?_) (a' := ?_) (bs 35 1) rfl rfl (any_of HT_.out (by kernel_rfl)) (fun _ _ _ h => h) (Or.inl ⟨by rfl, ?_⟩) ?_ ?_
               rotate_left
               ·intro w'
                go_simp
                with_reducible rfl
               rotate_left
               ·simp only [Act.put, sA_, sZ_, sS_, i64_w, i32_w]
                rfl
               refine pure_ (i := 1) (N := some 60) (v := ?_) (a' := ?_) (bs 35 3) rfl rfl (any_of HT_.out (by kernel_rfl)) (fun _ _ _ h => h) (Or.inl ⟨by rfl, ?_⟩) ?_ ?_
               rotate_left
               ·intro w'
                go_simp
                with_reducible rfl
               rotate_left
               ·simp only [Act.put, sA_, sZ_, sS_, i64_w, i32_w]
                rfl
               refine pure_ (i := 2) (N := some 61) (v := ?_) (a' := ?_) (bs 35 7) rfl rfl (any_of HT_.out (by kernel_rfl)) (fun _ _ _ h => h) (Or.inl ⟨by rfl, ?_⟩) ?_ ?_
               rotate_left
               ·intro w'
                go_simp
                with_reducible rfl
               rotate_left
               ·simp only [Act.put, sA_, sZ_, sS_, i64_w, i32_w]
                rfl
               refine pure_ (i := 4) (N := some 63) (v := ?_) (a' := ?_) (bs 35 23) rfl rfl (any_of HT_.out (by kernel_rfl)) (fun _ _ _ h => h) (Or.inl ⟨by rfl, ?_⟩) ?_ ?_
               rotate_left
               ·intro w'
                go_simp
                with_reducible rfl
               rotate_left
               ·simp only [Act.put, sA_, sZ_, sS_, i64_w, i32_w]
                rfl
               refine pure_ (i := 5) (N := some 64) (v := ?_) (a' := ?_) (bs 35 55) rfl rfl (any_of HT_.out (by kernel_rfl)) (fun _ _ _ h => h) (Or.inl ⟨by rfl, ?_⟩) ?_ ?_
               rotate_left
               ·intro w'
                go_simp
                with_reducible rfl
               rotate_left
               ·simp only [Act.put, sA_, sZ_, sS_, i64_w, i32_w]
                rfl
               refine pure_ (i := 6) (N := some 65) (v := ?_) (a' := ?_) (bs 35 119) rfl rfl (any_of HT_.out (by kernel_rfl)) (fun _ _ _ h => h) (Or.inl ⟨by rfl, ?_⟩) ?_ ?_
               rotate_left
               ·intro w'
                go_simp
                with_reducible rfl
               rotate_left
               ·simp only [Act.put, sA_, sZ_, sS_, i64_w, i32_w]
                rfl
               refine take_ (i := 3) (N := some 62) (v := ?_) (a' := ?_) (bs 35 127) rfl rfl (take_ofW HT_.out HW_.out (by kernel_rfl)) (fun _ _ _ h => h) (Or.inl ⟨by rfl, ?_⟩) hHeld ?_ ?_
               rotate_left
               ·rintro w' ⟨s0, s1, s2, s3, s4, s5⟩
                go_simp
                with_reducible rfl
               rotate_left
               ·simp only [Act.put, sA_, sZ_, sS_, i64_w, i32_w]
                rfl
               refine take_ (i := 7) (N := some 66) (v := ?_) (a' := ?_) (bs 35 255) rfl rfl (take_ofW HT_.out HW_.out (by kernel_rfl)) (fun _ _ _ h => h) (Or.inl ⟨by rfl, ?_⟩) hHeld ?_ ?_
               rotate_left
               ·rintro w' ⟨s0, s1, s2, s3, s4, s5⟩
                go_simp
                with_reducible rfl
               rotate_left
               ·simp only [Act.put, sA_, sZ_, sS_, i64_w, i32_w]
                rfl
               refine pure_ (i := 8) (N := some 67) (v := ?_) (a' := ?_) (bs 35 511) rfl rfl (any_of HT_.out (by kernel_rfl)) (fun _ _ _ h => h) (Or.inl ⟨by rfl, ?_⟩) ?_ ?_
               rotate_left
               ·intro w'
                go_simp
                with_reducible rfl
               rotate_left
               ·simp only [Act.put, sA_, sZ_, sS_, i64_w, i32_w]
                rfl
               refine pure_ (i := 9) (N := some 68) (v := ?_) (a' := ?_) (bs 35 1023) rfl rfl (any_of HT_.out (by kernel_rfl)) (fun _ _ _ h => h) (Or.inl ⟨by rfl, ?_⟩) ?_ ?_
               rotate_left
               ·intro w'
                go_simp
                with_reducible rfl
               rotate_left
               ·simp only [Act.put, sA_, sZ_, sS_, i64_w, i32_w]
                rfl
               refine pure_ (i := 10) (N := some 69) (v := undef) (a' := ?_) (bs 35 2047) rfl rfl (any_of HT_.out (by kernel_rfl)) (fun _ _ _ h => h) (Or.inr ⟨by rfl, rfl⟩) ?_ ?_
               rotate_left
               ·simp only [Act.put, sA_, sZ_, sS_, i64_w, i32_w]
                rfl
               refine pure_ (i := 11) (N := some 70) (v := undef) (a' := ?_) (bs 35 4095) rfl rfl (any_of HT_.out (by kernel_rfl)) (fun _ _ _ h => h) (Or.inr ⟨by rfl, rfl⟩) ?_ ?_
               rotate_left
               ·simp only [Act.put, sA_, sZ_, sS_, i64_w, i32_w]
                rfl
               refine pure_ (i := 12) (N := some 71) (v := undef) (a' := ?_) (bs 35 8191) rfl rfl (any_of HT_.out (by kernel_rfl)) (fun _ _ _ h => h) (Or.inr ⟨by rfl, rfl⟩) ?_ ?_
               rotate_left
               ·simp only [Act.put, sA_, sZ_, sS_, i64_w, i32_w]
                rfl
               refine pure_ (i := 13) (N := some 72) (v := undef) (a' := ?_) (bs 35 16383) rfl rfl (any_of HT_.out (by kernel_rfl)) (fun _ _ _ h => h) (Or.inr ⟨by rfl, rfl⟩) ?_ ?_
               rotate_left
               ·simp only [Act.put, sA_, sZ_, sS_, i64_w, i32_w]
                rfl
               refine pure_ (i := 14) (N := some 73) (v := undef) (a' := ?_) (bs 35 32767) rfl rfl (any_of HT_.out (by kernel_rfl)) (fun _ _ _ h => h) (Or.inr ⟨by rfl, rfl⟩) ?_ ?_
               rotate_left
               ·simp only [Act.put, sA_, sZ_, sS_, i64_w, i32_w]
                rfl
               refine pure_ (i := 15) (N := some 74) (v := undef) (a' := ?_) (bs 35 65535) rfl rfl (any_of HT_.out (by kernel_rfl)) (fun _ _ _ h => h) (Or.inr ⟨by rfl, rfl⟩) ?_ ?_
               rotate_left
               ·simp only [Act.put, sA_, sZ_, sS_, i64_w, i32_w]
                rfl
               refine pure_ (i := 16) (N := some 75) (v := undef) (a' := ?_) (bs 35 131071) rfl rfl (any_of HT_.out (by kernel_rfl)) (fun _ _ _ h => h) (Or.inr ⟨by rfl, rfl⟩) ?_ ?_
               rotate_left
               ·simp only [Act.put, sA_, sZ_, sS_, i64_w, i32_w]
                rfl
               refine pure_ (i := 17) (N := some 76) (v := undef) (a' := ?_) (bs 35 262143) rfl rfl (any_of HT_.out (by kernel_rfl)) (fun _ _ _ h => h) (Or.inr ⟨by rfl, rfl⟩) ?_ ?_
               rotate_left
               ·simp only [Act.put, sA_, sZ_, sS_, i64_w, i32_w]
                rfl
               refine pure_ (i := 18) (N := some 77) (v := undef) (a' := ?_) (bs 35 524287) rfl rfl (any_of HT_.out (by kernel_rfl)) (fun _ _ _ h => h) (Or.inr ⟨by rfl, rfl⟩) ?_ ?_
               rotate_left
               ·simp only [Act.put, sA_, sZ_, sS_, i64_w, i32_w]
                rfl
               refine pure_ (i := 19) (N := some 78) (v := undef) (a' := ?_) (bs 35 1048575) rfl rfl (any_of HT_.out (by kernel_rfl)) (fun _ _ _ h => h) (Or.inr ⟨by rfl, rfl⟩) ?_ ?_
               rotate_left
               ·simp only [Act.put, sA_, sZ_, sS_, i64_w, i32_w]
                rfl
               refine pure_ (i := 20) (N := some 79) (v := undef) (a' := ?_) (bs 35 2097151) rfl rfl (any_of HT_.out (by kernel_rfl)) (fun _ _ _ h => h) (Or.inr ⟨by rfl, rfl⟩) ?_ ?_
               rotate_left
               ·simp only [Act.put, sA_, sZ_, sS_, i64_w, i32_w]
                rfl
               refine pure_ (i := 21) (N := some 80) (v := undef) (a' := ?_) (bs 35 4194303) rfl rfl (any_of HT_.out (by kernel_rfl)) (fun _ _ _ h => h) (Or.inr ⟨by rfl, rfl⟩) ?_ ?_
               rotate_left
               ·simp only [Act.put, sA_, sZ_, sS_, i64_w, i32_w]
                rfl
               refine pure_ (i := 22) (N := some 81) (v := undef) (a' := ?_) (bs 35 8388607) rfl rfl (any_of HT_.out (by kernel_rfl)) (fun _ _ _ h => h) (Or.inr ⟨by rfl, rfl⟩) ?_ ?_
               rotate_left
               ·simp only [Act.put, sA_, sZ_, sS_, i64_w, i32_w]
                rfl
               refine pure_ (i := 23) (N := some 82) (v := undef) (a' := ?_) (bs 35 16777215) rfl rfl (any_of HT_.out (by kernel_rfl)) (fun _ _ _ h => h) (Or.inr ⟨by rfl, rfl⟩) ?_ ?_
               rotate_left
               ·simp only [Act.put, sA_, sZ_, sS_, i64_w, i32_w]
                rfl
               refine pure_ (i := 24) (N := some 83) (v := undef) (a' := ?_) (bs 35 33554431) rfl rfl (any_of HT_.out (by kernel_rfl)) (fun _ _ _ h => h) (Or.inr ⟨by rfl, rfl⟩) ?_ ?_
               rotate_left
               ·simp only [Act.put, sA_, sZ_, sS_, i64_w, i32_w]
                rfl
               refine pure_ (i := 25) (N := some 84) (v := undef) (a' := ?_) (bs 35 67108863) rfl rfl (any_of HT_.out (by kernel_rfl)) (fun _ _ _ h => h) (Or.inr ⟨by rfl, rfl⟩) ?_ ?_
               rotate_left
               ·simp only [Act.put, sA_, sZ_, sS_, i64_w, i32_w]
                rfl
               refine pure_ (i := 26) (N := some 85) (v := undef) (a' := ?_) (bs 35 134217727) rfl rfl (any_of HT_.out (by kernel_rfl)) (fun _ _ _ h => h) (Or.inr ⟨by rfl, rfl⟩) ?_ ?_
               rotate_left
               ·simp only [Act.put, sA_, sZ_, sS_, i64_w, i32_w]
                rfl
               refine pure_ (i := 27) (N := some 86) (v := undef) (a' := ?_) (bs 35 268435455) rfl rfl (any_of HT_.out (by kernel_rfl)) (fun _ _ _ h => h) (Or.inr ⟨by rfl, rfl⟩) ?_ ?_
               rotate_left
               ·simp only [Act.put, sA_, sZ_, sS_, i64_w, i32_w]
                rfl
               refine pure_ (i := 28) (N := some 87) (v := undef) (a' := ?_) (bs 35 536870911) rfl rfl (any_of HT_.out (by kernel_rfl)) (fun _ _ _ h => h) (Or.inr ⟨by rfl, rfl⟩) ?_ ?_
               rotate_left
               ·simp only [Act.put, sA_, sZ_, sS_, i64_w, i32_w]
                rfl
               refine pure_ (i := 29) (N := some 88) (v := undef) (a' := ?_) (bs 35 1073741823) rfl rfl (any_of HT_.out (by kernel_rfl)) (fun _ _ _ h => h) (Or.inr ⟨by rfl, rfl⟩) ?_ ?_
               rotate_left
               ·simp only [Act.put, sA_, sZ_, sS_, i64_w, i32_w]
                rfl
               refine pure_ (i := 30) (N := some 89) (v := undef) (a' := ?_) (bs 35 2147483647) rfl rfl (any_of HT_.out (by kernel_rfl)) (fun _ _ _ h => h) (Or.inr ⟨by rfl, rfl⟩) ?_ ?_
               rotate_left
               ·simp only [Act.put, sA_, sZ_, sS_, i64_w, i32_w]
                rfl
               refine pure_ (i := 31) (N := some 90) (v := undef) (a' := ?_) (bs 35 4294967295) rfl rfl (any_of HT_.out (by kernel_rfl)) (fun _ _ _ h => h) (Or.inr ⟨by rfl, rfl⟩) ?_ ?_
               rotate_left
               ·simp only [Act.put, sA_, sZ_, sS_, i64_w, i32_w]
                rfl
               refine pure_ (i := 32) (N := some 91) (v := undef) (a' := ?_) (bs 35 8589934591) rfl rfl (any_of HT_.out (by kernel_rfl)) (fun _ _ _ h => h) (Or.inr ⟨by rfl, rfl⟩) ?_ ?_
               rotate_left
               ·simp only [Act.put, sA_, sZ_, sS_, i64_w, i32_w]
                rfl
               refine pure_ (i := 33) (N := some 92) (v := undef) (a' := ?_) (bs 35 17179869183) rfl rfl (any_of HT_.out (by kernel_rfl)) (fun _ _ _ h => h) (Or.inr ⟨by rfl, rfl⟩) ?_ ?_
               rotate_left
               ·simp only [Act.put, sA_, sZ_, sS_, i64_w, i32_w]
                rfl
               refine pure_ (i := 34) (N := some 93) (v := ?_) (a' := ?_) (bs 35 34359738367) rfl rfl (any_of HT_.out (by kernel_rfl)) (fun _ _ _ h => h) (Or.inl ⟨by rfl, ?_⟩) ?_ ?_
               rotate_left
               ·intro w'
                go_simp
                with_reducible rfl
               rotate_left
               ·simp only [Act.put, sA_, sZ_, sS_, i64_w, i32_w]
                rfl
               refine done_ (done_of HT_.out (by kernel_rfl)) ?_
               try go_wp2
               go_roundg k3
               case measure => have := HK1.out; have := HJ8.out; have := HK3.out; omega
               case rel => exact ⟨(wrap64 (x10_3 + 1)), (by first | rfl | (simp; done) | (simp [*]; done) | (simp [wrap64]; done)), H', ⟨by have := HK1.out; have := HJ8.out; have := HK3.out; omega⟩, ⟨by (with_reducible repeat (first | apply Kd.R_alloc | apply Kd.R_drewN | apply Kd.R_drew)); exact HO_3.out⟩, ⟨by (with_reducible repeat (first | apply Kd.R_alloc | apply Kd.R_drewN | apply Kd.R_drew)); exact HO_5.out⟩, ⟨by (with_reducible repeat (first | apply Kd.R_alloc | apply Kd.R_drewN | apply Kd.R_drew)); exact HO_6.out⟩, ⟨by (with_reducible repeat (first | apply Kd.R_alloc | apply Kd.R_drewN | apply Kd.R_drew)); exact HO_8.out⟩, ⟨bel_ HB.out⟩⟩
             ·rw [if_neg c22] at H
              exact absurd H (by simp)
            ·rw [if_neg c21] at H
             exact absurd H (by simp)
           ·rw [if_neg c20] at H
            have c20b0 : decide (x10_3 < (x6_1.length : Int)) = false := decide_eq_false c20
            clear c20
            by_cases c39 : 0 ≤ x7_1
            ·rw [if_pos c39] at H
             have c39b0 : decide (0 ≤ x7_1) = true := decide_eq_true c39
             clear c39
             by_cases c40 : x7_1 < (t251.length : Int)
             ·rw [if_pos c40] at H
              have c40b0 : decide (x7_1 < (t251.length : Int)) = true := decide_eq_true c40
              clear c40
              replace H := Option.bind_eq_some_iff.mp H
              obtain ⟨⟨t268, t271⟩, A410, H⟩ := H
              replace H : (if (t268.length : Int) = (x6_1.length : Int) then (if t260 = 0 then (if t271 = true then (if 0 ≤ ((rd_T31 t251 x7_1).f0) then (if ((rd_T31 t251 x7_1).f0) < (t268.length : Int) then (if ((rd_T34 t268 ((rd_T31 t251 x7_1).f0)).f0) = ((rd_T31 t251 x7_1).f1) then ((impl_CranesOk.f k3 t268 t250).bind fun t275 => (laws_FnCranes.j3 k3 t249 t250 t251 x6_1 x7_1 t257 t260 t268 (!t275))) else (laws_FnCranes.j3 k3 t249 t250 t251 x6_1 x7_1 t257 t260 t268 true)) else (none)) else (none)) else (laws_FnCranes.j3 k3 t249 t250 t251 x6_1 x7_1 t257 t260 t268 true)) else ((impl_CranesOk.f k3 t268 t250).bind fun t276 => (laws_FnCranes.j3 k3 t249 t250 t251 x6_1 x7_1 t257 t260 t268 (!t276)))) else (some false)) = some r := H
              have A41 := Aside0.mk A410
              clear A410
              by_cases c42 : (t268.length : Int) = (x6_1.length : Int)
              ·rw [if_pos c42] at H
               have c42b0 : ((t268.length : Int) == (x6_1.length : Int)) = true := beq_iff_eq.mpr c42
               have c42b1 : ((t268.length : Int) != (x6_1.length : Int)) = false := bne_eq_false_iff_eq.mpr c42
               have c42b2 : (t268.length == x6_1.length) = true := by first | simpa using c42 | (simp at c42 ⊢; omega)
               clear c42
               have HC43 := Aside0.mk H
               clear H
               have p267 : 0 ≤ (x7_1 : Int) := of_decide_eq_true (by first | (with_reducible assumption) | assumption)
               have q267 : x7_1 < (t251.length : Int) := of_decide_eq_true (by first | (with_reducible assumption) | assumption)
               obtain ⟨ad267, e267, hx267_0, hx267_1⟩ := at_T31 (Kd.R_reads' HO_5.out).2.2 x7_1 p267 q267
               obtain rfl : ad256 = ad267 := (by injection e267)
               replace p267 := eq_true p267
               replace q267 := eq_true q267
               go_upto_region 19 with (first | ((with_reducible refine gate_callee (f := 11) rfl ?_); refine goesL_ (some 101) rfl rfl Try.func11 (by kernel_rfl) rfl #[.slice Ao11 x6_1.length co11, .int .i64 t250, .agg #[.int .i64 ((rd_T31 t251 x7_1).f0), .int .i64 ((rd_T31 t251 x7_1).f1)]] rfl (by (try simp only [List.map_toArray, List.map_cons, List.map_nil]); first | done | rfl | (simp only [List.length_drop, List.length_take]; rfl)) ?_; (with_reducible refine (impl_PushMove.calls k3 _ _ x6_1 t250 ((rd_T31 t251 x7_1).f0) ((rd_T31 t251 x7_1).f1) t268 t271 _ ?side1 ?side2 A41.out).mono ?_); (case side1 => repeat (first | exact (Kd.R_reads' HO_6.out).2.2 | (with_reducible refine Kd.C_alloc ?_ _) | (with_reducible refine Kd.C_drewN ?_ _) | (with_reducible refine Kd.C_drew ?_))); (case side2 => exact (Kd.R_reads' HO_6.out).2.1); rintro e w44 ⟨v269, rfl, ho0, hb⟩; refine ⟨_, rfl, ?_⟩; have n0_ := Aside0.mk (Kd.R_elder' (fr_ HO_3.out) (Kd.R_base ho0) hb); have n1_ := Aside0.mk (Kd.R_below (fr_ HO_5.out) hb); have n2_ := Aside0.mk (Kd.R_elder' (fr_ HO_6.out) (Kd.R_base ho0) hb); have n3_ := Aside0.mk (Kd.R_elder' (fr_ HO_8.out) (Kd.R_base ho0) hb); have n4_ := Aside0.mk (Kd.R_lower (Kd.R_new' (Kd.R_new' (Kd.R_new' ho0 (Kd.R_lt (fr_ HO_3.out))) (Kd.R_lt (fr_ HO_6.out))) (Kd.R_lt (fr_ HO_8.out))) (below_size (bel_ HB.out))); have n5_ := Aside0.mk (below_step (bel_ HB.out) hb); clear HO_3; clear HO_5; clear HO_6; clear HO_8; clear HB; have HO_3 := n0_; have HO_5 := n1_; have HO_6 := n2_; have HO_8 := n3_; have HO270 := n4_; have HB := n5_; clear n0_ n1_ n2_ n3_ n4_ n5_; (try clear hb); (try clear hb2); (try clear hk); (try clear hi); (try clear ho0); obtain ⟨Ao45, co45, eo45⟩ := Kd.R_slice HO270.out; subst eo45))
               (try simp only [Act.put, sA_, sZ_, sS_])
               go_cut [137] (fun v137 wc => ∃ (kq : Nat) (x137_42 : Bool), v137 = .bool x137_42 ∧ Aside0 (laws_FnCranes.j3 kq t249 t250 t251 x6_1 x7_1 t257 t260 t268 x137_42 = some r) ∧ Aside0 (kq ≤ k3) ∧ Aside0 (Kd.R k34 34 wc w.heap.size (fun k_ => some k_ ≠ (v258 : Value).ownBlock ∧ some k_ ≠ ((.slice Ao45 t268.length co45) : Value).ownBlock) v252 t249) ∧ Aside0 (Kd.R k31 31 wc w.heap.size (fun _ => True) (.slice (some ad256) t251.length co10) t251) ∧ Aside0 (Kd.R k34 34 wc w.heap.size (fun k_ => some k_ ≠ (v258 : Value).ownBlock ∧ some k_ ≠ ((.slice Ao45 t268.length co45) : Value).ownBlock) (.slice Ao11 x6_1.length co11) x6_1) ∧ Aside0 (Kd.R k34 34 wc w.heap.size (fun k_ => some k_ ≠ (v252 : Value).ownBlock ∧ some k_ ≠ ((.slice Ao11 x6_1.length co11) : Value).ownBlock ∧ some k_ ≠ ((.slice Ao45 t268.length co45) : Value).ownBlock) v258 t257) ∧ Aside0 (Kd.R k34 34 wc w.heap.size (fun k_ => some k_ ≠ (v252 : Value).ownBlock ∧ some k_ ≠ ((.slice Ao11 x6_1.length co11) : Value).ownBlock ∧ some k_ ≠ (v258 : Value).ownBlock) (.slice Ao45 t268.length co45) t268) ∧ Aside0 (Below w.heap.size w wc))
               case first =>
                have H := HC43.out
                clear HC43
                by_cases c46 : t260 = 0
                ·rw [if_pos c46] at H
                 have c46b0 : (t260 == 0) = true := beq_iff_eq.mpr c46
                 have c46b1 : (t260 != 0) = false := bne_eq_false_iff_eq.mpr c46
                 clear c46
                 (first | rw [c46b0] | (simp only [i64_w, i32_w]; rw [c46b0]) | skip)
                 by_cases c47 : t271 = true
                 ·subst c47
                  have H1 : (if 0 ≤ ((rd_T31 t251 x7_1).f0) then (if ((rd_T31 t251 x7_1).f0) < (t268.length : Int) then (if ((rd_T34 t268 ((rd_T31 t251 x7_1).f0)).f0) = ((rd_T31 t251 x7_1).f1) then ((impl_CranesOk.f k3 t268 t250).bind fun t275 => (laws_FnCranes.j3 k3 t249 t250 t251 x6_1 x7_1 t257 t260 t268 (!t275))) else (laws_FnCranes.j3 k3 t249 t250 t251 x6_1 x7_1 t257 t260 t268 true)) else (none)) else (none)) = some r := by rw [if_pos rfl] at H; exact H
                  clear H
                  have H := H1
                  clear H1
                  by_cases c48 : 0 ≤ ((rd_T31 t251 x7_1).f0)
                  ·rw [if_pos c48] at H
                   have c48b0 : decide (0 ≤ ((rd_T31 t251 x7_1).f0)) = true := decide_eq_true c48
                   clear c48
                   by_cases c49 : ((rd_T31 t251 x7_1).f0) < (t268.length : Int)
                   ·rw [if_pos c49] at H
                    have c49b0 : decide (((rd_T31 t251 x7_1).f0) < (t268.length : Int)) = true := decide_eq_true c49
                    clear c49
                    by_cases c50 : ((rd_T34 t268 ((rd_T31 t251 x7_1).f0)).f0) = ((rd_T31 t251 x7_1).f1)
                    ·rw [if_pos c50] at H
                     have c50b0 : (((rd_T34 t268 ((rd_T31 t251 x7_1).f0)).f0) == ((rd_T31 t251 x7_1).f1)) = true := beq_iff_eq.mpr c50
                     have c50b1 : (((rd_T34 t268 ((rd_T31 t251 x7_1).f0)).f0) != ((rd_T31 t251 x7_1).f1)) = false := bne_eq_false_iff_eq.mpr c50
                     clear c50
                     replace H := Option.bind_eq_some_iff.mp H
                     obtain ⟨t275, A510, H⟩ := H
                     replace H : (laws_FnCranes.j3 k3 t249 t250 t251 x6_1 x7_1 t257 t260 t268 (!t275)) = some r := H
                     have A51 := Aside0.mk A510
                     clear A510
                     have H' := Aside0.mk H
                     clear H
                     try go_wp2
                     have n0_ := Aside0.mk (Kd.R_drew HO_3.out)
                     have n1_ := Aside0.mk (Kd.R_drew HO_5.out)
                     have n2_ := Aside0.mk (Kd.R_drew HO_6.out)
                     have n3_ := Aside0.mk (Kd.R_drew HO_8.out)
                     have n4_ := Aside0.mk (Kd.R_drew HO270.out)
                     have n5_ := Aside0.mk (below_drew1 HB.out)
                     clear HO_3
                     clear HO_5
                     clear HO_6
                     clear HO_8
                     clear HO270
                     clear HB
                     have HO_3 := n0_
                     have HO_5 := n1_
                     have HO_6 := n2_
                     have HO_8 := n3_
                     have HO270 := n4_
                     have HB := n5_
                     clear n0_ n1_ n2_ n3_ n4_ n5_
                     have p272 : 0 ≤ (x7_1 : Int) := of_decide_eq_true (by first | (with_reducible assumption) | assumption)
                     have q272 : x7_1 < (t251.length : Int) := of_decide_eq_true (by first | (with_reducible assumption) | assumption)
                     obtain ⟨ad272, e272, hx272_0, hx272_1⟩ := at_T31 (Kd.R_reads' HO_5.out).2.2 x7_1 p272 q272
                     obtain rfl : ad256 = ad272 := (by injection e272)
                     replace p272 := eq_true p272
                     replace q272 := eq_true q272
                     have p273 : 0 ≤ (((rd_T31 t251 x7_1).f0) : Int) := of_decide_eq_true (by first | (with_reducible assumption) | assumption)
                     have q273 : ((rd_T31 t251 x7_1).f0) < (t268.length : Int) := of_decide_eq_true (by first | (with_reducible assumption) | assumption)
                     obtain ⟨ad273, e273, hx273_0, hx273_1, hx273_2⟩ := at_T34 (Kd.R_reads' HO270.out).2.2 ((rd_T31 t251 x7_1).f0) p273 q273
                     cases e273
                     replace p273 := eq_true p273
                     replace q273 := eq_true q273
                     have p274 : 0 ≤ (x7_1 : Int) := of_decide_eq_true (by first | (with_reducible assumption) | assumption)
                     have q274 : x7_1 < (t251.length : Int) := of_decide_eq_true (by first | (with_reducible assumption) | assumption)
                     obtain ⟨ad274, e274, hx274_0, hx274_1⟩ := at_T31 (Kd.R_reads' HO_5.out).2.2 x7_1 p274 q274
                     obtain rfl : ad256 = ad274 := (by injection e274)
                     replace p274 := eq_true p274
                     replace q274 := eq_true q274
                     refine start_ (n := 29) (S := fun w' => w'.cell? (ad256.add ((x7_1).toNat * 2)) = some (.int .i64 ((rd_T31 t251 x7_1).f0)) ∧ w'.cell? ⟨(ad256.add ((x7_1).toNat * 2)).block, (ad256.add ((x7_1).toNat * 2)).off + 1, none⟩ = some (.int .i64 ((rd_T31 t251 x7_1).f1)) ∧ w'.cell? (ad273.add ((((rd_T31 t251 x7_1).f0)).toNat * 3)) = some (.int .i64 ((rd_T34 t268 ((rd_T31 t251 x7_1).f0)).f0)) ∧ w'.cell? ⟨(ad273.add ((((rd_T31 t251 x7_1).f0)).toNat * 3)).block, (ad273.add ((((rd_T31 t251 x7_1).f0)).toNat * 3)).off + 1, none⟩ = some (.int .i64 ((rd_T34 t268 ((rd_T31 t251 x7_1).f0)).f1)) ∧ w'.cell? ⟨(ad273.add ((((rd_T31 t251 x7_1).f0)).toNat * 3)).block, (ad273.add ((((rd_T31 t251 x7_1).f0)).toNat * 3)).off + 2, none⟩ = some (.int .i64 ((rd_T34 t268 ((rd_T31 t251 x7_1).f0)).f2)) ∧ w'.cell? (ad256.add ((x7_1).toNat * 2)) = some (.int .i64 ((rd_T31 t251 x7_1).f0)) ∧ w'.cell? ⟨(ad256.add ((x7_1).toNat * 2)).block, (ad256.add ((x7_1).toNat * 2)).off + 1, none⟩ = some (.int .i64 ((rd_T31 t251 x7_1).f1))) (ds := []) (bs 29 0) (by kernel_rfl) rfl rfl ⟨hx272_0, hx272_1, hx273_0, hx273_1, hx273_2, hx274_0, hx274_1⟩ (fun hHeld => ?_); refine with_tabW laws_FnCranes.tab19 laws_FnCranes.bits19 (fun HT_ HW_ => ?_)
                     generalize w44.drew = w52 at HO_3 HO_5 HO_6 HO_8 HO270 HB hx272_0 hx272_1 hx273_0 hx273_1 hx273_2 hx274_0 hx274_1 hHeld ⊢
                     refine pure_ (i := 0) (N := some 109) (v := ?_) (a' := ?_) (bs 29 1) rfl rfl (any_of HT_.out (by kernel_rfl)) (fun _ _ _ h => h) (Or.inl ⟨by rfl, ?_⟩) ?_ ?_
                     rotate_left
                     ·intro w'
                      go_simp
                      with_reducible rfl
                     rotate_left
                     ·simp only [Act.put, sA_, sZ_, sS_, i64_w, i32_w]
                      rfl
                     refine pure_ (i := 1) (N := some 110) (v := ?_) (a' := ?_) (bs 29 3) rfl rfl (any_of HT_.out (by kernel_rfl)) (fun _ _ _ h => h) (Or.inl ⟨by rfl, ?_⟩) ?_ ?_
                     rotate_left
                     ·intro w'
                      go_simp
                      with_reducible rfl
                     rotate_left
                     ·simp only [Act.put, sA_, sZ_, sS_, i64_w, i32_w]
                      rfl
                     refine pure_ (i := 2) (N := some 111) (v := ?_) (a' := ?_) (bs 29 7) rfl rfl (any_of HT_.out (by kernel_rfl)) (fun _ _ _ h => h) (Or.inl ⟨by rfl, ?_⟩) ?_ ?_
                     rotate_left
                     ·intro w'
                      go_simp
                      with_reducible rfl
                     rotate_left
                     ·simp only [Act.put, sA_, sZ_, sS_, i64_w, i32_w]
                      rfl
                     refine pure_ (i := 3) (N := some 112) (v := ?_) (a' := ?_) (bs 29 15) rfl rfl (any_of HT_.out (by kernel_rfl)) (fun _ _ _ h => h) (Or.inl ⟨by rfl, ?_⟩) ?_ ?_
                     rotate_left
                     ·intro w'
                      go_simp
                      with_reducible rfl
                     rotate_left
                     ·simp only [Act.put, sA_, sZ_, sS_, i64_w, i32_w]
                      rfl
                     refine pure_ (i := 4) (N := some 113) (v := ?_) (a' := ?_) (bs 29 31) rfl rfl (any_of HT_.out (by kernel_rfl)) (fun _ _ _ h => h) (Or.inl ⟨by rfl, ?_⟩) ?_ ?_
                     rotate_left
                     ·intro w'
                      go_simp
                      with_reducible rfl
                     rotate_left
                     ·simp only [Act.put, sA_, sZ_, sS_, i64_w, i32_w]
                      rfl
                     refine pure_ (i := 5) (N := some 114) (v := ?_) (a' := ?_) (bs 29 63) rfl rfl (any_of HT_.out (by kernel_rfl)) (fun _ _ _ h => h) (Or.inl ⟨by rfl, ?_⟩) ?_ ?_
                     rotate_left
                     ·intro w'
                      go_simp
                      with_reducible rfl
                     rotate_left
                     ·simp only [Act.put, sA_, sZ_, sS_, i64_w, i32_w]
                      rfl
                     refine pure_ (i := 6) (N := some 115) (v := ?_) (a' := ?_) (bs 29 127) rfl rfl (any_of HT_.out (by kernel_rfl)) (fun _ _ _ h => h) (Or.inl ⟨by rfl, ?_⟩) ?_ ?_
                     rotate_left
                     ·intro w'
                      go_simp
                      with_reducible rfl
                     rotate_left
                     ·simp only [Act.put, sA_, sZ_, sS_, i64_w, i32_w]
                      rfl
                     refine pure_ (i := 7) (N := some 116) (v := ?_) (a' := ?_) (bs 29 255) rfl rfl (any_of HT_.out (by kernel_rfl)) (fun _ _ _ h => h) (Or.inl ⟨by rfl, ?_⟩) ?_ ?_
                     rotate_left
                     ·intro w'
                      go_simp
                      with_reducible rfl
                     rotate_left
                     ·simp only [Act.put, sA_, sZ_, sS_, i64_w, i32_w]
                      rfl
                     refine pure_ (i := 8) (N := some 117) (v := ?_) (a' := ?_) (bs 29 511) rfl rfl (any_of HT_.out (by kernel_rfl)) (fun _ _ _ h => h) (Or.inl ⟨by rfl, ?_⟩) ?_ ?_
                     rotate_left
                     ·intro w'
                      go_simp
                      with_reducible rfl
                     rotate_left
                     ·simp only [Act.put, sA_, sZ_, sS_, i64_w, i32_w]
                      rfl
                     refine pure_ (i := 9) (N := some 118) (v := ?_) (a' := ?_) (bs 29 1023) rfl rfl (any_of HT_.out (by kernel_rfl)) (fun _ _ _ h => h) (Or.inl ⟨by rfl, ?_⟩) ?_ ?_
                     rotate_left
                     ·intro w'
                      go_simp
                      with_reducible rfl
                     rotate_left
                     ·simp only [Act.put, sA_, sZ_, sS_, i64_w, i32_w]
                      rfl
                     refine pure_ (i := 10) (N := some 119) (v := ?_) (a' := ?_) (bs 29 2047) rfl rfl (any_of HT_.out (by kernel_rfl)) (fun _ _ _ h => h) (Or.inl ⟨by rfl, ?_⟩) ?_ ?_
                     rotate_left
                     ·intro w'
                      go_simp
                      with_reducible rfl
                     rotate_left
                     ·simp only [Act.put, sA_, sZ_, sS_, i64_w, i32_w]
                      rfl
                     refine pure_ (i := 15) (N := some 124) (v := ?_) (a' := ?_) (bs 29 34815) rfl rfl (any_of HT_.out (by kernel_rfl)) (fun _ _ _ h => h) (Or.inl ⟨by rfl, ?_⟩) ?_ ?_
                     rotate_left
                     ·intro w'
                      go_simp
                      with_reducible rfl
                     rotate_left
                     ·simp only [Act.put, sA_, sZ_, sS_, i64_w, i32_w]
                      rfl
                     refine pure_ (i := 16) (N := some 125) (v := ?_) (a' := ?_) (bs 29 100351) rfl rfl (any_of HT_.out (by kernel_rfl)) (fun _ _ _ h => h) (Or.inl ⟨by rfl, ?_⟩) ?_ ?_
                     rotate_left
                     ·intro w'
                      go_simp
                      with_reducible rfl
                     rotate_left
                     ·simp only [Act.put, sA_, sZ_, sS_, i64_w, i32_w]
                      rfl
                     refine pure_ (i := 17) (N := some 126) (v := ?_) (a' := ?_) (bs 29 231423) rfl rfl (any_of HT_.out (by kernel_rfl)) (fun _ _ _ h => h) (Or.inl ⟨by rfl, ?_⟩) ?_ ?_
                     rotate_left
                     ·intro w'
                      go_simp
                      with_reducible rfl
                     rotate_left
                     ·simp only [Act.put, sA_, sZ_, sS_, i64_w, i32_w]
                      rfl
                     refine pure_ (i := 18) (N := some 127) (v := ?_) (a' := ?_) (bs 29 493567) rfl rfl (any_of HT_.out (by kernel_rfl)) (fun _ _ _ h => h) (Or.inl ⟨by rfl, ?_⟩) ?_ ?_
                     rotate_left
                     ·intro w'
                      go_simp
                      with_reducible rfl
                     rotate_left
                     ·simp only [Act.put, sA_, sZ_, sS_, i64_w, i32_w]
                      rfl
                     refine take_ (i := 11) (N := some 120) (v := ?_) (a' := ?_) (bs 29 495615) rfl rfl (take_ofW HT_.out HW_.out (by kernel_rfl)) (fun _ _ _ h => h) (Or.inl ⟨by rfl, ?_⟩) hHeld ?_ ?_
                     rotate_left
                     ·rintro w' ⟨s0, s1, s2, s3, s4, s5, s6⟩
                      go_simp
                      with_reducible rfl
                     rotate_left
                     ·simp only [Act.put, sA_, sZ_, sS_, i64_w, i32_w]
                      rfl
                     refine pure_ (i := 12) (N := some 121) (v := ?_) (a' := ?_) (bs 29 499711) rfl rfl (any_of HT_.out (by kernel_rfl)) (fun _ _ _ h => h) (Or.inl ⟨by rfl, ?_⟩) ?_ ?_
                     rotate_left
                     ·intro w'
                      go_simp
                      with_reducible rfl
                     rotate_left
                     ·simp only [Act.put, sA_, sZ_, sS_, i64_w, i32_w]
                      rfl
                     refine pure_ (i := 13) (N := some 122) (v := ?_) (a' := ?_) (bs 29 507903) rfl rfl (any_of HT_.out (by kernel_rfl)) (fun _ _ _ h => h) (Or.inl ⟨by rfl, ?_⟩) ?_ ?_
                     rotate_left
                     ·intro w'
                      go_simp
                      with_reducible rfl
                     rotate_left
                     ·simp only [Act.put, sA_, sZ_, sS_, i64_w, i32_w]
                      rfl
                     refine take_ (i := 14) (N := some 123) (v := ?_) (a' := ?_) (bs 29 524287) rfl rfl (take_ofW HT_.out HW_.out (by kernel_rfl)) (fun _ _ _ h => h) (Or.inl ⟨by rfl, ?_⟩) hHeld ?_ ?_
                     rotate_left
                     ·rintro w' ⟨s0, s1, s2, s3, s4, s5, s6⟩
                      go_simp
                      with_reducible rfl
                     rotate_left
                     ·simp only [Act.put, sA_, sZ_, sS_, i64_w, i32_w]
                      rfl
                     refine take_ (i := 19) (N := some 128) (v := ?_) (a' := ?_) (bs 29 1048575) rfl rfl (take_ofW HT_.out HW_.out (by kernel_rfl)) (fun _ _ _ h => h) (Or.inl ⟨by rfl, ?_⟩) hHeld ?_ ?_
                     rotate_left
                     ·rintro w' ⟨s0, s1, s2, s3, s4, s5, s6⟩
                      go_simp
                      with_reducible rfl
                     rotate_left
                     ·simp only [Act.put, sA_, sZ_, sS_, i64_w, i32_w]
                      rfl
                     refine pure_ (i := 20) (N := some 129) (v := ?_) (a' := ?_) (bs 29 2097151) rfl rfl (any_of HT_.out (by kernel_rfl)) (fun _ _ _ h => h) (Or.inl ⟨by rfl, ?_⟩) ?_ ?_
                     rotate_left
                     ·intro w'
                      go_simp
                      with_reducible rfl
                     rotate_left
                     ·simp only [Act.put, sA_, sZ_, sS_, i64_w, i32_w]
                      rfl
                     refine pure_ (i := 21) (N := some 130) (v := ?_) (a' := ?_) (bs 29 4194303) rfl rfl (any_of HT_.out (by kernel_rfl)) (fun _ _ _ h => h) (Or.inl ⟨by rfl, ?_⟩) ?_ ?_
                     rotate_left
                     ·intro w'
                      go_simp
                      with_reducible rfl
                     rotate_left
                     ·simp only [Act.put, sA_, sZ_, sS_, i64_w, i32_w]
                      rfl
                     refine pure_ (i := 22) (N := some 131) (v := ?_) (a' := ?_) (bs 29 8388607) rfl rfl (any_of HT_.out (by kernel_rfl)) (fun _ _ _ h => h) (Or.inl ⟨by rfl, ?_⟩) ?_ ?_
                     rotate_left
                     ·intro w'
                      go_simp
                      with_reducible rfl
                     rotate_left
                     ·simp only [Act.put, sA_, sZ_, sS_, i64_w, i32_w]
                      rfl
                     refine pure_ (i := 23) (N := some 132) (v := ?_) (a' := ?_) (bs 29 16777215) rfl rfl (any_of HT_.out (by kernel_rfl)) (fun _ _ _ h => h) (Or.inl ⟨by rfl, ?_⟩) ?_ ?_
                     rotate_left
                     ·intro w'
                      go_simp
                      with_reducible rfl
                     rotate_left
                     ·simp only [Act.put, sA_, sZ_, sS_, i64_w, i32_w]
                      rfl
                     refine pure_ (i := 24) (N := some 133) (v := ?_) (a' := ?_) (bs 29 33554431) rfl rfl (any_of HT_.out (by kernel_rfl)) (fun _ _ _ h => h) (Or.inl ⟨by rfl, ?_⟩) ?_ ?_
                     rotate_left
                     ·intro w'
                      go_simp
                      with_reducible rfl
                     rotate_left
                     ·simp only [Act.put, sA_, sZ_, sS_, i64_w, i32_w]
                      rfl
                     refine pure_ (i := 25) (N := some 134) (v := ?_) (a' := ?_) (bs 29 67108863) rfl rfl (any_of HT_.out (by kernel_rfl)) (fun _ _ _ h => h) (Or.inl ⟨by rfl, ?_⟩) ?_ ?_
                     rotate_left
                     ·intro w'
                      go_simp
                      with_reducible rfl
                     rotate_left
                     ·simp only [Act.put, sA_, sZ_, sS_, i64_w, i32_w]
                      rfl
                     refine one_ (i := 26) (N := some 135) (bs 29 134217727) rfl rfl (one_of HT_.out (by kernel_rfl)) (by decide) (fun K hK => ?_)
                     refine goes_ Try.func10 (by kernel_rfl) rfl #[.slice (some ad273) t268.length co45, .int .i64 t250] (by rfl) rfl rfl (by (try simp only [List.map_toArray, List.map_cons, List.map_nil]); first | done | rfl | (simp only [List.length_drop, List.length_take]; rfl)) ?_
                     with_reducible refine (impl_CranesOk.calls k3 _ _ t268 t250 t275 _ ?side1 ?side2 A51.out).mono ?_
                     (case side1 => repeat (first | exact (Kd.R_reads' HO270.out).2.2 | (with_reducible refine Kd.C_alloc ?_ _) | (with_reducible refine Kd.C_drewN ?_ _) | (with_reducible refine Kd.C_drew ?_)))
                     (case side2 => exact (Kd.R_reads' HO270.out).2.1)
                     rintro e w53 ⟨rfl, hb⟩
                     have HS0_ := (hb.cell (World.block_lt_of_cell? _ _ (hHeld.1))).trans (hHeld.1)
                     have HS1_ := (hb.cell (World.block_lt_of_cell? _ _ (hHeld.2.1))).trans (hHeld.2.1)
                     have HS2_ := (hb.cell (World.block_lt_of_cell? _ _ (hHeld.2.2.1))).trans (hHeld.2.2.1)
                     have HS3_ := (hb.cell (World.block_lt_of_cell? _ _ (hHeld.2.2.2.1))).trans (hHeld.2.2.2.1)
                     have HS4_ := (hb.cell (World.block_lt_of_cell? _ _ (hHeld.2.2.2.2.1))).trans (hHeld.2.2.2.2.1)
                     have HS5_ := (hb.cell (World.block_lt_of_cell? _ _ (hHeld.2.2.2.2.2.1))).trans (hHeld.2.2.2.2.2.1)
                     have HS6_ := (hb.cell (World.block_lt_of_cell? _ _ (hHeld.2.2.2.2.2.2))).trans (hHeld.2.2.2.2.2.2)
                     refine ⟨_, rfl, ?_⟩
                     have n0_ := Aside0.mk (Kd.R_below (fr_ HO_3.out) hb)
                     have n1_ := Aside0.mk (Kd.R_below (fr_ HO_5.out) hb)
                     have n2_ := Aside0.mk (Kd.R_below (fr_ HO_6.out) hb)
                     have n3_ := Aside0.mk (Kd.R_below (fr_ HO_8.out) hb)
                     have n4_ := Aside0.mk (Kd.R_below (fr_ HO270.out) hb)
                     have n5_ := Aside0.mk (below_step (bel_ HB.out) hb)
                     clear HO_3
                     clear HO_5
                     clear HO_6
                     clear HO_8
                     clear HO270
                     clear HB
                     have HO_3 := n0_
                     have HO_5 := n1_
                     have HO_6 := n2_
                     have HO_8 := n3_
                     have HO270 := n4_
                     have HB := n5_
                     clear n0_ n1_ n2_ n3_ n4_ n5_
                     (try clear hb)
                     (try clear hb2)
                     (try clear hk)
                     (try clear hi)
                     refine hK.out _ _ ⟨HS0_, HS1_, HS2_, HS3_, HS4_, HS5_, HS6_⟩ (fun hHeld => ?_)
                     clear hK K
                     refine norm_ (a' := ?_) ?_ ?_
                     rotate_left
                     ·show Act.put _ (some 135) _ = _
                      simp only [Act.put, sA_, sZ_, sS_, i64_w, i32_w]
                      rfl
                     refine pure_ (i := 27) (N := some 136) (v := ?_) (a' := ?_) (bs 29 268435455) rfl rfl (any_of HT_.out (by kernel_rfl)) (fun _ _ _ h => h) (Or.inl ⟨by rfl, ?_⟩) ?_ ?_
                     rotate_left
                     ·intro w'
                      go_simp
                      with_reducible rfl
                     rotate_left
                     ·simp only [Act.put, sA_, sZ_, sS_, i64_w, i32_w]
                      rfl
                     refine pure_ (i := 28) (N := some 137) (v := ?_) (a' := ?_) (bs 29 536870911) rfl rfl (any_of HT_.out (by kernel_rfl)) (fun _ _ _ h => h) (Or.inl ⟨by rfl, ?_⟩) ?_ ?_
                     rotate_left
                     ·intro w'
                      go_simp
                      with_reducible rfl
                     rotate_left
                     ·simp only [Act.put, sA_, sZ_, sS_, i64_w, i32_w]
                      rfl
                     refine done_ (done_of HT_.out (by kernel_rfl)) ?_
                     try go_wp2
                     go_meet
                     case rel => exact ⟨_, (!t275), (by first | rfl | (simp; done) | (simp [*]; done) | (simp [wrap64]; done)), H', ⟨by have := HK1.out; have := HJ8.out; have := HK3.out; first | omega | exact Nat.le_refl _⟩, ⟨by (with_reducible repeat (first | apply Kd.R_alloc | apply Kd.R_drewN | apply Kd.R_drew)); exact HO_3.out⟩, ⟨by (with_reducible repeat (first | apply Kd.R_alloc | apply Kd.R_drewN | apply Kd.R_drew)); exact HO_5.out⟩, ⟨by (with_reducible repeat (first | apply Kd.R_alloc | apply Kd.R_drewN | apply Kd.R_drew)); exact HO_6.out⟩, ⟨by (with_reducible repeat (first | apply Kd.R_alloc | apply Kd.R_drewN | apply Kd.R_drew)); exact Kd.R_mono HO_8.out (fun _ hk => ⟨hk.1.1, ⟨hk.1.2, hk.2⟩⟩)⟩, ⟨by (with_reducible repeat (first | apply Kd.R_alloc | apply Kd.R_drewN | apply Kd.R_drew)); exact Kd.R_mono HO270.out (fun _ hk => ⟨hk.1.1.2, ⟨hk.1.2, hk.2⟩⟩)⟩, ⟨bel_ HB.out⟩⟩
                    ·rw [if_neg c50] at H
                     have c50b0 : (((rd_T34 t268 ((rd_T31 t251 x7_1).f0)).f0) == ((rd_T31 t251 x7_1).f1)) = false := beq_eq_false_iff_ne.mpr c50
                     have c50b1 : (((rd_T34 t268 ((rd_T31 t251 x7_1).f0)).f0) != ((rd_T31 t251 x7_1).f1)) = true := bne_iff_ne.mpr c50
                     have H' := Aside0.mk H
                     clear H
                     try go_wp2
                     have n0_ := Aside0.mk (Kd.R_drew HO_3.out)
                     have n1_ := Aside0.mk (Kd.R_drew HO_5.out)
                     have n2_ := Aside0.mk (Kd.R_drew HO_6.out)
                     have n3_ := Aside0.mk (Kd.R_drew HO_8.out)
                     have n4_ := Aside0.mk (Kd.R_drew HO270.out)
                     have n5_ := Aside0.mk (below_drew1 HB.out)
                     clear HO_3
                     clear HO_5
                     clear HO_6
                     clear HO_8
                     clear HO270
                     clear HB
                     have HO_3 := n0_
                     have HO_5 := n1_
                     have HO_6 := n2_
                     have HO_8 := n3_
                     have HO270 := n4_
                     have HB := n5_
                     clear n0_ n1_ n2_ n3_ n4_ n5_
                     have p272 : 0 ≤ (x7_1 : Int) := of_decide_eq_true (by first | (with_reducible assumption) | assumption)
                     have q272 : x7_1 < (t251.length : Int) := of_decide_eq_true (by first | (with_reducible assumption) | assumption)
                     obtain ⟨ad272, e272, hx272_0, hx272_1⟩ := at_T31 (Kd.R_reads' HO_5.out).2.2 x7_1 p272 q272
                     obtain rfl : ad256 = ad272 := (by injection e272)
                     replace p272 := eq_true p272
                     replace q272 := eq_true q272
                     have p273 : 0 ≤ (((rd_T31 t251 x7_1).f0) : Int) := of_decide_eq_true (by first | (with_reducible assumption) | assumption)
                     have q273 : ((rd_T31 t251 x7_1).f0) < (t268.length : Int) := of_decide_eq_true (by first | (with_reducible assumption) | assumption)
                     obtain ⟨ad273, e273, hx273_0, hx273_1, hx273_2⟩ := at_T34 (Kd.R_reads' HO270.out).2.2 ((rd_T31 t251 x7_1).f0) p273 q273
                     cases e273
                     replace p273 := eq_true p273
                     replace q273 := eq_true q273
                     have p274 : 0 ≤ (x7_1 : Int) := of_decide_eq_true (by first | (with_reducible assumption) | assumption)
                     have q274 : x7_1 < (t251.length : Int) := of_decide_eq_true (by first | (with_reducible assumption) | assumption)
                     obtain ⟨ad274, e274, hx274_0, hx274_1⟩ := at_T31 (Kd.R_reads' HO_5.out).2.2 x7_1 p274 q274
                     obtain rfl : ad256 = ad274 := (by injection e274)
                     replace p274 := eq_true p274
                     replace q274 := eq_true q274
                     refine start_ (n := 29) (S := fun w' => w'.cell? (ad256.add ((x7_1).toNat * 2)) = some (.int .i64 ((rd_T31 t251 x7_1).f0)) ∧ w'.cell? ⟨(ad256.add ((x7_1).toNat * 2)).block, (ad256.add ((x7_1).toNat * 2)).off + 1, none⟩ = some (.int .i64 ((rd_T31 t251 x7_1).f1)) ∧ w'.cell? (ad273.add ((((rd_T31 t251 x7_1).f0)).toNat * 3)) = some (.int .i64 ((rd_T34 t268 ((rd_T31 t251 x7_1).f0)).f0)) ∧ w'.cell? ⟨(ad273.add ((((rd_T31 t251 x7_1).f0)).toNat * 3)).block, (ad273.add ((((rd_T31 t251 x7_1).f0)).toNat * 3)).off + 1, none⟩ = some (.int .i64 ((rd_T34 t268 ((rd_T31 t251 x7_1).f0)).f1)) ∧ w'.cell? ⟨(ad273.add ((((rd_T31 t251 x7_1).f0)).toNat * 3)).block, (ad273.add ((((rd_T31 t251 x7_1).f0)).toNat * 3)).off + 2, none⟩ = some (.int .i64 ((rd_T34 t268 ((rd_T31 t251 x7_1).f0)).f2)) ∧ w'.cell? (ad256.add ((x7_1).toNat * 2)) = some (.int .i64 ((rd_T31 t251 x7_1).f0)) ∧ w'.cell? ⟨(ad256.add ((x7_1).toNat * 2)).block, (ad256.add ((x7_1).toNat * 2)).off + 1, none⟩ = some (.int .i64 ((rd_T31 t251 x7_1).f1))) (ds := []) (bs 29 0) (by kernel_rfl) rfl rfl ⟨hx272_0, hx272_1, hx273_0, hx273_1, hx273_2, hx274_0, hx274_1⟩ (fun hHeld => ?_); refine with_tabW laws_FnCranes.tab19 laws_FnCranes.bits19 (fun HT_ HW_ => ?_)
                     generalize w44.drew = w54 at HO_3 HO_5 HO_6 HO_8 HO270 HB hx272_0 hx272_1 hx273_0 hx273_1 hx273_2 hx274_0 hx274_1 hHeld ⊢
                     refine pure_ (i := 0) (N := some 109) (v := ?_) (a' := ?_) (bs 29 1) rfl rfl (any_of HT_.out (by kernel_rfl)) (fun _ _ _ h => h) (Or.inl ⟨by rfl, ?_⟩) ?_ ?_
                     rotate_left
                     ·intro w'
                      go_simp
                      with_reducible rfl
                     rotate_left
                     ·simp only [Act.put, sA_, sZ_, sS_, i64_w, i32_w]
                      rfl
                     refine pure_ (i := 1) (N := some 110) (v := ?_) (a' := ?_) (bs 29 3) rfl rfl (any_of HT_.out (by kernel_rfl)) (fun _ _ _ h => h) (Or.inl ⟨by rfl, ?_⟩) ?_ ?_
                     rotate_left
                     ·intro w'
                      go_simp
                      with_reducible rfl
                     rotate_left
                     ·simp only [Act.put, sA_, sZ_, sS_, i64_w, i32_w]
                      rfl
                     refine pure_ (i := 2) (N := some 111) (v := ?_) (a' := ?_) (bs 29 7) rfl rfl (any_of HT_.out (by kernel_rfl)) (fun _ _ _ h => h) (Or.inl ⟨by rfl, ?_⟩) ?_ ?_
                     rotate_left
                     ·intro w'
                      go_simp
                      with_reducible rfl
                     rotate_left
                     ·simp only [Act.put, sA_, sZ_, sS_, i64_w, i32_w]
                      rfl
                     refine pure_ (i := 3) (N := some 112) (v := ?_) (a' := ?_) (bs 29 15) rfl rfl (any_of HT_.out (by kernel_rfl)) (fun _ _ _ h => h) (Or.inl ⟨by rfl, ?_⟩) ?_ ?_
                     rotate_left
                     ·intro w'
                      go_simp
                      with_reducible rfl
                     rotate_left
                     ·simp only [Act.put, sA_, sZ_, sS_, i64_w, i32_w]
                      rfl
                     refine pure_ (i := 4) (N := some 113) (v := ?_) (a' := ?_) (bs 29 31) rfl rfl (any_of HT_.out (by kernel_rfl)) (fun _ _ _ h => h) (Or.inl ⟨by rfl, ?_⟩) ?_ ?_
                     rotate_left
                     ·intro w'
                      go_simp
                      with_reducible rfl
                     rotate_left
                     ·simp only [Act.put, sA_, sZ_, sS_, i64_w, i32_w]
                      rfl
                     refine pure_ (i := 5) (N := some 114) (v := ?_) (a' := ?_) (bs 29 63) rfl rfl (any_of HT_.out (by kernel_rfl)) (fun _ _ _ h => h) (Or.inl ⟨by rfl, ?_⟩) ?_ ?_
                     rotate_left
                     ·intro w'
                      go_simp
                      with_reducible rfl
                     rotate_left
                     ·simp only [Act.put, sA_, sZ_, sS_, i64_w, i32_w]
                      rfl
                     refine pure_ (i := 6) (N := some 115) (v := ?_) (a' := ?_) (bs 29 127) rfl rfl (any_of HT_.out (by kernel_rfl)) (fun _ _ _ h => h) (Or.inl ⟨by rfl, ?_⟩) ?_ ?_
                     rotate_left
                     ·intro w'
                      go_simp
                      with_reducible rfl
                     rotate_left
                     ·simp only [Act.put, sA_, sZ_, sS_, i64_w, i32_w]
                      rfl
                     refine pure_ (i := 7) (N := some 116) (v := ?_) (a' := ?_) (bs 29 255) rfl rfl (any_of HT_.out (by kernel_rfl)) (fun _ _ _ h => h) (Or.inl ⟨by rfl, ?_⟩) ?_ ?_
                     rotate_left
                     ·intro w'
                      go_simp
                      with_reducible rfl
                     rotate_left
                     ·simp only [Act.put, sA_, sZ_, sS_, i64_w, i32_w]
                      rfl
                     refine pure_ (i := 8) (N := some 117) (v := ?_) (a' := ?_) (bs 29 511) rfl rfl (any_of HT_.out (by kernel_rfl)) (fun _ _ _ h => h) (Or.inl ⟨by rfl, ?_⟩) ?_ ?_
                     rotate_left
                     ·intro w'
                      go_simp
                      with_reducible rfl
                     rotate_left
                     ·simp only [Act.put, sA_, sZ_, sS_, i64_w, i32_w]
                      rfl
                     refine pure_ (i := 9) (N := some 118) (v := ?_) (a' := ?_) (bs 29 1023) rfl rfl (any_of HT_.out (by kernel_rfl)) (fun _ _ _ h => h) (Or.inl ⟨by rfl, ?_⟩) ?_ ?_
                     rotate_left
                     ·intro w'
                      go_simp
                      with_reducible rfl
                     rotate_left
                     ·simp only [Act.put, sA_, sZ_, sS_, i64_w, i32_w]
                      rfl
                     refine pure_ (i := 10) (N := some 119) (v := ?_) (a' := ?_) (bs 29 2047) rfl rfl (any_of HT_.out (by kernel_rfl)) (fun _ _ _ h => h) (Or.inl ⟨by rfl, ?_⟩) ?_ ?_
                     rotate_left
                     ·intro w'
                      go_simp
                      with_reducible rfl
                     rotate_left
                     ·simp only [Act.put, sA_, sZ_, sS_, i64_w, i32_w]
                      rfl
                     refine pure_ (i := 15) (N := some 124) (v := ?_) (a' := ?_) (bs 29 34815) rfl rfl (any_of HT_.out (by kernel_rfl)) (fun _ _ _ h => h) (Or.inl ⟨by rfl, ?_⟩) ?_ ?_
                     rotate_left
                     ·intro w'
                      go_simp
                      with_reducible rfl
                     rotate_left
                     ·simp only [Act.put, sA_, sZ_, sS_, i64_w, i32_w]
                      rfl
                     refine pure_ (i := 16) (N := some 125) (v := ?_) (a' := ?_) (bs 29 100351) rfl rfl (any_of HT_.out (by kernel_rfl)) (fun _ _ _ h => h) (Or.inl ⟨by rfl, ?_⟩) ?_ ?_
                     rotate_left
                     ·intro w'
                      go_simp
                      with_reducible rfl
                     rotate_left
                     ·simp only [Act.put, sA_, sZ_, sS_, i64_w, i32_w]
                      rfl
                     refine pure_ (i := 17) (N := some 126) (v := ?_) (a' := ?_) (bs 29 231423) rfl rfl (any_of HT_.out (by kernel_rfl)) (fun _ _ _ h => h) (Or.inl ⟨by rfl, ?_⟩) ?_ ?_
                     rotate_left
                     ·intro w'
                      go_simp
                      with_reducible rfl
                     rotate_left
                     ·simp only [Act.put, sA_, sZ_, sS_, i64_w, i32_w]
                      rfl
                     refine pure_ (i := 18) (N := some 127) (v := ?_) (a' := ?_) (bs 29 493567) rfl rfl (any_of HT_.out (by kernel_rfl)) (fun _ _ _ h => h) (Or.inl ⟨by rfl, ?_⟩) ?_ ?_
                     rotate_left
                     ·intro w'
                      go_simp
                      with_reducible rfl
                     rotate_left
                     ·simp only [Act.put, sA_, sZ_, sS_, i64_w, i32_w]
                      rfl
                     refine take_ (i := 11) (N := some 120) (v := ?_) (a' := ?_) (bs 29 495615) rfl rfl (take_ofW HT_.out HW_.out (by kernel_rfl)) (fun _ _ _ h => h) (Or.inl ⟨by rfl, ?_⟩) hHeld ?_ ?_
                     rotate_left
                     ·rintro w' ⟨s0, s1, s2, s3, s4, s5, s6⟩
                      go_simp
                      with_reducible rfl
                     rotate_left
                     ·simp only [Act.put, sA_, sZ_, sS_, i64_w, i32_w]
                      rfl
                     refine pure_ (i := 12) (N := some 121) (v := ?_) (a' := ?_) (bs 29 499711) rfl rfl (any_of HT_.out (by kernel_rfl)) (fun _ _ _ h => h) (Or.inl ⟨by rfl, ?_⟩) ?_ ?_
                     rotate_left
                     ·intro w'
                      go_simp
                      with_reducible rfl
                     rotate_left
                     ·simp only [Act.put, sA_, sZ_, sS_, i64_w, i32_w]
                      rfl
                     refine pure_ (i := 13) (N := some 122) (v := ?_) (a' := ?_) (bs 29 507903) rfl rfl (any_of HT_.out (by kernel_rfl)) (fun _ _ _ h => h) (Or.inl ⟨by rfl, ?_⟩) ?_ ?_
                     rotate_left
                     ·intro w'
                      go_simp
                      with_reducible rfl
                     rotate_left
                     ·simp only [Act.put, sA_, sZ_, sS_, i64_w, i32_w]
                      rfl
                     refine take_ (i := 14) (N := some 123) (v := ?_) (a' := ?_) (bs 29 524287) rfl rfl (take_ofW HT_.out HW_.out (by kernel_rfl)) (fun _ _ _ h => h) (Or.inl ⟨by rfl, ?_⟩) hHeld ?_ ?_
                     rotate_left
                     ·rintro w' ⟨s0, s1, s2, s3, s4, s5, s6⟩
                      go_simp
                      with_reducible rfl
                     rotate_left
                     ·simp only [Act.put, sA_, sZ_, sS_, i64_w, i32_w]
                      rfl
                     refine take_ (i := 19) (N := some 128) (v := ?_) (a' := ?_) (bs 29 1048575) rfl rfl (take_ofW HT_.out HW_.out (by kernel_rfl)) (fun _ _ _ h => h) (Or.inl ⟨by rfl, ?_⟩) hHeld ?_ ?_
                     rotate_left
                     ·rintro w' ⟨s0, s1, s2, s3, s4, s5, s6⟩
                      go_simp
                      with_reducible rfl
                     rotate_left
                     ·simp only [Act.put, sA_, sZ_, sS_, i64_w, i32_w]
                      rfl
                     refine pure_ (i := 20) (N := some 129) (v := ?_) (a' := ?_) (bs 29 2097151) rfl rfl (any_of HT_.out (by kernel_rfl)) (fun _ _ _ h => h) (Or.inl ⟨by rfl, ?_⟩) ?_ ?_
                     rotate_left
                     ·intro w'
                      go_simp
                      with_reducible rfl
                     rotate_left
                     ·simp only [Act.put, sA_, sZ_, sS_, i64_w, i32_w]
                      rfl
                     refine pure_ (i := 21) (N := some 130) (v := ?_) (a' := ?_) (bs 29 4194303) rfl rfl (any_of HT_.out (by kernel_rfl)) (fun _ _ _ h => h) (Or.inl ⟨by rfl, ?_⟩) ?_ ?_
                     rotate_left
                     ·intro w'
                      go_simp
                      with_reducible rfl
                     rotate_left
                     ·simp only [Act.put, sA_, sZ_, sS_, i64_w, i32_w]
                      rfl
                     refine pure_ (i := 22) (N := some 131) (v := ?_) (a' := ?_) (bs 29 8388607) rfl rfl (any_of HT_.out (by kernel_rfl)) (fun _ _ _ h => h) (Or.inl ⟨by rfl, ?_⟩) ?_ ?_
                     rotate_left
                     ·intro w'
                      go_simp
                      with_reducible rfl
                     rotate_left
                     ·simp only [Act.put, sA_, sZ_, sS_, i64_w, i32_w]
                      rfl
                     refine pure_ (i := 23) (N := some 132) (v := ?_) (a' := ?_) (bs 29 16777215) rfl rfl (any_of HT_.out (by kernel_rfl)) (fun _ _ _ h => h) (Or.inl ⟨by rfl, ?_⟩) ?_ ?_
                     rotate_left
                     ·intro w'
                      go_simp
                      with_reducible rfl
                     rotate_left
                     ·simp only [Act.put, sA_, sZ_, sS_, i64_w, i32_w]
                      rfl
                     refine pure_ (i := 24) (N := some 133) (v := undef) (a' := ?_) (bs 29 33554431) rfl rfl (any_of HT_.out (by kernel_rfl)) (fun _ _ _ h => h) (Or.inr ⟨by rfl, rfl⟩) ?_ ?_
                     rotate_left
                     ·simp only [Act.put, sA_, sZ_, sS_, i64_w, i32_w]
                      rfl
                     refine pure_ (i := 25) (N := some 134) (v := undef) (a' := ?_) (bs 29 67108863) rfl rfl (any_of HT_.out (by kernel_rfl)) (fun _ _ _ h => h) (Or.inr ⟨by rfl, rfl⟩) ?_ ?_
                     rotate_left
                     ·simp only [Act.put, sA_, sZ_, sS_, i64_w, i32_w]
                      rfl
                     refine pure_ (i := 26) (N := some 135) (v := undef) (a' := ?_) (bs 29 134217727) rfl rfl (any_of HT_.out (by kernel_rfl)) (fun _ _ _ h => h) (Or.inr ⟨by rfl, rfl⟩) ?_ ?_
                     rotate_left
                     ·simp only [Act.put, sA_, sZ_, sS_, i64_w, i32_w]
                      rfl
                     refine pure_ (i := 27) (N := some 136) (v := undef) (a' := ?_) (bs 29 268435455) rfl rfl (any_of HT_.out (by kernel_rfl)) (fun _ _ _ h => h) (Or.inr ⟨by rfl, rfl⟩) ?_ ?_
                     rotate_left
                     ·simp only [Act.put, sA_, sZ_, sS_, i64_w, i32_w]
                      rfl
                     refine pure_ (i := 28) (N := some 137) (v := ?_) (a' := ?_) (bs 29 536870911) rfl rfl (any_of HT_.out (by kernel_rfl)) (fun _ _ _ h => h) (Or.inl ⟨by rfl, ?_⟩) ?_ ?_
                     rotate_left
                     ·intro w'
                      go_simp
                      with_reducible rfl
                     rotate_left
                     ·simp only [Act.put, sA_, sZ_, sS_, i64_w, i32_w]
                      rfl
                     refine done_ (done_of HT_.out (by kernel_rfl)) ?_
                     try go_wp2
                     go_meet
                     case rel => exact ⟨_, (true), (by first | rfl | (simp; done) | (simp [*]; done) | (simp [wrap64]; done)), H', ⟨by have := HK1.out; have := HJ8.out; have := HK3.out; first | omega | exact Nat.le_refl _⟩, ⟨by (with_reducible repeat (first | apply Kd.R_alloc | apply Kd.R_drewN | apply Kd.R_drew)); exact HO_3.out⟩, ⟨by (with_reducible repeat (first | apply Kd.R_alloc | apply Kd.R_drewN | apply Kd.R_drew)); exact HO_5.out⟩, ⟨by (with_reducible repeat (first | apply Kd.R_alloc | apply Kd.R_drewN | apply Kd.R_drew)); exact HO_6.out⟩, ⟨by (with_reducible repeat (first | apply Kd.R_alloc | apply Kd.R_drewN | apply Kd.R_drew)); exact Kd.R_mono HO_8.out (fun _ hk => ⟨hk.1.1, ⟨hk.1.2, hk.2⟩⟩)⟩, ⟨by (with_reducible repeat (first | apply Kd.R_alloc | apply Kd.R_drewN | apply Kd.R_drew)); exact Kd.R_mono HO270.out (fun _ hk => ⟨hk.1.1.2, ⟨hk.1.2, hk.2⟩⟩)⟩, ⟨bel_ HB.out⟩⟩
                   ·rw [if_neg c49] at H
                    exact absurd H (by simp)
                  ·rw [if_neg c48] at H
                   exact absurd H (by simp)
                 ·replace c47 := Bool.eq_false_iff.mpr c47
                  subst c47
                  have H1 : (laws_FnCranes.j3 k3 t249 t250 t251 x6_1 x7_1 t257 t260 t268 true) = some r := by rw [if_neg (show ¬ (false = true) by decide)] at H; exact H
                  clear H
                  have H := H1
                  clear H1
                  have H' := Aside0.mk H
                  clear H
                  try go_wp2
                  have n0_ := Aside0.mk (Kd.R_drew HO_3.out)
                  have n1_ := Aside0.mk (Kd.R_drew HO_5.out)
                  have n2_ := Aside0.mk (Kd.R_drew HO_6.out)
                  have n3_ := Aside0.mk (Kd.R_drew HO_8.out)
                  have n4_ := Aside0.mk (Kd.R_drew HO270.out)
                  have n5_ := Aside0.mk (below_drew1 HB.out)
                  clear HO_3
                  clear HO_5
                  clear HO_6
                  clear HO_8
                  clear HO270
                  clear HB
                  have HO_3 := n0_
                  have HO_5 := n1_
                  have HO_6 := n2_
                  have HO_8 := n3_
                  have HO270 := n4_
                  have HB := n5_
                  clear n0_ n1_ n2_ n3_ n4_ n5_
                  refine start_ (n := 29) (S := fun w' => True) (ds := []) (bs 29 0) (by kernel_rfl) rfl rfl trivial (fun hHeld => ?_); refine with_tabW laws_FnCranes.tab19 laws_FnCranes.bits19 (fun HT_ HW_ => ?_)
                  generalize w44.drew = w55 at HO_3 HO_5 HO_6 HO_8 HO270 HB hHeld ⊢
                  refine pure_ (i := 0) (N := some 109) (v := ?_) (a' := ?_) (bs 29 1) rfl rfl (any_of HT_.out (by kernel_rfl)) (fun _ _ _ h => h) (Or.inl ⟨by rfl, ?_⟩) ?_ ?_
                  rotate_left
                  ·intro w'
                   go_simp
                   with_reducible rfl
                  rotate_left
                  ·simp only [Act.put, sA_, sZ_, sS_, i64_w, i32_w]
                   rfl
                  refine pure_ (i := 1) (N := some 110) (v := ?_) (a' := ?_) (bs 29 3) rfl rfl (any_of HT_.out (by kernel_rfl)) (fun _ _ _ h => h) (Or.inl ⟨by rfl, ?_⟩) ?_ ?_
                  rotate_left
                  ·intro w'
                   go_simp
                   with_reducible rfl
                  rotate_left
                  ·simp only [Act.put, sA_, sZ_, sS_, i64_w, i32_w]
                   rfl
                  refine pure_ (i := 2) (N := some 111) (v := ?_) (a' := ?_) (bs 29 7) rfl rfl (any_of HT_.out (by kernel_rfl)) (fun _ _ _ h => h) (Or.inl ⟨by rfl, ?_⟩) ?_ ?_
                  rotate_left
                  ·intro w'
                   go_simp
                   with_reducible rfl
                  rotate_left
                  ·simp only [Act.put, sA_, sZ_, sS_, i64_w, i32_w]
                   rfl
                  refine pure_ (i := 3) (N := some 112) (v := ?_) (a' := ?_) (bs 29 15) rfl rfl (any_of HT_.out (by kernel_rfl)) (fun _ _ _ h => h) (Or.inl ⟨by rfl, ?_⟩) ?_ ?_
                  rotate_left
                  ·intro w'
                   go_simp
                   with_reducible rfl
                  rotate_left
                  ·simp only [Act.put, sA_, sZ_, sS_, i64_w, i32_w]
                   rfl
                  refine pure_ (i := 4) (N := some 113) (v := ?_) (a' := ?_) (bs 29 31) rfl rfl (any_of HT_.out (by kernel_rfl)) (fun _ _ _ h => h) (Or.inl ⟨by rfl, ?_⟩) ?_ ?_
                  rotate_left
                  ·intro w'
                   go_simp
                   with_reducible rfl
                  rotate_left
                  ·simp only [Act.put, sA_, sZ_, sS_, i64_w, i32_w]
                   rfl
                  refine pure_ (i := 5) (N := some 114) (v := ?_) (a' := ?_) (bs 29 63) rfl rfl (any_of HT_.out (by kernel_rfl)) (fun _ _ _ h => h) (Or.inl ⟨by rfl, ?_⟩) ?_ ?_
                  rotate_left
                  ·intro w'
                   go_simp
                   with_reducible rfl
                  rotate_left
                  ·simp only [Act.put, sA_, sZ_, sS_, i64_w, i32_w]
                   rfl
                  refine pure_ (i := 6) (N := some 115) (v := undef) (a' := ?_) (bs 29 127) rfl rfl (any_of HT_.out (by kernel_rfl)) (fun _ _ _ h => h) (Or.inr ⟨by rfl, rfl⟩) ?_ ?_
                  rotate_left
                  ·simp only [Act.put, sA_, sZ_, sS_, i64_w, i32_w]
                   rfl
                  refine pure_ (i := 7) (N := some 116) (v := undef) (a' := ?_) (bs 29 255) rfl rfl (any_of HT_.out (by kernel_rfl)) (fun _ _ _ h => h) (Or.inr ⟨by rfl, rfl⟩) ?_ ?_
                  rotate_left
                  ·simp only [Act.put, sA_, sZ_, sS_, i64_w, i32_w]
                   rfl
                  refine pure_ (i := 8) (N := some 117) (v := undef) (a' := ?_) (bs 29 511) rfl rfl (any_of HT_.out (by kernel_rfl)) (fun _ _ _ h => h) (Or.inr ⟨by rfl, rfl⟩) ?_ ?_
                  rotate_left
                  ·simp only [Act.put, sA_, sZ_, sS_, i64_w, i32_w]
                   rfl
                  refine pure_ (i := 9) (N := some 118) (v := undef) (a' := ?_) (bs 29 1023) rfl rfl (any_of HT_.out (by kernel_rfl)) (fun _ _ _ h => h) (Or.inr ⟨by rfl, rfl⟩) ?_ ?_
                  rotate_left
                  ·simp only [Act.put, sA_, sZ_, sS_, i64_w, i32_w]
                   rfl
                  refine pure_ (i := 10) (N := some 119) (v := undef) (a' := ?_) (bs 29 2047) rfl rfl (any_of HT_.out (by kernel_rfl)) (fun _ _ _ h => h) (Or.inr ⟨by rfl, rfl⟩) ?_ ?_
                  rotate_left
                  ·simp only [Act.put, sA_, sZ_, sS_, i64_w, i32_w]
                   rfl
                  refine pure_ (i := 11) (N := some 120) (v := undef) (a' := ?_) (bs 29 4095) rfl rfl (any_of HT_.out (by kernel_rfl)) (fun _ _ _ h => h) (Or.inr ⟨by rfl, rfl⟩) ?_ ?_
                  rotate_left
                  ·simp only [Act.put, sA_, sZ_, sS_, i64_w, i32_w]
                   rfl
                  refine pure_ (i := 12) (N := some 121) (v := undef) (a' := ?_) (bs 29 8191) rfl rfl (any_of HT_.out (by kernel_rfl)) (fun _ _ _ h => h) (Or.inr ⟨by rfl, rfl⟩) ?_ ?_
                  rotate_left
                  ·simp only [Act.put, sA_, sZ_, sS_, i64_w, i32_w]
                   rfl
                  refine pure_ (i := 13) (N := some 122) (v := undef) (a' := ?_) (bs 29 16383) rfl rfl (any_of HT_.out (by kernel_rfl)) (fun _ _ _ h => h) (Or.inr ⟨by rfl, rfl⟩) ?_ ?_
                  rotate_left
                  ·simp only [Act.put, sA_, sZ_, sS_, i64_w, i32_w]
                   rfl
                  refine pure_ (i := 14) (N := some 123) (v := undef) (a' := ?_) (bs 29 32767) rfl rfl (any_of HT_.out (by kernel_rfl)) (fun _ _ _ h => h) (Or.inr ⟨by rfl, rfl⟩) ?_ ?_
                  rotate_left
                  ·simp only [Act.put, sA_, sZ_, sS_, i64_w, i32_w]
                   rfl
                  refine pure_ (i := 15) (N := some 124) (v := undef) (a' := ?_) (bs 29 65535) rfl rfl (any_of HT_.out (by kernel_rfl)) (fun _ _ _ h => h) (Or.inr ⟨by rfl, rfl⟩) ?_ ?_
                  rotate_left
                  ·simp only [Act.put, sA_, sZ_, sS_, i64_w, i32_w]
                   rfl
                  refine pure_ (i := 16) (N := some 125) (v := undef) (a' := ?_) (bs 29 131071) rfl rfl (any_of HT_.out (by kernel_rfl)) (fun _ _ _ h => h) (Or.inr ⟨by rfl, rfl⟩) ?_ ?_
                  rotate_left
                  ·simp only [Act.put, sA_, sZ_, sS_, i64_w, i32_w]
                   rfl
                  refine pure_ (i := 17) (N := some 126) (v := undef) (a' := ?_) (bs 29 262143) rfl rfl (any_of HT_.out (by kernel_rfl)) (fun _ _ _ h => h) (Or.inr ⟨by rfl, rfl⟩) ?_ ?_
                  rotate_left
                  ·simp only [Act.put, sA_, sZ_, sS_, i64_w, i32_w]
                   rfl
                  refine pure_ (i := 18) (N := some 127) (v := undef) (a' := ?_) (bs 29 524287) rfl rfl (any_of HT_.out (by kernel_rfl)) (fun _ _ _ h => h) (Or.inr ⟨by rfl, rfl⟩) ?_ ?_
                  rotate_left
                  ·simp only [Act.put, sA_, sZ_, sS_, i64_w, i32_w]
                   rfl
                  refine pure_ (i := 19) (N := some 128) (v := undef) (a' := ?_) (bs 29 1048575) rfl rfl (any_of HT_.out (by kernel_rfl)) (fun _ _ _ h => h) (Or.inr ⟨by rfl, rfl⟩) ?_ ?_
                  rotate_left
                  ·simp only [Act.put, sA_, sZ_, sS_, i64_w, i32_w]
                   rfl
                  refine pure_ (i := 20) (N := some 129) (v := undef) (a' := ?_) (bs 29 2097151) rfl rfl (any_of HT_.out (by kernel_rfl)) (fun _ _ _ h => h) (Or.inr ⟨by rfl, rfl⟩) ?_ ?_
                  rotate_left
                  ·simp only [Act.put, sA_, sZ_, sS_, i64_w, i32_w]
                   rfl
                  refine pure_ (i := 21) (N := some 130) (v := ?_) (a' := ?_) (bs 29 4194303) rfl rfl (any_of HT_.out (by kernel_rfl)) (fun _ _ _ h => h) (Or.inl ⟨by rfl, ?_⟩) ?_ ?_
                  rotate_left
                  ·intro w'
                   go_simp
                   with_reducible rfl
                  rotate_left
                  ·simp only [Act.put, sA_, sZ_, sS_, i64_w, i32_w]
                   rfl
                  refine pure_ (i := 22) (N := some 131) (v := ?_) (a' := ?_) (bs 29 8388607) rfl rfl (any_of HT_.out (by kernel_rfl)) (fun _ _ _ h => h) (Or.inl ⟨by rfl, ?_⟩) ?_ ?_
                  rotate_left
                  ·intro w'
                   go_simp
                   with_reducible rfl
                  rotate_left
                  ·simp only [Act.put, sA_, sZ_, sS_, i64_w, i32_w]
                   rfl
                  refine pure_ (i := 23) (N := some 132) (v := ?_) (a' := ?_) (bs 29 16777215) rfl rfl (any_of HT_.out (by kernel_rfl)) (fun _ _ _ h => h) (Or.inl ⟨by rfl, ?_⟩) ?_ ?_
                  rotate_left
                  ·intro w'
                   go_simp
                   with_reducible rfl
                  rotate_left
                  ·simp only [Act.put, sA_, sZ_, sS_, i64_w, i32_w]
                   rfl
                  refine pure_ (i := 24) (N := some 133) (v := undef) (a' := ?_) (bs 29 33554431) rfl rfl (any_of HT_.out (by kernel_rfl)) (fun _ _ _ h => h) (Or.inr ⟨by rfl, rfl⟩) ?_ ?_
                  rotate_left
                  ·simp only [Act.put, sA_, sZ_, sS_, i64_w, i32_w]
                   rfl
                  refine pure_ (i := 25) (N := some 134) (v := undef) (a' := ?_) (bs 29 67108863) rfl rfl (any_of HT_.out (by kernel_rfl)) (fun _ _ _ h => h) (Or.inr ⟨by rfl, rfl⟩) ?_ ?_
                  rotate_left
                  ·simp only [Act.put, sA_, sZ_, sS_, i64_w, i32_w]
                   rfl
                  refine pure_ (i := 26) (N := some 135) (v := undef) (a' := ?_) (bs 29 134217727) rfl rfl (any_of HT_.out (by kernel_rfl)) (fun _ _ _ h => h) (Or.inr ⟨by rfl, rfl⟩) ?_ ?_
                  rotate_left
                  ·simp only [Act.put, sA_, sZ_, sS_, i64_w, i32_w]
                   rfl
                  refine pure_ (i := 27) (N := some 136) (v := undef) (a' := ?_) (bs 29 268435455) rfl rfl (any_of HT_.out (by kernel_rfl)) (fun _ _ _ h => h) (Or.inr ⟨by rfl, rfl⟩) ?_ ?_
                  rotate_left
                  ·simp only [Act.put, sA_, sZ_, sS_, i64_w, i32_w]
                   rfl
                  refine pure_ (i := 28) (N := some 137) (v := ?_) (a' := ?_) (bs 29 536870911) rfl rfl (any_of HT_.out (by kernel_rfl)) (fun _ _ _ h => h) (Or.inl ⟨by rfl, ?_⟩) ?_ ?_
                  rotate_left
                  ·intro w'
                   go_simp
                   with_reducible rfl
                  rotate_left
                  ·simp only [Act.put, sA_, sZ_, sS_, i64_w, i32_w]
                   rfl
                  refine done_ (done_of HT_.out (by kernel_rfl)) ?_
                  try go_wp2
                  go_meet
                  case rel => exact ⟨_, (true), (by first | rfl | (simp; done) | (simp [*]; done) | (simp [wrap64]; done)), H', ⟨by have := HK1.out; have := HJ8.out; have := HK3.out; first | omega | exact Nat.le_refl _⟩, ⟨by (with_reducible repeat (first | apply Kd.R_alloc | apply Kd.R_drewN | apply Kd.R_drew)); exact HO_3.out⟩, ⟨by (with_reducible repeat (first | apply Kd.R_alloc | apply Kd.R_drewN | apply Kd.R_drew)); exact HO_5.out⟩, ⟨by (with_reducible repeat (first | apply Kd.R_alloc | apply Kd.R_drewN | apply Kd.R_drew)); exact HO_6.out⟩, ⟨by (with_reducible repeat (first | apply Kd.R_alloc | apply Kd.R_drewN | apply Kd.R_drew)); exact Kd.R_mono HO_8.out (fun _ hk => ⟨hk.1.1, ⟨hk.1.2, hk.2⟩⟩)⟩, ⟨by (with_reducible repeat (first | apply Kd.R_alloc | apply Kd.R_drewN | apply Kd.R_drew)); exact Kd.R_mono HO270.out (fun _ hk => ⟨hk.1.1.2, ⟨hk.1.2, hk.2⟩⟩)⟩, ⟨bel_ HB.out⟩⟩
                ·rw [if_neg c46] at H
                 have c46b0 : (t260 == 0) = false := beq_eq_false_iff_ne.mpr c46
                 have c46b1 : (t260 != 0) = true := bne_iff_ne.mpr c46
                 (first | rw [c46b0] | (simp only [i64_w, i32_w]; rw [c46b0]) | skip)
                 replace H := Option.bind_eq_some_iff.mp H
                 obtain ⟨t276, A560, H⟩ := H
                 replace H : (laws_FnCranes.j3 k3 t249 t250 t251 x6_1 x7_1 t257 t260 t268 (!t276)) = some r := H
                 have A56 := Aside0.mk A560
                 clear A560
                 have H' := Aside0.mk H
                 clear H
                 try go_wp2
                 have n0_ := Aside0.mk (Kd.R_drew HO_3.out)
                 have n1_ := Aside0.mk (Kd.R_drew HO_5.out)
                 have n2_ := Aside0.mk (Kd.R_drew HO_6.out)
                 have n3_ := Aside0.mk (Kd.R_drew HO_8.out)
                 have n4_ := Aside0.mk (Kd.R_drew HO270.out)
                 have n5_ := Aside0.mk (below_drew1 HB.out)
                 clear HO_3
                 clear HO_5
                 clear HO_6
                 clear HO_8
                 clear HO270
                 clear HB
                 have HO_3 := n0_
                 have HO_5 := n1_
                 have HO_6 := n2_
                 have HO_8 := n3_
                 have HO270 := n4_
                 have HB := n5_
                 clear n0_ n1_ n2_ n3_ n4_ n5_
                 refine start_ (n := 29) (S := fun w' => True) (ds := []) (bs 29 0) (by kernel_rfl) rfl rfl trivial (fun hHeld => ?_); refine with_tabW laws_FnCranes.tab19 laws_FnCranes.bits19 (fun HT_ HW_ => ?_)
                 generalize w44.drew = w57 at HO_3 HO_5 HO_6 HO_8 HO270 HB hHeld ⊢
                 refine pure_ (i := 0) (N := some 109) (v := ?_) (a' := ?_) (bs 29 1) rfl rfl (any_of HT_.out (by kernel_rfl)) (fun _ _ _ h => h) (Or.inl ⟨by rfl, ?_⟩) ?_ ?_
                 rotate_left
                 ·intro w'
                  go_simp
                  with_reducible rfl
                 rotate_left
                 ·simp only [Act.put, sA_, sZ_, sS_, i64_w, i32_w]
                  rfl
                 refine pure_ (i := 1) (N := some 110) (v := ?_) (a' := ?_) (bs 29 3) rfl rfl (any_of HT_.out (by kernel_rfl)) (fun _ _ _ h => h) (Or.inl ⟨by rfl, ?_⟩) ?_ ?_
                 rotate_left
                 ·intro w'
                  go_simp
                  with_reducible rfl
                 rotate_left
                 ·simp only [Act.put, sA_, sZ_, sS_, i64_w, i32_w]
                  rfl
                 refine pure_ (i := 2) (N := some 111) (v := ?_) (a' := ?_) (bs 29 7) rfl rfl (any_of HT_.out (by kernel_rfl)) (fun _ _ _ h => h) (Or.inl ⟨by rfl, ?_⟩) ?_ ?_
                 rotate_left
                 ·intro w'
                  go_simp
                  with_reducible rfl
                 rotate_left
                 ·simp only [Act.put, sA_, sZ_, sS_, i64_w, i32_w]
                  rfl
                 refine pure_ (i := 3) (N := some 112) (v := undef) (a' := ?_) (bs 29 15) rfl rfl (any_of HT_.out (by kernel_rfl)) (fun _ _ _ h => h) (Or.inr ⟨by rfl, rfl⟩) ?_ ?_
                 rotate_left
                 ·simp only [Act.put, sA_, sZ_, sS_, i64_w, i32_w]
                  rfl
                 refine pure_ (i := 4) (N := some 113) (v := undef) (a' := ?_) (bs 29 31) rfl rfl (any_of HT_.out (by kernel_rfl)) (fun _ _ _ h => h) (Or.inr ⟨by rfl, rfl⟩) ?_ ?_
                 rotate_left
                 ·simp only [Act.put, sA_, sZ_, sS_, i64_w, i32_w]
                  rfl
                 refine pure_ (i := 5) (N := some 114) (v := undef) (a' := ?_) (bs 29 63) rfl rfl (any_of HT_.out (by kernel_rfl)) (fun _ _ _ h => h) (Or.inr ⟨by rfl, rfl⟩) ?_ ?_
                 rotate_left
                 ·simp only [Act.put, sA_, sZ_, sS_, i64_w, i32_w]
                  rfl
                 refine pure_ (i := 6) (N := some 115) (v := undef) (a' := ?_) (bs 29 127) rfl rfl (any_of HT_.out (by kernel_rfl)) (fun _ _ _ h => h) (Or.inr ⟨by rfl, rfl⟩) ?_ ?_
                 rotate_left
                 ·simp only [Act.put, sA_, sZ_, sS_, i64_w, i32_w]
                  rfl
                 refine pure_ (i := 7) (N := some 116) (v := undef) (a' := ?_) (bs 29 255) rfl rfl (any_of HT_.out (by kernel_rfl)) (fun _ _ _ h => h) (Or.inr ⟨by rfl, rfl⟩) ?_ ?_
                 rotate_left
                 ·simp only [Act.put, sA_, sZ_, sS_, i64_w, i32_w]
                  rfl
                 refine pure_ (i := 8) (N := some 117) (v := undef) (a' := ?_) (bs 29 511) rfl rfl (any_of HT_.out (by kernel_rfl)) (fun _ _ _ h => h) (Or.inr ⟨by rfl, rfl⟩) ?_ ?_
                 rotate_left
                 ·simp only [Act.put, sA_, sZ_, sS_, i64_w, i32_w]
                  rfl
                 refine pure_ (i := 9) (N := some 118) (v := undef) (a' := ?_) (bs 29 1023) rfl rfl (any_of HT_.out (by kernel_rfl)) (fun _ _ _ h => h) (Or.inr ⟨by rfl, rfl⟩) ?_ ?_
                 rotate_left
                 ·simp only [Act.put, sA_, sZ_, sS_, i64_w, i32_w]
                  rfl
                 refine pure_ (i := 10) (N := some 119) (v := undef) (a' := ?_) (bs 29 2047) rfl rfl (any_of HT_.out (by kernel_rfl)) (fun _ _ _ h => h) (Or.inr ⟨by rfl, rfl⟩) ?_ ?_
                 rotate_left
                 ·simp only [Act.put, sA_, sZ_, sS_, i64_w, i32_w]
                  rfl
                 refine pure_ (i := 11) (N := some 120) (v := undef) (a' := ?_) (bs 29 4095) rfl rfl (any_of HT_.out (by kernel_rfl)) (fun _ _ _ h => h) (Or.inr ⟨by rfl, rfl⟩) ?_ ?_
                 rotate_left
                 ·simp only [Act.put, sA_, sZ_, sS_, i64_w, i32_w]
                  rfl
                 refine pure_ (i := 12) (N := some 121) (v := undef) (a' := ?_) (bs 29 8191) rfl rfl (any_of HT_.out (by kernel_rfl)) (fun _ _ _ h => h) (Or.inr ⟨by rfl, rfl⟩) ?_ ?_
                 rotate_left
                 ·simp only [Act.put, sA_, sZ_, sS_, i64_w, i32_w]
                  rfl
                 refine pure_ (i := 13) (N := some 122) (v := undef) (a' := ?_) (bs 29 16383) rfl rfl (any_of HT_.out (by kernel_rfl)) (fun _ _ _ h => h) (Or.inr ⟨by rfl, rfl⟩) ?_ ?_
                 rotate_left
                 ·simp only [Act.put, sA_, sZ_, sS_, i64_w, i32_w]
                  rfl
                 refine pure_ (i := 14) (N := some 123) (v := undef) (a' := ?_) (bs 29 32767) rfl rfl (any_of HT_.out (by kernel_rfl)) (fun _ _ _ h => h) (Or.inr ⟨by rfl, rfl⟩) ?_ ?_
                 rotate_left
                 ·simp only [Act.put, sA_, sZ_, sS_, i64_w, i32_w]
                  rfl
                 refine pure_ (i := 15) (N := some 124) (v := undef) (a' := ?_) (bs 29 65535) rfl rfl (any_of HT_.out (by kernel_rfl)) (fun _ _ _ h => h) (Or.inr ⟨by rfl, rfl⟩) ?_ ?_
                 rotate_left
                 ·simp only [Act.put, sA_, sZ_, sS_, i64_w, i32_w]
                  rfl
                 refine pure_ (i := 16) (N := some 125) (v := undef) (a' := ?_) (bs 29 131071) rfl rfl (any_of HT_.out (by kernel_rfl)) (fun _ _ _ h => h) (Or.inr ⟨by rfl, rfl⟩) ?_ ?_
                 rotate_left
                 ·simp only [Act.put, sA_, sZ_, sS_, i64_w, i32_w]
                  rfl
                 refine pure_ (i := 17) (N := some 126) (v := undef) (a' := ?_) (bs 29 262143) rfl rfl (any_of HT_.out (by kernel_rfl)) (fun _ _ _ h => h) (Or.inr ⟨by rfl, rfl⟩) ?_ ?_
                 rotate_left
                 ·simp only [Act.put, sA_, sZ_, sS_, i64_w, i32_w]
                  rfl
                 refine pure_ (i := 18) (N := some 127) (v := undef) (a' := ?_) (bs 29 524287) rfl rfl (any_of HT_.out (by kernel_rfl)) (fun _ _ _ h => h) (Or.inr ⟨by rfl, rfl⟩) ?_ ?_
                 rotate_left
                 ·simp only [Act.put, sA_, sZ_, sS_, i64_w, i32_w]
                  rfl
                 refine pure_ (i := 19) (N := some 128) (v := undef) (a' := ?_) (bs 29 1048575) rfl rfl (any_of HT_.out (by kernel_rfl)) (fun _ _ _ h => h) (Or.inr ⟨by rfl, rfl⟩) ?_ ?_
                 rotate_left
                 ·simp only [Act.put, sA_, sZ_, sS_, i64_w, i32_w]
                  rfl
                 refine pure_ (i := 20) (N := some 129) (v := undef) (a' := ?_) (bs 29 2097151) rfl rfl (any_of HT_.out (by kernel_rfl)) (fun _ _ _ h => h) (Or.inr ⟨by rfl, rfl⟩) ?_ ?_
                 rotate_left
                 ·simp only [Act.put, sA_, sZ_, sS_, i64_w, i32_w]
                  rfl
                 refine pure_ (i := 21) (N := some 130) (v := undef) (a' := ?_) (bs 29 4194303) rfl rfl (any_of HT_.out (by kernel_rfl)) (fun _ _ _ h => h) (Or.inr ⟨by rfl, rfl⟩) ?_ ?_
                 rotate_left
                 ·simp only [Act.put, sA_, sZ_, sS_, i64_w, i32_w]
                  rfl
                 refine pure_ (i := 22) (N := some 131) (v := ?_) (a' := ?_) (bs 29 8388607) rfl rfl (any_of HT_.out (by kernel_rfl)) (fun _ _ _ h => h) (Or.inl ⟨by rfl, ?_⟩) ?_ ?_
                 rotate_left
                 ·intro w'
                  go_simp
                  with_reducible rfl
                 rotate_left
                 ·simp only [Act.put, sA_, sZ_, sS_, i64_w, i32_w]
                  rfl
                 refine pure_ (i := 23) (N := some 132) (v := ?_) (a' := ?_) (bs 29 16777215) rfl rfl (any_of HT_.out (by kernel_rfl)) (fun _ _ _ h => h) (Or.inl ⟨by rfl, ?_⟩) ?_ ?_
                 rotate_left
                 ·intro w'
                  go_simp
                  with_reducible rfl
                 rotate_left
                 ·simp only [Act.put, sA_, sZ_, sS_, i64_w, i32_w]
                  rfl
                 refine pure_ (i := 24) (N := some 133) (v := ?_) (a' := ?_) (bs 29 33554431) rfl rfl (any_of HT_.out (by kernel_rfl)) (fun _ _ _ h => h) (Or.inl ⟨by rfl, ?_⟩) ?_ ?_
                 rotate_left
                 ·intro w'
                  go_simp
                  with_reducible rfl
                 rotate_left
                 ·simp only [Act.put, sA_, sZ_, sS_, i64_w, i32_w]
                  rfl
                 refine pure_ (i := 25) (N := some 134) (v := ?_) (a' := ?_) (bs 29 67108863) rfl rfl (any_of HT_.out (by kernel_rfl)) (fun _ _ _ h => h) (Or.inl ⟨by rfl, ?_⟩) ?_ ?_
                 rotate_left
                 ·intro w'
                  go_simp
                  with_reducible rfl
                 rotate_left
                 ·simp only [Act.put, sA_, sZ_, sS_, i64_w, i32_w]
                  rfl
                 refine one_ (i := 26) (N := some 135) (bs 29 134217727) rfl rfl (one_of HT_.out (by kernel_rfl)) (by decide) (fun K hK => ?_)
                 refine goes_ Try.func10 (by kernel_rfl) rfl #[.slice Ao45 t268.length co45, .int .i64 t250] (by rfl) rfl rfl (by (try simp only [List.map_toArray, List.map_cons, List.map_nil]); first | done | rfl | (simp only [List.length_drop, List.length_take]; rfl)) ?_
                 with_reducible refine (impl_CranesOk.calls k3 _ _ t268 t250 t276 _ ?side1 ?side2 A56.out).mono ?_
                 (case side1 => repeat (first | exact (Kd.R_reads' HO270.out).2.2 | (with_reducible refine Kd.C_alloc ?_ _) | (with_reducible refine Kd.C_drewN ?_ _) | (with_reducible refine Kd.C_drew ?_)))
                 (case side2 => exact (Kd.R_reads' HO270.out).2.1)
                 rintro e w58 ⟨rfl, hb⟩
                 refine ⟨_, rfl, ?_⟩
                 have n0_ := Aside0.mk (Kd.R_below (fr_ HO_3.out) hb)
                 have n1_ := Aside0.mk (Kd.R_below (fr_ HO_5.out) hb)
                 have n2_ := Aside0.mk (Kd.R_below (fr_ HO_6.out) hb)
                 have n3_ := Aside0.mk (Kd.R_below (fr_ HO_8.out) hb)
                 have n4_ := Aside0.mk (Kd.R_below (fr_ HO270.out) hb)
                 have n5_ := Aside0.mk (below_step (bel_ HB.out) hb)
                 clear HO_3
                 clear HO_5
                 clear HO_6
                 clear HO_8
                 clear HO270
                 clear HB
                 have HO_3 := n0_
                 have HO_5 := n1_
                 have HO_6 := n2_
                 have HO_8 := n3_
                 have HO270 := n4_
                 have HB := n5_
                 clear n0_ n1_ n2_ n3_ n4_ n5_
                 (try clear hb)
                 (try clear hb2)
                 (try clear hk)
                 (try clear hi)
                 refine hK.out _ _ trivial (fun hHeld => ?_)
                 clear hK K
                 refine norm_ (a' := ?_) ?_ ?_
                 rotate_left
                 ·show Act.put _ (some 135) _ = _
                  simp only [Act.put, sA_, sZ_, sS_, i64_w, i32_w]
                  rfl
                 refine pure_ (i := 27) (N := some 136) (v := ?_) (a' := ?_) (bs 29 268435455) rfl rfl (any_of HT_.out (by kernel_rfl)) (fun _ _ _ h => h) (Or.inl ⟨by rfl, ?_⟩) ?_ ?_
                 rotate_left
                 ·intro w'
                  go_simp
                  with_reducible rfl
                 rotate_left
                 ·simp only [Act.put, sA_, sZ_, sS_, i64_w, i32_w]
                  rfl
                 refine pure_ (i := 28) (N := some 137) (v := ?_) (a' := ?_) (bs 29 536870911) rfl rfl (any_of HT_.out (by kernel_rfl)) (fun _ _ _ h => h) (Or.inl ⟨by rfl, ?_⟩) ?_ ?_
                 rotate_left
                 ·intro w'
                  go_simp
                  with_reducible rfl
                 rotate_left
                 ·simp only [Act.put, sA_, sZ_, sS_, i64_w, i32_w]
                  rfl
                 refine done_ (done_of HT_.out (by kernel_rfl)) ?_
                 try go_wp2
                 go_meet
                 case rel => exact ⟨_, (!t276), (by first | rfl | (simp; done) | (simp [*]; done) | (simp [wrap64]; done)), H', ⟨by have := HK1.out; have := HJ8.out; have := HK3.out; first | omega | exact Nat.le_refl _⟩, ⟨by (with_reducible repeat (first | apply Kd.R_alloc | apply Kd.R_drewN | apply Kd.R_drew)); exact HO_3.out⟩, ⟨by (with_reducible repeat (first | apply Kd.R_alloc | apply Kd.R_drewN | apply Kd.R_drew)); exact HO_5.out⟩, ⟨by (with_reducible repeat (first | apply Kd.R_alloc | apply Kd.R_drewN | apply Kd.R_drew)); exact HO_6.out⟩, ⟨by (with_reducible repeat (first | apply Kd.R_alloc | apply Kd.R_drewN | apply Kd.R_drew)); exact Kd.R_mono HO_8.out (fun _ hk => ⟨hk.1.1, ⟨hk.1.2, hk.2⟩⟩)⟩, ⟨by (with_reducible repeat (first | apply Kd.R_alloc | apply Kd.R_drewN | apply Kd.R_drew)); exact Kd.R_mono HO270.out (fun _ hk => ⟨hk.1.1.2, ⟨hk.1.2, hk.2⟩⟩)⟩, ⟨bel_ HB.out⟩⟩
               case rest =>
                clear HC43
                obtain ⟨kq, x137_42, rfl, HA, HJ42, HO_3, HO_5, HO_6, HO_8, HO_11, HB⟩ := hcut
                cases kq with
                | zero => exact absurd HA.out (by simp [laws_FnCranes.j3])
                | succ kj42 =>
                 have H := HA.out
                 clear HA
                 simp only [laws_FnCranes.j3] at H
                 by_cases c59 : x137_42 = true
                 ·subst c59
                  have H1 : (some false) = some r := by rw [if_pos rfl] at H; exact H
                  clear H
                  have H := H1
                  clear H1
                  obtain rfl := Option.some.inj H
                  go_wp2
                  go_ret
                  exact ⟨by first | rfl | (simp [errW_none, errW_some] <;> rfl) | (simp [*, errW_none, errW_some] <;> rfl), bel_ HB.out⟩
                 ·replace c59 := Bool.eq_false_iff.mpr c59
                  subst c59
                  have H1 : (laws_FnCranes.l2 kj42 t249 t250 t251 x6_1 x7_1 t257 t260 t268 0) = some r := by rw [if_neg (show ¬ (false = true) by decide)] at H; exact H
                  clear H
                  have H := H1
                  clear H1
                  have H' := Aside0.mk H
                  clear H
                  go_wp2
                  go_loopg [13] kj42 (fun kq v13 w' => ∃ (x13_5 : Int), v13 = .int .i64 x13_5 ∧ Aside0 (laws_FnCranes.l2 kq t249 t250 t251 x6_1 x7_1 t257 t260 t268 x13_5 = some r) ∧ Aside0 (kq ≤ kj42) ∧ Aside0 (Kd.R k34 34 w' w.heap.size (fun k_ => some k_ ≠ (v258 : Value).ownBlock ∧ some k_ ≠ ((.slice Ao45 t268.length co45) : Value).ownBlock) v252 t249) ∧ Aside0 (Kd.R k31 31 w' w.heap.size (fun _ => True) (.slice (some ad256) t251.length co10) t251) ∧ Aside0 (Kd.R k34 34 w' w.heap.size (fun k_ => some k_ ≠ (v258 : Value).ownBlock ∧ some k_ ≠ ((.slice Ao45 t268.length co45) : Value).ownBlock) (.slice Ao11 x6_1.length co11) x6_1) ∧ Aside0 (Kd.R k34 34 w' w.heap.size (fun k_ => some k_ ≠ (v252 : Value).ownBlock ∧ some k_ ≠ ((.slice Ao11 x6_1.length co11) : Value).ownBlock ∧ some k_ ≠ ((.slice Ao45 t268.length co45) : Value).ownBlock) v258 t257) ∧ Aside0 (Kd.R k34 34 w' w.heap.size (fun k_ => some k_ ≠ (v252 : Value).ownBlock ∧ some k_ ≠ ((.slice Ao11 x6_1.length co11) : Value).ownBlock ∧ some k_ ≠ (v258 : Value).ownBlock) (.slice Ao45 t268.length co45) t268) ∧ Aside0 (Below w.heap.size w w'))
                  case atStart => exact ⟨(0), (by first | rfl | (simp; done) | (simp [*]; done) | (simp [wrap64]; done)), H', ⟨Nat.le_refl _⟩, ⟨by (with_reducible repeat (first | apply Kd.R_alloc | apply Kd.R_drewN | apply Kd.R_drew)); exact HO_3.out⟩, ⟨by (with_reducible repeat (first | apply Kd.R_alloc | apply Kd.R_drewN | apply Kd.R_drew)); exact HO_5.out⟩, ⟨by (with_reducible repeat (first | apply Kd.R_alloc | apply Kd.R_drewN | apply Kd.R_drew)); exact HO_6.out⟩, ⟨by (with_reducible repeat (first | apply Kd.R_alloc | apply Kd.R_drewN | apply Kd.R_drew)); exact HO_8.out⟩, ⟨by (with_reducible repeat (first | apply Kd.R_alloc | apply Kd.R_drewN | apply Kd.R_drew)); exact HO_11.out⟩, ⟨bel_ HB.out⟩⟩
                  case round =>
                   clear H'
                   try clear c59
                   obtain ⟨x13_5, rfl, HA, HK5, HO_3, HO_5, HO_6, HO_8, HO_11, HB⟩ := hrel
                   cases gk with
                   | zero => exact absurd HA.out (by simp [laws_FnCranes.l2])
                   | succ k5 =>
                    have H := HA.out
                    clear HA
                    simp only [laws_FnCranes.l2] at H
                    have HC60 := Aside0.mk H
                    clear H
                    go_upto_region 22 with (fail)
                    go_cut [145] (fun v145 wc => ∃ (kq : Nat) (x145_59 : Bool), v145 = .bool x145_59 ∧ Aside0 (laws_FnCranes.j5 kq t249 t250 t251 x6_1 x7_1 t257 t260 t268 x13_5 x145_59 = some r) ∧ Aside0 (kq ≤ k5) ∧ Aside0 (Kd.R k34 34 wc w.heap.size (fun k_ => some k_ ≠ (v258 : Value).ownBlock ∧ some k_ ≠ ((.slice Ao45 t268.length co45) : Value).ownBlock) v252 t249) ∧ Aside0 (Kd.R k31 31 wc w.heap.size (fun _ => True) (.slice (some ad256) t251.length co10) t251) ∧ Aside0 (Kd.R k34 34 wc w.heap.size (fun k_ => some k_ ≠ (v258 : Value).ownBlock ∧ some k_ ≠ ((.slice Ao45 t268.length co45) : Value).ownBlock) (.slice Ao11 x6_1.length co11) x6_1) ∧ Aside0 (Kd.R k34 34 wc w.heap.size (fun k_ => some k_ ≠ (v252 : Value).ownBlock ∧ some k_ ≠ ((.slice Ao11 x6_1.length co11) : Value).ownBlock ∧ some k_ ≠ ((.slice Ao45 t268.length co45) : Value).ownBlock) v258 t257) ∧ Aside0 (Kd.R k34 34 wc w.heap.size (fun k_ => some k_ ≠ (v252 : Value).ownBlock ∧ some k_ ≠ ((.slice Ao11 x6_1.length co11) : Value).ownBlock ∧ some k_ ≠ (v258 : Value).ownBlock) (.slice Ao45 t268.length co45) t268) ∧ Aside0 (Below w.heap.size w wc))
                    case first =>
                     have H := HC60.out
                     clear HC60
                     by_cases c61 : x13_5 < (x6_1.length : Int)
                     ·rw [if_pos c61] at H
                      have c61b0 : decide (x13_5 < (x6_1.length : Int)) = true := decide_eq_true c61
                      clear c61
                      (first | rw [c61b0] | (simp only [i64_w, i32_w]; rw [c61b0]) | skip)
                      have H' := Aside0.mk H
                      clear H
                      go_wp2
                      go_meet
                      case rel => exact ⟨_, ((t260 == 0)), (by first | rfl | (simp; done) | (simp [*]; done) | (simp [wrap64]; done)), H', ⟨by have := HK1.out; have := HJ8.out; have := HK3.out; have := HJ42.out; have := HK5.out; first | omega | exact Nat.le_refl _⟩, ⟨by (with_reducible repeat (first | apply Kd.R_alloc | apply Kd.R_drewN | apply Kd.R_drew)); exact HO_3.out⟩, ⟨by (with_reducible repeat (first | apply Kd.R_alloc | apply Kd.R_drewN | apply Kd.R_drew)); exact HO_5.out⟩, ⟨by (with_reducible repeat (first | apply Kd.R_alloc | apply Kd.R_drewN | apply Kd.R_drew)); exact HO_6.out⟩, ⟨by (with_reducible repeat (first | apply Kd.R_alloc | apply Kd.R_drewN | apply Kd.R_drew)); exact HO_8.out⟩, ⟨by (with_reducible repeat (first | apply Kd.R_alloc | apply Kd.R_drewN | apply Kd.R_drew)); exact HO_11.out⟩, ⟨bel_ HB.out⟩⟩
                     ·rw [if_neg c61] at H
                      have c61b0 : decide (x13_5 < (x6_1.length : Int)) = false := decide_eq_false c61
                      clear c61
                      (first | rw [c61b0] | (simp only [i64_w, i32_w]; rw [c61b0]) | skip)
                      have H' := Aside0.mk H
                      clear H
                      go_wp2
                      go_meet
                      case rel => exact ⟨_, (false), (by first | rfl | (simp; done) | (simp [*]; done) | (simp [wrap64]; done)), H', ⟨by have := HK1.out; have := HJ8.out; have := HK3.out; have := HJ42.out; have := HK5.out; first | omega | exact Nat.le_refl _⟩, ⟨by (with_reducible repeat (first | apply Kd.R_alloc | apply Kd.R_drewN | apply Kd.R_drew)); exact HO_3.out⟩, ⟨by (with_reducible repeat (first | apply Kd.R_alloc | apply Kd.R_drewN | apply Kd.R_drew)); exact HO_5.out⟩, ⟨by (with_reducible repeat (first | apply Kd.R_alloc | apply Kd.R_drewN | apply Kd.R_drew)); exact HO_6.out⟩, ⟨by (with_reducible repeat (first | apply Kd.R_alloc | apply Kd.R_drewN | apply Kd.R_drew)); exact HO_8.out⟩, ⟨by (with_reducible repeat (first | apply Kd.R_alloc | apply Kd.R_drewN | apply Kd.R_drew)); exact HO_11.out⟩, ⟨bel_ HB.out⟩⟩
                    case rest =>
                     clear HC60
                     try clear c6
                     try clear c59
                     obtain ⟨kq, x145_59, rfl, HA, HJ59, HO_3, HO_5, HO_6, HO_8, HO_11, HB⟩ := hcut
                     cases kq with
                     | zero => exact absurd HA.out (by simp [laws_FnCranes.j5])
                     | succ kj59 =>
                      have H := HA.out
                      clear HA
                      simp only [laws_FnCranes.j5] at H
                      by_cases c62 : x145_59 = true
                      ·subst c62
                       have H1 : (if 0 ≤ x13_5 then (if x13_5 < (t268.length : Int) then (if x13_5 < (t257.length : Int) then (if (!(((rd_T34 t268 x13_5).f0) == ((rd_T34 t257 x13_5).f0)) || (!(((rd_T34 t268 x13_5).f1) == ((rd_T34 t257 x13_5).f1)) || (!(((rd_T34 t268 x13_5).f2) == ((rd_T34 t257 x13_5).f2))))) = true then (some false) else (laws_FnCranes.l2 kj59 t249 t250 t251 x6_1 x7_1 t257 t260 t268 (wrap64 (x13_5 + 1)))) else (none)) else (none)) else (none)) = some r := by rw [if_pos rfl] at H; exact H
                       clear H
                       have H := H1
                       clear H1
                       by_cases c63 : 0 ≤ x13_5
                       ·rw [if_pos c63] at H
                        have c63b0 : decide (0 ≤ x13_5) = true := decide_eq_true c63
                        clear c63
                        by_cases c64 : x13_5 < (t268.length : Int)
                        ·rw [if_pos c64] at H
                         have c64b0 : decide (x13_5 < (t268.length : Int)) = true := decide_eq_true c64
                         clear c64
                         by_cases c65 : x13_5 < (t257.length : Int)
                         ·rw [if_pos c65] at H
                          have c65b0 : decide (x13_5 < (t257.length : Int)) = true := decide_eq_true c65
                          clear c65
                          by_cases c66 : (!(((rd_T34 t268 x13_5).f0) == ((rd_T34 t257 x13_5).f0)) || (!(((rd_T34 t268 x13_5).f1) == ((rd_T34 t257 x13_5).f1)) || (!(((rd_T34 t268 x13_5).f2) == ((rd_T34 t257 x13_5).f2))))) = true
                          ·rw [if_pos c66] at H
                           have c66b0 : (!(((rd_T34 t268 x13_5).f0) == ((rd_T34 t257 x13_5).f0)) || (!(((rd_T34 t268 x13_5).f1) == ((rd_T34 t257 x13_5).f1)) || (!(((rd_T34 t268 x13_5).f2) == ((rd_T34 t257 x13_5).f2))))) = true := c66
                           clear c66
                           obtain rfl := Option.some.inj H
                           try go_wp2
                           have n0_ := Aside0.mk (Kd.R_drew HO_3.out)
                           have n1_ := Aside0.mk (Kd.R_drew HO_5.out)
                           have n2_ := Aside0.mk (Kd.R_drew HO_6.out)
                           have n3_ := Aside0.mk (Kd.R_drew HO_8.out)
                           have n4_ := Aside0.mk (Kd.R_drew HO_11.out)
                           have n5_ := Aside0.mk (below_drew1 HB.out)
                           clear HO_3
                           clear HO_5
                           clear HO_6
                           clear HO_8
                           clear HO_11
                           clear HB
                           have HO_3 := n0_
                           have HO_5 := n1_
                           have HO_6 := n2_
                           have HO_8 := n3_
                           have HO_11 := n4_
                           have HB := n5_
                           clear n0_ n1_ n2_ n3_ n4_ n5_
                           have p277 : 0 ≤ (x13_5 : Int) := of_decide_eq_true (by first | (with_reducible assumption) | assumption)
                           have q277 : x13_5 < (t268.length : Int) := of_decide_eq_true (by first | (with_reducible assumption) | assumption)
                           obtain ⟨ad277, e277, hx277_0, hx277_1, hx277_2⟩ := at_T34 (Kd.R_reads' HO_11.out).2.2 x13_5 p277 q277
                           cases e277
                           replace p277 := eq_true p277
                           replace q277 := eq_true q277
                           obtain ⟨Ao68, co68, eo68⟩ := Kd.R_slice HO_8.out
                           (first | subst eo68 | (injection eo68 with f1_ f2_ f3_; have f4_ := f1_.symm; have f5_ := f3_.symm; clear f1_ f2_ f3_; subst f4_; subst f5_))
                           have p278 : 0 ≤ (x13_5 : Int) := of_decide_eq_true (by first | (with_reducible assumption) | assumption)
                           have q278 : x13_5 < (t257.length : Int) := of_decide_eq_true (by first | (with_reducible assumption) | assumption)
                           obtain ⟨ad278, e278, hx278_0, hx278_1, hx278_2⟩ := at_T34 (Kd.R_reads' HO_8.out).2.2 x13_5 p278 q278
                           cases e278
                           replace p278 := eq_true p278
                           replace q278 := eq_true q278
                           refine start_ (n := 9) (S := fun w' => w'.cell? (ad277.add ((x13_5).toNat * 3)) = some (.int .i64 ((rd_T34 t268 x13_5).f0)) ∧ w'.cell? ⟨(ad277.add ((x13_5).toNat * 3)).block, (ad277.add ((x13_5).toNat * 3)).off + 1, none⟩ = some (.int .i64 ((rd_T34 t268 x13_5).f1)) ∧ w'.cell? ⟨(ad277.add ((x13_5).toNat * 3)).block, (ad277.add ((x13_5).toNat * 3)).off + 2, none⟩ = some (.int .i64 ((rd_T34 t268 x13_5).f2)) ∧ w'.cell? (ad278.add ((x13_5).toNat * 3)) = some (.int .i64 ((rd_T34 t257 x13_5).f0)) ∧ w'.cell? ⟨(ad278.add ((x13_5).toNat * 3)).block, (ad278.add ((x13_5).toNat * 3)).off + 1, none⟩ = some (.int .i64 ((rd_T34 t257 x13_5).f1)) ∧ w'.cell? ⟨(ad278.add ((x13_5).toNat * 3)).block, (ad278.add ((x13_5).toNat * 3)).off + 2, none⟩ = some (.int .i64 ((rd_T34 t257 x13_5).f2))) (ds := []) (bs 9 0) (by kernel_rfl) rfl rfl ⟨hx277_0, hx277_1, hx277_2, hx278_0, hx278_1, hx278_2⟩ (fun hHeld => ?_); refine with_tabW laws_FnCranes.tab24 laws_FnCranes.bits24 (fun HT_ HW_ => ?_)
                           generalize wc.drew = w67 at HO_3 HO_5 HO_6 HO_8 HO_11 HB hx277_0 hx277_1 hx277_2 hx278_0 hx278_1 hx278_2 hHeld ⊢
                           refine pure_ (i := 0) (N := some 148) (v := ?_) (a' := ?_) (bs 9 1) rfl rfl (any_of HT_.out (by kernel_rfl)) (fun _ _ _ h => h) (Or.inl ⟨by rfl, ?_⟩) ?_ ?_
                           rotate_left
                           ·intro w'
                            go_simp
                            with_reducible rfl
                           rotate_left
                           ·simp only [Act.put, sA_, sZ_, sS_, i64_w, i32_w]
                            rfl
                           refine pure_ (i := 1) (N := some 149) (v := ?_) (a' := ?_) (bs 9 3) rfl rfl (any_of HT_.out (by kernel_rfl)) (fun _ _ _ h => h) (Or.inl ⟨by rfl, ?_⟩) ?_ ?_
                           rotate_left
                           ·intro w'
                            go_simp
                            with_reducible rfl
                           rotate_left
                           ·simp only [Act.put, sA_, sZ_, sS_, i64_w, i32_w]
                            rfl
                           refine pure_ (i := 2) (N := some 150) (v := ?_) (a' := ?_) (bs 9 7) rfl rfl (any_of HT_.out (by kernel_rfl)) (fun _ _ _ h => h) (Or.inl ⟨by rfl, ?_⟩) ?_ ?_
                           rotate_left
                           ·intro w'
                            go_simp
                            with_reducible rfl
                           rotate_left
                           ·simp only [Act.put, sA_, sZ_, sS_, i64_w, i32_w]
                            rfl
                           refine pure_ (i := 4) (N := some 152) (v := ?_) (a' := ?_) (bs 9 23) rfl rfl (any_of HT_.out (by kernel_rfl)) (fun _ _ _ h => h) (Or.inl ⟨by rfl, ?_⟩) ?_ ?_
                           rotate_left
                           ·intro w'
                            go_simp
                            with_reducible rfl
                           rotate_left
                           ·simp only [Act.put, sA_, sZ_, sS_, i64_w, i32_w]
                            rfl
                           refine pure_ (i := 5) (N := some 153) (v := ?_) (a' := ?_) (bs 9 55) rfl rfl (any_of HT_.out (by kernel_rfl)) (fun _ _ _ h => h) (Or.inl ⟨by rfl, ?_⟩) ?_ ?_
                           rotate_left
                           ·intro w'
                            go_simp
                            with_reducible rfl
                           rotate_left
                           ·simp only [Act.put, sA_, sZ_, sS_, i64_w, i32_w]
                            rfl
                           refine pure_ (i := 6) (N := some 154) (v := ?_) (a' := ?_) (bs 9 119) rfl rfl (any_of HT_.out (by kernel_rfl)) (fun _ _ _ h => h) (Or.inl ⟨by rfl, ?_⟩) ?_ ?_
                           rotate_left
                           ·intro w'
                            go_simp
                            with_reducible rfl
                           rotate_left
                           ·simp only [Act.put, sA_, sZ_, sS_, i64_w, i32_w]
                            rfl
                           refine take_ (i := 3) (N := some 151) (v := ?_) (a' := ?_) (bs 9 127) rfl rfl (take_ofW HT_.out HW_.out (by kernel_rfl)) (fun _ _ _ h => h) (Or.inl ⟨by rfl, ?_⟩) hHeld ?_ ?_
                           rotate_left
                           ·rintro w' ⟨s0, s1, s2, s3, s4, s5⟩
                            go_simp
                            with_reducible rfl
                           rotate_left
                           ·simp only [Act.put, sA_, sZ_, sS_, i64_w, i32_w]
                            rfl
                           refine take_ (i := 7) (N := some 155) (v := ?_) (a' := ?_) (bs 9 255) rfl rfl (take_ofW HT_.out HW_.out (by kernel_rfl)) (fun _ _ _ h => h) (Or.inl ⟨by rfl, ?_⟩) hHeld ?_ ?_
                           rotate_left
                           ·rintro w' ⟨s0, s1, s2, s3, s4, s5⟩
                            go_simp
                            with_reducible rfl
                           rotate_left
                           ·simp only [Act.put, sA_, sZ_, sS_, i64_w, i32_w]
                            rfl
                           refine pure_ (i := 8) (N := some 156) (v := ?_) (a' := ?_) (bs 9 511) rfl rfl (any_of HT_.out (by kernel_rfl)) (fun _ _ _ h => h) (Or.inl ⟨by rfl, ?_⟩) ?_ ?_
                           rotate_left
                           ·intro w'
                            go_simp
                            with_reducible rfl
                           rotate_left
                           ·simp only [Act.put, sA_, sZ_, sS_, i64_w, i32_w]
                            rfl
                           refine done_ (done_of HT_.out (by kernel_rfl)) ?_
                           try go_wp2
                           go_ret
                           exact ⟨by first | rfl | (simp [errW_none, errW_some] <;> rfl) | (simp [*, errW_none, errW_some] <;> rfl), bel_ HB.out⟩
                          ·rw [if_neg c66] at H
                           have c66b0 : (!(((rd_T34 t268 x13_5).f0) == ((rd_T34 t257 x13_5).f0)) || (!(((rd_T34 t268 x13_5).f1) == ((rd_T34 t257 x13_5).f1)) || (!(((rd_T34 t268 x13_5).f2) == ((rd_T34 t257 x13_5).f2))))) = false := by simpa using c66
                           clear c66
                           have H' := Aside0.mk H
                           clear H
                           try go_wp2
                           have n0_ := Aside0.mk (Kd.R_drew HO_3.out)
                           have n1_ := Aside0.mk (Kd.R_drew HO_5.out)
                           have n2_ := Aside0.mk (Kd.R_drew HO_6.out)
                           have n3_ := Aside0.mk (Kd.R_drew HO_8.out)
                           have n4_ := Aside0.mk (Kd.R_drew HO_11.out)
                           have n5_ := Aside0.mk (below_drew1 HB.out)
                           clear HO_3
                           clear HO_5
                           clear HO_6
                           clear HO_8
                           clear HO_11
                           clear HB
                           have HO_3 := n0_
                           have HO_5 := n1_
                           have HO_6 := n2_
                           have HO_8 := n3_
                           have HO_11 := n4_
                           have HB := n5_
                           clear n0_ n1_ n2_ n3_ n4_ n5_
                           have p277 : 0 ≤ (x13_5 : Int) := of_decide_eq_true (by first | (with_reducible assumption) | assumption)
                           have q277 : x13_5 < (t268.length : Int) := of_decide_eq_true (by first | (with_reducible assumption) | assumption)
                           obtain ⟨ad277, e277, hx277_0, hx277_1, hx277_2⟩ := at_T34 (Kd.R_reads' HO_11.out).2.2 x13_5 p277 q277
                           cases e277
                           replace p277 := eq_true p277
                           replace q277 := eq_true q277
                           obtain ⟨Ao70, co70, eo70⟩ := Kd.R_slice HO_8.out
                           (first | subst eo70 | (injection eo70 with f1_ f2_ f3_; have f4_ := f1_.symm; have f5_ := f3_.symm; clear f1_ f2_ f3_; subst f4_; subst f5_))
                           have p278 : 0 ≤ (x13_5 : Int) := of_decide_eq_true (by first | (with_reducible assumption) | assumption)
                           have q278 : x13_5 < (t257.length : Int) := of_decide_eq_true (by first | (with_reducible assumption) | assumption)
                           obtain ⟨ad278, e278, hx278_0, hx278_1, hx278_2⟩ := at_T34 (Kd.R_reads' HO_8.out).2.2 x13_5 p278 q278
                           cases e278
                           replace p278 := eq_true p278
                           replace q278 := eq_true q278
                           refine start_ (n := 9) (S := fun w' => w'.cell? (ad277.add ((x13_5).toNat * 3)) = some (.int .i64 ((rd_T34 t268 x13_5).f0)) ∧ w'.cell? ⟨(ad277.add ((x13_5).toNat * 3)).block, (ad277.add ((x13_5).toNat * 3)).off + 1, none⟩ = some (.int .i64 ((rd_T34 t268 x13_5).f1)) ∧ w'.cell? ⟨(ad277.add ((x13_5).toNat * 3)).block, (ad277.add ((x13_5).toNat * 3)).off + 2, none⟩ = some (.int .i64 ((rd_T34 t268 x13_5).f2)) ∧ w'.cell? (ad278.add ((x13_5).toNat * 3)) = some (.int .i64 ((rd_T34 t257 x13_5).f0)) ∧ w'.cell? ⟨(ad278.add ((x13_5).toNat * 3)).block, (ad278.add ((x13_5).toNat * 3)).off + 1, none⟩ = some (.int .i64 ((rd_T34 t257 x13_5).f1)) ∧ w'.cell? ⟨(ad278.add ((x13_5).toNat * 3)).block, (ad278.add ((x13_5).toNat * 3)).off + 2, none⟩ = some (.int .i64 ((rd_T34 t257 x13_5).f2))) (ds := []) (bs 9 0) (by kernel_rfl) rfl rfl ⟨hx277_0, hx277_1, hx277_2, hx278_0, hx278_1, hx278_2⟩ (fun hHeld => ?_); refine with_tabW laws_FnCranes.tab24 laws_FnCranes.bits24 (fun HT_ HW_ => ?_)
                           generalize wc.drew = w69 at HO_3 HO_5 HO_6 HO_8 HO_11 HB hx277_0 hx277_1 hx277_2 hx278_0 hx278_1 hx278_2 hHeld ⊢
                           refine pure_ (i := 0) (N := some 148) (v := ?_) (a' := ?_) (bs 9 1) rfl rfl (any_of HT_.out (by kernel_rfl)) (fun _ _ _ h => h) (Or.inl ⟨by rfl, ?_⟩) ?_ ?_
                           rotate_left
                           ·intro w'
                            go_simp
                            with_reducible rfl
                           rotate_left
                           ·simp only [Act.put, sA_, sZ_, sS_, i64_w, i32_w]
                            rfl
                           refine pure_ (i := 1) (N := some 149) (v := ?_) (a' := ?_) (bs 9 3) rfl rfl (any_of HT_.out (by kernel_rfl)) (fun _ _ _ h => h) (Or.inl ⟨by rfl, ?_⟩) ?_ ?_
                           rotate_left
                           ·intro w'
                            go_simp
                            with_reducible rfl
                           rotate_left
                           ·simp only [Act.put, sA_, sZ_, sS_, i64_w, i32_w]
                            rfl
                           refine pure_ (i := 2) (N := some 150) (v := ?_) (a' := ?_) (bs 9 7) rfl rfl (any_of HT_.out (by kernel_rfl)) (fun _ _ _ h => h) (Or.inl ⟨by rfl, ?_⟩) ?_ ?_
                           rotate_left
                           ·intro w'
                            go_simp
                            with_reducible rfl
                           rotate_left
                           ·simp only [Act.put, sA_, sZ_, sS_, i64_w, i32_w]
                            rfl
                           refine pure_ (i := 4) (N := some 152) (v := ?_) (a' := ?_) (bs 9 23) rfl rfl (any_of HT_.out (by kernel_rfl)) (fun _ _ _ h => h) (Or.inl ⟨by rfl, ?_⟩) ?_ ?_
                           rotate_left
                           ·intro w'
                            go_simp
                            with_reducible rfl
                           rotate_left
                           ·simp only [Act.put, sA_, sZ_, sS_, i64_w, i32_w]
                            rfl
                           refine pure_ (i := 5) (N := some 153) (v := ?_) (a' := ?_) (bs 9 55) rfl rfl (any_of HT_.out (by kernel_rfl)) (fun _ _ _ h => h) (Or.inl ⟨by rfl, ?_⟩) ?_ ?_
                           rotate_left
                           ·intro w'
                            go_simp
                            with_reducible rfl
                           rotate_left
                           ·simp only [Act.put, sA_, sZ_, sS_, i64_w, i32_w]
                            rfl
                           refine pure_ (i := 6) (N := some 154) (v := ?_) (a' := ?_) (bs 9 119) rfl rfl (any_of HT_.out (by kernel_rfl)) (fun _ _ _ h => h) (Or.inl ⟨by rfl, ?_⟩) ?_ ?_
                           rotate_left
                           ·intro w'
                            go_simp
                            with_reducible rfl
                           rotate_left
                           ·simp only [Act.put, sA_, sZ_, sS_, i64_w, i32_w]
                            rfl
                           refine take_ (i := 3) (N := some 151) (v := ?_) (a' := ?_) (bs 9 127) rfl rfl (take_ofW HT_.out HW_.out (by kernel_rfl)) (fun _ _ _ h => h) (Or.inl ⟨by rfl, ?_⟩) hHeld ?_ ?_
                           rotate_left
                           ·rintro w' ⟨s0, s1, s2, s3, s4, s5⟩
                            go_simp
                            with_reducible rfl
                           rotate_left
                           ·simp only [Act.put, sA_, sZ_, sS_, i64_w, i32_w]
                            rfl
                           refine take_ (i := 7) (N := some 155) (v := ?_) (a' := ?_) (bs 9 255) rfl rfl (take_ofW HT_.out HW_.out (by kernel_rfl)) (fun _ _ _ h => h) (Or.inl ⟨by rfl, ?_⟩) hHeld ?_ ?_
                           rotate_left
                           ·rintro w' ⟨s0, s1, s2, s3, s4, s5⟩
                            go_simp
                            with_reducible rfl
                           rotate_left
                           ·simp only [Act.put, sA_, sZ_, sS_, i64_w, i32_w]
                            rfl
                           refine pure_ (i := 8) (N := some 156) (v := ?_) (a' := ?_) (bs 9 511) rfl rfl (any_of HT_.out (by kernel_rfl)) (fun _ _ _ h => h) (Or.inl ⟨by rfl, ?_⟩) ?_ ?_
                           rotate_left
                           ·intro w'
                            go_simp
                            with_reducible rfl
                           rotate_left
                           ·simp only [Act.put, sA_, sZ_, sS_, i64_w, i32_w]
                            rfl
                           refine done_ (done_of HT_.out (by kernel_rfl)) ?_
                           try go_wp2
                           go_roundg kj59
                           case measure => have := HK1.out; have := HJ8.out; have := HK3.out; have := HJ42.out; have := HK5.out; have := HJ59.out; omega
                           case rel => exact ⟨(wrap64 (x13_5 + 1)), (by first | rfl | (simp; done) | (simp [*]; done) | (simp [wrap64]; done)), H', ⟨by have := HK1.out; have := HJ8.out; have := HK3.out; have := HJ42.out; have := HK5.out; have := HJ59.out; omega⟩, ⟨by (with_reducible repeat (first | apply Kd.R_alloc | apply Kd.R_drewN | apply Kd.R_drew)); exact HO_3.out⟩, ⟨by (with_reducible repeat (first | apply Kd.R_alloc | apply Kd.R_drewN | apply Kd.R_drew)); exact HO_5.out⟩, ⟨by (with_reducible repeat (first | apply Kd.R_alloc | apply Kd.R_drewN | apply Kd.R_drew)); exact HO_6.out⟩, ⟨by (with_reducible repeat (first | apply Kd.R_alloc | apply Kd.R_drewN | apply Kd.R_drew)); exact HO_8.out⟩, ⟨by (with_reducible repeat (first | apply Kd.R_alloc | apply Kd.R_drewN | apply Kd.R_drew)); exact HO_11.out⟩, ⟨bel_ HB.out⟩⟩
                         ·rw [if_neg c65] at H
                          exact absurd H (by simp)
                        ·rw [if_neg c64] at H
                         exact absurd H (by simp)
                       ·rw [if_neg c63] at H
                        exact absurd H (by simp)
                      ·replace c62 := Bool.eq_false_iff.mpr c62
                       subst c62
                       have H1 : (laws_FnCranes.l0 kj59 t249 t250 t251 t257 (wrap64 (x7_1 + 1))) = some r := by rw [if_neg (show ¬ (false = true) by decide)] at H; exact H
                       clear H
                       have H := H1
                       clear H1
                       have H' := Aside0.mk H
                       clear H
                       go_wp2
                       go_roundg kj59
                       case measure => have := HK1.out; have := HJ8.out; have := HK3.out; have := HJ42.out; have := HK5.out; have := HJ59.out; omega
                       case rel => exact ⟨(t257), (wrap64 (x7_1 + 1)), (by first | rfl | (simp; done) | (simp [*]; done) | (simp [wrap64]; done)), H', ⟨by have := HK1.out; have := HJ8.out; have := HK3.out; have := HJ42.out; have := HK5.out; have := HJ59.out; omega⟩, ⟨by (with_reducible repeat (first | apply Kd.R_alloc | apply Kd.R_drewN | apply Kd.R_drew)); exact Kd.R_mono HO_3.out (fun _ hk => trivial)⟩, ⟨by (with_reducible repeat (first | apply Kd.R_alloc | apply Kd.R_drewN | apply Kd.R_drew)); exact HO_5.out⟩, ⟨by (with_reducible repeat (first | apply Kd.R_alloc | apply Kd.R_drewN | apply Kd.R_drew)); exact Kd.R_mono HO_8.out (fun _ hk => trivial)⟩, ⟨bel_ HB.out⟩⟩
              ·rw [if_neg c42] at H
               have c42b0 : ((t268.length : Int) == (x6_1.length : Int)) = false := beq_eq_false_iff_ne.mpr c42
               have c42b1 : ((t268.length : Int) != (x6_1.length : Int)) = true := bne_iff_ne.mpr c42
               have c42b2 : (t268.length == x6_1.length) = false := by first | simpa using c42 | (simp at c42 ⊢; omega)
               obtain rfl := Option.some.inj H
               have p267 : 0 ≤ (x7_1 : Int) := of_decide_eq_true (by first | (with_reducible assumption) | assumption)
               have q267 : x7_1 < (t251.length : Int) := of_decide_eq_true (by first | (with_reducible assumption) | assumption)
               obtain ⟨ad267, e267, hx267_0, hx267_1⟩ := at_T31 (Kd.R_reads' HO_5.out).2.2 x7_1 p267 q267
               obtain rfl : ad256 = ad267 := (by injection e267)
               replace p267 := eq_true p267
               replace q267 := eq_true q267
               go_wp2_with (first | ((with_reducible refine gate_callee (f := 11) rfl ?_); refine goesL_ (some 101) rfl rfl Try.func11 (by kernel_rfl) rfl #[.slice Ao11 x6_1.length co11, .int .i64 t250, .agg #[.int .i64 ((rd_T31 t251 x7_1).f0), .int .i64 ((rd_T31 t251 x7_1).f1)]] rfl (by (try simp only [List.map_toArray, List.map_cons, List.map_nil]); first | done | rfl | (simp only [List.length_drop, List.length_take]; rfl)) ?_; (with_reducible refine (impl_PushMove.calls k3 _ _ x6_1 t250 ((rd_T31 t251 x7_1).f0) ((rd_T31 t251 x7_1).f1) t268 t271 _ ?side1 ?side2 A41.out).mono ?_); (case side1 => repeat (first | exact (Kd.R_reads' HO_6.out).2.2 | (with_reducible refine Kd.C_alloc ?_ _) | (with_reducible refine Kd.C_drewN ?_ _) | (with_reducible refine Kd.C_drew ?_))); (case side2 => exact (Kd.R_reads' HO_6.out).2.1); rintro e w71 ⟨v269, rfl, ho0, hb⟩; refine ⟨_, rfl, ?_⟩; have n0_ := Aside0.mk (Kd.R_elder' (fr_ HO_3.out) (Kd.R_base ho0) hb); have n1_ := Aside0.mk (Kd.R_below (fr_ HO_5.out) hb); have n2_ := Aside0.mk (Kd.R_elder' (fr_ HO_6.out) (Kd.R_base ho0) hb); have n3_ := Aside0.mk (Kd.R_elder' (fr_ HO_8.out) (Kd.R_base ho0) hb); have n4_ := Aside0.mk (Kd.R_lower (Kd.R_new' (Kd.R_new' (Kd.R_new' ho0 (Kd.R_lt (fr_ HO_3.out))) (Kd.R_lt (fr_ HO_6.out))) (Kd.R_lt (fr_ HO_8.out))) (below_size (bel_ HB.out))); have n5_ := Aside0.mk (below_step (bel_ HB.out) hb); clear HO_3; clear HO_5; clear HO_6; clear HO_8; clear HB; have HO_3 := n0_; have HO_5 := n1_; have HO_6 := n2_; have HO_8 := n3_; have HO270 := n4_; have HB := n5_; clear n0_ n1_ n2_ n3_ n4_ n5_; (try clear hb); (try clear hb2); (try clear hk); (try clear hi); (try clear ho0); obtain ⟨Ao72, co72, eo72⟩ := Kd.R_slice HO270.out; subst eo72))
               go_ret
               exact ⟨by first | rfl | (simp [errW_none, errW_some] <;> rfl) | (simp [*, errW_none, errW_some] <;> rfl), bel_ HB.out⟩
             ·rw [if_neg c40] at H
              exact absurd H (by simp)
            ·rw [if_neg c39] at H
             exact absurd H (by simp)
     ·rw [if_neg c7] at H
      exact absurd H (by simp)
    ·rw [if_neg c6] at H
     have c6b0 : decide (x7_1 < (t251.length : Int)) = false := decide_eq_false c6
     clear c6
     replace H := Option.bind_eq_some_iff.mp H
     obtain ⟨⟨t279, t280⟩, A730, H⟩ := H
     replace H : (if (t279.length : Int) = (x6_1.length : Int) then (laws_FnCranes.l3 k1 t251 x6_1 t279 t280 0) else (some false)) = some r := H
     have A73 := Aside0.mk A730
     clear A730
     by_cases c74 : (t279.length : Int) = (x6_1.length : Int)
     ·rw [if_pos c74] at H
      have c74b0 : ((t279.length : Int) == (x6_1.length : Int)) = true := beq_iff_eq.mpr c74
      have c74b1 : ((t279.length : Int) != (x6_1.length : Int)) = false := bne_eq_false_iff_eq.mpr c74
      have c74b2 : (t279.length == x6_1.length) = true := by first | simpa using c74 | (simp at c74 ⊢; omega)
      clear c74
      have H' := Aside0.mk H
      clear H
      obtain ⟨Ao75, co75, eo75⟩ := Kd.R_slice HO_5.out
      subst eo75
      obtain ⟨Ao76, co76, eo76⟩ := Kd.R_slice HO_3.out
      subst eo76
      go_wp2_with (first | ((with_reducible refine gate_callee (f := 12) rfl ?_); refine goesL_ (some 162) rfl rfl Try.func12 (by kernel_rfl) rfl #[.slice Ao76 t249.length co76, .int .i64 t250, .slice Ao75 t251.length co75] rfl (by (try simp only [List.map_toArray, List.map_cons, List.map_nil]); first | done | rfl | (simp only [List.length_drop, List.length_take]; rfl)) ?_; (with_reducible refine (impl_RunMoves.calls k1 _ _ t249 t250 _ _ t251 t279 t280 _ ?side1 ?side2 ?side3 ?side4 A73.out).mono ?_); (case side1 => repeat (first | exact (Kd.R_reads' HO_3.out).2.2 | (with_reducible refine Kd.C_alloc ?_ _) | (with_reducible refine Kd.C_drewN ?_ _) | (with_reducible refine Kd.C_drew ?_))); (case side2 => exact (Kd.R_reads' HO_3.out).2.1); (case side3 => repeat (first | exact (Kd.R_reads' HO_5.out).2.2 | (with_reducible refine Kd.C_alloc ?_ _) | (with_reducible refine Kd.C_drewN ?_ _) | (with_reducible refine Kd.C_drew ?_))); (case side4 => exact (Kd.R_reads' HO_5.out).2.1); rintro e w77 ⟨v281, v283, rfl, ho0, ho1, hb⟩; refine ⟨_, rfl, ?_⟩; have n0_ := Aside0.mk (Kd.R_elder' (fr_ HO_3.out) (Kd.R_base ho0) hb); have n1_ := Aside0.mk (Kd.R_below (fr_ HO_5.out) hb); have n2_ := Aside0.mk (Kd.R_elder' (fr_ HO_6.out) (Kd.R_base ho0) hb); have n3_ := Aside0.mk (Kd.R_lower (Kd.R_new' (Kd.R_new' ho0 (Kd.R_lt (fr_ HO_3.out))) (Kd.R_lt (fr_ HO_6.out))) (below_size (bel_ HB.out))); have n4_ := Aside0.mk (Kd.R_lower ho1 (below_size (bel_ HB.out))); have n5_ := Aside0.mk (below_step (bel_ HB.out) hb); clear HO_3; clear HO_5; clear HO_6; clear HB; have HO_3 := n0_; have HO_5 := n1_; have HO_6 := n2_; have HO282 := n3_; have HO284 := n4_; have HB := n5_; clear n0_ n1_ n2_ n3_ n4_ n5_; (try clear hb); (try clear hb2); (try clear hk); (try clear hi); (try clear ho0); (try clear ho1); obtain ⟨Ao78, co78, eo78⟩ := Kd.R_slice HO282.out; subst eo78; obtain ⟨Ao79, co79, eo79⟩ := Kd.R_slice HO_6.out; subst eo79))
      go_loopg [16] k1 (fun kq v16 w' => ∃ (x16_2 : Int), v16 = .int .i64 x16_2 ∧ Aside0 (laws_FnCranes.l3 kq t251 x6_1 t279 t280 x16_2 = some r) ∧ Aside0 (kq ≤ k1) ∧ Aside0 (Kd.R k31 31 w' w.heap.size (fun _ => True) (.slice Ao75 t251.length co75) t251) ∧ Aside0 (Kd.R k34 34 w' w.heap.size (fun k_ => some k_ ≠ ((.slice Ao78 t279.length co78) : Value).ownBlock) (.slice Ao79 x6_1.length co79) x6_1) ∧ Aside0 (Kd.R k34 34 w' w.heap.size (fun k_ => some k_ ≠ ((.slice Ao79 x6_1.length co79) : Value).ownBlock) (.slice Ao78 t279.length co78) t279) ∧ Aside0 (Kd.R (Kd.int .i64) 3 w' w.heap.size (fun _ => True) v283 t280) ∧ Aside0 (Below w.heap.size w w'))
      case atStart => exact ⟨(0), (by first | rfl | (simp; done) | (simp [*]; done) | (simp [wrap64]; done)), H', ⟨Nat.le_refl _⟩, ⟨by (with_reducible repeat (first | apply Kd.R_alloc | apply Kd.R_drewN | apply Kd.R_drew)); exact HO_5.out⟩, ⟨by (with_reducible repeat (first | apply Kd.R_alloc | apply Kd.R_drewN | apply Kd.R_drew)); exact Kd.R_mono HO_6.out (fun _ hk => hk.2)⟩, ⟨by (with_reducible repeat (first | apply Kd.R_alloc | apply Kd.R_drewN | apply Kd.R_drew)); exact Kd.R_mono HO282.out (fun _ hk => hk.2)⟩, ⟨by (with_reducible repeat (first | apply Kd.R_alloc | apply Kd.R_drewN | apply Kd.R_drew)); exact HO284.out⟩, ⟨bel_ HB.out⟩⟩
      case round =>
       clear H'
       try clear c3
       try clear c6
       try clear c6b0
       try clear c74
       try clear c74b0
       try clear c74b1
       try clear c74b2
       obtain ⟨x16_2, rfl, HA, HK2, HO_5, HO_6, HO_14, HO_15, HB⟩ := hrel
       cases gk with
       | zero => exact absurd HA.out (by simp [laws_FnCranes.l3])
       | succ k2 =>
        have H := HA.out
        clear HA
        simp only [laws_FnCranes.l3] at H
        by_cases c80 : x16_2 < (x6_1.length : Int)
        ·rw [if_pos c80] at H
         have c80b0 : decide (x16_2 < (x6_1.length : Int)) = true := decide_eq_true c80
         clear c80
         by_cases c81 : 0 ≤ x16_2
         ·rw [if_pos c81] at H
          have c81b0 : decide (0 ≤ x16_2) = true := decide_eq_true c81
          clear c81
          by_cases c82 : x16_2 < (t279.length : Int)
          ·rw [if_pos c82] at H
           have c82b0 : decide (x16_2 < (t279.length : Int)) = true := decide_eq_true c82
           clear c82
           by_cases c83 : (!(((rd_T34 t279 x16_2).f0) == ((rd_T34 x6_1 x16_2).f0)) || (!(((rd_T34 t279 x16_2).f1) == ((rd_T34 x6_1 x16_2).f1)) || (!(((rd_T34 t279 x16_2).f2) == ((rd_T34 x6_1 x16_2).f2))))) = true
           ·rw [if_pos c83] at H
            have c83b0 : (!(((rd_T34 t279 x16_2).f0) == ((rd_T34 x6_1 x16_2).f0)) || (!(((rd_T34 t279 x16_2).f1) == ((rd_T34 x6_1 x16_2).f1)) || (!(((rd_T34 t279 x16_2).f2) == ((rd_T34 x6_1 x16_2).f2))))) = true := c83
            clear c83
            obtain rfl := Option.some.inj H
            try go_wp2
            have n0_ := Aside0.mk (Kd.R_drew HO_5.out)
            have n1_ := Aside0.mk (Kd.R_drew HO_6.out)
            have n2_ := Aside0.mk (Kd.R_drew HO_14.out)
            have n3_ := Aside0.mk (Kd.R_drew HO_15.out)
            have n4_ := Aside0.mk (below_drew1 HB.out)
            clear HO_5
            clear HO_6
            clear HO_14
            clear HO_15
            clear HB
            have HO_5 := n0_
            have HO_6 := n1_
            have HO_14 := n2_
            have HO_15 := n3_
            have HB := n4_
            clear n0_ n1_ n2_ n3_ n4_
            have p285 : 0 ≤ (x16_2 : Int) := of_decide_eq_true (by first | (with_reducible assumption) | assumption)
            have q285 : x16_2 < (t279.length : Int) := of_decide_eq_true (by first | (with_reducible assumption) | assumption)
            obtain ⟨ad285, e285, hx285_0, hx285_1, hx285_2⟩ := at_T34 (Kd.R_reads' HO_14.out).2.2 x16_2 p285 q285
            cases e285
            replace p285 := eq_true p285
            replace q285 := eq_true q285
            have p286 : 0 ≤ (x16_2 : Int) := of_decide_eq_true (by first | (with_reducible assumption) | assumption)
            have q286 : x16_2 < (x6_1.length : Int) := of_decide_eq_true (by first | (with_reducible assumption) | assumption)
            obtain ⟨ad286, e286, hx286_0, hx286_1, hx286_2⟩ := at_T34 (Kd.R_reads' HO_6.out).2.2 x16_2 p286 q286
            cases e286
            replace p286 := eq_true p286
            replace q286 := eq_true q286
            refine start_ (n := 9) (S := fun w' => w'.cell? (ad285.add ((x16_2).toNat * 3)) = some (.int .i64 ((rd_T34 t279 x16_2).f0)) ∧ w'.cell? ⟨(ad285.add ((x16_2).toNat * 3)).block, (ad285.add ((x16_2).toNat * 3)).off + 1, none⟩ = some (.int .i64 ((rd_T34 t279 x16_2).f1)) ∧ w'.cell? ⟨(ad285.add ((x16_2).toNat * 3)).block, (ad285.add ((x16_2).toNat * 3)).off + 2, none⟩ = some (.int .i64 ((rd_T34 t279 x16_2).f2)) ∧ w'.cell? (ad286.add ((x16_2).toNat * 3)) = some (.int .i64 ((rd_T34 x6_1 x16_2).f0)) ∧ w'.cell? ⟨(ad286.add ((x16_2).toNat * 3)).block, (ad286.add ((x16_2).toNat * 3)).off + 1, none⟩ = some (.int .i64 ((rd_T34 x6_1 x16_2).f1)) ∧ w'.cell? ⟨(ad286.add ((x16_2).toNat * 3)).block, (ad286.add ((x16_2).toNat * 3)).off + 2, none⟩ = some (.int .i64 ((rd_T34 x6_1 x16_2).f2))) (ds := []) (bs 9 0) (by kernel_rfl) rfl rfl ⟨hx285_0, hx285_1, hx285_2, hx286_0, hx286_1, hx286_2⟩ (fun hHeld => ?_); refine with_tabW laws_FnCranes.tab33 laws_FnCranes.bits33 (fun HT_ HW_ => ?_)
            generalize wr.drew = w84 at HO_5 HO_6 HO_14 HO_15 HB hx285_0 hx285_1 hx285_2 hx286_0 hx286_1 hx286_2 hHeld ⊢
            refine pure_ (i := 0) (N := some 176) (v := ?_) (a' := ?_) (bs 9 1) rfl rfl (any_of HT_.out (by kernel_rfl)) (fun _ _ _ h => h) (Or.inl ⟨by rfl, ?_⟩) ?_ ?_
            rotate_left
            ·intro w'
             go_simp
             with_reducible rfl
            rotate_left
            ·simp only [Act.put, sA_, sZ_, sS_, i64_w, i32_w]
             rfl
            refine pure_ (i := 1) (N := some 177) (v := ?_) (a' := ?_) (bs 9 3) rfl rfl (any_of HT_.out (by kernel_rfl)) (fun _ _ _ h => h) (Or.inl ⟨by rfl, ?_⟩) ?_ ?_
            rotate_left
            ·intro w'
             go_simp
             with_reducible rfl
            rotate_left
            ·simp only [Act.put, sA_, sZ_, sS_, i64_w, i32_w]
             rfl
            refine pure_ (i := 2) (N := some 178) (v := ?_) (a' := ?_) (bs 9 7) rfl rfl (any_of HT_.out (by kernel_rfl)) (fun _ _ _ h => h) (Or.inl ⟨by rfl, ?_⟩) ?_ ?_
            rotate_left
            ·intro w'
             go_simp
             with_reducible rfl
            rotate_left
            ·simp only [Act.put, sA_, sZ_, sS_, i64_w, i32_w]
             rfl
            refine pure_ (i := 4) (N := some 180) (v := ?_) (a' := ?_) (bs 9 23) rfl rfl (any_of HT_.out (by kernel_rfl)) (fun _ _ _ h => h) (Or.inl ⟨by rfl, ?_⟩) ?_ ?_
            rotate_left
            ·intro w'
             go_simp
             with_reducible rfl
            rotate_left
            ·simp only [Act.put, sA_, sZ_, sS_, i64_w, i32_w]
             rfl
            refine pure_ (i := 5) (N := some 181) (v := ?_) (a' := ?_) (bs 9 55) rfl rfl (any_of HT_.out (by kernel_rfl)) (fun _ _ _ h => h) (Or.inl ⟨by rfl, ?_⟩) ?_ ?_
            rotate_left
            ·intro w'
             go_simp
             with_reducible rfl
            rotate_left
            ·simp only [Act.put, sA_, sZ_, sS_, i64_w, i32_w]
             rfl
            refine pure_ (i := 6) (N := some 182) (v := ?_) (a' := ?_) (bs 9 119) rfl rfl (any_of HT_.out (by kernel_rfl)) (fun _ _ _ h => h) (Or.inl ⟨by rfl, ?_⟩) ?_ ?_
            rotate_left
            ·intro w'
             go_simp
             with_reducible rfl
            rotate_left
            ·simp only [Act.put, sA_, sZ_, sS_, i64_w, i32_w]
             rfl
            refine take_ (i := 3) (N := some 179) (v := ?_) (a' := ?_) (bs 9 127) rfl rfl (take_ofW HT_.out HW_.out (by kernel_rfl)) (fun _ _ _ h => h) (Or.inl ⟨by rfl, ?_⟩) hHeld ?_ ?_
            rotate_left
            ·rintro w' ⟨s0, s1, s2, s3, s4, s5⟩
             go_simp
             with_reducible rfl
            rotate_left
            ·simp only [Act.put, sA_, sZ_, sS_, i64_w, i32_w]
             rfl
            refine take_ (i := 7) (N := some 183) (v := ?_) (a' := ?_) (bs 9 255) rfl rfl (take_ofW HT_.out HW_.out (by kernel_rfl)) (fun _ _ _ h => h) (Or.inl ⟨by rfl, ?_⟩) hHeld ?_ ?_
            rotate_left
            ·rintro w' ⟨s0, s1, s2, s3, s4, s5⟩
             go_simp
             with_reducible rfl
            rotate_left
            ·simp only [Act.put, sA_, sZ_, sS_, i64_w, i32_w]
             rfl
            refine pure_ (i := 8) (N := some 184) (v := ?_) (a' := ?_) (bs 9 511) rfl rfl (any_of HT_.out (by kernel_rfl)) (fun _ _ _ h => h) (Or.inl ⟨by rfl, ?_⟩) ?_ ?_
            rotate_left
            ·intro w'
             go_simp
             with_reducible rfl
            rotate_left
            ·simp only [Act.put, sA_, sZ_, sS_, i64_w, i32_w]
             rfl
            refine done_ (done_of HT_.out (by kernel_rfl)) ?_
            try go_wp2
            go_ret
            exact ⟨by first | rfl | (simp [errW_none, errW_some] <;> rfl) | (simp [*, errW_none, errW_some] <;> rfl), bel_ HB.out⟩
           ·rw [if_neg c83] at H
            have c83b0 : (!(((rd_T34 t279 x16_2).f0) == ((rd_T34 x6_1 x16_2).f0)) || (!(((rd_T34 t279 x16_2).f1) == ((rd_T34 x6_1 x16_2).f1)) || (!(((rd_T34 t279 x16_2).f2) == ((rd_T34 x6_1 x16_2).f2))))) = false := by simpa using c83
            clear c83
            have H' := Aside0.mk H
            clear H
            try go_wp2
            have n0_ := Aside0.mk (Kd.R_drew HO_5.out)
            have n1_ := Aside0.mk (Kd.R_drew HO_6.out)
            have n2_ := Aside0.mk (Kd.R_drew HO_14.out)
            have n3_ := Aside0.mk (Kd.R_drew HO_15.out)
            have n4_ := Aside0.mk (below_drew1 HB.out)
            clear HO_5
            clear HO_6
            clear HO_14
            clear HO_15
            clear HB
            have HO_5 := n0_
            have HO_6 := n1_
            have HO_14 := n2_
            have HO_15 := n3_
            have HB := n4_
            clear n0_ n1_ n2_ n3_ n4_
            have p285 : 0 ≤ (x16_2 : Int) := of_decide_eq_true (by first | (with_reducible assumption) | assumption)
            have q285 : x16_2 < (t279.length : Int) := of_decide_eq_true (by first | (with_reducible assumption) | assumption)
            obtain ⟨ad285, e285, hx285_0, hx285_1, hx285_2⟩ := at_T34 (Kd.R_reads' HO_14.out).2.2 x16_2 p285 q285
            cases e285
            replace p285 := eq_true p285
            replace q285 := eq_true q285
            have p286 : 0 ≤ (x16_2 : Int) := of_decide_eq_true (by first | (with_reducible assumption) | assumption)
            have q286 : x16_2 < (x6_1.length : Int) := of_decide_eq_true (by first | (with_reducible assumption) | assumption)
            obtain ⟨ad286, e286, hx286_0, hx286_1, hx286_2⟩ := at_T34 (Kd.R_reads' HO_6.out).2.2 x16_2 p286 q286
            cases e286
            replace p286 := eq_true p286
            replace q286 := eq_true q286
            refine start_ (n := 9) (S := fun w' => w'.cell? (ad285.add ((x16_2).toNat * 3)) = some (.int .i64 ((rd_T34 t279 x16_2).f0)) ∧ w'.cell? ⟨(ad285.add ((x16_2).toNat * 3)).block, (ad285.add ((x16_2).toNat * 3)).off + 1, none⟩ = some (.int .i64 ((rd_T34 t279 x16_2).f1)) ∧ w'.cell? ⟨(ad285.add ((x16_2).toNat * 3)).block, (ad285.add ((x16_2).toNat * 3)).off + 2, none⟩ = some (.int .i64 ((rd_T34 t279 x16_2).f2)) ∧ w'.cell? (ad286.add ((x16_2).toNat * 3)) = some (.int .i64 ((rd_T34 x6_1 x16_2).f0)) ∧ w'.cell? ⟨(ad286.add ((x16_2).toNat * 3)).block, (ad286.add ((x16_2).toNat * 3)).off + 1, none⟩ = some (.int .i64 ((rd_T34 x6_1 x16_2).f1)) ∧ w'.cell? ⟨(ad286.add ((x16_2).toNat * 3)).block, (ad286.add ((x16_2).toNat * 3)).off + 2, none⟩ = some (.int .i64 ((rd_T34 x6_1 x16_2).f2))) (ds := []) (bs 9 0) (by kernel_rfl) rfl rfl ⟨hx285_0, hx285_1, hx285_2, hx286_0, hx286_1, hx286_2⟩ (fun hHeld => ?_); refine with_tabW laws_FnCranes.tab33 laws_FnCranes.bits33 (fun HT_ HW_ => ?_)
            generalize wr.drew = w85 at HO_5 HO_6 HO_14 HO_15 HB hx285_0 hx285_1 hx285_2 hx286_0 hx286_1 hx286_2 hHeld ⊢
            refine pure_ (i := 0) (N := some 176) (v := ?_) (a' := ?_) (bs 9 1) rfl rfl (any_of HT_.out (by kernel_rfl)) (fun _ _ _ h => h) (Or.inl ⟨by rfl, ?_⟩) ?_ ?_
            rotate_left
            ·intro w'
             go_simp
             with_reducible rfl
            rotate_left
            ·simp only [Act.put, sA_, sZ_, sS_, i64_w, i32_w]
             rfl
            refine pure_ (i := 1) (N := some 177) (v := ?_) (a' := ?_) (bs 9 3) rfl rfl (any_of HT_.out (by kernel_rfl)) (fun _ _ _ h => h) (Or.inl ⟨by rfl, ?_⟩) ?_ ?_
            rotate_left
            ·intro w'
             go_simp
             with_reducible rfl
            rotate_left
            ·simp only [Act.put, sA_, sZ_, sS_, i64_w, i32_w]
             rfl
            refine pure_ (i := 2) (N := some 178) (v := ?_) (a' := ?_) (bs 9 7) rfl rfl (any_of HT_.out (by kernel_rfl)) (fun _ _ _ h => h) (Or.inl ⟨by rfl, ?_⟩) ?_ ?_
            rotate_left
            ·intro w'
             go_simp
             with_reducible rfl
            rotate_left
            ·simp only [Act.put, sA_, sZ_, sS_, i64_w, i32_w]
             rfl
            refine pure_ (i := 4) (N := some 180) (v := ?_) (a' := ?_) (bs 9 23) rfl rfl (any_of HT_.out (by kernel_rfl)) (fun _ _ _ h => h) (Or.inl ⟨by rfl, ?_⟩) ?_ ?_
            rotate_left
            ·intro w'
             go_simp
             with_reducible rfl
            rotate_left
            ·simp only [Act.put, sA_, sZ_, sS_, i64_w, i32_w]
             rfl
            refine pure_ (i := 5) (N := some 181) (v := ?_) (a' := ?_) (bs 9 55) rfl rfl (any_of HT_.out (by kernel_rfl)) (fun _ _ _ h => h) (Or.inl ⟨by rfl, ?_⟩) ?_ ?_
            rotate_left
            ·intro w'
             go_simp
             with_reducible rfl
            rotate_left
            ·simp only [Act.put, sA_, sZ_, sS_, i64_w, i32_w]
             rfl
            refine pure_ (i := 6) (N := some 182) (v := ?_) (a' := ?_) (bs 9 119) rfl rfl (any_of HT_.out (by kernel_rfl)) (fun _ _ _ h => h) (Or.inl ⟨by rfl, ?_⟩) ?_ ?_
            rotate_left
            ·intro w'
             go_simp
             with_reducible rfl
            rotate_left
            ·simp only [Act.put, sA_, sZ_, sS_, i64_w, i32_w]
             rfl
            refine take_ (i := 3) (N := some 179) (v := ?_) (a' := ?_) (bs 9 127) rfl rfl (take_ofW HT_.out HW_.out (by kernel_rfl)) (fun _ _ _ h => h) (Or.inl ⟨by rfl, ?_⟩) hHeld ?_ ?_
            rotate_left
            ·rintro w' ⟨s0, s1, s2, s3, s4, s5⟩
             go_simp
             with_reducible rfl
            rotate_left
            ·simp only [Act.put, sA_, sZ_, sS_, i64_w, i32_w]
             rfl
            refine take_ (i := 7) (N := some 183) (v := ?_) (a' := ?_) (bs 9 255) rfl rfl (take_ofW HT_.out HW_.out (by kernel_rfl)) (fun _ _ _ h => h) (Or.inl ⟨by rfl, ?_⟩) hHeld ?_ ?_
            rotate_left
            ·rintro w' ⟨s0, s1, s2, s3, s4, s5⟩
             go_simp
             with_reducible rfl
            rotate_left
            ·simp only [Act.put, sA_, sZ_, sS_, i64_w, i32_w]
             rfl
            refine pure_ (i := 8) (N := some 184) (v := ?_) (a' := ?_) (bs 9 511) rfl rfl (any_of HT_.out (by kernel_rfl)) (fun _ _ _ h => h) (Or.inl ⟨by rfl, ?_⟩) ?_ ?_
            rotate_left
            ·intro w'
             go_simp
             with_reducible rfl
            rotate_left
            ·simp only [Act.put, sA_, sZ_, sS_, i64_w, i32_w]
             rfl
            refine done_ (done_of HT_.out (by kernel_rfl)) ?_
            try go_wp2
            go_roundg k2
            case measure => have := HK1.out; have := HK2.out; omega
            case rel => exact ⟨(wrap64 (x16_2 + 1)), (by first | rfl | (simp; done) | (simp [*]; done) | (simp [wrap64]; done)), H', ⟨by have := HK1.out; have := HK2.out; omega⟩, ⟨by (with_reducible repeat (first | apply Kd.R_alloc | apply Kd.R_drewN | apply Kd.R_drew)); exact HO_5.out⟩, ⟨by (with_reducible repeat (first | apply Kd.R_alloc | apply Kd.R_drewN | apply Kd.R_drew)); exact HO_6.out⟩, ⟨by (with_reducible repeat (first | apply Kd.R_alloc | apply Kd.R_drewN | apply Kd.R_drew)); exact HO_14.out⟩, ⟨by (with_reducible repeat (first | apply Kd.R_alloc | apply Kd.R_drewN | apply Kd.R_drew)); exact HO_15.out⟩, ⟨bel_ HB.out⟩⟩
          ·rw [if_neg c82] at H
           exact absurd H (by simp)
         ·rw [if_neg c81] at H
          exact absurd H (by simp)
        ·rw [if_neg c80] at H
         have c80b0 : decide (x16_2 < (x6_1.length : Int)) = false := decide_eq_false c80
         clear c80
         obtain rfl := Option.some.inj H
         obtain ⟨Ao86, co86, eo86⟩ := Kd.R_slice HO_15.out
         subst eo86
         go_wp2
         go_ret
         exact ⟨by first | rfl | (simp [errW_none, errW_some] <;> rfl) | (simp [*, errW_none, errW_some] <;> rfl), bel_ HB.out⟩
     ·rw [if_neg c74] at H
      have c74b0 : ((t279.length : Int) == (x6_1.length : Int)) = false := beq_eq_false_iff_ne.mpr c74
      have c74b1 : ((t279.length : Int) != (x6_1.length : Int)) = true := bne_iff_ne.mpr c74
      have c74b2 : (t279.length == x6_1.length) = false := by first | simpa using c74 | (simp at c74 ⊢; omega)
      obtain rfl := Option.some.inj H
      obtain ⟨Ao87, co87, eo87⟩ := Kd.R_slice HO_5.out
      subst eo87
      obtain ⟨Ao88, co88, eo88⟩ := Kd.R_slice HO_3.out
      subst eo88
      go_wp2_with (first | ((with_reducible refine gate_callee (f := 12) rfl ?_); refine goesL_ (some 162) rfl rfl Try.func12 (by kernel_rfl) rfl #[.slice Ao88 t249.length co88, .int .i64 t250, .slice Ao87 t251.length co87] rfl (by (try simp only [List.map_toArray, List.map_cons, List.map_nil]); first | done | rfl | (simp only [List.length_drop, List.length_take]; rfl)) ?_; (with_reducible refine (impl_RunMoves.calls k1 _ _ t249 t250 _ _ t251 t279 t280 _ ?side1 ?side2 ?side3 ?side4 A73.out).mono ?_); (case side1 => repeat (first | exact (Kd.R_reads' HO_3.out).2.2 | (with_reducible refine Kd.C_alloc ?_ _) | (with_reducible refine Kd.C_drewN ?_ _) | (with_reducible refine Kd.C_drew ?_))); (case side2 => exact (Kd.R_reads' HO_3.out).2.1); (case side3 => repeat (first | exact (Kd.R_reads' HO_5.out).2.2 | (with_reducible refine Kd.C_alloc ?_ _) | (with_reducible refine Kd.C_drewN ?_ _) | (with_reducible refine Kd.C_drew ?_))); (case side4 => exact (Kd.R_reads' HO_5.out).2.1); rintro e w89 ⟨v281, v283, rfl, ho0, ho1, hb⟩; refine ⟨_, rfl, ?_⟩; have n0_ := Aside0.mk (Kd.R_elder' (fr_ HO_3.out) (Kd.R_base ho0) hb); have n1_ := Aside0.mk (Kd.R_below (fr_ HO_5.out) hb); have n2_ := Aside0.mk (Kd.R_elder' (fr_ HO_6.out) (Kd.R_base ho0) hb); have n3_ := Aside0.mk (Kd.R_lower (Kd.R_new' (Kd.R_new' ho0 (Kd.R_lt (fr_ HO_3.out))) (Kd.R_lt (fr_ HO_6.out))) (below_size (bel_ HB.out))); have n4_ := Aside0.mk (Kd.R_lower ho1 (below_size (bel_ HB.out))); have n5_ := Aside0.mk (below_step (bel_ HB.out) hb); clear HO_3; clear HO_5; clear HO_6; clear HB; have HO_3 := n0_; have HO_5 := n1_; have HO_6 := n2_; have HO282 := n3_; have HO284 := n4_; have HB := n5_; clear n0_ n1_ n2_ n3_ n4_ n5_; (try clear hb); (try clear hb2); (try clear hk); (try clear hi); (try clear ho0); (try clear ho1); obtain ⟨Ao90, co90, eo90⟩ := Kd.R_slice HO282.out; subst eo90; obtain ⟨Ao91, co91, eo91⟩ := Kd.R_slice HO_6.out; subst eo91))
      go_ret
      exact ⟨by first | rfl | (simp [errW_none, errW_some] <;> rfl) | (simp [*, errW_none, errW_some] <;> rfl), bel_ HB.out⟩

/-- THE ONE PURE STATEMENT of laws_FnCranes: yours. -/
def laws_FnCranes.Pure : Prop := ∀ (l0 : List Int), l0.length ≤ maxLen → l0.length * 1 ≤ 140737488351232 → (∀ x ∈ l0, (Lit.int .u8 x).wf = true) → ∃ k, laws_FnCranes.f k l0 = some true
theorem laws_FnCranes.walk (P : laws_FnCranes.Pure) (a0 : Option Addr) (len0 cap0 : Nat) (z0 : List Int) (w : World) (w0 : (a0 = none ∧ len0 = 0 ∧ cap0 = 0 ∧ z0 = []) ∨ ∃ x, a0 = some x ∧ len0 ≤ cap0 ∧ cap0 ≤ maxLen ∧ z0.length = cap0 ∧ (∀ i, i < z0.length → w.cell? (x.add i) = some (.int .u8 (z0.getD i 0))) ∧ ∀ n ∈ z0, (Lit.int .u8 n).wf = true) (y0 : len0 * 1 ≤ 140737488351232) :
  Calls Try.prog 3 #[.slice a0 len0 cap0] w fun e w' => e = .returned (.bool true) ∧ Below w.heap.size w w' := by
 obtain ⟨l0, rfl, hr0, hm0, hw0, hc0⟩ := ReadsInt.ofRowC w0
 obtain ⟨k, h⟩ := P l0 hm0 y0 hw0
 refine (laws_FnCranes.calls k _ _ l0 true w (Kd.C_of_reads (d := (0 : Int)) (h1 := fun _ => rfl) hr0) hc0 h).mono ?_
 rintro e w' ⟨rfl, hd⟩
 exact ⟨rfl, hd⟩

end Go.Proofs.Ytbaiiaabanhilaa.PFnCranes
