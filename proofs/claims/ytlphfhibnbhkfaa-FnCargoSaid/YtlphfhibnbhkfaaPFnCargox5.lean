/- The Lean side of Go functions of this seat: what each answers, and that its run comes to that answer; written by a program of this work. -/
import Derived.Test.YtlphfhibnbhkfaaPFnCargox0
import Derived.Test.YtlphfhibnbhkfaaPFnCargox3
import Derived.Test.YtlphfhibnbhkfaaPFnCargox4
namespace Go.Proofs.Ytlphfhibnbhkfaa.PFnCargo
open Go.RowKit Go.Proofs.YtlphfhibnbhkfaaW.PrintWords Go.Proofs.YtlphfhibnbhkfaaW.PrintLast Go.Proofs.YtlphfhibnbhkfaaW.PrintMore
attribute [local go_sem] max2_int min2_int max_two min_two max_three min_three max_four min_four   -- for this text's walks alone
set_option linter.unusedVariables false
set_option linter.unusedSimpArgs false

/-! ### impl_CargoStep: function 26 -/
mutual
def impl_CargoStep.j3 : Nat → List (S63) → Int → List (S63) → Int → List (S63) → Int → Int → Int → Int → Option ((List (S63)) × Int)
 | 0, _, _, _, _, _, _, _, _, _ => none
 | k + 1, x0, x2, x8, x10, x11, x284000, x284001, x284002, x284003 => if 0 ≤ x284001 then (if x284001 < (x11.length : Int) then (if x284000 = 1 then (if (wrap64 (((rd_T63 x11 x284001).f0) + x284003)) > ((rd_T63 x11 x284001).f1) then (some (x8, 3)) else ((some (x11.set (x284001 : Int).toNat (⟨wrap64 (((rd_T63 x11 x284001).f0) + x284003), (rd_T63 x11 x284001).f1, (rd_T63 x11 x284001).f2, (rd_T63 x11 x284001).f3, (rd_T63 x11 x284001).f4⟩ : S63) : List (S63))).bind fun y300 => (if x10 = 100 then (none) else ((impl_CargoTank_mayBurn.f (wrap64 (((rd_T63 x11 x284001).f0) + x284003)) ((rd_T63 x11 x284001).f1) ((rd_T63 x11 x284001).f2) ((rd_T63 x11 x284001).f3) ((rd_T63 x11 x284001).f4)).bind fun t302 => (if t302 = true then (impl_CargoStep.j4 k x0 x2 x8 y300 true) else (if x284000 = 3 then (none) else (impl_CargoStep.j4 k x0 x2 x8 y300 false))))))) else (if x284000 = 2 then (if ((rd_T63 x11 x284001).f0) < x284003 then (some (x8, 2)) else (if (wrap64 (((rd_T63 x11 x284001).f1) - (wrap64 (((rd_T63 x11 x284001).f0) - x284003)))) = 0 then (none) else ((some (x11.set (x284001 : Int).toNat (⟨wrap64 (((rd_T63 x11 x284001).f0) - x284003), (rd_T63 x11 x284001).f1, (rd_T63 x11 x284001).f2, wrap64 (Int.tdiv (wrap64 (((rd_T63 x11 x284001).f3) * (wrap64 ((wrap64 (((rd_T63 x11 x284001).f1) - (wrap64 (((rd_T63 x11 x284001).f0) - x284003)))) - x284003)))) (wrap64 (((rd_T63 x11 x284001).f1) - (wrap64 (((rd_T63 x11 x284001).f0) - x284003))))), wrap64 (Int.tdiv (wrap64 (((rd_T63 x11 x284001).f4) * (wrap64 ((wrap64 (((rd_T63 x11 x284001).f1) - (wrap64 (((rd_T63 x11 x284001).f0) - x284003)))) - x284003)))) (wrap64 (((rd_T63 x11 x284001).f1) - (wrap64 (((rd_T63 x11 x284001).f0) - x284003)))))⟩ : S63) : List (S63))).bind fun y304 => (if x10 = 100 then (none) else ((impl_CargoTank_mayBurn.f ((rd_T63 y304 x284001).f0) ((rd_T63 y304 x284001).f1) ((rd_T63 y304 x284001).f2) ((rd_T63 y304 x284001).f3) ((rd_T63 y304 x284001).f4)).bind fun t306 => (if t306 = true then (impl_CargoStep.j5 k x0 x2 x8 y304 true) else (if x284000 = 3 then (none) else (impl_CargoStep.j5 k x0 x2 x8 y304 false)))))))) else (if x284000 = 3 then (if 0 ≤ x284002 then (if x284002 < (x11.length : Int) then (if ((rd_T63 x11 x284001).f0) < x284003 then (some (x8, 2)) else (if (wrap64 (((rd_T63 x11 x284002).f0) + x284003)) > ((rd_T63 x11 x284002).f1) then (some (x8, 3)) else (if (wrap64 (((rd_T63 x11 x284001).f1) - (wrap64 (((rd_T63 x11 x284001).f0) - x284003)))) = 0 then (none) else ((some (x11.set (x284001 : Int).toNat (⟨wrap64 (((rd_T63 x11 x284001).f0) - x284003), (rd_T63 x11 x284001).f1, (rd_T63 x11 x284001).f2, wrap64 (Int.tdiv (wrap64 (((rd_T63 x11 x284001).f3) * (wrap64 ((wrap64 (((rd_T63 x11 x284001).f1) - (wrap64 (((rd_T63 x11 x284001).f0) - x284003)))) - x284003)))) (wrap64 (((rd_T63 x11 x284001).f1) - (wrap64 (((rd_T63 x11 x284001).f0) - x284003))))), wrap64 (Int.tdiv (wrap64 (((rd_T63 x11 x284001).f4) * (wrap64 ((wrap64 (((rd_T63 x11 x284001).f1) - (wrap64 (((rd_T63 x11 x284001).f0) - x284003)))) - x284003)))) (wrap64 (((rd_T63 x11 x284001).f1) - (wrap64 (((rd_T63 x11 x284001).f0) - x284003)))))⟩ : S63) : List (S63))).bind fun y310 => ((some (y310.set (x284002 : Int).toNat (⟨wrap64 (((rd_T63 y310 x284002).f0) + x284003), (rd_T63 y310 x284002).f1, (rd_T63 y310 x284002).f2, (rd_T63 y310 x284002).f3, (rd_T63 y310 x284002).f4⟩ : S63) : List (S63))).bind fun y312 => (if x10 = 100 then (none) else ((impl_CargoTank_mayBurn.f ((rd_T63 y312 x284001).f0) ((rd_T63 y312 x284001).f1) ((rd_T63 y312 x284001).f2) ((rd_T63 y312 x284001).f3) ((rd_T63 y312 x284001).f4)).bind fun t314 => (if t314 = true then (impl_CargoStep.j6 k x0 x2 x8 y312 true) else ((impl_CargoTank_mayBurn.f ((rd_T63 y312 x284002).f0) ((rd_T63 y312 x284002).f1) ((rd_T63 y312 x284002).f2) ((rd_T63 y312 x284002).f3) ((rd_T63 y312 x284002).f4)).bind fun t316 => (impl_CargoStep.j6 k x0 x2 x8 y312 t316)))))))))) else (none)) else (none)) else (if x10 = 100 then ((some (x11.set (x284001 : Int).toNat (⟨(rd_T63 x11 x284001).f0, (rd_T63 x11 x284001).f1, (rd_T63 x11 x284001).f2, wrap64 (Int.tdiv (wrap64 (((rd_T63 x11 x284001).f3) * (wrap64 (100 - x284003)))) 100), (rd_T63 x11 x284001).f4⟩ : S63) : List (S63))).bind fun y318 => ((some (y318.set (x284001 : Int).toNat (⟨(rd_T63 y318 x284001).f0, (rd_T63 y318 x284001).f1, (rd_T63 y318 x284001).f2, (rd_T63 y318 x284001).f3, wrap64 (Int.tdiv (wrap64 (((rd_T63 y318 x284001).f4) * (wrap64 (100 - x284003)))) 100)⟩ : S63) : List (S63))).bind fun y320 => (if x284000 = 5 then ((some (y320.set (x284001 : Int).toNat (⟨(rd_T63 y320 x284001).f0, (rd_T63 y320 x284001).f1, (rd_T63 y320 x284001).f2, (rd_T63 y320 x284001).f3, wrap64 (((rd_T63 y320 x284001).f4) + (wrap64 (10 * x284003)))⟩ : S63) : List (S63))).bind fun y322 => ((impl_CargoTank_mayBurn.f ((rd_T63 y320 x284001).f0) ((rd_T63 y320 x284001).f1) ((rd_T63 y320 x284001).f2) ((rd_T63 y320 x284001).f3) (wrap64 (((rd_T63 y320 x284001).f4) + (wrap64 (10 * x284003))))).bind fun t324 => (if t324 = true then (impl_CargoStep.j7 k x0 x2 x8 y322 true) else (impl_CargoStep.j7 k x0 x2 x8 y322 false)))) else ((impl_CargoTank_mayBurn.f ((rd_T63 y318 x284001).f0) ((rd_T63 y318 x284001).f1) ((rd_T63 y318 x284001).f2) ((rd_T63 y318 x284001).f3) (wrap64 (Int.tdiv (wrap64 (((rd_T63 y318 x284001).f4) * (wrap64 (100 - x284003)))) 100))).bind fun t326 => (if t326 = true then (impl_CargoStep.j8 k x0 x2 x8 y320 true) else (impl_CargoStep.j8 k x0 x2 x8 y320 false)))))) else (none))))) else (none)) else (none)
def impl_CargoStep.j9 : Nat → List (S63) → Int → List (S63) → List (S63) → Option ((List (S63)) × Int)
 | 0, _, _, _, _ => none
 | k + 1, x0, x2, x8, x11 => (impl_leanOf.f k x11).bind fun t327 => ((impl_size.f t327).bind fun t328 => (if t328 > x2 then ((impl_leanOf.f k x0).bind fun t329 => ((impl_size.f t329).bind fun t330 => (if t328 > t330 then (some (x8, 5)) else (some (x11, 0))))) else (some (x11, 0))))
def impl_CargoStep.j4 : Nat → List (S63) → Int → List (S63) → List (S63) → Bool → Option ((List (S63)) × Int)
 | 0, _, _, _, _, _ => none
 | k + 1, x0, x2, x8, x11, x199 => if x199 = true then (some (x8, 4)) else (impl_CargoStep.j9 k x0 x2 x8 x11)
def impl_CargoStep.j5 : Nat → List (S63) → Int → List (S63) → List (S63) → Bool → Option ((List (S63)) × Int)
 | 0, _, _, _, _, _ => none
 | k + 1, x0, x2, x8, x11, x199 => if x199 = true then (some (x8, 4)) else (impl_CargoStep.j9 k x0 x2 x8 x11)
def impl_CargoStep.j6 : Nat → List (S63) → Int → List (S63) → List (S63) → Bool → Option ((List (S63)) × Int)
 | 0, _, _, _, _, _ => none
 | k + 1, x0, x2, x8, x11, x199 => if x199 = true then (some (x8, 4)) else (impl_CargoStep.j9 k x0 x2 x8 x11)
def impl_CargoStep.j7 : Nat → List (S63) → Int → List (S63) → List (S63) → Bool → Option ((List (S63)) × Int)
 | 0, _, _, _, _, _ => none
 | k + 1, x0, x2, x8, x11, x199 => if x199 = true then (some (x8, 4)) else (impl_CargoStep.j9 k x0 x2 x8 x11)
def impl_CargoStep.j8 : Nat → List (S63) → Int → List (S63) → List (S63) → Bool → Option ((List (S63)) × Int)
 | 0, _, _, _, _, _ => none
 | k + 1, x0, x2, x8, x11, x199 => if x199 = true then (some (x8, 4)) else (impl_CargoStep.j9 k x0 x2 x8 x11)
def impl_CargoStep.j0 : Nat → List (S63) → Int → List (S63) → Int → Int → Bool → Int → Int → Int → Int → Option ((List (S63)) × Int)
 | 0, _, _, _, _, _, _, _, _, _, _ => none
 | k + 1, x0, x2, x8, x9, x10, x28, x284000, x284001, x284002, x284003 => if x28 = true then (impl_CargoStep.j1 k x0 x2 x8 x9 100 x284000 x284001 x284002 x284003) else (impl_CargoStep.j1 k x0 x2 x8 x9 x10 x284000 x284001 x284002 x284003)
def impl_CargoStep.j1 : Nat → List (S63) → Int → List (S63) → Int → Int → Int → Int → Int → Int → Option ((List (S63)) × Int)
 | 0, _, _, _, _, _, _, _, _, _ => none
 | k + 1, x0, x2, x8, x9, x10, x284000, x284001, x284002, x284003 => (impl_TanksOk.f k x0).bind fun t287 => (if t287 = true then ((impl_in.f x284000 1 5).bind fun t288 => (if t288 = true then ((impl_in.f x284001 0 x9).bind fun t289 => (if t289 = true then ((impl_in.f x284003 1 x10).bind fun t290 => (if t290 = true then (if x284000 = 3 then ((impl_in.f x284002 0 x9).bind fun t291 => (if t291 = true then (if x284002 = x284001 then (impl_CargoStep.j2 k x0 x2 x8 x10 true x284000 x284001 x284002 x284003) else ((impl_in.f x2 0 100000000).bind fun t292 => (impl_CargoStep.j2 k x0 x2 x8 x10 (!t292) x284000 x284001 x284002 x284003))) else (impl_CargoStep.j2 k x0 x2 x8 x10 true x284000 x284001 x284002 x284003))) else ((impl_in.f x2 0 100000000).bind fun t293 => (impl_CargoStep.j2 k x0 x2 x8 x10 (!t293) x284000 x284001 x284002 x284003))) else (impl_CargoStep.j2 k x0 x2 x8 x10 true x284000 x284001 x284002 x284003))) else (impl_CargoStep.j2 k x0 x2 x8 x10 true x284000 x284001 x284002 x284003))) else (impl_CargoStep.j2 k x0 x2 x8 x10 true x284000 x284001 x284002 x284003))) else (impl_CargoStep.j2 k x0 x2 x8 x10 true x284000 x284001 x284002 x284003))
def impl_CargoStep.j2 : Nat → List (S63) → Int → List (S63) → Int → Bool → Int → Int → Int → Int → Option ((List (S63)) × Int)
 | 0, _, _, _, _, _, _, _, _, _ => none
 | k + 1, x0, x2, x8, x10, x75, x284000, x284001, x284002, x284003 => if x75 = true then (some (x8, 1)) else ((impl_CargoTank_61.f x0).bind fun t294 => (impl_CargoStep.j3 k x0 x2 x8 x10 t294 x284000 x284001 x284002 x284003))
end
def impl_CargoStep.f (k : Nat) (l0 : List (S63)) (a1_0 : Int) (a1_1 : Int) (a1_2 : Int) (a1_3 : Int) (a2 : Int) : Option ((List (S63)) × Int) := (impl_CargoTank_61.f l0).bind fun t284 => (if a1_0 = 4 then (impl_CargoStep.j0 k l0 a2 t284 (wrap64 ((l0.length : Int) - 1)) 100000 true a1_0 a1_1 a1_2 a1_3) else (impl_CargoStep.j0 k l0 a2 t284 (wrap64 ((l0.length : Int) - 1)) 100000 (a1_0 == 5) a1_0 a1_1 a1_2 a1_3))
theorem impl_CargoStep.mono_l : ∀ k, (∀ y0 y1 y2 y3 y4 y5 y6 y7 y8, LeO (impl_CargoStep.j3 k y0 y1 y2 y3 y4 y5 y6 y7 y8) (impl_CargoStep.j3 (k + 1) y0 y1 y2 y3 y4 y5 y6 y7 y8)) ∧ (∀ y0 y1 y2 y3, LeO (impl_CargoStep.j9 k y0 y1 y2 y3) (impl_CargoStep.j9 (k + 1) y0 y1 y2 y3)) ∧ (∀ y0 y1 y2 y3 y4, LeO (impl_CargoStep.j4 k y0 y1 y2 y3 y4) (impl_CargoStep.j4 (k + 1) y0 y1 y2 y3 y4)) ∧ (∀ y0 y1 y2 y3 y4, LeO (impl_CargoStep.j5 k y0 y1 y2 y3 y4) (impl_CargoStep.j5 (k + 1) y0 y1 y2 y3 y4)) ∧ (∀ y0 y1 y2 y3 y4, LeO (impl_CargoStep.j6 k y0 y1 y2 y3 y4) (impl_CargoStep.j6 (k + 1) y0 y1 y2 y3 y4)) ∧ (∀ y0 y1 y2 y3 y4, LeO (impl_CargoStep.j7 k y0 y1 y2 y3 y4) (impl_CargoStep.j7 (k + 1) y0 y1 y2 y3 y4)) ∧ (∀ y0 y1 y2 y3 y4, LeO (impl_CargoStep.j8 k y0 y1 y2 y3 y4) (impl_CargoStep.j8 (k + 1) y0 y1 y2 y3 y4)) ∧ (∀ y0 y1 y2 y3 y4 y5 y6 y7 y8 y9, LeO (impl_CargoStep.j0 k y0 y1 y2 y3 y4 y5 y6 y7 y8 y9) (impl_CargoStep.j0 (k + 1) y0 y1 y2 y3 y4 y5 y6 y7 y8 y9)) ∧ (∀ y0 y1 y2 y3 y4 y5 y6 y7 y8, LeO (impl_CargoStep.j1 k y0 y1 y2 y3 y4 y5 y6 y7 y8) (impl_CargoStep.j1 (k + 1) y0 y1 y2 y3 y4 y5 y6 y7 y8)) ∧ (∀ y0 y1 y2 y3 y4 y5 y6 y7 y8, LeO (impl_CargoStep.j2 k y0 y1 y2 y3 y4 y5 y6 y7 y8) (impl_CargoStep.j2 (k + 1) y0 y1 y2 y3 y4 y5 y6 y7 y8))
 | 0 => ⟨fun _ _ _ _ _ _ _ _ _ r h => by simp [impl_CargoStep.j3] at h, fun _ _ _ _ r h => by simp [impl_CargoStep.j9] at h, fun _ _ _ _ _ r h => by simp [impl_CargoStep.j4] at h, fun _ _ _ _ _ r h => by simp [impl_CargoStep.j5] at h, fun _ _ _ _ _ r h => by simp [impl_CargoStep.j6] at h, fun _ _ _ _ _ r h => by simp [impl_CargoStep.j7] at h, fun _ _ _ _ _ r h => by simp [impl_CargoStep.j8] at h, fun _ _ _ _ _ _ _ _ _ _ r h => by simp [impl_CargoStep.j0] at h, fun _ _ _ _ _ _ _ _ _ r h => by simp [impl_CargoStep.j1] at h, fun _ _ _ _ _ _ _ _ _ r h => by simp [impl_CargoStep.j2] at h⟩
 | k + 1 => by
  obtain ⟨ih0, ih1, ih2, ih3, ih4, ih5, ih6, ih7, ih8, ih9⟩ := impl_CargoStep.mono_l k
  refine ⟨?_, ?_, ?_, ?_, ?_, ?_, ?_, ?_, ?_, ?_⟩
  ·intro y0 y1 y2 y3 y4 y5 y6 y7 y8
   unfold impl_CargoStep.j3
   repeat' first
   | (with_reducible exact ih0 _ _ _ _ _ _ _ _ _)
   | (with_reducible exact ih1 _ _ _ _)
   | (with_reducible exact ih2 _ _ _ _ _)
   | (with_reducible exact ih3 _ _ _ _ _)
   | (with_reducible exact ih4 _ _ _ _ _)
   | (with_reducible exact ih5 _ _ _ _ _)
   | (with_reducible exact ih6 _ _ _ _ _)
   | (with_reducible exact ih7 _ _ _ _ _ _ _ _ _ _)
   | (with_reducible exact ih8 _ _ _ _ _ _ _ _ _)
   | (with_reducible exact ih9 _ _ _ _ _ _ _ _ _)
   | (with_reducible exact impl_TanksOk.mono _ _)
   | (with_reducible exact impl_leanOf.mono _ _)
   | (with_reducible exact LeO.refl _)
   | (with_reducible exact LeO.none _)
   | (with_reducible refine LeO.ite ?_ ?_)
   | (with_reducible refine LeO.bind ?_ (fun _ => ?_))
   | exact ih0 _ _ _ _ _ _ _ _ _
   | exact ih1 _ _ _ _
   | exact ih2 _ _ _ _ _
   | exact ih3 _ _ _ _ _
   | exact ih4 _ _ _ _ _
   | exact ih5 _ _ _ _ _
   | exact ih6 _ _ _ _ _
   | exact ih7 _ _ _ _ _ _ _ _ _ _
   | exact ih8 _ _ _ _ _ _ _ _ _
   | exact ih9 _ _ _ _ _ _ _ _ _
   | exact impl_TanksOk.mono _ _
   | exact impl_leanOf.mono _ _
   | exact LeO.none _
   | refine LeO.ite ?_ ?_
   | refine LeO.bind ?_ (fun _ => ?_)
  ·intro y0 y1 y2 y3
   unfold impl_CargoStep.j9
   repeat' first
   | (with_reducible exact ih0 _ _ _ _ _ _ _ _ _)
   | (with_reducible exact ih1 _ _ _ _)
   | (with_reducible exact ih2 _ _ _ _ _)
   | (with_reducible exact ih3 _ _ _ _ _)
   | (with_reducible exact ih4 _ _ _ _ _)
   | (with_reducible exact ih5 _ _ _ _ _)
   | (with_reducible exact ih6 _ _ _ _ _)
   | (with_reducible exact ih7 _ _ _ _ _ _ _ _ _ _)
   | (with_reducible exact ih8 _ _ _ _ _ _ _ _ _)
   | (with_reducible exact ih9 _ _ _ _ _ _ _ _ _)
   | (with_reducible exact impl_TanksOk.mono _ _)
   | (with_reducible exact impl_leanOf.mono _ _)
   | (with_reducible exact LeO.refl _)
   | (with_reducible exact LeO.none _)
   | (with_reducible refine LeO.ite ?_ ?_)
   | (with_reducible refine LeO.bind ?_ (fun _ => ?_))
   | exact ih0 _ _ _ _ _ _ _ _ _
   | exact ih1 _ _ _ _
   | exact ih2 _ _ _ _ _
   | exact ih3 _ _ _ _ _
   | exact ih4 _ _ _ _ _
   | exact ih5 _ _ _ _ _
   | exact ih6 _ _ _ _ _
   | exact ih7 _ _ _ _ _ _ _ _ _ _
   | exact ih8 _ _ _ _ _ _ _ _ _
   | exact ih9 _ _ _ _ _ _ _ _ _
   | exact impl_TanksOk.mono _ _
   | exact impl_leanOf.mono _ _
   | exact LeO.none _
   | refine LeO.ite ?_ ?_
   | refine LeO.bind ?_ (fun _ => ?_)
  ·intro y0 y1 y2 y3 y4
   unfold impl_CargoStep.j4
   repeat' first
   | (with_reducible exact ih0 _ _ _ _ _ _ _ _ _)
   | (with_reducible exact ih1 _ _ _ _)
   | (with_reducible exact ih2 _ _ _ _ _)
   | (with_reducible exact ih3 _ _ _ _ _)
   | (with_reducible exact ih4 _ _ _ _ _)
   | (with_reducible exact ih5 _ _ _ _ _)
   | (with_reducible exact ih6 _ _ _ _ _)
   | (with_reducible exact ih7 _ _ _ _ _ _ _ _ _ _)
   | (with_reducible exact ih8 _ _ _ _ _ _ _ _ _)
   | (with_reducible exact ih9 _ _ _ _ _ _ _ _ _)
   | (with_reducible exact impl_TanksOk.mono _ _)
   | (with_reducible exact impl_leanOf.mono _ _)
   | (with_reducible exact LeO.refl _)
   | (with_reducible exact LeO.none _)
   | (with_reducible refine LeO.ite ?_ ?_)
   | (with_reducible refine LeO.bind ?_ (fun _ => ?_))
   | exact ih0 _ _ _ _ _ _ _ _ _
   | exact ih1 _ _ _ _
   | exact ih2 _ _ _ _ _
   | exact ih3 _ _ _ _ _
   | exact ih4 _ _ _ _ _
   | exact ih5 _ _ _ _ _
   | exact ih6 _ _ _ _ _
   | exact ih7 _ _ _ _ _ _ _ _ _ _
   | exact ih8 _ _ _ _ _ _ _ _ _
   | exact ih9 _ _ _ _ _ _ _ _ _
   | exact impl_TanksOk.mono _ _
   | exact impl_leanOf.mono _ _
   | exact LeO.none _
   | refine LeO.ite ?_ ?_
   | refine LeO.bind ?_ (fun _ => ?_)
  ·intro y0 y1 y2 y3 y4
   unfold impl_CargoStep.j5
   repeat' first
   | (with_reducible exact ih0 _ _ _ _ _ _ _ _ _)
   | (with_reducible exact ih1 _ _ _ _)
   | (with_reducible exact ih2 _ _ _ _ _)
   | (with_reducible exact ih3 _ _ _ _ _)
   | (with_reducible exact ih4 _ _ _ _ _)
   | (with_reducible exact ih5 _ _ _ _ _)
   | (with_reducible exact ih6 _ _ _ _ _)
   | (with_reducible exact ih7 _ _ _ _ _ _ _ _ _ _)
   | (with_reducible exact ih8 _ _ _ _ _ _ _ _ _)
   | (with_reducible exact ih9 _ _ _ _ _ _ _ _ _)
   | (with_reducible exact impl_TanksOk.mono _ _)
   | (with_reducible exact impl_leanOf.mono _ _)
   | (with_reducible exact LeO.refl _)
   | (with_reducible exact LeO.none _)
   | (with_reducible refine LeO.ite ?_ ?_)
   | (with_reducible refine LeO.bind ?_ (fun _ => ?_))
   | exact ih0 _ _ _ _ _ _ _ _ _
   | exact ih1 _ _ _ _
   | exact ih2 _ _ _ _ _
   | exact ih3 _ _ _ _ _
   | exact ih4 _ _ _ _ _
   | exact ih5 _ _ _ _ _
   | exact ih6 _ _ _ _ _
   | exact ih7 _ _ _ _ _ _ _ _ _ _
   | exact ih8 _ _ _ _ _ _ _ _ _
   | exact ih9 _ _ _ _ _ _ _ _ _
   | exact impl_TanksOk.mono _ _
   | exact impl_leanOf.mono _ _
   | exact LeO.none _
   | refine LeO.ite ?_ ?_
   | refine LeO.bind ?_ (fun _ => ?_)
  ·intro y0 y1 y2 y3 y4
   unfold impl_CargoStep.j6
   repeat' first
   | (with_reducible exact ih0 _ _ _ _ _ _ _ _ _)
   | (with_reducible exact ih1 _ _ _ _)
   | (with_reducible exact ih2 _ _ _ _ _)
   | (with_reducible exact ih3 _ _ _ _ _)
   | (with_reducible exact ih4 _ _ _ _ _)
   | (with_reducible exact ih5 _ _ _ _ _)
   | (with_reducible exact ih6 _ _ _ _ _)
   | (with_reducible exact ih7 _ _ _ _ _ _ _ _ _ _)
   | (with_reducible exact ih8 _ _ _ _ _ _ _ _ _)
   | (with_reducible exact ih9 _ _ _ _ _ _ _ _ _)
   | (with_reducible exact impl_TanksOk.mono _ _)
   | (with_reducible exact impl_leanOf.mono _ _)
   | (with_reducible exact LeO.refl _)
   | (with_reducible exact LeO.none _)
   | (with_reducible refine LeO.ite ?_ ?_)
   | (with_reducible refine LeO.bind ?_ (fun _ => ?_))
   | exact ih0 _ _ _ _ _ _ _ _ _
   | exact ih1 _ _ _ _
   | exact ih2 _ _ _ _ _
   | exact ih3 _ _ _ _ _
   | exact ih4 _ _ _ _ _
   | exact ih5 _ _ _ _ _
   | exact ih6 _ _ _ _ _
   | exact ih7 _ _ _ _ _ _ _ _ _ _
   | exact ih8 _ _ _ _ _ _ _ _ _
   | exact ih9 _ _ _ _ _ _ _ _ _
   | exact impl_TanksOk.mono _ _
   | exact impl_leanOf.mono _ _
   | exact LeO.none _
   | refine LeO.ite ?_ ?_
   | refine LeO.bind ?_ (fun _ => ?_)
  ·intro y0 y1 y2 y3 y4
   unfold impl_CargoStep.j7
   repeat' first
   | (with_reducible exact ih0 _ _ _ _ _ _ _ _ _)
   | (with_reducible exact ih1 _ _ _ _)
   | (with_reducible exact ih2 _ _ _ _ _)
   | (with_reducible exact ih3 _ _ _ _ _)
   | (with_reducible exact ih4 _ _ _ _ _)
   | (with_reducible exact ih5 _ _ _ _ _)
   | (with_reducible exact ih6 _ _ _ _ _)
   | (with_reducible exact ih7 _ _ _ _ _ _ _ _ _ _)
   | (with_reducible exact ih8 _ _ _ _ _ _ _ _ _)
   | (with_reducible exact ih9 _ _ _ _ _ _ _ _ _)
   | (with_reducible exact impl_TanksOk.mono _ _)
   | (with_reducible exact impl_leanOf.mono _ _)
   | (with_reducible exact LeO.refl _)
   | (with_reducible exact LeO.none _)
   | (with_reducible refine LeO.ite ?_ ?_)
   | (with_reducible refine LeO.bind ?_ (fun _ => ?_))
   | exact ih0 _ _ _ _ _ _ _ _ _
   | exact ih1 _ _ _ _
   | exact ih2 _ _ _ _ _
   | exact ih3 _ _ _ _ _
   | exact ih4 _ _ _ _ _
   | exact ih5 _ _ _ _ _
   | exact ih6 _ _ _ _ _
   | exact ih7 _ _ _ _ _ _ _ _ _ _
   | exact ih8 _ _ _ _ _ _ _ _ _
   | exact ih9 _ _ _ _ _ _ _ _ _
   | exact impl_TanksOk.mono _ _
   | exact impl_leanOf.mono _ _
   | exact LeO.none _
   | refine LeO.ite ?_ ?_
   | refine LeO.bind ?_ (fun _ => ?_)
  ·intro y0 y1 y2 y3 y4
   unfold impl_CargoStep.j8
   repeat' first
   | (with_reducible exact ih0 _ _ _ _ _ _ _ _ _)
   | (with_reducible exact ih1 _ _ _ _)
   | (with_reducible exact ih2 _ _ _ _ _)
   | (with_reducible exact ih3 _ _ _ _ _)
   | (with_reducible exact ih4 _ _ _ _ _)
   | (with_reducible exact ih5 _ _ _ _ _)
   | (with_reducible exact ih6 _ _ _ _ _)
   | (with_reducible exact ih7 _ _ _ _ _ _ _ _ _ _)
   | (with_reducible exact ih8 _ _ _ _ _ _ _ _ _)
   | (with_reducible exact ih9 _ _ _ _ _ _ _ _ _)
   | (with_reducible exact impl_TanksOk.mono _ _)
   | (with_reducible exact impl_leanOf.mono _ _)
   | (with_reducible exact LeO.refl _)
   | (with_reducible exact LeO.none _)
   | (with_reducible refine LeO.ite ?_ ?_)
   | (with_reducible refine LeO.bind ?_ (fun _ => ?_))
   | exact ih0 _ _ _ _ _ _ _ _ _
   | exact ih1 _ _ _ _
   | exact ih2 _ _ _ _ _
   | exact ih3 _ _ _ _ _
   | exact ih4 _ _ _ _ _
   | exact ih5 _ _ _ _ _
   | exact ih6 _ _ _ _ _
   | exact ih7 _ _ _ _ _ _ _ _ _ _
   | exact ih8 _ _ _ _ _ _ _ _ _
   | exact ih9 _ _ _ _ _ _ _ _ _
   | exact impl_TanksOk.mono _ _
   | exact impl_leanOf.mono _ _
   | exact LeO.none _
   | refine LeO.ite ?_ ?_
   | refine LeO.bind ?_ (fun _ => ?_)
  ·intro y0 y1 y2 y3 y4 y5 y6 y7 y8 y9
   unfold impl_CargoStep.j0
   repeat' first
   | (with_reducible exact ih0 _ _ _ _ _ _ _ _ _)
   | (with_reducible exact ih1 _ _ _ _)
   | (with_reducible exact ih2 _ _ _ _ _)
   | (with_reducible exact ih3 _ _ _ _ _)
   | (with_reducible exact ih4 _ _ _ _ _)
   | (with_reducible exact ih5 _ _ _ _ _)
   | (with_reducible exact ih6 _ _ _ _ _)
   | (with_reducible exact ih7 _ _ _ _ _ _ _ _ _ _)
   | (with_reducible exact ih8 _ _ _ _ _ _ _ _ _)
   | (with_reducible exact ih9 _ _ _ _ _ _ _ _ _)
   | (with_reducible exact impl_TanksOk.mono _ _)
   | (with_reducible exact impl_leanOf.mono _ _)
   | (with_reducible exact LeO.refl _)
   | (with_reducible exact LeO.none _)
   | (with_reducible refine LeO.ite ?_ ?_)
   | (with_reducible refine LeO.bind ?_ (fun _ => ?_))
   | exact ih0 _ _ _ _ _ _ _ _ _
   | exact ih1 _ _ _ _
   | exact ih2 _ _ _ _ _
   | exact ih3 _ _ _ _ _
   | exact ih4 _ _ _ _ _
   | exact ih5 _ _ _ _ _
   | exact ih6 _ _ _ _ _
   | exact ih7 _ _ _ _ _ _ _ _ _ _
   | exact ih8 _ _ _ _ _ _ _ _ _
   | exact ih9 _ _ _ _ _ _ _ _ _
   | exact impl_TanksOk.mono _ _
   | exact impl_leanOf.mono _ _
   | exact LeO.none _
   | refine LeO.ite ?_ ?_
   | refine LeO.bind ?_ (fun _ => ?_)
  ·intro y0 y1 y2 y3 y4 y5 y6 y7 y8
   unfold impl_CargoStep.j1
   repeat' first
   | (with_reducible exact ih0 _ _ _ _ _ _ _ _ _)
   | (with_reducible exact ih1 _ _ _ _)
   | (with_reducible exact ih2 _ _ _ _ _)
   | (with_reducible exact ih3 _ _ _ _ _)
   | (with_reducible exact ih4 _ _ _ _ _)
   | (with_reducible exact ih5 _ _ _ _ _)
   | (with_reducible exact ih6 _ _ _ _ _)
   | (with_reducible exact ih7 _ _ _ _ _ _ _ _ _ _)
   | (with_reducible exact ih8 _ _ _ _ _ _ _ _ _)
   | (with_reducible exact ih9 _ _ _ _ _ _ _ _ _)
   | (with_reducible exact impl_TanksOk.mono _ _)
   | (with_reducible exact impl_leanOf.mono _ _)
   | (with_reducible exact LeO.refl _)
   | (with_reducible exact LeO.none _)
   | (with_reducible refine LeO.ite ?_ ?_)
   | (with_reducible refine LeO.bind ?_ (fun _ => ?_))
   | exact ih0 _ _ _ _ _ _ _ _ _
   | exact ih1 _ _ _ _
   | exact ih2 _ _ _ _ _
   | exact ih3 _ _ _ _ _
   | exact ih4 _ _ _ _ _
   | exact ih5 _ _ _ _ _
   | exact ih6 _ _ _ _ _
   | exact ih7 _ _ _ _ _ _ _ _ _ _
   | exact ih8 _ _ _ _ _ _ _ _ _
   | exact ih9 _ _ _ _ _ _ _ _ _
   | exact impl_TanksOk.mono _ _
   | exact impl_leanOf.mono _ _
   | exact LeO.none _
   | refine LeO.ite ?_ ?_
   | refine LeO.bind ?_ (fun _ => ?_)
  ·intro y0 y1 y2 y3 y4 y5 y6 y7 y8
   unfold impl_CargoStep.j2
   repeat' first
   | (with_reducible exact ih0 _ _ _ _ _ _ _ _ _)
   | (with_reducible exact ih1 _ _ _ _)
   | (with_reducible exact ih2 _ _ _ _ _)
   | (with_reducible exact ih3 _ _ _ _ _)
   | (with_reducible exact ih4 _ _ _ _ _)
   | (with_reducible exact ih5 _ _ _ _ _)
   | (with_reducible exact ih6 _ _ _ _ _)
   | (with_reducible exact ih7 _ _ _ _ _ _ _ _ _ _)
   | (with_reducible exact ih8 _ _ _ _ _ _ _ _ _)
   | (with_reducible exact ih9 _ _ _ _ _ _ _ _ _)
   | (with_reducible exact impl_TanksOk.mono _ _)
   | (with_reducible exact impl_leanOf.mono _ _)
   | (with_reducible exact LeO.refl _)
   | (with_reducible exact LeO.none _)
   | (with_reducible refine LeO.ite ?_ ?_)
   | (with_reducible refine LeO.bind ?_ (fun _ => ?_))
   | exact ih0 _ _ _ _ _ _ _ _ _
   | exact ih1 _ _ _ _
   | exact ih2 _ _ _ _ _
   | exact ih3 _ _ _ _ _
   | exact ih4 _ _ _ _ _
   | exact ih5 _ _ _ _ _
   | exact ih6 _ _ _ _ _
   | exact ih7 _ _ _ _ _ _ _ _ _ _
   | exact ih8 _ _ _ _ _ _ _ _ _
   | exact ih9 _ _ _ _ _ _ _ _ _
   | exact impl_TanksOk.mono _ _
   | exact impl_leanOf.mono _ _
   | exact LeO.none _
   | refine LeO.ite ?_ ?_
   | refine LeO.bind ?_ (fun _ => ?_)
theorem impl_CargoStep.mono : ∀ a0 a1 a2 a3 a4 a5 k, LeO (impl_CargoStep.f k a0 a1 a2 a3 a4 a5) (impl_CargoStep.f (k + 1) a0 a1 a2 a3 a4 a5) := by
 intro a0 a1 a2 a3 a4 a5 k
 obtain ⟨ih0, ih1, ih2, ih3, ih4, ih5, ih6, ih7, ih8, ih9⟩ := impl_CargoStep.mono_l k
 unfold impl_CargoStep.f
 repeat' first
   | (with_reducible exact ih0 _ _ _ _ _ _ _ _ _)
   | (with_reducible exact ih1 _ _ _ _)
   | (with_reducible exact ih2 _ _ _ _ _)
   | (with_reducible exact ih3 _ _ _ _ _)
   | (with_reducible exact ih4 _ _ _ _ _)
   | (with_reducible exact ih5 _ _ _ _ _)
   | (with_reducible exact ih6 _ _ _ _ _)
   | (with_reducible exact ih7 _ _ _ _ _ _ _ _ _ _)
   | (with_reducible exact ih8 _ _ _ _ _ _ _ _ _)
   | (with_reducible exact ih9 _ _ _ _ _ _ _ _ _)
   | (with_reducible exact impl_TanksOk.mono _ _)
   | (with_reducible exact impl_leanOf.mono _ _)
   | (with_reducible exact LeO.refl _)
   | (with_reducible exact LeO.none _)
   | (with_reducible refine LeO.ite ?_ ?_)
   | (with_reducible refine LeO.bind ?_ (fun _ => ?_))
   | exact ih0 _ _ _ _ _ _ _ _ _
   | exact ih1 _ _ _ _
   | exact ih2 _ _ _ _ _
   | exact ih3 _ _ _ _ _
   | exact ih4 _ _ _ _ _
   | exact ih5 _ _ _ _ _
   | exact ih6 _ _ _ _ _
   | exact ih7 _ _ _ _ _ _ _ _ _ _
   | exact ih8 _ _ _ _ _ _ _ _ _
   | exact ih9 _ _ _ _ _ _ _ _ _
   | exact impl_TanksOk.mono _ _
   | exact impl_leanOf.mono _ _
   | exact LeO.none _
   | refine LeO.ite ?_ ?_
   | refine LeO.bind ?_ (fun _ => ?_)
def impl_CargoStep.T18 : Bool × List (List Nat × List Nat) := (true, [([], []), ([0], [0]), ([1], [1]), ([2], [2]), ([3, 2], [2, 3]), ([4, 2], [2, 4]), ([5, 2], [2, 5]), ([2], [2]), ([7, 2], [2, 7]), ([6, 8, 2], [2, 6, 8]), ([2, 9], [2, 9]), ([10, 2], [10])])
def impl_CargoStep.B18 : List Nat := [0, 1, 3, 7, 15, 31, 63, 7, 135, 511, 1023, 2047]
theorem impl_CargoStep.tab18 : rtab .any (opsOf Try.f26 18) = impl_CargoStep.T18 := by kernel_rfl
theorem impl_CargoStep.bits18 : waitsOk impl_CargoStep.T18.2 impl_CargoStep.B18 = true := by kernel_rfl
def impl_CargoStep.T20 : Bool × List (List Nat × List Nat) := (true, [([], []), ([0], [0]), ([1], [1]), ([2], [2]), ([3, 2], [2, 3]), ([4, 2], [2, 4]), ([5, 2], [2, 5]), ([2], [2]), ([7, 2], [2, 7]), ([6, 8, 2], [2, 6, 8]), ([2], [2]), ([10, 2], [2, 10]), ([11, 2], [2, 11]), ([12, 2], [2, 12]), ([9, 13, 2], [2, 9, 13]), ([2, 14], [2, 14]), ([15, 2], [15])])
def impl_CargoStep.B20 : List Nat := [0, 1, 3, 7, 15, 31, 63, 7, 135, 511, 7, 1031, 3079, 7175, 16383, 32767, 65535]
theorem impl_CargoStep.tab20 : rtab .any (opsOf Try.f26 20) = impl_CargoStep.T20 := by kernel_rfl
theorem impl_CargoStep.bits20 : waitsOk impl_CargoStep.T20.2 impl_CargoStep.B20 = true := by kernel_rfl
def impl_CargoStep.T25 : Bool × List (List Nat × List Nat) := (true, [([], []), ([0], [0]), ([1], [1]), ([2], [2]), ([], []), ([4], [4]), ([3, 5], [3, 5]), ([0, 0, 1, 2, 3, 4, 5, 6], [0]), ([7, 0, 1, 2, 3, 4, 5, 6], [7]), ([8, 6, 0, 1, 2, 3, 4, 5, 6], [6, 8])])
def impl_CargoStep.B25 : List Nat := [0, 1, 3, 7, 0, 16, 63, 127, 255, 511]
theorem impl_CargoStep.tab25 : rtab .any (opsOf Try.f26 25) = impl_CargoStep.T25 := by kernel_rfl
theorem impl_CargoStep.bits25 : waitsOk impl_CargoStep.T25.2 impl_CargoStep.B25 = true := by kernel_rfl
def impl_CargoStep.T27 : Bool × List (List Nat × List Nat) := (true, [([], []), ([], []), ([1], [1]), ([2], [2]), ([3], [3]), ([], []), ([5], [5]), ([6], [6]), ([4, 7], [4, 7]), ([8], [8]), ([0, 0, 1, 2, 3, 4, 5, 6, 7, 8, 9], [0]), ([10, 0, 1, 2, 3, 4, 5, 6, 7, 8, 9], [10]), ([11, 9, 0, 1, 2, 3, 4, 5, 6, 7, 8, 9], [9, 11])])
def impl_CargoStep.B27 : List Nat := [0, 0, 2, 6, 14, 0, 32, 96, 254, 510, 1023, 2047, 4095]
theorem impl_CargoStep.tab27 : rtab .any (opsOf Try.f26 27) = impl_CargoStep.T27 := by kernel_rfl
theorem impl_CargoStep.bits27 : waitsOk impl_CargoStep.T27.2 impl_CargoStep.B27 = true := by kernel_rfl
def impl_CargoStep.T28 : Bool × List (List Nat × List Nat) := (true, [([], []), ([], []), ([1], [1]), ([2], [2]), ([3], [3]), ([], []), ([5], [5]), ([6], [6]), ([4, 7], [4, 7]), ([8], [8]), ([0, 0, 1, 2, 3, 4, 5, 6, 7, 8, 9], [0]), ([10, 0, 1, 2, 3, 4, 5, 6, 7, 8, 9], [10]), ([11, 9, 0, 1, 2, 3, 4, 5, 6, 7, 8, 9], [9, 11])])
def impl_CargoStep.B28 : List Nat := [0, 0, 2, 6, 14, 0, 32, 96, 254, 510, 1023, 2047, 4095]
theorem impl_CargoStep.tab28 : rtab .any (opsOf Try.f26 28) = impl_CargoStep.T28 := by kernel_rfl
theorem impl_CargoStep.bits28 : waitsOk impl_CargoStep.T28.2 impl_CargoStep.B28 = true := by kernel_rfl
def impl_CargoStep.T30 : Bool × List (List Nat × List Nat) := (true, [([], []), ([0], [0]), ([1], [1]), ([2], [2]), ([], []), ([4], [4]), ([5], [5]), ([3, 6], [3, 6]), ([0, 0, 1, 2, 3, 4, 5, 6, 7], [0]), ([8, 0, 1, 2, 3, 4, 5, 6, 7], [8]), ([9, 7, 0, 1, 2, 3, 4, 5, 6, 7], [7, 9])])
def impl_CargoStep.B30 : List Nat := [0, 1, 3, 7, 0, 16, 48, 127, 255, 511, 1023]
theorem impl_CargoStep.tab30 : rtab .any (opsOf Try.f26 30) = impl_CargoStep.T30 := by kernel_rfl
theorem impl_CargoStep.bits30 : waitsOk impl_CargoStep.T30.2 impl_CargoStep.B30 = true := by kernel_rfl
set_option maxHeartbeats 8000000 in
set_option maxRecDepth 100000 in
theorem impl_CargoStep.calls (k : Nat) (A0 : Option Addr) (c0 : Nat) (l0 : List (S63)) (a1_0 : Int) (a1_1 : Int) (a1_2 : Int) (a1_3 : Int) (a2 : Int) (r1 : List (S63)) (r2 : Int) (w : World) (hr0 : Kd.C k63 w A0 l0.length l0) (hc0 : l0.length ≤ c0) (h : impl_CargoStep.f k l0 a1_0 a1_1 a1_2 a1_3 a2 = some (r1, r2)) :
  Calls Try.prog 26 #[.slice A0 l0.length c0, .agg #[.int .i64 a1_0, .int .i64 a1_1, .int .i64 a1_2, .int .i64 a1_3], .int .i64 a2] w fun e w' => ∃ v0_ : Value, e = .returned (.tuple #[v0_, .int .i64 r2]) ∧ Kd.R k63 63 w' w.heap.size (fun _ => True) v0_ r1 ∧ Below w.heap.size w w' := by
 have hu61 := Try.underlying61
 have hu63 := Try.underlying63
 have HR0 := Aside0.mk hr0
 have HC0 := Aside0.mk hc0
 clear hr0 hc0
 have HB := Aside0.mk (Below.refl w.heap.size w)
 have H : ((impl_CargoTank_61.f l0).bind fun t284 => (if a1_0 = 4 then (impl_CargoStep.j0 k l0 a2 t284 (wrap64 ((l0.length : Int) - 1)) 100000 true a1_0 a1_1 a1_2 a1_3) else (impl_CargoStep.j0 k l0 a2 t284 (wrap64 ((l0.length : Int) - 1)) 100000 (a1_0 == 5) a1_0 a1_1 a1_2 a1_3))) = some (r1, r2) := h
 clear h
 have HC4 := Aside0.mk H
 clear H
 go_enter Try.func26, Try.ntmps26
 refine wp_seq_k ?_
 intro K_ hK_
 have hK0_ := Aside0.mk hK_
 clear hK_
 go_wp2_with (first | ((with_reducible refine gate_dst (N := 4) rfl ?_); refine box_event ?hg (N := 4) ?hd (cs := #[.int .i64 a1_0, .int .i64 a1_1, .int .i64 a1_2, .int .i64 a1_3]) (t := 61) ?hr ?_; (case hd => rfl); (case hg => rfl); (case hr => first | (go_simp; done) | (go_simp; rfl)); intro gb283 hg w5 hbox hb; have BK283 := Aside0.mk (hbox); have GW283 := Aside0.mk ((by rw [hg]; exact (below_size (bel_ HB.out)) : w.heap.size ≤ gb283)); have GE283 := Aside0.mk ((by rw [hg]; exact (below_size (bel_ HB.out)) : w.heap.size ≤ gb283)); replace HB := Aside0.mk (below_step (bel_ HB.out) hb); clear hb hbox hg))
 refine hK0_.out _ _ ?_
 clear hK0_
 (try simp only [Act.put, sA_, sZ_, sS_])
 refine wp_chap6 (fun a_ w_ => ∃ ub : Nat → Value, (fun v8 v10 v11 wc => ∃ (kq : Nat) (x8_3 : List (S63)) (x10_3 : Int) (x11_3 : List (S63)), v10 = .int .i64 x10_3 ∧ Aside0 (impl_CargoStep.j3 kq l0 a2 x8_3 x10_3 x11_3 a1_0 a1_1 a1_2 a1_3 = some (r1, r2)) ∧ Aside0 (kq ≤ k) ∧ Aside0 (Kd.R k63 63 wc w.heap.size (fun k_ => nB_ (v11) k_) v8 x8_3) ∧ Aside0 (Kd.R k63 63 wc w.heap.size (fun k_ => nB_ (v8) k_) v11 x11_3) ∧ Aside0 (wc.heap[gb283]? = some (.cells #[.int .i64 a1_0, .int .i64 a1_1, .int .i64 a1_2, .int .i64 a1_3] 61 (0, 0))) ∧ Aside0 (Below w.heap.size w wc)) (ub 8) (ub 10) (ub 11) w_ ∧ a_ = ⟨#[.slice A0 l0.length c0, .agg #[.int .i64 a1_0, .int .i64 a1_1, .int .i64 a1_2, .int .i64 a1_3], .int .i64 a2, ub 3, .pointer (some ⟨gb283, 0, none⟩), ub 5, ub 6, ub 7, ub 8, ub 9, ub 10, ub 11, ub 12, ub 13, ub 14, ub 15, ub 16, ub 17, ub 18, ub 19, ub 20, ub 21, ub 22, ub 23, ub 24, ub 25, ub 26, ub 27, ub 28, ub 29, ub 30, ub 31, ub 32, ub 33, ub 34, ub 35, ub 36, ub 37, ub 38, ub 39, ub 40, ub 41, ub 42, ub 43, ub 44, ub 45, ub 46, ub 47, ub 48, ub 49, ub 50, ub 51, ub 52, ub 53, ub 54, ub 55, ub 56, ub 57, ub 58, ub 59, ub 60, ub 61, ub 62, ub 63, ub 64, ub 65, ub 66, ub 67, ub 68, ub 69, ub 70, ub 71, ub 72, ub 73, ub 74, ub 75, ub 76, ub 77, ub 78, ub 79, ub 80, ub 81, ub 82, ub 83, ub 84, ub 85, ub 86, ub 87, ub 88, ub 89, ub 90, ub 91, ub 92, ub 93, ub 94, ub 95, ub 96, ub 97, ub 98, ub 99, ub 100, ub 101, ub 102, ub 103, ub 104, ub 105, ub 106, ub 107, ub 108, ub 109, ub 110, ub 111, ub 112, ub 113, ub 114, ub 115, ub 116, ub 117, ub 118, ub 119, ub 120, ub 121, ub 122, ub 123, ub 124, ub 125, ub 126, ub 127, ub 128, ub 129, ub 130, ub 131, ub 132, ub 133, ub 134, ub 135, ub 136, ub 137, ub 138, ub 139, ub 140, ub 141, ub 142, ub 143, ub 144, ub 145, ub 146, ub 147, ub 148, ub 149, ub 150, ub 151, ub 152, ub 153, ub 154, ub 155, ub 156, ub 157, ub 158, ub 159, ub 160, ub 161, ub 162, ub 163, ub 164, ub 165, ub 166, ub 167, ub 168, ub 169, ub 170, ub 171, ub 172, ub 173, ub 174, ub 175, ub 176, ub 177, ub 178, ub 179, ub 180, ub 181, ub 182, ub 183, ub 184, ub 185, ub 186, ub 187, ub 188, ub 189, ub 190, ub 191, ub 192, ub 193, ub 194, ub 195, ub 196, ub 197, ub 198, ub 199, ub 200, ub 201, ub 202, ub 203, ub 204, ub 205, ub 206, ub 207, ub 208, ub 209, ub 210, ub 211, ub 212, ub 213, ub 214, ub 215], []⟩) ?rest ?first
 case first =>
  as_aux_lemma =>
  intro D_ J_ hJ_ hD_
  have H := HC4.out
  clear HC4; replace H := Option.bind_eq_some_iff.mp H
  obtain ⟨t284, A60, H⟩ := H
  replace H : (if a1_0 = 4 then (impl_CargoStep.j0 k l0 a2 t284 (wrap64 ((l0.length : Int) - 1)) 100000 true a1_0 a1_1 a1_2 a1_3) else (impl_CargoStep.j0 k l0 a2 t284 (wrap64 ((l0.length : Int) - 1)) 100000 (a1_0 == 5) a1_0 a1_1 a1_2 a1_3)) = some (r1, r2) := H
  have A6 := Aside0.mk A60
  clear A60
  have HC7 := Aside0.mk H
  clear H
  go_upto_region 4 with (first | ((with_reducible refine gate_callee (f := 61) rfl ?_); refine goesL_ (some 17) rfl rfl Try.func61 (by kernel_rfl) rfl #[.slice A0 l0.length c0] rfl ml_ ?_; (with_reducible refine (impl_CargoTank_61.calls _ _ l0 t284 _ ?side1 ?side2 A6.out).mono ?_); (case side1 => exact rc_ (Kd.C_below HR0.out HB.out)); (case side2 => exact HC0.out); rintro e w8 ⟨v285, rfl, ho0, hb⟩; refine ⟨_, rfl, ?_⟩; have HO286 := Aside0.mk (Kd.R_lower ho0 (below_size (bel_ HB.out))); replace BK283 := Aside0.mk (bb_ BK283.out hb); replace HB := Aside0.mk (below_step (bel_ HB.out) hb); (try clear hb); (try clear hb2); (try clear hk); (try clear hi); (try clear ho0)))
  (try simp only [Act.put, sA_, sZ_, sS_])
  go_cut [28] (fun v28 wc => ∃ (kq : Nat) (x28_6 : Bool), v28 = .bool x28_6 ∧ Aside0 (impl_CargoStep.j0 kq l0 a2 t284 (wrap64 ((l0.length : Int) - 1)) 100000 x28_6 a1_0 a1_1 a1_2 a1_3 = some (r1, r2)) ∧ Aside0 (kq ≤ k) ∧ Aside0 (Kd.R k63 63 wc w.heap.size (fun _ => True) v285 t284) ∧ Aside0 (wc.heap[gb283]? = some (.cells #[.int .i64 a1_0, .int .i64 a1_1, .int .i64 a1_2, .int .i64 a1_3] 61 (0, 0))) ∧ Aside0 (Below w.heap.size w wc))
  case first =>
   have H := HC7.out
   clear HC7
   by_cases c9 : a1_0 = 4
   ·rw [if_pos c9] at H
    have c9b0 : (a1_0 == 4) = true := beq_iff_eq.mpr c9
    have c9b1 : (a1_0 != 4) = false := bne_eq_false_iff_eq.mpr c9
    clear c9
    (first | rw [c9b0] | (simp only [i64_w, i32_w]; rw [c9b0]) | skip)
    have H' := Aside0.mk H
    clear H; have hcz10_0 : w8.cell? ⟨gb283, 0, none⟩ = some (.int .i64 a1_0) := bc_ BK283.out 0; have hcz10_1 : w8.cell? ⟨gb283, 1, none⟩ = some (.int .i64 a1_1) := bc_ BK283.out 1; have hcz10_2 : w8.cell? ⟨gb283, 2, none⟩ = some (.int .i64 a1_2) := bc_ BK283.out 2; have hcz10_3 : w8.cell? ⟨gb283, 3, none⟩ = some (.int .i64 a1_3) := bc_ BK283.out 3; have hfz10_0 := blk_frozen BK283.out 0; have hfz10_1 := blk_frozen BK283.out 1; have hfz10_2 := blk_frozen BK283.out 2; have hfz10_3 := blk_frozen BK283.out 3
    go_wp2
    go_meet
    case rel => exact ⟨_, (true), rl_, H', ⟨by first | omega | exact Nat.le_refl _⟩, ⟨fr_ HO286.out⟩, ⟨fb_ BK283.out⟩, ⟨bel_ HB.out⟩⟩
   case neg =>
   rw [if_neg c9] at H
   have c9b0 : (a1_0 == 4) = false := beq_eq_false_iff_ne.mpr c9
   have c9b1 : (a1_0 != 4) = true := bne_iff_ne.mpr c9
   (first | rw [c9b0] | (simp only [i64_w, i32_w]; rw [c9b0]) | skip)
   have H' := Aside0.mk H
   clear H; have hcz11_0 : w8.cell? ⟨gb283, 0, none⟩ = some (.int .i64 a1_0) := bc_ BK283.out 0; have hcz11_1 : w8.cell? ⟨gb283, 1, none⟩ = some (.int .i64 a1_1) := bc_ BK283.out 1; have hcz11_2 : w8.cell? ⟨gb283, 2, none⟩ = some (.int .i64 a1_2) := bc_ BK283.out 2; have hcz11_3 : w8.cell? ⟨gb283, 3, none⟩ = some (.int .i64 a1_3) := bc_ BK283.out 3; have hfz11_0 := blk_frozen BK283.out 0; have hfz11_1 := blk_frozen BK283.out 1; have hfz11_2 := blk_frozen BK283.out 2; have hfz11_3 := blk_frozen BK283.out 3
   go_wp2
   go_meet
   case rel => exact ⟨_, ((a1_0 == 5)), rl_, H', ⟨by first | omega | exact Nat.le_refl _⟩, ⟨fr_ HO286.out⟩, ⟨fb_ BK283.out⟩, ⟨bel_ HB.out⟩⟩
  case rest =>
  clear HC7
  obtain ⟨kq, x28_6, rfl, HA, HJ6, HO_8, BK283, HB⟩ := hcut
  cases kq with
  | zero => exact absurd HA.out (by simp [impl_CargoStep.j0])
  | succ kj6 =>
   have H := HA.out
   clear HA
   simp only [impl_CargoStep.j0] at H
   have HC12 := Aside0.mk H
   clear H
   go_upto_if 28 with (fail)
   go_cut [10] (fun v10 wc => ∃ (kq : Nat) (x10_11 : Int), v10 = .int .i64 x10_11 ∧ Aside0 (impl_CargoStep.j1 kq l0 a2 t284 (wrap64 ((l0.length : Int) - 1)) x10_11 a1_0 a1_1 a1_2 a1_3 = some (r1, r2)) ∧ Aside0 (kq ≤ kj6) ∧ Aside0 (Kd.R k63 63 wc w.heap.size (fun _ => True) v285 t284) ∧ Aside0 (wc.heap[gb283]? = some (.cells #[.int .i64 a1_0, .int .i64 a1_1, .int .i64 a1_2, .int .i64 a1_3] 61 (0, 0))) ∧ Aside0 (Below w.heap.size w wc))
   case first =>
    have H := HC12.out
    clear HC12
    by_cases c13 : x28_6 = true
    ·subst c13
     have H1 : (impl_CargoStep.j1 kj6 l0 a2 t284 (wrap64 ((l0.length : Int) - 1)) 100 a1_0 a1_1 a1_2 a1_3) = some (r1, r2) := by rw [if_pos rfl] at H; exact H
     clear H
     have H := H1
     clear H1
     have H' := Aside0.mk H
     clear H
     go_wp2
     go_meet
     case rel => exact ⟨_, (100), rl_, H', ⟨by have := HJ6.out; first | omega | exact Nat.le_refl _⟩, ⟨fr_ HO_8.out⟩, ⟨fb_ BK283.out⟩, ⟨bel_ HB.out⟩⟩
    ·replace c13 := Bool.eq_false_iff.mpr c13
     subst c13
     have H1 : (impl_CargoStep.j1 kj6 l0 a2 t284 (wrap64 ((l0.length : Int) - 1)) 100000 a1_0 a1_1 a1_2 a1_3) = some (r1, r2) := by rw [if_neg (show ¬ (false = true) by decide)] at H; exact H
     clear H
     have H := H1
     clear H1
     have H' := Aside0.mk H
     clear H
     go_wp2
     go_meet
     case rel => exact ⟨_, (100000), rl_, H', ⟨by have := HJ6.out; first | omega | exact Nat.le_refl _⟩, ⟨fr_ HO_8.out⟩, ⟨fb_ BK283.out⟩, ⟨bel_ HB.out⟩⟩
   case rest =>
   clear HC12
   obtain ⟨kq, x10_11, rfl, HA, HJ11, HO_8, BK283, HB⟩ := hcut
   cases kq with
   | zero => exact absurd HA.out (by simp [impl_CargoStep.j1])
   | succ kj11 =>
    have H := HA.out
    clear HA
    simp only [impl_CargoStep.j1] at H
    have HC14 := Aside0.mk H
    clear H
    go_upto_region 6 with (fail)
    go_cut [75] (fun v75 wc => ∃ (kq : Nat) (x75_13 : Bool), v75 = .bool x75_13 ∧ Aside0 (impl_CargoStep.j2 kq l0 a2 t284 x10_11 x75_13 a1_0 a1_1 a1_2 a1_3 = some (r1, r2)) ∧ Aside0 (kq ≤ kj11) ∧ Aside0 (Kd.R k63 63 wc w.heap.size (fun _ => True) v285 t284) ∧ Aside0 (wc.heap[gb283]? = some (.cells #[.int .i64 a1_0, .int .i64 a1_1, .int .i64 a1_2, .int .i64 a1_3] 61 (0, 0))) ∧ Aside0 (Below w.heap.size w wc))
    case first =>
     have H := HC14.out
     clear HC14; replace H := Option.bind_eq_some_iff.mp H
     obtain ⟨t287, A150, H⟩ := H
     replace H : (if t287 = true then ((impl_in.f a1_0 1 5).bind fun t288 => (if t288 = true then ((impl_in.f a1_1 0 (wrap64 ((l0.length : Int) - 1))).bind fun t289 => (if t289 = true then ((impl_in.f a1_3 1 x10_11).bind fun t290 => (if t290 = true then (if a1_0 = 3 then ((impl_in.f a1_2 0 (wrap64 ((l0.length : Int) - 1))).bind fun t291 => (if t291 = true then (if a1_2 = a1_1 then (impl_CargoStep.j2 kj11 l0 a2 t284 x10_11 true a1_0 a1_1 a1_2 a1_3) else ((impl_in.f a2 0 100000000).bind fun t292 => (impl_CargoStep.j2 kj11 l0 a2 t284 x10_11 (!t292) a1_0 a1_1 a1_2 a1_3))) else (impl_CargoStep.j2 kj11 l0 a2 t284 x10_11 true a1_0 a1_1 a1_2 a1_3))) else ((impl_in.f a2 0 100000000).bind fun t293 => (impl_CargoStep.j2 kj11 l0 a2 t284 x10_11 (!t293) a1_0 a1_1 a1_2 a1_3))) else (impl_CargoStep.j2 kj11 l0 a2 t284 x10_11 true a1_0 a1_1 a1_2 a1_3))) else (impl_CargoStep.j2 kj11 l0 a2 t284 x10_11 true a1_0 a1_1 a1_2 a1_3))) else (impl_CargoStep.j2 kj11 l0 a2 t284 x10_11 true a1_0 a1_1 a1_2 a1_3))) else (impl_CargoStep.j2 kj11 l0 a2 t284 x10_11 true a1_0 a1_1 a1_2 a1_3)) = some (r1, r2) := H
     have A15 := Aside0.mk A150
     clear A150
     by_cases c16 : t287 = true
     ·as_aux_lemma =>
      subst c16
      have H1 : ((impl_in.f a1_0 1 5).bind fun t288 => (if t288 = true then ((impl_in.f a1_1 0 (wrap64 ((l0.length : Int) - 1))).bind fun t289 => (if t289 = true then ((impl_in.f a1_3 1 x10_11).bind fun t290 => (if t290 = true then (if a1_0 = 3 then ((impl_in.f a1_2 0 (wrap64 ((l0.length : Int) - 1))).bind fun t291 => (if t291 = true then (if a1_2 = a1_1 then (impl_CargoStep.j2 kj11 l0 a2 t284 x10_11 true a1_0 a1_1 a1_2 a1_3) else ((impl_in.f a2 0 100000000).bind fun t292 => (impl_CargoStep.j2 kj11 l0 a2 t284 x10_11 (!t292) a1_0 a1_1 a1_2 a1_3))) else (impl_CargoStep.j2 kj11 l0 a2 t284 x10_11 true a1_0 a1_1 a1_2 a1_3))) else ((impl_in.f a2 0 100000000).bind fun t293 => (impl_CargoStep.j2 kj11 l0 a2 t284 x10_11 (!t293) a1_0 a1_1 a1_2 a1_3))) else (impl_CargoStep.j2 kj11 l0 a2 t284 x10_11 true a1_0 a1_1 a1_2 a1_3))) else (impl_CargoStep.j2 kj11 l0 a2 t284 x10_11 true a1_0 a1_1 a1_2 a1_3))) else (impl_CargoStep.j2 kj11 l0 a2 t284 x10_11 true a1_0 a1_1 a1_2 a1_3))) = some (r1, r2) := by rw [if_pos rfl] at H; exact H
      clear H
      have H := H1
      clear H1; replace H := Option.bind_eq_some_iff.mp H
      obtain ⟨t288, A170, H⟩ := H
      replace H : (if t288 = true then ((impl_in.f a1_1 0 (wrap64 ((l0.length : Int) - 1))).bind fun t289 => (if t289 = true then ((impl_in.f a1_3 1 x10_11).bind fun t290 => (if t290 = true then (if a1_0 = 3 then ((impl_in.f a1_2 0 (wrap64 ((l0.length : Int) - 1))).bind fun t291 => (if t291 = true then (if a1_2 = a1_1 then (impl_CargoStep.j2 kj11 l0 a2 t284 x10_11 true a1_0 a1_1 a1_2 a1_3) else ((impl_in.f a2 0 100000000).bind fun t292 => (impl_CargoStep.j2 kj11 l0 a2 t284 x10_11 (!t292) a1_0 a1_1 a1_2 a1_3))) else (impl_CargoStep.j2 kj11 l0 a2 t284 x10_11 true a1_0 a1_1 a1_2 a1_3))) else ((impl_in.f a2 0 100000000).bind fun t293 => (impl_CargoStep.j2 kj11 l0 a2 t284 x10_11 (!t293) a1_0 a1_1 a1_2 a1_3))) else (impl_CargoStep.j2 kj11 l0 a2 t284 x10_11 true a1_0 a1_1 a1_2 a1_3))) else (impl_CargoStep.j2 kj11 l0 a2 t284 x10_11 true a1_0 a1_1 a1_2 a1_3))) else (impl_CargoStep.j2 kj11 l0 a2 t284 x10_11 true a1_0 a1_1 a1_2 a1_3)) = some (r1, r2) := H
      have A17 := Aside0.mk A170
      clear A170
      by_cases c18 : t288 = true
      ·subst c18
       have H1 : ((impl_in.f a1_1 0 (wrap64 ((l0.length : Int) - 1))).bind fun t289 => (if t289 = true then ((impl_in.f a1_3 1 x10_11).bind fun t290 => (if t290 = true then (if a1_0 = 3 then ((impl_in.f a1_2 0 (wrap64 ((l0.length : Int) - 1))).bind fun t291 => (if t291 = true then (if a1_2 = a1_1 then (impl_CargoStep.j2 kj11 l0 a2 t284 x10_11 true a1_0 a1_1 a1_2 a1_3) else ((impl_in.f a2 0 100000000).bind fun t292 => (impl_CargoStep.j2 kj11 l0 a2 t284 x10_11 (!t292) a1_0 a1_1 a1_2 a1_3))) else (impl_CargoStep.j2 kj11 l0 a2 t284 x10_11 true a1_0 a1_1 a1_2 a1_3))) else ((impl_in.f a2 0 100000000).bind fun t293 => (impl_CargoStep.j2 kj11 l0 a2 t284 x10_11 (!t293) a1_0 a1_1 a1_2 a1_3))) else (impl_CargoStep.j2 kj11 l0 a2 t284 x10_11 true a1_0 a1_1 a1_2 a1_3))) else (impl_CargoStep.j2 kj11 l0 a2 t284 x10_11 true a1_0 a1_1 a1_2 a1_3))) = some (r1, r2) := by rw [if_pos rfl] at H; exact H
       clear H
       have H := H1
       clear H1; replace H := Option.bind_eq_some_iff.mp H
       obtain ⟨t289, A190, H⟩ := H
       replace H : (if t289 = true then ((impl_in.f a1_3 1 x10_11).bind fun t290 => (if t290 = true then (if a1_0 = 3 then ((impl_in.f a1_2 0 (wrap64 ((l0.length : Int) - 1))).bind fun t291 => (if t291 = true then (if a1_2 = a1_1 then (impl_CargoStep.j2 kj11 l0 a2 t284 x10_11 true a1_0 a1_1 a1_2 a1_3) else ((impl_in.f a2 0 100000000).bind fun t292 => (impl_CargoStep.j2 kj11 l0 a2 t284 x10_11 (!t292) a1_0 a1_1 a1_2 a1_3))) else (impl_CargoStep.j2 kj11 l0 a2 t284 x10_11 true a1_0 a1_1 a1_2 a1_3))) else ((impl_in.f a2 0 100000000).bind fun t293 => (impl_CargoStep.j2 kj11 l0 a2 t284 x10_11 (!t293) a1_0 a1_1 a1_2 a1_3))) else (impl_CargoStep.j2 kj11 l0 a2 t284 x10_11 true a1_0 a1_1 a1_2 a1_3))) else (impl_CargoStep.j2 kj11 l0 a2 t284 x10_11 true a1_0 a1_1 a1_2 a1_3)) = some (r1, r2) := H
       have A19 := Aside0.mk A190
       clear A190
       by_cases c20 : t289 = true
       ·subst c20
        have H1 : ((impl_in.f a1_3 1 x10_11).bind fun t290 => (if t290 = true then (if a1_0 = 3 then ((impl_in.f a1_2 0 (wrap64 ((l0.length : Int) - 1))).bind fun t291 => (if t291 = true then (if a1_2 = a1_1 then (impl_CargoStep.j2 kj11 l0 a2 t284 x10_11 true a1_0 a1_1 a1_2 a1_3) else ((impl_in.f a2 0 100000000).bind fun t292 => (impl_CargoStep.j2 kj11 l0 a2 t284 x10_11 (!t292) a1_0 a1_1 a1_2 a1_3))) else (impl_CargoStep.j2 kj11 l0 a2 t284 x10_11 true a1_0 a1_1 a1_2 a1_3))) else ((impl_in.f a2 0 100000000).bind fun t293 => (impl_CargoStep.j2 kj11 l0 a2 t284 x10_11 (!t293) a1_0 a1_1 a1_2 a1_3))) else (impl_CargoStep.j2 kj11 l0 a2 t284 x10_11 true a1_0 a1_1 a1_2 a1_3))) = some (r1, r2) := by rw [if_pos rfl] at H; exact H
        clear H
        have H := H1
        clear H1; replace H := Option.bind_eq_some_iff.mp H
        obtain ⟨t290, A210, H⟩ := H
        replace H : (if t290 = true then (if a1_0 = 3 then ((impl_in.f a1_2 0 (wrap64 ((l0.length : Int) - 1))).bind fun t291 => (if t291 = true then (if a1_2 = a1_1 then (impl_CargoStep.j2 kj11 l0 a2 t284 x10_11 true a1_0 a1_1 a1_2 a1_3) else ((impl_in.f a2 0 100000000).bind fun t292 => (impl_CargoStep.j2 kj11 l0 a2 t284 x10_11 (!t292) a1_0 a1_1 a1_2 a1_3))) else (impl_CargoStep.j2 kj11 l0 a2 t284 x10_11 true a1_0 a1_1 a1_2 a1_3))) else ((impl_in.f a2 0 100000000).bind fun t293 => (impl_CargoStep.j2 kj11 l0 a2 t284 x10_11 (!t293) a1_0 a1_1 a1_2 a1_3))) else (impl_CargoStep.j2 kj11 l0 a2 t284 x10_11 true a1_0 a1_1 a1_2 a1_3)) = some (r1, r2) := H
        have A21 := Aside0.mk A210
        clear A210
        by_cases c22 : t290 = true
        ·subst c22
         have H1 : (if a1_0 = 3 then ((impl_in.f a1_2 0 (wrap64 ((l0.length : Int) - 1))).bind fun t291 => (if t291 = true then (if a1_2 = a1_1 then (impl_CargoStep.j2 kj11 l0 a2 t284 x10_11 true a1_0 a1_1 a1_2 a1_3) else ((impl_in.f a2 0 100000000).bind fun t292 => (impl_CargoStep.j2 kj11 l0 a2 t284 x10_11 (!t292) a1_0 a1_1 a1_2 a1_3))) else (impl_CargoStep.j2 kj11 l0 a2 t284 x10_11 true a1_0 a1_1 a1_2 a1_3))) else ((impl_in.f a2 0 100000000).bind fun t293 => (impl_CargoStep.j2 kj11 l0 a2 t284 x10_11 (!t293) a1_0 a1_1 a1_2 a1_3))) = some (r1, r2) := by rw [if_pos rfl] at H; exact H
         clear H
         have H := H1
         clear H1
         by_cases c23 : a1_0 = 3
         ·rw [if_pos c23] at H
          have c23b0 : (a1_0 == 3) = true := beq_iff_eq.mpr c23
          have c23b1 : (a1_0 != 3) = false := bne_eq_false_iff_eq.mpr c23
          clear c23
          (first | rw [c23b0] | (simp only [i64_w, i32_w]; rw [c23b0]) | skip)
          replace H := Option.bind_eq_some_iff.mp H
          obtain ⟨t291, A240, H⟩ := H
          replace H : (if t291 = true then (if a1_2 = a1_1 then (impl_CargoStep.j2 kj11 l0 a2 t284 x10_11 true a1_0 a1_1 a1_2 a1_3) else ((impl_in.f a2 0 100000000).bind fun t292 => (impl_CargoStep.j2 kj11 l0 a2 t284 x10_11 (!t292) a1_0 a1_1 a1_2 a1_3))) else (impl_CargoStep.j2 kj11 l0 a2 t284 x10_11 true a1_0 a1_1 a1_2 a1_3)) = some (r1, r2) := H
          have A24 := Aside0.mk A240
          clear A240
          by_cases c25 : t291 = true
          ·subst c25
           have H1 : (if a1_2 = a1_1 then (impl_CargoStep.j2 kj11 l0 a2 t284 x10_11 true a1_0 a1_1 a1_2 a1_3) else ((impl_in.f a2 0 100000000).bind fun t292 => (impl_CargoStep.j2 kj11 l0 a2 t284 x10_11 (!t292) a1_0 a1_1 a1_2 a1_3))) = some (r1, r2) := by rw [if_pos rfl] at H; exact H
           clear H
           have H := H1
           clear H1
           by_cases c26 : a1_2 = a1_1
           ·rw [if_pos c26] at H
            have c26b0 : (a1_2 == a1_1) = true := beq_iff_eq.mpr c26
            have c26b1 : (a1_2 != a1_1) = false := bne_eq_false_iff_eq.mpr c26
            clear c26
            have H' := Aside0.mk H
            clear H
            go_wp2_with (first | ((with_reducible refine gate_callee (f := 27) rfl ?_); refine goesL_ (some 30) rfl rfl Try.func27 (by kernel_rfl) rfl #[.slice A0 l0.length c0] rfl ml_ ?_; (with_reducible refine (impl_TanksOk.calls kj11 _ _ l0 true _ ?side1 ?side2 A15.out).mono ?_); (case side1 => exact rc_ (Kd.C_below HR0.out HB.out)); (case side2 => exact HC0.out); rintro e w27 ⟨rfl, hb⟩; refine ⟨_, rfl, ?_⟩; replace HO_8 := Aside0.mk (Kd.R_below (fr_ HO_8.out) hb); replace BK283 := Aside0.mk (bb_ BK283.out hb); replace HB := Aside0.mk (below_step (bel_ HB.out) hb); (try clear hb); (try clear hb2); (try clear hk); (try clear hi); have hcz28_0 : w27.cell? ⟨gb283, 0, none⟩ = some (.int .i64 a1_0) := bc_ BK283.out 0; have hcz28_1 : w27.cell? ⟨gb283, 1, none⟩ = some (.int .i64 a1_1) := bc_ BK283.out 1; have hcz28_2 : w27.cell? ⟨gb283, 2, none⟩ = some (.int .i64 a1_2) := bc_ BK283.out 2; have hcz28_3 : w27.cell? ⟨gb283, 3, none⟩ = some (.int .i64 a1_3) := bc_ BK283.out 3; have hfz28_0 := blk_frozen BK283.out 0; have hfz28_1 := blk_frozen BK283.out 1; have hfz28_2 := blk_frozen BK283.out 2; have hfz28_3 := blk_frozen BK283.out 3) | (go_at_call 48; (with_reducible refine (impl_in.calls a1_0 1 5 true _ A17.out).mono ?_); rintro e w' ⟨rfl, ⟨nd, rfl⟩⟩) | (go_at_call 48; (with_reducible refine (impl_in.calls a1_1 0 (wrap64 ((l0.length : Int) - 1)) true _ A19.out).mono ?_); rintro e w' ⟨rfl, ⟨nd, rfl⟩⟩) | (go_at_call 48; (with_reducible refine (impl_in.calls a1_3 1 x10_11 true _ A21.out).mono ?_); rintro e w' ⟨rfl, ⟨nd, rfl⟩⟩) | (go_at_call 48; (with_reducible refine (impl_in.calls a1_2 0 (wrap64 ((l0.length : Int) - 1)) true _ A24.out).mono ?_); rintro e w' ⟨rfl, ⟨nd, rfl⟩⟩))
            go_meet
            case rel => exact ⟨_, (true), rl_, H', ⟨by have := HJ6.out; have := HJ11.out; first | omega | exact Nat.le_refl _⟩, ⟨fr_ HO_8.out⟩, ⟨fb_ BK283.out⟩, ⟨bel_ HB.out⟩⟩
           case neg =>
           rw [if_neg c26] at H
           have c26b0 : (a1_2 == a1_1) = false := beq_eq_false_iff_ne.mpr c26
           have c26b1 : (a1_2 != a1_1) = true := bne_iff_ne.mpr c26
           replace H := Option.bind_eq_some_iff.mp H
           obtain ⟨t292, A290, H⟩ := H
           replace H : (impl_CargoStep.j2 kj11 l0 a2 t284 x10_11 (!t292) a1_0 a1_1 a1_2 a1_3) = some (r1, r2) := H
           have A29 := Aside0.mk A290
           clear A290
           have H' := Aside0.mk H
           clear H
           go_wp2_with (first | ((with_reducible refine gate_callee (f := 27) rfl ?_); refine goesL_ (some 30) rfl rfl Try.func27 (by kernel_rfl) rfl #[.slice A0 l0.length c0] rfl ml_ ?_; (with_reducible refine (impl_TanksOk.calls kj11 _ _ l0 true _ ?side1 ?side2 A15.out).mono ?_); (case side1 => exact rc_ (Kd.C_below HR0.out HB.out)); (case side2 => exact HC0.out); rintro e w30 ⟨rfl, hb⟩; refine ⟨_, rfl, ?_⟩; replace HO_8 := Aside0.mk (Kd.R_below (fr_ HO_8.out) hb); replace BK283 := Aside0.mk (bb_ BK283.out hb); replace HB := Aside0.mk (below_step (bel_ HB.out) hb); (try clear hb); (try clear hb2); (try clear hk); (try clear hi); have hcz31_0 : w30.cell? ⟨gb283, 0, none⟩ = some (.int .i64 a1_0) := bc_ BK283.out 0; have hcz31_1 : w30.cell? ⟨gb283, 1, none⟩ = some (.int .i64 a1_1) := bc_ BK283.out 1; have hcz31_2 : w30.cell? ⟨gb283, 2, none⟩ = some (.int .i64 a1_2) := bc_ BK283.out 2; have hcz31_3 : w30.cell? ⟨gb283, 3, none⟩ = some (.int .i64 a1_3) := bc_ BK283.out 3; have hfz31_0 := blk_frozen BK283.out 0; have hfz31_1 := blk_frozen BK283.out 1; have hfz31_2 := blk_frozen BK283.out 2; have hfz31_3 := blk_frozen BK283.out 3) | (go_at_call 48; (with_reducible refine (impl_in.calls a1_0 1 5 true _ A17.out).mono ?_); rintro e w' ⟨rfl, ⟨nd, rfl⟩⟩) | (go_at_call 48; (with_reducible refine (impl_in.calls a1_1 0 (wrap64 ((l0.length : Int) - 1)) true _ A19.out).mono ?_); rintro e w' ⟨rfl, ⟨nd, rfl⟩⟩) | (go_at_call 48; (with_reducible refine (impl_in.calls a1_3 1 x10_11 true _ A21.out).mono ?_); rintro e w' ⟨rfl, ⟨nd, rfl⟩⟩) | (go_at_call 48; (with_reducible refine (impl_in.calls a1_2 0 (wrap64 ((l0.length : Int) - 1)) true _ A24.out).mono ?_); rintro e w' ⟨rfl, ⟨nd, rfl⟩⟩) | (go_at_call 48; (with_reducible refine (impl_in.calls a2 0 100000000 t292 _ A29.out).mono ?_); rintro e w' ⟨rfl, ⟨nd, rfl⟩⟩))
           go_meet
           case rel => exact ⟨_, (!t292), rl_, H', ⟨by have := HJ6.out; have := HJ11.out; first | omega | exact Nat.le_refl _⟩, ⟨fr_ HO_8.out⟩, ⟨fb_ BK283.out⟩, ⟨bel_ HB.out⟩⟩
          ·replace c25 := Bool.eq_false_iff.mpr c25
           subst c25
           have H1 : (impl_CargoStep.j2 kj11 l0 a2 t284 x10_11 true a1_0 a1_1 a1_2 a1_3) = some (r1, r2) := by rw [if_neg (show ¬ (false = true) by decide)] at H; exact H
           clear H
           have H := H1
           clear H1
           have H' := Aside0.mk H
           clear H
           go_wp2_with (first | ((with_reducible refine gate_callee (f := 27) rfl ?_); refine goesL_ (some 30) rfl rfl Try.func27 (by kernel_rfl) rfl #[.slice A0 l0.length c0] rfl ml_ ?_; (with_reducible refine (impl_TanksOk.calls kj11 _ _ l0 true _ ?side1 ?side2 A15.out).mono ?_); (case side1 => exact rc_ (Kd.C_below HR0.out HB.out)); (case side2 => exact HC0.out); rintro e w32 ⟨rfl, hb⟩; refine ⟨_, rfl, ?_⟩; replace HO_8 := Aside0.mk (Kd.R_below (fr_ HO_8.out) hb); replace BK283 := Aside0.mk (bb_ BK283.out hb); replace HB := Aside0.mk (below_step (bel_ HB.out) hb); (try clear hb); (try clear hb2); (try clear hk); (try clear hi); have hcz33_0 : w32.cell? ⟨gb283, 0, none⟩ = some (.int .i64 a1_0) := bc_ BK283.out 0; have hcz33_1 : w32.cell? ⟨gb283, 1, none⟩ = some (.int .i64 a1_1) := bc_ BK283.out 1; have hcz33_2 : w32.cell? ⟨gb283, 2, none⟩ = some (.int .i64 a1_2) := bc_ BK283.out 2; have hcz33_3 : w32.cell? ⟨gb283, 3, none⟩ = some (.int .i64 a1_3) := bc_ BK283.out 3; have hfz33_0 := blk_frozen BK283.out 0; have hfz33_1 := blk_frozen BK283.out 1; have hfz33_2 := blk_frozen BK283.out 2; have hfz33_3 := blk_frozen BK283.out 3) | (go_at_call 48; (with_reducible refine (impl_in.calls a1_0 1 5 true _ A17.out).mono ?_); rintro e w' ⟨rfl, ⟨nd, rfl⟩⟩) | (go_at_call 48; (with_reducible refine (impl_in.calls a1_1 0 (wrap64 ((l0.length : Int) - 1)) true _ A19.out).mono ?_); rintro e w' ⟨rfl, ⟨nd, rfl⟩⟩) | (go_at_call 48; (with_reducible refine (impl_in.calls a1_3 1 x10_11 true _ A21.out).mono ?_); rintro e w' ⟨rfl, ⟨nd, rfl⟩⟩) | (go_at_call 48; (with_reducible refine (impl_in.calls a1_2 0 (wrap64 ((l0.length : Int) - 1)) false _ A24.out).mono ?_); rintro e w' ⟨rfl, ⟨nd, rfl⟩⟩))
           go_meet
           case rel => exact ⟨_, (true), rl_, H', ⟨by have := HJ6.out; have := HJ11.out; first | omega | exact Nat.le_refl _⟩, ⟨fr_ HO_8.out⟩, ⟨fb_ BK283.out⟩, ⟨bel_ HB.out⟩⟩
         case neg =>
         rw [if_neg c23] at H
         have c23b0 : (a1_0 == 3) = false := beq_eq_false_iff_ne.mpr c23
         have c23b1 : (a1_0 != 3) = true := bne_iff_ne.mpr c23
         (first | rw [c23b0] | (simp only [i64_w, i32_w]; rw [c23b0]) | skip)
         replace H := Option.bind_eq_some_iff.mp H
         obtain ⟨t293, A340, H⟩ := H
         replace H : (impl_CargoStep.j2 kj11 l0 a2 t284 x10_11 (!t293) a1_0 a1_1 a1_2 a1_3) = some (r1, r2) := H
         have A34 := Aside0.mk A340
         clear A340
         have H' := Aside0.mk H
         clear H
         go_wp2_with (first | ((with_reducible refine gate_callee (f := 27) rfl ?_); refine goesL_ (some 30) rfl rfl Try.func27 (by kernel_rfl) rfl #[.slice A0 l0.length c0] rfl ml_ ?_; (with_reducible refine (impl_TanksOk.calls kj11 _ _ l0 true _ ?side1 ?side2 A15.out).mono ?_); (case side1 => exact rc_ (Kd.C_below HR0.out HB.out)); (case side2 => exact HC0.out); rintro e w35 ⟨rfl, hb⟩; refine ⟨_, rfl, ?_⟩; replace HO_8 := Aside0.mk (Kd.R_below (fr_ HO_8.out) hb); replace BK283 := Aside0.mk (bb_ BK283.out hb); replace HB := Aside0.mk (below_step (bel_ HB.out) hb); (try clear hb); (try clear hb2); (try clear hk); (try clear hi); have hcz36_0 : w35.cell? ⟨gb283, 0, none⟩ = some (.int .i64 a1_0) := bc_ BK283.out 0; have hcz36_1 : w35.cell? ⟨gb283, 1, none⟩ = some (.int .i64 a1_1) := bc_ BK283.out 1; have hcz36_2 : w35.cell? ⟨gb283, 2, none⟩ = some (.int .i64 a1_2) := bc_ BK283.out 2; have hcz36_3 : w35.cell? ⟨gb283, 3, none⟩ = some (.int .i64 a1_3) := bc_ BK283.out 3; have hfz36_0 := blk_frozen BK283.out 0; have hfz36_1 := blk_frozen BK283.out 1; have hfz36_2 := blk_frozen BK283.out 2; have hfz36_3 := blk_frozen BK283.out 3) | (go_at_call 48; (with_reducible refine (impl_in.calls a1_0 1 5 true _ A17.out).mono ?_); rintro e w' ⟨rfl, ⟨nd, rfl⟩⟩) | (go_at_call 48; (with_reducible refine (impl_in.calls a1_1 0 (wrap64 ((l0.length : Int) - 1)) true _ A19.out).mono ?_); rintro e w' ⟨rfl, ⟨nd, rfl⟩⟩) | (go_at_call 48; (with_reducible refine (impl_in.calls a1_3 1 x10_11 true _ A21.out).mono ?_); rintro e w' ⟨rfl, ⟨nd, rfl⟩⟩) | (go_at_call 48; (with_reducible refine (impl_in.calls a2 0 100000000 t293 _ A34.out).mono ?_); rintro e w' ⟨rfl, ⟨nd, rfl⟩⟩))
         go_meet
         case rel => exact ⟨_, (!t293), rl_, H', ⟨by have := HJ6.out; have := HJ11.out; first | omega | exact Nat.le_refl _⟩, ⟨fr_ HO_8.out⟩, ⟨fb_ BK283.out⟩, ⟨bel_ HB.out⟩⟩
        ·replace c22 := Bool.eq_false_iff.mpr c22
         subst c22
         have H1 : (impl_CargoStep.j2 kj11 l0 a2 t284 x10_11 true a1_0 a1_1 a1_2 a1_3) = some (r1, r2) := by rw [if_neg (show ¬ (false = true) by decide)] at H; exact H
         clear H
         have H := H1
         clear H1
         have H' := Aside0.mk H
         clear H
         go_wp2_with (first | ((with_reducible refine gate_callee (f := 27) rfl ?_); refine goesL_ (some 30) rfl rfl Try.func27 (by kernel_rfl) rfl #[.slice A0 l0.length c0] rfl ml_ ?_; (with_reducible refine (impl_TanksOk.calls kj11 _ _ l0 true _ ?side1 ?side2 A15.out).mono ?_); (case side1 => exact rc_ (Kd.C_below HR0.out HB.out)); (case side2 => exact HC0.out); rintro e w37 ⟨rfl, hb⟩; refine ⟨_, rfl, ?_⟩; replace HO_8 := Aside0.mk (Kd.R_below (fr_ HO_8.out) hb); replace BK283 := Aside0.mk (bb_ BK283.out hb); replace HB := Aside0.mk (below_step (bel_ HB.out) hb); (try clear hb); (try clear hb2); (try clear hk); (try clear hi); have hcz38_0 : w37.cell? ⟨gb283, 0, none⟩ = some (.int .i64 a1_0) := bc_ BK283.out 0; have hcz38_1 : w37.cell? ⟨gb283, 1, none⟩ = some (.int .i64 a1_1) := bc_ BK283.out 1; have hcz38_2 : w37.cell? ⟨gb283, 2, none⟩ = some (.int .i64 a1_2) := bc_ BK283.out 2; have hcz38_3 : w37.cell? ⟨gb283, 3, none⟩ = some (.int .i64 a1_3) := bc_ BK283.out 3; have hfz38_0 := blk_frozen BK283.out 0; have hfz38_1 := blk_frozen BK283.out 1; have hfz38_2 := blk_frozen BK283.out 2; have hfz38_3 := blk_frozen BK283.out 3) | (go_at_call 48; (with_reducible refine (impl_in.calls a1_0 1 5 true _ A17.out).mono ?_); rintro e w' ⟨rfl, ⟨nd, rfl⟩⟩) | (go_at_call 48; (with_reducible refine (impl_in.calls a1_1 0 (wrap64 ((l0.length : Int) - 1)) true _ A19.out).mono ?_); rintro e w' ⟨rfl, ⟨nd, rfl⟩⟩) | (go_at_call 48; (with_reducible refine (impl_in.calls a1_3 1 x10_11 false _ A21.out).mono ?_); rintro e w' ⟨rfl, ⟨nd, rfl⟩⟩))
         go_meet
         case rel => exact ⟨_, (true), rl_, H', ⟨by have := HJ6.out; have := HJ11.out; first | omega | exact Nat.le_refl _⟩, ⟨fr_ HO_8.out⟩, ⟨fb_ BK283.out⟩, ⟨bel_ HB.out⟩⟩
       ·replace c20 := Bool.eq_false_iff.mpr c20
        subst c20
        have H1 : (impl_CargoStep.j2 kj11 l0 a2 t284 x10_11 true a1_0 a1_1 a1_2 a1_3) = some (r1, r2) := by rw [if_neg (show ¬ (false = true) by decide)] at H; exact H
        clear H
        have H := H1
        clear H1
        have H' := Aside0.mk H
        clear H
        go_wp2_with (first | ((with_reducible refine gate_callee (f := 27) rfl ?_); refine goesL_ (some 30) rfl rfl Try.func27 (by kernel_rfl) rfl #[.slice A0 l0.length c0] rfl ml_ ?_; (with_reducible refine (impl_TanksOk.calls kj11 _ _ l0 true _ ?side1 ?side2 A15.out).mono ?_); (case side1 => exact rc_ (Kd.C_below HR0.out HB.out)); (case side2 => exact HC0.out); rintro e w39 ⟨rfl, hb⟩; refine ⟨_, rfl, ?_⟩; replace HO_8 := Aside0.mk (Kd.R_below (fr_ HO_8.out) hb); replace BK283 := Aside0.mk (bb_ BK283.out hb); replace HB := Aside0.mk (below_step (bel_ HB.out) hb); (try clear hb); (try clear hb2); (try clear hk); (try clear hi); have hcz40_0 : w39.cell? ⟨gb283, 0, none⟩ = some (.int .i64 a1_0) := bc_ BK283.out 0; have hcz40_1 : w39.cell? ⟨gb283, 1, none⟩ = some (.int .i64 a1_1) := bc_ BK283.out 1; have hcz40_2 : w39.cell? ⟨gb283, 2, none⟩ = some (.int .i64 a1_2) := bc_ BK283.out 2; have hcz40_3 : w39.cell? ⟨gb283, 3, none⟩ = some (.int .i64 a1_3) := bc_ BK283.out 3; have hfz40_0 := blk_frozen BK283.out 0; have hfz40_1 := blk_frozen BK283.out 1; have hfz40_2 := blk_frozen BK283.out 2; have hfz40_3 := blk_frozen BK283.out 3) | (go_at_call 48; (with_reducible refine (impl_in.calls a1_0 1 5 true _ A17.out).mono ?_); rintro e w' ⟨rfl, ⟨nd, rfl⟩⟩) | (go_at_call 48; (with_reducible refine (impl_in.calls a1_1 0 (wrap64 ((l0.length : Int) - 1)) false _ A19.out).mono ?_); rintro e w' ⟨rfl, ⟨nd, rfl⟩⟩))
        go_meet
        case rel => exact ⟨_, (true), rl_, H', ⟨by have := HJ6.out; have := HJ11.out; first | omega | exact Nat.le_refl _⟩, ⟨fr_ HO_8.out⟩, ⟨fb_ BK283.out⟩, ⟨bel_ HB.out⟩⟩
      ·replace c18 := Bool.eq_false_iff.mpr c18
       subst c18
       have H1 : (impl_CargoStep.j2 kj11 l0 a2 t284 x10_11 true a1_0 a1_1 a1_2 a1_3) = some (r1, r2) := by rw [if_neg (show ¬ (false = true) by decide)] at H; exact H
       clear H
       have H := H1
       clear H1
       have H' := Aside0.mk H
       clear H
       go_wp2_with (first | ((with_reducible refine gate_callee (f := 27) rfl ?_); refine goesL_ (some 30) rfl rfl Try.func27 (by kernel_rfl) rfl #[.slice A0 l0.length c0] rfl ml_ ?_; (with_reducible refine (impl_TanksOk.calls kj11 _ _ l0 true _ ?side1 ?side2 A15.out).mono ?_); (case side1 => exact rc_ (Kd.C_below HR0.out HB.out)); (case side2 => exact HC0.out); rintro e w41 ⟨rfl, hb⟩; refine ⟨_, rfl, ?_⟩; replace HO_8 := Aside0.mk (Kd.R_below (fr_ HO_8.out) hb); replace BK283 := Aside0.mk (bb_ BK283.out hb); replace HB := Aside0.mk (below_step (bel_ HB.out) hb); (try clear hb); (try clear hb2); (try clear hk); (try clear hi); have hcz42_0 : w41.cell? ⟨gb283, 0, none⟩ = some (.int .i64 a1_0) := bc_ BK283.out 0; have hcz42_1 : w41.cell? ⟨gb283, 1, none⟩ = some (.int .i64 a1_1) := bc_ BK283.out 1; have hcz42_2 : w41.cell? ⟨gb283, 2, none⟩ = some (.int .i64 a1_2) := bc_ BK283.out 2; have hcz42_3 : w41.cell? ⟨gb283, 3, none⟩ = some (.int .i64 a1_3) := bc_ BK283.out 3; have hfz42_0 := blk_frozen BK283.out 0; have hfz42_1 := blk_frozen BK283.out 1; have hfz42_2 := blk_frozen BK283.out 2; have hfz42_3 := blk_frozen BK283.out 3) | (go_at_call 48; (with_reducible refine (impl_in.calls a1_0 1 5 false _ A17.out).mono ?_); rintro e w' ⟨rfl, ⟨nd, rfl⟩⟩))
       go_meet
       case rel => exact ⟨_, (true), rl_, H', ⟨by have := HJ6.out; have := HJ11.out; first | omega | exact Nat.le_refl _⟩, ⟨fr_ HO_8.out⟩, ⟨fb_ BK283.out⟩, ⟨bel_ HB.out⟩⟩
     ·replace c16 := Bool.eq_false_iff.mpr c16
      subst c16
      have H1 : (impl_CargoStep.j2 kj11 l0 a2 t284 x10_11 true a1_0 a1_1 a1_2 a1_3) = some (r1, r2) := by rw [if_neg (show ¬ (false = true) by decide)] at H; exact H
      clear H
      have H := H1
      clear H1
      have H' := Aside0.mk H
      clear H
      go_wp2_with (first | ((with_reducible refine gate_callee (f := 27) rfl ?_); refine goesL_ (some 30) rfl rfl Try.func27 (by kernel_rfl) rfl #[.slice A0 l0.length c0] rfl ml_ ?_; (with_reducible refine (impl_TanksOk.calls kj11 _ _ l0 false _ ?side1 ?side2 A15.out).mono ?_); (case side1 => exact rc_ (Kd.C_below HR0.out HB.out)); (case side2 => exact HC0.out); rintro e w43 ⟨rfl, hb⟩; refine ⟨_, rfl, ?_⟩; replace HO_8 := Aside0.mk (Kd.R_below (fr_ HO_8.out) hb); replace BK283 := Aside0.mk (bb_ BK283.out hb); replace HB := Aside0.mk (below_step (bel_ HB.out) hb); (try clear hb); (try clear hb2); (try clear hk); (try clear hi)))
      go_meet
      case rel => exact ⟨_, (true), rl_, H', ⟨by have := HJ6.out; have := HJ11.out; first | omega | exact Nat.le_refl _⟩, ⟨fr_ HO_8.out⟩, ⟨fb_ BK283.out⟩, ⟨bel_ HB.out⟩⟩
    case rest =>
    clear HC14
    obtain ⟨kq, x75_13, rfl, HA, HJ13, HO_8, BK283, HB⟩ := hcut
    cases kq with
    | zero => exact absurd HA.out (by simp [impl_CargoStep.j2])
    | succ kj13 =>
     have H := HA.out
     clear HA
     simp only [impl_CargoStep.j2] at H
     by_cases c44 : x75_13 = true
     ·subst c44
      have H1 : (some (t284, 1)) = some (r1, r2) := by rw [if_pos rfl] at H; exact H
      clear H
      have H := H1
      clear H1
      simp only [Option.some.injEq, Prod.mk.injEq] at H
      obtain ⟨rfl, rfl⟩ := H
      go_wp2
      go_ret2
      exact ⟨_, by first | rfl | (simp [errW_none, errW_some] <;> rfl) | (simp [*, errW_none, errW_some] <;> rfl), by (with_reducible repeat (first | apply Kd.R_alloc | apply Kd.R_drewN | apply Kd.R_drew)); exact HO_8.out, bel_ HB.out⟩
     case neg =>
     replace c44 := Bool.eq_false_iff.mpr c44
     subst c44
     have H1 : ((impl_CargoTank_61.f l0).bind fun t294 => (impl_CargoStep.j3 kj13 l0 a2 t284 x10_11 t294 a1_0 a1_1 a1_2 a1_3)) = some (r1, r2) := by rw [if_neg (show ¬ (false = true) by decide)] at H; exact H
     clear H
     have H := H1
     clear H1; replace H := Option.bind_eq_some_iff.mp H
     obtain ⟨t294, A450, H⟩ := H
     replace H : (impl_CargoStep.j3 kj13 l0 a2 t284 x10_11 t294 a1_0 a1_1 a1_2 a1_3) = some (r1, r2) := H
     have A45 := Aside0.mk A450
     clear A450
     have H' := Aside0.mk H
     clear H
     go_wp2_with (first | ((with_reducible refine gate_callee (f := 61) rfl ?_); refine goesL_ (some 78) rfl rfl Try.func61 (by kernel_rfl) rfl #[.slice A0 l0.length c0] rfl ml_ ?_; (with_reducible refine (impl_CargoTank_61.calls _ _ l0 t294 _ ?side1 ?side2 A45.out).mono ?_); (case side1 => exact rc_ (Kd.C_below HR0.out HB.out)); (case side2 => exact HC0.out); rintro e w46 ⟨v295, rfl, ho0, hb⟩; refine ⟨_, rfl, ?_⟩; have HO296 := Aside0.mk (Kd.R_lower (Kd.R_new' ho0 (Kd.R_lt (fr_ HO_8.out))) (below_size (bel_ HB.out))); replace HO_8 := Aside0.mk (Kd.R_elder' (fr_ HO_8.out) (Kd.R_base ho0) hb); replace BK283 := Aside0.mk (bb_ BK283.out hb); replace HB := Aside0.mk (below_step (bel_ HB.out) hb); (try clear hb); (try clear hb2); (try clear hk); (try clear hi); (try clear ho0)))
     refine hD_ _ _ ?_
     refine Met.intro (hJ_ _ _ (chap_in (by kernel_rfl) ?rel))
     case rel => (try simp only [List.getD_cons_zero, List.getD_cons_succ]); exact ⟨_, (t284), (x10_11), (t294), rl_, H', ⟨by have := HJ6.out; have := HJ11.out; have := HJ13.out; first | omega | exact Nat.le_refl _⟩, ⟨rn_ HO_8.out (fun _ hk => hk.2)⟩, ⟨rn_ HO296.out (fun _ hk => hk.2)⟩, ⟨fb_ BK283.out⟩, ⟨bel_ HB.out⟩⟩
 case rest =>
 intro a_ wc hinv
 obtain ⟨ub, hcut, ha⟩ := hinv
 subst ha
 (try dsimp only at hcut)
 generalize ub 8 = u8 at hcut ⊢
 generalize ub 10 = u10 at hcut ⊢
 generalize ub 11 = u11 at hcut ⊢
 (try dsimp only)
 clear HC4
 obtain ⟨kq, x8_3, x10_3, x11_3, rfl, HA, HJ3, HO_8, HO_11, BK283, HB⟩ := hcut
 cases kq with
 | zero => exact absurd HA.out (by simp [impl_CargoStep.j3])
 | succ kj3 =>
  have H := HA.out
  clear HA
  simp only [impl_CargoStep.j3] at H
  have HC47 := Aside0.mk H
  clear H
  refine wp_chap8 (fun a_ w_ => ∃ uc : Nat → Value, (fun wc => ∃ (kq : Nat) (x8_46 : List (S63)) (x11_46 : List (S63)), Aside0 (impl_CargoStep.j9 kq l0 a2 x8_46 x11_46 = some (r1, r2)) ∧ Aside0 (kq ≤ kj3) ∧ Aside0 (Kd.R k63 63 wc w.heap.size (fun k_ => nB_ (u11) k_) u8 x8_46) ∧ Aside0 (Kd.R k63 63 wc w.heap.size (fun k_ => nB_ (u8) k_) u11 x11_46) ∧ Aside0 (wc.heap[gb283]? = some (.cells #[.int .i64 a1_0, .int .i64 a1_1, .int .i64 a1_2, .int .i64 a1_3] 61 (0, 0))) ∧ Aside0 (Below w.heap.size w wc))  w_ ∧ a_ = ⟨#[.slice A0 l0.length c0, .agg #[.int .i64 a1_0, .int .i64 a1_1, .int .i64 a1_2, .int .i64 a1_3], .int .i64 a2, ub 3, .pointer (some ⟨gb283, 0, none⟩), ub 5, uc 6, uc 7, u8, ub 9, .int .i64 x10_3, u11, uc 12, uc 13, uc 14, ub 15, uc 16, uc 17, uc 18, uc 19, uc 20, uc 21, uc 22, uc 23, uc 24, uc 25, uc 26, uc 27, uc 28, uc 29, uc 30, uc 31, uc 32, uc 33, uc 34, uc 35, uc 36, uc 37, uc 38, uc 39, uc 40, uc 41, uc 42, uc 43, uc 44, uc 45, uc 46, uc 47, uc 48, uc 49, uc 50, uc 51, uc 52, uc 53, uc 54, uc 55, uc 56, uc 57, uc 58, uc 59, uc 60, uc 61, uc 62, uc 63, uc 64, uc 65, uc 66, uc 67, uc 68, uc 69, uc 70, uc 71, uc 72, uc 73, uc 74, uc 75, uc 76, uc 77, uc 78, uc 79, uc 80, uc 81, uc 82, uc 83, uc 84, uc 85, uc 86, uc 87, uc 88, uc 89, uc 90, uc 91, uc 92, uc 93, uc 94, uc 95, uc 96, uc 97, uc 98, uc 99, uc 100, uc 101, uc 102, uc 103, uc 104, uc 105, uc 106, uc 107, uc 108, uc 109, uc 110, uc 111, uc 112, uc 113, uc 114, uc 115, uc 116, uc 117, uc 118, uc 119, uc 120, uc 121, uc 122, uc 123, uc 124, uc 125, uc 126, uc 127, uc 128, uc 129, uc 130, uc 131, uc 132, uc 133, uc 134, uc 135, uc 136, uc 137, uc 138, uc 139, uc 140, uc 141, uc 142, uc 143, uc 144, uc 145, uc 146, uc 147, uc 148, uc 149, uc 150, uc 151, uc 152, uc 153, uc 154, uc 155, uc 156, uc 157, uc 158, uc 159, uc 160, uc 161, uc 162, uc 163, uc 164, uc 165, uc 166, uc 167, uc 168, uc 169, uc 170, uc 171, uc 172, uc 173, uc 174, uc 175, uc 176, uc 177, uc 178, uc 179, uc 180, uc 181, uc 182, uc 183, uc 184, uc 185, uc 186, uc 187, uc 188, uc 189, uc 190, uc 191, uc 192, uc 193, uc 194, uc 195, uc 196, uc 197, uc 198, uc 199, uc 200, uc 201, uc 202, uc 203, uc 204, uc 205, uc 206, uc 207, uc 208, uc 209, uc 210, uc 211, uc 212, uc 213, uc 214, uc 215], []⟩) ?rest ?first
  case first =>
   as_aux_lemma =>
   intro D_ J_ hJ_ hD_
   have H := HC47.out
   clear HC47
   by_cases c48 : 0 ≤ a1_1
   ·rw [if_pos c48] at H
    have c48b0 : decide (0 ≤ a1_1) = true := decide_eq_true c48
    clear c48
    (first | rw [c48b0] | (simp only [i64_w, i32_w]; rw [c48b0]) | skip)
    by_cases c49 : a1_1 < (x11_3.length : Int)
    ·rw [if_pos c49] at H
     have c49b0 : decide (a1_1 < (x11_3.length : Int)) = true := decide_eq_true c49
     clear c49
     by_cases c51 : a1_0 = 1
     ·as_aux_lemma =>
      rw [if_pos c51] at H
      have c51b0 : (a1_0 == 1) = true := beq_iff_eq.mpr c51
      have c51b1 : (a1_0 != 1) = false := bne_eq_false_iff_eq.mpr c51
      clear c51
      by_cases c52 : (wrap64 (((rd_T63 x11_3 a1_1).f0) + a1_3)) > ((rd_T63 x11_3 a1_1).f1)
      ·rw [if_pos c52] at H
       have c52b0 : decide (((rd_T63 x11_3 a1_1).f1) < (wrap64 (((rd_T63 x11_3 a1_1).f0) + a1_3))) = true := decide_eq_true c52
       clear c52
       simp only [Option.some.injEq, Prod.mk.injEq] at H
       obtain ⟨rfl, rfl⟩ := H
       have hcz53_0 : wc.cell? ⟨gb283, 0, none⟩ = some (.int .i64 a1_0) := bc_ BK283.out 0; have hcz53_1 : wc.cell? ⟨gb283, 1, none⟩ = some (.int .i64 a1_1) := bc_ BK283.out 1; have hcz53_2 : wc.cell? ⟨gb283, 2, none⟩ = some (.int .i64 a1_2) := bc_ BK283.out 2; have hcz53_3 : wc.cell? ⟨gb283, 3, none⟩ = some (.int .i64 a1_3) := bc_ BK283.out 3; have hfz53_0 := blk_frozen BK283.out 0; have hfz53_1 := blk_frozen BK283.out 1; have hfz53_2 := blk_frozen BK283.out 2; have hfz53_3 := blk_frozen BK283.out 3
       have p50 : 0 ≤ (a1_1 : Int) := of_decide_eq_true (by first | (with_reducible assumption) | assumption)
       have q50 : (a1_1 : Int) < ((x11_3.length : Int) : Int) := of_decide_eq_true (by first | (with_reducible assumption) | assumption)
       obtain ⟨go50, co50, eo50, gb50, gl50, cl50, HG50⟩ := Kd.R_form HO_11.out (by omega)
       (first | cases eo50 | (injection eo50 with ea_ en_ ec_; (first | subst ea_ | (injection ea_ with ea_; subst ea_)); subst ec_; clear en_))
       have GB50 := Aside0.mk gb50
       have GG50 := Aside0.mk HG50
       clear gb50 gl50 HG50; replace p50 := eq_true p50; replace q50 := eq_true q50
       try go_wp2
       replace HO_8 := Aside0.mk (Kd.R_drew HO_8.out); replace HO_11 := Aside0.mk (Kd.R_drew HO_11.out); replace BK283 := Aside0.mk (blk_drew BK283.out); replace HB := Aside0.mk (below_drew1 HB.out)
       refine start_ (n := 12) (S := fun w' => True) (ds := []) (bs 12 0) (by kernel_rfl) rfl rfl trivial (fun hHeld => ?_); refine with_tabW impl_CargoStep.tab18 impl_CargoStep.bits18 (fun HT_ HW_ => ?_)
       generalize wc.drew = w54 at HO_8 HO_11 BK283 HB hHeld ⊢
       refine pu_ 0 99 HT_ (bs 12 1) rfl rfl ?_
       refine pu_ 1 100 HT_ (bs 12 3) rfl rfl ?_
       refine pu_ 2 101 HT_ (bs 12 7) rfl rfl ?_
       refine pn_ 3 102 HT_ (bs 12 15) rfl rfl ?_
       refine pn_ 4 103 HT_ (bs 12 31) rfl rfl ?_
       refine pn_ 5 104 HT_ (bs 12 63) rfl rfl ?_
       refine pn_ 6 105 HT_ (bs 12 127) rfl rfl ?_
       refine pn_ 7 106 HT_ (bs 12 255) rfl rfl ?_
       refine pn_ 8 107 HT_ (bs 12 511) rfl rfl ?_
       refine pn_ 9 108 HT_ (bs 12 1023) rfl rfl ?_
       refine pu_ 10 109 HT_ (bs 12 2047) rfl rfl ?_
       refine pu_ 11 98 HT_ (bs 12 4095) rfl rfl ?_
       refine done_ (done_of HT_.out (by kernel_rfl)) ?_
       try go_wp2
       replace HO_8 := Aside0.mk (Kd.R_drew HO_8.out); replace HO_11 := Aside0.mk (Kd.R_drew HO_11.out); replace BK283 := Aside0.mk (blk_drew BK283.out); replace HB := Aside0.mk (below_drew1 HB.out)
       have p297 : 0 ≤ (a1_1 : Int) := of_decide_eq_true (by first | (with_reducible assumption) | assumption)
       have q297 : a1_1 < (x11_3.length : Int) := of_decide_eq_true (by first | (with_reducible assumption) | assumption)
       obtain ⟨ad297, e297, hx297_0, hx297_1, hx297_2, hx297_3, hx297_4⟩ := at_T63 (Kd.R_reads' HO_11.out).2.2 a1_1 p297 q297
       obtain rfl : (⟨go50, 0, none⟩ : Addr) = ad297 := (by injection e297)
       (try simp only [add_plain] at hx297_0 hx297_1 hx297_2 hx297_3 hx297_4)
       replace p297 := eq_true p297; replace q297 := eq_true q297
       have p298 : 0 ≤ (a1_1 : Int) := of_decide_eq_true (by first | (with_reducible assumption) | assumption)
       have q298 : a1_1 < (x11_3.length : Int) := of_decide_eq_true (by first | (with_reducible assumption) | assumption)
       obtain ⟨ad298, e298, hx298_0, hx298_1, hx298_2, hx298_3, hx298_4⟩ := at_T63 (Kd.R_reads' HO_11.out).2.2 a1_1 p298 q298
       obtain rfl : (⟨go50, 0, none⟩ : Addr) = ad298 := (by injection e298)
       (try simp only [add_plain] at hx298_0 hx298_1 hx298_2 hx298_3 hx298_4)
       replace p298 := eq_true p298; replace q298 := eq_true q298
       refine start_ (n := 17) (S := fun w' => w'.cell? ⟨gb283, 0, none⟩ = some (.int .i64 a1_0) ∧ w'.cell? ⟨gb283, 1, none⟩ = some (.int .i64 a1_1) ∧ w'.cell? ⟨gb283, 2, none⟩ = some (.int .i64 a1_2) ∧ w'.cell? ⟨gb283, 3, none⟩ = some (.int .i64 a1_3) ∧ w'.cell? ⟨go50, (a1_1).toNat * 5, none⟩ = some (.int .i64 ((rd_T63 x11_3 a1_1).f0)) ∧ w'.cell? ⟨go50, (a1_1).toNat * 5 + 1, none⟩ = some (.int .i64 ((rd_T63 x11_3 a1_1).f1)) ∧ w'.cell? ⟨go50, (a1_1).toNat * 5 + 2, none⟩ = some (.int .i64 ((rd_T63 x11_3 a1_1).f2)) ∧ w'.cell? ⟨go50, (a1_1).toNat * 5 + 3, none⟩ = some (.int .i64 ((rd_T63 x11_3 a1_1).f3)) ∧ w'.cell? ⟨go50, (a1_1).toNat * 5 + 4, none⟩ = some (.int .i64 ((rd_T63 x11_3 a1_1).f4)) ∧ w'.cell? ⟨go50, (a1_1).toNat * 5, none⟩ = some (.int .i64 ((rd_T63 x11_3 a1_1).f0)) ∧ w'.cell? ⟨go50, (a1_1).toNat * 5 + 1, none⟩ = some (.int .i64 ((rd_T63 x11_3 a1_1).f1)) ∧ w'.cell? ⟨go50, (a1_1).toNat * 5 + 2, none⟩ = some (.int .i64 ((rd_T63 x11_3 a1_1).f2)) ∧ w'.cell? ⟨go50, (a1_1).toNat * 5 + 3, none⟩ = some (.int .i64 ((rd_T63 x11_3 a1_1).f3)) ∧ w'.cell? ⟨go50, (a1_1).toNat * 5 + 4, none⟩ = some (.int .i64 ((rd_T63 x11_3 a1_1).f4))) (ds := []) (bs 17 0) (by kernel_rfl) rfl rfl ⟨bc_ BK283.out 0, bc_ BK283.out 1, bc_ BK283.out 2, bc_ BK283.out 3, hx297_0, hx297_1, hx297_2, hx297_3, hx297_4, hx298_0, hx298_1, hx298_2, hx298_3, hx298_4⟩ (fun hHeld => ?_); refine with_tabW impl_CargoStep.tab20 impl_CargoStep.bits20 (fun HT_ HW_ => ?_)
       generalize w54.drew = w55 at HO_8 HO_11 BK283 HB hx297_0 hx297_1 hx297_2 hx297_3 hx297_4 hx298_0 hx298_1 hx298_2 hx298_3 hx298_4 hHeld ⊢
       refine pu_ 0 112 HT_ (bs 17 1) rfl rfl ?_
       refine pu_ 1 113 HT_ (bs 17 3) rfl rfl ?_
       refine pu_ 2 114 HT_ (bs 17 7) rfl rfl ?_
       refine pu_ 3 115 HT_ (bs 17 15) rfl rfl ?_
       refine pu_ 4 116 HT_ (bs 17 31) rfl rfl ?_
       refine pu_ 5 117 HT_ (bs 17 63) rfl rfl ?_
       refine pu_ 7 119 HT_ (bs 17 191) rfl rfl ?_
       refine pu_ 10 122 HT_ (bs 17 1215) rfl rfl ?_
       refine pu_ 11 123 HT_ (bs 17 3263) rfl rfl ?_
       refine pu_ 12 124 HT_ (bs 17 7359) rfl rfl ?_
       refine take_ (i := 6) (N := some 118) (v := ?_) (a' := ?_) (bs 17 7423) rfl rfl (take_ofW HT_.out HW_.out (by kernel_rfl)) (fun _ _ _ h => h) (Or.inl ⟨by rfl, ?_⟩) hHeld ?_ ?_
       rotate_left
       ·rintro w' ⟨s0, s1, s2, s3, s4, s5, s6, s7, s8, s9, s10, s11, s12, s13⟩
        go_simp
        with_reducible rfl
       rotate_left
       ·simp only [Act.put, sA_, sZ_, sS_, i64_w, i32_w]
        rfl
       refine take_ (i := 8) (N := some 120) (v := ?_) (a' := ?_) (bs 17 7679) rfl rfl (take_ofW HT_.out HW_.out (by kernel_rfl)) (fun _ _ _ h => h) (Or.inl ⟨by rfl, ?_⟩) hHeld ?_ ?_
       rotate_left
       ·rintro w' ⟨s0, s1, s2, s3, s4, s5, s6, s7, s8, s9, s10, s11, s12, s13⟩
        go_simp
        with_reducible rfl
       rotate_left
       ·simp only [Act.put, sA_, sZ_, sS_, i64_w, i32_w]
        rfl
       refine pu_ 9 121 HT_ (bs 17 8191) rfl rfl ?_
       refine take_ (i := 13) (N := some 125) (v := ?_) (a' := ?_) (bs 17 16383) rfl rfl (take_ofW HT_.out HW_.out (by kernel_rfl)) (fun _ _ _ h => h) (Or.inl ⟨by rfl, ?_⟩) hHeld ?_ ?_
       rotate_left
       ·rintro w' ⟨s0, s1, s2, s3, s4, s5, s6, s7, s8, s9, s10, s11, s12, s13⟩
        go_simp
        with_reducible rfl
       rotate_left
       ·simp only [Act.put, sA_, sZ_, sS_, i64_w, i32_w]
        rfl
       refine pu_ 14 126 HT_ (bs 17 32767) rfl rfl ?_
       refine pu_ 15 127 HT_ (bs 17 65535) rfl rfl ?_
       refine pu_ 16 111 HT_ (bs 17 131071) rfl rfl ?_
       refine done_ (done_of HT_.out (by kernel_rfl)) ?_
       try go_wp2
       go_ret2
       exact ⟨_, by first | rfl | (simp [errW_none, errW_some] <;> rfl) | (simp [*, errW_none, errW_some] <;> rfl), by (with_reducible repeat (first | apply Kd.R_alloc | apply Kd.R_drewN | apply Kd.R_drew)); exact Kd.R_mono HO_8.out (fun _ hk => trivial), bel_ HB.out⟩
      case neg =>
      rw [if_neg c52] at H
      have c52b0 : decide (((rd_T63 x11_3 a1_1).f1) < (wrap64 (((rd_T63 x11_3 a1_1).f0) + a1_3))) = false := decide_eq_false c52
      clear c52
      obtain ⟨y300, hy300⟩ : ∃ y_ : List (S63), y_ = (x11_3.set (a1_1 : Int).toNat (⟨wrap64 (((rd_T63 x11_3 a1_1).f0) + a1_3), (rd_T63 x11_3 a1_1).f1, (rd_T63 x11_3 a1_1).f2, (rd_T63 x11_3 a1_1).f3, (rd_T63 x11_3 a1_1).f4⟩ : S63)) := ⟨_, rfl⟩
      replace H : (if x10_3 = 100 then (none) else ((impl_CargoTank_mayBurn.f (wrap64 (((rd_T63 x11_3 a1_1).f0) + a1_3)) ((rd_T63 x11_3 a1_1).f1) ((rd_T63 x11_3 a1_1).f2) ((rd_T63 x11_3 a1_1).f3) ((rd_T63 x11_3 a1_1).f4)).bind fun t302 => (if t302 = true then (impl_CargoStep.j4 kj3 l0 a2 x8_3 y300 true) else (if a1_0 = 3 then (none) else (impl_CargoStep.j4 kj3 l0 a2 x8_3 y300 false))))) = some (r1, r2) := by first | (rw [hy300]; with_reducible exact H) | (have H2_ := (Option.bind_some _ _).symm.trans H; rw [hy300]; with_reducible exact H2_) | (have H2_ := (Option.bind_some _ _).symm.trans H; with_reducible exact H2_) | with_reducible exact H | (rw [hy300]; exact H) | exact H
      have Ny300 := Aside0.mk hy300
      clear hy300
      by_cases c57 : x10_3 = 100
      ·rw [if_pos c57] at H
       exact absurd H (by simp)
      case neg =>
      rw [if_neg c57] at H
      have c57b0 : (x10_3 == 100) = false := beq_eq_false_iff_ne.mpr c57
      have c57b1 : (x10_3 != 100) = true := bne_iff_ne.mpr c57
      have HC58 := Aside0.mk H
      clear H; have hcz59_0 : wc.cell? ⟨gb283, 0, none⟩ = some (.int .i64 a1_0) := bc_ BK283.out 0; have hcz59_1 : wc.cell? ⟨gb283, 1, none⟩ = some (.int .i64 a1_1) := bc_ BK283.out 1; have hcz59_2 : wc.cell? ⟨gb283, 2, none⟩ = some (.int .i64 a1_2) := bc_ BK283.out 2; have hcz59_3 : wc.cell? ⟨gb283, 3, none⟩ = some (.int .i64 a1_3) := bc_ BK283.out 3; have hfz59_0 := blk_frozen BK283.out 0; have hfz59_1 := blk_frozen BK283.out 1; have hfz59_2 := blk_frozen BK283.out 2; have hfz59_3 := blk_frozen BK283.out 3
      have p50 : 0 ≤ (a1_1 : Int) := of_decide_eq_true (by first | (with_reducible assumption) | assumption)
      have q50 : (a1_1 : Int) < ((x11_3.length : Int) : Int) := of_decide_eq_true (by first | (with_reducible assumption) | assumption)
      obtain ⟨go50, co50, eo50, gb50, gl50, cl50, HG50⟩ := Kd.R_form HO_11.out (by omega)
      (first | cases eo50 | (injection eo50 with ea_ en_ ec_; (first | subst ea_ | (injection ea_ with ea_; subst ea_)); subst ec_; clear en_))
      have GB50 := Aside0.mk gb50
      have GG50 := Aside0.mk HG50
      clear gb50 gl50 HG50; replace p50 := eq_true p50; replace q50 := eq_true q50
      try go_wp2
      replace HO_8 := Aside0.mk (Kd.R_drew HO_8.out); replace HO_11 := Aside0.mk (Kd.R_drew HO_11.out); replace BK283 := Aside0.mk (blk_drew BK283.out); replace HB := Aside0.mk (below_drew1 HB.out)
      refine start_ (n := 12) (S := fun w' => True) (ds := []) (bs 12 0) (by kernel_rfl) rfl rfl trivial (fun hHeld => ?_); refine with_tabW impl_CargoStep.tab18 impl_CargoStep.bits18 (fun HT_ HW_ => ?_)
      generalize wc.drew = w60 at HO_8 HO_11 BK283 HB hHeld ⊢
      refine pu_ 0 99 HT_ (bs 12 1) rfl rfl ?_
      refine pu_ 1 100 HT_ (bs 12 3) rfl rfl ?_
      refine pu_ 2 101 HT_ (bs 12 7) rfl rfl ?_
      refine pn_ 3 102 HT_ (bs 12 15) rfl rfl ?_
      refine pn_ 4 103 HT_ (bs 12 31) rfl rfl ?_
      refine pn_ 5 104 HT_ (bs 12 63) rfl rfl ?_
      refine pn_ 6 105 HT_ (bs 12 127) rfl rfl ?_
      refine pn_ 7 106 HT_ (bs 12 255) rfl rfl ?_
      refine pn_ 8 107 HT_ (bs 12 511) rfl rfl ?_
      refine pn_ 9 108 HT_ (bs 12 1023) rfl rfl ?_
      refine pu_ 10 109 HT_ (bs 12 2047) rfl rfl ?_
      refine pu_ 11 98 HT_ (bs 12 4095) rfl rfl ?_
      refine done_ (done_of HT_.out (by kernel_rfl)) ?_
      try go_wp2
      replace HO_8 := Aside0.mk (Kd.R_drew HO_8.out); replace HO_11 := Aside0.mk (Kd.R_drew HO_11.out); replace BK283 := Aside0.mk (blk_drew BK283.out); replace HB := Aside0.mk (below_drew1 HB.out)
      have p297 : 0 ≤ (a1_1 : Int) := of_decide_eq_true (by first | (with_reducible assumption) | assumption)
      have q297 : a1_1 < (x11_3.length : Int) := of_decide_eq_true (by first | (with_reducible assumption) | assumption)
      obtain ⟨ad297, e297, hx297_0, hx297_1, hx297_2, hx297_3, hx297_4⟩ := at_T63 (Kd.R_reads' HO_11.out).2.2 a1_1 p297 q297
      obtain rfl : (⟨go50, 0, none⟩ : Addr) = ad297 := (by injection e297)
      (try simp only [add_plain] at hx297_0 hx297_1 hx297_2 hx297_3 hx297_4)
      replace p297 := eq_true p297; replace q297 := eq_true q297
      have p298 : 0 ≤ (a1_1 : Int) := of_decide_eq_true (by first | (with_reducible assumption) | assumption)
      have q298 : a1_1 < (x11_3.length : Int) := of_decide_eq_true (by first | (with_reducible assumption) | assumption)
      obtain ⟨ad298, e298, hx298_0, hx298_1, hx298_2, hx298_3, hx298_4⟩ := at_T63 (Kd.R_reads' HO_11.out).2.2 a1_1 p298 q298
      obtain rfl : (⟨go50, 0, none⟩ : Addr) = ad298 := (by injection e298)
      (try simp only [add_plain] at hx298_0 hx298_1 hx298_2 hx298_3 hx298_4)
      replace p298 := eq_true p298; replace q298 := eq_true q298
      refine start_ (n := 17) (S := fun w' => w'.cell? ⟨gb283, 0, none⟩ = some (.int .i64 a1_0) ∧ w'.cell? ⟨gb283, 1, none⟩ = some (.int .i64 a1_1) ∧ w'.cell? ⟨gb283, 2, none⟩ = some (.int .i64 a1_2) ∧ w'.cell? ⟨gb283, 3, none⟩ = some (.int .i64 a1_3) ∧ w'.cell? ⟨go50, (a1_1).toNat * 5, none⟩ = some (.int .i64 ((rd_T63 x11_3 a1_1).f0)) ∧ w'.cell? ⟨go50, (a1_1).toNat * 5 + 1, none⟩ = some (.int .i64 ((rd_T63 x11_3 a1_1).f1)) ∧ w'.cell? ⟨go50, (a1_1).toNat * 5 + 2, none⟩ = some (.int .i64 ((rd_T63 x11_3 a1_1).f2)) ∧ w'.cell? ⟨go50, (a1_1).toNat * 5 + 3, none⟩ = some (.int .i64 ((rd_T63 x11_3 a1_1).f3)) ∧ w'.cell? ⟨go50, (a1_1).toNat * 5 + 4, none⟩ = some (.int .i64 ((rd_T63 x11_3 a1_1).f4)) ∧ w'.cell? ⟨go50, (a1_1).toNat * 5, none⟩ = some (.int .i64 ((rd_T63 x11_3 a1_1).f0)) ∧ w'.cell? ⟨go50, (a1_1).toNat * 5 + 1, none⟩ = some (.int .i64 ((rd_T63 x11_3 a1_1).f1)) ∧ w'.cell? ⟨go50, (a1_1).toNat * 5 + 2, none⟩ = some (.int .i64 ((rd_T63 x11_3 a1_1).f2)) ∧ w'.cell? ⟨go50, (a1_1).toNat * 5 + 3, none⟩ = some (.int .i64 ((rd_T63 x11_3 a1_1).f3)) ∧ w'.cell? ⟨go50, (a1_1).toNat * 5 + 4, none⟩ = some (.int .i64 ((rd_T63 x11_3 a1_1).f4))) (ds := []) (bs 17 0) (by kernel_rfl) rfl rfl ⟨bc_ BK283.out 0, bc_ BK283.out 1, bc_ BK283.out 2, bc_ BK283.out 3, hx297_0, hx297_1, hx297_2, hx297_3, hx297_4, hx298_0, hx298_1, hx298_2, hx298_3, hx298_4⟩ (fun hHeld => ?_); refine with_tabW impl_CargoStep.tab20 impl_CargoStep.bits20 (fun HT_ HW_ => ?_)
      generalize w60.drew = w61 at HO_8 HO_11 BK283 HB hx297_0 hx297_1 hx297_2 hx297_3 hx297_4 hx298_0 hx298_1 hx298_2 hx298_3 hx298_4 hHeld ⊢
      refine pu_ 0 112 HT_ (bs 17 1) rfl rfl ?_
      refine pu_ 1 113 HT_ (bs 17 3) rfl rfl ?_
      refine pu_ 2 114 HT_ (bs 17 7) rfl rfl ?_
      refine pu_ 3 115 HT_ (bs 17 15) rfl rfl ?_
      refine pu_ 4 116 HT_ (bs 17 31) rfl rfl ?_
      refine pu_ 5 117 HT_ (bs 17 63) rfl rfl ?_
      refine pu_ 7 119 HT_ (bs 17 191) rfl rfl ?_
      refine pu_ 10 122 HT_ (bs 17 1215) rfl rfl ?_
      refine pu_ 11 123 HT_ (bs 17 3263) rfl rfl ?_
      refine pu_ 12 124 HT_ (bs 17 7359) rfl rfl ?_
      refine take_ (i := 6) (N := some 118) (v := ?_) (a' := ?_) (bs 17 7423) rfl rfl (take_ofW HT_.out HW_.out (by kernel_rfl)) (fun _ _ _ h => h) (Or.inl ⟨by rfl, ?_⟩) hHeld ?_ ?_
      rotate_left
      ·rintro w' ⟨s0, s1, s2, s3, s4, s5, s6, s7, s8, s9, s10, s11, s12, s13⟩
       go_simp
       with_reducible rfl
      rotate_left
      ·simp only [Act.put, sA_, sZ_, sS_, i64_w, i32_w]
       rfl
      refine take_ (i := 8) (N := some 120) (v := ?_) (a' := ?_) (bs 17 7679) rfl rfl (take_ofW HT_.out HW_.out (by kernel_rfl)) (fun _ _ _ h => h) (Or.inl ⟨by rfl, ?_⟩) hHeld ?_ ?_
      rotate_left
      ·rintro w' ⟨s0, s1, s2, s3, s4, s5, s6, s7, s8, s9, s10, s11, s12, s13⟩
       go_simp
       with_reducible rfl
      rotate_left
      ·simp only [Act.put, sA_, sZ_, sS_, i64_w, i32_w]
       rfl
      refine pu_ 9 121 HT_ (bs 17 8191) rfl rfl ?_
      refine take_ (i := 13) (N := some 125) (v := ?_) (a' := ?_) (bs 17 16383) rfl rfl (take_ofW HT_.out HW_.out (by kernel_rfl)) (fun _ _ _ h => h) (Or.inl ⟨by rfl, ?_⟩) hHeld ?_ ?_
      rotate_left
      ·rintro w' ⟨s0, s1, s2, s3, s4, s5, s6, s7, s8, s9, s10, s11, s12, s13⟩
       go_simp
       with_reducible rfl
      rotate_left
      ·simp only [Act.put, sA_, sZ_, sS_, i64_w, i32_w]
       rfl
      refine pu_ 14 126 HT_ (bs 17 32767) rfl rfl ?_
      refine pu_ 15 127 HT_ (bs 17 65535) rfl rfl ?_
      refine pu_ 16 111 HT_ (bs 17 131071) rfl rfl ?_
      refine done_ (done_of HT_.out (by kernel_rfl)) ?_
      try go_wp2
      replace HO_8 := Aside0.mk (Kd.R_drew HO_8.out); replace HO_11 := Aside0.mk (Kd.R_drew HO_11.out); replace BK283 := Aside0.mk (blk_drew BK283.out); replace HB := Aside0.mk (below_drew1 HB.out)
      have p299 : 0 ≤ (a1_1 : Int) := of_decide_eq_true (by first | (with_reducible assumption) | assumption)
      have q299 : a1_1 < (x11_3.length : Int) := of_decide_eq_true (by first | (with_reducible assumption) | assumption)
      obtain ⟨ad299, e299, hx299_0, hx299_1, hx299_2, hx299_3, hx299_4⟩ := at_T63 (Kd.R_reads' HO_11.out).2.2 a1_1 p299 q299
      obtain rfl : (⟨go50, 0, none⟩ : Addr) = ad299 := (by injection e299)
      (try simp only [add_plain] at hx299_0 hx299_1 hx299_2 hx299_3 hx299_4)
      replace p299 := eq_true p299; replace q299 := eq_true q299
      have p56 : 0 ≤ (a1_1 : Int) := of_decide_eq_true (by first | (with_reducible assumption) | assumption)
      have q56 : (a1_1 : Int) < ((x11_3.length : Int) : Int) := of_decide_eq_true (by first | (with_reducible assumption) | assumption)
      obtain ⟨ce56, hcl56, hM56, hcc56, hfr56⟩ := Kd.R_elem HO_11.out z63 (a1_1 : Int) p56 q56
      obtain rfl := k63_openM hM56
      have hx56_0 : World.cell? _ ⟨go50, (a1_1 : Int).toNat * 5, none⟩ = some (.int .i64 ((rd_T63 x11_3 a1_1).f0)) := hcc56 0 _ rfl
      have hx56_1 : World.cell? _ ⟨go50, (a1_1 : Int).toNat * 5 + 1, none⟩ = some (.int .i64 ((rd_T63 x11_3 a1_1).f1)) := hcc56 1 _ rfl
      have hx56_2 : World.cell? _ ⟨go50, (a1_1 : Int).toNat * 5 + 2, none⟩ = some (.int .i64 ((rd_T63 x11_3 a1_1).f2)) := hcc56 2 _ rfl
      have hx56_3 : World.cell? _ ⟨go50, (a1_1 : Int).toNat * 5 + 3, none⟩ = some (.int .i64 ((rd_T63 x11_3 a1_1).f3)) := hcc56 3 _ rfl
      have hx56_4 : World.cell? _ ⟨go50, (a1_1 : Int).toNat * 5 + 4, none⟩ = some (.int .i64 ((rd_T63 x11_3 a1_1).f4)) := hcc56 4 _ rfl
      have hf56_0 : World.frozen? _ ⟨go50, (a1_1 : Int).toNat * 5, none⟩ = false := hfr56 0
      have hf56_1 : World.frozen? _ ⟨go50, (a1_1 : Int).toNat * 5 + 1, none⟩ = false := hfr56 1
      have hf56_2 : World.frozen? _ ⟨go50, (a1_1 : Int).toNat * 5 + 2, none⟩ = false := hfr56 2
      have hf56_3 : World.frozen? _ ⟨go50, (a1_1 : Int).toNat * 5 + 3, none⟩ = false := hfr56 3
      have hf56_4 : World.frozen? _ ⟨go50, (a1_1 : Int).toNat * 5 + 4, none⟩ = false := hfr56 4
      (try clear hM56); clear hcl56 hcc56 hfr56
      replace p56 := eq_true p56; replace q56 := eq_true q56
      obtain ⟨ce63, hcl63, hM63, hcc63, hfr63⟩ := Kd.R_elem HO_11.out z63 (a1_1 : Int) (of_decide_eq_true (by first | (with_reducible assumption) | assumption)) (by have h_ : (a1_1 : Int) < ((x11_3.length : Int) : Int) := of_decide_eq_true (by first | (with_reducible assumption) | assumption); first | exact h_ | (have e_ := (Kd.R_reads' HO_11.out).1; omega) | simpa using h_)
      obtain rfl := k63_openM hM63
      have HP63 := (Kd.R_seg HO_11.out (a1_1 : Int) (of_decide_eq_true (by first | (with_reducible assumption) | assumption)) (by have h_ : (a1_1 : Int) < ((x11_3.length : Int) : Int) := of_decide_eq_true (by first | (with_reducible assumption) | assumption); first | exact h_ | (have e_ := (Kd.R_reads' HO_11.out).1; omega) | simpa using h_) (seg := [.int .i64 (wrap64 (((rd_T63 x11_3 a1_1).f0) + a1_3))]) (j := 0) hcl63 hcc63 (show 1 ≤ 5 from by decide) (x' := (⟨wrap64 (((rd_T63 x11_3 a1_1).f0) + a1_3), (rd_T63 x11_3 a1_1).f1, (rd_T63 x11_3 a1_1).f2, (rd_T63 x11_3 a1_1).f3, (rd_T63 x11_3 a1_1).f4⟩ : S63)) (k63_mkM _ _ _ (⟨wrap64 (((rd_T63 x11_3 a1_1).f0) + a1_3), (rd_T63 x11_3 a1_1).f1, (rd_T63 x11_3 a1_1).f2, (rd_T63 x11_3 a1_1).f3, (rd_T63 x11_3 a1_1).f4⟩ : S63) ) (fun _ hk => hk)).1
      rw [← Ny300.out] at HP63
      have HQ63 := Aside0.mk HP63
      clear hcl63 hcc63 hfr63 hM63 HP63
      refine start_ (n := 10) (S := fun w' => w'.cell? ⟨gb283, 0, none⟩ = some (.int .i64 a1_0) ∧ w'.cell? ⟨gb283, 1, none⟩ = some (.int .i64 a1_1) ∧ w'.cell? ⟨gb283, 2, none⟩ = some (.int .i64 a1_2) ∧ w'.cell? ⟨gb283, 3, none⟩ = some (.int .i64 a1_3) ∧ w'.cell? ⟨go50, (a1_1).toNat * 5, none⟩ = some (.int .i64 ((rd_T63 x11_3 a1_1).f0)) ∧ w'.cell? ⟨go50, (a1_1).toNat * 5 + 1, none⟩ = some (.int .i64 ((rd_T63 x11_3 a1_1).f1)) ∧ w'.cell? ⟨go50, (a1_1).toNat * 5 + 2, none⟩ = some (.int .i64 ((rd_T63 x11_3 a1_1).f2)) ∧ w'.cell? ⟨go50, (a1_1).toNat * 5 + 3, none⟩ = some (.int .i64 ((rd_T63 x11_3 a1_1).f3)) ∧ w'.cell? ⟨go50, (a1_1).toNat * 5 + 4, none⟩ = some (.int .i64 ((rd_T63 x11_3 a1_1).f4))) (ds := [9]) (bs 10 0) (by kernel_rfl) rfl rfl ⟨bc_ BK283.out 0, bc_ BK283.out 1, bc_ BK283.out 2, bc_ BK283.out 3, hx299_0, hx299_1, hx299_2, hx299_3, hx299_4⟩ (fun hHeld => ?_); refine with_tabW impl_CargoStep.tab25 impl_CargoStep.bits25 (fun HT_ HW_ => ?_)
      generalize w61.drew = w62 at HO_8 HO_11 BK283 HB HQ63 hf56_0 hf56_1 hf56_2 hf56_3 hf56_4 hx299_0 hx299_1 hx299_2 hx299_3 hx299_4 hx56_0 hx56_1 hx56_2 hx56_3 hx56_4 hHeld ⊢
      refine pu_ 0 137 HT_ (bs 10 1) rfl rfl ?_
      refine pu_ 1 138 HT_ (bs 10 3) rfl rfl ?_
      refine pu_ 2 139 HT_ (bs 10 7) rfl rfl ?_
      refine pu_ 4 141 HT_ (bs 10 23) rfl rfl ?_
      refine take_ (i := 3) (N := some 140) (v := ?_) (a' := ?_) (bs 10 31) rfl rfl (take_ofW HT_.out HW_.out (by kernel_rfl)) (fun _ _ _ h => h) (Or.inl ⟨by rfl, ?_⟩) hHeld ?_ ?_
      rotate_left
      ·rintro w' ⟨s0, s1, s2, s3, s4, s5, s6, s7, s8⟩
       go_simp
       with_reducible rfl
      rotate_left
      ·simp only [Act.put, sA_, sZ_, sS_, i64_w, i32_w]
       rfl
      refine take_ (i := 5) (N := some 142) (v := ?_) (a' := ?_) (bs 10 63) rfl rfl (take_ofW HT_.out HW_.out (by kernel_rfl)) (fun _ _ _ h => h) (Or.inl ⟨by rfl, ?_⟩) hHeld ?_ ?_
      rotate_left
      ·rintro w' ⟨s0, s1, s2, s3, s4, s5, s6, s7, s8⟩
       go_simp
       with_reducible rfl
      rotate_left
      ·simp only [Act.put, sA_, sZ_, sS_, i64_w, i32_w]
       rfl
      refine pu_ 6 143 HT_ (bs 10 127) rfl rfl ?_
      refine pu_ 7 144 HT_ (bs 10 255) rfl rfl ?_
      refine pu_ 8 145 HT_ (bs 10 511) rfl rfl ?_
      refine last_ (i := 9) (N := none) (bs 10 1023) rfl rfl (one_of HT_.out (by kernel_rfl)) (by decide) (fun K hK => ?_)
      refine skip_ (w1 := ?_) (by rfl) rfl ?_ ?_
      rotate_left
      ·go_simp
       rfl
      refine hK.out _ _ ?_
      clear hK K
      refine done_ (done_of HT_.out (by kernel_rfl)) ?_
      go_upto_region 31 with (fail)
      go_cut [199] (fun v199 wc => ∃ (kq : Nat) (x199_57 : Bool), v199 = .bool x199_57 ∧ Aside0 (impl_CargoStep.j4 kq l0 a2 x8_3 y300 x199_57 = some (r1, r2)) ∧ Aside0 (kq ≤ kj3) ∧ Aside0 (Kd.R k63 63 wc w.heap.size (fun k_ => some k_ ≠ ((.slice (some ⟨go50, 0, none⟩) x11_3.length co50) : Value).ownBlock) u8 x8_3) ∧ Aside0 (Kd.R k63 63 wc w.heap.size (fun k_ => nB_ (u8) k_) (.slice (some ⟨go50, 0, none⟩) x11_3.length co50) y300) ∧ Aside0 (wc.heap[gb283]? = some (.cells #[.int .i64 a1_0, .int .i64 a1_1, .int .i64 a1_2, .int .i64 a1_3] 61 (0, 0))) ∧ Aside0 (Below w.heap.size w wc))
      case first =>
       have H := HC58.out
       clear HC58; replace H := Option.bind_eq_some_iff.mp H
       obtain ⟨t302, A650, H⟩ := H
       replace H : (if t302 = true then (impl_CargoStep.j4 kj3 l0 a2 x8_3 y300 true) else (if a1_0 = 3 then (none) else (impl_CargoStep.j4 kj3 l0 a2 x8_3 y300 false))) = some (r1, r2) := H
       have A65 := Aside0.mk A650
       clear A650
       by_cases c66 : t302 = true
       ·subst c66
        have H1 : (impl_CargoStep.j4 kj3 l0 a2 x8_3 y300 true) = some (r1, r2) := by rw [if_pos rfl] at H; exact H
        clear H
        have H := H1
        clear H1
        have H' := Aside0.mk H
        clear H
        have p64 : 0 ≤ (a1_1 : Int) := of_decide_eq_true (by first | (with_reducible assumption) | assumption)
        have q64 : (a1_1 : Int) < ((x11_3.length : Int) : Int) := of_decide_eq_true (by first | (with_reducible assumption) | assumption)
        replace p64 := eq_true p64; replace q64 := eq_true q64
        go_wp2_with (first | ((with_reducible refine gate_callee (f := 63) rfl ?_); refine goesL_ (some 188) rfl rfl Try.func63 (by kernel_rfl) rfl #[.agg #[.int .i64 (wrap64 (((rd_T63 x11_3 a1_1).f0) + a1_3)), .int .i64 ((rd_T63 x11_3 a1_1).f1), .int .i64 ((rd_T63 x11_3 a1_1).f2), .int .i64 ((rd_T63 x11_3 a1_1).f3), .int .i64 ((rd_T63 x11_3 a1_1).f4)]] rfl ml_ ?_; (with_reducible refine (impl_CargoTank_mayBurn.calls (wrap64 (((rd_T63 x11_3 a1_1).f0) + a1_3)) ((rd_T63 x11_3 a1_1).f1) ((rd_T63 x11_3 a1_1).f2) ((rd_T63 x11_3 a1_1).f3) ((rd_T63 x11_3 a1_1).f4) true _ A65.out).mono ?_); rintro e w67 ⟨rfl, hb⟩; refine ⟨_, rfl, ?_⟩; replace HO_8 := Aside0.mk (Kd.R_below (by (with_reducible repeat (first | apply Kd.R_alloc | apply Kd.R_drewN | apply Kd.R_drew)); exact (Kd.R_mono (Kd.R_far (p := ⟨go50, (a1_1 : Int).toNat * 5, none⟩) (Kd.R_mono HO_8.out (fun k_ hk => (⟨hk, fun e_ => hk (by rw [e_]; rfl)⟩ : _ ∧ k_ ≠ go50))) (fun _ hk => hk.2) (.int .i64 (wrap64 (((rd_T63 x11_3 a1_1).f0) + a1_3)))) (fun _ h_ => h_.1))) hb); replace BK283 := Aside0.mk (blk_below (g := gb283) (o := .cells #[.int .i64 a1_0, .int .i64 a1_1, .int .i64 a1_2, .int .i64 a1_3] 61 (0, 0)) (by refine rp_ ?_; refine blk_far ?_ (by have h_ := Kd.R_ne HO_11.out BK283.out (by decide); intro e_; exact h_ (by rw [e_]; rfl)) _; refine rp_ ?_; exact BK283.out) hb); replace HO_11 := Aside0.mk (Kd.R_below (fr_ HQ63.out) hb); replace HB := Aside0.mk (below_step (by repeat (first | (with_reducible first | exact HB.out | apply below_alloc | apply pw_below_drewN | apply below_drew1 | refine below_set ?_ GB50.out | refine below_set ?_ GE283.out) | exact HB.out)) hb); (try clear hb); (try clear hb2); (try clear hk); (try clear hi)))
        go_meet
        case rel => exact ⟨_, (true), rl_, H', ⟨by have := HJ3.out; first | omega | exact Nat.le_refl _⟩, ⟨fr_ HO_8.out⟩, ⟨fr_ HO_11.out⟩, ⟨fb_ BK283.out⟩, ⟨bel_ HB.out⟩⟩
       case neg =>
       replace c66 := Bool.eq_false_iff.mpr c66
       subst c66
       have H1 : (if a1_0 = 3 then (none) else (impl_CargoStep.j4 kj3 l0 a2 x8_3 y300 false)) = some (r1, r2) := by rw [if_neg (show ¬ (false = true) by decide)] at H; exact H
       clear H
       have H := H1
       clear H1
       by_cases c68 : a1_0 = 3
       ·rw [if_pos c68] at H
        exact absurd H (by simp)
       case neg =>
       rw [if_neg c68] at H
       have c68b0 : (a1_0 == 3) = false := beq_eq_false_iff_ne.mpr c68
       have c68b1 : (a1_0 != 3) = true := bne_iff_ne.mpr c68
       (first | rw [c68b0] | (simp only [i64_w, i32_w]; rw [c68b0]) | skip)
       have H' := Aside0.mk H
       clear H
       have p64 : 0 ≤ (a1_1 : Int) := of_decide_eq_true (by first | (with_reducible assumption) | assumption)
       have q64 : (a1_1 : Int) < ((x11_3.length : Int) : Int) := of_decide_eq_true (by first | (with_reducible assumption) | assumption)
       replace p64 := eq_true p64; replace q64 := eq_true q64
       go_wp2_with (first | ((with_reducible refine gate_callee (f := 63) rfl ?_); refine goesL_ (some 188) rfl rfl Try.func63 (by kernel_rfl) rfl #[.agg #[.int .i64 (wrap64 (((rd_T63 x11_3 a1_1).f0) + a1_3)), .int .i64 ((rd_T63 x11_3 a1_1).f1), .int .i64 ((rd_T63 x11_3 a1_1).f2), .int .i64 ((rd_T63 x11_3 a1_1).f3), .int .i64 ((rd_T63 x11_3 a1_1).f4)]] rfl ml_ ?_; (with_reducible refine (impl_CargoTank_mayBurn.calls (wrap64 (((rd_T63 x11_3 a1_1).f0) + a1_3)) ((rd_T63 x11_3 a1_1).f1) ((rd_T63 x11_3 a1_1).f2) ((rd_T63 x11_3 a1_1).f3) ((rd_T63 x11_3 a1_1).f4) false _ A65.out).mono ?_); rintro e w69 ⟨rfl, hb⟩; refine ⟨_, rfl, ?_⟩; replace HO_8 := Aside0.mk (Kd.R_below (by (with_reducible repeat (first | apply Kd.R_alloc | apply Kd.R_drewN | apply Kd.R_drew)); exact (Kd.R_mono (Kd.R_far (p := ⟨go50, (a1_1 : Int).toNat * 5, none⟩) (Kd.R_mono HO_8.out (fun k_ hk => (⟨hk, fun e_ => hk (by rw [e_]; rfl)⟩ : _ ∧ k_ ≠ go50))) (fun _ hk => hk.2) (.int .i64 (wrap64 (((rd_T63 x11_3 a1_1).f0) + a1_3)))) (fun _ h_ => h_.1))) hb); replace BK283 := Aside0.mk (blk_below (g := gb283) (o := .cells #[.int .i64 a1_0, .int .i64 a1_1, .int .i64 a1_2, .int .i64 a1_3] 61 (0, 0)) (by refine rp_ ?_; refine blk_far ?_ (by have h_ := Kd.R_ne HO_11.out BK283.out (by decide); intro e_; exact h_ (by rw [e_]; rfl)) _; refine rp_ ?_; exact BK283.out) hb); replace HO_11 := Aside0.mk (Kd.R_below (fr_ HQ63.out) hb); replace HB := Aside0.mk (below_step (by repeat (first | (with_reducible first | exact HB.out | apply below_alloc | apply pw_below_drewN | apply below_drew1 | refine below_set ?_ GB50.out | refine below_set ?_ GE283.out) | exact HB.out)) hb); (try clear hb); (try clear hb2); (try clear hk); (try clear hi); have hcz70_0 : w69.cell? ⟨gb283, 0, none⟩ = some (.int .i64 a1_0) := bc_ BK283.out 0; have hcz70_1 : w69.cell? ⟨gb283, 1, none⟩ = some (.int .i64 a1_1) := bc_ BK283.out 1; have hcz70_2 : w69.cell? ⟨gb283, 2, none⟩ = some (.int .i64 a1_2) := bc_ BK283.out 2; have hcz70_3 : w69.cell? ⟨gb283, 3, none⟩ = some (.int .i64 a1_3) := bc_ BK283.out 3; have hfz70_0 := blk_frozen BK283.out 0; have hfz70_1 := blk_frozen BK283.out 1; have hfz70_2 := blk_frozen BK283.out 2; have hfz70_3 := blk_frozen BK283.out 3))
       go_meet
       case rel => exact ⟨_, (false), rl_, H', ⟨by have := HJ3.out; first | omega | exact Nat.le_refl _⟩, ⟨fr_ HO_8.out⟩, ⟨fr_ HO_11.out⟩, ⟨fb_ BK283.out⟩, ⟨bel_ HB.out⟩⟩
      case rest =>
      clear HC58
      try clear p50
      try clear q50
      try clear c52
      try clear c52b0
      try clear p56
      try clear q56
      try clear c57
      try clear c57b0
      try clear c57b1
      try clear hcz59_0
      try clear hcz59_1
      try clear hcz59_2
      try clear hcz59_3
      try clear hfz59_0
      try clear hfz59_1
      try clear hfz59_2
      try clear hfz59_3
      try clear hx297_0
      try clear hx297_1
      try clear hx297_2
      try clear hx297_3
      try clear hx297_4
      try clear hx298_0
      try clear hx298_1
      try clear hx298_2
      try clear hx298_3
      try clear hx298_4
      try clear hx299_0
      try clear hx299_1
      try clear hx299_2
      try clear hx299_3
      try clear hx299_4
      try clear hx56_0
      try clear hx56_1
      try clear hx56_2
      try clear hx56_3
      try clear hx56_4
      try clear p297
      try clear p298
      try clear p299
      try clear p50
      try clear p56
      try clear q297
      try clear q298
      try clear q299
      try clear q50
      try clear q56
      obtain ⟨kq, x199_57, rfl, HA, HJ57, HO_8, HO_11, BK283, HB⟩ := hcut
      have hl11_57 := (Kd.R_reads' HO_11.out).1
      rw [hl11_57] at HO_11
      (try simp only [hl11_57])
      (try simp only [hl11_57] at BK283)
      (try simp only [hl11_57] at HO_8)
      cases kq with
      | zero => exact absurd HA.out (by simp [impl_CargoStep.j4])
      | succ kj57 =>
       have H := HA.out
       clear HA
       simp only [impl_CargoStep.j4] at H
       by_cases c71 : x199_57 = true
       ·subst c71
        have H1 : (some (x8_3, 4)) = some (r1, r2) := by rw [if_pos rfl] at H; exact H
        clear H
        have H := H1
        clear H1
        simp only [Option.some.injEq, Prod.mk.injEq] at H
        obtain ⟨rfl, rfl⟩ := H
        go_wp2
        go_ret2
        exact ⟨_, by first | rfl | (simp [errW_none, errW_some] <;> rfl) | (simp [*, errW_none, errW_some] <;> rfl), by (with_reducible repeat (first | apply Kd.R_alloc | apply Kd.R_drewN | apply Kd.R_drew)); exact Kd.R_mono HO_8.out (fun _ hk => trivial), bel_ HB.out⟩
       case neg =>
       replace c71 := Bool.eq_false_iff.mpr c71
       subst c71
       have H1 : (impl_CargoStep.j9 kj57 l0 a2 x8_3 y300) = some (r1, r2) := by rw [if_neg (show ¬ (false = true) by decide)] at H; exact H
       clear H
       have H := H1
       clear H1
       have H' := Aside0.mk H
       clear H
       go_wp2
       (try simp only [← hl11_57])
       refine hD_ _ _ ?_
       refine Met.intro (hJ_ _ _ (chap_in (by kernel_rfl) ?rel))
       case rel => (try simp only [List.getD_cons_zero, List.getD_cons_succ]); exact ⟨_, (x8_3), (y300), H', ⟨by have := HJ3.out; have := HJ57.out; first | omega | exact Nat.le_refl _⟩, ⟨by (try simp only [hl11_57]); (with_reducible repeat (first | apply Kd.R_alloc | apply Kd.R_drewN | apply Kd.R_drew)); exact HO_8.out⟩, ⟨by (try simp only [hl11_57]); (with_reducible repeat (first | apply Kd.R_alloc | apply Kd.R_drewN | apply Kd.R_drew)); exact HO_11.out⟩, ⟨by (try simp only [hl11_57]); refine rp_ ?_; exact BK283.out⟩, ⟨bel_ HB.out⟩⟩
     case neg =>
     rw [if_neg c51] at H
     have c51b0 : (a1_0 == 1) = false := beq_eq_false_iff_ne.mpr c51
     have c51b1 : (a1_0 != 1) = true := bne_iff_ne.mpr c51
     by_cases c72 : a1_0 = 2
     ·as_aux_lemma =>
      rw [if_pos c72] at H
      have c72b0 : (a1_0 == 2) = true := beq_iff_eq.mpr c72
      have c72b1 : (a1_0 != 2) = false := bne_eq_false_iff_eq.mpr c72
      clear c72
      by_cases c73 : ((rd_T63 x11_3 a1_1).f0) < a1_3
      ·rw [if_pos c73] at H
       have c73b0 : decide (((rd_T63 x11_3 a1_1).f0) < a1_3) = true := decide_eq_true c73
       clear c73
       simp only [Option.some.injEq, Prod.mk.injEq] at H
       obtain ⟨rfl, rfl⟩ := H
       have hcz74_0 : wc.cell? ⟨gb283, 0, none⟩ = some (.int .i64 a1_0) := bc_ BK283.out 0; have hcz74_1 : wc.cell? ⟨gb283, 1, none⟩ = some (.int .i64 a1_1) := bc_ BK283.out 1; have hcz74_2 : wc.cell? ⟨gb283, 2, none⟩ = some (.int .i64 a1_2) := bc_ BK283.out 2; have hcz74_3 : wc.cell? ⟨gb283, 3, none⟩ = some (.int .i64 a1_3) := bc_ BK283.out 3; have hfz74_0 := blk_frozen BK283.out 0; have hfz74_1 := blk_frozen BK283.out 1; have hfz74_2 := blk_frozen BK283.out 2; have hfz74_3 := blk_frozen BK283.out 3
       have p50 : 0 ≤ (a1_1 : Int) := of_decide_eq_true (by first | (with_reducible assumption) | assumption)
       have q50 : (a1_1 : Int) < ((x11_3.length : Int) : Int) := of_decide_eq_true (by first | (with_reducible assumption) | assumption)
       obtain ⟨go50, co50, eo50, gb50, gl50, cl50, HG50⟩ := Kd.R_form HO_11.out (by omega)
       (first | cases eo50 | (injection eo50 with ea_ en_ ec_; (first | subst ea_ | (injection ea_ with ea_; subst ea_)); subst ec_; clear en_))
       have GB50 := Aside0.mk gb50
       have GG50 := Aside0.mk HG50
       clear gb50 gl50 HG50; replace p50 := eq_true p50; replace q50 := eq_true q50
       try go_wp2
       replace HO_8 := Aside0.mk (Kd.R_drew HO_8.out); replace HO_11 := Aside0.mk (Kd.R_drew HO_11.out); replace BK283 := Aside0.mk (blk_drew BK283.out); replace HB := Aside0.mk (below_drew1 HB.out)
       have p303 : 0 ≤ (a1_1 : Int) := of_decide_eq_true (by first | (with_reducible assumption) | assumption)
       have q303 : a1_1 < (x11_3.length : Int) := of_decide_eq_true (by first | (with_reducible assumption) | assumption)
       obtain ⟨ad303, e303, hx303_0, hx303_1, hx303_2, hx303_3, hx303_4⟩ := at_T63 (Kd.R_reads' HO_11.out).2.2 a1_1 p303 q303
       obtain rfl : (⟨go50, 0, none⟩ : Addr) = ad303 := (by injection e303)
       (try simp only [add_plain] at hx303_0 hx303_1 hx303_2 hx303_3 hx303_4)
       replace p303 := eq_true p303; replace q303 := eq_true q303
       refine start_ (n := 12) (S := fun w' => w'.cell? ⟨gb283, 0, none⟩ = some (.int .i64 a1_0) ∧ w'.cell? ⟨gb283, 1, none⟩ = some (.int .i64 a1_1) ∧ w'.cell? ⟨gb283, 2, none⟩ = some (.int .i64 a1_2) ∧ w'.cell? ⟨gb283, 3, none⟩ = some (.int .i64 a1_3) ∧ w'.cell? ⟨go50, (a1_1).toNat * 5, none⟩ = some (.int .i64 ((rd_T63 x11_3 a1_1).f0)) ∧ w'.cell? ⟨go50, (a1_1).toNat * 5 + 1, none⟩ = some (.int .i64 ((rd_T63 x11_3 a1_1).f1)) ∧ w'.cell? ⟨go50, (a1_1).toNat * 5 + 2, none⟩ = some (.int .i64 ((rd_T63 x11_3 a1_1).f2)) ∧ w'.cell? ⟨go50, (a1_1).toNat * 5 + 3, none⟩ = some (.int .i64 ((rd_T63 x11_3 a1_1).f3)) ∧ w'.cell? ⟨go50, (a1_1).toNat * 5 + 4, none⟩ = some (.int .i64 ((rd_T63 x11_3 a1_1).f4))) (ds := []) (bs 12 0) (by kernel_rfl) rfl rfl ⟨bc_ BK283.out 0, bc_ BK283.out 1, bc_ BK283.out 2, bc_ BK283.out 3, hx303_0, hx303_1, hx303_2, hx303_3, hx303_4⟩ (fun hHeld => ?_); refine with_tabW impl_CargoStep.tab18 impl_CargoStep.bits18 (fun HT_ HW_ => ?_)
       generalize wc.drew = w75 at HO_8 HO_11 BK283 HB hx303_0 hx303_1 hx303_2 hx303_3 hx303_4 hHeld ⊢
       refine pu_ 0 99 HT_ (bs 12 1) rfl rfl ?_
       refine pu_ 1 100 HT_ (bs 12 3) rfl rfl ?_
       refine pu_ 2 101 HT_ (bs 12 7) rfl rfl ?_
       refine pu_ 3 102 HT_ (bs 12 15) rfl rfl ?_
       refine pu_ 4 103 HT_ (bs 12 31) rfl rfl ?_
       refine pu_ 5 104 HT_ (bs 12 63) rfl rfl ?_
       refine pu_ 7 106 HT_ (bs 12 191) rfl rfl ?_
       refine take_ (i := 6) (N := some 105) (v := ?_) (a' := ?_) (bs 12 255) rfl rfl (take_ofW HT_.out HW_.out (by kernel_rfl)) (fun _ _ _ h => h) (Or.inl ⟨by rfl, ?_⟩) hHeld ?_ ?_
       rotate_left
       ·rintro w' ⟨s0, s1, s2, s3, s4, s5, s6, s7, s8⟩
        go_simp
        with_reducible rfl
       rotate_left
       ·simp only [Act.put, sA_, sZ_, sS_, i64_w, i32_w]
        rfl
       refine take_ (i := 8) (N := some 107) (v := ?_) (a' := ?_) (bs 12 511) rfl rfl (take_ofW HT_.out HW_.out (by kernel_rfl)) (fun _ _ _ h => h) (Or.inl ⟨by rfl, ?_⟩) hHeld ?_ ?_
       rotate_left
       ·rintro w' ⟨s0, s1, s2, s3, s4, s5, s6, s7, s8⟩
        go_simp
        with_reducible rfl
       rotate_left
       ·simp only [Act.put, sA_, sZ_, sS_, i64_w, i32_w]
        rfl
       refine pu_ 9 108 HT_ (bs 12 1023) rfl rfl ?_
       refine pu_ 10 109 HT_ (bs 12 2047) rfl rfl ?_
       refine pu_ 11 98 HT_ (bs 12 4095) rfl rfl ?_
       refine done_ (done_of HT_.out (by kernel_rfl)) ?_
       try go_wp2
       go_ret2
       exact ⟨_, by first | rfl | (simp [errW_none, errW_some] <;> rfl) | (simp [*, errW_none, errW_some] <;> rfl), by (with_reducible repeat (first | apply Kd.R_alloc | apply Kd.R_drewN | apply Kd.R_drew)); exact Kd.R_mono HO_8.out (fun _ hk => trivial), bel_ HB.out⟩
      case neg =>
      rw [if_neg c73] at H
      have c73b0 : decide (((rd_T63 x11_3 a1_1).f0) < a1_3) = false := decide_eq_false c73
      clear c73
      by_cases c76 : (wrap64 (((rd_T63 x11_3 a1_1).f1) - (wrap64 (((rd_T63 x11_3 a1_1).f0) - a1_3)))) = 0
      ·rw [if_pos c76] at H
       exact absurd H (by simp)
      case neg =>
      rw [if_neg c76] at H
      have c76b0 : ((wrap64 (((rd_T63 x11_3 a1_1).f1) - (wrap64 (((rd_T63 x11_3 a1_1).f0) - a1_3)))) == 0) = false := beq_eq_false_iff_ne.mpr c76
      have c76b1 : ((wrap64 (((rd_T63 x11_3 a1_1).f1) - (wrap64 (((rd_T63 x11_3 a1_1).f0) - a1_3)))) != 0) = true := bne_iff_ne.mpr c76
      obtain ⟨y304, hy304⟩ : ∃ y_ : List (S63), y_ = (x11_3.set (a1_1 : Int).toNat (⟨wrap64 (((rd_T63 x11_3 a1_1).f0) - a1_3), (rd_T63 x11_3 a1_1).f1, (rd_T63 x11_3 a1_1).f2, wrap64 (Int.tdiv (wrap64 (((rd_T63 x11_3 a1_1).f3) * (wrap64 ((wrap64 (((rd_T63 x11_3 a1_1).f1) - (wrap64 (((rd_T63 x11_3 a1_1).f0) - a1_3)))) - a1_3)))) (wrap64 (((rd_T63 x11_3 a1_1).f1) - (wrap64 (((rd_T63 x11_3 a1_1).f0) - a1_3))))), wrap64 (Int.tdiv (wrap64 (((rd_T63 x11_3 a1_1).f4) * (wrap64 ((wrap64 (((rd_T63 x11_3 a1_1).f1) - (wrap64 (((rd_T63 x11_3 a1_1).f0) - a1_3)))) - a1_3)))) (wrap64 (((rd_T63 x11_3 a1_1).f1) - (wrap64 (((rd_T63 x11_3 a1_1).f0) - a1_3)))))⟩ : S63)) := ⟨_, rfl⟩
      replace H : (if x10_3 = 100 then (none) else ((impl_CargoTank_mayBurn.f ((rd_T63 y304 a1_1).f0) ((rd_T63 y304 a1_1).f1) ((rd_T63 y304 a1_1).f2) ((rd_T63 y304 a1_1).f3) ((rd_T63 y304 a1_1).f4)).bind fun t306 => (if t306 = true then (impl_CargoStep.j5 kj3 l0 a2 x8_3 y304 true) else (if a1_0 = 3 then (none) else (impl_CargoStep.j5 kj3 l0 a2 x8_3 y304 false))))) = some (r1, r2) := by first | (rw [hy304]; with_reducible exact H) | (have H2_ := (Option.bind_some _ _).symm.trans H; rw [hy304]; with_reducible exact H2_) | (have H2_ := (Option.bind_some _ _).symm.trans H; with_reducible exact H2_) | with_reducible exact H | (rw [hy304]; exact H) | exact H
      have Ny304 := Aside0.mk hy304
      clear hy304
      by_cases c77 : x10_3 = 100
      ·rw [if_pos c77] at H
       exact absurd H (by simp)
      case neg =>
      rw [if_neg c77] at H
      have c77b0 : (x10_3 == 100) = false := beq_eq_false_iff_ne.mpr c77
      have c77b1 : (x10_3 != 100) = true := bne_iff_ne.mpr c77
      have HC78 := Aside0.mk H
      clear H; have hcz79_0 : wc.cell? ⟨gb283, 0, none⟩ = some (.int .i64 a1_0) := bc_ BK283.out 0; have hcz79_1 : wc.cell? ⟨gb283, 1, none⟩ = some (.int .i64 a1_1) := bc_ BK283.out 1; have hcz79_2 : wc.cell? ⟨gb283, 2, none⟩ = some (.int .i64 a1_2) := bc_ BK283.out 2; have hcz79_3 : wc.cell? ⟨gb283, 3, none⟩ = some (.int .i64 a1_3) := bc_ BK283.out 3; have hfz79_0 := blk_frozen BK283.out 0; have hfz79_1 := blk_frozen BK283.out 1; have hfz79_2 := blk_frozen BK283.out 2; have hfz79_3 := blk_frozen BK283.out 3
      have p50 : 0 ≤ (a1_1 : Int) := of_decide_eq_true (by first | (with_reducible assumption) | assumption)
      have q50 : (a1_1 : Int) < ((x11_3.length : Int) : Int) := of_decide_eq_true (by first | (with_reducible assumption) | assumption)
      obtain ⟨go50, co50, eo50, gb50, gl50, cl50, HG50⟩ := Kd.R_form HO_11.out (by omega)
      (first | cases eo50 | (injection eo50 with ea_ en_ ec_; (first | subst ea_ | (injection ea_ with ea_; subst ea_)); subst ec_; clear en_))
      have GB50 := Aside0.mk gb50
      have GG50 := Aside0.mk HG50
      clear gb50 gl50 HG50; replace p50 := eq_true p50; replace q50 := eq_true q50
      try go_wp2
      replace HO_8 := Aside0.mk (Kd.R_drew HO_8.out); replace HO_11 := Aside0.mk (Kd.R_drew HO_11.out); replace BK283 := Aside0.mk (blk_drew BK283.out); replace HB := Aside0.mk (below_drew1 HB.out)
      have p303 : 0 ≤ (a1_1 : Int) := of_decide_eq_true (by first | (with_reducible assumption) | assumption)
      have q303 : a1_1 < (x11_3.length : Int) := of_decide_eq_true (by first | (with_reducible assumption) | assumption)
      obtain ⟨ad303, e303, hx303_0, hx303_1, hx303_2, hx303_3, hx303_4⟩ := at_T63 (Kd.R_reads' HO_11.out).2.2 a1_1 p303 q303
      obtain rfl : (⟨go50, 0, none⟩ : Addr) = ad303 := (by injection e303)
      (try simp only [add_plain] at hx303_0 hx303_1 hx303_2 hx303_3 hx303_4)
      replace p303 := eq_true p303; replace q303 := eq_true q303
      refine start_ (n := 12) (S := fun w' => w'.cell? ⟨gb283, 0, none⟩ = some (.int .i64 a1_0) ∧ w'.cell? ⟨gb283, 1, none⟩ = some (.int .i64 a1_1) ∧ w'.cell? ⟨gb283, 2, none⟩ = some (.int .i64 a1_2) ∧ w'.cell? ⟨gb283, 3, none⟩ = some (.int .i64 a1_3) ∧ w'.cell? ⟨go50, (a1_1).toNat * 5, none⟩ = some (.int .i64 ((rd_T63 x11_3 a1_1).f0)) ∧ w'.cell? ⟨go50, (a1_1).toNat * 5 + 1, none⟩ = some (.int .i64 ((rd_T63 x11_3 a1_1).f1)) ∧ w'.cell? ⟨go50, (a1_1).toNat * 5 + 2, none⟩ = some (.int .i64 ((rd_T63 x11_3 a1_1).f2)) ∧ w'.cell? ⟨go50, (a1_1).toNat * 5 + 3, none⟩ = some (.int .i64 ((rd_T63 x11_3 a1_1).f3)) ∧ w'.cell? ⟨go50, (a1_1).toNat * 5 + 4, none⟩ = some (.int .i64 ((rd_T63 x11_3 a1_1).f4))) (ds := []) (bs 12 0) (by kernel_rfl) rfl rfl ⟨bc_ BK283.out 0, bc_ BK283.out 1, bc_ BK283.out 2, bc_ BK283.out 3, hx303_0, hx303_1, hx303_2, hx303_3, hx303_4⟩ (fun hHeld => ?_); refine with_tabW impl_CargoStep.tab18 impl_CargoStep.bits18 (fun HT_ HW_ => ?_)
      generalize wc.drew = w80 at HO_8 HO_11 BK283 HB hx303_0 hx303_1 hx303_2 hx303_3 hx303_4 hHeld ⊢
      refine pu_ 0 99 HT_ (bs 12 1) rfl rfl ?_
      refine pu_ 1 100 HT_ (bs 12 3) rfl rfl ?_
      refine pu_ 2 101 HT_ (bs 12 7) rfl rfl ?_
      refine pu_ 3 102 HT_ (bs 12 15) rfl rfl ?_
      refine pu_ 4 103 HT_ (bs 12 31) rfl rfl ?_
      refine pu_ 5 104 HT_ (bs 12 63) rfl rfl ?_
      refine pu_ 7 106 HT_ (bs 12 191) rfl rfl ?_
      refine take_ (i := 6) (N := some 105) (v := ?_) (a' := ?_) (bs 12 255) rfl rfl (take_ofW HT_.out HW_.out (by kernel_rfl)) (fun _ _ _ h => h) (Or.inl ⟨by rfl, ?_⟩) hHeld ?_ ?_
      rotate_left
      ·rintro w' ⟨s0, s1, s2, s3, s4, s5, s6, s7, s8⟩
       go_simp
       with_reducible rfl
      rotate_left
      ·simp only [Act.put, sA_, sZ_, sS_, i64_w, i32_w]
       rfl
      refine take_ (i := 8) (N := some 107) (v := ?_) (a' := ?_) (bs 12 511) rfl rfl (take_ofW HT_.out HW_.out (by kernel_rfl)) (fun _ _ _ h => h) (Or.inl ⟨by rfl, ?_⟩) hHeld ?_ ?_
      rotate_left
      ·rintro w' ⟨s0, s1, s2, s3, s4, s5, s6, s7, s8⟩
       go_simp
       with_reducible rfl
      rotate_left
      ·simp only [Act.put, sA_, sZ_, sS_, i64_w, i32_w]
       rfl
      refine pu_ 9 108 HT_ (bs 12 1023) rfl rfl ?_
      refine pu_ 10 109 HT_ (bs 12 2047) rfl rfl ?_
      refine pu_ 11 98 HT_ (bs 12 4095) rfl rfl ?_
      refine done_ (done_of HT_.out (by kernel_rfl)) ?_
      try go_wp2
      replace HO_8 := Aside0.mk (Kd.R_drew HO_8.out); replace HO_11 := Aside0.mk (Kd.R_drew HO_11.out); replace BK283 := Aside0.mk (blk_drew BK283.out); replace HB := Aside0.mk (below_drew1 HB.out)
      refine start_ (n := 17) (S := fun w' => True) (ds := []) (bs 17 0) (by kernel_rfl) rfl rfl trivial (fun hHeld => ?_); refine with_tabW impl_CargoStep.tab20 impl_CargoStep.bits20 (fun HT_ HW_ => ?_)
      generalize w80.drew = w81 at HO_8 HO_11 BK283 HB hHeld ⊢
      refine pu_ 0 112 HT_ (bs 17 1) rfl rfl ?_
      refine pu_ 1 113 HT_ (bs 17 3) rfl rfl ?_
      refine pu_ 2 114 HT_ (bs 17 7) rfl rfl ?_
      refine pn_ 3 115 HT_ (bs 17 15) rfl rfl ?_
      refine pn_ 4 116 HT_ (bs 17 31) rfl rfl ?_
      refine pn_ 5 117 HT_ (bs 17 63) rfl rfl ?_
      refine pn_ 6 118 HT_ (bs 17 127) rfl rfl ?_
      refine pn_ 7 119 HT_ (bs 17 255) rfl rfl ?_
      refine pn_ 8 120 HT_ (bs 17 511) rfl rfl ?_
      refine pn_ 9 121 HT_ (bs 17 1023) rfl rfl ?_
      refine pn_ 10 122 HT_ (bs 17 2047) rfl rfl ?_
      refine pn_ 11 123 HT_ (bs 17 4095) rfl rfl ?_
      refine pn_ 12 124 HT_ (bs 17 8191) rfl rfl ?_
      refine pn_ 13 125 HT_ (bs 17 16383) rfl rfl ?_
      refine pn_ 14 126 HT_ (bs 17 32767) rfl rfl ?_
      refine pu_ 15 127 HT_ (bs 17 65535) rfl rfl ?_
      refine pu_ 16 111 HT_ (bs 17 131071) rfl rfl ?_
      refine done_ (done_of HT_.out (by kernel_rfl)) ?_
      have hcz82_0 : w81.cell? ⟨gb283, 0, none⟩ = some (.int .i64 a1_0) := bc_ BK283.out 0; have hcz82_1 : w81.cell? ⟨gb283, 1, none⟩ = some (.int .i64 a1_1) := bc_ BK283.out 1; have hcz82_2 : w81.cell? ⟨gb283, 2, none⟩ = some (.int .i64 a1_2) := bc_ BK283.out 2; have hcz82_3 : w81.cell? ⟨gb283, 3, none⟩ = some (.int .i64 a1_3) := bc_ BK283.out 3; have hfz82_0 := blk_frozen BK283.out 0; have hfz82_1 := blk_frozen BK283.out 1; have hfz82_2 := blk_frozen BK283.out 2; have hfz82_3 := blk_frozen BK283.out 3
      have HX83 := Aside0.mk (show Kd.R k63 63 w81 w.heap.size (fun k_ => nB_ (u8) k_) (.slice (some ⟨go50, 0, none⟩) x11_3.length co50) x11_3 from (fr_ HO_11.out))
      go_upto_region 31 with (first | ((with_reducible refine gate_callee (f := 62) rfl ?_); refine goesL_ (some 134) rfl rfl Try.func62 (by kernel_rfl) rfl #[.pointer (some ⟨go50, (a1_1 : Int).toNat * 5, none⟩), .int .i64 a1_3] rfl ml_ ?_; (with_reducible refine (impl_CargoTank_out.elem (a1 := a1_3) HX83.out (of_decide_eq_true (by first | (with_reducible assumption) | assumption)) (by have h_ : (a1_1 : Int) < ((x11_3.length : Int) : Int) := of_decide_eq_true (by first | (with_reducible assumption) | assumption); first | exact h_ | (have e_ := (Kd.R_reads' HO_11.out).1; omega) | simpa using h_) (by first | (with_reducible assumption) | assumption)).mono ?_); rintro e w84 ⟨rfl, hg, hp0_⟩; refine ⟨_, rfl, ?_⟩; have hp_ : Kd.R k63 63 w84 w.heap.size (fun k_ => nB_ (u8) k_) (.slice (some ⟨go50, 0, none⟩) x11_3.length co50) y304 := (by rw [Ny304.out]; exact hp0_); clear hp0_; replace HO_8 := Aside0.mk (Kd.R_after (v := (.slice (some ⟨go50, 0, none⟩) x11_3.length co50)) (v1 := (.slice (some ⟨go50, 0, none⟩) x11_3.length co50)) (ok := (fun _ => True)) (by (with_reducible repeat (first | apply Kd.R_alloc | apply Kd.R_drewN | apply Kd.R_drew)); exact Kd.R_mono HO_8.out (fun _ hk => ⟨trivial, hk⟩)) hg (.inl rfl)); replace BK283 := Aside0.mk (blk_grown (g := gb283) (o := .cells #[.int .i64 a1_0, .int .i64 a1_1, .int .i64 a1_2, .int .i64 a1_3] 61 (0, 0)) (fb_ BK283.out) hg (Kd.R_ne HO_11.out BK283.out (by decide))); replace HO_11 := Aside0.mk (hp_); replace HB := Aside0.mk ((Below.grown (bel_ HB.out) hg (below_size (bel_ HB.out)) (fun j_ hj_ => by cases hj_; exact GB50.out) : Below w.heap.size w w84)); clear hg hp_))
      (try simp only [Act.put, sA_, sZ_, sS_])
      go_cut [199] (fun v199 wc => ∃ (kq : Nat) (x199_77 : Bool), v199 = .bool x199_77 ∧ Aside0 (impl_CargoStep.j5 kq l0 a2 x8_3 y304 x199_77 = some (r1, r2)) ∧ Aside0 (kq ≤ kj3) ∧ Aside0 (Kd.R k63 63 wc w.heap.size (fun k_ => some k_ ≠ ((.slice (some ⟨go50, 0, none⟩) x11_3.length co50) : Value).ownBlock) u8 x8_3) ∧ Aside0 (Kd.R k63 63 wc w.heap.size (fun k_ => nB_ (u8) k_) (.slice (some ⟨go50, 0, none⟩) x11_3.length co50) y304) ∧ Aside0 (wc.heap[gb283]? = some (.cells #[.int .i64 a1_0, .int .i64 a1_1, .int .i64 a1_2, .int .i64 a1_3] 61 (0, 0))) ∧ Aside0 (Below w.heap.size w wc))
      case first =>
       have H := HC78.out
       clear HC78; replace H := Option.bind_eq_some_iff.mp H
       obtain ⟨t306, A850, H⟩ := H
       replace H : (if t306 = true then (impl_CargoStep.j5 kj3 l0 a2 x8_3 y304 true) else (if a1_0 = 3 then (none) else (impl_CargoStep.j5 kj3 l0 a2 x8_3 y304 false))) = some (r1, r2) := H
       have A85 := Aside0.mk A850
       clear A850
       by_cases c86 : t306 = true
       ·subst c86
        have H1 : (impl_CargoStep.j5 kj3 l0 a2 x8_3 y304 true) = some (r1, r2) := by rw [if_pos rfl] at H; exact H
        clear H
        have H := H1
        clear H1
        have H' := Aside0.mk H
        clear H
        have p305 : 0 ≤ (a1_1 : Int) := of_decide_eq_true (by first | (with_reducible assumption) | assumption)
        have q305 : a1_1 < (y304.length : Int) := (by have h_ : (a1_1 : Int) < ((x11_3.length : Int) : Int) := of_decide_eq_true (by first | (with_reducible assumption) | assumption); first | (have e_ := (Kd.R_reads' HO_11.out).1; omega) | simpa only [Ny304.out, List.length_set] using h_)
        have ql305 : ((a1_1 : Int) < ((x11_3.length : Int) : Int)) = True := eq_true (of_decide_eq_true (by first | (with_reducible assumption) | assumption))
        obtain ⟨ad305, e305, hx305_0, hx305_1, hx305_2, hx305_3, hx305_4⟩ := at_T63 (Kd.R_reads' HO_11.out).2.2 a1_1 p305 q305
        obtain rfl : (⟨go50, 0, none⟩ : Addr) = ad305 := (by injection e305)
        (try simp only [add_plain] at hx305_0 hx305_1 hx305_2 hx305_3 hx305_4)
        replace p305 := eq_true p305; replace q305 := eq_true q305
        go_wp2_with (first | ((with_reducible refine gate_callee (f := 63) rfl ?_); refine goesL_ (some 188) rfl rfl Try.func63 (by kernel_rfl) rfl #[.agg #[.int .i64 ((rd_T63 y304 a1_1).f0), .int .i64 ((rd_T63 y304 a1_1).f1), .int .i64 ((rd_T63 y304 a1_1).f2), .int .i64 ((rd_T63 y304 a1_1).f3), .int .i64 ((rd_T63 y304 a1_1).f4)]] rfl ml_ ?_; (with_reducible refine (impl_CargoTank_mayBurn.calls ((rd_T63 y304 a1_1).f0) ((rd_T63 y304 a1_1).f1) ((rd_T63 y304 a1_1).f2) ((rd_T63 y304 a1_1).f3) ((rd_T63 y304 a1_1).f4) true _ A85.out).mono ?_); rintro e w87 ⟨rfl, hb⟩; refine ⟨_, rfl, ?_⟩; replace HO_8 := Aside0.mk (Kd.R_below (fr_ HO_8.out) hb); replace HO_11 := Aside0.mk (Kd.R_below (fr_ HO_11.out) hb); replace BK283 := Aside0.mk (bb_ BK283.out hb); replace HB := Aside0.mk (below_step (bel_ HB.out) hb); (try clear hb); (try clear hb2); (try clear hk); (try clear hi)))
        go_meet
        case rel => exact ⟨_, (true), rl_, H', ⟨by have := HJ3.out; first | omega | exact Nat.le_refl _⟩, ⟨rn_ HO_8.out (fun _ hk => hk.2)⟩, ⟨fr_ HO_11.out⟩, ⟨fb_ BK283.out⟩, ⟨bel_ HB.out⟩⟩
       case neg =>
       replace c86 := Bool.eq_false_iff.mpr c86
       subst c86
       have H1 : (if a1_0 = 3 then (none) else (impl_CargoStep.j5 kj3 l0 a2 x8_3 y304 false)) = some (r1, r2) := by rw [if_neg (show ¬ (false = true) by decide)] at H; exact H
       clear H
       have H := H1
       clear H1
       by_cases c88 : a1_0 = 3
       ·rw [if_pos c88] at H
        exact absurd H (by simp)
       case neg =>
       rw [if_neg c88] at H
       have c88b0 : (a1_0 == 3) = false := beq_eq_false_iff_ne.mpr c88
       have c88b1 : (a1_0 != 3) = true := bne_iff_ne.mpr c88
       (first | rw [c88b0] | (simp only [i64_w, i32_w]; rw [c88b0]) | skip)
       have H' := Aside0.mk H
       clear H
       have p305 : 0 ≤ (a1_1 : Int) := of_decide_eq_true (by first | (with_reducible assumption) | assumption)
       have q305 : a1_1 < (y304.length : Int) := (by have h_ : (a1_1 : Int) < ((x11_3.length : Int) : Int) := of_decide_eq_true (by first | (with_reducible assumption) | assumption); first | (have e_ := (Kd.R_reads' HO_11.out).1; omega) | simpa only [Ny304.out, List.length_set] using h_)
       have ql305 : ((a1_1 : Int) < ((x11_3.length : Int) : Int)) = True := eq_true (of_decide_eq_true (by first | (with_reducible assumption) | assumption))
       obtain ⟨ad305, e305, hx305_0, hx305_1, hx305_2, hx305_3, hx305_4⟩ := at_T63 (Kd.R_reads' HO_11.out).2.2 a1_1 p305 q305
       obtain rfl : (⟨go50, 0, none⟩ : Addr) = ad305 := (by injection e305)
       (try simp only [add_plain] at hx305_0 hx305_1 hx305_2 hx305_3 hx305_4)
       replace p305 := eq_true p305; replace q305 := eq_true q305
       go_wp2_with (first | ((with_reducible refine gate_callee (f := 63) rfl ?_); refine goesL_ (some 188) rfl rfl Try.func63 (by kernel_rfl) rfl #[.agg #[.int .i64 ((rd_T63 y304 a1_1).f0), .int .i64 ((rd_T63 y304 a1_1).f1), .int .i64 ((rd_T63 y304 a1_1).f2), .int .i64 ((rd_T63 y304 a1_1).f3), .int .i64 ((rd_T63 y304 a1_1).f4)]] rfl ml_ ?_; (with_reducible refine (impl_CargoTank_mayBurn.calls ((rd_T63 y304 a1_1).f0) ((rd_T63 y304 a1_1).f1) ((rd_T63 y304 a1_1).f2) ((rd_T63 y304 a1_1).f3) ((rd_T63 y304 a1_1).f4) false _ A85.out).mono ?_); rintro e w89 ⟨rfl, hb⟩; refine ⟨_, rfl, ?_⟩; replace HO_8 := Aside0.mk (Kd.R_below (fr_ HO_8.out) hb); replace HO_11 := Aside0.mk (Kd.R_below (fr_ HO_11.out) hb); replace BK283 := Aside0.mk (bb_ BK283.out hb); replace HB := Aside0.mk (below_step (bel_ HB.out) hb); (try clear hb); (try clear hb2); (try clear hk); (try clear hi); have hcz90_0 : w89.cell? ⟨gb283, 0, none⟩ = some (.int .i64 a1_0) := bc_ BK283.out 0; have hcz90_1 : w89.cell? ⟨gb283, 1, none⟩ = some (.int .i64 a1_1) := bc_ BK283.out 1; have hcz90_2 : w89.cell? ⟨gb283, 2, none⟩ = some (.int .i64 a1_2) := bc_ BK283.out 2; have hcz90_3 : w89.cell? ⟨gb283, 3, none⟩ = some (.int .i64 a1_3) := bc_ BK283.out 3; have hfz90_0 := blk_frozen BK283.out 0; have hfz90_1 := blk_frozen BK283.out 1; have hfz90_2 := blk_frozen BK283.out 2; have hfz90_3 := blk_frozen BK283.out 3))
       go_meet
       case rel => exact ⟨_, (false), rl_, H', ⟨by have := HJ3.out; first | omega | exact Nat.le_refl _⟩, ⟨rn_ HO_8.out (fun _ hk => hk.2)⟩, ⟨fr_ HO_11.out⟩, ⟨fb_ BK283.out⟩, ⟨bel_ HB.out⟩⟩
      case rest =>
      clear HC78
      try clear p50
      try clear q50
      try clear c51
      try clear c51b0
      try clear c51b1
      try clear c72
      try clear c72b0
      try clear c72b1
      try clear c73
      try clear c73b0
      try clear c76
      try clear c76b0
      try clear c76b1
      try clear c77
      try clear c77b0
      try clear c77b1
      try clear hcz79_0
      try clear hcz79_1
      try clear hcz79_2
      try clear hcz79_3
      try clear hcz82_0
      try clear hcz82_1
      try clear hcz82_2
      try clear hcz82_3
      try clear hfz79_0
      try clear hfz79_1
      try clear hfz79_2
      try clear hfz79_3
      try clear hfz82_0
      try clear hfz82_1
      try clear hfz82_2
      try clear hfz82_3
      try clear hx303_0
      try clear hx303_1
      try clear hx303_2
      try clear hx303_3
      try clear hx303_4
      try clear p303
      try clear p50
      try clear q303
      try clear q50
      obtain ⟨kq, x199_77, rfl, HA, HJ77, HO_8, HO_11, BK283, HB⟩ := hcut
      have hl11_77 := (Kd.R_reads' HO_11.out).1
      rw [hl11_77] at HO_11
      (try simp only [hl11_77])
      (try simp only [hl11_77] at BK283)
      (try simp only [hl11_77] at HO_8)
      cases kq with
      | zero => exact absurd HA.out (by simp [impl_CargoStep.j5])
      | succ kj77 =>
       have H := HA.out
       clear HA
       simp only [impl_CargoStep.j5] at H
       by_cases c91 : x199_77 = true
       ·subst c91
        have H1 : (some (x8_3, 4)) = some (r1, r2) := by rw [if_pos rfl] at H; exact H
        clear H
        have H := H1
        clear H1
        simp only [Option.some.injEq, Prod.mk.injEq] at H
        obtain ⟨rfl, rfl⟩ := H
        go_wp2
        go_ret2
        exact ⟨_, by first | rfl | (simp [errW_none, errW_some] <;> rfl) | (simp [*, errW_none, errW_some] <;> rfl), by (with_reducible repeat (first | apply Kd.R_alloc | apply Kd.R_drewN | apply Kd.R_drew)); exact Kd.R_mono HO_8.out (fun _ hk => trivial), bel_ HB.out⟩
       case neg =>
       replace c91 := Bool.eq_false_iff.mpr c91
       subst c91
       have H1 : (impl_CargoStep.j9 kj77 l0 a2 x8_3 y304) = some (r1, r2) := by rw [if_neg (show ¬ (false = true) by decide)] at H; exact H
       clear H
       have H := H1
       clear H1
       have H' := Aside0.mk H
       clear H
       go_wp2
       (try simp only [← hl11_77])
       refine hD_ _ _ ?_
       refine Met.intro (hJ_ _ _ (chap_in (by kernel_rfl) ?rel))
       case rel => (try simp only [List.getD_cons_zero, List.getD_cons_succ]); exact ⟨_, (x8_3), (y304), H', ⟨by have := HJ3.out; have := HJ77.out; first | omega | exact Nat.le_refl _⟩, ⟨by (try simp only [hl11_77]); (with_reducible repeat (first | apply Kd.R_alloc | apply Kd.R_drewN | apply Kd.R_drew)); exact HO_8.out⟩, ⟨by (try simp only [hl11_77]); (with_reducible repeat (first | apply Kd.R_alloc | apply Kd.R_drewN | apply Kd.R_drew)); exact HO_11.out⟩, ⟨by (try simp only [hl11_77]); refine rp_ ?_; exact BK283.out⟩, ⟨bel_ HB.out⟩⟩
     case neg =>
     rw [if_neg c72] at H
     have c72b0 : (a1_0 == 2) = false := beq_eq_false_iff_ne.mpr c72
     have c72b1 : (a1_0 != 2) = true := bne_iff_ne.mpr c72
     by_cases c92 : a1_0 = 3
     ·rw [if_pos c92] at H
      have c92b0 : (a1_0 == 3) = true := beq_iff_eq.mpr c92
      have c92b1 : (a1_0 != 3) = false := bne_eq_false_iff_eq.mpr c92
      clear c92
      by_cases c93 : 0 ≤ a1_2
      ·rw [if_pos c93] at H
       have c93b0 : decide (0 ≤ a1_2) = true := decide_eq_true c93
       clear c93
       by_cases c94 : a1_2 < (x11_3.length : Int)
       ·rw [if_pos c94] at H
        have c94b0 : decide (a1_2 < (x11_3.length : Int)) = true := decide_eq_true c94
        clear c94
        by_cases c96 : ((rd_T63 x11_3 a1_1).f0) < a1_3
        ·as_aux_lemma =>
         rw [if_pos c96] at H
         have c96b0 : decide (((rd_T63 x11_3 a1_1).f0) < a1_3) = true := decide_eq_true c96
         clear c96
         simp only [Option.some.injEq, Prod.mk.injEq] at H
         obtain ⟨rfl, rfl⟩ := H
         have hcz97_0 : wc.cell? ⟨gb283, 0, none⟩ = some (.int .i64 a1_0) := bc_ BK283.out 0; have hcz97_1 : wc.cell? ⟨gb283, 1, none⟩ = some (.int .i64 a1_1) := bc_ BK283.out 1; have hcz97_2 : wc.cell? ⟨gb283, 2, none⟩ = some (.int .i64 a1_2) := bc_ BK283.out 2; have hcz97_3 : wc.cell? ⟨gb283, 3, none⟩ = some (.int .i64 a1_3) := bc_ BK283.out 3; have hfz97_0 := blk_frozen BK283.out 0; have hfz97_1 := blk_frozen BK283.out 1; have hfz97_2 := blk_frozen BK283.out 2; have hfz97_3 := blk_frozen BK283.out 3
         have p50 : 0 ≤ (a1_1 : Int) := of_decide_eq_true (by first | (with_reducible assumption) | assumption)
         have q50 : (a1_1 : Int) < ((x11_3.length : Int) : Int) := of_decide_eq_true (by first | (with_reducible assumption) | assumption)
         obtain ⟨go50, co50, eo50, gb50, gl50, cl50, HG50⟩ := Kd.R_form HO_11.out (by omega)
         (first | cases eo50 | (injection eo50 with ea_ en_ ec_; (first | subst ea_ | (injection ea_ with ea_; subst ea_)); subst ec_; clear en_))
         have GB50 := Aside0.mk gb50
         have GG50 := Aside0.mk HG50
         clear gb50 gl50 HG50; replace p50 := eq_true p50; replace q50 := eq_true q50
         try go_wp2
         replace HO_8 := Aside0.mk (Kd.R_drew HO_8.out); replace HO_11 := Aside0.mk (Kd.R_drew HO_11.out); replace BK283 := Aside0.mk (blk_drew BK283.out); replace HB := Aside0.mk (below_drew1 HB.out)
         have p95 : 0 ≤ (a1_2 : Int) := of_decide_eq_true (by first | (with_reducible assumption) | assumption)
         have q95 : (a1_2 : Int) < ((x11_3.length : Int) : Int) := of_decide_eq_true (by first | (with_reducible assumption) | assumption)
         replace p95 := eq_true p95; replace q95 := eq_true q95
         refine start_ (n := 7) (S := fun w' => w'.cell? ⟨gb283, 0, none⟩ = some (.int .i64 a1_0) ∧ w'.cell? ⟨gb283, 1, none⟩ = some (.int .i64 a1_1) ∧ w'.cell? ⟨gb283, 2, none⟩ = some (.int .i64 a1_2) ∧ w'.cell? ⟨gb283, 3, none⟩ = some (.int .i64 a1_3)) (ds := []) (bs 7 0) (by kernel_rfl) rfl rfl ⟨bc_ BK283.out 0, bc_ BK283.out 1, bc_ BK283.out 2, bc_ BK283.out 3⟩ (fun hHeld => ?_)
         generalize wc.drew = w98 at HO_8 HO_11 BK283 HB hHeld ⊢
         refine pure_ (i := 0) (N := some 93) (v := ?_) (a' := ?_) (bs 7 1) rfl rfl (by kernel_rfl) (fun _ _ _ h => h) (Or.inl ⟨by rfl, ?_⟩) ?_ ?_
         rotate_left
         ·intro w'
          go_simp
          with_reducible rfl
         rotate_left
         ·simp only [Act.put, sA_, sZ_, sS_, i64_w, i32_w]
          rfl
         refine pure_ (i := 1) (N := some 94) (v := ?_) (a' := ?_) (bs 7 3) rfl rfl (by kernel_rfl) (fun _ _ _ h => h) (Or.inl ⟨by rfl, ?_⟩) ?_ ?_
         rotate_left
         ·intro w'
          go_simp
          with_reducible rfl
         rotate_left
         ·simp only [Act.put, sA_, sZ_, sS_, i64_w, i32_w]
          rfl
         refine pure_ (i := 2) (N := some 95) (v := ?_) (a' := ?_) (bs 7 7) rfl rfl (by kernel_rfl) (fun _ _ _ h => h) (Or.inl ⟨by rfl, ?_⟩) ?_ ?_
         rotate_left
         ·intro w'
          go_simp
          with_reducible rfl
         rotate_left
         ·simp only [Act.put, sA_, sZ_, sS_, i64_w, i32_w]
          rfl
         refine pure_ (i := 5) (N := some 13) (v := ?_) (a' := ?_) (bs 7 39) rfl rfl (by kernel_rfl) (fun _ _ _ h => h) (Or.inl ⟨by rfl, ?_⟩) ?_ ?_
         rotate_left
         ·intro w'
          go_simp
          with_reducible rfl
         rotate_left
         ·simp only [Act.put, sA_, sZ_, sS_, i64_w, i32_w]
          rfl
         refine take_ (i := 3) (N := some 96) (v := ?_) (a' := ?_) (bs 7 47) rfl rfl (by kernel_rfl) (fun _ _ _ h => h) (Or.inl ⟨by rfl, ?_⟩) hHeld ?_ ?_
         rotate_left
         ·rintro w' ⟨s0, s1, s2, s3⟩
          go_simp
          with_reducible rfl
         rotate_left
         ·simp only [Act.put, sA_, sZ_, sS_, i64_w, i32_w]
          rfl
         refine pure_ (i := 4) (N := some 97) (v := ?_) (a' := ?_) (bs 7 63) rfl rfl (by kernel_rfl) (fun _ _ _ h => h) (Or.inl ⟨by rfl, ?_⟩) ?_ ?_
         rotate_left
         ·intro w'
          go_simp
          with_reducible rfl
         rotate_left
         ·simp only [Act.put, sA_, sZ_, sS_, i64_w, i32_w]
          rfl
         refine pure_ (i := 6) (N := some 14) (v := ?_) (a' := ?_) (bs 7 127) rfl rfl (by kernel_rfl) (fun _ _ _ h => h) (Or.inl ⟨by rfl, ?_⟩) ?_ ?_
         rotate_left
         ·intro w'
          go_simp
          with_reducible rfl
         rotate_left
         ·simp only [Act.put, sA_, sZ_, sS_, i64_w, i32_w]
          rfl
         refine done_ (by kernel_rfl) ?_
         try go_wp2
         replace HO_8 := Aside0.mk (Kd.R_drew HO_8.out); replace HO_11 := Aside0.mk (Kd.R_drew HO_11.out); replace BK283 := Aside0.mk (blk_drew BK283.out); replace HB := Aside0.mk (below_drew1 HB.out)
         have p307 : 0 ≤ (a1_1 : Int) := of_decide_eq_true (by first | (with_reducible assumption) | assumption)
         have q307 : a1_1 < (x11_3.length : Int) := of_decide_eq_true (by first | (with_reducible assumption) | assumption)
         obtain ⟨ad307, e307, hx307_0, hx307_1, hx307_2, hx307_3, hx307_4⟩ := at_T63 (Kd.R_reads' HO_11.out).2.2 a1_1 p307 q307
         obtain rfl : (⟨go50, 0, none⟩ : Addr) = ad307 := (by injection e307)
         (try simp only [add_plain] at hx307_0 hx307_1 hx307_2 hx307_3 hx307_4)
         replace p307 := eq_true p307; replace q307 := eq_true q307
         refine start_ (n := 12) (S := fun w' => w'.cell? ⟨gb283, 0, none⟩ = some (.int .i64 a1_0) ∧ w'.cell? ⟨gb283, 1, none⟩ = some (.int .i64 a1_1) ∧ w'.cell? ⟨gb283, 2, none⟩ = some (.int .i64 a1_2) ∧ w'.cell? ⟨gb283, 3, none⟩ = some (.int .i64 a1_3) ∧ w'.cell? ⟨go50, (a1_1).toNat * 5, none⟩ = some (.int .i64 ((rd_T63 x11_3 a1_1).f0)) ∧ w'.cell? ⟨go50, (a1_1).toNat * 5 + 1, none⟩ = some (.int .i64 ((rd_T63 x11_3 a1_1).f1)) ∧ w'.cell? ⟨go50, (a1_1).toNat * 5 + 2, none⟩ = some (.int .i64 ((rd_T63 x11_3 a1_1).f2)) ∧ w'.cell? ⟨go50, (a1_1).toNat * 5 + 3, none⟩ = some (.int .i64 ((rd_T63 x11_3 a1_1).f3)) ∧ w'.cell? ⟨go50, (a1_1).toNat * 5 + 4, none⟩ = some (.int .i64 ((rd_T63 x11_3 a1_1).f4))) (ds := []) (bs 12 0) (by kernel_rfl) rfl rfl ⟨bc_ BK283.out 0, bc_ BK283.out 1, bc_ BK283.out 2, bc_ BK283.out 3, hx307_0, hx307_1, hx307_2, hx307_3, hx307_4⟩ (fun hHeld => ?_); refine with_tabW impl_CargoStep.tab18 impl_CargoStep.bits18 (fun HT_ HW_ => ?_)
         generalize w98.drew = w99 at HO_8 HO_11 BK283 HB hx307_0 hx307_1 hx307_2 hx307_3 hx307_4 hHeld ⊢
         refine pu_ 0 99 HT_ (bs 12 1) rfl rfl ?_
         refine pu_ 1 100 HT_ (bs 12 3) rfl rfl ?_
         refine pu_ 2 101 HT_ (bs 12 7) rfl rfl ?_
         refine pu_ 3 102 HT_ (bs 12 15) rfl rfl ?_
         refine pu_ 4 103 HT_ (bs 12 31) rfl rfl ?_
         refine pu_ 5 104 HT_ (bs 12 63) rfl rfl ?_
         refine pu_ 7 106 HT_ (bs 12 191) rfl rfl ?_
         refine take_ (i := 6) (N := some 105) (v := ?_) (a' := ?_) (bs 12 255) rfl rfl (take_ofW HT_.out HW_.out (by kernel_rfl)) (fun _ _ _ h => h) (Or.inl ⟨by rfl, ?_⟩) hHeld ?_ ?_
         rotate_left
         ·rintro w' ⟨s0, s1, s2, s3, s4, s5, s6, s7, s8⟩
          go_simp
          with_reducible rfl
         rotate_left
         ·simp only [Act.put, sA_, sZ_, sS_, i64_w, i32_w]
          rfl
         refine take_ (i := 8) (N := some 107) (v := ?_) (a' := ?_) (bs 12 511) rfl rfl (take_ofW HT_.out HW_.out (by kernel_rfl)) (fun _ _ _ h => h) (Or.inl ⟨by rfl, ?_⟩) hHeld ?_ ?_
         rotate_left
         ·rintro w' ⟨s0, s1, s2, s3, s4, s5, s6, s7, s8⟩
          go_simp
          with_reducible rfl
         rotate_left
         ·simp only [Act.put, sA_, sZ_, sS_, i64_w, i32_w]
          rfl
         refine pu_ 9 108 HT_ (bs 12 1023) rfl rfl ?_
         refine pu_ 10 109 HT_ (bs 12 2047) rfl rfl ?_
         refine pu_ 11 98 HT_ (bs 12 4095) rfl rfl ?_
         refine done_ (done_of HT_.out (by kernel_rfl)) ?_
         try go_wp2
         go_ret2
         exact ⟨_, by first | rfl | (simp [errW_none, errW_some] <;> rfl) | (simp [*, errW_none, errW_some] <;> rfl), by (with_reducible repeat (first | apply Kd.R_alloc | apply Kd.R_drewN | apply Kd.R_drew)); exact Kd.R_mono HO_8.out (fun _ hk => trivial), bel_ HB.out⟩
        case neg =>
        rw [if_neg c96] at H
        have c96b0 : decide (((rd_T63 x11_3 a1_1).f0) < a1_3) = false := decide_eq_false c96
        clear c96
        by_cases c100 : (wrap64 (((rd_T63 x11_3 a1_2).f0) + a1_3)) > ((rd_T63 x11_3 a1_2).f1)
        ·as_aux_lemma =>
         rw [if_pos c100] at H
         have c100b0 : decide (((rd_T63 x11_3 a1_2).f1) < (wrap64 (((rd_T63 x11_3 a1_2).f0) + a1_3))) = true := decide_eq_true c100
         clear c100
         simp only [Option.some.injEq, Prod.mk.injEq] at H
         obtain ⟨rfl, rfl⟩ := H
         have hcz101_0 : wc.cell? ⟨gb283, 0, none⟩ = some (.int .i64 a1_0) := bc_ BK283.out 0; have hcz101_1 : wc.cell? ⟨gb283, 1, none⟩ = some (.int .i64 a1_1) := bc_ BK283.out 1; have hcz101_2 : wc.cell? ⟨gb283, 2, none⟩ = some (.int .i64 a1_2) := bc_ BK283.out 2; have hcz101_3 : wc.cell? ⟨gb283, 3, none⟩ = some (.int .i64 a1_3) := bc_ BK283.out 3; have hfz101_0 := blk_frozen BK283.out 0; have hfz101_1 := blk_frozen BK283.out 1; have hfz101_2 := blk_frozen BK283.out 2; have hfz101_3 := blk_frozen BK283.out 3
         have p50 : 0 ≤ (a1_1 : Int) := of_decide_eq_true (by first | (with_reducible assumption) | assumption)
         have q50 : (a1_1 : Int) < ((x11_3.length : Int) : Int) := of_decide_eq_true (by first | (with_reducible assumption) | assumption)
         obtain ⟨go50, co50, eo50, gb50, gl50, cl50, HG50⟩ := Kd.R_form HO_11.out (by omega)
         (first | cases eo50 | (injection eo50 with ea_ en_ ec_; (first | subst ea_ | (injection ea_ with ea_; subst ea_)); subst ec_; clear en_))
         have GB50 := Aside0.mk gb50
         have GG50 := Aside0.mk HG50
         clear gb50 gl50 HG50; replace p50 := eq_true p50; replace q50 := eq_true q50
         try go_wp2
         replace HO_8 := Aside0.mk (Kd.R_drew HO_8.out); replace HO_11 := Aside0.mk (Kd.R_drew HO_11.out); replace BK283 := Aside0.mk (blk_drew BK283.out); replace HB := Aside0.mk (below_drew1 HB.out)
         have p95 : 0 ≤ (a1_2 : Int) := of_decide_eq_true (by first | (with_reducible assumption) | assumption)
         have q95 : (a1_2 : Int) < ((x11_3.length : Int) : Int) := of_decide_eq_true (by first | (with_reducible assumption) | assumption)
         replace p95 := eq_true p95; replace q95 := eq_true q95
         refine start_ (n := 7) (S := fun w' => w'.cell? ⟨gb283, 0, none⟩ = some (.int .i64 a1_0) ∧ w'.cell? ⟨gb283, 1, none⟩ = some (.int .i64 a1_1) ∧ w'.cell? ⟨gb283, 2, none⟩ = some (.int .i64 a1_2) ∧ w'.cell? ⟨gb283, 3, none⟩ = some (.int .i64 a1_3)) (ds := []) (bs 7 0) (by kernel_rfl) rfl rfl ⟨bc_ BK283.out 0, bc_ BK283.out 1, bc_ BK283.out 2, bc_ BK283.out 3⟩ (fun hHeld => ?_)
         generalize wc.drew = w102 at HO_8 HO_11 BK283 HB hHeld ⊢
         refine pure_ (i := 0) (N := some 93) (v := ?_) (a' := ?_) (bs 7 1) rfl rfl (by kernel_rfl) (fun _ _ _ h => h) (Or.inl ⟨by rfl, ?_⟩) ?_ ?_
         rotate_left
         ·intro w'
          go_simp
          with_reducible rfl
         rotate_left
         ·simp only [Act.put, sA_, sZ_, sS_, i64_w, i32_w]
          rfl
         refine pure_ (i := 1) (N := some 94) (v := ?_) (a' := ?_) (bs 7 3) rfl rfl (by kernel_rfl) (fun _ _ _ h => h) (Or.inl ⟨by rfl, ?_⟩) ?_ ?_
         rotate_left
         ·intro w'
          go_simp
          with_reducible rfl
         rotate_left
         ·simp only [Act.put, sA_, sZ_, sS_, i64_w, i32_w]
          rfl
         refine pure_ (i := 2) (N := some 95) (v := ?_) (a' := ?_) (bs 7 7) rfl rfl (by kernel_rfl) (fun _ _ _ h => h) (Or.inl ⟨by rfl, ?_⟩) ?_ ?_
         rotate_left
         ·intro w'
          go_simp
          with_reducible rfl
         rotate_left
         ·simp only [Act.put, sA_, sZ_, sS_, i64_w, i32_w]
          rfl
         refine pure_ (i := 5) (N := some 13) (v := ?_) (a' := ?_) (bs 7 39) rfl rfl (by kernel_rfl) (fun _ _ _ h => h) (Or.inl ⟨by rfl, ?_⟩) ?_ ?_
         rotate_left
         ·intro w'
          go_simp
          with_reducible rfl
         rotate_left
         ·simp only [Act.put, sA_, sZ_, sS_, i64_w, i32_w]
          rfl
         refine take_ (i := 3) (N := some 96) (v := ?_) (a' := ?_) (bs 7 47) rfl rfl (by kernel_rfl) (fun _ _ _ h => h) (Or.inl ⟨by rfl, ?_⟩) hHeld ?_ ?_
         rotate_left
         ·rintro w' ⟨s0, s1, s2, s3⟩
          go_simp
          with_reducible rfl
         rotate_left
         ·simp only [Act.put, sA_, sZ_, sS_, i64_w, i32_w]
          rfl
         refine pure_ (i := 4) (N := some 97) (v := ?_) (a' := ?_) (bs 7 63) rfl rfl (by kernel_rfl) (fun _ _ _ h => h) (Or.inl ⟨by rfl, ?_⟩) ?_ ?_
         rotate_left
         ·intro w'
          go_simp
          with_reducible rfl
         rotate_left
         ·simp only [Act.put, sA_, sZ_, sS_, i64_w, i32_w]
          rfl
         refine pure_ (i := 6) (N := some 14) (v := ?_) (a' := ?_) (bs 7 127) rfl rfl (by kernel_rfl) (fun _ _ _ h => h) (Or.inl ⟨by rfl, ?_⟩) ?_ ?_
         rotate_left
         ·intro w'
          go_simp
          with_reducible rfl
         rotate_left
         ·simp only [Act.put, sA_, sZ_, sS_, i64_w, i32_w]
          rfl
         refine done_ (by kernel_rfl) ?_
         try go_wp2
         replace HO_8 := Aside0.mk (Kd.R_drew HO_8.out); replace HO_11 := Aside0.mk (Kd.R_drew HO_11.out); replace BK283 := Aside0.mk (blk_drew BK283.out); replace HB := Aside0.mk (below_drew1 HB.out)
         have p307 : 0 ≤ (a1_1 : Int) := of_decide_eq_true (by first | (with_reducible assumption) | assumption)
         have q307 : a1_1 < (x11_3.length : Int) := of_decide_eq_true (by first | (with_reducible assumption) | assumption)
         obtain ⟨ad307, e307, hx307_0, hx307_1, hx307_2, hx307_3, hx307_4⟩ := at_T63 (Kd.R_reads' HO_11.out).2.2 a1_1 p307 q307
         obtain rfl : (⟨go50, 0, none⟩ : Addr) = ad307 := (by injection e307)
         (try simp only [add_plain] at hx307_0 hx307_1 hx307_2 hx307_3 hx307_4)
         replace p307 := eq_true p307; replace q307 := eq_true q307
         refine start_ (n := 12) (S := fun w' => w'.cell? ⟨gb283, 0, none⟩ = some (.int .i64 a1_0) ∧ w'.cell? ⟨gb283, 1, none⟩ = some (.int .i64 a1_1) ∧ w'.cell? ⟨gb283, 2, none⟩ = some (.int .i64 a1_2) ∧ w'.cell? ⟨gb283, 3, none⟩ = some (.int .i64 a1_3) ∧ w'.cell? ⟨go50, (a1_1).toNat * 5, none⟩ = some (.int .i64 ((rd_T63 x11_3 a1_1).f0)) ∧ w'.cell? ⟨go50, (a1_1).toNat * 5 + 1, none⟩ = some (.int .i64 ((rd_T63 x11_3 a1_1).f1)) ∧ w'.cell? ⟨go50, (a1_1).toNat * 5 + 2, none⟩ = some (.int .i64 ((rd_T63 x11_3 a1_1).f2)) ∧ w'.cell? ⟨go50, (a1_1).toNat * 5 + 3, none⟩ = some (.int .i64 ((rd_T63 x11_3 a1_1).f3)) ∧ w'.cell? ⟨go50, (a1_1).toNat * 5 + 4, none⟩ = some (.int .i64 ((rd_T63 x11_3 a1_1).f4))) (ds := []) (bs 12 0) (by kernel_rfl) rfl rfl ⟨bc_ BK283.out 0, bc_ BK283.out 1, bc_ BK283.out 2, bc_ BK283.out 3, hx307_0, hx307_1, hx307_2, hx307_3, hx307_4⟩ (fun hHeld => ?_); refine with_tabW impl_CargoStep.tab18 impl_CargoStep.bits18 (fun HT_ HW_ => ?_)
         generalize w102.drew = w103 at HO_8 HO_11 BK283 HB hx307_0 hx307_1 hx307_2 hx307_3 hx307_4 hHeld ⊢
         refine pu_ 0 99 HT_ (bs 12 1) rfl rfl ?_
         refine pu_ 1 100 HT_ (bs 12 3) rfl rfl ?_
         refine pu_ 2 101 HT_ (bs 12 7) rfl rfl ?_
         refine pu_ 3 102 HT_ (bs 12 15) rfl rfl ?_
         refine pu_ 4 103 HT_ (bs 12 31) rfl rfl ?_
         refine pu_ 5 104 HT_ (bs 12 63) rfl rfl ?_
         refine pu_ 7 106 HT_ (bs 12 191) rfl rfl ?_
         refine take_ (i := 6) (N := some 105) (v := ?_) (a' := ?_) (bs 12 255) rfl rfl (take_ofW HT_.out HW_.out (by kernel_rfl)) (fun _ _ _ h => h) (Or.inl ⟨by rfl, ?_⟩) hHeld ?_ ?_
         rotate_left
         ·rintro w' ⟨s0, s1, s2, s3, s4, s5, s6, s7, s8⟩
          go_simp
          with_reducible rfl
         rotate_left
         ·simp only [Act.put, sA_, sZ_, sS_, i64_w, i32_w]
          rfl
         refine take_ (i := 8) (N := some 107) (v := ?_) (a' := ?_) (bs 12 511) rfl rfl (take_ofW HT_.out HW_.out (by kernel_rfl)) (fun _ _ _ h => h) (Or.inl ⟨by rfl, ?_⟩) hHeld ?_ ?_
         rotate_left
         ·rintro w' ⟨s0, s1, s2, s3, s4, s5, s6, s7, s8⟩
          go_simp
          with_reducible rfl
         rotate_left
         ·simp only [Act.put, sA_, sZ_, sS_, i64_w, i32_w]
          rfl
         refine pu_ 9 108 HT_ (bs 12 1023) rfl rfl ?_
         refine pu_ 10 109 HT_ (bs 12 2047) rfl rfl ?_
         refine pu_ 11 98 HT_ (bs 12 4095) rfl rfl ?_
         refine done_ (done_of HT_.out (by kernel_rfl)) ?_
         try go_wp2
         replace HO_8 := Aside0.mk (Kd.R_drew HO_8.out); replace HO_11 := Aside0.mk (Kd.R_drew HO_11.out); replace BK283 := Aside0.mk (blk_drew BK283.out); replace HB := Aside0.mk (below_drew1 HB.out)
         have p308 : 0 ≤ (a1_2 : Int) := of_decide_eq_true (by first | (with_reducible assumption) | assumption)
         have q308 : a1_2 < (x11_3.length : Int) := of_decide_eq_true (by first | (with_reducible assumption) | assumption)
         obtain ⟨ad308, e308, hx308_0, hx308_1, hx308_2, hx308_3, hx308_4⟩ := at_T63 (Kd.R_reads' HO_11.out).2.2 a1_2 p308 q308
         obtain rfl : (⟨go50, 0, none⟩ : Addr) = ad308 := (by injection e308)
         (try simp only [add_plain] at hx308_0 hx308_1 hx308_2 hx308_3 hx308_4)
         replace p308 := eq_true p308; replace q308 := eq_true q308
         have p309 : 0 ≤ (a1_2 : Int) := of_decide_eq_true (by first | (with_reducible assumption) | assumption)
         have q309 : a1_2 < (x11_3.length : Int) := of_decide_eq_true (by first | (with_reducible assumption) | assumption)
         obtain ⟨ad309, e309, hx309_0, hx309_1, hx309_2, hx309_3, hx309_4⟩ := at_T63 (Kd.R_reads' HO_11.out).2.2 a1_2 p309 q309
         obtain rfl : (⟨go50, 0, none⟩ : Addr) = ad309 := (by injection e309)
         (try simp only [add_plain] at hx309_0 hx309_1 hx309_2 hx309_3 hx309_4)
         replace p309 := eq_true p309; replace q309 := eq_true q309
         refine start_ (n := 17) (S := fun w' => w'.cell? ⟨gb283, 0, none⟩ = some (.int .i64 a1_0) ∧ w'.cell? ⟨gb283, 1, none⟩ = some (.int .i64 a1_1) ∧ w'.cell? ⟨gb283, 2, none⟩ = some (.int .i64 a1_2) ∧ w'.cell? ⟨gb283, 3, none⟩ = some (.int .i64 a1_3) ∧ w'.cell? ⟨go50, (a1_2).toNat * 5, none⟩ = some (.int .i64 ((rd_T63 x11_3 a1_2).f0)) ∧ w'.cell? ⟨go50, (a1_2).toNat * 5 + 1, none⟩ = some (.int .i64 ((rd_T63 x11_3 a1_2).f1)) ∧ w'.cell? ⟨go50, (a1_2).toNat * 5 + 2, none⟩ = some (.int .i64 ((rd_T63 x11_3 a1_2).f2)) ∧ w'.cell? ⟨go50, (a1_2).toNat * 5 + 3, none⟩ = some (.int .i64 ((rd_T63 x11_3 a1_2).f3)) ∧ w'.cell? ⟨go50, (a1_2).toNat * 5 + 4, none⟩ = some (.int .i64 ((rd_T63 x11_3 a1_2).f4)) ∧ w'.cell? ⟨go50, (a1_2).toNat * 5, none⟩ = some (.int .i64 ((rd_T63 x11_3 a1_2).f0)) ∧ w'.cell? ⟨go50, (a1_2).toNat * 5 + 1, none⟩ = some (.int .i64 ((rd_T63 x11_3 a1_2).f1)) ∧ w'.cell? ⟨go50, (a1_2).toNat * 5 + 2, none⟩ = some (.int .i64 ((rd_T63 x11_3 a1_2).f2)) ∧ w'.cell? ⟨go50, (a1_2).toNat * 5 + 3, none⟩ = some (.int .i64 ((rd_T63 x11_3 a1_2).f3)) ∧ w'.cell? ⟨go50, (a1_2).toNat * 5 + 4, none⟩ = some (.int .i64 ((rd_T63 x11_3 a1_2).f4))) (ds := []) (bs 17 0) (by kernel_rfl) rfl rfl ⟨bc_ BK283.out 0, bc_ BK283.out 1, bc_ BK283.out 2, bc_ BK283.out 3, hx308_0, hx308_1, hx308_2, hx308_3, hx308_4, hx309_0, hx309_1, hx309_2, hx309_3, hx309_4⟩ (fun hHeld => ?_); refine with_tabW impl_CargoStep.tab20 impl_CargoStep.bits20 (fun HT_ HW_ => ?_)
         generalize w103.drew = w104 at HO_8 HO_11 BK283 HB hx308_0 hx308_1 hx308_2 hx308_3 hx308_4 hx309_0 hx309_1 hx309_2 hx309_3 hx309_4 hHeld ⊢
         refine pu_ 0 112 HT_ (bs 17 1) rfl rfl ?_
         refine pu_ 1 113 HT_ (bs 17 3) rfl rfl ?_
         refine pu_ 2 114 HT_ (bs 17 7) rfl rfl ?_
         refine pu_ 3 115 HT_ (bs 17 15) rfl rfl ?_
         refine pu_ 4 116 HT_ (bs 17 31) rfl rfl ?_
         refine pu_ 5 117 HT_ (bs 17 63) rfl rfl ?_
         refine pu_ 7 119 HT_ (bs 17 191) rfl rfl ?_
         refine pu_ 10 122 HT_ (bs 17 1215) rfl rfl ?_
         refine pu_ 11 123 HT_ (bs 17 3263) rfl rfl ?_
         refine pu_ 12 124 HT_ (bs 17 7359) rfl rfl ?_
         refine take_ (i := 6) (N := some 118) (v := ?_) (a' := ?_) (bs 17 7423) rfl rfl (take_ofW HT_.out HW_.out (by kernel_rfl)) (fun _ _ _ h => h) (Or.inl ⟨by rfl, ?_⟩) hHeld ?_ ?_
         rotate_left
         ·rintro w' ⟨s0, s1, s2, s3, s4, s5, s6, s7, s8, s9, s10, s11, s12, s13⟩
          go_simp
          with_reducible rfl
         rotate_left
         ·simp only [Act.put, sA_, sZ_, sS_, i64_w, i32_w]
          rfl
         refine take_ (i := 8) (N := some 120) (v := ?_) (a' := ?_) (bs 17 7679) rfl rfl (take_ofW HT_.out HW_.out (by kernel_rfl)) (fun _ _ _ h => h) (Or.inl ⟨by rfl, ?_⟩) hHeld ?_ ?_
         rotate_left
         ·rintro w' ⟨s0, s1, s2, s3, s4, s5, s6, s7, s8, s9, s10, s11, s12, s13⟩
          go_simp
          with_reducible rfl
         rotate_left
         ·simp only [Act.put, sA_, sZ_, sS_, i64_w, i32_w]
          rfl
         refine pu_ 9 121 HT_ (bs 17 8191) rfl rfl ?_
         refine take_ (i := 13) (N := some 125) (v := ?_) (a' := ?_) (bs 17 16383) rfl rfl (take_ofW HT_.out HW_.out (by kernel_rfl)) (fun _ _ _ h => h) (Or.inl ⟨by rfl, ?_⟩) hHeld ?_ ?_
         rotate_left
         ·rintro w' ⟨s0, s1, s2, s3, s4, s5, s6, s7, s8, s9, s10, s11, s12, s13⟩
          go_simp
          with_reducible rfl
         rotate_left
         ·simp only [Act.put, sA_, sZ_, sS_, i64_w, i32_w]
          rfl
         refine pu_ 14 126 HT_ (bs 17 32767) rfl rfl ?_
         refine pu_ 15 127 HT_ (bs 17 65535) rfl rfl ?_
         refine pu_ 16 111 HT_ (bs 17 131071) rfl rfl ?_
         refine done_ (done_of HT_.out (by kernel_rfl)) ?_
         try go_wp2
         go_ret2
         exact ⟨_, by first | rfl | (simp [errW_none, errW_some] <;> rfl) | (simp [*, errW_none, errW_some] <;> rfl), by (with_reducible repeat (first | apply Kd.R_alloc | apply Kd.R_drewN | apply Kd.R_drew)); exact Kd.R_mono HO_8.out (fun _ hk => trivial), bel_ HB.out⟩
        case neg =>
        rw [if_neg c100] at H
        have c100b0 : decide (((rd_T63 x11_3 a1_2).f1) < (wrap64 (((rd_T63 x11_3 a1_2).f0) + a1_3))) = false := decide_eq_false c100
        clear c100
        by_cases c105 : (wrap64 (((rd_T63 x11_3 a1_1).f1) - (wrap64 (((rd_T63 x11_3 a1_1).f0) - a1_3)))) = 0
        ·rw [if_pos c105] at H
         exact absurd H (by simp)
        case neg =>
        rw [if_neg c105] at H
        have c105b0 : ((wrap64 (((rd_T63 x11_3 a1_1).f1) - (wrap64 (((rd_T63 x11_3 a1_1).f0) - a1_3)))) == 0) = false := beq_eq_false_iff_ne.mpr c105
        have c105b1 : ((wrap64 (((rd_T63 x11_3 a1_1).f1) - (wrap64 (((rd_T63 x11_3 a1_1).f0) - a1_3)))) != 0) = true := bne_iff_ne.mpr c105
        obtain ⟨y310, hy310⟩ : ∃ y_ : List (S63), y_ = (x11_3.set (a1_1 : Int).toNat (⟨wrap64 (((rd_T63 x11_3 a1_1).f0) - a1_3), (rd_T63 x11_3 a1_1).f1, (rd_T63 x11_3 a1_1).f2, wrap64 (Int.tdiv (wrap64 (((rd_T63 x11_3 a1_1).f3) * (wrap64 ((wrap64 (((rd_T63 x11_3 a1_1).f1) - (wrap64 (((rd_T63 x11_3 a1_1).f0) - a1_3)))) - a1_3)))) (wrap64 (((rd_T63 x11_3 a1_1).f1) - (wrap64 (((rd_T63 x11_3 a1_1).f0) - a1_3))))), wrap64 (Int.tdiv (wrap64 (((rd_T63 x11_3 a1_1).f4) * (wrap64 ((wrap64 (((rd_T63 x11_3 a1_1).f1) - (wrap64 (((rd_T63 x11_3 a1_1).f0) - a1_3)))) - a1_3)))) (wrap64 (((rd_T63 x11_3 a1_1).f1) - (wrap64 (((rd_T63 x11_3 a1_1).f0) - a1_3)))))⟩ : S63)) := ⟨_, rfl⟩
        replace H : ((some (y310.set (a1_2 : Int).toNat (⟨wrap64 (((rd_T63 y310 a1_2).f0) + a1_3), (rd_T63 y310 a1_2).f1, (rd_T63 y310 a1_2).f2, (rd_T63 y310 a1_2).f3, (rd_T63 y310 a1_2).f4⟩ : S63) : List (S63))).bind fun y312 => (if x10_3 = 100 then (none) else ((impl_CargoTank_mayBurn.f ((rd_T63 y312 a1_1).f0) ((rd_T63 y312 a1_1).f1) ((rd_T63 y312 a1_1).f2) ((rd_T63 y312 a1_1).f3) ((rd_T63 y312 a1_1).f4)).bind fun t314 => (if t314 = true then (impl_CargoStep.j6 kj3 l0 a2 x8_3 y312 true) else ((impl_CargoTank_mayBurn.f ((rd_T63 y312 a1_2).f0) ((rd_T63 y312 a1_2).f1) ((rd_T63 y312 a1_2).f2) ((rd_T63 y312 a1_2).f3) ((rd_T63 y312 a1_2).f4)).bind fun t316 => (impl_CargoStep.j6 kj3 l0 a2 x8_3 y312 t316)))))) = some (r1, r2) := by first | (rw [hy310]; with_reducible exact H) | (have H2_ := (Option.bind_some _ _).symm.trans H; rw [hy310]; with_reducible exact H2_) | (have H2_ := (Option.bind_some _ _).symm.trans H; with_reducible exact H2_) | with_reducible exact H | (rw [hy310]; exact H) | exact H
        have Ny310 := Aside0.mk hy310
        clear hy310
        obtain ⟨y312, hy312⟩ : ∃ y_ : List (S63), y_ = (y310.set (a1_2 : Int).toNat (⟨wrap64 (((rd_T63 y310 a1_2).f0) + a1_3), (rd_T63 y310 a1_2).f1, (rd_T63 y310 a1_2).f2, (rd_T63 y310 a1_2).f3, (rd_T63 y310 a1_2).f4⟩ : S63)) := ⟨_, rfl⟩
        replace H : (if x10_3 = 100 then (none) else ((impl_CargoTank_mayBurn.f ((rd_T63 y312 a1_1).f0) ((rd_T63 y312 a1_1).f1) ((rd_T63 y312 a1_1).f2) ((rd_T63 y312 a1_1).f3) ((rd_T63 y312 a1_1).f4)).bind fun t314 => (if t314 = true then (impl_CargoStep.j6 kj3 l0 a2 x8_3 y312 true) else ((impl_CargoTank_mayBurn.f ((rd_T63 y312 a1_2).f0) ((rd_T63 y312 a1_2).f1) ((rd_T63 y312 a1_2).f2) ((rd_T63 y312 a1_2).f3) ((rd_T63 y312 a1_2).f4)).bind fun t316 => (impl_CargoStep.j6 kj3 l0 a2 x8_3 y312 t316))))) = some (r1, r2) := by first | (rw [hy312]; with_reducible exact H) | (have H2_ := (Option.bind_some _ _).symm.trans H; rw [hy312]; with_reducible exact H2_) | (have H2_ := (Option.bind_some _ _).symm.trans H; with_reducible exact H2_) | with_reducible exact H | (rw [hy312]; exact H) | exact H
        have Ny312 := Aside0.mk hy312
        clear hy312
        by_cases c107 : x10_3 = 100
        ·rw [if_pos c107] at H
         exact absurd H (by simp)
        case neg =>
        rw [if_neg c107] at H
        have c107b0 : (x10_3 == 100) = false := beq_eq_false_iff_ne.mpr c107
        have c107b1 : (x10_3 != 100) = true := bne_iff_ne.mpr c107
        have HC108 := Aside0.mk H
        clear H; have hcz109_0 : wc.cell? ⟨gb283, 0, none⟩ = some (.int .i64 a1_0) := bc_ BK283.out 0; have hcz109_1 : wc.cell? ⟨gb283, 1, none⟩ = some (.int .i64 a1_1) := bc_ BK283.out 1; have hcz109_2 : wc.cell? ⟨gb283, 2, none⟩ = some (.int .i64 a1_2) := bc_ BK283.out 2; have hcz109_3 : wc.cell? ⟨gb283, 3, none⟩ = some (.int .i64 a1_3) := bc_ BK283.out 3; have hfz109_0 := blk_frozen BK283.out 0; have hfz109_1 := blk_frozen BK283.out 1; have hfz109_2 := blk_frozen BK283.out 2; have hfz109_3 := blk_frozen BK283.out 3
        have p50 : 0 ≤ (a1_1 : Int) := of_decide_eq_true (by first | (with_reducible assumption) | assumption)
        have q50 : (a1_1 : Int) < ((x11_3.length : Int) : Int) := of_decide_eq_true (by first | (with_reducible assumption) | assumption)
        obtain ⟨go50, co50, eo50, gb50, gl50, cl50, HG50⟩ := Kd.R_form HO_11.out (by omega)
        (first | cases eo50 | (injection eo50 with ea_ en_ ec_; (first | subst ea_ | (injection ea_ with ea_; subst ea_)); subst ec_; clear en_))
        have GB50 := Aside0.mk gb50
        have GG50 := Aside0.mk HG50
        clear gb50 gl50 HG50; replace p50 := eq_true p50; replace q50 := eq_true q50
        try go_wp2
        replace HO_8 := Aside0.mk (Kd.R_drew HO_8.out); replace HO_11 := Aside0.mk (Kd.R_drew HO_11.out); replace BK283 := Aside0.mk (blk_drew BK283.out); replace HB := Aside0.mk (below_drew1 HB.out)
        have p95 : 0 ≤ (a1_2 : Int) := of_decide_eq_true (by first | (with_reducible assumption) | assumption)
        have q95 : (a1_2 : Int) < ((x11_3.length : Int) : Int) := of_decide_eq_true (by first | (with_reducible assumption) | assumption)
        replace p95 := eq_true p95; replace q95 := eq_true q95
        refine start_ (n := 7) (S := fun w' => w'.cell? ⟨gb283, 0, none⟩ = some (.int .i64 a1_0) ∧ w'.cell? ⟨gb283, 1, none⟩ = some (.int .i64 a1_1) ∧ w'.cell? ⟨gb283, 2, none⟩ = some (.int .i64 a1_2) ∧ w'.cell? ⟨gb283, 3, none⟩ = some (.int .i64 a1_3)) (ds := []) (bs 7 0) (by kernel_rfl) rfl rfl ⟨bc_ BK283.out 0, bc_ BK283.out 1, bc_ BK283.out 2, bc_ BK283.out 3⟩ (fun hHeld => ?_)
        generalize wc.drew = w110 at HO_8 HO_11 BK283 HB hHeld ⊢
        refine pure_ (i := 0) (N := some 93) (v := ?_) (a' := ?_) (bs 7 1) rfl rfl (by kernel_rfl) (fun _ _ _ h => h) (Or.inl ⟨by rfl, ?_⟩) ?_ ?_
        rotate_left
        ·intro w'
         go_simp
         with_reducible rfl
        rotate_left
        ·simp only [Act.put, sA_, sZ_, sS_, i64_w, i32_w]
         rfl
        refine pure_ (i := 1) (N := some 94) (v := ?_) (a' := ?_) (bs 7 3) rfl rfl (by kernel_rfl) (fun _ _ _ h => h) (Or.inl ⟨by rfl, ?_⟩) ?_ ?_
        rotate_left
        ·intro w'
         go_simp
         with_reducible rfl
        rotate_left
        ·simp only [Act.put, sA_, sZ_, sS_, i64_w, i32_w]
         rfl
        refine pure_ (i := 2) (N := some 95) (v := ?_) (a' := ?_) (bs 7 7) rfl rfl (by kernel_rfl) (fun _ _ _ h => h) (Or.inl ⟨by rfl, ?_⟩) ?_ ?_
        rotate_left
        ·intro w'
         go_simp
         with_reducible rfl
        rotate_left
        ·simp only [Act.put, sA_, sZ_, sS_, i64_w, i32_w]
         rfl
        refine pure_ (i := 5) (N := some 13) (v := ?_) (a' := ?_) (bs 7 39) rfl rfl (by kernel_rfl) (fun _ _ _ h => h) (Or.inl ⟨by rfl, ?_⟩) ?_ ?_
        rotate_left
        ·intro w'
         go_simp
         with_reducible rfl
        rotate_left
        ·simp only [Act.put, sA_, sZ_, sS_, i64_w, i32_w]
         rfl
        refine take_ (i := 3) (N := some 96) (v := ?_) (a' := ?_) (bs 7 47) rfl rfl (by kernel_rfl) (fun _ _ _ h => h) (Or.inl ⟨by rfl, ?_⟩) hHeld ?_ ?_
        rotate_left
        ·rintro w' ⟨s0, s1, s2, s3⟩
         go_simp
         with_reducible rfl
        rotate_left
        ·simp only [Act.put, sA_, sZ_, sS_, i64_w, i32_w]
         rfl
        refine pure_ (i := 4) (N := some 97) (v := ?_) (a' := ?_) (bs 7 63) rfl rfl (by kernel_rfl) (fun _ _ _ h => h) (Or.inl ⟨by rfl, ?_⟩) ?_ ?_
        rotate_left
        ·intro w'
         go_simp
         with_reducible rfl
        rotate_left
        ·simp only [Act.put, sA_, sZ_, sS_, i64_w, i32_w]
         rfl
        refine pure_ (i := 6) (N := some 14) (v := ?_) (a' := ?_) (bs 7 127) rfl rfl (by kernel_rfl) (fun _ _ _ h => h) (Or.inl ⟨by rfl, ?_⟩) ?_ ?_
        rotate_left
        ·intro w'
         go_simp
         with_reducible rfl
        rotate_left
        ·simp only [Act.put, sA_, sZ_, sS_, i64_w, i32_w]
         rfl
        refine done_ (by kernel_rfl) ?_
        try go_wp2
        replace HO_8 := Aside0.mk (Kd.R_drew HO_8.out); replace HO_11 := Aside0.mk (Kd.R_drew HO_11.out); replace BK283 := Aside0.mk (blk_drew BK283.out); replace HB := Aside0.mk (below_drew1 HB.out)
        have p307 : 0 ≤ (a1_1 : Int) := of_decide_eq_true (by first | (with_reducible assumption) | assumption)
        have q307 : a1_1 < (x11_3.length : Int) := of_decide_eq_true (by first | (with_reducible assumption) | assumption)
        obtain ⟨ad307, e307, hx307_0, hx307_1, hx307_2, hx307_3, hx307_4⟩ := at_T63 (Kd.R_reads' HO_11.out).2.2 a1_1 p307 q307
        obtain rfl : (⟨go50, 0, none⟩ : Addr) = ad307 := (by injection e307)
        (try simp only [add_plain] at hx307_0 hx307_1 hx307_2 hx307_3 hx307_4)
        replace p307 := eq_true p307; replace q307 := eq_true q307
        refine start_ (n := 12) (S := fun w' => w'.cell? ⟨gb283, 0, none⟩ = some (.int .i64 a1_0) ∧ w'.cell? ⟨gb283, 1, none⟩ = some (.int .i64 a1_1) ∧ w'.cell? ⟨gb283, 2, none⟩ = some (.int .i64 a1_2) ∧ w'.cell? ⟨gb283, 3, none⟩ = some (.int .i64 a1_3) ∧ w'.cell? ⟨go50, (a1_1).toNat * 5, none⟩ = some (.int .i64 ((rd_T63 x11_3 a1_1).f0)) ∧ w'.cell? ⟨go50, (a1_1).toNat * 5 + 1, none⟩ = some (.int .i64 ((rd_T63 x11_3 a1_1).f1)) ∧ w'.cell? ⟨go50, (a1_1).toNat * 5 + 2, none⟩ = some (.int .i64 ((rd_T63 x11_3 a1_1).f2)) ∧ w'.cell? ⟨go50, (a1_1).toNat * 5 + 3, none⟩ = some (.int .i64 ((rd_T63 x11_3 a1_1).f3)) ∧ w'.cell? ⟨go50, (a1_1).toNat * 5 + 4, none⟩ = some (.int .i64 ((rd_T63 x11_3 a1_1).f4))) (ds := []) (bs 12 0) (by kernel_rfl) rfl rfl ⟨bc_ BK283.out 0, bc_ BK283.out 1, bc_ BK283.out 2, bc_ BK283.out 3, hx307_0, hx307_1, hx307_2, hx307_3, hx307_4⟩ (fun hHeld => ?_); refine with_tabW impl_CargoStep.tab18 impl_CargoStep.bits18 (fun HT_ HW_ => ?_)
        generalize w110.drew = w111 at HO_8 HO_11 BK283 HB hx307_0 hx307_1 hx307_2 hx307_3 hx307_4 hHeld ⊢
        refine pu_ 0 99 HT_ (bs 12 1) rfl rfl ?_
        refine pu_ 1 100 HT_ (bs 12 3) rfl rfl ?_
        refine pu_ 2 101 HT_ (bs 12 7) rfl rfl ?_
        refine pu_ 3 102 HT_ (bs 12 15) rfl rfl ?_
        refine pu_ 4 103 HT_ (bs 12 31) rfl rfl ?_
        refine pu_ 5 104 HT_ (bs 12 63) rfl rfl ?_
        refine pu_ 7 106 HT_ (bs 12 191) rfl rfl ?_
        refine take_ (i := 6) (N := some 105) (v := ?_) (a' := ?_) (bs 12 255) rfl rfl (take_ofW HT_.out HW_.out (by kernel_rfl)) (fun _ _ _ h => h) (Or.inl ⟨by rfl, ?_⟩) hHeld ?_ ?_
        rotate_left
        ·rintro w' ⟨s0, s1, s2, s3, s4, s5, s6, s7, s8⟩
         go_simp
         with_reducible rfl
        rotate_left
        ·simp only [Act.put, sA_, sZ_, sS_, i64_w, i32_w]
         rfl
        refine take_ (i := 8) (N := some 107) (v := ?_) (a' := ?_) (bs 12 511) rfl rfl (take_ofW HT_.out HW_.out (by kernel_rfl)) (fun _ _ _ h => h) (Or.inl ⟨by rfl, ?_⟩) hHeld ?_ ?_
        rotate_left
        ·rintro w' ⟨s0, s1, s2, s3, s4, s5, s6, s7, s8⟩
         go_simp
         with_reducible rfl
        rotate_left
        ·simp only [Act.put, sA_, sZ_, sS_, i64_w, i32_w]
         rfl
        refine pu_ 9 108 HT_ (bs 12 1023) rfl rfl ?_
        refine pu_ 10 109 HT_ (bs 12 2047) rfl rfl ?_
        refine pu_ 11 98 HT_ (bs 12 4095) rfl rfl ?_
        refine done_ (done_of HT_.out (by kernel_rfl)) ?_
        try go_wp2
        replace HO_8 := Aside0.mk (Kd.R_drew HO_8.out); replace HO_11 := Aside0.mk (Kd.R_drew HO_11.out); replace BK283 := Aside0.mk (blk_drew BK283.out); replace HB := Aside0.mk (below_drew1 HB.out)
        have p308 : 0 ≤ (a1_2 : Int) := of_decide_eq_true (by first | (with_reducible assumption) | assumption)
        have q308 : a1_2 < (x11_3.length : Int) := of_decide_eq_true (by first | (with_reducible assumption) | assumption)
        obtain ⟨ad308, e308, hx308_0, hx308_1, hx308_2, hx308_3, hx308_4⟩ := at_T63 (Kd.R_reads' HO_11.out).2.2 a1_2 p308 q308
        obtain rfl : (⟨go50, 0, none⟩ : Addr) = ad308 := (by injection e308)
        (try simp only [add_plain] at hx308_0 hx308_1 hx308_2 hx308_3 hx308_4)
        replace p308 := eq_true p308; replace q308 := eq_true q308
        have p309 : 0 ≤ (a1_2 : Int) := of_decide_eq_true (by first | (with_reducible assumption) | assumption)
        have q309 : a1_2 < (x11_3.length : Int) := of_decide_eq_true (by first | (with_reducible assumption) | assumption)
        obtain ⟨ad309, e309, hx309_0, hx309_1, hx309_2, hx309_3, hx309_4⟩ := at_T63 (Kd.R_reads' HO_11.out).2.2 a1_2 p309 q309
        obtain rfl : (⟨go50, 0, none⟩ : Addr) = ad309 := (by injection e309)
        (try simp only [add_plain] at hx309_0 hx309_1 hx309_2 hx309_3 hx309_4)
        replace p309 := eq_true p309; replace q309 := eq_true q309
        refine start_ (n := 17) (S := fun w' => w'.cell? ⟨gb283, 0, none⟩ = some (.int .i64 a1_0) ∧ w'.cell? ⟨gb283, 1, none⟩ = some (.int .i64 a1_1) ∧ w'.cell? ⟨gb283, 2, none⟩ = some (.int .i64 a1_2) ∧ w'.cell? ⟨gb283, 3, none⟩ = some (.int .i64 a1_3) ∧ w'.cell? ⟨go50, (a1_2).toNat * 5, none⟩ = some (.int .i64 ((rd_T63 x11_3 a1_2).f0)) ∧ w'.cell? ⟨go50, (a1_2).toNat * 5 + 1, none⟩ = some (.int .i64 ((rd_T63 x11_3 a1_2).f1)) ∧ w'.cell? ⟨go50, (a1_2).toNat * 5 + 2, none⟩ = some (.int .i64 ((rd_T63 x11_3 a1_2).f2)) ∧ w'.cell? ⟨go50, (a1_2).toNat * 5 + 3, none⟩ = some (.int .i64 ((rd_T63 x11_3 a1_2).f3)) ∧ w'.cell? ⟨go50, (a1_2).toNat * 5 + 4, none⟩ = some (.int .i64 ((rd_T63 x11_3 a1_2).f4)) ∧ w'.cell? ⟨go50, (a1_2).toNat * 5, none⟩ = some (.int .i64 ((rd_T63 x11_3 a1_2).f0)) ∧ w'.cell? ⟨go50, (a1_2).toNat * 5 + 1, none⟩ = some (.int .i64 ((rd_T63 x11_3 a1_2).f1)) ∧ w'.cell? ⟨go50, (a1_2).toNat * 5 + 2, none⟩ = some (.int .i64 ((rd_T63 x11_3 a1_2).f2)) ∧ w'.cell? ⟨go50, (a1_2).toNat * 5 + 3, none⟩ = some (.int .i64 ((rd_T63 x11_3 a1_2).f3)) ∧ w'.cell? ⟨go50, (a1_2).toNat * 5 + 4, none⟩ = some (.int .i64 ((rd_T63 x11_3 a1_2).f4))) (ds := []) (bs 17 0) (by kernel_rfl) rfl rfl ⟨bc_ BK283.out 0, bc_ BK283.out 1, bc_ BK283.out 2, bc_ BK283.out 3, hx308_0, hx308_1, hx308_2, hx308_3, hx308_4, hx309_0, hx309_1, hx309_2, hx309_3, hx309_4⟩ (fun hHeld => ?_); refine with_tabW impl_CargoStep.tab20 impl_CargoStep.bits20 (fun HT_ HW_ => ?_)
        generalize w111.drew = w112 at HO_8 HO_11 BK283 HB hx308_0 hx308_1 hx308_2 hx308_3 hx308_4 hx309_0 hx309_1 hx309_2 hx309_3 hx309_4 hHeld ⊢
        refine pu_ 0 112 HT_ (bs 17 1) rfl rfl ?_
        refine pu_ 1 113 HT_ (bs 17 3) rfl rfl ?_
        refine pu_ 2 114 HT_ (bs 17 7) rfl rfl ?_
        refine pu_ 3 115 HT_ (bs 17 15) rfl rfl ?_
        refine pu_ 4 116 HT_ (bs 17 31) rfl rfl ?_
        refine pu_ 5 117 HT_ (bs 17 63) rfl rfl ?_
        refine pu_ 7 119 HT_ (bs 17 191) rfl rfl ?_
        refine pu_ 10 122 HT_ (bs 17 1215) rfl rfl ?_
        refine pu_ 11 123 HT_ (bs 17 3263) rfl rfl ?_
        refine pu_ 12 124 HT_ (bs 17 7359) rfl rfl ?_
        refine take_ (i := 6) (N := some 118) (v := ?_) (a' := ?_) (bs 17 7423) rfl rfl (take_ofW HT_.out HW_.out (by kernel_rfl)) (fun _ _ _ h => h) (Or.inl ⟨by rfl, ?_⟩) hHeld ?_ ?_
        rotate_left
        ·rintro w' ⟨s0, s1, s2, s3, s4, s5, s6, s7, s8, s9, s10, s11, s12, s13⟩
         go_simp
         with_reducible rfl
        rotate_left
        ·simp only [Act.put, sA_, sZ_, sS_, i64_w, i32_w]
         rfl
        refine take_ (i := 8) (N := some 120) (v := ?_) (a' := ?_) (bs 17 7679) rfl rfl (take_ofW HT_.out HW_.out (by kernel_rfl)) (fun _ _ _ h => h) (Or.inl ⟨by rfl, ?_⟩) hHeld ?_ ?_
        rotate_left
        ·rintro w' ⟨s0, s1, s2, s3, s4, s5, s6, s7, s8, s9, s10, s11, s12, s13⟩
         go_simp
         with_reducible rfl
        rotate_left
        ·simp only [Act.put, sA_, sZ_, sS_, i64_w, i32_w]
         rfl
        refine pu_ 9 121 HT_ (bs 17 8191) rfl rfl ?_
        refine take_ (i := 13) (N := some 125) (v := ?_) (a' := ?_) (bs 17 16383) rfl rfl (take_ofW HT_.out HW_.out (by kernel_rfl)) (fun _ _ _ h => h) (Or.inl ⟨by rfl, ?_⟩) hHeld ?_ ?_
        rotate_left
        ·rintro w' ⟨s0, s1, s2, s3, s4, s5, s6, s7, s8, s9, s10, s11, s12, s13⟩
         go_simp
         with_reducible rfl
        rotate_left
        ·simp only [Act.put, sA_, sZ_, sS_, i64_w, i32_w]
         rfl
        refine pu_ 14 126 HT_ (bs 17 32767) rfl rfl ?_
        refine pu_ 15 127 HT_ (bs 17 65535) rfl rfl ?_
        refine pu_ 16 111 HT_ (bs 17 131071) rfl rfl ?_
        refine done_ (done_of HT_.out (by kernel_rfl)) ?_
        have hcz113_0 : w112.cell? ⟨gb283, 0, none⟩ = some (.int .i64 a1_0) := bc_ BK283.out 0; have hcz113_1 : w112.cell? ⟨gb283, 1, none⟩ = some (.int .i64 a1_1) := bc_ BK283.out 1; have hcz113_2 : w112.cell? ⟨gb283, 2, none⟩ = some (.int .i64 a1_2) := bc_ BK283.out 2; have hcz113_3 : w112.cell? ⟨gb283, 3, none⟩ = some (.int .i64 a1_3) := bc_ BK283.out 3; have hfz113_0 := blk_frozen BK283.out 0; have hfz113_1 := blk_frozen BK283.out 1; have hfz113_2 := blk_frozen BK283.out 2; have hfz113_3 := blk_frozen BK283.out 3
        have HX114 := Aside0.mk (show Kd.R k63 63 w112 w.heap.size (fun k_ => nB_ (u8) k_) (.slice (some ⟨go50, 0, none⟩) x11_3.length co50) x11_3 from (fr_ HO_11.out))
        try go_wp2_with (first | ((with_reducible refine gate_callee (f := 62) rfl ?_); refine goesL_ (some 134) rfl rfl Try.func62 (by kernel_rfl) rfl #[.pointer (some ⟨go50, (a1_1 : Int).toNat * 5, none⟩), .int .i64 a1_3] rfl ml_ ?_; (with_reducible refine (impl_CargoTank_out.elem (a1 := a1_3) HX114.out (of_decide_eq_true (by first | (with_reducible assumption) | assumption)) (by have h_ : (a1_1 : Int) < ((x11_3.length : Int) : Int) := of_decide_eq_true (by first | (with_reducible assumption) | assumption); first | exact h_ | (have e_ := (Kd.R_reads' HO_11.out).1; omega) | simpa using h_) (by first | (with_reducible assumption) | assumption)).mono ?_); rintro e w115 ⟨rfl, hg, hp0_⟩; refine ⟨_, rfl, ?_⟩; have hp_ : Kd.R k63 63 w115 w.heap.size (fun k_ => nB_ (u8) k_) (.slice (some ⟨go50, 0, none⟩) x11_3.length co50) y310 := (by rw [Ny310.out]; exact hp0_); clear hp0_; replace HO_8 := Aside0.mk (Kd.R_after (v := (.slice (some ⟨go50, 0, none⟩) x11_3.length co50)) (v1 := (.slice (some ⟨go50, 0, none⟩) x11_3.length co50)) (ok := (fun _ => True)) (by (with_reducible repeat (first | apply Kd.R_alloc | apply Kd.R_drewN | apply Kd.R_drew)); exact Kd.R_mono HO_8.out (fun _ hk => ⟨trivial, hk⟩)) hg (.inl rfl)); replace BK283 := Aside0.mk (blk_grown (g := gb283) (o := .cells #[.int .i64 a1_0, .int .i64 a1_1, .int .i64 a1_2, .int .i64 a1_3] 61 (0, 0)) (fb_ BK283.out) hg (Kd.R_ne HO_11.out BK283.out (by decide))); replace HO_11 := Aside0.mk (hp_); replace HB := Aside0.mk ((Below.grown (bel_ HB.out) hg (below_size (bel_ HB.out)) (fun j_ hj_ => by cases hj_; exact GB50.out) : Below w.heap.size w w115)); clear hg hp_))
        replace HO_8 := Aside0.mk (Kd.R_drew HO_8.out); replace HO_11 := Aside0.mk (Kd.R_drew HO_11.out); replace BK283 := Aside0.mk (blk_drew BK283.out); replace HB := Aside0.mk (below_drew1 HB.out)
        have p311 : 0 ≤ (a1_2 : Int) := of_decide_eq_true (by first | (with_reducible assumption) | assumption)
        have q311 : a1_2 < (y310.length : Int) := (by have h_ : (a1_2 : Int) < ((x11_3.length : Int) : Int) := of_decide_eq_true (by first | (with_reducible assumption) | assumption); first | (have e_ := (Kd.R_reads' HO_11.out).1; omega) | simpa only [Ny310.out, List.length_set] using h_)
        have ql311 : ((a1_2 : Int) < ((x11_3.length : Int) : Int)) = True := eq_true (of_decide_eq_true (by first | (with_reducible assumption) | assumption))
        obtain ⟨ad311, e311, hx311_0, hx311_1, hx311_2, hx311_3, hx311_4⟩ := at_T63 (Kd.R_reads' HO_11.out).2.2 a1_2 p311 q311
        obtain rfl : (⟨go50, 0, none⟩ : Addr) = ad311 := (by injection e311)
        (try simp only [add_plain] at hx311_0 hx311_1 hx311_2 hx311_3 hx311_4)
        replace p311 := eq_true p311; replace q311 := eq_true q311
        have p106 : 0 ≤ (a1_2 : Int) := of_decide_eq_true (by first | (with_reducible assumption) | assumption)
        have q106 : (a1_2 : Int) < ((x11_3.length : Int) : Int) := of_decide_eq_true (by first | (with_reducible assumption) | assumption)
        obtain ⟨ce106, hcl106, hM106, hcc106, hfr106⟩ := Kd.R_elem HO_11.out z63 (a1_2 : Int) p106 q106
        obtain rfl := k63_openM hM106
        have hx106_0 : World.cell? _ ⟨go50, (a1_2 : Int).toNat * 5, none⟩ = some (.int .i64 ((rd_T63 y310 a1_2).f0)) := hcc106 0 _ rfl
        have hx106_1 : World.cell? _ ⟨go50, (a1_2 : Int).toNat * 5 + 1, none⟩ = some (.int .i64 ((rd_T63 y310 a1_2).f1)) := hcc106 1 _ rfl
        have hx106_2 : World.cell? _ ⟨go50, (a1_2 : Int).toNat * 5 + 2, none⟩ = some (.int .i64 ((rd_T63 y310 a1_2).f2)) := hcc106 2 _ rfl
        have hx106_3 : World.cell? _ ⟨go50, (a1_2 : Int).toNat * 5 + 3, none⟩ = some (.int .i64 ((rd_T63 y310 a1_2).f3)) := hcc106 3 _ rfl
        have hx106_4 : World.cell? _ ⟨go50, (a1_2 : Int).toNat * 5 + 4, none⟩ = some (.int .i64 ((rd_T63 y310 a1_2).f4)) := hcc106 4 _ rfl
        have hf106_0 : World.frozen? _ ⟨go50, (a1_2 : Int).toNat * 5, none⟩ = false := hfr106 0
        have hf106_1 : World.frozen? _ ⟨go50, (a1_2 : Int).toNat * 5 + 1, none⟩ = false := hfr106 1
        have hf106_2 : World.frozen? _ ⟨go50, (a1_2 : Int).toNat * 5 + 2, none⟩ = false := hfr106 2
        have hf106_3 : World.frozen? _ ⟨go50, (a1_2 : Int).toNat * 5 + 3, none⟩ = false := hfr106 3
        have hf106_4 : World.frozen? _ ⟨go50, (a1_2 : Int).toNat * 5 + 4, none⟩ = false := hfr106 4
        (try clear hM106); clear hcl106 hcc106 hfr106
        replace p106 := eq_true p106; replace q106 := eq_true q106
        obtain ⟨ce117, hcl117, hM117, hcc117, hfr117⟩ := Kd.R_elem HO_11.out z63 (a1_2 : Int) (of_decide_eq_true (by first | (with_reducible assumption) | assumption)) (by have h_ : (a1_2 : Int) < ((x11_3.length : Int) : Int) := of_decide_eq_true (by first | (with_reducible assumption) | assumption); first | exact h_ | (have e_ := (Kd.R_reads' HO_11.out).1; omega) | simpa using h_)
        obtain rfl := k63_openM hM117
        have HP117 := (Kd.R_seg HO_11.out (a1_2 : Int) (of_decide_eq_true (by first | (with_reducible assumption) | assumption)) (by have h_ : (a1_2 : Int) < ((x11_3.length : Int) : Int) := of_decide_eq_true (by first | (with_reducible assumption) | assumption); first | exact h_ | (have e_ := (Kd.R_reads' HO_11.out).1; omega) | simpa using h_) (seg := [.int .i64 (wrap64 (((rd_T63 y310 a1_2).f0) + a1_3))]) (j := 0) hcl117 hcc117 (show 1 ≤ 5 from by decide) (x' := (⟨wrap64 (((rd_T63 y310 a1_2).f0) + a1_3), (rd_T63 y310 a1_2).f1, (rd_T63 y310 a1_2).f2, (rd_T63 y310 a1_2).f3, (rd_T63 y310 a1_2).f4⟩ : S63)) (k63_mkM _ _ _ (⟨wrap64 (((rd_T63 y310 a1_2).f0) + a1_3), (rd_T63 y310 a1_2).f1, (rd_T63 y310 a1_2).f2, (rd_T63 y310 a1_2).f3, (rd_T63 y310 a1_2).f4⟩ : S63) ) (fun _ hk => hk)).1
        rw [← Ny312.out] at HP117
        have HQ117 := Aside0.mk HP117
        clear hcl117 hcc117 hfr117 hM117 HP117
        refine start_ (n := 10) (S := fun w' => w'.cell? ⟨gb283, 0, none⟩ = some (.int .i64 a1_0) ∧ w'.cell? ⟨gb283, 1, none⟩ = some (.int .i64 a1_1) ∧ w'.cell? ⟨gb283, 2, none⟩ = some (.int .i64 a1_2) ∧ w'.cell? ⟨gb283, 3, none⟩ = some (.int .i64 a1_3) ∧ w'.cell? ⟨go50, (a1_2).toNat * 5, none⟩ = some (.int .i64 ((rd_T63 y310 a1_2).f0)) ∧ w'.cell? ⟨go50, (a1_2).toNat * 5 + 1, none⟩ = some (.int .i64 ((rd_T63 y310 a1_2).f1)) ∧ w'.cell? ⟨go50, (a1_2).toNat * 5 + 2, none⟩ = some (.int .i64 ((rd_T63 y310 a1_2).f2)) ∧ w'.cell? ⟨go50, (a1_2).toNat * 5 + 3, none⟩ = some (.int .i64 ((rd_T63 y310 a1_2).f3)) ∧ w'.cell? ⟨go50, (a1_2).toNat * 5 + 4, none⟩ = some (.int .i64 ((rd_T63 y310 a1_2).f4))) (ds := [9]) (bs 10 0) (by kernel_rfl) rfl rfl ⟨bc_ BK283.out 0, bc_ BK283.out 1, bc_ BK283.out 2, bc_ BK283.out 3, hx311_0, hx311_1, hx311_2, hx311_3, hx311_4⟩ (fun hHeld => ?_); refine with_tabW impl_CargoStep.tab25 impl_CargoStep.bits25 (fun HT_ HW_ => ?_)
        generalize w115.drew = w116 at HO_8 HO_11 BK283 HB HQ117 hf106_0 hf106_1 hf106_2 hf106_3 hf106_4 hx106_0 hx106_1 hx106_2 hx106_3 hx106_4 hx311_0 hx311_1 hx311_2 hx311_3 hx311_4 hHeld ⊢
        refine pu_ 0 137 HT_ (bs 10 1) rfl rfl ?_
        refine pu_ 1 138 HT_ (bs 10 3) rfl rfl ?_
        refine pu_ 2 139 HT_ (bs 10 7) rfl rfl ?_
        refine pu_ 4 141 HT_ (bs 10 23) rfl rfl ?_
        refine take_ (i := 3) (N := some 140) (v := ?_) (a' := ?_) (bs 10 31) rfl rfl (take_ofW HT_.out HW_.out (by kernel_rfl)) (fun _ _ _ h => h) (Or.inl ⟨by rfl, ?_⟩) hHeld ?_ ?_
        rotate_left
        ·rintro w' ⟨s0, s1, s2, s3, s4, s5, s6, s7, s8⟩
         go_simp
         with_reducible rfl
        rotate_left
        ·simp only [Act.put, sA_, sZ_, sS_, i64_w, i32_w]
         rfl
        refine take_ (i := 5) (N := some 142) (v := ?_) (a' := ?_) (bs 10 63) rfl rfl (take_ofW HT_.out HW_.out (by kernel_rfl)) (fun _ _ _ h => h) (Or.inl ⟨by rfl, ?_⟩) hHeld ?_ ?_
        rotate_left
        ·rintro w' ⟨s0, s1, s2, s3, s4, s5, s6, s7, s8⟩
         go_simp
         with_reducible rfl
        rotate_left
        ·simp only [Act.put, sA_, sZ_, sS_, i64_w, i32_w]
         rfl
        refine pu_ 6 143 HT_ (bs 10 127) rfl rfl ?_
        refine pu_ 7 144 HT_ (bs 10 255) rfl rfl ?_
        refine pu_ 8 145 HT_ (bs 10 511) rfl rfl ?_
        refine last_ (i := 9) (N := none) (bs 10 1023) rfl rfl (one_of HT_.out (by kernel_rfl)) (by decide) (fun K hK => ?_)
        refine skip_ (w1 := ?_) (by rfl) rfl ?_ ?_
        rotate_left
        ·go_simp
         rfl
        refine hK.out _ _ ?_
        clear hK K
        refine done_ (done_of HT_.out (by kernel_rfl)) ?_
        go_upto_region 31 with (fail)
        go_cut [199] (fun v199 wc => ∃ (kq : Nat) (x199_107 : Bool), v199 = .bool x199_107 ∧ Aside0 (impl_CargoStep.j6 kq l0 a2 x8_3 y312 x199_107 = some (r1, r2)) ∧ Aside0 (kq ≤ kj3) ∧ Aside0 (Kd.R k63 63 wc w.heap.size (fun k_ => some k_ ≠ ((.slice (some ⟨go50, 0, none⟩) x11_3.length co50) : Value).ownBlock) u8 x8_3) ∧ Aside0 (Kd.R k63 63 wc w.heap.size (fun k_ => nB_ (u8) k_) (.slice (some ⟨go50, 0, none⟩) x11_3.length co50) y312) ∧ Aside0 (wc.heap[gb283]? = some (.cells #[.int .i64 a1_0, .int .i64 a1_1, .int .i64 a1_2, .int .i64 a1_3] 61 (0, 0))) ∧ Aside0 (Below w.heap.size w wc))
        case first =>
         have H := HC108.out
         clear HC108; replace H := Option.bind_eq_some_iff.mp H
         obtain ⟨t314, A1180, H⟩ := H
         replace H : (if t314 = true then (impl_CargoStep.j6 kj3 l0 a2 x8_3 y312 true) else ((impl_CargoTank_mayBurn.f ((rd_T63 y312 a1_2).f0) ((rd_T63 y312 a1_2).f1) ((rd_T63 y312 a1_2).f2) ((rd_T63 y312 a1_2).f3) ((rd_T63 y312 a1_2).f4)).bind fun t316 => (impl_CargoStep.j6 kj3 l0 a2 x8_3 y312 t316))) = some (r1, r2) := H
         have A118 := Aside0.mk A1180
         clear A1180
         by_cases c119 : t314 = true
         ·subst c119
          have H1 : (impl_CargoStep.j6 kj3 l0 a2 x8_3 y312 true) = some (r1, r2) := by rw [if_pos rfl] at H; exact H
          clear H
          have H := H1
          clear H1
          have H' := Aside0.mk H
          clear H
          have p313 : 0 ≤ (a1_1 : Int) := of_decide_eq_true (by first | (with_reducible assumption) | assumption)
          have q313 : a1_1 < (y312.length : Int) := (by have h_ : (a1_1 : Int) < ((x11_3.length : Int) : Int) := of_decide_eq_true (by first | (with_reducible assumption) | assumption); first | (have e_ := (Kd.R_reads' HO_11.out).1; omega) | simpa only [Ny310.out, Ny312.out, List.length_set] using h_)
          have ql313 : ((a1_1 : Int) < ((x11_3.length : Int) : Int)) = True := eq_true (of_decide_eq_true (by first | (with_reducible assumption) | assumption))
          obtain ⟨ad313, e313, hx313_0, hx313_1, hx313_2, hx313_3, hx313_4⟩ := at_T63 (Kd.R_reads' HQ117.out).2.2 a1_1 p313 q313
          obtain rfl : (⟨go50, 0, none⟩ : Addr) = ad313 := (by injection e313)
          (try simp only [add_plain] at hx313_0 hx313_1 hx313_2 hx313_3 hx313_4)
          replace hx313_0 : World.cell? (World.setCell _ ⟨go50, (a1_2 : Int).toNat * 5, none⟩ _) ⟨go50, (a1_1 : Int).toNat * 5, none⟩ = some _ := hx313_0
          replace hx313_1 : World.cell? (World.setCell _ ⟨go50, (a1_2 : Int).toNat * 5, none⟩ _) ⟨go50, (a1_1 : Int).toNat * 5 + 1, none⟩ = some _ := hx313_1
          replace hx313_2 : World.cell? (World.setCell _ ⟨go50, (a1_2 : Int).toNat * 5, none⟩ _) ⟨go50, (a1_1 : Int).toNat * 5 + 2, none⟩ = some _ := hx313_2
          replace hx313_3 : World.cell? (World.setCell _ ⟨go50, (a1_2 : Int).toNat * 5, none⟩ _) ⟨go50, (a1_1 : Int).toNat * 5 + 3, none⟩ = some _ := hx313_3
          replace hx313_4 : World.cell? (World.setCell _ ⟨go50, (a1_2 : Int).toNat * 5, none⟩ _) ⟨go50, (a1_1 : Int).toNat * 5 + 4, none⟩ = some _ := hx313_4
          replace p313 := eq_true p313; replace q313 := eq_true q313
          go_wp2_with (first | ((with_reducible refine gate_callee (f := 63) rfl ?_); refine goesL_ (some 188) rfl rfl Try.func63 (by kernel_rfl) rfl #[.agg #[.int .i64 ((rd_T63 y312 a1_1).f0), .int .i64 ((rd_T63 y312 a1_1).f1), .int .i64 ((rd_T63 y312 a1_1).f2), .int .i64 ((rd_T63 y312 a1_1).f3), .int .i64 ((rd_T63 y312 a1_1).f4)]] rfl ml_ ?_; (with_reducible refine (impl_CargoTank_mayBurn.calls ((rd_T63 y312 a1_1).f0) ((rd_T63 y312 a1_1).f1) ((rd_T63 y312 a1_1).f2) ((rd_T63 y312 a1_1).f3) ((rd_T63 y312 a1_1).f4) true _ A118.out).mono ?_); rintro e w120 ⟨rfl, hb⟩; refine ⟨_, rfl, ?_⟩; replace HO_8 := Aside0.mk (Kd.R_below (by (with_reducible repeat (first | apply Kd.R_alloc | apply Kd.R_drewN | apply Kd.R_drew)); exact (Kd.R_mono (Kd.R_far (p := ⟨go50, (a1_2 : Int).toNat * 5, none⟩) (Kd.R_mono HO_8.out (fun k_ hk => (⟨hk, fun e_ => hk.2 (by rw [e_]; rfl)⟩ : _ ∧ k_ ≠ go50))) (fun _ hk => hk.2) (.int .i64 (wrap64 (((rd_T63 y310 a1_2).f0) + a1_3)))) (fun _ h_ => h_.1))) hb); replace BK283 := Aside0.mk (blk_below (g := gb283) (o := .cells #[.int .i64 a1_0, .int .i64 a1_1, .int .i64 a1_2, .int .i64 a1_3] 61 (0, 0)) (by refine rp_ ?_; refine blk_far ?_ (by have h_ := Kd.R_ne HO_11.out BK283.out (by decide); intro e_; exact h_ (by rw [e_]; rfl)) _; refine rp_ ?_; exact BK283.out) hb); replace HO_11 := Aside0.mk (Kd.R_below (fr_ HQ117.out) hb); replace HB := Aside0.mk (below_step (by repeat (first | (with_reducible first | exact HB.out | apply below_alloc | apply pw_below_drewN | apply below_drew1 | refine below_set ?_ GB50.out | refine below_set ?_ GE283.out) | exact HB.out)) hb); (try clear hb); (try clear hb2); (try clear hk); (try clear hi)))
          go_meet
          case rel => exact ⟨_, (true), rl_, H', ⟨by have := HJ3.out; first | omega | exact Nat.le_refl _⟩, ⟨rn_ HO_8.out (fun _ hk => hk.2)⟩, ⟨fr_ HO_11.out⟩, ⟨fb_ BK283.out⟩, ⟨bel_ HB.out⟩⟩
         case neg =>
         replace c119 := Bool.eq_false_iff.mpr c119
         subst c119
         have H1 : ((impl_CargoTank_mayBurn.f ((rd_T63 y312 a1_2).f0) ((rd_T63 y312 a1_2).f1) ((rd_T63 y312 a1_2).f2) ((rd_T63 y312 a1_2).f3) ((rd_T63 y312 a1_2).f4)).bind fun t316 => (impl_CargoStep.j6 kj3 l0 a2 x8_3 y312 t316)) = some (r1, r2) := by rw [if_neg (show ¬ (false = true) by decide)] at H; exact H
         clear H
         have H := H1
         clear H1; replace H := Option.bind_eq_some_iff.mp H
         obtain ⟨t316, A1210, H⟩ := H
         replace H : (impl_CargoStep.j6 kj3 l0 a2 x8_3 y312 t316) = some (r1, r2) := H
         have A121 := Aside0.mk A1210
         clear A1210
         have H' := Aside0.mk H
         clear H
         have p313 : 0 ≤ (a1_1 : Int) := of_decide_eq_true (by first | (with_reducible assumption) | assumption)
         have q313 : a1_1 < (y312.length : Int) := (by have h_ : (a1_1 : Int) < ((x11_3.length : Int) : Int) := of_decide_eq_true (by first | (with_reducible assumption) | assumption); first | (have e_ := (Kd.R_reads' HO_11.out).1; omega) | simpa only [Ny310.out, Ny312.out, List.length_set] using h_)
         have ql313 : ((a1_1 : Int) < ((x11_3.length : Int) : Int)) = True := eq_true (of_decide_eq_true (by first | (with_reducible assumption) | assumption))
         obtain ⟨ad313, e313, hx313_0, hx313_1, hx313_2, hx313_3, hx313_4⟩ := at_T63 (Kd.R_reads' HQ117.out).2.2 a1_1 p313 q313
         obtain rfl : (⟨go50, 0, none⟩ : Addr) = ad313 := (by injection e313)
         (try simp only [add_plain] at hx313_0 hx313_1 hx313_2 hx313_3 hx313_4)
         replace hx313_0 : World.cell? (World.setCell _ ⟨go50, (a1_2 : Int).toNat * 5, none⟩ _) ⟨go50, (a1_1 : Int).toNat * 5, none⟩ = some _ := hx313_0
         replace hx313_1 : World.cell? (World.setCell _ ⟨go50, (a1_2 : Int).toNat * 5, none⟩ _) ⟨go50, (a1_1 : Int).toNat * 5 + 1, none⟩ = some _ := hx313_1
         replace hx313_2 : World.cell? (World.setCell _ ⟨go50, (a1_2 : Int).toNat * 5, none⟩ _) ⟨go50, (a1_1 : Int).toNat * 5 + 2, none⟩ = some _ := hx313_2
         replace hx313_3 : World.cell? (World.setCell _ ⟨go50, (a1_2 : Int).toNat * 5, none⟩ _) ⟨go50, (a1_1 : Int).toNat * 5 + 3, none⟩ = some _ := hx313_3
         replace hx313_4 : World.cell? (World.setCell _ ⟨go50, (a1_2 : Int).toNat * 5, none⟩ _) ⟨go50, (a1_1 : Int).toNat * 5 + 4, none⟩ = some _ := hx313_4
         replace p313 := eq_true p313; replace q313 := eq_true q313
         go_wp2_with (first | ((with_reducible refine gate_callee (f := 63) rfl ?_); refine goesL_ (some 188) rfl rfl Try.func63 (by kernel_rfl) rfl #[.agg #[.int .i64 ((rd_T63 y312 a1_1).f0), .int .i64 ((rd_T63 y312 a1_1).f1), .int .i64 ((rd_T63 y312 a1_1).f2), .int .i64 ((rd_T63 y312 a1_1).f3), .int .i64 ((rd_T63 y312 a1_1).f4)]] rfl ml_ ?_; (with_reducible refine (impl_CargoTank_mayBurn.calls ((rd_T63 y312 a1_1).f0) ((rd_T63 y312 a1_1).f1) ((rd_T63 y312 a1_1).f2) ((rd_T63 y312 a1_1).f3) ((rd_T63 y312 a1_1).f4) false _ A118.out).mono ?_); rintro e w122 ⟨rfl, hb⟩; refine ⟨_, rfl, ?_⟩; replace HO_8 := Aside0.mk (Kd.R_below (by (with_reducible repeat (first | apply Kd.R_alloc | apply Kd.R_drewN | apply Kd.R_drew)); exact (Kd.R_mono (Kd.R_far (p := ⟨go50, (a1_2 : Int).toNat * 5, none⟩) (Kd.R_mono HO_8.out (fun k_ hk => (⟨hk, fun e_ => hk.2 (by rw [e_]; rfl)⟩ : _ ∧ k_ ≠ go50))) (fun _ hk => hk.2) (.int .i64 (wrap64 (((rd_T63 y310 a1_2).f0) + a1_3)))) (fun _ h_ => h_.1))) hb); replace BK283 := Aside0.mk (blk_below (g := gb283) (o := .cells #[.int .i64 a1_0, .int .i64 a1_1, .int .i64 a1_2, .int .i64 a1_3] 61 (0, 0)) (by refine rp_ ?_; refine blk_far ?_ (by have h_ := Kd.R_ne HO_11.out BK283.out (by decide); intro e_; exact h_ (by rw [e_]; rfl)) _; refine rp_ ?_; exact BK283.out) hb); replace HO_11 := Aside0.mk (Kd.R_below (fr_ HQ117.out) hb); replace HB := Aside0.mk (below_step (by repeat (first | (with_reducible first | exact HB.out | apply below_alloc | apply pw_below_drewN | apply below_drew1 | refine below_set ?_ GB50.out | refine below_set ?_ GE283.out) | exact HB.out)) hb); (try clear hb); (try clear hb2); (try clear hk); (try clear hi); have hcz123_0 : w122.cell? ⟨gb283, 0, none⟩ = some (.int .i64 a1_0) := bc_ BK283.out 0; have hcz123_1 : w122.cell? ⟨gb283, 1, none⟩ = some (.int .i64 a1_1) := bc_ BK283.out 1; have hcz123_2 : w122.cell? ⟨gb283, 2, none⟩ = some (.int .i64 a1_2) := bc_ BK283.out 2; have hcz123_3 : w122.cell? ⟨gb283, 3, none⟩ = some (.int .i64 a1_3) := bc_ BK283.out 3; have hfz123_0 := blk_frozen BK283.out 0; have hfz123_1 := blk_frozen BK283.out 1; have hfz123_2 := blk_frozen BK283.out 2; have hfz123_3 := blk_frozen BK283.out 3; have p315 : 0 ≤ (a1_2 : Int) := of_decide_eq_true (by first | (with_reducible assumption) | assumption); have q315 : a1_2 < (y312.length : Int) := (by have h_ : (a1_2 : Int) < ((x11_3.length : Int) : Int) := of_decide_eq_true (by first | (with_reducible assumption) | assumption); first | (have e_ := (Kd.R_reads' HO_11.out).1; omega) | simpa only [Ny310.out, Ny312.out, List.length_set] using h_); have ql315 : ((a1_2 : Int) < ((x11_3.length : Int) : Int)) = True := eq_true (of_decide_eq_true (by first | (with_reducible assumption) | assumption)); obtain ⟨ad315, e315, hx315_0, hx315_1, hx315_2, hx315_3, hx315_4⟩ := at_T63 (Kd.R_reads' HO_11.out).2.2 a1_2 p315 q315; obtain rfl : (⟨go50, 0, none⟩ : Addr) = ad315 := (by injection e315); (first | simp only [add_plain] at hx315_0 | simp only [add_at] at hx315_0 | simp only [Addr.add, Nat.zero_add] at hx315_0 | skip); (first | simp only [add_plain] at hx315_1 | simp only [add_at] at hx315_1 | simp only [Addr.add, Nat.zero_add] at hx315_1 | skip); (first | simp only [add_plain] at hx315_2 | simp only [add_at] at hx315_2 | simp only [Addr.add, Nat.zero_add] at hx315_2 | skip); (first | simp only [add_plain] at hx315_3 | simp only [add_at] at hx315_3 | simp only [Addr.add, Nat.zero_add] at hx315_3 | skip); (first | simp only [add_plain] at hx315_4 | simp only [add_at] at hx315_4 | simp only [Addr.add, Nat.zero_add] at hx315_4 | skip); replace p315 := eq_true p315; replace q315 := eq_true q315) | (go_at_call 63; (with_reducible refine (impl_CargoTank_mayBurn.calls ((rd_T63 y312 a1_2).f0) ((rd_T63 y312 a1_2).f1) ((rd_T63 y312 a1_2).f2) ((rd_T63 y312 a1_2).f3) ((rd_T63 y312 a1_2).f4) t316 _ A121.out).mono ?_); rintro e w124 ⟨rfl, hb⟩; replace HO_8 := Aside0.mk (Kd.R_below (fr_ HO_8.out) hb); replace HO_11 := Aside0.mk (Kd.R_below (fr_ HO_11.out) hb); replace BK283 := Aside0.mk (bb_ BK283.out hb); replace HB := Aside0.mk (below_step (bel_ HB.out) hb); (try clear hb); (try clear hb2); (try clear hk); (try clear hi)))
         go_meet
         case rel => exact ⟨_, (t316), rl_, H', ⟨by have := HJ3.out; first | omega | exact Nat.le_refl _⟩, ⟨rn_ HO_8.out (fun _ hk => hk.2)⟩, ⟨fr_ HO_11.out⟩, ⟨fb_ BK283.out⟩, ⟨bel_ HB.out⟩⟩
        case rest =>
        clear HC108
        try clear p50
        try clear q50
        try clear p95
        try clear q95
        try clear p106
        try clear q106
        try clear c107
        try clear c107b0
        try clear c107b1
        try clear hcz109_0
        try clear hcz109_1
        try clear hcz109_2
        try clear hcz109_3
        try clear hcz113_0
        try clear hcz113_1
        try clear hcz113_2
        try clear hcz113_3
        try clear hfz109_0
        try clear hfz109_1
        try clear hfz109_2
        try clear hfz109_3
        try clear hfz113_0
        try clear hfz113_1
        try clear hfz113_2
        try clear hfz113_3
        try clear hx106_0
        try clear hx106_1
        try clear hx106_2
        try clear hx106_3
        try clear hx106_4
        try clear hx307_0
        try clear hx307_1
        try clear hx307_2
        try clear hx307_3
        try clear hx307_4
        try clear hx308_0
        try clear hx308_1
        try clear hx308_2
        try clear hx308_3
        try clear hx308_4
        try clear hx309_0
        try clear hx309_1
        try clear hx309_2
        try clear hx309_3
        try clear hx309_4
        try clear hx311_0
        try clear hx311_1
        try clear hx311_2
        try clear hx311_3
        try clear hx311_4
        try clear p106
        try clear p307
        try clear p308
        try clear p309
        try clear p311
        try clear p50
        try clear p95
        try clear q106
        try clear q307
        try clear q308
        try clear q309
        try clear q311
        try clear q50
        try clear q95
        obtain ⟨kq, x199_107, rfl, HA, HJ107, HO_8, HO_11, BK283, HB⟩ := hcut
        have hl11_107 := (Kd.R_reads' HO_11.out).1
        rw [hl11_107] at HO_11
        (try simp only [hl11_107])
        (try simp only [hl11_107] at BK283)
        (try simp only [hl11_107] at HO_8)
        cases kq with
        | zero => exact absurd HA.out (by simp [impl_CargoStep.j6])
        | succ kj107 =>
         have H := HA.out
         clear HA
         simp only [impl_CargoStep.j6] at H
         by_cases c125 : x199_107 = true
         ·subst c125
          have H1 : (some (x8_3, 4)) = some (r1, r2) := by rw [if_pos rfl] at H; exact H
          clear H
          have H := H1
          clear H1
          simp only [Option.some.injEq, Prod.mk.injEq] at H
          obtain ⟨rfl, rfl⟩ := H
          go_wp2
          go_ret2
          exact ⟨_, by first | rfl | (simp [errW_none, errW_some] <;> rfl) | (simp [*, errW_none, errW_some] <;> rfl), by (with_reducible repeat (first | apply Kd.R_alloc | apply Kd.R_drewN | apply Kd.R_drew)); exact Kd.R_mono HO_8.out (fun _ hk => trivial), bel_ HB.out⟩
         case neg =>
         replace c125 := Bool.eq_false_iff.mpr c125
         subst c125
         have H1 : (impl_CargoStep.j9 kj107 l0 a2 x8_3 y312) = some (r1, r2) := by rw [if_neg (show ¬ (false = true) by decide)] at H; exact H
         clear H
         have H := H1
         clear H1
         have H' := Aside0.mk H
         clear H
         go_wp2
         (try simp only [← hl11_107])
         refine hD_ _ _ ?_
         refine Met.intro (hJ_ _ _ (chap_in (by kernel_rfl) ?rel))
         case rel => (try simp only [List.getD_cons_zero, List.getD_cons_succ]); exact ⟨_, (x8_3), (y312), H', ⟨by have := HJ3.out; have := HJ107.out; first | omega | exact Nat.le_refl _⟩, ⟨by (try simp only [hl11_107]); (with_reducible repeat (first | apply Kd.R_alloc | apply Kd.R_drewN | apply Kd.R_drew)); exact HO_8.out⟩, ⟨by (try simp only [hl11_107]); (with_reducible repeat (first | apply Kd.R_alloc | apply Kd.R_drewN | apply Kd.R_drew)); exact HO_11.out⟩, ⟨by (try simp only [hl11_107]); refine rp_ ?_; exact BK283.out⟩, ⟨bel_ HB.out⟩⟩
       ·rw [if_neg c94] at H
        exact absurd H (by simp)
      ·rw [if_neg c93] at H
       exact absurd H (by simp)
     case neg =>
     rw [if_neg c92] at H
     have c92b0 : (a1_0 == 3) = false := beq_eq_false_iff_ne.mpr c92
     have c92b1 : (a1_0 != 3) = true := bne_iff_ne.mpr c92
     by_cases c126 : x10_3 = 100
     ·rw [if_pos c126] at H
      have c126b0 : (x10_3 == 100) = true := beq_iff_eq.mpr c126
      have c126b1 : (x10_3 != 100) = false := bne_eq_false_iff_eq.mpr c126
      clear c126
      obtain ⟨y318, hy318⟩ : ∃ y_ : List (S63), y_ = (x11_3.set (a1_1 : Int).toNat (⟨(rd_T63 x11_3 a1_1).f0, (rd_T63 x11_3 a1_1).f1, (rd_T63 x11_3 a1_1).f2, wrap64 (Int.tdiv (wrap64 (((rd_T63 x11_3 a1_1).f3) * (wrap64 (100 - a1_3)))) 100), (rd_T63 x11_3 a1_1).f4⟩ : S63)) := ⟨_, rfl⟩
      replace H : ((some (y318.set (a1_1 : Int).toNat (⟨(rd_T63 y318 a1_1).f0, (rd_T63 y318 a1_1).f1, (rd_T63 y318 a1_1).f2, (rd_T63 y318 a1_1).f3, wrap64 (Int.tdiv (wrap64 (((rd_T63 y318 a1_1).f4) * (wrap64 (100 - a1_3)))) 100)⟩ : S63) : List (S63))).bind fun y320 => (if a1_0 = 5 then ((some (y320.set (a1_1 : Int).toNat (⟨(rd_T63 y320 a1_1).f0, (rd_T63 y320 a1_1).f1, (rd_T63 y320 a1_1).f2, (rd_T63 y320 a1_1).f3, wrap64 (((rd_T63 y320 a1_1).f4) + (wrap64 (10 * a1_3)))⟩ : S63) : List (S63))).bind fun y322 => ((impl_CargoTank_mayBurn.f ((rd_T63 y320 a1_1).f0) ((rd_T63 y320 a1_1).f1) ((rd_T63 y320 a1_1).f2) ((rd_T63 y320 a1_1).f3) (wrap64 (((rd_T63 y320 a1_1).f4) + (wrap64 (10 * a1_3))))).bind fun t324 => (if t324 = true then (impl_CargoStep.j7 kj3 l0 a2 x8_3 y322 true) else (impl_CargoStep.j7 kj3 l0 a2 x8_3 y322 false)))) else ((impl_CargoTank_mayBurn.f ((rd_T63 y318 a1_1).f0) ((rd_T63 y318 a1_1).f1) ((rd_T63 y318 a1_1).f2) ((rd_T63 y318 a1_1).f3) (wrap64 (Int.tdiv (wrap64 (((rd_T63 y318 a1_1).f4) * (wrap64 (100 - a1_3)))) 100))).bind fun t326 => (if t326 = true then (impl_CargoStep.j8 kj3 l0 a2 x8_3 y320 true) else (impl_CargoStep.j8 kj3 l0 a2 x8_3 y320 false))))) = some (r1, r2) := by first | (rw [hy318]; with_reducible exact H) | (have H2_ := (Option.bind_some _ _).symm.trans H; rw [hy318]; with_reducible exact H2_) | (have H2_ := (Option.bind_some _ _).symm.trans H; with_reducible exact H2_) | with_reducible exact H | (rw [hy318]; exact H) | exact H
      have Ny318 := Aside0.mk hy318
      clear hy318
      obtain ⟨y320, hy320⟩ : ∃ y_ : List (S63), y_ = (y318.set (a1_1 : Int).toNat (⟨(rd_T63 y318 a1_1).f0, (rd_T63 y318 a1_1).f1, (rd_T63 y318 a1_1).f2, (rd_T63 y318 a1_1).f3, wrap64 (Int.tdiv (wrap64 (((rd_T63 y318 a1_1).f4) * (wrap64 (100 - a1_3)))) 100)⟩ : S63)) := ⟨_, rfl⟩
      replace H : (if a1_0 = 5 then ((some (y320.set (a1_1 : Int).toNat (⟨(rd_T63 y320 a1_1).f0, (rd_T63 y320 a1_1).f1, (rd_T63 y320 a1_1).f2, (rd_T63 y320 a1_1).f3, wrap64 (((rd_T63 y320 a1_1).f4) + (wrap64 (10 * a1_3)))⟩ : S63) : List (S63))).bind fun y322 => ((impl_CargoTank_mayBurn.f ((rd_T63 y320 a1_1).f0) ((rd_T63 y320 a1_1).f1) ((rd_T63 y320 a1_1).f2) ((rd_T63 y320 a1_1).f3) (wrap64 (((rd_T63 y320 a1_1).f4) + (wrap64 (10 * a1_3))))).bind fun t324 => (if t324 = true then (impl_CargoStep.j7 kj3 l0 a2 x8_3 y322 true) else (impl_CargoStep.j7 kj3 l0 a2 x8_3 y322 false)))) else ((impl_CargoTank_mayBurn.f ((rd_T63 y318 a1_1).f0) ((rd_T63 y318 a1_1).f1) ((rd_T63 y318 a1_1).f2) ((rd_T63 y318 a1_1).f3) (wrap64 (Int.tdiv (wrap64 (((rd_T63 y318 a1_1).f4) * (wrap64 (100 - a1_3)))) 100))).bind fun t326 => (if t326 = true then (impl_CargoStep.j8 kj3 l0 a2 x8_3 y320 true) else (impl_CargoStep.j8 kj3 l0 a2 x8_3 y320 false)))) = some (r1, r2) := by first | (rw [hy320]; with_reducible exact H) | (have H2_ := (Option.bind_some _ _).symm.trans H; rw [hy320]; with_reducible exact H2_) | (have H2_ := (Option.bind_some _ _).symm.trans H; with_reducible exact H2_) | with_reducible exact H | (rw [hy320]; exact H) | exact H
      have Ny320 := Aside0.mk hy320
      clear hy320
      by_cases c129 : a1_0 = 5
      ·as_aux_lemma =>
       rw [if_pos c129] at H
       have c129b0 : (a1_0 == 5) = true := beq_iff_eq.mpr c129
       have c129b1 : (a1_0 != 5) = false := bne_eq_false_iff_eq.mpr c129
       clear c129
       obtain ⟨y322, hy322⟩ : ∃ y_ : List (S63), y_ = (y320.set (a1_1 : Int).toNat (⟨(rd_T63 y320 a1_1).f0, (rd_T63 y320 a1_1).f1, (rd_T63 y320 a1_1).f2, (rd_T63 y320 a1_1).f3, wrap64 (((rd_T63 y320 a1_1).f4) + (wrap64 (10 * a1_3)))⟩ : S63)) := ⟨_, rfl⟩
       replace H : ((impl_CargoTank_mayBurn.f ((rd_T63 y320 a1_1).f0) ((rd_T63 y320 a1_1).f1) ((rd_T63 y320 a1_1).f2) ((rd_T63 y320 a1_1).f3) (wrap64 (((rd_T63 y320 a1_1).f4) + (wrap64 (10 * a1_3))))).bind fun t324 => (if t324 = true then (impl_CargoStep.j7 kj3 l0 a2 x8_3 y322 true) else (impl_CargoStep.j7 kj3 l0 a2 x8_3 y322 false))) = some (r1, r2) := by first | (rw [hy322]; with_reducible exact H) | (have H2_ := (Option.bind_some _ _).symm.trans H; rw [hy322]; with_reducible exact H2_) | (have H2_ := (Option.bind_some _ _).symm.trans H; with_reducible exact H2_) | with_reducible exact H | (rw [hy322]; exact H) | exact H
       have Ny322 := Aside0.mk hy322
       clear hy322
       have HC131 := Aside0.mk H
       clear H; have hcz132_0 : wc.cell? ⟨gb283, 0, none⟩ = some (.int .i64 a1_0) := bc_ BK283.out 0; have hcz132_1 : wc.cell? ⟨gb283, 1, none⟩ = some (.int .i64 a1_1) := bc_ BK283.out 1; have hcz132_2 : wc.cell? ⟨gb283, 2, none⟩ = some (.int .i64 a1_2) := bc_ BK283.out 2; have hcz132_3 : wc.cell? ⟨gb283, 3, none⟩ = some (.int .i64 a1_3) := bc_ BK283.out 3; have hfz132_0 := blk_frozen BK283.out 0; have hfz132_1 := blk_frozen BK283.out 1; have hfz132_2 := blk_frozen BK283.out 2; have hfz132_3 := blk_frozen BK283.out 3
       have p50 : 0 ≤ (a1_1 : Int) := of_decide_eq_true (by first | (with_reducible assumption) | assumption)
       have q50 : (a1_1 : Int) < ((x11_3.length : Int) : Int) := of_decide_eq_true (by first | (with_reducible assumption) | assumption)
       obtain ⟨go50, co50, eo50, gb50, gl50, cl50, HG50⟩ := Kd.R_form HO_11.out (by omega)
       (first | cases eo50 | (injection eo50 with ea_ en_ ec_; (first | subst ea_ | (injection ea_ with ea_; subst ea_)); subst ec_; clear en_))
       have GB50 := Aside0.mk gb50
       have GG50 := Aside0.mk HG50
       clear gb50 gl50 HG50; replace p50 := eq_true p50; replace q50 := eq_true q50
       try go_wp2
       replace HO_8 := Aside0.mk (Kd.R_drew HO_8.out); replace HO_11 := Aside0.mk (Kd.R_drew HO_11.out); replace BK283 := Aside0.mk (blk_drew BK283.out); replace HB := Aside0.mk (below_drew1 HB.out)
       refine start_ (n := 12) (S := fun w' => True) (ds := []) (bs 12 0) (by kernel_rfl) rfl rfl trivial (fun hHeld => ?_); refine with_tabW impl_CargoStep.tab18 impl_CargoStep.bits18 (fun HT_ HW_ => ?_)
       generalize wc.drew = w133 at HO_8 HO_11 BK283 HB hHeld ⊢
       refine pu_ 0 99 HT_ (bs 12 1) rfl rfl ?_
       refine pu_ 1 100 HT_ (bs 12 3) rfl rfl ?_
       refine pu_ 2 101 HT_ (bs 12 7) rfl rfl ?_
       refine pn_ 3 102 HT_ (bs 12 15) rfl rfl ?_
       refine pn_ 4 103 HT_ (bs 12 31) rfl rfl ?_
       refine pn_ 5 104 HT_ (bs 12 63) rfl rfl ?_
       refine pn_ 6 105 HT_ (bs 12 127) rfl rfl ?_
       refine pn_ 7 106 HT_ (bs 12 255) rfl rfl ?_
       refine pn_ 8 107 HT_ (bs 12 511) rfl rfl ?_
       refine pn_ 9 108 HT_ (bs 12 1023) rfl rfl ?_
       refine pu_ 10 109 HT_ (bs 12 2047) rfl rfl ?_
       refine pu_ 11 98 HT_ (bs 12 4095) rfl rfl ?_
       refine done_ (done_of HT_.out (by kernel_rfl)) ?_
       try go_wp2
       replace HO_8 := Aside0.mk (Kd.R_drew HO_8.out); replace HO_11 := Aside0.mk (Kd.R_drew HO_11.out); replace BK283 := Aside0.mk (blk_drew BK283.out); replace HB := Aside0.mk (below_drew1 HB.out)
       refine start_ (n := 17) (S := fun w' => True) (ds := []) (bs 17 0) (by kernel_rfl) rfl rfl trivial (fun hHeld => ?_); refine with_tabW impl_CargoStep.tab20 impl_CargoStep.bits20 (fun HT_ HW_ => ?_)
       generalize w133.drew = w134 at HO_8 HO_11 BK283 HB hHeld ⊢
       refine pu_ 0 112 HT_ (bs 17 1) rfl rfl ?_
       refine pu_ 1 113 HT_ (bs 17 3) rfl rfl ?_
       refine pu_ 2 114 HT_ (bs 17 7) rfl rfl ?_
       refine pn_ 3 115 HT_ (bs 17 15) rfl rfl ?_
       refine pn_ 4 116 HT_ (bs 17 31) rfl rfl ?_
       refine pn_ 5 117 HT_ (bs 17 63) rfl rfl ?_
       refine pn_ 6 118 HT_ (bs 17 127) rfl rfl ?_
       refine pn_ 7 119 HT_ (bs 17 255) rfl rfl ?_
       refine pn_ 8 120 HT_ (bs 17 511) rfl rfl ?_
       refine pn_ 9 121 HT_ (bs 17 1023) rfl rfl ?_
       refine pn_ 10 122 HT_ (bs 17 2047) rfl rfl ?_
       refine pn_ 11 123 HT_ (bs 17 4095) rfl rfl ?_
       refine pn_ 12 124 HT_ (bs 17 8191) rfl rfl ?_
       refine pn_ 13 125 HT_ (bs 17 16383) rfl rfl ?_
       refine pn_ 14 126 HT_ (bs 17 32767) rfl rfl ?_
       refine pu_ 15 127 HT_ (bs 17 65535) rfl rfl ?_
       refine pu_ 16 111 HT_ (bs 17 131071) rfl rfl ?_
       refine done_ (done_of HT_.out (by kernel_rfl)) ?_
       try go_wp2
       replace HO_8 := Aside0.mk (Kd.R_drew HO_8.out); replace HO_11 := Aside0.mk (Kd.R_drew HO_11.out); replace BK283 := Aside0.mk (blk_drew BK283.out); replace HB := Aside0.mk (below_drew1 HB.out)
       have p317 : 0 ≤ (a1_1 : Int) := of_decide_eq_true (by first | (with_reducible assumption) | assumption)
       have q317 : a1_1 < (x11_3.length : Int) := of_decide_eq_true (by first | (with_reducible assumption) | assumption)
       obtain ⟨ad317, e317, hx317_0, hx317_1, hx317_2, hx317_3, hx317_4⟩ := at_T63 (Kd.R_reads' HO_11.out).2.2 a1_1 p317 q317
       obtain rfl : (⟨go50, 0, none⟩ : Addr) = ad317 := (by injection e317)
       (try simp only [add_plain] at hx317_0 hx317_1 hx317_2 hx317_3 hx317_4)
       replace p317 := eq_true p317; replace q317 := eq_true q317
       have p127 : 0 ≤ (a1_1 : Int) := of_decide_eq_true (by first | (with_reducible assumption) | assumption)
       have q127 : (a1_1 : Int) < ((x11_3.length : Int) : Int) := of_decide_eq_true (by first | (with_reducible assumption) | assumption)
       obtain ⟨ce127, hcl127, hM127, hcc127, hfr127⟩ := Kd.R_elem HO_11.out z63 (a1_1 : Int) p127 q127
       obtain rfl := k63_openM hM127
       have hx127_0 : World.cell? _ ⟨go50, (a1_1 : Int).toNat * 5, none⟩ = some (.int .i64 ((rd_T63 x11_3 a1_1).f0)) := hcc127 0 _ rfl
       have hx127_1 : World.cell? _ ⟨go50, (a1_1 : Int).toNat * 5 + 1, none⟩ = some (.int .i64 ((rd_T63 x11_3 a1_1).f1)) := hcc127 1 _ rfl
       have hx127_2 : World.cell? _ ⟨go50, (a1_1 : Int).toNat * 5 + 2, none⟩ = some (.int .i64 ((rd_T63 x11_3 a1_1).f2)) := hcc127 2 _ rfl
       have hx127_3 : World.cell? _ ⟨go50, (a1_1 : Int).toNat * 5 + 3, none⟩ = some (.int .i64 ((rd_T63 x11_3 a1_1).f3)) := hcc127 3 _ rfl
       have hx127_4 : World.cell? _ ⟨go50, (a1_1 : Int).toNat * 5 + 4, none⟩ = some (.int .i64 ((rd_T63 x11_3 a1_1).f4)) := hcc127 4 _ rfl
       have hf127_0 : World.frozen? _ ⟨go50, (a1_1 : Int).toNat * 5, none⟩ = false := hfr127 0
       have hf127_1 : World.frozen? _ ⟨go50, (a1_1 : Int).toNat * 5 + 1, none⟩ = false := hfr127 1
       have hf127_2 : World.frozen? _ ⟨go50, (a1_1 : Int).toNat * 5 + 2, none⟩ = false := hfr127 2
       have hf127_3 : World.frozen? _ ⟨go50, (a1_1 : Int).toNat * 5 + 3, none⟩ = false := hfr127 3
       have hf127_4 : World.frozen? _ ⟨go50, (a1_1 : Int).toNat * 5 + 4, none⟩ = false := hfr127 4
       (try clear hM127); clear hcl127 hcc127 hfr127
       replace p127 := eq_true p127; replace q127 := eq_true q127
       obtain ⟨ce136, hcl136, hM136, hcc136, hfr136⟩ := Kd.R_elem HO_11.out z63 (a1_1 : Int) (of_decide_eq_true (by first | (with_reducible assumption) | assumption)) (by have h_ : (a1_1 : Int) < ((x11_3.length : Int) : Int) := of_decide_eq_true (by first | (with_reducible assumption) | assumption); first | exact h_ | (have e_ := (Kd.R_reads' HO_11.out).1; omega) | simpa using h_)
       obtain rfl := k63_openM hM136
       have HP136 := (Kd.R_seg HO_11.out (a1_1 : Int) (of_decide_eq_true (by first | (with_reducible assumption) | assumption)) (by have h_ : (a1_1 : Int) < ((x11_3.length : Int) : Int) := of_decide_eq_true (by first | (with_reducible assumption) | assumption); first | exact h_ | (have e_ := (Kd.R_reads' HO_11.out).1; omega) | simpa using h_) (seg := [.int .i64 (wrap64 (Int.tdiv (wrap64 (((rd_T63 x11_3 a1_1).f3) * (wrap64 (100 - a1_3)))) 100))]) (j := 3) hcl136 hcc136 (show 4 ≤ 5 from by decide) (x' := (⟨(rd_T63 x11_3 a1_1).f0, (rd_T63 x11_3 a1_1).f1, (rd_T63 x11_3 a1_1).f2, wrap64 (Int.tdiv (wrap64 (((rd_T63 x11_3 a1_1).f3) * (wrap64 (100 - a1_3)))) 100), (rd_T63 x11_3 a1_1).f4⟩ : S63)) (k63_mkM _ _ _ (⟨(rd_T63 x11_3 a1_1).f0, (rd_T63 x11_3 a1_1).f1, (rd_T63 x11_3 a1_1).f2, wrap64 (Int.tdiv (wrap64 (((rd_T63 x11_3 a1_1).f3) * (wrap64 (100 - a1_3)))) 100), (rd_T63 x11_3 a1_1).f4⟩ : S63) ) (fun _ hk => hk)).1
       rw [← Ny318.out] at HP136
       have HQ136 := Aside0.mk HP136
       clear hcl136 hcc136 hfr136 hM136 HP136
       refine start_ (n := 13) (S := fun w' => w'.cell? ⟨gb283, 0, none⟩ = some (.int .i64 a1_0) ∧ w'.cell? ⟨gb283, 1, none⟩ = some (.int .i64 a1_1) ∧ w'.cell? ⟨gb283, 2, none⟩ = some (.int .i64 a1_2) ∧ w'.cell? ⟨gb283, 3, none⟩ = some (.int .i64 a1_3) ∧ w'.cell? ⟨go50, (a1_1).toNat * 5, none⟩ = some (.int .i64 ((rd_T63 x11_3 a1_1).f0)) ∧ w'.cell? ⟨go50, (a1_1).toNat * 5 + 1, none⟩ = some (.int .i64 ((rd_T63 x11_3 a1_1).f1)) ∧ w'.cell? ⟨go50, (a1_1).toNat * 5 + 2, none⟩ = some (.int .i64 ((rd_T63 x11_3 a1_1).f2)) ∧ w'.cell? ⟨go50, (a1_1).toNat * 5 + 3, none⟩ = some (.int .i64 ((rd_T63 x11_3 a1_1).f3)) ∧ w'.cell? ⟨go50, (a1_1).toNat * 5 + 4, none⟩ = some (.int .i64 ((rd_T63 x11_3 a1_1).f4))) (ds := [12]) (bs 13 0) (by kernel_rfl) rfl rfl ⟨bc_ BK283.out 0, bc_ BK283.out 1, bc_ BK283.out 2, bc_ BK283.out 3, hx317_0, hx317_1, hx317_2, hx317_3, hx317_4⟩ (fun hHeld => ?_); refine with_tabW impl_CargoStep.tab27 impl_CargoStep.bits27 (fun HT_ HW_ => ?_)
       generalize w134.drew = w135 at HO_8 HO_11 BK283 HB HQ136 hf127_0 hf127_1 hf127_2 hf127_3 hf127_4 hx127_0 hx127_1 hx127_2 hx127_3 hx127_4 hx317_0 hx317_1 hx317_2 hx317_3 hx317_4 hHeld ⊢
       refine pu_ 0 148 HT_ (bs 13 1) rfl rfl ?_
       refine pu_ 1 149 HT_ (bs 13 3) rfl rfl ?_
       refine pu_ 2 150 HT_ (bs 13 7) rfl rfl ?_
       refine pu_ 3 151 HT_ (bs 13 15) rfl rfl ?_
       refine pu_ 5 153 HT_ (bs 13 47) rfl rfl ?_
       refine take_ (i := 4) (N := some 152) (v := ?_) (a' := ?_) (bs 13 63) rfl rfl (take_ofW HT_.out HW_.out (by kernel_rfl)) (fun _ _ _ h => h) (Or.inl ⟨by rfl, ?_⟩) hHeld ?_ ?_
       rotate_left
       ·rintro w' ⟨s0, s1, s2, s3, s4, s5, s6, s7, s8⟩
        go_simp
        with_reducible rfl
       rotate_left
       ·simp only [Act.put, sA_, sZ_, sS_, i64_w, i32_w]
        rfl
       refine take_ (i := 6) (N := some 154) (v := ?_) (a' := ?_) (bs 13 127) rfl rfl (take_ofW HT_.out HW_.out (by kernel_rfl)) (fun _ _ _ h => h) (Or.inl ⟨by rfl, ?_⟩) hHeld ?_ ?_
       rotate_left
       ·rintro w' ⟨s0, s1, s2, s3, s4, s5, s6, s7, s8⟩
        go_simp
        with_reducible rfl
       rotate_left
       ·simp only [Act.put, sA_, sZ_, sS_, i64_w, i32_w]
        rfl
       refine pu_ 7 155 HT_ (bs 13 255) rfl rfl ?_
       refine pu_ 8 156 HT_ (bs 13 511) rfl rfl ?_
       refine pu_ 9 157 HT_ (bs 13 1023) rfl rfl ?_
       refine pu_ 10 158 HT_ (bs 13 2047) rfl rfl ?_
       refine pu_ 11 159 HT_ (bs 13 4095) rfl rfl ?_
       refine last_ (i := 12) (N := none) (bs 13 8191) rfl rfl (one_of HT_.out (by kernel_rfl)) (by decide) (fun K hK => ?_)
       refine skip_ (w1 := ?_) (by rfl) rfl ?_ ?_
       rotate_left
       ·go_simp
        rfl
       refine hK.out _ _ ?_
       clear hK K
       refine done_ (done_of HT_.out (by kernel_rfl)) ?_
       try go_wp2
       have n0_ : Aside0 (Kd.R k63 63 (w135.setCell ⟨go50, (a1_1 : Int).toNat * 5 + 3, none⟩ (.int .i64 (wrap64 (Int.tdiv (wrap64 (((rd_T63 x11_3 a1_1).f3) * (wrap64 (100 - a1_3)))) 100)))) w.heap.size (fun k_ => some k_ ≠ (.slice (some ⟨go50, 0, none⟩) x11_3.length co50 : Value).ownBlock) u8 x8_3) := ⟨by (with_reducible repeat (first | apply Kd.R_alloc | apply Kd.R_drewN | apply Kd.R_drew)); exact Kd.R_mono (Kd.R_far (p := ⟨go50, (a1_1 : Int).toNat * 5 + 3, none⟩) (Kd.R_mono HO_8.out (fun k_ hk => (⟨hk, fun e_ => hk (by rw [e_]; rfl)⟩ : _ ∧ k_ ≠ go50))) (fun _ hk => hk.2) (.int .i64 (wrap64 (Int.tdiv (wrap64 (((rd_T63 x11_3 a1_1).f3) * (wrap64 (100 - a1_3)))) 100)))) (fun _ hk => hk.1)⟩
       have n1_ : Aside0 (Kd.R k63 63 (w135.setCell ⟨go50, (a1_1 : Int).toNat * 5 + 3, none⟩ (.int .i64 (wrap64 (Int.tdiv (wrap64 (((rd_T63 x11_3 a1_1).f3) * (wrap64 (100 - a1_3)))) 100)))) w.heap.size (fun k_ => nB_ (u8) k_) (.slice (some ⟨go50, 0, none⟩) x11_3.length co50) y318) := ⟨fr_ HQ136.out⟩
       have n2_ : Aside0 ((w135.setCell ⟨go50, (a1_1 : Int).toNat * 5 + 3, none⟩ (.int .i64 (wrap64 (Int.tdiv (wrap64 (((rd_T63 x11_3 a1_1).f3) * (wrap64 (100 - a1_3)))) 100)))).heap[gb283]? = some (.cells #[.int .i64 a1_0, .int .i64 a1_1, .int .i64 a1_2, .int .i64 a1_3] 61 (0, 0))) := ⟨by refine rp_ ?_; refine blk_far ?_ (by have h_ := Kd.R_ne HO_11.out BK283.out (by decide); intro e_; exact h_ (by rw [e_]; rfl)) _; refine rp_ ?_; exact BK283.out⟩
       have n3_ : Aside0 (Below w.heap.size w (w135.setCell ⟨go50, (a1_1 : Int).toNat * 5 + 3, none⟩ (.int .i64 (wrap64 (Int.tdiv (wrap64 (((rd_T63 x11_3 a1_1).f3) * (wrap64 (100 - a1_3)))) 100))))) := ⟨by repeat (first | (with_reducible first | exact HB.out | apply below_alloc | apply pw_below_drewN | apply below_drew1 | refine below_set ?_ GB50.out | refine below_set ?_ GE283.out) | exact HB.out)⟩
       (try clear HO_8); (try clear HO_11); (try clear BK283); (try clear HB)
       generalize (w135.setCell ⟨go50, (a1_1 : Int).toNat * 5 + 3, none⟩ (.int .i64 (wrap64 (Int.tdiv (wrap64 (((rd_T63 x11_3 a1_1).f3) * (wrap64 (100 - a1_3)))) 100)))) = w137 at n0_ n1_ n2_ n3_ ⊢
       have HO_8 := n0_
       have HO_11 := n1_
       have BK283 := n2_
       have HB := n3_
       clear n0_ n1_ n2_ n3_; replace HO_8 := Aside0.mk (Kd.R_drew HO_8.out); replace HO_11 := Aside0.mk (Kd.R_drew HO_11.out); replace BK283 := Aside0.mk (blk_drew BK283.out); replace HB := Aside0.mk (below_drew1 HB.out)
       have p319 : 0 ≤ (a1_1 : Int) := of_decide_eq_true (by first | (with_reducible assumption) | assumption)
       have q319 : a1_1 < (y318.length : Int) := (by have h_ : (a1_1 : Int) < ((x11_3.length : Int) : Int) := of_decide_eq_true (by first | (with_reducible assumption) | assumption); first | (have e_ := (Kd.R_reads' HO_11.out).1; omega) | simpa only [Ny318.out, List.length_set] using h_)
       have ql319 : ((a1_1 : Int) < ((x11_3.length : Int) : Int)) = True := eq_true (of_decide_eq_true (by first | (with_reducible assumption) | assumption))
       obtain ⟨ad319, e319, hx319_0, hx319_1, hx319_2, hx319_3, hx319_4⟩ := at_T63 (Kd.R_reads' HO_11.out).2.2 a1_1 p319 q319
       obtain rfl : (⟨go50, 0, none⟩ : Addr) = ad319 := (by injection e319)
       (try simp only [add_plain] at hx319_0 hx319_1 hx319_2 hx319_3 hx319_4)
       replace p319 := eq_true p319; replace q319 := eq_true q319
       have p128 : 0 ≤ (a1_1 : Int) := of_decide_eq_true (by first | (with_reducible assumption) | assumption)
       have q128 : (a1_1 : Int) < ((x11_3.length : Int) : Int) := of_decide_eq_true (by first | (with_reducible assumption) | assumption)
       obtain ⟨ce128, hcl128, hM128, hcc128, hfr128⟩ := Kd.R_elem HO_11.out z63 (a1_1 : Int) p128 q128
       obtain rfl := k63_openM hM128
       have hx128_0 : World.cell? _ ⟨go50, (a1_1 : Int).toNat * 5, none⟩ = some (.int .i64 ((rd_T63 y318 a1_1).f0)) := hcc128 0 _ rfl
       have hx128_1 : World.cell? _ ⟨go50, (a1_1 : Int).toNat * 5 + 1, none⟩ = some (.int .i64 ((rd_T63 y318 a1_1).f1)) := hcc128 1 _ rfl
       have hx128_2 : World.cell? _ ⟨go50, (a1_1 : Int).toNat * 5 + 2, none⟩ = some (.int .i64 ((rd_T63 y318 a1_1).f2)) := hcc128 2 _ rfl
       have hx128_3 : World.cell? _ ⟨go50, (a1_1 : Int).toNat * 5 + 3, none⟩ = some (.int .i64 ((rd_T63 y318 a1_1).f3)) := hcc128 3 _ rfl
       have hx128_4 : World.cell? _ ⟨go50, (a1_1 : Int).toNat * 5 + 4, none⟩ = some (.int .i64 ((rd_T63 y318 a1_1).f4)) := hcc128 4 _ rfl
       have hf128_0 : World.frozen? _ ⟨go50, (a1_1 : Int).toNat * 5, none⟩ = false := hfr128 0
       have hf128_1 : World.frozen? _ ⟨go50, (a1_1 : Int).toNat * 5 + 1, none⟩ = false := hfr128 1
       have hf128_2 : World.frozen? _ ⟨go50, (a1_1 : Int).toNat * 5 + 2, none⟩ = false := hfr128 2
       have hf128_3 : World.frozen? _ ⟨go50, (a1_1 : Int).toNat * 5 + 3, none⟩ = false := hfr128 3
       have hf128_4 : World.frozen? _ ⟨go50, (a1_1 : Int).toNat * 5 + 4, none⟩ = false := hfr128 4
       (try clear hM128); clear hcl128 hcc128 hfr128
       replace p128 := eq_true p128; replace q128 := eq_true q128
       obtain ⟨ce139, hcl139, hM139, hcc139, hfr139⟩ := Kd.R_elem HO_11.out z63 (a1_1 : Int) (of_decide_eq_true (by first | (with_reducible assumption) | assumption)) (by have h_ : (a1_1 : Int) < ((x11_3.length : Int) : Int) := of_decide_eq_true (by first | (with_reducible assumption) | assumption); first | exact h_ | (have e_ := (Kd.R_reads' HO_11.out).1; omega) | simpa using h_)
       obtain rfl := k63_openM hM139
       have HP139 := (Kd.R_seg HO_11.out (a1_1 : Int) (of_decide_eq_true (by first | (with_reducible assumption) | assumption)) (by have h_ : (a1_1 : Int) < ((x11_3.length : Int) : Int) := of_decide_eq_true (by first | (with_reducible assumption) | assumption); first | exact h_ | (have e_ := (Kd.R_reads' HO_11.out).1; omega) | simpa using h_) (seg := [.int .i64 (wrap64 (Int.tdiv (wrap64 (((rd_T63 y318 a1_1).f4) * (wrap64 (100 - a1_3)))) 100))]) (j := 4) hcl139 hcc139 (show 5 ≤ 5 from by decide) (x' := (⟨(rd_T63 y318 a1_1).f0, (rd_T63 y318 a1_1).f1, (rd_T63 y318 a1_1).f2, (rd_T63 y318 a1_1).f3, wrap64 (Int.tdiv (wrap64 (((rd_T63 y318 a1_1).f4) * (wrap64 (100 - a1_3)))) 100)⟩ : S63)) (k63_mkM _ _ _ (⟨(rd_T63 y318 a1_1).f0, (rd_T63 y318 a1_1).f1, (rd_T63 y318 a1_1).f2, (rd_T63 y318 a1_1).f3, wrap64 (Int.tdiv (wrap64 (((rd_T63 y318 a1_1).f4) * (wrap64 (100 - a1_3)))) 100)⟩ : S63) ) (fun _ hk => hk)).1
       rw [← Ny320.out] at HP139
       have HQ139 := Aside0.mk HP139
       clear hcl139 hcc139 hfr139 hM139 HP139
       refine start_ (n := 13) (S := fun w' => w'.cell? ⟨gb283, 0, none⟩ = some (.int .i64 a1_0) ∧ w'.cell? ⟨gb283, 1, none⟩ = some (.int .i64 a1_1) ∧ w'.cell? ⟨gb283, 2, none⟩ = some (.int .i64 a1_2) ∧ w'.cell? ⟨gb283, 3, none⟩ = some (.int .i64 a1_3) ∧ w'.cell? ⟨go50, (a1_1).toNat * 5, none⟩ = some (.int .i64 ((rd_T63 y318 a1_1).f0)) ∧ w'.cell? ⟨go50, (a1_1).toNat * 5 + 1, none⟩ = some (.int .i64 ((rd_T63 y318 a1_1).f1)) ∧ w'.cell? ⟨go50, (a1_1).toNat * 5 + 2, none⟩ = some (.int .i64 ((rd_T63 y318 a1_1).f2)) ∧ w'.cell? ⟨go50, (a1_1).toNat * 5 + 3, none⟩ = some (.int .i64 ((rd_T63 y318 a1_1).f3)) ∧ w'.cell? ⟨go50, (a1_1).toNat * 5 + 4, none⟩ = some (.int .i64 ((rd_T63 y318 a1_1).f4))) (ds := [12]) (bs 13 0) (by kernel_rfl) rfl rfl ⟨bc_ BK283.out 0, bc_ BK283.out 1, bc_ BK283.out 2, bc_ BK283.out 3, hx319_0, hx319_1, hx319_2, hx319_3, hx319_4⟩ (fun hHeld => ?_); refine with_tabW impl_CargoStep.tab28 impl_CargoStep.bits28 (fun HT_ HW_ => ?_)
       generalize w137.drew = w138 at HO_8 HO_11 BK283 HB HQ136 HQ139 hf128_0 hf128_1 hf128_2 hf128_3 hf128_4 hx128_0 hx128_1 hx128_2 hx128_3 hx128_4 hx319_0 hx319_1 hx319_2 hx319_3 hx319_4 hHeld ⊢
       refine pu_ 0 160 HT_ (bs 13 1) rfl rfl ?_
       refine pu_ 1 161 HT_ (bs 13 3) rfl rfl ?_
       refine pu_ 2 162 HT_ (bs 13 7) rfl rfl ?_
       refine pu_ 3 163 HT_ (bs 13 15) rfl rfl ?_
       refine pu_ 5 165 HT_ (bs 13 47) rfl rfl ?_
       refine take_ (i := 4) (N := some 164) (v := ?_) (a' := ?_) (bs 13 63) rfl rfl (take_ofW HT_.out HW_.out (by kernel_rfl)) (fun _ _ _ h => h) (Or.inl ⟨by rfl, ?_⟩) hHeld ?_ ?_
       rotate_left
       ·rintro w' ⟨s0, s1, s2, s3, s4, s5, s6, s7, s8⟩
        go_simp
        with_reducible rfl
       rotate_left
       ·simp only [Act.put, sA_, sZ_, sS_, i64_w, i32_w]
        rfl
       refine take_ (i := 6) (N := some 166) (v := ?_) (a' := ?_) (bs 13 127) rfl rfl (take_ofW HT_.out HW_.out (by kernel_rfl)) (fun _ _ _ h => h) (Or.inl ⟨by rfl, ?_⟩) hHeld ?_ ?_
       rotate_left
       ·rintro w' ⟨s0, s1, s2, s3, s4, s5, s6, s7, s8⟩
        go_simp
        with_reducible rfl
       rotate_left
       ·simp only [Act.put, sA_, sZ_, sS_, i64_w, i32_w]
        rfl
       refine pu_ 7 167 HT_ (bs 13 255) rfl rfl ?_
       refine pu_ 8 168 HT_ (bs 13 511) rfl rfl ?_
       refine pu_ 9 169 HT_ (bs 13 1023) rfl rfl ?_
       refine pu_ 10 170 HT_ (bs 13 2047) rfl rfl ?_
       refine pu_ 11 171 HT_ (bs 13 4095) rfl rfl ?_
       refine last_ (i := 12) (N := none) (bs 13 8191) rfl rfl (one_of HT_.out (by kernel_rfl)) (by decide) (fun K hK => ?_)
       refine skip_ (w1 := ?_) (by rfl) rfl ?_ ?_
       rotate_left
       ·go_simp
        rfl
       refine hK.out _ _ ?_
       clear hK K
       refine done_ (done_of HT_.out (by kernel_rfl)) ?_
       have hcz140_0 : w138.cell? ⟨gb283, 0, none⟩ = some (.int .i64 a1_0) := bc_ BK283.out 0; have hcz140_1 : w138.cell? ⟨gb283, 1, none⟩ = some (.int .i64 a1_1) := bc_ BK283.out 1; have hcz140_2 : w138.cell? ⟨gb283, 2, none⟩ = some (.int .i64 a1_2) := bc_ BK283.out 2; have hcz140_3 : w138.cell? ⟨gb283, 3, none⟩ = some (.int .i64 a1_3) := bc_ BK283.out 3; have hfz140_0 := blk_frozen BK283.out 0; have hfz140_1 := blk_frozen BK283.out 1; have hfz140_2 := blk_frozen BK283.out 2; have hfz140_3 := blk_frozen BK283.out 3
       try go_wp2
       have n0_ : Aside0 (Kd.R k63 63 (w138.setCell ⟨go50, (a1_1 : Int).toNat * 5 + 4, none⟩ (.int .i64 (wrap64 (Int.tdiv (wrap64 (((rd_T63 y318 a1_1).f4) * (wrap64 (100 - a1_3)))) 100)))) w.heap.size (fun k_ => some k_ ≠ (.slice (some ⟨go50, 0, none⟩) x11_3.length co50 : Value).ownBlock) u8 x8_3) := ⟨by (with_reducible repeat (first | apply Kd.R_alloc | apply Kd.R_drewN | apply Kd.R_drew)); exact Kd.R_mono (Kd.R_far (p := ⟨go50, (a1_1 : Int).toNat * 5 + 4, none⟩) (Kd.R_mono HO_8.out (fun k_ hk => (⟨hk, fun e_ => hk (by rw [e_]; rfl)⟩ : _ ∧ k_ ≠ go50))) (fun _ hk => hk.2) (.int .i64 (wrap64 (Int.tdiv (wrap64 (((rd_T63 y318 a1_1).f4) * (wrap64 (100 - a1_3)))) 100)))) (fun _ hk => hk.1)⟩
       have n1_ : Aside0 (Kd.R k63 63 (w138.setCell ⟨go50, (a1_1 : Int).toNat * 5 + 4, none⟩ (.int .i64 (wrap64 (Int.tdiv (wrap64 (((rd_T63 y318 a1_1).f4) * (wrap64 (100 - a1_3)))) 100)))) w.heap.size (fun k_ => nB_ (u8) k_) (.slice (some ⟨go50, 0, none⟩) x11_3.length co50) y320) := ⟨fr_ HQ139.out⟩
       have n2_ : Aside0 ((w138.setCell ⟨go50, (a1_1 : Int).toNat * 5 + 4, none⟩ (.int .i64 (wrap64 (Int.tdiv (wrap64 (((rd_T63 y318 a1_1).f4) * (wrap64 (100 - a1_3)))) 100)))).heap[gb283]? = some (.cells #[.int .i64 a1_0, .int .i64 a1_1, .int .i64 a1_2, .int .i64 a1_3] 61 (0, 0))) := ⟨by refine rp_ ?_; refine blk_far ?_ (by have h_ := Kd.R_ne HO_11.out BK283.out (by decide); intro e_; exact h_ (by rw [e_]; rfl)) _; refine rp_ ?_; exact BK283.out⟩
       have n3_ : Aside0 (Below w.heap.size w (w138.setCell ⟨go50, (a1_1 : Int).toNat * 5 + 4, none⟩ (.int .i64 (wrap64 (Int.tdiv (wrap64 (((rd_T63 y318 a1_1).f4) * (wrap64 (100 - a1_3)))) 100))))) := ⟨by repeat (first | (with_reducible first | exact HB.out | apply below_alloc | apply pw_below_drewN | apply below_drew1 | refine below_set ?_ GB50.out | refine below_set ?_ GE283.out) | exact HB.out)⟩
       (try clear HO_8); (try clear HO_11); (try clear BK283); (try clear HB)
       generalize (w138.setCell ⟨go50, (a1_1 : Int).toNat * 5 + 4, none⟩ (.int .i64 (wrap64 (Int.tdiv (wrap64 (((rd_T63 y318 a1_1).f4) * (wrap64 (100 - a1_3)))) 100)))) = w141 at n0_ n1_ n2_ n3_ ⊢
       have HO_8 := n0_
       have HO_11 := n1_
       have BK283 := n2_
       have HB := n3_
       clear n0_ n1_ n2_ n3_; replace HO_8 := Aside0.mk (Kd.R_drew HO_8.out); replace HO_11 := Aside0.mk (Kd.R_drew HO_11.out); replace BK283 := Aside0.mk (blk_drew BK283.out); replace HB := Aside0.mk (below_drew1 HB.out)
       have p321 : 0 ≤ (a1_1 : Int) := of_decide_eq_true (by first | (with_reducible assumption) | assumption)
       have q321 : a1_1 < (y320.length : Int) := (by have h_ : (a1_1 : Int) < ((x11_3.length : Int) : Int) := of_decide_eq_true (by first | (with_reducible assumption) | assumption); first | (have e_ := (Kd.R_reads' HO_11.out).1; omega) | simpa only [Ny318.out, Ny320.out, List.length_set] using h_)
       have ql321 : ((a1_1 : Int) < ((x11_3.length : Int) : Int)) = True := eq_true (of_decide_eq_true (by first | (with_reducible assumption) | assumption))
       obtain ⟨ad321, e321, hx321_0, hx321_1, hx321_2, hx321_3, hx321_4⟩ := at_T63 (Kd.R_reads' HO_11.out).2.2 a1_1 p321 q321
       obtain rfl : (⟨go50, 0, none⟩ : Addr) = ad321 := (by injection e321)
       (try simp only [add_plain] at hx321_0 hx321_1 hx321_2 hx321_3 hx321_4)
       replace p321 := eq_true p321; replace q321 := eq_true q321
       have p130 : 0 ≤ (a1_1 : Int) := of_decide_eq_true (by first | (with_reducible assumption) | assumption)
       have q130 : (a1_1 : Int) < ((x11_3.length : Int) : Int) := of_decide_eq_true (by first | (with_reducible assumption) | assumption)
       obtain ⟨ce130, hcl130, hM130, hcc130, hfr130⟩ := Kd.R_elem HO_11.out z63 (a1_1 : Int) p130 q130
       obtain rfl := k63_openM hM130
       have hx130_0 : World.cell? _ ⟨go50, (a1_1 : Int).toNat * 5, none⟩ = some (.int .i64 ((rd_T63 y320 a1_1).f0)) := hcc130 0 _ rfl
       have hx130_1 : World.cell? _ ⟨go50, (a1_1 : Int).toNat * 5 + 1, none⟩ = some (.int .i64 ((rd_T63 y320 a1_1).f1)) := hcc130 1 _ rfl
       have hx130_2 : World.cell? _ ⟨go50, (a1_1 : Int).toNat * 5 + 2, none⟩ = some (.int .i64 ((rd_T63 y320 a1_1).f2)) := hcc130 2 _ rfl
       have hx130_3 : World.cell? _ ⟨go50, (a1_1 : Int).toNat * 5 + 3, none⟩ = some (.int .i64 ((rd_T63 y320 a1_1).f3)) := hcc130 3 _ rfl
       have hx130_4 : World.cell? _ ⟨go50, (a1_1 : Int).toNat * 5 + 4, none⟩ = some (.int .i64 ((rd_T63 y320 a1_1).f4)) := hcc130 4 _ rfl
       have hf130_0 : World.frozen? _ ⟨go50, (a1_1 : Int).toNat * 5, none⟩ = false := hfr130 0
       have hf130_1 : World.frozen? _ ⟨go50, (a1_1 : Int).toNat * 5 + 1, none⟩ = false := hfr130 1
       have hf130_2 : World.frozen? _ ⟨go50, (a1_1 : Int).toNat * 5 + 2, none⟩ = false := hfr130 2
       have hf130_3 : World.frozen? _ ⟨go50, (a1_1 : Int).toNat * 5 + 3, none⟩ = false := hfr130 3
       have hf130_4 : World.frozen? _ ⟨go50, (a1_1 : Int).toNat * 5 + 4, none⟩ = false := hfr130 4
       (try clear hM130); clear hcl130 hcc130 hfr130
       replace p130 := eq_true p130; replace q130 := eq_true q130
       obtain ⟨ce143, hcl143, hM143, hcc143, hfr143⟩ := Kd.R_elem HO_11.out z63 (a1_1 : Int) (of_decide_eq_true (by first | (with_reducible assumption) | assumption)) (by have h_ : (a1_1 : Int) < ((x11_3.length : Int) : Int) := of_decide_eq_true (by first | (with_reducible assumption) | assumption); first | exact h_ | (have e_ := (Kd.R_reads' HO_11.out).1; omega) | simpa using h_)
       obtain rfl := k63_openM hM143
       have HP143 := (Kd.R_seg HO_11.out (a1_1 : Int) (of_decide_eq_true (by first | (with_reducible assumption) | assumption)) (by have h_ : (a1_1 : Int) < ((x11_3.length : Int) : Int) := of_decide_eq_true (by first | (with_reducible assumption) | assumption); first | exact h_ | (have e_ := (Kd.R_reads' HO_11.out).1; omega) | simpa using h_) (seg := [.int .i64 (wrap64 (((rd_T63 y320 a1_1).f4) + (wrap64 (10 * a1_3))))]) (j := 4) hcl143 hcc143 (show 5 ≤ 5 from by decide) (x' := (⟨(rd_T63 y320 a1_1).f0, (rd_T63 y320 a1_1).f1, (rd_T63 y320 a1_1).f2, (rd_T63 y320 a1_1).f3, wrap64 (((rd_T63 y320 a1_1).f4) + (wrap64 (10 * a1_3)))⟩ : S63)) (k63_mkM _ _ _ (⟨(rd_T63 y320 a1_1).f0, (rd_T63 y320 a1_1).f1, (rd_T63 y320 a1_1).f2, (rd_T63 y320 a1_1).f3, wrap64 (((rd_T63 y320 a1_1).f4) + (wrap64 (10 * a1_3)))⟩ : S63) ) (fun _ hk => hk)).1
       rw [← Ny322.out] at HP143
       have HQ143 := Aside0.mk HP143
       clear hcl143 hcc143 hfr143 hM143 HP143
       refine start_ (n := 11) (S := fun w' => w'.cell? ⟨gb283, 0, none⟩ = some (.int .i64 a1_0) ∧ w'.cell? ⟨gb283, 1, none⟩ = some (.int .i64 a1_1) ∧ w'.cell? ⟨gb283, 2, none⟩ = some (.int .i64 a1_2) ∧ w'.cell? ⟨gb283, 3, none⟩ = some (.int .i64 a1_3) ∧ w'.cell? ⟨go50, (a1_1).toNat * 5, none⟩ = some (.int .i64 ((rd_T63 y320 a1_1).f0)) ∧ w'.cell? ⟨go50, (a1_1).toNat * 5 + 1, none⟩ = some (.int .i64 ((rd_T63 y320 a1_1).f1)) ∧ w'.cell? ⟨go50, (a1_1).toNat * 5 + 2, none⟩ = some (.int .i64 ((rd_T63 y320 a1_1).f2)) ∧ w'.cell? ⟨go50, (a1_1).toNat * 5 + 3, none⟩ = some (.int .i64 ((rd_T63 y320 a1_1).f3)) ∧ w'.cell? ⟨go50, (a1_1).toNat * 5 + 4, none⟩ = some (.int .i64 ((rd_T63 y320 a1_1).f4))) (ds := [10]) (bs 11 0) (by kernel_rfl) rfl rfl ⟨bc_ BK283.out 0, bc_ BK283.out 1, bc_ BK283.out 2, bc_ BK283.out 3, hx321_0, hx321_1, hx321_2, hx321_3, hx321_4⟩ (fun hHeld => ?_); refine with_tabW impl_CargoStep.tab30 impl_CargoStep.bits30 (fun HT_ HW_ => ?_)
       generalize w141.drew = w142 at HO_8 HO_11 BK283 HB HQ139 HQ143 hf130_0 hf130_1 hf130_2 hf130_3 hf130_4 hx130_0 hx130_1 hx130_2 hx130_3 hx130_4 hx321_0 hx321_1 hx321_2 hx321_3 hx321_4 hHeld ⊢
       refine pu_ 0 175 HT_ (bs 11 1) rfl rfl ?_
       refine pu_ 1 176 HT_ (bs 11 3) rfl rfl ?_
       refine pu_ 2 177 HT_ (bs 11 7) rfl rfl ?_
       refine pu_ 4 179 HT_ (bs 11 23) rfl rfl ?_
       refine take_ (i := 3) (N := some 178) (v := ?_) (a' := ?_) (bs 11 31) rfl rfl (take_ofW HT_.out HW_.out (by kernel_rfl)) (fun _ _ _ h => h) (Or.inl ⟨by rfl, ?_⟩) hHeld ?_ ?_
       rotate_left
       ·rintro w' ⟨s0, s1, s2, s3, s4, s5, s6, s7, s8⟩
        go_simp
        with_reducible rfl
       rotate_left
       ·simp only [Act.put, sA_, sZ_, sS_, i64_w, i32_w]
        rfl
       refine take_ (i := 5) (N := some 180) (v := ?_) (a' := ?_) (bs 11 63) rfl rfl (take_ofW HT_.out HW_.out (by kernel_rfl)) (fun _ _ _ h => h) (Or.inl ⟨by rfl, ?_⟩) hHeld ?_ ?_
       rotate_left
       ·rintro w' ⟨s0, s1, s2, s3, s4, s5, s6, s7, s8⟩
        go_simp
        with_reducible rfl
       rotate_left
       ·simp only [Act.put, sA_, sZ_, sS_, i64_w, i32_w]
        rfl
       refine pu_ 6 181 HT_ (bs 11 127) rfl rfl ?_
       refine pu_ 7 182 HT_ (bs 11 255) rfl rfl ?_
       refine pu_ 8 183 HT_ (bs 11 511) rfl rfl ?_
       refine pu_ 9 184 HT_ (bs 11 1023) rfl rfl ?_
       refine last_ (i := 10) (N := none) (bs 11 2047) rfl rfl (one_of HT_.out (by kernel_rfl)) (by decide) (fun K hK => ?_)
       refine skip_ (w1 := ?_) (by rfl) rfl ?_ ?_
       rotate_left
       ·go_simp
        rfl
       refine hK.out _ _ ?_
       clear hK K
       refine done_ (done_of HT_.out (by kernel_rfl)) ?_
       go_upto_region 31 with (fail)
       go_cut [199] (fun v199 wc => ∃ (kq : Nat) (x199_130 : Bool), v199 = .bool x199_130 ∧ Aside0 (impl_CargoStep.j7 kq l0 a2 x8_3 y322 x199_130 = some (r1, r2)) ∧ Aside0 (kq ≤ kj3) ∧ Aside0 (Kd.R k63 63 wc w.heap.size (fun k_ => some k_ ≠ ((.slice (some ⟨go50, 0, none⟩) x11_3.length co50) : Value).ownBlock) u8 x8_3) ∧ Aside0 (Kd.R k63 63 wc w.heap.size (fun k_ => nB_ (u8) k_) (.slice (some ⟨go50, 0, none⟩) x11_3.length co50) y322) ∧ Aside0 (wc.heap[gb283]? = some (.cells #[.int .i64 a1_0, .int .i64 a1_1, .int .i64 a1_2, .int .i64 a1_3] 61 (0, 0))) ∧ Aside0 (Below w.heap.size w wc))
       case first =>
        have H := HC131.out
        clear HC131; replace H := Option.bind_eq_some_iff.mp H
        obtain ⟨t324, A1450, H⟩ := H
        replace H : (if t324 = true then (impl_CargoStep.j7 kj3 l0 a2 x8_3 y322 true) else (impl_CargoStep.j7 kj3 l0 a2 x8_3 y322 false)) = some (r1, r2) := H
        have A145 := Aside0.mk A1450
        clear A1450
        by_cases c146 : t324 = true
        ·subst c146
         have H1 : (impl_CargoStep.j7 kj3 l0 a2 x8_3 y322 true) = some (r1, r2) := by rw [if_pos rfl] at H; exact H
         clear H
         have H := H1
         clear H1
         have H' := Aside0.mk H
         clear H
         have p144 : 0 ≤ (a1_1 : Int) := of_decide_eq_true (by first | (with_reducible assumption) | assumption)
         have q144 : (a1_1 : Int) < ((x11_3.length : Int) : Int) := of_decide_eq_true (by first | (with_reducible assumption) | assumption)
         replace p144 := eq_true p144; replace q144 := eq_true q144
         go_wp2_with (first | ((with_reducible refine gate_callee (f := 63) rfl ?_); refine goesL_ (some 188) rfl rfl Try.func63 (by kernel_rfl) rfl #[.agg #[.int .i64 ((rd_T63 y320 a1_1).f0), .int .i64 ((rd_T63 y320 a1_1).f1), .int .i64 ((rd_T63 y320 a1_1).f2), .int .i64 ((rd_T63 y320 a1_1).f3), .int .i64 (wrap64 (((rd_T63 y320 a1_1).f4) + (wrap64 (10 * a1_3))))]] rfl ml_ ?_; (with_reducible refine (impl_CargoTank_mayBurn.calls ((rd_T63 y320 a1_1).f0) ((rd_T63 y320 a1_1).f1) ((rd_T63 y320 a1_1).f2) ((rd_T63 y320 a1_1).f3) (wrap64 (((rd_T63 y320 a1_1).f4) + (wrap64 (10 * a1_3)))) true _ A145.out).mono ?_); rintro e w147 ⟨rfl, hb⟩; refine ⟨_, rfl, ?_⟩; replace HO_8 := Aside0.mk (Kd.R_below (by (with_reducible repeat (first | apply Kd.R_alloc | apply Kd.R_drewN | apply Kd.R_drew)); exact (Kd.R_mono (Kd.R_far (p := ⟨go50, (a1_1 : Int).toNat * 5 + 4, none⟩) (Kd.R_mono HO_8.out (fun k_ hk => (⟨hk, fun e_ => hk (by rw [e_]; rfl)⟩ : _ ∧ k_ ≠ go50))) (fun _ hk => hk.2) (.int .i64 (wrap64 (((rd_T63 y320 a1_1).f4) + (wrap64 (10 * a1_3)))))) (fun _ h_ => h_.1))) hb); replace BK283 := Aside0.mk (blk_below (g := gb283) (o := .cells #[.int .i64 a1_0, .int .i64 a1_1, .int .i64 a1_2, .int .i64 a1_3] 61 (0, 0)) (by refine rp_ ?_; refine blk_far ?_ (by have h_ := Kd.R_ne HO_11.out BK283.out (by decide); intro e_; exact h_ (by rw [e_]; rfl)) _; refine rp_ ?_; exact BK283.out) hb); replace HO_11 := Aside0.mk (Kd.R_below (fr_ HQ143.out) hb); replace HB := Aside0.mk (below_step (by repeat (first | (with_reducible first | exact HB.out | apply below_alloc | apply pw_below_drewN | apply below_drew1 | refine below_set ?_ GB50.out | refine below_set ?_ GE283.out) | exact HB.out)) hb); (try clear hb); (try clear hb2); (try clear hk); (try clear hi)))
         go_meet
         case rel => exact ⟨_, (true), rl_, H', ⟨by have := HJ3.out; first | omega | exact Nat.le_refl _⟩, ⟨fr_ HO_8.out⟩, ⟨fr_ HO_11.out⟩, ⟨fb_ BK283.out⟩, ⟨bel_ HB.out⟩⟩
        case neg =>
        replace c146 := Bool.eq_false_iff.mpr c146
        subst c146
        have H1 : (impl_CargoStep.j7 kj3 l0 a2 x8_3 y322 false) = some (r1, r2) := by rw [if_neg (show ¬ (false = true) by decide)] at H; exact H
        clear H
        have H := H1
        clear H1
        have H' := Aside0.mk H
        clear H
        have p144 : 0 ≤ (a1_1 : Int) := of_decide_eq_true (by first | (with_reducible assumption) | assumption)
        have q144 : (a1_1 : Int) < ((x11_3.length : Int) : Int) := of_decide_eq_true (by first | (with_reducible assumption) | assumption)
        replace p144 := eq_true p144; replace q144 := eq_true q144
        go_wp2_with (first | ((with_reducible refine gate_callee (f := 63) rfl ?_); refine goesL_ (some 188) rfl rfl Try.func63 (by kernel_rfl) rfl #[.agg #[.int .i64 ((rd_T63 y320 a1_1).f0), .int .i64 ((rd_T63 y320 a1_1).f1), .int .i64 ((rd_T63 y320 a1_1).f2), .int .i64 ((rd_T63 y320 a1_1).f3), .int .i64 (wrap64 (((rd_T63 y320 a1_1).f4) + (wrap64 (10 * a1_3))))]] rfl ml_ ?_; (with_reducible refine (impl_CargoTank_mayBurn.calls ((rd_T63 y320 a1_1).f0) ((rd_T63 y320 a1_1).f1) ((rd_T63 y320 a1_1).f2) ((rd_T63 y320 a1_1).f3) (wrap64 (((rd_T63 y320 a1_1).f4) + (wrap64 (10 * a1_3)))) false _ A145.out).mono ?_); rintro e w148 ⟨rfl, hb⟩; refine ⟨_, rfl, ?_⟩; replace HO_8 := Aside0.mk (Kd.R_below (by (with_reducible repeat (first | apply Kd.R_alloc | apply Kd.R_drewN | apply Kd.R_drew)); exact (Kd.R_mono (Kd.R_far (p := ⟨go50, (a1_1 : Int).toNat * 5 + 4, none⟩) (Kd.R_mono HO_8.out (fun k_ hk => (⟨hk, fun e_ => hk (by rw [e_]; rfl)⟩ : _ ∧ k_ ≠ go50))) (fun _ hk => hk.2) (.int .i64 (wrap64 (((rd_T63 y320 a1_1).f4) + (wrap64 (10 * a1_3)))))) (fun _ h_ => h_.1))) hb); replace BK283 := Aside0.mk (blk_below (g := gb283) (o := .cells #[.int .i64 a1_0, .int .i64 a1_1, .int .i64 a1_2, .int .i64 a1_3] 61 (0, 0)) (by refine rp_ ?_; refine blk_far ?_ (by have h_ := Kd.R_ne HO_11.out BK283.out (by decide); intro e_; exact h_ (by rw [e_]; rfl)) _; refine rp_ ?_; exact BK283.out) hb); replace HO_11 := Aside0.mk (Kd.R_below (fr_ HQ143.out) hb); replace HB := Aside0.mk (below_step (by repeat (first | (with_reducible first | exact HB.out | apply below_alloc | apply pw_below_drewN | apply below_drew1 | refine below_set ?_ GB50.out | refine below_set ?_ GE283.out) | exact HB.out)) hb); (try clear hb); (try clear hb2); (try clear hk); (try clear hi); have hcz149_0 : w148.cell? ⟨gb283, 0, none⟩ = some (.int .i64 a1_0) := bc_ BK283.out 0; have hcz149_1 : w148.cell? ⟨gb283, 1, none⟩ = some (.int .i64 a1_1) := bc_ BK283.out 1; have hcz149_2 : w148.cell? ⟨gb283, 2, none⟩ = some (.int .i64 a1_2) := bc_ BK283.out 2; have hcz149_3 : w148.cell? ⟨gb283, 3, none⟩ = some (.int .i64 a1_3) := bc_ BK283.out 3; have hfz149_0 := blk_frozen BK283.out 0; have hfz149_1 := blk_frozen BK283.out 1; have hfz149_2 := blk_frozen BK283.out 2; have hfz149_3 := blk_frozen BK283.out 3))
        go_meet
        case rel => exact ⟨_, (false), rl_, H', ⟨by have := HJ3.out; first | omega | exact Nat.le_refl _⟩, ⟨fr_ HO_8.out⟩, ⟨fr_ HO_11.out⟩, ⟨fb_ BK283.out⟩, ⟨bel_ HB.out⟩⟩
       case rest =>
       clear HC131
       try clear p127
       try clear q127
       try clear p128
       try clear q128
       try clear p130
       try clear q130
       try clear hcz140_0
       try clear hcz140_1
       try clear hcz140_2
       try clear hcz140_3
       try clear hfz140_0
       try clear hfz140_1
       try clear hfz140_2
       try clear hfz140_3
       try clear hx127_0
       try clear hx127_1
       try clear hx127_2
       try clear hx127_3
       try clear hx127_4
       try clear hx128_0
       try clear hx128_1
       try clear hx128_2
       try clear hx128_3
       try clear hx128_4
       try clear hx130_0
       try clear hx130_1
       try clear hx130_2
       try clear hx130_3
       try clear hx130_4
       try clear hx317_0
       try clear hx317_1
       try clear hx317_2
       try clear hx317_3
       try clear hx317_4
       try clear hx319_0
       try clear hx319_1
       try clear hx319_2
       try clear hx319_3
       try clear hx319_4
       try clear hx321_0
       try clear hx321_1
       try clear hx321_2
       try clear hx321_3
       try clear hx321_4
       try clear p127
       try clear p128
       try clear p130
       try clear p317
       try clear p319
       try clear p321
       try clear q127
       try clear q128
       try clear q130
       try clear q317
       try clear q319
       try clear q321
       obtain ⟨kq, x199_130, rfl, HA, HJ130, HO_8, HO_11, BK283, HB⟩ := hcut
       have hl11_130 := (Kd.R_reads' HO_11.out).1
       rw [hl11_130] at HO_11
       (try simp only [hl11_130])
       (try simp only [hl11_130] at BK283)
       (try simp only [hl11_130] at HO_8)
       cases kq with
       | zero => exact absurd HA.out (by simp [impl_CargoStep.j7])
       | succ kj130 =>
        have H := HA.out
        clear HA
        simp only [impl_CargoStep.j7] at H
        by_cases c150 : x199_130 = true
        ·subst c150
         have H1 : (some (x8_3, 4)) = some (r1, r2) := by rw [if_pos rfl] at H; exact H
         clear H
         have H := H1
         clear H1
         simp only [Option.some.injEq, Prod.mk.injEq] at H
         obtain ⟨rfl, rfl⟩ := H
         go_wp2
         go_ret2
         exact ⟨_, by first | rfl | (simp [errW_none, errW_some] <;> rfl) | (simp [*, errW_none, errW_some] <;> rfl), by (with_reducible repeat (first | apply Kd.R_alloc | apply Kd.R_drewN | apply Kd.R_drew)); exact Kd.R_mono HO_8.out (fun _ hk => trivial), bel_ HB.out⟩
        case neg =>
        replace c150 := Bool.eq_false_iff.mpr c150
        subst c150
        have H1 : (impl_CargoStep.j9 kj130 l0 a2 x8_3 y322) = some (r1, r2) := by rw [if_neg (show ¬ (false = true) by decide)] at H; exact H
        clear H
        have H := H1
        clear H1
        have H' := Aside0.mk H
        clear H
        go_wp2
        (try simp only [← hl11_130])
        refine hD_ _ _ ?_
        refine Met.intro (hJ_ _ _ (chap_in (by kernel_rfl) ?rel))
        case rel => (try simp only [List.getD_cons_zero, List.getD_cons_succ]); exact ⟨_, (x8_3), (y322), H', ⟨by have := HJ3.out; have := HJ130.out; first | omega | exact Nat.le_refl _⟩, ⟨by (try simp only [hl11_130]); (with_reducible repeat (first | apply Kd.R_alloc | apply Kd.R_drewN | apply Kd.R_drew)); exact HO_8.out⟩, ⟨by (try simp only [hl11_130]); (with_reducible repeat (first | apply Kd.R_alloc | apply Kd.R_drewN | apply Kd.R_drew)); exact HO_11.out⟩, ⟨by (try simp only [hl11_130]); refine rp_ ?_; exact BK283.out⟩, ⟨bel_ HB.out⟩⟩
      case neg =>
      rw [if_neg c129] at H
      have c129b0 : (a1_0 == 5) = false := beq_eq_false_iff_ne.mpr c129
      have c129b1 : (a1_0 != 5) = true := bne_iff_ne.mpr c129
      have HC151 := Aside0.mk H
      clear H; have hcz152_0 : wc.cell? ⟨gb283, 0, none⟩ = some (.int .i64 a1_0) := bc_ BK283.out 0; have hcz152_1 : wc.cell? ⟨gb283, 1, none⟩ = some (.int .i64 a1_1) := bc_ BK283.out 1; have hcz152_2 : wc.cell? ⟨gb283, 2, none⟩ = some (.int .i64 a1_2) := bc_ BK283.out 2; have hcz152_3 : wc.cell? ⟨gb283, 3, none⟩ = some (.int .i64 a1_3) := bc_ BK283.out 3; have hfz152_0 := blk_frozen BK283.out 0; have hfz152_1 := blk_frozen BK283.out 1; have hfz152_2 := blk_frozen BK283.out 2; have hfz152_3 := blk_frozen BK283.out 3
      have p50 : 0 ≤ (a1_1 : Int) := of_decide_eq_true (by first | (with_reducible assumption) | assumption)
      have q50 : (a1_1 : Int) < ((x11_3.length : Int) : Int) := of_decide_eq_true (by first | (with_reducible assumption) | assumption)
      obtain ⟨go50, co50, eo50, gb50, gl50, cl50, HG50⟩ := Kd.R_form HO_11.out (by omega)
      (first | cases eo50 | (injection eo50 with ea_ en_ ec_; (first | subst ea_ | (injection ea_ with ea_; subst ea_)); subst ec_; clear en_))
      have GB50 := Aside0.mk gb50
      have GG50 := Aside0.mk HG50
      clear gb50 gl50 HG50; replace p50 := eq_true p50; replace q50 := eq_true q50
      try go_wp2
      replace HO_8 := Aside0.mk (Kd.R_drew HO_8.out); replace HO_11 := Aside0.mk (Kd.R_drew HO_11.out); replace BK283 := Aside0.mk (blk_drew BK283.out); replace HB := Aside0.mk (below_drew1 HB.out)
      refine start_ (n := 12) (S := fun w' => True) (ds := []) (bs 12 0) (by kernel_rfl) rfl rfl trivial (fun hHeld => ?_); refine with_tabW impl_CargoStep.tab18 impl_CargoStep.bits18 (fun HT_ HW_ => ?_)
      generalize wc.drew = w153 at HO_8 HO_11 BK283 HB hHeld ⊢
      refine pu_ 0 99 HT_ (bs 12 1) rfl rfl ?_
      refine pu_ 1 100 HT_ (bs 12 3) rfl rfl ?_
      refine pu_ 2 101 HT_ (bs 12 7) rfl rfl ?_
      refine pn_ 3 102 HT_ (bs 12 15) rfl rfl ?_
      refine pn_ 4 103 HT_ (bs 12 31) rfl rfl ?_
      refine pn_ 5 104 HT_ (bs 12 63) rfl rfl ?_
      refine pn_ 6 105 HT_ (bs 12 127) rfl rfl ?_
      refine pn_ 7 106 HT_ (bs 12 255) rfl rfl ?_
      refine pn_ 8 107 HT_ (bs 12 511) rfl rfl ?_
      refine pn_ 9 108 HT_ (bs 12 1023) rfl rfl ?_
      refine pu_ 10 109 HT_ (bs 12 2047) rfl rfl ?_
      refine pu_ 11 98 HT_ (bs 12 4095) rfl rfl ?_
      refine done_ (done_of HT_.out (by kernel_rfl)) ?_
      try go_wp2
      replace HO_8 := Aside0.mk (Kd.R_drew HO_8.out); replace HO_11 := Aside0.mk (Kd.R_drew HO_11.out); replace BK283 := Aside0.mk (blk_drew BK283.out); replace HB := Aside0.mk (below_drew1 HB.out)
      refine start_ (n := 17) (S := fun w' => True) (ds := []) (bs 17 0) (by kernel_rfl) rfl rfl trivial (fun hHeld => ?_); refine with_tabW impl_CargoStep.tab20 impl_CargoStep.bits20 (fun HT_ HW_ => ?_)
      generalize w153.drew = w154 at HO_8 HO_11 BK283 HB hHeld ⊢
      refine pu_ 0 112 HT_ (bs 17 1) rfl rfl ?_
      refine pu_ 1 113 HT_ (bs 17 3) rfl rfl ?_
      refine pu_ 2 114 HT_ (bs 17 7) rfl rfl ?_
      refine pn_ 3 115 HT_ (bs 17 15) rfl rfl ?_
      refine pn_ 4 116 HT_ (bs 17 31) rfl rfl ?_
      refine pn_ 5 117 HT_ (bs 17 63) rfl rfl ?_
      refine pn_ 6 118 HT_ (bs 17 127) rfl rfl ?_
      refine pn_ 7 119 HT_ (bs 17 255) rfl rfl ?_
      refine pn_ 8 120 HT_ (bs 17 511) rfl rfl ?_
      refine pn_ 9 121 HT_ (bs 17 1023) rfl rfl ?_
      refine pn_ 10 122 HT_ (bs 17 2047) rfl rfl ?_
      refine pn_ 11 123 HT_ (bs 17 4095) rfl rfl ?_
      refine pn_ 12 124 HT_ (bs 17 8191) rfl rfl ?_
      refine pn_ 13 125 HT_ (bs 17 16383) rfl rfl ?_
      refine pn_ 14 126 HT_ (bs 17 32767) rfl rfl ?_
      refine pu_ 15 127 HT_ (bs 17 65535) rfl rfl ?_
      refine pu_ 16 111 HT_ (bs 17 131071) rfl rfl ?_
      refine done_ (done_of HT_.out (by kernel_rfl)) ?_
      try go_wp2
      replace HO_8 := Aside0.mk (Kd.R_drew HO_8.out); replace HO_11 := Aside0.mk (Kd.R_drew HO_11.out); replace BK283 := Aside0.mk (blk_drew BK283.out); replace HB := Aside0.mk (below_drew1 HB.out)
      have p317 : 0 ≤ (a1_1 : Int) := of_decide_eq_true (by first | (with_reducible assumption) | assumption)
      have q317 : a1_1 < (x11_3.length : Int) := of_decide_eq_true (by first | (with_reducible assumption) | assumption)
      obtain ⟨ad317, e317, hx317_0, hx317_1, hx317_2, hx317_3, hx317_4⟩ := at_T63 (Kd.R_reads' HO_11.out).2.2 a1_1 p317 q317
      obtain rfl : (⟨go50, 0, none⟩ : Addr) = ad317 := (by injection e317)
      (try simp only [add_plain] at hx317_0 hx317_1 hx317_2 hx317_3 hx317_4)
      replace p317 := eq_true p317; replace q317 := eq_true q317
      have p127 : 0 ≤ (a1_1 : Int) := of_decide_eq_true (by first | (with_reducible assumption) | assumption)
      have q127 : (a1_1 : Int) < ((x11_3.length : Int) : Int) := of_decide_eq_true (by first | (with_reducible assumption) | assumption)
      obtain ⟨ce127, hcl127, hM127, hcc127, hfr127⟩ := Kd.R_elem HO_11.out z63 (a1_1 : Int) p127 q127
      obtain rfl := k63_openM hM127
      have hx127_0 : World.cell? _ ⟨go50, (a1_1 : Int).toNat * 5, none⟩ = some (.int .i64 ((rd_T63 x11_3 a1_1).f0)) := hcc127 0 _ rfl
      have hx127_1 : World.cell? _ ⟨go50, (a1_1 : Int).toNat * 5 + 1, none⟩ = some (.int .i64 ((rd_T63 x11_3 a1_1).f1)) := hcc127 1 _ rfl
      have hx127_2 : World.cell? _ ⟨go50, (a1_1 : Int).toNat * 5 + 2, none⟩ = some (.int .i64 ((rd_T63 x11_3 a1_1).f2)) := hcc127 2 _ rfl
      have hx127_3 : World.cell? _ ⟨go50, (a1_1 : Int).toNat * 5 + 3, none⟩ = some (.int .i64 ((rd_T63 x11_3 a1_1).f3)) := hcc127 3 _ rfl
      have hx127_4 : World.cell? _ ⟨go50, (a1_1 : Int).toNat * 5 + 4, none⟩ = some (.int .i64 ((rd_T63 x11_3 a1_1).f4)) := hcc127 4 _ rfl
      have hf127_0 : World.frozen? _ ⟨go50, (a1_1 : Int).toNat * 5, none⟩ = false := hfr127 0
      have hf127_1 : World.frozen? _ ⟨go50, (a1_1 : Int).toNat * 5 + 1, none⟩ = false := hfr127 1
      have hf127_2 : World.frozen? _ ⟨go50, (a1_1 : Int).toNat * 5 + 2, none⟩ = false := hfr127 2
      have hf127_3 : World.frozen? _ ⟨go50, (a1_1 : Int).toNat * 5 + 3, none⟩ = false := hfr127 3
      have hf127_4 : World.frozen? _ ⟨go50, (a1_1 : Int).toNat * 5 + 4, none⟩ = false := hfr127 4
      (try clear hM127); clear hcl127 hcc127 hfr127
      replace p127 := eq_true p127; replace q127 := eq_true q127
      obtain ⟨ce156, hcl156, hM156, hcc156, hfr156⟩ := Kd.R_elem HO_11.out z63 (a1_1 : Int) (of_decide_eq_true (by first | (with_reducible assumption) | assumption)) (by have h_ : (a1_1 : Int) < ((x11_3.length : Int) : Int) := of_decide_eq_true (by first | (with_reducible assumption) | assumption); first | exact h_ | (have e_ := (Kd.R_reads' HO_11.out).1; omega) | simpa using h_)
      obtain rfl := k63_openM hM156
      have HP156 := (Kd.R_seg HO_11.out (a1_1 : Int) (of_decide_eq_true (by first | (with_reducible assumption) | assumption)) (by have h_ : (a1_1 : Int) < ((x11_3.length : Int) : Int) := of_decide_eq_true (by first | (with_reducible assumption) | assumption); first | exact h_ | (have e_ := (Kd.R_reads' HO_11.out).1; omega) | simpa using h_) (seg := [.int .i64 (wrap64 (Int.tdiv (wrap64 (((rd_T63 x11_3 a1_1).f3) * (wrap64 (100 - a1_3)))) 100))]) (j := 3) hcl156 hcc156 (show 4 ≤ 5 from by decide) (x' := (⟨(rd_T63 x11_3 a1_1).f0, (rd_T63 x11_3 a1_1).f1, (rd_T63 x11_3 a1_1).f2, wrap64 (Int.tdiv (wrap64 (((rd_T63 x11_3 a1_1).f3) * (wrap64 (100 - a1_3)))) 100), (rd_T63 x11_3 a1_1).f4⟩ : S63)) (k63_mkM _ _ _ (⟨(rd_T63 x11_3 a1_1).f0, (rd_T63 x11_3 a1_1).f1, (rd_T63 x11_3 a1_1).f2, wrap64 (Int.tdiv (wrap64 (((rd_T63 x11_3 a1_1).f3) * (wrap64 (100 - a1_3)))) 100), (rd_T63 x11_3 a1_1).f4⟩ : S63) ) (fun _ hk => hk)).1
      rw [← Ny318.out] at HP156
      have HQ156 := Aside0.mk HP156
      clear hcl156 hcc156 hfr156 hM156 HP156
      refine start_ (n := 13) (S := fun w' => w'.cell? ⟨gb283, 0, none⟩ = some (.int .i64 a1_0) ∧ w'.cell? ⟨gb283, 1, none⟩ = some (.int .i64 a1_1) ∧ w'.cell? ⟨gb283, 2, none⟩ = some (.int .i64 a1_2) ∧ w'.cell? ⟨gb283, 3, none⟩ = some (.int .i64 a1_3) ∧ w'.cell? ⟨go50, (a1_1).toNat * 5, none⟩ = some (.int .i64 ((rd_T63 x11_3 a1_1).f0)) ∧ w'.cell? ⟨go50, (a1_1).toNat * 5 + 1, none⟩ = some (.int .i64 ((rd_T63 x11_3 a1_1).f1)) ∧ w'.cell? ⟨go50, (a1_1).toNat * 5 + 2, none⟩ = some (.int .i64 ((rd_T63 x11_3 a1_1).f2)) ∧ w'.cell? ⟨go50, (a1_1).toNat * 5 + 3, none⟩ = some (.int .i64 ((rd_T63 x11_3 a1_1).f3)) ∧ w'.cell? ⟨go50, (a1_1).toNat * 5 + 4, none⟩ = some (.int .i64 ((rd_T63 x11_3 a1_1).f4))) (ds := [12]) (bs 13 0) (by kernel_rfl) rfl rfl ⟨bc_ BK283.out 0, bc_ BK283.out 1, bc_ BK283.out 2, bc_ BK283.out 3, hx317_0, hx317_1, hx317_2, hx317_3, hx317_4⟩ (fun hHeld => ?_); refine with_tabW impl_CargoStep.tab27 impl_CargoStep.bits27 (fun HT_ HW_ => ?_)
      generalize w154.drew = w155 at HO_8 HO_11 BK283 HB HQ156 hf127_0 hf127_1 hf127_2 hf127_3 hf127_4 hx127_0 hx127_1 hx127_2 hx127_3 hx127_4 hx317_0 hx317_1 hx317_2 hx317_3 hx317_4 hHeld ⊢
      refine pu_ 0 148 HT_ (bs 13 1) rfl rfl ?_
      refine pu_ 1 149 HT_ (bs 13 3) rfl rfl ?_
      refine pu_ 2 150 HT_ (bs 13 7) rfl rfl ?_
      refine pu_ 3 151 HT_ (bs 13 15) rfl rfl ?_
      refine pu_ 5 153 HT_ (bs 13 47) rfl rfl ?_
      refine take_ (i := 4) (N := some 152) (v := ?_) (a' := ?_) (bs 13 63) rfl rfl (take_ofW HT_.out HW_.out (by kernel_rfl)) (fun _ _ _ h => h) (Or.inl ⟨by rfl, ?_⟩) hHeld ?_ ?_
      rotate_left
      ·rintro w' ⟨s0, s1, s2, s3, s4, s5, s6, s7, s8⟩
       go_simp
       with_reducible rfl
      rotate_left
      ·simp only [Act.put, sA_, sZ_, sS_, i64_w, i32_w]
       rfl
      refine take_ (i := 6) (N := some 154) (v := ?_) (a' := ?_) (bs 13 127) rfl rfl (take_ofW HT_.out HW_.out (by kernel_rfl)) (fun _ _ _ h => h) (Or.inl ⟨by rfl, ?_⟩) hHeld ?_ ?_
      rotate_left
      ·rintro w' ⟨s0, s1, s2, s3, s4, s5, s6, s7, s8⟩
       go_simp
       with_reducible rfl
      rotate_left
      ·simp only [Act.put, sA_, sZ_, sS_, i64_w, i32_w]
       rfl
      refine pu_ 7 155 HT_ (bs 13 255) rfl rfl ?_
      refine pu_ 8 156 HT_ (bs 13 511) rfl rfl ?_
      refine pu_ 9 157 HT_ (bs 13 1023) rfl rfl ?_
      refine pu_ 10 158 HT_ (bs 13 2047) rfl rfl ?_
      refine pu_ 11 159 HT_ (bs 13 4095) rfl rfl ?_
      refine last_ (i := 12) (N := none) (bs 13 8191) rfl rfl (one_of HT_.out (by kernel_rfl)) (by decide) (fun K hK => ?_)
      refine skip_ (w1 := ?_) (by rfl) rfl ?_ ?_
      rotate_left
      ·go_simp
       rfl
      refine hK.out _ _ ?_
      clear hK K
      refine done_ (done_of HT_.out (by kernel_rfl)) ?_
      try go_wp2
      have n0_ : Aside0 (Kd.R k63 63 (w155.setCell ⟨go50, (a1_1 : Int).toNat * 5 + 3, none⟩ (.int .i64 (wrap64 (Int.tdiv (wrap64 (((rd_T63 x11_3 a1_1).f3) * (wrap64 (100 - a1_3)))) 100)))) w.heap.size (fun k_ => some k_ ≠ (.slice (some ⟨go50, 0, none⟩) x11_3.length co50 : Value).ownBlock) u8 x8_3) := ⟨by (with_reducible repeat (first | apply Kd.R_alloc | apply Kd.R_drewN | apply Kd.R_drew)); exact Kd.R_mono (Kd.R_far (p := ⟨go50, (a1_1 : Int).toNat * 5 + 3, none⟩) (Kd.R_mono HO_8.out (fun k_ hk => (⟨hk, fun e_ => hk (by rw [e_]; rfl)⟩ : _ ∧ k_ ≠ go50))) (fun _ hk => hk.2) (.int .i64 (wrap64 (Int.tdiv (wrap64 (((rd_T63 x11_3 a1_1).f3) * (wrap64 (100 - a1_3)))) 100)))) (fun _ hk => hk.1)⟩
      have n1_ : Aside0 (Kd.R k63 63 (w155.setCell ⟨go50, (a1_1 : Int).toNat * 5 + 3, none⟩ (.int .i64 (wrap64 (Int.tdiv (wrap64 (((rd_T63 x11_3 a1_1).f3) * (wrap64 (100 - a1_3)))) 100)))) w.heap.size (fun k_ => nB_ (u8) k_) (.slice (some ⟨go50, 0, none⟩) x11_3.length co50) y318) := ⟨fr_ HQ156.out⟩
      have n2_ : Aside0 ((w155.setCell ⟨go50, (a1_1 : Int).toNat * 5 + 3, none⟩ (.int .i64 (wrap64 (Int.tdiv (wrap64 (((rd_T63 x11_3 a1_1).f3) * (wrap64 (100 - a1_3)))) 100)))).heap[gb283]? = some (.cells #[.int .i64 a1_0, .int .i64 a1_1, .int .i64 a1_2, .int .i64 a1_3] 61 (0, 0))) := ⟨by refine rp_ ?_; refine blk_far ?_ (by have h_ := Kd.R_ne HO_11.out BK283.out (by decide); intro e_; exact h_ (by rw [e_]; rfl)) _; refine rp_ ?_; exact BK283.out⟩
      have n3_ : Aside0 (Below w.heap.size w (w155.setCell ⟨go50, (a1_1 : Int).toNat * 5 + 3, none⟩ (.int .i64 (wrap64 (Int.tdiv (wrap64 (((rd_T63 x11_3 a1_1).f3) * (wrap64 (100 - a1_3)))) 100))))) := ⟨by repeat (first | (with_reducible first | exact HB.out | apply below_alloc | apply pw_below_drewN | apply below_drew1 | refine below_set ?_ GB50.out | refine below_set ?_ GE283.out) | exact HB.out)⟩
      (try clear HO_8); (try clear HO_11); (try clear BK283); (try clear HB)
      generalize (w155.setCell ⟨go50, (a1_1 : Int).toNat * 5 + 3, none⟩ (.int .i64 (wrap64 (Int.tdiv (wrap64 (((rd_T63 x11_3 a1_1).f3) * (wrap64 (100 - a1_3)))) 100)))) = w157 at n0_ n1_ n2_ n3_ ⊢
      have HO_8 := n0_
      have HO_11 := n1_
      have BK283 := n2_
      have HB := n3_
      clear n0_ n1_ n2_ n3_; replace HO_8 := Aside0.mk (Kd.R_drew HO_8.out); replace HO_11 := Aside0.mk (Kd.R_drew HO_11.out); replace BK283 := Aside0.mk (blk_drew BK283.out); replace HB := Aside0.mk (below_drew1 HB.out)
      have p319 : 0 ≤ (a1_1 : Int) := of_decide_eq_true (by first | (with_reducible assumption) | assumption)
      have q319 : a1_1 < (y318.length : Int) := (by have h_ : (a1_1 : Int) < ((x11_3.length : Int) : Int) := of_decide_eq_true (by first | (with_reducible assumption) | assumption); first | (have e_ := (Kd.R_reads' HO_11.out).1; omega) | simpa only [Ny318.out, List.length_set] using h_)
      have ql319 : ((a1_1 : Int) < ((x11_3.length : Int) : Int)) = True := eq_true (of_decide_eq_true (by first | (with_reducible assumption) | assumption))
      obtain ⟨ad319, e319, hx319_0, hx319_1, hx319_2, hx319_3, hx319_4⟩ := at_T63 (Kd.R_reads' HO_11.out).2.2 a1_1 p319 q319
      obtain rfl : (⟨go50, 0, none⟩ : Addr) = ad319 := (by injection e319)
      (try simp only [add_plain] at hx319_0 hx319_1 hx319_2 hx319_3 hx319_4)
      replace p319 := eq_true p319; replace q319 := eq_true q319
      have p128 : 0 ≤ (a1_1 : Int) := of_decide_eq_true (by first | (with_reducible assumption) | assumption)
      have q128 : (a1_1 : Int) < ((x11_3.length : Int) : Int) := of_decide_eq_true (by first | (with_reducible assumption) | assumption)
      obtain ⟨ce128, hcl128, hM128, hcc128, hfr128⟩ := Kd.R_elem HO_11.out z63 (a1_1 : Int) p128 q128
      obtain rfl := k63_openM hM128
      have hx128_0 : World.cell? _ ⟨go50, (a1_1 : Int).toNat * 5, none⟩ = some (.int .i64 ((rd_T63 y318 a1_1).f0)) := hcc128 0 _ rfl
      have hx128_1 : World.cell? _ ⟨go50, (a1_1 : Int).toNat * 5 + 1, none⟩ = some (.int .i64 ((rd_T63 y318 a1_1).f1)) := hcc128 1 _ rfl
      have hx128_2 : World.cell? _ ⟨go50, (a1_1 : Int).toNat * 5 + 2, none⟩ = some (.int .i64 ((rd_T63 y318 a1_1).f2)) := hcc128 2 _ rfl
      have hx128_3 : World.cell? _ ⟨go50, (a1_1 : Int).toNat * 5 + 3, none⟩ = some (.int .i64 ((rd_T63 y318 a1_1).f3)) := hcc128 3 _ rfl
      have hx128_4 : World.cell? _ ⟨go50, (a1_1 : Int).toNat * 5 + 4, none⟩ = some (.int .i64 ((rd_T63 y318 a1_1).f4)) := hcc128 4 _ rfl
      have hf128_0 : World.frozen? _ ⟨go50, (a1_1 : Int).toNat * 5, none⟩ = false := hfr128 0
      have hf128_1 : World.frozen? _ ⟨go50, (a1_1 : Int).toNat * 5 + 1, none⟩ = false := hfr128 1
      have hf128_2 : World.frozen? _ ⟨go50, (a1_1 : Int).toNat * 5 + 2, none⟩ = false := hfr128 2
      have hf128_3 : World.frozen? _ ⟨go50, (a1_1 : Int).toNat * 5 + 3, none⟩ = false := hfr128 3
      have hf128_4 : World.frozen? _ ⟨go50, (a1_1 : Int).toNat * 5 + 4, none⟩ = false := hfr128 4
      (try clear hM128); clear hcl128 hcc128 hfr128
      replace p128 := eq_true p128; replace q128 := eq_true q128
      obtain ⟨ce159, hcl159, hM159, hcc159, hfr159⟩ := Kd.R_elem HO_11.out z63 (a1_1 : Int) (of_decide_eq_true (by first | (with_reducible assumption) | assumption)) (by have h_ : (a1_1 : Int) < ((x11_3.length : Int) : Int) := of_decide_eq_true (by first | (with_reducible assumption) | assumption); first | exact h_ | (have e_ := (Kd.R_reads' HO_11.out).1; omega) | simpa using h_)
      obtain rfl := k63_openM hM159
      have HP159 := (Kd.R_seg HO_11.out (a1_1 : Int) (of_decide_eq_true (by first | (with_reducible assumption) | assumption)) (by have h_ : (a1_1 : Int) < ((x11_3.length : Int) : Int) := of_decide_eq_true (by first | (with_reducible assumption) | assumption); first | exact h_ | (have e_ := (Kd.R_reads' HO_11.out).1; omega) | simpa using h_) (seg := [.int .i64 (wrap64 (Int.tdiv (wrap64 (((rd_T63 y318 a1_1).f4) * (wrap64 (100 - a1_3)))) 100))]) (j := 4) hcl159 hcc159 (show 5 ≤ 5 from by decide) (x' := (⟨(rd_T63 y318 a1_1).f0, (rd_T63 y318 a1_1).f1, (rd_T63 y318 a1_1).f2, (rd_T63 y318 a1_1).f3, wrap64 (Int.tdiv (wrap64 (((rd_T63 y318 a1_1).f4) * (wrap64 (100 - a1_3)))) 100)⟩ : S63)) (k63_mkM _ _ _ (⟨(rd_T63 y318 a1_1).f0, (rd_T63 y318 a1_1).f1, (rd_T63 y318 a1_1).f2, (rd_T63 y318 a1_1).f3, wrap64 (Int.tdiv (wrap64 (((rd_T63 y318 a1_1).f4) * (wrap64 (100 - a1_3)))) 100)⟩ : S63) ) (fun _ hk => hk)).1
      rw [← Ny320.out] at HP159
      have HQ159 := Aside0.mk HP159
      clear hcl159 hcc159 hfr159 hM159 HP159
      refine start_ (n := 13) (S := fun w' => w'.cell? ⟨gb283, 0, none⟩ = some (.int .i64 a1_0) ∧ w'.cell? ⟨gb283, 1, none⟩ = some (.int .i64 a1_1) ∧ w'.cell? ⟨gb283, 2, none⟩ = some (.int .i64 a1_2) ∧ w'.cell? ⟨gb283, 3, none⟩ = some (.int .i64 a1_3) ∧ w'.cell? ⟨go50, (a1_1).toNat * 5, none⟩ = some (.int .i64 ((rd_T63 y318 a1_1).f0)) ∧ w'.cell? ⟨go50, (a1_1).toNat * 5 + 1, none⟩ = some (.int .i64 ((rd_T63 y318 a1_1).f1)) ∧ w'.cell? ⟨go50, (a1_1).toNat * 5 + 2, none⟩ = some (.int .i64 ((rd_T63 y318 a1_1).f2)) ∧ w'.cell? ⟨go50, (a1_1).toNat * 5 + 3, none⟩ = some (.int .i64 ((rd_T63 y318 a1_1).f3)) ∧ w'.cell? ⟨go50, (a1_1).toNat * 5 + 4, none⟩ = some (.int .i64 ((rd_T63 y318 a1_1).f4))) (ds := [12]) (bs 13 0) (by kernel_rfl) rfl rfl ⟨bc_ BK283.out 0, bc_ BK283.out 1, bc_ BK283.out 2, bc_ BK283.out 3, hx319_0, hx319_1, hx319_2, hx319_3, hx319_4⟩ (fun hHeld => ?_); refine with_tabW impl_CargoStep.tab28 impl_CargoStep.bits28 (fun HT_ HW_ => ?_)
      generalize w157.drew = w158 at HO_8 HO_11 BK283 HB HQ156 HQ159 hf128_0 hf128_1 hf128_2 hf128_3 hf128_4 hx128_0 hx128_1 hx128_2 hx128_3 hx128_4 hx319_0 hx319_1 hx319_2 hx319_3 hx319_4 hHeld ⊢
      refine pu_ 0 160 HT_ (bs 13 1) rfl rfl ?_
      refine pu_ 1 161 HT_ (bs 13 3) rfl rfl ?_
      refine pu_ 2 162 HT_ (bs 13 7) rfl rfl ?_
      refine pu_ 3 163 HT_ (bs 13 15) rfl rfl ?_
      refine pu_ 5 165 HT_ (bs 13 47) rfl rfl ?_
      refine take_ (i := 4) (N := some 164) (v := ?_) (a' := ?_) (bs 13 63) rfl rfl (take_ofW HT_.out HW_.out (by kernel_rfl)) (fun _ _ _ h => h) (Or.inl ⟨by rfl, ?_⟩) hHeld ?_ ?_
      rotate_left
      ·rintro w' ⟨s0, s1, s2, s3, s4, s5, s6, s7, s8⟩
       go_simp
       with_reducible rfl
      rotate_left
      ·simp only [Act.put, sA_, sZ_, sS_, i64_w, i32_w]
       rfl
      refine take_ (i := 6) (N := some 166) (v := ?_) (a' := ?_) (bs 13 127) rfl rfl (take_ofW HT_.out HW_.out (by kernel_rfl)) (fun _ _ _ h => h) (Or.inl ⟨by rfl, ?_⟩) hHeld ?_ ?_
      rotate_left
      ·rintro w' ⟨s0, s1, s2, s3, s4, s5, s6, s7, s8⟩
       go_simp
       with_reducible rfl
      rotate_left
      ·simp only [Act.put, sA_, sZ_, sS_, i64_w, i32_w]
       rfl
      refine pu_ 7 167 HT_ (bs 13 255) rfl rfl ?_
      refine pu_ 8 168 HT_ (bs 13 511) rfl rfl ?_
      refine pu_ 9 169 HT_ (bs 13 1023) rfl rfl ?_
      refine pu_ 10 170 HT_ (bs 13 2047) rfl rfl ?_
      refine pu_ 11 171 HT_ (bs 13 4095) rfl rfl ?_
      refine last_ (i := 12) (N := none) (bs 13 8191) rfl rfl (one_of HT_.out (by kernel_rfl)) (by decide) (fun K hK => ?_)
      refine skip_ (w1 := ?_) (by rfl) rfl ?_ ?_
      rotate_left
      ·go_simp
       rfl
      refine hK.out _ _ ?_
      clear hK K
      refine done_ (done_of HT_.out (by kernel_rfl)) ?_
      have hcz160_0 : w158.cell? ⟨gb283, 0, none⟩ = some (.int .i64 a1_0) := bc_ BK283.out 0; have hcz160_1 : w158.cell? ⟨gb283, 1, none⟩ = some (.int .i64 a1_1) := bc_ BK283.out 1; have hcz160_2 : w158.cell? ⟨gb283, 2, none⟩ = some (.int .i64 a1_2) := bc_ BK283.out 2; have hcz160_3 : w158.cell? ⟨gb283, 3, none⟩ = some (.int .i64 a1_3) := bc_ BK283.out 3; have hfz160_0 := blk_frozen BK283.out 0; have hfz160_1 := blk_frozen BK283.out 1; have hfz160_2 := blk_frozen BK283.out 2; have hfz160_3 := blk_frozen BK283.out 3
      go_upto_region 31 with (fail)
      go_cut [199] (fun v199 wc => ∃ (kq : Nat) (x199_150 : Bool), v199 = .bool x199_150 ∧ Aside0 (impl_CargoStep.j8 kq l0 a2 x8_3 y320 x199_150 = some (r1, r2)) ∧ Aside0 (kq ≤ kj3) ∧ Aside0 (Kd.R k63 63 wc w.heap.size (fun k_ => some k_ ≠ ((.slice (some ⟨go50, 0, none⟩) x11_3.length co50) : Value).ownBlock) u8 x8_3) ∧ Aside0 (Kd.R k63 63 wc w.heap.size (fun k_ => nB_ (u8) k_) (.slice (some ⟨go50, 0, none⟩) x11_3.length co50) y320) ∧ Aside0 (wc.heap[gb283]? = some (.cells #[.int .i64 a1_0, .int .i64 a1_1, .int .i64 a1_2, .int .i64 a1_3] 61 (0, 0))) ∧ Aside0 (Below w.heap.size w wc))
      case first =>
       have H := HC151.out
       clear HC151; replace H := Option.bind_eq_some_iff.mp H
       obtain ⟨t326, A1620, H⟩ := H
       replace H : (if t326 = true then (impl_CargoStep.j8 kj3 l0 a2 x8_3 y320 true) else (impl_CargoStep.j8 kj3 l0 a2 x8_3 y320 false)) = some (r1, r2) := H
       have A162 := Aside0.mk A1620
       clear A1620
       by_cases c163 : t326 = true
       ·subst c163
        have H1 : (impl_CargoStep.j8 kj3 l0 a2 x8_3 y320 true) = some (r1, r2) := by rw [if_pos rfl] at H; exact H
        clear H
        have H := H1
        clear H1
        have H' := Aside0.mk H
        clear H
        have p161 : 0 ≤ (a1_1 : Int) := of_decide_eq_true (by first | (with_reducible assumption) | assumption)
        have q161 : (a1_1 : Int) < ((x11_3.length : Int) : Int) := of_decide_eq_true (by first | (with_reducible assumption) | assumption)
        replace p161 := eq_true p161; replace q161 := eq_true q161
        go_wp2_with (first | ((with_reducible refine gate_callee (f := 63) rfl ?_); refine goesL_ (some 188) rfl rfl Try.func63 (by kernel_rfl) rfl #[.agg #[.int .i64 ((rd_T63 y318 a1_1).f0), .int .i64 ((rd_T63 y318 a1_1).f1), .int .i64 ((rd_T63 y318 a1_1).f2), .int .i64 ((rd_T63 y318 a1_1).f3), .int .i64 (wrap64 (Int.tdiv (wrap64 (((rd_T63 y318 a1_1).f4) * (wrap64 (100 - a1_3)))) 100))]] rfl ml_ ?_; (with_reducible refine (impl_CargoTank_mayBurn.calls ((rd_T63 y318 a1_1).f0) ((rd_T63 y318 a1_1).f1) ((rd_T63 y318 a1_1).f2) ((rd_T63 y318 a1_1).f3) (wrap64 (Int.tdiv (wrap64 (((rd_T63 y318 a1_1).f4) * (wrap64 (100 - a1_3)))) 100)) true _ A162.out).mono ?_); rintro e w164 ⟨rfl, hb⟩; refine ⟨_, rfl, ?_⟩; replace HO_8 := Aside0.mk (Kd.R_below (by (with_reducible repeat (first | apply Kd.R_alloc | apply Kd.R_drewN | apply Kd.R_drew)); exact (Kd.R_mono (Kd.R_far (p := ⟨go50, (a1_1 : Int).toNat * 5 + 4, none⟩) (Kd.R_mono HO_8.out (fun k_ hk => (⟨hk, fun e_ => hk (by rw [e_]; rfl)⟩ : _ ∧ k_ ≠ go50))) (fun _ hk => hk.2) (.int .i64 (wrap64 (Int.tdiv (wrap64 (((rd_T63 y318 a1_1).f4) * (wrap64 (100 - a1_3)))) 100)))) (fun _ h_ => h_.1))) hb); replace BK283 := Aside0.mk (blk_below (g := gb283) (o := .cells #[.int .i64 a1_0, .int .i64 a1_1, .int .i64 a1_2, .int .i64 a1_3] 61 (0, 0)) (by refine rp_ ?_; refine blk_far ?_ (by have h_ := Kd.R_ne HO_11.out BK283.out (by decide); intro e_; exact h_ (by rw [e_]; rfl)) _; refine rp_ ?_; exact BK283.out) hb); replace HO_11 := Aside0.mk (Kd.R_below (fr_ HQ159.out) hb); replace HB := Aside0.mk (below_step (by repeat (first | (with_reducible first | exact HB.out | apply below_alloc | apply pw_below_drewN | apply below_drew1 | refine below_set ?_ GB50.out | refine below_set ?_ GE283.out) | exact HB.out)) hb); (try clear hb); (try clear hb2); (try clear hk); (try clear hi)))
        go_meet
        case rel => exact ⟨_, (true), rl_, H', ⟨by have := HJ3.out; first | omega | exact Nat.le_refl _⟩, ⟨fr_ HO_8.out⟩, ⟨fr_ HO_11.out⟩, ⟨fb_ BK283.out⟩, ⟨bel_ HB.out⟩⟩
       case neg =>
       replace c163 := Bool.eq_false_iff.mpr c163
       subst c163
       have H1 : (impl_CargoStep.j8 kj3 l0 a2 x8_3 y320 false) = some (r1, r2) := by rw [if_neg (show ¬ (false = true) by decide)] at H; exact H
       clear H
       have H := H1
       clear H1
       have H' := Aside0.mk H
       clear H
       have p161 : 0 ≤ (a1_1 : Int) := of_decide_eq_true (by first | (with_reducible assumption) | assumption)
       have q161 : (a1_1 : Int) < ((x11_3.length : Int) : Int) := of_decide_eq_true (by first | (with_reducible assumption) | assumption)
       replace p161 := eq_true p161; replace q161 := eq_true q161
       go_wp2_with (first | ((with_reducible refine gate_callee (f := 63) rfl ?_); refine goesL_ (some 188) rfl rfl Try.func63 (by kernel_rfl) rfl #[.agg #[.int .i64 ((rd_T63 y318 a1_1).f0), .int .i64 ((rd_T63 y318 a1_1).f1), .int .i64 ((rd_T63 y318 a1_1).f2), .int .i64 ((rd_T63 y318 a1_1).f3), .int .i64 (wrap64 (Int.tdiv (wrap64 (((rd_T63 y318 a1_1).f4) * (wrap64 (100 - a1_3)))) 100))]] rfl ml_ ?_; (with_reducible refine (impl_CargoTank_mayBurn.calls ((rd_T63 y318 a1_1).f0) ((rd_T63 y318 a1_1).f1) ((rd_T63 y318 a1_1).f2) ((rd_T63 y318 a1_1).f3) (wrap64 (Int.tdiv (wrap64 (((rd_T63 y318 a1_1).f4) * (wrap64 (100 - a1_3)))) 100)) false _ A162.out).mono ?_); rintro e w165 ⟨rfl, hb⟩; refine ⟨_, rfl, ?_⟩; replace HO_8 := Aside0.mk (Kd.R_below (by (with_reducible repeat (first | apply Kd.R_alloc | apply Kd.R_drewN | apply Kd.R_drew)); exact (Kd.R_mono (Kd.R_far (p := ⟨go50, (a1_1 : Int).toNat * 5 + 4, none⟩) (Kd.R_mono HO_8.out (fun k_ hk => (⟨hk, fun e_ => hk (by rw [e_]; rfl)⟩ : _ ∧ k_ ≠ go50))) (fun _ hk => hk.2) (.int .i64 (wrap64 (Int.tdiv (wrap64 (((rd_T63 y318 a1_1).f4) * (wrap64 (100 - a1_3)))) 100)))) (fun _ h_ => h_.1))) hb); replace BK283 := Aside0.mk (blk_below (g := gb283) (o := .cells #[.int .i64 a1_0, .int .i64 a1_1, .int .i64 a1_2, .int .i64 a1_3] 61 (0, 0)) (by refine rp_ ?_; refine blk_far ?_ (by have h_ := Kd.R_ne HO_11.out BK283.out (by decide); intro e_; exact h_ (by rw [e_]; rfl)) _; refine rp_ ?_; exact BK283.out) hb); replace HO_11 := Aside0.mk (Kd.R_below (fr_ HQ159.out) hb); replace HB := Aside0.mk (below_step (by repeat (first | (with_reducible first | exact HB.out | apply below_alloc | apply pw_below_drewN | apply below_drew1 | refine below_set ?_ GB50.out | refine below_set ?_ GE283.out) | exact HB.out)) hb); (try clear hb); (try clear hb2); (try clear hk); (try clear hi); have hcz166_0 : w165.cell? ⟨gb283, 0, none⟩ = some (.int .i64 a1_0) := bc_ BK283.out 0; have hcz166_1 : w165.cell? ⟨gb283, 1, none⟩ = some (.int .i64 a1_1) := bc_ BK283.out 1; have hcz166_2 : w165.cell? ⟨gb283, 2, none⟩ = some (.int .i64 a1_2) := bc_ BK283.out 2; have hcz166_3 : w165.cell? ⟨gb283, 3, none⟩ = some (.int .i64 a1_3) := bc_ BK283.out 3; have hfz166_0 := blk_frozen BK283.out 0; have hfz166_1 := blk_frozen BK283.out 1; have hfz166_2 := blk_frozen BK283.out 2; have hfz166_3 := blk_frozen BK283.out 3))
       go_meet
       case rel => exact ⟨_, (false), rl_, H', ⟨by have := HJ3.out; first | omega | exact Nat.le_refl _⟩, ⟨fr_ HO_8.out⟩, ⟨fr_ HO_11.out⟩, ⟨fb_ BK283.out⟩, ⟨bel_ HB.out⟩⟩
      case rest =>
      clear HC151
      try clear p50
      try clear q50
      try clear p127
      try clear q127
      try clear p128
      try clear q128
      try clear c129
      try clear c129b0
      try clear c129b1
      try clear hcz152_0
      try clear hcz152_1
      try clear hcz152_2
      try clear hcz152_3
      try clear hcz160_0
      try clear hcz160_1
      try clear hcz160_2
      try clear hcz160_3
      try clear hfz152_0
      try clear hfz152_1
      try clear hfz152_2
      try clear hfz152_3
      try clear hfz160_0
      try clear hfz160_1
      try clear hfz160_2
      try clear hfz160_3
      try clear hx127_0
      try clear hx127_1
      try clear hx127_2
      try clear hx127_3
      try clear hx127_4
      try clear hx128_0
      try clear hx128_1
      try clear hx128_2
      try clear hx128_3
      try clear hx128_4
      try clear hx317_0
      try clear hx317_1
      try clear hx317_2
      try clear hx317_3
      try clear hx317_4
      try clear hx319_0
      try clear hx319_1
      try clear hx319_2
      try clear hx319_3
      try clear hx319_4
      try clear p127
      try clear p128
      try clear p317
      try clear p319
      try clear p50
      try clear q127
      try clear q128
      try clear q317
      try clear q319
      try clear q50
      obtain ⟨kq, x199_150, rfl, HA, HJ150, HO_8, HO_11, BK283, HB⟩ := hcut
      have hl11_150 := (Kd.R_reads' HO_11.out).1
      rw [hl11_150] at HO_11
      (try simp only [hl11_150])
      (try simp only [hl11_150] at BK283)
      (try simp only [hl11_150] at HO_8)
      cases kq with
      | zero => exact absurd HA.out (by simp [impl_CargoStep.j8])
      | succ kj150 =>
       have H := HA.out
       clear HA
       simp only [impl_CargoStep.j8] at H
       by_cases c167 : x199_150 = true
       ·subst c167
        have H1 : (some (x8_3, 4)) = some (r1, r2) := by rw [if_pos rfl] at H; exact H
        clear H
        have H := H1
        clear H1
        simp only [Option.some.injEq, Prod.mk.injEq] at H
        obtain ⟨rfl, rfl⟩ := H
        go_wp2
        go_ret2
        exact ⟨_, by first | rfl | (simp [errW_none, errW_some] <;> rfl) | (simp [*, errW_none, errW_some] <;> rfl), by (with_reducible repeat (first | apply Kd.R_alloc | apply Kd.R_drewN | apply Kd.R_drew)); exact Kd.R_mono HO_8.out (fun _ hk => trivial), bel_ HB.out⟩
       case neg =>
       replace c167 := Bool.eq_false_iff.mpr c167
       subst c167
       have H1 : (impl_CargoStep.j9 kj150 l0 a2 x8_3 y320) = some (r1, r2) := by rw [if_neg (show ¬ (false = true) by decide)] at H; exact H
       clear H
       have H := H1
       clear H1
       have H' := Aside0.mk H
       clear H
       go_wp2
       (try simp only [← hl11_150])
       refine hD_ _ _ ?_
       refine Met.intro (hJ_ _ _ (chap_in (by kernel_rfl) ?rel))
       case rel => (try simp only [List.getD_cons_zero, List.getD_cons_succ]); exact ⟨_, (x8_3), (y320), H', ⟨by have := HJ3.out; have := HJ150.out; first | omega | exact Nat.le_refl _⟩, ⟨by (try simp only [hl11_150]); (with_reducible repeat (first | apply Kd.R_alloc | apply Kd.R_drewN | apply Kd.R_drew)); exact HO_8.out⟩, ⟨by (try simp only [hl11_150]); (with_reducible repeat (first | apply Kd.R_alloc | apply Kd.R_drewN | apply Kd.R_drew)); exact HO_11.out⟩, ⟨by (try simp only [hl11_150]); refine rp_ ?_; exact BK283.out⟩, ⟨bel_ HB.out⟩⟩
     ·rw [if_neg c126] at H
      exact absurd H (by simp)
    ·rw [if_neg c49] at H
     exact absurd H (by simp)
   ·rw [if_neg c48] at H
    exact absurd H (by simp)
  case rest =>
  intro a_ wc hinv
  obtain ⟨uc, hcut, ha⟩ := hinv
  subst ha
  (try dsimp only at hcut)
  (try dsimp only)
  clear HC47
  obtain ⟨kq, x8_46, x11_46, HA, HJ46, HO_8, HO_11, BK283, HB⟩ := hcut
  cases kq with
  | zero => exact absurd HA.out (by simp [impl_CargoStep.j9])
  | succ kj46 =>
   have H := HA.out
   clear HA
   simp only [impl_CargoStep.j9] at H
   replace H := Option.bind_eq_some_iff.mp H
   obtain ⟨t327, A1680, H⟩ := H
   replace H : ((impl_size.f t327).bind fun t328 => (if t328 > a2 then ((impl_leanOf.f kj46 l0).bind fun t329 => ((impl_size.f t329).bind fun t330 => (if t328 > t330 then (some (x8_46, 5)) else (some (x11_46, 0))))) else (some (x11_46, 0)))) = some (r1, r2) := H
   have A168 := Aside0.mk A1680
   clear A1680; replace H := Option.bind_eq_some_iff.mp H
   obtain ⟨t328, A1690, H⟩ := H
   replace H : (if t328 > a2 then ((impl_leanOf.f kj46 l0).bind fun t329 => ((impl_size.f t329).bind fun t330 => (if t328 > t330 then (some (x8_46, 5)) else (some (x11_46, 0))))) else (some (x11_46, 0))) = some (r1, r2) := H
   have A169 := Aside0.mk A1690
   clear A1690
   by_cases c170 : t328 > a2
   ·as_aux_lemma =>
    rw [if_pos c170] at H
    have c170b0 : decide (a2 < t328) = true := decide_eq_true c170
    clear c170; replace H := Option.bind_eq_some_iff.mp H
    obtain ⟨t329, A1710, H⟩ := H
    replace H : ((impl_size.f t329).bind fun t330 => (if t328 > t330 then (some (x8_46, 5)) else (some (x11_46, 0)))) = some (r1, r2) := H
    have A171 := Aside0.mk A1710
    clear A1710; replace H := Option.bind_eq_some_iff.mp H
    obtain ⟨t330, A1720, H⟩ := H
    replace H : (if t328 > t330 then (some (x8_46, 5)) else (some (x11_46, 0))) = some (r1, r2) := H
    have A172 := Aside0.mk A1720
    clear A1720
    by_cases c173 : t328 > t330
    ·rw [if_pos c173] at H
     have c173b0 : decide (t330 < t328) = true := decide_eq_true c173
     clear c173
     simp only [Option.some.injEq, Prod.mk.injEq] at H
     obtain ⟨rfl, rfl⟩ := H
     obtain ⟨Ao174, co174, eo174⟩ := Kd.R_slice HO_11.out
     subst eo174
     go_wp2_with (first | ((with_reducible refine gate_callee (f := 65) rfl ?_); refine goesL_ (some 202) rfl rfl Try.func65 (by kernel_rfl) rfl #[.slice Ao174 x11_46.length co174] rfl ml_ ?_; (with_reducible refine (impl_leanOf.calls kj46 _ _ x11_46 t327 _ ?side1 ?side2 A168.out).mono ?_); (case side1 => exact rc_ (Kd.R_reads' HO_11.out).2.2); (case side2 => exact (Kd.R_reads' HO_11.out).2.1); rintro e w175 ⟨rfl, hb⟩; refine ⟨_, rfl, ?_⟩; replace HO_8 := Aside0.mk (Kd.R_below (fr_ HO_8.out) hb); replace HO_11 := Aside0.mk (Kd.R_below (fr_ HO_11.out) hb); replace BK283 := Aside0.mk (bb_ BK283.out hb); replace HB := Aside0.mk (below_step (bel_ HB.out) hb); (try clear hb); (try clear hb2); (try clear hk); (try clear hi)) | ((with_reducible refine gate_callee (f := 64) rfl ?_); refine goesL_ (some 203) rfl rfl Try.func64 (by kernel_rfl) rfl #[.int .i64 t327] rfl ml_ ?_; (with_reducible refine (impl_size.calls t327 t328 _ A169.out).mono ?_); rintro e w' ⟨rfl, ⟨nd, rfl⟩⟩; refine ⟨_, rfl, ?_⟩) | (go_at_call 65; (with_reducible refine (impl_leanOf.calls kj46 _ _ l0 t329 _ ?side1 ?side2 A171.out).mono ?_); (case side1 => repeat (first | exact (Kd.C_below HR0.out (bel_ HB.out)) | (with_reducible refine Kd.C_alloc ?_ _) | (with_reducible refine Kd.C_drewN ?_ _) | (with_reducible refine Kd.C_drew ?_))); (case side2 => exact HC0.out); rintro e w176 ⟨rfl, hb⟩; replace HO_8 := Aside0.mk (Kd.R_below (fr_ HO_8.out) hb); replace HO_11 := Aside0.mk (Kd.R_below (fr_ HO_11.out) hb); replace BK283 := Aside0.mk (bb_ BK283.out hb); replace HB := Aside0.mk (below_step (bel_ HB.out) hb); (try clear hb); (try clear hb2); (try clear hk); (try clear hi)) | (go_at_call 64; (with_reducible refine (impl_size.calls t329 t330 _ A172.out).mono ?_); rintro e w' ⟨rfl, ⟨nd, rfl⟩⟩))
     go_ret2
     exact ⟨_, by first | rfl | (simp [errW_none, errW_some] <;> rfl) | (simp [*, errW_none, errW_some] <;> rfl), by (with_reducible repeat (first | apply Kd.R_alloc | apply Kd.R_drewN | apply Kd.R_drew)); exact Kd.R_mono HO_8.out (fun _ hk => trivial), bel_ HB.out⟩
    ·rw [if_neg c173] at H
     have c173b0 : decide (t330 < t328) = false := decide_eq_false c173
     clear c173
     simp only [Option.some.injEq, Prod.mk.injEq] at H
     obtain ⟨rfl, rfl⟩ := H
     obtain ⟨Ao177, co177, eo177⟩ := Kd.R_slice HO_11.out
     subst eo177
     go_wp2_with (first | ((with_reducible refine gate_callee (f := 65) rfl ?_); refine goesL_ (some 202) rfl rfl Try.func65 (by kernel_rfl) rfl #[.slice Ao177 x11_46.length co177] rfl ml_ ?_; (with_reducible refine (impl_leanOf.calls kj46 _ _ x11_46 t327 _ ?side1 ?side2 A168.out).mono ?_); (case side1 => exact rc_ (Kd.R_reads' HO_11.out).2.2); (case side2 => exact (Kd.R_reads' HO_11.out).2.1); rintro e w178 ⟨rfl, hb⟩; refine ⟨_, rfl, ?_⟩; replace HO_8 := Aside0.mk (Kd.R_below (fr_ HO_8.out) hb); replace HO_11 := Aside0.mk (Kd.R_below (fr_ HO_11.out) hb); replace BK283 := Aside0.mk (bb_ BK283.out hb); replace HB := Aside0.mk (below_step (bel_ HB.out) hb); (try clear hb); (try clear hb2); (try clear hk); (try clear hi)) | ((with_reducible refine gate_callee (f := 64) rfl ?_); refine goesL_ (some 203) rfl rfl Try.func64 (by kernel_rfl) rfl #[.int .i64 t327] rfl ml_ ?_; (with_reducible refine (impl_size.calls t327 t328 _ A169.out).mono ?_); rintro e w' ⟨rfl, ⟨nd, rfl⟩⟩; refine ⟨_, rfl, ?_⟩) | (go_at_call 65; (with_reducible refine (impl_leanOf.calls kj46 _ _ l0 t329 _ ?side1 ?side2 A171.out).mono ?_); (case side1 => repeat (first | exact (Kd.C_below HR0.out (bel_ HB.out)) | (with_reducible refine Kd.C_alloc ?_ _) | (with_reducible refine Kd.C_drewN ?_ _) | (with_reducible refine Kd.C_drew ?_))); (case side2 => exact HC0.out); rintro e w179 ⟨rfl, hb⟩; replace HO_8 := Aside0.mk (Kd.R_below (fr_ HO_8.out) hb); replace HO_11 := Aside0.mk (Kd.R_below (fr_ HO_11.out) hb); replace BK283 := Aside0.mk (bb_ BK283.out hb); replace HB := Aside0.mk (below_step (bel_ HB.out) hb); (try clear hb); (try clear hb2); (try clear hk); (try clear hi)) | (go_at_call 64; (with_reducible refine (impl_size.calls t329 t330 _ A172.out).mono ?_); rintro e w' ⟨rfl, ⟨nd, rfl⟩⟩))
     go_ret2
     exact ⟨_, by first | rfl | (simp [errW_none, errW_some] <;> rfl) | (simp [*, errW_none, errW_some] <;> rfl), by (with_reducible repeat (first | apply Kd.R_alloc | apply Kd.R_drewN | apply Kd.R_drew)); exact Kd.R_mono HO_11.out (fun _ hk => trivial), bel_ HB.out⟩
   ·rw [if_neg c170] at H
    have c170b0 : decide (a2 < t328) = false := decide_eq_false c170
    clear c170
    simp only [Option.some.injEq, Prod.mk.injEq] at H
    obtain ⟨rfl, rfl⟩ := H
    obtain ⟨Ao180, co180, eo180⟩ := Kd.R_slice HO_11.out
    subst eo180
    go_wp2_with (first | ((with_reducible refine gate_callee (f := 65) rfl ?_); refine goesL_ (some 202) rfl rfl Try.func65 (by kernel_rfl) rfl #[.slice Ao180 x11_46.length co180] rfl ml_ ?_; (with_reducible refine (impl_leanOf.calls kj46 _ _ x11_46 t327 _ ?side1 ?side2 A168.out).mono ?_); (case side1 => exact rc_ (Kd.R_reads' HO_11.out).2.2); (case side2 => exact (Kd.R_reads' HO_11.out).2.1); rintro e w181 ⟨rfl, hb⟩; refine ⟨_, rfl, ?_⟩; replace HO_8 := Aside0.mk (Kd.R_below (fr_ HO_8.out) hb); replace HO_11 := Aside0.mk (Kd.R_below (fr_ HO_11.out) hb); replace BK283 := Aside0.mk (bb_ BK283.out hb); replace HB := Aside0.mk (below_step (bel_ HB.out) hb); (try clear hb); (try clear hb2); (try clear hk); (try clear hi)) | ((with_reducible refine gate_callee (f := 64) rfl ?_); refine goesL_ (some 203) rfl rfl Try.func64 (by kernel_rfl) rfl #[.int .i64 t327] rfl ml_ ?_; (with_reducible refine (impl_size.calls t327 t328 _ A169.out).mono ?_); rintro e w' ⟨rfl, ⟨nd, rfl⟩⟩; refine ⟨_, rfl, ?_⟩))
    go_ret2
    exact ⟨_, by first | rfl | (simp [errW_none, errW_some] <;> rfl) | (simp [*, errW_none, errW_some] <;> rfl), by (with_reducible repeat (first | apply Kd.R_alloc | apply Kd.R_drewN | apply Kd.R_drew)); exact Kd.R_mono HO_11.out (fun _ hk => trivial), bel_ HB.out⟩

end Go.Proofs.Ytlphfhibnbhkfaa.PFnCargo
