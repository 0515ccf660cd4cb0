/- The Lean side of Go functions of this seat: what each answers, and that its run comes to that answer; written by a program of this work. -/
import Derived.Test.YtlphfhibnbhkfaaPFnYardx0
import Derived.Test.YtlphfhibnbhkfaaPFnYardx1
import Derived.Test.YtlphfhibnbhkfaaPFnYardx3
import Derived.Test.YtlphfhibnbhkfaaPFnYardx4
import Derived.Test.YtlphfhibnbhkfaaPFnYardx6
import Derived.Test.YtlphfhibnbhkfaaPFnYardx7
namespace Go.Proofs.Ytlphfhibnbhkfaa.PFnYard
open Go.RowKit Go.Proofs.YtlphfhibnbhkfaaW.PrintWords Go.Proofs.YtlphfhibnbhkfaaW.PrintLast Go.Proofs.YtlphfhibnbhkfaaW.PrintMore
attribute [local go_sem] max2_int min2_int max_two min_two max_three min_three max_four min_four   -- for this text's walks alone
set_option linter.unusedVariables false
set_option linter.unusedSimpArgs false

/-! ### laws_FnYard: function 7 -/
mutual
def laws_FnYard.l0 : Nat → List (S76) → Int → Int → List (List Int) → Int → List (List Int) → Option (Bool)
 | 0, _, _, _, _, _, _ => none
 | k + 1, x4, x6, x271000, x271001, x272000, x272001 => if x6 < (x4.length : Int) then (laws_FnYard.l1 k x4 x6 0 0 x271000 x271001 x272000 x272001) else ((impl_RunYard.f k x271000 x271001 x4).bind fun bt293 => (if (bt293.2.1.length : Int) = (x272001.length : Int) then (laws_FnYard.l3 k x4 bt293.2.2.1 0 x272000 x272001 bt293.1 bt293.2.1) else (some false)))
def laws_FnYard.l1 : Nat → List (S76) → Int → Int → Int → Int → List (List Int) → Int → List (List Int) → Option (Bool)
 | 0, _, _, _, _, _, _, _, _ => none
 | k + 1, x4, x6, x7, x8, x271000, x271001, x272000, x272001 => if x8 < (x272001.length : Int) then (if 0 ≤ x8 then (laws_FnYard.l1 k x4 x6 (wrap64 (x7 + ((rd_L2 x272001 x8).length : Int))) (wrap64 (x8 + 1)) x271000 x271001 x272000 x272001) else (none)) else (if 0 ≤ x6 then (if x6 < (x4.length : Int) then ((impl_FindBox.f k x272000 x272001 ((rd_T76 x4 x6).f1)).bind fun bt274 => (if bt274.2.2 = true then (if 0 ≤ bt274.1 then (if bt274.1 < (x272001.length : Int) then (if 0 ≤ bt274.2.1 then (if bt274.2.1 < ((rd_L2 x272001 bt274.1).length : Int) then (laws_FnYard.j2 k x4 x6 x7 bt274.1 bt274.2.1 bt274.2.2 ((rd (rd_L2 x272001 bt274.1) bt274.2.1) != ((rd_T76 x4 x6).f1)) x271000 x271001 x272000 x272001) else (none)) else (none)) else (none)) else (none)) else (laws_FnYard.j2 k x4 x6 x7 bt274.1 bt274.2.1 bt274.2.2 false x271000 x271001 x272000 x272001))) else (none)) else (none))
def laws_FnYard.j2 : Nat → List (S76) → Int → Int → Int → Int → Bool → Bool → Int → List (List Int) → Int → List (List Int) → Option (Bool)
 | 0, _, _, _, _, _, _, _, _, _, _, _ => none
 | k + 1, x4, x6, x7, x9, x10, x11, x78, x271000, x271001, x272000, x272001 => if x78 = true then (some false) else (if 0 ≤ x6 then (if x6 < (x4.length : Int) then ((impl_DoYard.f x272000 x272001 ((rd_T76 x4 x6).f0) ((rd_T76 x4 x6).f1) ((rd_T76 x4 x6).f2)).bind fun bt281 => ((impl_YardOk.f bt281.1 bt281.2.1).bind fun t288 => (if t288 = true then (laws_FnYard.l2 k x4 x6 x7 x9 x10 x11 bt281.2.2.1 bt281.2.2.2 0 0 x271000 x271001 x272000 x272001 bt281.1 bt281.2.1) else (some false)))) else (none)) else (none))
def laws_FnYard.l2 : Nat → List (S76) → Int → Int → Int → Int → Bool → Int → Int → Int → Int → Int → List (List Int) → Int → List (List Int) → Int → List (List Int) → Option (Bool)
 | 0, _, _, _, _, _, _, _, _, _, _, _, _, _, _, _, _ => none
 | k + 1, x4, x6, x7, x9, x10, x11, x13, x14, x15, x16, x271000, x271001, x272000, x272001, x288000, x288001 => if x16 < (x288001.length : Int) then (if 0 ≤ x16 then (laws_FnYard.l2 k x4 x6 x7 x9 x10 x11 x13 x14 (wrap64 (x15 + ((rd_L2 x288001 x16).length : Int))) (wrap64 (x16 + 1)) x271000 x271001 x272000 x272001 x288000 x288001) else (none)) else (if x14 = 0 then (if 0 ≤ x6 then (if x6 < (x4.length : Int) then (laws_FnYard.j4 k x4 x6 x9 x10 x11 x13 x14 x15 x7 (((rd_T76 x4 x6).f0) == 1) x271000 x271001 x272000 x272001 x288000 x288001) else (none)) else (none)) else (laws_FnYard.j4 k x4 x6 x9 x10 x11 x13 x14 x15 x7 false x271000 x271001 x272000 x272001 x288000 x288001))
def laws_FnYard.j4 : Nat → List (S76) → Int → Int → Int → Bool → Int → Int → Int → Int → Bool → Int → List (List Int) → Int → List (List Int) → Int → List (List Int) → Option (Bool)
 | 0, _, _, _, _, _, _, _, _, _, _, _, _, _, _, _, _ => none
 | k + 1, x4, x6, x9, x10, x11, x13, x14, x15, x17, x117, x271000, x271001, x272000, x272001, x288000, x288001 => if x117 = true then (laws_FnYard.j5 k x4 x6 x9 x10 x11 x13 x14 x15 (wrap64 (x17 + 1)) x271000 x271001 x272000 x272001 x288000 x288001) else (laws_FnYard.j5 k x4 x6 x9 x10 x11 x13 x14 x15 x17 x271000 x271001 x272000 x272001 x288000 x288001)
def laws_FnYard.j5 : Nat → List (S76) → Int → Int → Int → Bool → Int → Int → Int → Int → Int → List (List Int) → Int → List (List Int) → Int → List (List Int) → Option (Bool)
 | 0, _, _, _, _, _, _, _, _, _, _, _, _, _, _, _ => none
 | k + 1, x4, x6, x9, x10, x11, x13, x14, x15, x17, x271000, x271001, x272000, x272001, x288000, x288001 => if x14 = 0 then (if 0 ≤ x6 then (if x6 < (x4.length : Int) then (laws_FnYard.j6 k x4 x6 x9 x10 x11 x13 x15 x17 (((rd_T76 x4 x6).f0) == 2) x271000 x271001 x272000 x272001 x288000 x288001) else (none)) else (none)) else (laws_FnYard.j6 k x4 x6 x9 x10 x11 x13 x15 x17 false x271000 x271001 x272000 x272001 x288000 x288001)
def laws_FnYard.j6 : Nat → List (S76) → Int → Int → Int → Bool → Int → Int → Int → Bool → Int → List (List Int) → Int → List (List Int) → Int → List (List Int) → Option (Bool)
 | 0, _, _, _, _, _, _, _, _, _, _, _, _, _, _, _ => none
 | k + 1, x4, x6, x9, x10, x11, x13, x15, x17, x129, x271000, x271001, x272000, x272001, x288000, x288001 => if x129 = true then (if x11 = true then (if 0 ≤ x9 then (if x9 < (x272001.length : Int) then (laws_FnYard.j7 k x4 x6 x15 (wrap64 (x17 - 1)) (x13 != (wrap64 ((wrap64 (((rd_L2 x272001 x9).length : Int) - x10)) - 1))) x271000 x271001 x288000 x288001) else (none)) else (none)) else (laws_FnYard.j7 k x4 x6 x15 (wrap64 (x17 - 1)) true x271000 x271001 x288000 x288001)) else (if x15 = x17 then (laws_FnYard.l0 k x4 (wrap64 (x6 + 1)) x271000 x271001 x288000 x288001) else (some false))
def laws_FnYard.j7 : Nat → List (S76) → Int → Int → Int → Bool → Int → List (List Int) → Int → List (List Int) → Option (Bool)
 | 0, _, _, _, _, _, _, _, _, _ => none
 | k + 1, x4, x6, x15, x17, x146, x271000, x271001, x288000, x288001 => if x146 = true then (some false) else (if x15 = x17 then (laws_FnYard.l0 k x4 (wrap64 (x6 + 1)) x271000 x271001 x288000 x288001) else (some false))
def laws_FnYard.l3 : Nat → List (S76) → List Int → Int → Int → List (List Int) → Int → List (List Int) → Option (Bool)
 | 0, _, _, _, _, _, _, _ => none
 | k + 1, x4, x19, x21, x272000, x272001, x302000, x302001 => if x21 < (x272001.length : Int) then (if 0 ≤ x21 then (if x21 < (x302001.length : Int) then ((laws_sameInts.f k (rd_L2 x302001 x21) (rd_L2 x272001 x21)).bind fun t304 => (if t304 = true then (laws_FnYard.l3 k x4 x19 (wrap64 (x21 + 1)) x272000 x272001 x302000 x302001) else (some false))) else (none)) else (none)) else (some ((x19.length : Int) == (x4.length : Int)))
end
def laws_FnYard.f (k : Nat) (l0 : List Int) : Option (Bool) := (laws_big.f l0).bind fun t262 => (if t262 = true then (some true) else ((spec_DrawYard.f k l0).bind fun bt263 => (laws_FnYard.l0 k bt263.2.2 0 bt263.1 bt263.2.1 bt263.1 bt263.2.1)))
theorem laws_FnYard.mono_l : ∀ k, (∀ y0 y1 y2 y3 y4 y5, LeO (laws_FnYard.l0 k y0 y1 y2 y3 y4 y5) (laws_FnYard.l0 (k + 1) y0 y1 y2 y3 y4 y5)) ∧ (∀ y0 y1 y2 y3 y4 y5 y6 y7, LeO (laws_FnYard.l1 k y0 y1 y2 y3 y4 y5 y6 y7) (laws_FnYard.l1 (k + 1) y0 y1 y2 y3 y4 y5 y6 y7)) ∧ (∀ y0 y1 y2 y3 y4 y5 y6 y7 y8 y9 y10, LeO (laws_FnYard.j2 k y0 y1 y2 y3 y4 y5 y6 y7 y8 y9 y10) (laws_FnYard.j2 (k + 1) y0 y1 y2 y3 y4 y5 y6 y7 y8 y9 y10)) ∧ (∀ y0 y1 y2 y3 y4 y5 y6 y7 y8 y9 y10 y11 y12 y13 y14 y15, LeO (laws_FnYard.l2 k y0 y1 y2 y3 y4 y5 y6 y7 y8 y9 y10 y11 y12 y13 y14 y15) (laws_FnYard.l2 (k + 1) y0 y1 y2 y3 y4 y5 y6 y7 y8 y9 y10 y11 y12 y13 y14 y15)) ∧ (∀ y0 y1 y2 y3 y4 y5 y6 y7 y8 y9 y10 y11 y12 y13 y14 y15, LeO (laws_FnYard.j4 k y0 y1 y2 y3 y4 y5 y6 y7 y8 y9 y10 y11 y12 y13 y14 y15) (laws_FnYard.j4 (k + 1) y0 y1 y2 y3 y4 y5 y6 y7 y8 y9 y10 y11 y12 y13 y14 y15)) ∧ (∀ y0 y1 y2 y3 y4 y5 y6 y7 y8 y9 y10 y11 y12 y13 y14, LeO (laws_FnYard.j5 k y0 y1 y2 y3 y4 y5 y6 y7 y8 y9 y10 y11 y12 y13 y14) (laws_FnYard.j5 (k + 1) y0 y1 y2 y3 y4 y5 y6 y7 y8 y9 y10 y11 y12 y13 y14)) ∧ (∀ y0 y1 y2 y3 y4 y5 y6 y7 y8 y9 y10 y11 y12 y13 y14, LeO (laws_FnYard.j6 k y0 y1 y2 y3 y4 y5 y6 y7 y8 y9 y10 y11 y12 y13 y14) (laws_FnYard.j6 (k + 1) y0 y1 y2 y3 y4 y5 y6 y7 y8 y9 y10 y11 y12 y13 y14)) ∧ (∀ y0 y1 y2 y3 y4 y5 y6 y7 y8, LeO (laws_FnYard.j7 k y0 y1 y2 y3 y4 y5 y6 y7 y8) (laws_FnYard.j7 (k + 1) y0 y1 y2 y3 y4 y5 y6 y7 y8)) ∧ (∀ y0 y1 y2 y3 y4 y5 y6, LeO (laws_FnYard.l3 k y0 y1 y2 y3 y4 y5 y6) (laws_FnYard.l3 (k + 1) y0 y1 y2 y3 y4 y5 y6))
 | 0 => ⟨fun _ _ _ _ _ _ r h => by simp [laws_FnYard.l0] at h, fun _ _ _ _ _ _ _ _ r h => by simp [laws_FnYard.l1] at h, fun _ _ _ _ _ _ _ _ _ _ _ r h => by simp [laws_FnYard.j2] at h, fun _ _ _ _ _ _ _ _ _ _ _ _ _ _ _ _ r h => by simp [laws_FnYard.l2] at h, fun _ _ _ _ _ _ _ _ _ _ _ _ _ _ _ _ r h => by simp [laws_FnYard.j4] at h, fun _ _ _ _ _ _ _ _ _ _ _ _ _ _ _ r h => by simp [laws_FnYard.j5] at h, fun _ _ _ _ _ _ _ _ _ _ _ _ _ _ _ r h => by simp [laws_FnYard.j6] at h, fun _ _ _ _ _ _ _ _ _ r h => by simp [laws_FnYard.j7] at h, fun _ _ _ _ _ _ _ r h => by simp [laws_FnYard.l3] at h⟩
 | k + 1 => by
  obtain ⟨ih0, ih1, ih2, ih3, ih4, ih5, ih6, ih7, ih8⟩ := laws_FnYard.mono_l k
  refine ⟨?_, ?_, ?_, ?_, ?_, ?_, ?_, ?_, ?_⟩
  ·intro y0 y1 y2 y3 y4 y5
   unfold laws_FnYard.l0
   repeat' first
   | (with_reducible exact ih0 _ _ _ _ _ _)
   | (with_reducible exact ih1 _ _ _ _ _ _ _ _)
   | (with_reducible exact ih2 _ _ _ _ _ _ _ _ _ _ _)
   | (with_reducible exact ih3 _ _ _ _ _ _ _ _ _ _ _ _ _ _ _ _)
   | (with_reducible exact ih4 _ _ _ _ _ _ _ _ _ _ _ _ _ _ _ _)
   | (with_reducible exact ih5 _ _ _ _ _ _ _ _ _ _ _ _ _ _ _)
   | (with_reducible exact ih6 _ _ _ _ _ _ _ _ _ _ _ _ _ _ _)
   | (with_reducible exact ih7 _ _ _ _ _ _ _ _ _)
   | (with_reducible exact ih8 _ _ _ _ _ _ _)
   | (with_reducible exact impl_FindBox.mono _ _ _ _)
   | (with_reducible exact impl_RunYard.mono _ _ _ _)
   | (with_reducible exact laws_sameInts.mono _ _ _)
   | (with_reducible exact spec_DrawYard.mono _ _)
   | (with_reducible exact LeO.refl _)
   | (with_reducible exact LeO.none _)
   | (with_reducible refine LeO.ite ?_ ?_)
   | (with_reducible refine LeO.bind ?_ (fun _ => ?_))
   | exact ih0 _ _ _ _ _ _
   | exact ih1 _ _ _ _ _ _ _ _
   | exact ih2 _ _ _ _ _ _ _ _ _ _ _
   | exact ih3 _ _ _ _ _ _ _ _ _ _ _ _ _ _ _ _
   | exact ih4 _ _ _ _ _ _ _ _ _ _ _ _ _ _ _ _
   | exact ih5 _ _ _ _ _ _ _ _ _ _ _ _ _ _ _
   | exact ih6 _ _ _ _ _ _ _ _ _ _ _ _ _ _ _
   | exact ih7 _ _ _ _ _ _ _ _ _
   | exact ih8 _ _ _ _ _ _ _
   | exact impl_FindBox.mono _ _ _ _
   | exact impl_RunYard.mono _ _ _ _
   | exact laws_sameInts.mono _ _ _
   | exact spec_DrawYard.mono _ _
   | exact LeO.none _
   | refine LeO.ite ?_ ?_
   | refine LeO.bind ?_ (fun _ => ?_)
  ·intro y0 y1 y2 y3 y4 y5 y6 y7
   unfold laws_FnYard.l1
   repeat' first
   | (with_reducible exact ih0 _ _ _ _ _ _)
   | (with_reducible exact ih1 _ _ _ _ _ _ _ _)
   | (with_reducible exact ih2 _ _ _ _ _ _ _ _ _ _ _)
   | (with_reducible exact ih3 _ _ _ _ _ _ _ _ _ _ _ _ _ _ _ _)
   | (with_reducible exact ih4 _ _ _ _ _ _ _ _ _ _ _ _ _ _ _ _)
   | (with_reducible exact ih5 _ _ _ _ _ _ _ _ _ _ _ _ _ _ _)
   | (with_reducible exact ih6 _ _ _ _ _ _ _ _ _ _ _ _ _ _ _)
   | (with_reducible exact ih7 _ _ _ _ _ _ _ _ _)
   | (with_reducible exact ih8 _ _ _ _ _ _ _)
   | (with_reducible exact impl_FindBox.mono _ _ _ _)
   | (with_reducible exact impl_RunYard.mono _ _ _ _)
   | (with_reducible exact laws_sameInts.mono _ _ _)
   | (with_reducible exact spec_DrawYard.mono _ _)
   | (with_reducible exact LeO.refl _)
   | (with_reducible exact LeO.none _)
   | (with_reducible refine LeO.ite ?_ ?_)
   | (with_reducible refine LeO.bind ?_ (fun _ => ?_))
   | exact ih0 _ _ _ _ _ _
   | exact ih1 _ _ _ _ _ _ _ _
   | exact ih2 _ _ _ _ _ _ _ _ _ _ _
   | exact ih3 _ _ _ _ _ _ _ _ _ _ _ _ _ _ _ _
   | exact ih4 _ _ _ _ _ _ _ _ _ _ _ _ _ _ _ _
   | exact ih5 _ _ _ _ _ _ _ _ _ _ _ _ _ _ _
   | exact ih6 _ _ _ _ _ _ _ _ _ _ _ _ _ _ _
   | exact ih7 _ _ _ _ _ _ _ _ _
   | exact ih8 _ _ _ _ _ _ _
   | exact impl_FindBox.mono _ _ _ _
   | exact impl_RunYard.mono _ _ _ _
   | exact laws_sameInts.mono _ _ _
   | exact spec_DrawYard.mono _ _
   | exact LeO.none _
   | refine LeO.ite ?_ ?_
   | refine LeO.bind ?_ (fun _ => ?_)
  ·intro y0 y1 y2 y3 y4 y5 y6 y7 y8 y9 y10
   unfold laws_FnYard.j2
   repeat' first
   | (with_reducible exact ih0 _ _ _ _ _ _)
   | (with_reducible exact ih1 _ _ _ _ _ _ _ _)
   | (with_reducible exact ih2 _ _ _ _ _ _ _ _ _ _ _)
   | (with_reducible exact ih3 _ _ _ _ _ _ _ _ _ _ _ _ _ _ _ _)
   | (with_reducible exact ih4 _ _ _ _ _ _ _ _ _ _ _ _ _ _ _ _)
   | (with_reducible exact ih5 _ _ _ _ _ _ _ _ _ _ _ _ _ _ _)
   | (with_reducible exact ih6 _ _ _ _ _ _ _ _ _ _ _ _ _ _ _)
   | (with_reducible exact ih7 _ _ _ _ _ _ _ _ _)
   | (with_reducible exact ih8 _ _ _ _ _ _ _)
   | (with_reducible exact impl_FindBox.mono _ _ _ _)
   | (with_reducible exact impl_RunYard.mono _ _ _ _)
   | (with_reducible exact laws_sameInts.mono _ _ _)
   | (with_reducible exact spec_DrawYard.mono _ _)
   | (with_reducible exact LeO.refl _)
   | (with_reducible exact LeO.none _)
   | (with_reducible refine LeO.ite ?_ ?_)
   | (with_reducible refine LeO.bind ?_ (fun _ => ?_))
   | exact ih0 _ _ _ _ _ _
   | exact ih1 _ _ _ _ _ _ _ _
   | exact ih2 _ _ _ _ _ _ _ _ _ _ _
   | exact ih3 _ _ _ _ _ _ _ _ _ _ _ _ _ _ _ _
   | exact ih4 _ _ _ _ _ _ _ _ _ _ _ _ _ _ _ _
   | exact ih5 _ _ _ _ _ _ _ _ _ _ _ _ _ _ _
   | exact ih6 _ _ _ _ _ _ _ _ _ _ _ _ _ _ _
   | exact ih7 _ _ _ _ _ _ _ _ _
   | exact ih8 _ _ _ _ _ _ _
   | exact impl_FindBox.mono _ _ _ _
   | exact impl_RunYard.mono _ _ _ _
   | exact laws_sameInts.mono _ _ _
   | exact spec_DrawYard.mono _ _
   | exact LeO.none _
   | refine LeO.ite ?_ ?_
   | refine LeO.bind ?_ (fun _ => ?_)
  ·intro y0 y1 y2 y3 y4 y5 y6 y7 y8 y9 y10 y11 y12 y13 y14 y15
   unfold laws_FnYard.l2
   repeat' first
   | (with_reducible exact ih0 _ _ _ _ _ _)
   | (with_reducible exact ih1 _ _ _ _ _ _ _ _)
   | (with_reducible exact ih2 _ _ _ _ _ _ _ _ _ _ _)
   | (with_reducible exact ih3 _ _ _ _ _ _ _ _ _ _ _ _ _ _ _ _)
   | (with_reducible exact ih4 _ _ _ _ _ _ _ _ _ _ _ _ _ _ _ _)
   | (with_reducible exact ih5 _ _ _ _ _ _ _ _ _ _ _ _ _ _ _)
   | (with_reducible exact ih6 _ _ _ _ _ _ _ _ _ _ _ _ _ _ _)
   | (with_reducible exact ih7 _ _ _ _ _ _ _ _ _)
   | (with_reducible exact ih8 _ _ _ _ _ _ _)
   | (with_reducible exact impl_FindBox.mono _ _ _ _)
   | (with_reducible exact impl_RunYard.mono _ _ _ _)
   | (with_reducible exact laws_sameInts.mono _ _ _)
   | (with_reducible exact spec_DrawYard.mono _ _)
   | (with_reducible exact LeO.refl _)
   | (with_reducible exact LeO.none _)
   | (with_reducible refine LeO.ite ?_ ?_)
   | (with_reducible refine LeO.bind ?_ (fun _ => ?_))
   | exact ih0 _ _ _ _ _ _
   | exact ih1 _ _ _ _ _ _ _ _
   | exact ih2 _ _ _ _ _ _ _ _ _ _ _
   | exact ih3 _ _ _ _ _ _ _ _ _ _ _ _ _ _ _ _
   | exact ih4 _ _ _ _ _ _ _ _ _ _ _ _ _ _ _ _
   | exact ih5 _ _ _ _ _ _ _ _ _ _ _ _ _ _ _
   | exact ih6 _ _ _ _ _ _ _ _ _ _ _ _ _ _ _
   | exact ih7 _ _ _ _ _ _ _ _ _
   | exact ih8 _ _ _ _ _ _ _
   | exact impl_FindBox.mono _ _ _ _
   | exact impl_RunYard.mono _ _ _ _
   | exact laws_sameInts.mono _ _ _
   | exact spec_DrawYard.mono _ _
   | exact LeO.none _
   | refine LeO.ite ?_ ?_
   | refine LeO.bind ?_ (fun _ => ?_)
  ·intro y0 y1 y2 y3 y4 y5 y6 y7 y8 y9 y10 y11 y12 y13 y14 y15
   unfold laws_FnYard.j4
   repeat' first
   | (with_reducible exact ih0 _ _ _ _ _ _)
   | (with_reducible exact ih1 _ _ _ _ _ _ _ _)
   | (with_reducible exact ih2 _ _ _ _ _ _ _ _ _ _ _)
   | (with_reducible exact ih3 _ _ _ _ _ _ _ _ _ _ _ _ _ _ _ _)
   | (with_reducible exact ih4 _ _ _ _ _ _ _ _ _ _ _ _ _ _ _ _)
   | (with_reducible exact ih5 _ _ _ _ _ _ _ _ _ _ _ _ _ _ _)
   | (with_reducible exact ih6 _ _ _ _ _ _ _ _ _ _ _ _ _ _ _)
   | (with_reducible exact ih7 _ _ _ _ _ _ _ _ _)
   | (with_reducible exact ih8 _ _ _ _ _ _ _)
   | (with_reducible exact impl_FindBox.mono _ _ _ _)
   | (with_reducible exact impl_RunYard.mono _ _ _ _)
   | (with_reducible exact laws_sameInts.mono _ _ _)
   | (with_reducible exact spec_DrawYard.mono _ _)
   | (with_reducible exact LeO.refl _)
   | (with_reducible exact LeO.none _)
   | (with_reducible refine LeO.ite ?_ ?_)
   | (with_reducible refine LeO.bind ?_ (fun _ => ?_))
   | exact ih0 _ _ _ _ _ _
   | exact ih1 _ _ _ _ _ _ _ _
   | exact ih2 _ _ _ _ _ _ _ _ _ _ _
   | exact ih3 _ _ _ _ _ _ _ _ _ _ _ _ _ _ _ _
   | exact ih4 _ _ _ _ _ _ _ _ _ _ _ _ _ _ _ _
   | exact ih5 _ _ _ _ _ _ _ _ _ _ _ _ _ _ _
   | exact ih6 _ _ _ _ _ _ _ _ _ _ _ _ _ _ _
   | exact ih7 _ _ _ _ _ _ _ _ _
   | exact ih8 _ _ _ _ _ _ _
   | exact impl_FindBox.mono _ _ _ _
   | exact impl_RunYard.mono _ _ _ _
   | exact laws_sameInts.mono _ _ _
   | exact spec_DrawYard.mono _ _
   | exact LeO.none _
   | refine LeO.ite ?_ ?_
   | refine LeO.bind ?_ (fun _ => ?_)
  ·intro y0 y1 y2 y3 y4 y5 y6 y7 y8 y9 y10 y11 y12 y13 y14
   unfold laws_FnYard.j5
   repeat' first
   | (with_reducible exact ih0 _ _ _ _ _ _)
   | (with_reducible exact ih1 _ _ _ _ _ _ _ _)
   | (with_reducible exact ih2 _ _ _ _ _ _ _ _ _ _ _)
   | (with_reducible exact ih3 _ _ _ _ _ _ _ _ _ _ _ _ _ _ _ _)
   | (with_reducible exact ih4 _ _ _ _ _ _ _ _ _ _ _ _ _ _ _ _)
   | (with_reducible exact ih5 _ _ _ _ _ _ _ _ _ _ _ _ _ _ _)
   | (with_reducible exact ih6 _ _ _ _ _ _ _ _ _ _ _ _ _ _ _)
   | (with_reducible exact ih7 _ _ _ _ _ _ _ _ _)
   | (with_reducible exact ih8 _ _ _ _ _ _ _)
   | (with_reducible exact impl_FindBox.mono _ _ _ _)
   | (with_reducible exact impl_RunYard.mono _ _ _ _)
   | (with_reducible exact laws_sameInts.mono _ _ _)
   | (with_reducible exact spec_DrawYard.mono _ _)
   | (with_reducible exact LeO.refl _)
   | (with_reducible exact LeO.none _)
   | (with_reducible refine LeO.ite ?_ ?_)
   | (with_reducible refine LeO.bind ?_ (fun _ => ?_))
   | exact ih0 _ _ _ _ _ _
   | exact ih1 _ _ _ _ _ _ _ _
   | exact ih2 _ _ _ _ _ _ _ _ _ _ _
   | exact ih3 _ _ _ _ _ _ _ _ _ _ _ _ _ _ _ _
   | exact ih4 _ _ _ _ _ _ _ _ _ _ _ _ _ _ _ _
   | exact ih5 _ _ _ _ _ _ _ _ _ _ _ _ _ _ _
   | exact ih6 _ _ _ _ _ _ _ _ _ _ _ _ _ _ _
   | exact ih7 _ _ _ _ _ _ _ _ _
   | exact ih8 _ _ _ _ _ _ _
   | exact impl_FindBox.mono _ _ _ _
   | exact impl_RunYard.mono _ _ _ _
   | exact laws_sameInts.mono _ _ _
   | exact spec_DrawYard.mono _ _
   | exact LeO.none _
   | refine LeO.ite ?_ ?_
   | refine LeO.bind ?_ (fun _ => ?_)
  ·intro y0 y1 y2 y3 y4 y5 y6 y7 y8 y9 y10 y11 y12 y13 y14
   unfold laws_FnYard.j6
   repeat' first
   | (with_reducible exact ih0 _ _ _ _ _ _)
   | (with_reducible exact ih1 _ _ _ _ _ _ _ _)
   | (with_reducible exact ih2 _ _ _ _ _ _ _ _ _ _ _)
   | (with_reducible exact ih3 _ _ _ _ _ _ _ _ _ _ _ _ _ _ _ _)
   | (with_reducible exact ih4 _ _ _ _ _ _ _ _ _ _ _ _ _ _ _ _)
   | (with_reducible exact ih5 _ _ _ _ _ _ _ _ _ _ _ _ _ _ _)
   | (with_reducible exact ih6 _ _ _ _ _ _ _ _ _ _ _ _ _ _ _)
   | (with_reducible exact ih7 _ _ _ _ _ _ _ _ _)
   | (with_reducible exact ih8 _ _ _ _ _ _ _)
   | (with_reducible exact impl_FindBox.mono _ _ _ _)
   | (with_reducible exact impl_RunYard.mono _ _ _ _)
   | (with_reducible exact laws_sameInts.mono _ _ _)
   | (with_reducible exact spec_DrawYard.mono _ _)
   | (with_reducible exact LeO.refl _)
   | (with_reducible exact LeO.none _)
   | (with_reducible refine LeO.ite ?_ ?_)
   | (with_reducible refine LeO.bind ?_ (fun _ => ?_))
   | exact ih0 _ _ _ _ _ _
   | exact ih1 _ _ _ _ _ _ _ _
   | exact ih2 _ _ _ _ _ _ _ _ _ _ _
   | exact ih3 _ _ _ _ _ _ _ _ _ _ _ _ _ _ _ _
   | exact ih4 _ _ _ _ _ _ _ _ _ _ _ _ _ _ _ _
   | exact ih5 _ _ _ _ _ _ _ _ _ _ _ _ _ _ _
   | exact ih6 _ _ _ _ _ _ _ _ _ _ _ _ _ _ _
   | exact ih7 _ _ _ _ _ _ _ _ _
   | exact ih8 _ _ _ _ _ _ _
   | exact impl_FindBox.mono _ _ _ _
   | exact impl_RunYard.mono _ _ _ _
   | exact laws_sameInts.mono _ _ _
   | exact spec_DrawYard.mono _ _
   | exact LeO.none _
   | refine LeO.ite ?_ ?_
   | refine LeO.bind ?_ (fun _ => ?_)
  ·intro y0 y1 y2 y3 y4 y5 y6 y7 y8
   unfold laws_FnYard.j7
   repeat' first
   | (with_reducible exact ih0 _ _ _ _ _ _)
   | (with_reducible exact ih1 _ _ _ _ _ _ _ _)
   | (with_reducible exact ih2 _ _ _ _ _ _ _ _ _ _ _)
   | (with_reducible exact ih3 _ _ _ _ _ _ _ _ _ _ _ _ _ _ _ _)
   | (with_reducible exact ih4 _ _ _ _ _ _ _ _ _ _ _ _ _ _ _ _)
   | (with_reducible exact ih5 _ _ _ _ _ _ _ _ _ _ _ _ _ _ _)
   | (with_reducible exact ih6 _ _ _ _ _ _ _ _ _ _ _ _ _ _ _)
   | (with_reducible exact ih7 _ _ _ _ _ _ _ _ _)
   | (with_reducible exact ih8 _ _ _ _ _ _ _)
   | (with_reducible exact impl_FindBox.mono _ _ _ _)
   | (with_reducible exact impl_RunYard.mono _ _ _ _)
   | (with_reducible exact laws_sameInts.mono _ _ _)
   | (with_reducible exact spec_DrawYard.mono _ _)
   | (with_reducible exact LeO.refl _)
   | (with_reducible exact LeO.none _)
   | (with_reducible refine LeO.ite ?_ ?_)
   | (with_reducible refine LeO.bind ?_ (fun _ => ?_))
   | exact ih0 _ _ _ _ _ _
   | exact ih1 _ _ _ _ _ _ _ _
   | exact ih2 _ _ _ _ _ _ _ _ _ _ _
   | exact ih3 _ _ _ _ _ _ _ _ _ _ _ _ _ _ _ _
   | exact ih4 _ _ _ _ _ _ _ _ _ _ _ _ _ _ _ _
   | exact ih5 _ _ _ _ _ _ _ _ _ _ _ _ _ _ _
   | exact ih6 _ _ _ _ _ _ _ _ _ _ _ _ _ _ _
   | exact ih7 _ _ _ _ _ _ _ _ _
   | exact ih8 _ _ _ _ _ _ _
   | exact impl_FindBox.mono _ _ _ _
   | exact impl_RunYard.mono _ _ _ _
   | exact laws_sameInts.mono _ _ _
   | exact spec_DrawYard.mono _ _
   | exact LeO.none _
   | refine LeO.ite ?_ ?_
   | refine LeO.bind ?_ (fun _ => ?_)
  ·intro y0 y1 y2 y3 y4 y5 y6
   unfold laws_FnYard.l3
   repeat' first
   | (with_reducible exact ih0 _ _ _ _ _ _)
   | (with_reducible exact ih1 _ _ _ _ _ _ _ _)
   | (with_reducible exact ih2 _ _ _ _ _ _ _ _ _ _ _)
   | (with_reducible exact ih3 _ _ _ _ _ _ _ _ _ _ _ _ _ _ _ _)
   | (with_reducible exact ih4 _ _ _ _ _ _ _ _ _ _ _ _ _ _ _ _)
   | (with_reducible exact ih5 _ _ _ _ _ _ _ _ _ _ _ _ _ _ _)
   | (with_reducible exact ih6 _ _ _ _ _ _ _ _ _ _ _ _ _ _ _)
   | (with_reducible exact ih7 _ _ _ _ _ _ _ _ _)
   | (with_reducible exact ih8 _ _ _ _ _ _ _)
   | (with_reducible exact impl_FindBox.mono _ _ _ _)
   | (with_reducible exact impl_RunYard.mono _ _ _ _)
   | (with_reducible exact laws_sameInts.mono _ _ _)
   | (with_reducible exact spec_DrawYard.mono _ _)
   | (with_reducible exact LeO.refl _)
   | (with_reducible exact LeO.none _)
   | (with_reducible refine LeO.ite ?_ ?_)
   | (with_reducible refine LeO.bind ?_ (fun _ => ?_))
   | exact ih0 _ _ _ _ _ _
   | exact ih1 _ _ _ _ _ _ _ _
   | exact ih2 _ _ _ _ _ _ _ _ _ _ _
   | exact ih3 _ _ _ _ _ _ _ _ _ _ _ _ _ _ _ _
   | exact ih4 _ _ _ _ _ _ _ _ _ _ _ _ _ _ _ _
   | exact ih5 _ _ _ _ _ _ _ _ _ _ _ _ _ _ _
   | exact ih6 _ _ _ _ _ _ _ _ _ _ _ _ _ _ _
   | exact ih7 _ _ _ _ _ _ _ _ _
   | exact ih8 _ _ _ _ _ _ _
   | exact impl_FindBox.mono _ _ _ _
   | exact impl_RunYard.mono _ _ _ _
   | exact laws_sameInts.mono _ _ _
   | exact spec_DrawYard.mono _ _
   | exact LeO.none _
   | refine LeO.ite ?_ ?_
   | refine LeO.bind ?_ (fun _ => ?_)
theorem laws_FnYard.mono : ∀ a0 k, LeO (laws_FnYard.f k a0) (laws_FnYard.f (k + 1) a0) := by
 intro a0 k
 obtain ⟨ih0, ih1, ih2, ih3, ih4, ih5, ih6, ih7, ih8⟩ := laws_FnYard.mono_l k
 unfold laws_FnYard.f
 repeat' first
   | (with_reducible exact ih0 _ _ _ _ _ _)
   | (with_reducible exact ih1 _ _ _ _ _ _ _ _)
   | (with_reducible exact ih2 _ _ _ _ _ _ _ _ _ _ _)
   | (with_reducible exact ih3 _ _ _ _ _ _ _ _ _ _ _ _ _ _ _ _)
   | (with_reducible exact ih4 _ _ _ _ _ _ _ _ _ _ _ _ _ _ _ _)
   | (with_reducible exact ih5 _ _ _ _ _ _ _ _ _ _ _ _ _ _ _)
   | (with_reducible exact ih6 _ _ _ _ _ _ _ _ _ _ _ _ _ _ _)
   | (with_reducible exact ih7 _ _ _ _ _ _ _ _ _)
   | (with_reducible exact ih8 _ _ _ _ _ _ _)
   | (with_reducible exact impl_FindBox.mono _ _ _ _)
   | (with_reducible exact impl_RunYard.mono _ _ _ _)
   | (with_reducible exact laws_sameInts.mono _ _ _)
   | (with_reducible exact spec_DrawYard.mono _ _)
   | (with_reducible exact LeO.refl _)
   | (with_reducible exact LeO.none _)
   | (with_reducible refine LeO.ite ?_ ?_)
   | (with_reducible refine LeO.bind ?_ (fun _ => ?_))
   | exact ih0 _ _ _ _ _ _
   | exact ih1 _ _ _ _ _ _ _ _
   | exact ih2 _ _ _ _ _ _ _ _ _ _ _
   | exact ih3 _ _ _ _ _ _ _ _ _ _ _ _ _ _ _ _
   | exact ih4 _ _ _ _ _ _ _ _ _ _ _ _ _ _ _ _
   | exact ih5 _ _ _ _ _ _ _ _ _ _ _ _ _ _ _
   | exact ih6 _ _ _ _ _ _ _ _ _ _ _ _ _ _ _
   | exact ih7 _ _ _ _ _ _ _ _ _
   | exact ih8 _ _ _ _ _ _ _
   | exact impl_FindBox.mono _ _ _ _
   | exact impl_RunYard.mono _ _ _ _
   | exact laws_sameInts.mono _ _ _
   | exact spec_DrawYard.mono _ _
   | exact LeO.none _
   | refine LeO.ite ?_ ?_
   | refine LeO.bind ?_ (fun _ => ?_)
def laws_FnYard.T13 : Bool × List (List Nat × List Nat) := (true, [([], []), ([], []), ([], []), ([1, 2], [1, 2]), ([3], [3]), ([4], [4]), ([0, 5], [0, 5]), ([6], [6]), ([7], [7]), ([7], [7]), ([7], [7]), ([8, 6, 0, 1, 2, 3, 4, 5, 6, 7, 8], [8]), ([9, 11, 0, 1, 2, 3, 4, 5, 6, 7, 8, 9, 11], [9]), ([10, 12, 0, 1, 2, 3, 4, 5, 6, 7, 8, 9, 10, 11, 12], [10])])
def laws_FnYard.B13 : List Nat := [0, 0, 0, 6, 14, 30, 63, 127, 255, 255, 255, 511, 3071, 8191]
theorem laws_FnYard.tab13 : rtab .any (opsOf Try.f7 13) = laws_FnYard.T13 := by kernel_rfl
theorem laws_FnYard.bits13 : waitsOk laws_FnYard.T13.2 laws_FnYard.B13 = true := by kernel_rfl
def laws_FnYard.T14 : Bool × List (List Nat × List Nat) := (true, [([], []), ([0], [0]), ([1], [1]), ([2, 1], [1, 2]), ([1], [1]), ([3, 4, 1], [1, 3, 4]), ([5, 1], [1, 5]), ([1], [1]), ([6, 7, 1], [1, 6, 7]), ([8, 1], [1, 8]), ([1], [1]), ([1], [1]), ([10, 11, 1], [1, 10, 11]), ([12, 1], [1, 12]), ([13, 1], [1, 13]), ([9, 14, 1], [1, 9, 14]), ([1, 15], [1, 15])])
def laws_FnYard.B14 : List Nat := [0, 1, 3, 7, 3, 31, 63, 3, 255, 511, 3, 3, 3075, 7171, 15363, 32767, 65535]
theorem laws_FnYard.tab14 : rtab .any (opsOf Try.f7 14) = laws_FnYard.T14 := by kernel_rfl
theorem laws_FnYard.bits14 : waitsOk laws_FnYard.T14.2 laws_FnYard.B14 = true := by kernel_rfl
def laws_FnYard.T16 : Bool × List (List Nat × List Nat) := (true, [([], []), ([], []), ([], []), ([1, 2], [1, 2]), ([3], [3]), ([0, 4], [0, 4]), ([5], [5]), ([6], [6]), ([6], [6]), ([6], [6]), ([], []), ([10, 7, 5, 0, 1, 2, 3, 4, 5, 6, 7, 10], [7, 10]), ([8, 11, 0, 1, 2, 3, 4, 5, 6, 7, 8, 10, 11], [8]), ([9, 12, 0, 1, 2, 3, 4, 5, 6, 7, 8, 9, 10, 11, 12], [9])])
def laws_FnYard.B16 : List Nat := [0, 0, 0, 6, 14, 31, 63, 127, 127, 127, 0, 1279, 3583, 8191]
theorem laws_FnYard.tab16 : rtab .any (opsOf Try.f7 16) = laws_FnYard.T16 := by kernel_rfl
theorem laws_FnYard.bits16 : waitsOk laws_FnYard.T16.2 laws_FnYard.B16 = true := by kernel_rfl
def laws_FnYard.T40 : Bool × List (List Nat × List Nat) := (true, [([], []), ([0], [0]), ([], []), ([1, 2], [1, 2]), ([3], [3]), ([], []), ([5], [5]), ([], []), ([6, 7], [6, 7]), ([8], [8]), ([4, 9], [4, 9]), ([10], [10])])
def laws_FnYard.B40 : List Nat := [0, 1, 0, 7, 15, 0, 32, 0, 224, 480, 1023, 2047]
theorem laws_FnYard.tab40 : rtab .any (opsOf Try.f7 40) = laws_FnYard.T40 := by kernel_rfl
theorem laws_FnYard.bits40 : waitsOk laws_FnYard.T40.2 laws_FnYard.B40 = true := by kernel_rfl
set_option maxHeartbeats 8000000 in
set_option maxRecDepth 100000 in
theorem laws_FnYard.calls (k : Nat) (A0 : Option Addr) (c0 : Nat) (l0 : List Int) (r : Bool) (w : World) (hr0 : Kd.C (Kd.int .u8) w A0 l0.length l0) (hc0 : l0.length ≤ c0) (h : laws_FnYard.f k l0 = some r) :
  Calls Try.prog 7 #[.slice A0 l0.length c0] w fun e w' => e = .returned (.bool r) ∧ Below w.heap.size w w' := by
 have hu69 := Try.underlying69
 have hu76 := Try.underlying76
 have HR0 := Aside0.mk hr0
 have HC0 := Aside0.mk hc0
 clear hr0 hc0
 have HB := Aside0.mk (Below.refl w.heap.size w)
 have H : ((laws_big.f l0).bind fun t262 => (if t262 = true then (some true) else ((spec_DrawYard.f k l0).bind fun bt263 => (laws_FnYard.l0 k bt263.2.2 0 bt263.1 bt263.2.1 bt263.1 bt263.2.1)))) = some r := h
 clear h
 replace H := Option.bind_eq_some_iff.mp H
 obtain ⟨t262, A20, H⟩ := H
 replace H : (if t262 = true then (some true) else ((spec_DrawYard.f k l0).bind fun bt263 => (laws_FnYard.l0 k bt263.2.2 0 bt263.1 bt263.2.1 bt263.1 bt263.2.1))) = some r := H
 have A2 := Aside0.mk A20
 clear A20
 by_cases c3 : t262 = true
 ·subst c3
  have H1 : (some true) = some r := by rw [if_pos rfl] at H; exact H
  clear H
  have H := H1
  clear H1
  obtain rfl := Option.some.inj H
  go_enter Try.func7, Try.ntmps7
  go_wp2_with (first | ((with_reducible refine gate_callee (f := 9) rfl ?_); refine goesL_ (some 23) rfl rfl Try.func9 (by kernel_rfl) rfl #[.slice A0 l0.length c0] rfl ml_ ?_; (with_reducible refine (laws_big.calls _ _ l0 true _ ?side1 ?side2 A2.out).mono ?_); (case side1 => repeat (first | exact HR0.out | (with_reducible refine Kd.C_alloc ?_ _) | (with_reducible refine Kd.C_drewN ?_ _) | (with_reducible refine Kd.C_drew ?_))); (case side2 => exact HC0.out); rintro e w' ⟨rfl, ⟨nd, rfl⟩⟩; refine ⟨_, rfl, ?_⟩))
  go_ret
  exact ⟨by first | rfl | (simp [errW_none, errW_some] <;> rfl) | (simp [*, errW_none, errW_some] <;> rfl), bel_ HB.out⟩
 ·replace c3 := Bool.eq_false_iff.mpr c3
  subst c3
  have H1 : ((spec_DrawYard.f k l0).bind fun bt263 => (laws_FnYard.l0 k bt263.2.2 0 bt263.1 bt263.2.1 bt263.1 bt263.2.1)) = some r := by rw [if_neg (show ¬ (false = true) by decide)] at H; exact H
  clear H
  have H := H1
  clear H1
  replace H := Option.bind_eq_some_iff.mp H
  obtain ⟨⟨t263, t264, t267⟩, A40, H⟩ := H
  replace H : (laws_FnYard.l0 k t267 0 t263 t264 t263 t264) = some r := H
  have A4 := Aside0.mk A40
  clear A40
  have H' := Aside0.mk H
  clear H
  go_enter Try.func7, Try.ntmps7
  go_wp2_with (first | ((with_reducible refine gate_callee (f := 9) rfl ?_); refine goesL_ (some 23) rfl rfl Try.func9 (by kernel_rfl) rfl #[.slice A0 l0.length c0] rfl ml_ ?_; (with_reducible refine (laws_big.calls _ _ l0 false _ ?side1 ?side2 A2.out).mono ?_); (case side1 => repeat (first | exact HR0.out | (with_reducible refine Kd.C_alloc ?_ _) | (with_reducible refine Kd.C_drewN ?_ _) | (with_reducible refine Kd.C_drew ?_))); (case side2 => exact HC0.out); rintro e w' ⟨rfl, ⟨nd, rfl⟩⟩; refine ⟨_, rfl, ?_⟩) | ((with_reducible refine gate_callee (f := 29) rfl ?_); refine goesL_ (some 26) rfl rfl Try.func29 (by kernel_rfl) rfl #[.slice A0 l0.length c0] rfl ml_ ?_; (with_reducible refine (spec_DrawYard.calls k _ _ l0 t263 t264 t267 _ ?side1 ?side2 A4.out).mono ?_); (case side1 => repeat (first | exact HR0.out | (with_reducible refine Kd.C_alloc ?_ _) | (with_reducible refine Kd.C_drewN ?_ _) | (with_reducible refine Kd.C_drew ?_))); (case side2 => exact HC0.out); rintro e w5 ⟨v265, v268, rfl, ho0, ho1, hb⟩; refine ⟨_, rfl, ?_⟩; have n0_ := Aside0.mk (Kd.S_lower ho0 (below_size (bel_ HB.out))); have n1_ := Aside0.mk (Kd.R_lower ho1 (below_size (bel_ HB.out))); have n2_ := Aside0.mk (below_step (bel_ HB.out) hb); clear HB; have HO266 := n0_; have HO269 := n1_; have HB := n2_; clear n0_ n1_ n2_; (try clear hb); (try clear hb2); (try clear hk); (try clear hi); (try clear ho0); (try clear ho1)) | ((with_reducible refine gate_dst (N := 3) rfl ?_); (try (refine gate_guard (by rfl) ?_; dsimp only)); refine box_event ?hg (N := 3) ?hd (cs := #[.int .i64 0, .slice none 0 0]) (t := 69) ?hr ?_; (case hd => rfl); (case hg => rfl); (case hr => first | (go_simp; done) | (go_simp; rfl)); intro gb270 hg w6 hbox hb; have n0_ := Aside0.mk (Kd.S_below (by (with_reducible repeat (first | apply Kd.S_alloc | apply Kd.S_drewN | apply Kd.S_drew)); exact HO266.out) hb); have n1_ := Aside0.mk (Kd.R_below (fr_ HO269.out) hb); have n2_ := Aside0.mk (below_step (bel_ HB.out) hb); have n3_ := Aside0.mk (hbox); have n4_ := Aside0.mk ((by rw [hg]; exact (below_size (bel_ HB.out)) : w.heap.size ≤ gb270)); have n5_ := Aside0.mk ((by rw [hg]; exact (below_size (bel_ HB.out)) : w.heap.size ≤ gb270)); clear HO266; clear HO269; clear HB; have HO266 := n0_; have HO269 := n1_; have HB := n2_; have BK270 := n3_; have GW270 := n4_; have GE270 := n5_; clear n0_ n1_ n2_ n3_ n4_ n5_; clear hb hbox hg; have hcz7_0 : w6.cell? ⟨gb270, 0, none⟩ = some (.int .i64 0) := (blk_cell BK270.out 0).trans rfl; have hcz7_1 : w6.cell? ⟨gb270, 1, none⟩ = some (.slice none 0 0) := (blk_cell BK270.out 1).trans rfl; have hfz7_0 := blk_frozen BK270.out 0; have hfz7_1 := blk_frozen BK270.out 1; obtain ⟨Ao8, co8, eo8⟩ := Kd.S_slice HO266.out; subst eo8) | ((with_reducible refine gate_dst (N := 5) rfl ?_); (try (refine gate_guard (by rfl) ?_; dsimp only)); refine box_event ?hg (N := 5) ?hd (cs := #[.int .i64 0, .slice none 0 0]) (t := 69) ?hr ?_; (case hd => rfl); (case hg => rfl); (case hr => first | (go_simp; done) | (go_simp; rfl)); intro gb271 hg w9 hbox hb; have n0_ := Aside0.mk (Kd.S_below (by (with_reducible repeat (first | apply Kd.S_alloc | apply Kd.S_drewN | apply Kd.S_drew)); exact (Kd.S_mono (Kd.S_far (p := ⟨gb270, 1, none⟩) (Kd.S_far (p := ⟨gb270, 0, none⟩) (Kd.S_types HO266.out BK270.out (by decide)) (fun _ hk => hk.2) (.int .i64 t263)) (fun _ hk => hk.2) (.slice Ao8 t264.length co8)) (fun _ h_ => h_.1))) hb); have n1_ := Aside0.mk (Kd.R_below (rf1_ (rt_ HO269.out BK270.out)) hb); have n2_ := Aside0.mk (blk_below (g := gb270) (o := .cells #[.int .i64 t263, .slice Ao8 t264.length co8] 69 (0, 0)) (by refine rp_ ?_; refine blk_put (cs := #[.int .i64 t263, .slice none 0 0]) ?_ 1 _ rfl; refine rp_ ?_; refine blk_put (cs := #[.int .i64 0, .slice none 0 0]) ?_ 0 _ rfl; refine rp_ ?_; exact BK270.out) hb); have n3_ := Aside0.mk (below_step (bel_ HB.out) hb); have n4_ := Aside0.mk (hbox); have n5_ := Aside0.mk ((by rw [hg]; exact (below_size (bel_ HB.out)) : w.heap.size ≤ gb271)); have n6_ := Aside0.mk ((by rw [hg]; exact (below_size (bel_ HB.out)) : w.heap.size ≤ gb271)); have n7_ := Aside0.mk ((by rw [hg]; exact Nat.ne_of_lt (blk_lt (g := gb270) (o := .cells #[.int .i64 t263, .slice Ao8 t264.length co8] 69 (0, 0)) (by refine rp_ ?_; refine blk_put (cs := #[.int .i64 t263, .slice none 0 0]) ?_ 1 _ rfl; refine rp_ ?_; refine blk_put (cs := #[.int .i64 0, .slice none 0 0]) ?_ 0 _ rfl; refine rp_ ?_; exact BK270.out)) : gb270 ≠ gb271)); have n8_ := Aside0.mk ((by rw [hg]; exact Nat.ne_of_gt (blk_lt (g := gb270) (o := .cells #[.int .i64 t263, .slice Ao8 t264.length co8] 69 (0, 0)) (by refine rp_ ?_; refine blk_put (cs := #[.int .i64 t263, .slice none 0 0]) ?_ 1 _ rfl; refine rp_ ?_; refine blk_put (cs := #[.int .i64 0, .slice none 0 0]) ?_ 0 _ rfl; refine rp_ ?_; exact BK270.out)) : gb271 ≠ gb270)); clear HO266; clear HO269; clear BK270; clear HB; have HO266 := n0_; have HO269 := n1_; have BK270 := n2_; have HB := n3_; have BK271 := n4_; have GW271 := n5_; have GE271 := n6_; have NB270_271 := n7_; have NB271_270 := n8_; clear n0_ n1_ n2_ n3_ n4_ n5_ n6_ n7_ n8_; clear hb hbox hg; have hnb10 := NB271_270.out; have hnc10 := NB270_271.out; have hcz11_0 : w9.cell? ⟨gb271, 0, none⟩ = some (.int .i64 0) := (blk_cell BK271.out 0).trans rfl; have hcz11_1 : w9.cell? ⟨gb271, 1, none⟩ = some (.slice none 0 0) := (blk_cell BK271.out 1).trans rfl; have hfz11_0 := blk_frozen BK271.out 0; have hfz11_1 := blk_frozen BK271.out 1))
  go_loopg [6] k (fun kq v6 w' => ∃ (x6_1 : Int) (x272000_1 : Int) (x272001_1 : List (List Int)) (u272001 : Value), v6 = .int .i64 x6_1 ∧ Aside0 (laws_FnYard.l0 kq t267 x6_1 t263 t264 x272000_1 x272001_1 = some r) ∧ Aside0 (kq ≤ k) ∧ Aside0 (Kd.R k76 76 w' w.heap.size (fun _ => True) v268 t267) ∧ Aside0 (Kd.S (Kd.slice 3 (Kd.int .i64)) 28 w' w.heap.size (fun _ => True) (.slice Ao8 t264.length co8) t264) ∧ Aside0 (Kd.S (Kd.slice 3 (Kd.int .i64)) 28 w' w.heap.size (fun _ => True) u272001 x272001_1) ∧ Aside0 (w'.heap[gb270]? = some (.cells #[.int .i64 t263, (.slice Ao8 t264.length co8)] 69 (0, 0))) ∧ Aside0 (w'.heap[gb271]? = some (.cells #[.int .i64 x272000_1, u272001] 69 (0, 0))) ∧ Aside0 (Below w.heap.size w w'))
  case atStart => exact ⟨(0), (t263), (t264), (.slice Ao8 t264.length co8), (by first | rfl | (simp; done) | (simp [*]; done) | (simp [wrap64]; done)), H', ⟨Nat.le_refl _⟩, ⟨by (with_reducible repeat (first | apply Kd.R_alloc | apply Kd.R_drewN | apply Kd.R_drew)); exact Kd.R_mono (Kd.R_far (p := ⟨gb271, 1, none⟩) (Kd.R_far (p := ⟨gb271, 0, none⟩) (rt_ HO269.out BK271.out) (fun _ hk => hk.2) (.int .i64 t263)) (fun _ hk => hk.2) (.slice Ao8 t264.length co8)) (fun _ hk => trivial)⟩, ⟨by (with_reducible repeat (first | apply Kd.S_alloc | apply Kd.S_drewN | apply Kd.S_drew)); exact Kd.S_mono (Kd.S_far (p := ⟨gb271, 1, none⟩) (Kd.S_far (p := ⟨gb271, 0, none⟩) (Kd.S_types HO266.out BK271.out (by decide)) (fun _ hk => hk.2) (.int .i64 t263)) (fun _ hk => hk.2) (.slice Ao8 t264.length co8)) (fun _ hk => trivial)⟩, ⟨by (with_reducible repeat (first | apply Kd.S_alloc | apply Kd.S_drewN | apply Kd.S_drew)); exact Kd.S_mono (Kd.S_far (p := ⟨gb271, 1, none⟩) (Kd.S_far (p := ⟨gb271, 0, none⟩) (Kd.S_types HO266.out BK271.out (by decide)) (fun _ hk => hk.2) (.int .i64 t263)) (fun _ hk => hk.2) (.slice Ao8 t264.length co8)) (fun _ hk => trivial)⟩, ⟨by refine rp_ ?_; refine blk_far ?_ NB270_271.out _; refine rp_ ?_; refine blk_far ?_ NB270_271.out _; refine rp_ ?_; exact BK270.out⟩, ⟨by refine rp_ ?_; refine blk_put (cs := #[.int .i64 t263, .slice none 0 0]) ?_ 1 _ rfl; refine rp_ ?_; refine blk_put (cs := #[.int .i64 0, .slice none 0 0]) ?_ 0 _ rfl; refine rp_ ?_; exact BK271.out⟩, ⟨bel_ HB.out⟩⟩
  case round =>
   clear H'
   try clear c3
   try clear hcz11_0
   try clear hcz11_1
   try clear hcz7_0
   try clear hcz7_1
   try clear hfz11_0
   try clear hfz11_1
   try clear hfz7_0
   try clear hfz7_1
   obtain ⟨x6_1, x272000_1, x272001_1, u272001, rfl, HA, HK1, HO_4, HO_271001, HO_272001, BK270, BK271, HB⟩ := hrel
   cases gk with
   | zero => exact absurd HA.out (by simp [laws_FnYard.l0])
   | succ k1 =>
    have H := HA.out
    clear HA
    simp only [laws_FnYard.l0] at H
    by_cases c12 : x6_1 < (t267.length : Int)
    ·rw [if_pos c12] at H
     have c12b0 : decide (x6_1 < (t267.length : Int)) = true := decide_eq_true c12
     clear c12
     have H' := Aside0.mk H
     clear H
     obtain ⟨Ao13, co13, eo13⟩ := Kd.R_slice HO_4.out
     subst eo13
     go_wp2
     go_loopg [7, 8] k1 (fun kq v7 v8 w' => ∃ (x7_2 : Int) (x8_2 : Int), v7 = .int .i64 x7_2 ∧ v8 = .int .i64 x8_2 ∧ Aside0 (laws_FnYard.l1 kq t267 x6_1 x7_2 x8_2 t263 t264 x272000_1 x272001_1 = some r) ∧ Aside0 (kq ≤ k1) ∧ Aside0 (Kd.R k76 76 w' w.heap.size (fun _ => True) (.slice Ao13 t267.length co13) t267) ∧ Aside0 (Kd.S (Kd.slice 3 (Kd.int .i64)) 28 w' w.heap.size (fun _ => True) (.slice Ao8 t264.length co8) t264) ∧ Aside0 (Kd.S (Kd.slice 3 (Kd.int .i64)) 28 w' w.heap.size (fun _ => True) u272001 x272001_1) ∧ Aside0 (w'.heap[gb270]? = some (.cells #[.int .i64 t263, (.slice Ao8 t264.length co8)] 69 (0, 0))) ∧ Aside0 (w'.heap[gb271]? = some (.cells #[.int .i64 x272000_1, u272001] 69 (0, 0))) ∧ Aside0 (Below w.heap.size w w'))
     case atStart => exact ⟨(0), (0), (by first | rfl | (simp; done) | (simp [*]; done) | (simp [wrap64]; done)), (by first | rfl | (simp; done) | (simp [*]; done) | (simp [wrap64]; done)), H', ⟨Nat.le_refl _⟩, ⟨by (with_reducible repeat (first | apply Kd.R_alloc | apply Kd.R_drewN | apply Kd.R_drew)); exact HO_4.out⟩, ⟨by (with_reducible repeat (first | apply Kd.S_alloc | apply Kd.S_drewN | apply Kd.S_drew)); exact HO_271001.out⟩, ⟨by (with_reducible repeat (first | apply Kd.S_alloc | apply Kd.S_drewN | apply Kd.S_drew)); exact HO_272001.out⟩, ⟨by refine rp_ ?_; exact BK270.out⟩, ⟨by refine rp_ ?_; exact BK271.out⟩, ⟨bel_ HB.out⟩⟩
     case round =>
      clear H'
      try clear c3
      try clear c12
      try clear c12b0
      try clear hcz11_0
      try clear hcz11_1
      try clear hcz7_0
      try clear hcz7_1
      try clear hfz11_0
      try clear hfz11_1
      try clear hfz7_0
      try clear hfz7_1
      obtain ⟨x7_2, x8_2, rfl, rfl, HA, HK2, HO_4, HO_271001, HO_272001, BK270, BK271, HB⟩ := hrel
      cases gk with
      | zero => exact absurd HA.out (by simp [laws_FnYard.l1])
      | succ k2 =>
       have H := HA.out
       clear HA
       simp only [laws_FnYard.l1] at H
       by_cases c14 : x8_2 < (x272001_1.length : Int)
       ·rw [if_pos c14] at H
        have c14b0 : decide (x8_2 < (x272001_1.length : Int)) = true := decide_eq_true c14
        clear c14
        by_cases c15 : 0 ≤ x8_2
        ·rw [if_pos c15] at H
         have c15b0 : decide (0 ≤ x8_2) = true := decide_eq_true c15
         clear c15
         have H' := Aside0.mk H
         clear H
         have hnb16 := NB271_270.out
         have hnc16 := NB270_271.out
         have hcz17_0 : wr.cell? ⟨gb271, 0, none⟩ = some (.int .i64 x272000_1) := (blk_cell BK271.out 0).trans rfl
         have hcz17_1 : wr.cell? ⟨gb271, 1, none⟩ = some (u272001) := (blk_cell BK271.out 1).trans rfl
         have hfz17_0 := blk_frozen BK271.out 0
         have hfz17_1 := blk_frozen BK271.out 1
         obtain ⟨Ao18, co18, eo18⟩ := Kd.S_slice HO_272001.out
         subst eo18
         have p272 : 0 ≤ (x8_2 : Int) := of_decide_eq_true (by first | (with_reducible assumption) | assumption)
         have q272 : x8_2 < (x272001_1.length : Int) := of_decide_eq_true (by first | (with_reducible assumption) | assumption)
         obtain ⟨ad272, A272_0, c272_0, e272, hx272_0, hl272_0, hi272_0⟩ := at_L2 (Kd.S_reads' HO_272001.out).2.2 x8_2 p272 q272
         cases e272
         obtain ⟨ce272, hce272, hMe272, hcc272⟩ := Kd.S_get HO_272001.out [] x8_2 p272 (by first | exact q272 | exact of_decide_eq_true (by first | (with_reducible assumption) | assumption) | (have e_ := (Kd.S_reads' HO_272001.out).1; omega))
         obtain ⟨ve272_0, rfl, ge272_0⟩ := hMe272
         have hv272_0 := hcc272 0 _ rfl
         rw [Nat.add_zero, show ((Kd.slice 3 (Kd.int .i64))).sz = 1 from rfl, Nat.mul_one] at hv272_0
         replace hv272_0 := Option.some.inj (hv272_0.symm.trans hx272_0)
         rw [hv272_0] at ge272_0
         have HL272_0 := Aside0.mk (show Kd.R (Kd.int .i64) 3 _ _ _ _ (rd_L2 x272001_1 x8_2) from ge272_0)
         clear hv272_0 ge272_0
         clear hcc272 hce272
         have HR272_0 := Aside0.mk hi272_0
         have HC272_0 := Aside0.mk hl272_0
         clear hi272_0 hl272_0
         replace p272 := eq_true p272
         replace q272 := eq_true q272
         go_wp2
         go_roundg k2
         case measure => have := HK1.out; have := HK2.out; omega
         case rel => exact ⟨(wrap64 (x7_2 + ((rd_L2 x272001_1 x8_2).length : Int))), (wrap64 (x8_2 + 1)), (by first | rfl | (simp; done) | (simp [*]; done) | (simp [wrap64]; done)), (by first | rfl | (simp; done) | (simp [*]; done) | (simp [wrap64]; done)), H', ⟨by have := HK1.out; have := HK2.out; omega⟩, ⟨by (with_reducible repeat (first | apply Kd.R_alloc | apply Kd.R_drewN | apply Kd.R_drew)); exact HO_4.out⟩, ⟨by (with_reducible repeat (first | apply Kd.S_alloc | apply Kd.S_drewN | apply Kd.S_drew)); exact HO_271001.out⟩, ⟨by (with_reducible repeat (first | apply Kd.S_alloc | apply Kd.S_drewN | apply Kd.S_drew)); exact HO_272001.out⟩, ⟨by refine rp_ ?_; exact BK270.out⟩, ⟨by refine rp_ ?_; exact BK271.out⟩, ⟨bel_ HB.out⟩⟩
        ·rw [if_neg c15] at H
         exact absurd H (by simp)
       ·rw [if_neg c14] at H
        have c14b0 : decide (x8_2 < (x272001_1.length : Int)) = false := decide_eq_false c14
        clear c14
        by_cases c19 : 0 ≤ x6_1
        ·rw [if_pos c19] at H
         have c19b0 : decide (0 ≤ x6_1) = true := decide_eq_true c19
         clear c19
         by_cases c20 : x6_1 < (t267.length : Int)
         ·rw [if_pos c20] at H
          have c20b0 : decide (x6_1 < (t267.length : Int)) = true := decide_eq_true c20
          clear c20
          replace H := Option.bind_eq_some_iff.mp H
          obtain ⟨⟨t274, t275, t276⟩, A210, H⟩ := H
          replace H : (if t276 = true then (if 0 ≤ t274 then (if t274 < (x272001_1.length : Int) then (if 0 ≤ t275 then (if t275 < ((rd_L2 x272001_1 t274).length : Int) then (laws_FnYard.j2 k2 t267 x6_1 x7_2 t274 t275 t276 ((rd (rd_L2 x272001_1 t274) t275) != ((rd_T76 t267 x6_1).f1)) t263 t264 x272000_1 x272001_1) else (none)) else (none)) else (none)) else (none)) else (laws_FnYard.j2 k2 t267 x6_1 x7_2 t274 t275 t276 false t263 t264 x272000_1 x272001_1)) = some r := H
          have A21 := Aside0.mk A210
          clear A210
          have HC22 := Aside0.mk H
          clear H
          have hnb23 := NB271_270.out
          have hnc23 := NB270_271.out
          have hcz24_0 : wr.cell? ⟨gb271, 0, none⟩ = some (.int .i64 x272000_1) := (blk_cell BK271.out 0).trans rfl
          have hcz24_1 : wr.cell? ⟨gb271, 1, none⟩ = some (u272001) := (blk_cell BK271.out 1).trans rfl
          have hfz24_0 := blk_frozen BK271.out 0
          have hfz24_1 := blk_frozen BK271.out 1
          obtain ⟨Ao25, co25, eo25⟩ := Kd.S_slice HO_272001.out
          subst eo25
          try go_wp2
          have n0_ := Aside0.mk (Kd.R_drew HO_4.out)
          have n1_ := Aside0.mk (Kd.S_drew HO_271001.out)
          have n2_ := Aside0.mk (Kd.S_drew HO_272001.out)
          have n3_ := Aside0.mk (blk_drew BK270.out)
          have n4_ := Aside0.mk (blk_drew BK271.out)
          have n5_ := Aside0.mk (below_drew1 HB.out)
          clear HO_4
          clear HO_271001
          clear HO_272001
          clear BK270
          clear BK271
          clear HB
          have HO_4 := n0_
          have HO_271001 := n1_
          have HO_272001 := n2_
          have BK270 := n3_
          have BK271 := n4_
          have HB := n5_
          clear n0_ n1_ n2_ n3_ n4_ n5_
          have p273 : 0 ≤ (x6_1 : Int) := of_decide_eq_true (by first | (with_reducible assumption) | assumption)
          have q273 : x6_1 < (t267.length : Int) := of_decide_eq_true (by first | (with_reducible assumption) | assumption)
          obtain ⟨ad273, e273, hx273_0, hx273_1, hx273_2⟩ := at_T76 (Kd.R_reads' HO_4.out).2.2 x6_1 p273 q273
          cases e273
          replace p273 := eq_true p273
          replace q273 := eq_true q273
          refine start_ (n := 14) (S := fun w' => w'.cell? ⟨gb271, 0, none⟩ = some (.int .i64 x272000_1) ∧ w'.cell? ⟨gb271, 1, none⟩ = some (.slice Ao25 x272001_1.length co25) ∧ w'.cell? (ad273.add ((x6_1).toNat * 3)) = some (.int .i64 ((rd_T76 t267 x6_1).f0)) ∧ w'.cell? ⟨(ad273.add ((x6_1).toNat * 3)).block, (ad273.add ((x6_1).toNat * 3)).off + 1, none⟩ = some (.int .i64 ((rd_T76 t267 x6_1).f1)) ∧ w'.cell? ⟨(ad273.add ((x6_1).toNat * 3)).block, (ad273.add ((x6_1).toNat * 3)).off + 2, none⟩ = some (.int .i64 ((rd_T76 t267 x6_1).f2))) (ds := []) (bs 14 0) (by kernel_rfl) rfl rfl ⟨(blk_cell BK271.out 0).trans rfl, (blk_cell BK271.out 1).trans rfl, hx273_0, hx273_1, hx273_2⟩ (fun hHeld => ?_); refine with_tabW laws_FnYard.tab13 laws_FnYard.bits13 (fun HT_ HW_ => ?_)
          generalize wr.drew = w26 at HO_4 HO_271001 HO_272001 BK270 BK271 HB hx273_0 hx273_1 hx273_2 hHeld ⊢
          refine pu_ 1 53 HT_ (bs 14 2) rfl rfl ?_
          refine pu_ 2 54 HT_ (bs 14 6) rfl rfl ?_
          refine pu_ 3 55 HT_ (bs 14 14) rfl rfl ?_
          refine pu_ 4 56 HT_ (bs 14 30) rfl rfl ?_
          refine take_ (i := 0) (N := some 52) (v := ?_) (a' := ?_) (bs 14 31) rfl rfl (take_ofW HT_.out HW_.out (by kernel_rfl)) (fun _ _ _ h => h) (Or.inl ⟨by rfl, ?_⟩) hHeld ?_ ?_
          rotate_left
          ·rintro w' ⟨s0, s1, s2, s3, s4⟩
           go_simp
           with_reducible rfl
          rotate_left
          ·simp only [Act.put, sA_, sZ_, sS_, i64_w, i32_w]
           rfl
          refine take_ (i := 5) (N := some 57) (v := ?_) (a' := ?_) (bs 14 63) rfl rfl (take_ofW HT_.out HW_.out (by kernel_rfl)) (fun _ _ _ h => h) (Or.inl ⟨by rfl, ?_⟩) hHeld ?_ ?_
          rotate_left
          ·rintro w' ⟨s0, s1, s2, s3, s4⟩
           go_simp
           with_reducible rfl
          rotate_left
          ·simp only [Act.put, sA_, sZ_, sS_, i64_w, i32_w]
           rfl
          refine one_ (i := 6) (N := some 58) (bs 14 127) rfl rfl (one_of HT_.out (by kernel_rfl)) (by decide) (fun K hK => ?_)
          refine goes_ Try.func30 (by kernel_rfl) rfl #[.agg #[.int .i64 x272000_1, .slice Ao25 x272001_1.length co25], .int .i64 ((rd_T76 t267 x6_1).f1)] (by rfl) rfl rfl ml_ ?_
          with_reducible refine (impl_FindBox.calls k2 x272000_1 _ _ x272001_1 ((rd_T76 t267 x6_1).f1) t274 t275 t276 _ ?side1 ?side2 A21.out).mono ?_
          (case side1 => repeat (first | exact (Kd.S_reads' HO_272001.out).2.2 | (with_reducible refine Kd.C_alloc ?_ _) | (with_reducible refine Kd.C_drewN ?_ _) | (with_reducible refine Kd.C_drew ?_)))
          (case side2 => exact (Kd.S_reads' HO_272001.out).2.1)
          rintro e w27 ⟨rfl, hb⟩
          have HS2_ := (hb.cell (World.block_lt_of_cell? _ _ (hHeld.2.2.1))).trans (hHeld.2.2.1)
          have HS3_ := (hb.cell (World.block_lt_of_cell? _ _ (hHeld.2.2.2.1))).trans (hHeld.2.2.2.1)
          have HS4_ := (hb.cell (World.block_lt_of_cell? _ _ (hHeld.2.2.2.2))).trans (hHeld.2.2.2.2)
          refine ⟨_, rfl, ?_⟩
          have n0_ := Aside0.mk (Kd.R_below (fr_ HO_4.out) hb)
          have n1_ := Aside0.mk (Kd.S_below (by (with_reducible repeat (first | apply Kd.S_alloc | apply Kd.S_drewN | apply Kd.S_drew)); exact HO_271001.out) hb)
          have n2_ := Aside0.mk (Kd.S_below (by (with_reducible repeat (first | apply Kd.S_alloc | apply Kd.S_drewN | apply Kd.S_drew)); exact HO_272001.out) hb)
          have n3_ := Aside0.mk (bb_ BK270.out hb)
          have n4_ := Aside0.mk (bb_ BK271.out hb)
          have n5_ := Aside0.mk (below_step (bel_ HB.out) hb)
          clear HO_4
          clear HO_271001
          clear HO_272001
          clear BK270
          clear BK271
          clear HB
          have HO_4 := n0_
          have HO_271001 := n1_
          have HO_272001 := n2_
          have BK270 := n3_
          have BK271 := n4_
          have HB := n5_
          clear n0_ n1_ n2_ n3_ n4_ n5_
          (try clear hb)
          (try clear hb2)
          (try clear hk)
          (try clear hi)
          refine hK.out _ _ ⟨(blk_cell BK271.out 0).trans rfl, (blk_cell BK271.out 1).trans rfl, HS2_, HS3_, HS4_⟩ (fun hHeld => ?_)
          clear hK K
          refine norm_ (a' := ?_) ?_ ?_
          rotate_left
          ·show Act.put _ (some 58) _ = _
           simp only [Act.put, sA_, sZ_, sS_, i64_w, i32_w]
           rfl
          refine pu_ 7 51 HT_ (bs 14 255) rfl rfl ?_
          refine pu_ 8 59 HT_ (bs 14 511) rfl rfl ?_
          refine pu_ 9 60 HT_ (bs 14 1023) rfl rfl ?_
          refine pu_ 10 61 HT_ (bs 14 2047) rfl rfl ?_
          refine pu_ 11 9 HT_ (bs 14 4095) rfl rfl ?_
          refine pu_ 12 10 HT_ (bs 14 8191) rfl rfl ?_
          refine pu_ 13 11 HT_ (bs 14 16383) rfl rfl ?_
          refine done_ (done_of HT_.out (by kernel_rfl)) ?_
          go_upto_region 14 with (fail)
          go_cut [78] (fun v78 wc => ∃ (kq : Nat) (x78_21 : Bool), v78 = .bool x78_21 ∧ Aside0 (laws_FnYard.j2 kq t267 x6_1 x7_2 t274 t275 t276 x78_21 t263 t264 x272000_1 x272001_1 = some r) ∧ Aside0 (kq ≤ k2) ∧ Aside0 (Kd.R k76 76 wc w.heap.size (fun _ => True) (.slice (some ad273) t267.length co13) t267) ∧ Aside0 (Kd.S (Kd.slice 3 (Kd.int .i64)) 28 wc w.heap.size (fun _ => True) (.slice Ao8 t264.length co8) t264) ∧ Aside0 (Kd.S (Kd.slice 3 (Kd.int .i64)) 28 wc w.heap.size (fun _ => True) (.slice Ao25 x272001_1.length co25) x272001_1) ∧ Aside0 (wc.heap[gb270]? = some (.cells #[.int .i64 t263, (.slice Ao8 t264.length co8)] 69 (0, 0))) ∧ Aside0 (wc.heap[gb271]? = some (.cells #[.int .i64 x272000_1, (.slice Ao25 x272001_1.length co25)] 69 (0, 0))) ∧ Aside0 (Below w.heap.size w wc))
          case first =>
           have H := HC22.out
           clear HC22
           by_cases c28 : t276 = true
           ·subst c28
            have H1 : (if 0 ≤ t274 then (if t274 < (x272001_1.length : Int) then (if 0 ≤ t275 then (if t275 < ((rd_L2 x272001_1 t274).length : Int) then (laws_FnYard.j2 k2 t267 x6_1 x7_2 t274 t275 true ((rd (rd_L2 x272001_1 t274) t275) != ((rd_T76 t267 x6_1).f1)) t263 t264 x272000_1 x272001_1) else (none)) else (none)) else (none)) else (none)) = some r := by rw [if_pos rfl] at H; exact H
            clear H
            have H := H1
            clear H1
            by_cases c29 : 0 ≤ t274
            ·rw [if_pos c29] at H
             have c29b0 : decide (0 ≤ t274) = true := decide_eq_true c29
             clear c29
             (first | rw [c29b0] | (simp only [i64_w, i32_w]; rw [c29b0]) | skip)
             by_cases c30 : t274 < (x272001_1.length : Int)
             ·rw [if_pos c30] at H
              have c30b0 : decide (t274 < (x272001_1.length : Int)) = true := decide_eq_true c30
              clear c30
              by_cases c31 : 0 ≤ t275
              ·rw [if_pos c31] at H
               have c31b0 : decide (0 ≤ t275) = true := decide_eq_true c31
               clear c31
               by_cases c32 : t275 < ((rd_L2 x272001_1 t274).length : Int)
               ·rw [if_pos c32] at H
                have c32b0 : decide (t275 < ((rd_L2 x272001_1 t274).length : Int)) = true := decide_eq_true c32
                clear c32
                have H' := Aside0.mk H
                clear H
                try go_wp2
                have n0_ := Aside0.mk (Kd.R_drew HO_4.out)
                have n1_ := Aside0.mk (Kd.S_drew HO_271001.out)
                have n2_ := Aside0.mk (Kd.S_drew HO_272001.out)
                have n3_ := Aside0.mk (blk_drew BK270.out)
                have n4_ := Aside0.mk (blk_drew BK271.out)
                have n5_ := Aside0.mk (below_drew1 HB.out)
                clear HO_4
                clear HO_271001
                clear HO_272001
                clear BK270
                clear BK271
                clear HB
                have HO_4 := n0_
                have HO_271001 := n1_
                have HO_272001 := n2_
                have BK270 := n3_
                have BK271 := n4_
                have HB := n5_
                clear n0_ n1_ n2_ n3_ n4_ n5_
                have p277 : 0 ≤ (t274 : Int) := of_decide_eq_true (by first | (with_reducible assumption) | assumption)
                have q277 : t274 < (x272001_1.length : Int) := of_decide_eq_true (by first | (with_reducible assumption) | assumption)
                obtain ⟨ad277, A277_0, c277_0, e277, hx277_0, hl277_0, hi277_0⟩ := at_L2 (Kd.S_reads' HO_272001.out).2.2 t274 p277 q277
                cases e277
                obtain ⟨ce277, hce277, hMe277, hcc277⟩ := Kd.S_get HO_272001.out [] t274 p277 (by first | exact q277 | exact of_decide_eq_true (by first | (with_reducible assumption) | assumption) | (have e_ := (Kd.S_reads' HO_272001.out).1; omega))
                obtain ⟨ve277_0, rfl, ge277_0⟩ := hMe277
                have hv277_0 := hcc277 0 _ rfl
                rw [Nat.add_zero, show ((Kd.slice 3 (Kd.int .i64))).sz = 1 from rfl, Nat.mul_one] at hv277_0
                replace hv277_0 := Option.some.inj (hv277_0.symm.trans hx277_0)
                rw [hv277_0] at ge277_0
                have HL277_0 := Aside0.mk (show Kd.R (Kd.int .i64) 3 _ _ _ _ (rd_L2 x272001_1 t274) from ge277_0)
                clear hv277_0 ge277_0
                clear hcc277 hce277
                have HR277_0 := Aside0.mk hi277_0
                have HC277_0 := Aside0.mk hl277_0
                clear hi277_0 hl277_0
                replace p277 := eq_true p277
                replace q277 := eq_true q277
                have p278 : 0 ≤ (t275 : Int) := of_decide_eq_true (by first | (with_reducible assumption) | assumption)
                have q278 : t275 < ((rd_L2 x272001_1 t274).length : Int) := of_decide_eq_true (by first | (with_reducible assumption) | assumption)
                obtain ⟨ad278, e278, hx278_0⟩ := Kd.at_int (by repeat (first | (with_reducible exact HR277_0.out) | (with_reducible refine Kd.C_alloc ?_ _) | (with_reducible refine Kd.C_drewN ?_ _) | (with_reducible refine Kd.C_drew ?_) | exact HR277_0.out)) t275 p278 q278
                cases e278
                replace p278 := eq_true p278
                replace q278 := eq_true q278
                have p279 : 0 ≤ (x6_1 : Int) := of_decide_eq_true (by first | (with_reducible assumption) | assumption)
                have q279 : x6_1 < (t267.length : Int) := of_decide_eq_true (by first | (with_reducible assumption) | assumption)
                obtain ⟨ad279, e279, hx279_0, hx279_1, hx279_2⟩ := at_T76 (Kd.R_reads' HO_4.out).2.2 x6_1 p279 q279
                obtain rfl : ad273 = ad279 := (by injection e279)
                replace p279 := eq_true p279
                replace q279 := eq_true q279
                refine start_ (n := 17) (S := fun w' => w'.cell? ⟨gb271, 0, none⟩ = some (.int .i64 x272000_1) ∧ w'.cell? ⟨gb271, 1, none⟩ = some (.slice (some ad277) x272001_1.length co25) ∧ w'.cell? (ad277.add (t274).toNat) = some (.slice (some ad278) (rd_L2 x272001_1 t274).length c277_0) ∧ w'.cell? (ad278.add (t275).toNat) = some (.int .i64 (rd (rd_L2 x272001_1 t274) t275)) ∧ w'.cell? (ad273.add ((x6_1).toNat * 3)) = some (.int .i64 ((rd_T76 t267 x6_1).f0)) ∧ w'.cell? ⟨(ad273.add ((x6_1).toNat * 3)).block, (ad273.add ((x6_1).toNat * 3)).off + 1, none⟩ = some (.int .i64 ((rd_T76 t267 x6_1).f1)) ∧ w'.cell? ⟨(ad273.add ((x6_1).toNat * 3)).block, (ad273.add ((x6_1).toNat * 3)).off + 2, none⟩ = some (.int .i64 ((rd_T76 t267 x6_1).f2))) (ds := []) (bs 17 0) (by kernel_rfl) rfl rfl ⟨(blk_cell BK271.out 0).trans rfl, (blk_cell BK271.out 1).trans rfl, hx277_0, hx278_0, hx279_0, hx279_1, hx279_2⟩ (fun hHeld => ?_); refine with_tabW laws_FnYard.tab14 laws_FnYard.bits14 (fun HT_ HW_ => ?_)
                generalize w27.drew = w33 at HO_4 HO_271001 HO_272001 BK270 BK271 HB HL277_0 HR277_0 hx277_0 hx278_0 hx279_0 hx279_1 hx279_2 hHeld ⊢
                refine pu_ 0 62 HT_ (bs 17 1) rfl rfl ?_
                refine pu_ 1 63 HT_ (bs 17 3) rfl rfl ?_
                refine pu_ 2 64 HT_ (bs 17 7) rfl rfl ?_
                refine pu_ 4 66 HT_ (bs 17 23) rfl rfl ?_
                refine pu_ 7 69 HT_ (bs 17 151) rfl rfl ?_
                refine pu_ 10 72 HT_ (bs 17 1175) rfl rfl ?_
                refine pu_ 11 73 HT_ (bs 17 3223) rfl rfl ?_
                refine pu_ 12 74 HT_ (bs 17 7319) rfl rfl ?_
                refine pu_ 13 75 HT_ (bs 17 15511) rfl rfl ?_
                refine take_ (i := 3) (N := some 65) (v := ?_) (a' := ?_) (bs 17 15519) rfl rfl (take_ofW HT_.out HW_.out (by kernel_rfl)) (fun _ _ _ h => h) (Or.inl ⟨by rfl, ?_⟩) hHeld ?_ ?_
                rotate_left
                ·rintro w' ⟨s0, s1, s2, s3, s4, s5, s6⟩
                 go_simp
                 with_reducible rfl
                rotate_left
                ·simp only [Act.put, sA_, sZ_, sS_, i64_w, i32_w]
                 rfl
                refine pu_ 5 67 HT_ (bs 17 15551) rfl rfl ?_
                refine take_ (i := 6) (N := some 68) (v := ?_) (a' := ?_) (bs 17 15615) rfl rfl (take_ofW HT_.out HW_.out (by kernel_rfl)) (fun _ _ _ h => h) (Or.inl ⟨by rfl, ?_⟩) hHeld ?_ ?_
                rotate_left
                ·rintro w' ⟨s0, s1, s2, s3, s4, s5, s6⟩
                 go_simp
                 with_reducible rfl
                rotate_left
                ·simp only [Act.put, sA_, sZ_, sS_, i64_w, i32_w]
                 rfl
                refine pu_ 8 70 HT_ (bs 17 15871) rfl rfl ?_
                refine take_ (i := 9) (N := some 71) (v := ?_) (a' := ?_) (bs 17 16383) rfl rfl (take_ofW HT_.out HW_.out (by kernel_rfl)) (fun _ _ _ h => h) (Or.inl ⟨by rfl, ?_⟩) hHeld ?_ ?_
                rotate_left
                ·rintro w' ⟨s0, s1, s2, s3, s4, s5, s6⟩
                 go_simp
                 with_reducible rfl
                rotate_left
                ·simp only [Act.put, sA_, sZ_, sS_, i64_w, i32_w]
                 rfl
                refine take_ (i := 14) (N := some 76) (v := ?_) (a' := ?_) (bs 17 32767) rfl rfl (take_ofW HT_.out HW_.out (by kernel_rfl)) (fun _ _ _ h => h) (Or.inl ⟨by rfl, ?_⟩) hHeld ?_ ?_
                rotate_left
                ·rintro w' ⟨s0, s1, s2, s3, s4, s5, s6⟩
                 go_simp
                 with_reducible rfl
                rotate_left
                ·simp only [Act.put, sA_, sZ_, sS_, i64_w, i32_w]
                 rfl
                refine pu_ 15 77 HT_ (bs 17 65535) rfl rfl ?_
                refine pu_ 16 78 HT_ (bs 17 131071) rfl rfl ?_
                refine done_ (done_of HT_.out (by kernel_rfl)) ?_
                try go_wp2
                go_meet
                case rel => exact ⟨_, (((rd (rd_L2 x272001_1 t274) t275) != ((rd_T76 t267 x6_1).f1))), (by first | rfl | (simp; done) | (simp [*]; done) | (simp [wrap64]; done)), H', ⟨by have := HK1.out; have := HK2.out; first | omega | exact Nat.le_refl _⟩, ⟨by (with_reducible repeat (first | apply Kd.R_alloc | apply Kd.R_drewN | apply Kd.R_drew)); exact HO_4.out⟩, ⟨by (with_reducible repeat (first | apply Kd.S_alloc | apply Kd.S_drewN | apply Kd.S_drew)); exact HO_271001.out⟩, ⟨by (with_reducible repeat (first | apply Kd.S_alloc | apply Kd.S_drewN | apply Kd.S_drew)); exact HO_272001.out⟩, ⟨by refine rp_ ?_; exact BK270.out⟩, ⟨by refine rp_ ?_; exact BK271.out⟩, ⟨bel_ HB.out⟩⟩
               ·rw [if_neg c32] at H
                exact absurd H (by simp)
              ·rw [if_neg c31] at H
               exact absurd H (by simp)
             ·rw [if_neg c30] at H
              exact absurd H (by simp)
            ·rw [if_neg c29] at H
             exact absurd H (by simp)
           ·replace c28 := Bool.eq_false_iff.mpr c28
            subst c28
            have H1 : (laws_FnYard.j2 k2 t267 x6_1 x7_2 t274 t275 false false t263 t264 x272000_1 x272001_1) = some r := by rw [if_neg (show ¬ (false = true) by decide)] at H; exact H
            clear H
            have H := H1
            clear H1
            have H' := Aside0.mk H
            clear H
            try go_wp2
            have n0_ := Aside0.mk (Kd.R_drew HO_4.out)
            have n1_ := Aside0.mk (Kd.S_drew HO_271001.out)
            have n2_ := Aside0.mk (Kd.S_drew HO_272001.out)
            have n3_ := Aside0.mk (blk_drew BK270.out)
            have n4_ := Aside0.mk (blk_drew BK271.out)
            have n5_ := Aside0.mk (below_drew1 HB.out)
            clear HO_4
            clear HO_271001
            clear HO_272001
            clear BK270
            clear BK271
            clear HB
            have HO_4 := n0_
            have HO_271001 := n1_
            have HO_272001 := n2_
            have BK270 := n3_
            have BK271 := n4_
            have HB := n5_
            clear n0_ n1_ n2_ n3_ n4_ n5_
            refine start_ (n := 17) (S := fun w' => True) (ds := []) (bs 17 0) (by kernel_rfl) rfl rfl trivial (fun hHeld => ?_); refine with_tabW laws_FnYard.tab14 laws_FnYard.bits14 (fun HT_ HW_ => ?_)
            generalize w27.drew = w34 at HO_4 HO_271001 HO_272001 BK270 BK271 HB hHeld ⊢
            refine pu_ 0 62 HT_ (bs 17 1) rfl rfl ?_
            refine pu_ 1 63 HT_ (bs 17 3) rfl rfl ?_
            refine pn_ 2 64 HT_ (bs 17 7) rfl rfl ?_
            refine pn_ 3 65 HT_ (bs 17 15) rfl rfl ?_
            refine pn_ 4 66 HT_ (bs 17 31) rfl rfl ?_
            refine pn_ 5 67 HT_ (bs 17 63) rfl rfl ?_
            refine pn_ 6 68 HT_ (bs 17 127) rfl rfl ?_
            refine pn_ 7 69 HT_ (bs 17 255) rfl rfl ?_
            refine pn_ 8 70 HT_ (bs 17 511) rfl rfl ?_
            refine pn_ 9 71 HT_ (bs 17 1023) rfl rfl ?_
            refine pn_ 10 72 HT_ (bs 17 2047) rfl rfl ?_
            refine pn_ 11 73 HT_ (bs 17 4095) rfl rfl ?_
            refine pn_ 12 74 HT_ (bs 17 8191) rfl rfl ?_
            refine pn_ 13 75 HT_ (bs 17 16383) rfl rfl ?_
            refine pn_ 14 76 HT_ (bs 17 32767) rfl rfl ?_
            refine pn_ 15 77 HT_ (bs 17 65535) rfl rfl ?_
            refine pu_ 16 78 HT_ (bs 17 131071) rfl rfl ?_
            refine done_ (done_of HT_.out (by kernel_rfl)) ?_
            try go_wp2
            go_meet
            case rel => exact ⟨_, (false), (by first | rfl | (simp; done) | (simp [*]; done) | (simp [wrap64]; done)), H', ⟨by have := HK1.out; have := HK2.out; first | omega | exact Nat.le_refl _⟩, ⟨by (with_reducible repeat (first | apply Kd.R_alloc | apply Kd.R_drewN | apply Kd.R_drew)); exact HO_4.out⟩, ⟨by (with_reducible repeat (first | apply Kd.S_alloc | apply Kd.S_drewN | apply Kd.S_drew)); exact HO_271001.out⟩, ⟨by (with_reducible repeat (first | apply Kd.S_alloc | apply Kd.S_drewN | apply Kd.S_drew)); exact HO_272001.out⟩, ⟨by refine rp_ ?_; exact BK270.out⟩, ⟨by refine rp_ ?_; exact BK271.out⟩, ⟨bel_ HB.out⟩⟩
          case rest =>
           clear HC22
           try clear c3
           try clear c14
           try clear c14b0
           try clear c19
           try clear c19b0
           try clear c20
           try clear c20b0
           try clear hcz24_0
           try clear hcz24_1
           try clear hfz11_0
           try clear hfz11_1
           try clear hfz24_0
           try clear hfz24_1
           try clear hfz7_0
           try clear hfz7_1
           try clear hx273_0
           try clear hx273_1
           try clear hx273_2
           try clear p273
           try clear q273
           obtain ⟨kq, x78_21, rfl, HA, HJ21, HO_4, HO_271001, HO_272001, BK270, BK271, HB⟩ := hcut
           cases kq with
           | zero => exact absurd HA.out (by simp [laws_FnYard.j2])
           | succ kj21 =>
            have H := HA.out
            clear HA
            simp only [laws_FnYard.j2] at H
            by_cases c35 : x78_21 = true
            ·subst c35
             have H1 : (some false) = some r := by rw [if_pos rfl] at H; exact H
             clear H
             have H := H1
             clear H1
             obtain rfl := Option.some.inj H
             go_wp2
             go_ret
             exact ⟨by first | rfl | (simp [errW_none, errW_some] <;> rfl) | (simp [*, errW_none, errW_some] <;> rfl), bel_ HB.out⟩
            ·replace c35 := Bool.eq_false_iff.mpr c35
             subst c35
             have H1 : (if 0 ≤ x6_1 then (if x6_1 < (t267.length : Int) then ((impl_DoYard.f x272000_1 x272001_1 ((rd_T76 t267 x6_1).f0) ((rd_T76 t267 x6_1).f1) ((rd_T76 t267 x6_1).f2)).bind fun bt281 => ((impl_YardOk.f bt281.1 bt281.2.1).bind fun t288 => (if t288 = true then (laws_FnYard.l2 kj21 t267 x6_1 x7_2 t274 t275 t276 bt281.2.2.1 bt281.2.2.2 0 0 t263 t264 x272000_1 x272001_1 bt281.1 bt281.2.1) else (some false)))) else (none)) else (none)) = some r := by rw [if_neg (show ¬ (false = true) by decide)] at H; exact H
             clear H
             have H := H1
             clear H1
             by_cases c36 : 0 ≤ x6_1
             ·rw [if_pos c36] at H
              have c36b0 : decide (0 ≤ x6_1) = true := decide_eq_true c36
              clear c36
              by_cases c37 : x6_1 < (t267.length : Int)
              ·rw [if_pos c37] at H
               have c37b0 : decide (x6_1 < (t267.length : Int)) = true := decide_eq_true c37
               clear c37
               replace H := Option.bind_eq_some_iff.mp H
               obtain ⟨⟨t281, t282, t285, t286⟩, A380, H⟩ := H
               replace H : ((impl_YardOk.f t281 t282).bind fun t288 => (if t288 = true then (laws_FnYard.l2 kj21 t267 x6_1 x7_2 t274 t275 t276 t285 t286 0 0 t263 t264 x272000_1 x272001_1 t281 t282) else (some false))) = some r := H
               have A38 := Aside0.mk A380
               clear A380
               replace H := Option.bind_eq_some_iff.mp H
               obtain ⟨t288, A390, H⟩ := H
               replace H : (if t288 = true then (laws_FnYard.l2 kj21 t267 x6_1 x7_2 t274 t275 t276 t285 t286 0 0 t263 t264 x272000_1 x272001_1 t281 t282) else (some false)) = some r := H
               have A39 := Aside0.mk A390
               clear A390
               by_cases c40 : t288 = true
               ·subst c40
                have H1 : (laws_FnYard.l2 kj21 t267 x6_1 x7_2 t274 t275 t276 t285 t286 0 0 t263 t264 x272000_1 x272001_1 t281 t282) = some r := by rw [if_pos rfl] at H; exact H
                clear H
                have H := H1
                clear H1
                have H' := Aside0.mk H
                clear H
                try go_wp2
                have n0_ := Aside0.mk (Kd.R_drew HO_4.out)
                have n1_ := Aside0.mk (Kd.S_drew HO_271001.out)
                have n2_ := Aside0.mk (Kd.S_drew HO_272001.out)
                have n3_ := Aside0.mk (blk_drew BK270.out)
                have n4_ := Aside0.mk (blk_drew BK271.out)
                have n5_ := Aside0.mk (below_drew1 HB.out)
                clear HO_4
                clear HO_271001
                clear HO_272001
                clear BK270
                clear BK271
                clear HB
                have HO_4 := n0_
                have HO_271001 := n1_
                have HO_272001 := n2_
                have BK270 := n3_
                have BK271 := n4_
                have HB := n5_
                clear n0_ n1_ n2_ n3_ n4_ n5_
                have p280 : 0 ≤ (x6_1 : Int) := of_decide_eq_true (by first | (with_reducible assumption) | assumption)
                have q280 : x6_1 < (t267.length : Int) := of_decide_eq_true (by first | (with_reducible assumption) | assumption)
                obtain ⟨ad280, e280, hx280_0, hx280_1, hx280_2⟩ := at_T76 (Kd.R_reads' HO_4.out).2.2 x6_1 p280 q280
                obtain rfl : ad273 = ad280 := (by injection e280)
                replace p280 := eq_true p280
                replace q280 := eq_true q280
                refine start_ (n := 14) (S := fun w' => w'.cell? ⟨gb271, 0, none⟩ = some (.int .i64 x272000_1) ∧ w'.cell? ⟨gb271, 1, none⟩ = some (.slice Ao25 x272001_1.length co25) ∧ w'.cell? (ad273.add ((x6_1).toNat * 3)) = some (.int .i64 ((rd_T76 t267 x6_1).f0)) ∧ w'.cell? ⟨(ad273.add ((x6_1).toNat * 3)).block, (ad273.add ((x6_1).toNat * 3)).off + 1, none⟩ = some (.int .i64 ((rd_T76 t267 x6_1).f1)) ∧ w'.cell? ⟨(ad273.add ((x6_1).toNat * 3)).block, (ad273.add ((x6_1).toNat * 3)).off + 2, none⟩ = some (.int .i64 ((rd_T76 t267 x6_1).f2))) (ds := []) (bs 14 0) (by kernel_rfl) rfl rfl ⟨(blk_cell BK271.out 0).trans rfl, (blk_cell BK271.out 1).trans rfl, hx280_0, hx280_1, hx280_2⟩ (fun hHeld => ?_); refine with_tabW laws_FnYard.tab16 laws_FnYard.bits16 (fun HT_ HW_ => ?_)
                generalize wc.drew = w41 at HO_4 HO_271001 HO_272001 BK270 BK271 HB hx280_0 hx280_1 hx280_2 hHeld ⊢
                refine pu_ 1 81 HT_ (bs 14 2) rfl rfl ?_
                refine pu_ 2 82 HT_ (bs 14 6) rfl rfl ?_
                refine pu_ 3 83 HT_ (bs 14 14) rfl rfl ?_
                refine take_ (i := 0) (N := some 80) (v := ?_) (a' := ?_) (bs 14 15) rfl rfl (take_ofW HT_.out HW_.out (by kernel_rfl)) (fun _ _ _ h => h) (Or.inl ⟨by rfl, ?_⟩) hHeld ?_ ?_
                rotate_left
                ·rintro w' ⟨s0, s1, s2, s3, s4⟩
                 go_simp
                 with_reducible rfl
                rotate_left
                ·simp only [Act.put, sA_, sZ_, sS_, i64_w, i32_w]
                 rfl
                refine take_ (i := 4) (N := some 84) (v := ?_) (a' := ?_) (bs 14 31) rfl rfl (take_ofW HT_.out HW_.out (by kernel_rfl)) (fun _ _ _ h => h) (Or.inl ⟨by rfl, ?_⟩) hHeld ?_ ?_
                rotate_left
                ·rintro w' ⟨s0, s1, s2, s3, s4⟩
                 go_simp
                 with_reducible rfl
                rotate_left
                ·simp only [Act.put, sA_, sZ_, sS_, i64_w, i32_w]
                 rfl
                refine join_ (σ := Value × Nat) 3 (bs 14 2047) (fun s_ => [(85, .tuple #[.agg #[.int .i64 t281, s_.1], .int .i64 t285, .int .i64 t286]), (12, .pointer (some ⟨s_.2, 0, none⟩)), (79, .tuple #[.agg #[.int .i64 t281, s_.1], .int .i64 t285, .int .i64 t286]), (86, .agg #[.int .i64 t281, s_.1]), (87, .int .i64 t285), (88, .int .i64 t286)]) (fun s_ w' => (w'.cell? ⟨gb271, 0, none⟩ = some (.int .i64 x272000_1) ∧ w'.cell? ⟨gb271, 1, none⟩ = some (.slice Ao25 x272001_1.length co25) ∧ w'.cell? (ad273.add ((x6_1).toNat * 3)) = some (.int .i64 ((rd_T76 t267 x6_1).f0)) ∧ w'.cell? ⟨(ad273.add ((x6_1).toNat * 3)).block, (ad273.add ((x6_1).toNat * 3)).off + 1, none⟩ = some (.int .i64 ((rd_T76 t267 x6_1).f1)) ∧ w'.cell? ⟨(ad273.add ((x6_1).toNat * 3)).block, (ad273.add ((x6_1).toNat * 3)).off + 2, none⟩ = some (.int .i64 ((rd_T76 t267 x6_1).f2))) ∧ (Kd.S (Kd.slice 3 (Kd.int .i64)) 28 w' w.heap.size (fun k_ => some k_ ≠ (.slice Ao8 t264.length co8 : Value).ownBlock ∧ some k_ ≠ (.slice Ao25 x272001_1.length co25 : Value).ownBlock) s_.1 t282) ∧ (Kd.S (Kd.slice 3 (Kd.int .i64)) 28 w' w.heap.size (fun k_ => some k_ ≠ (s_.1 : Value).ownBlock) (.slice Ao8 t264.length co8) t264) ∧ (Kd.S (Kd.slice 3 (Kd.int .i64)) 28 w' w.heap.size (fun k_ => some k_ ≠ (s_.1 : Value).ownBlock) (.slice Ao25 x272001_1.length co25) x272001_1) ∧ (Kd.R k76 76 w' w.heap.size (fun _ => True) (.slice (some ad273) t267.length co13) t267) ∧ (w'.heap[gb270]? = some (.cells #[.int .i64 t263, .slice Ao8 t264.length co8] 69 (0, 0))) ∧ (w'.heap[gb271]? = some (.cells #[.int .i64 x272000_1, .slice Ao25 x272001_1.length co25] 69 (0, 0))) ∧ (w'.heap[s_.2]? = some (.cells #[.int .i64 0, .slice none 0 0] 69 (0, 0))) ∧ (w.heap.size ≤ s_.2) ∧ (w.heap.size ≤ s_.2) ∧ (gb270 ≠ s_.2) ∧ (s_.2 ≠ gb270) ∧ (gb271 ≠ s_.2) ∧ (s_.2 ≠ gb271) ∧ (Below w.heap.size w w')) ?_ ?_
                rotate_left
                ·intro hCont
                 refine two_ (i := 5) (j := 10) (Ni := some 85) (Nj := some 12) (bs 14 63) (bs 14 1055) rfl rfl rfl rfl (two_of HT_.out (by kernel_rfl)) (by decide) (by decide) (fun K hK => ?_) (fun K hK => ?_)
                 ·skip
                  refine goes_ Try.func31 (by kernel_rfl) rfl #[.agg #[.int .i64 x272000_1, .slice Ao25 x272001_1.length co25], .agg #[.int .i64 ((rd_T76 t267 x6_1).f0), .int .i64 ((rd_T76 t267 x6_1).f1), .int .i64 ((rd_T76 t267 x6_1).f2)]] (by rfl) rfl rfl ml_ ?_
                  with_reducible refine (impl_DoYard.calls x272000_1 _ _ x272001_1 ((rd_T76 t267 x6_1).f0) ((rd_T76 t267 x6_1).f1) ((rd_T76 t267 x6_1).f2) t281 t282 t285 t286 _ ?side1 ?side2 A38.out).mono ?_
                  (case side1 => repeat (first | exact (Kd.S_reads' HO_272001.out).2.2 | (with_reducible refine Kd.C_alloc ?_ _) | (with_reducible refine Kd.C_drewN ?_ _) | (with_reducible refine Kd.C_drew ?_)))
                  (case side2 => exact (Kd.S_reads' HO_272001.out).2.1)
                  rintro e w42 ⟨v283, rfl, ho0, hb⟩
                  have HS2_ := (hb.cell (World.block_lt_of_cell? _ _ (hHeld.2.2.1))).trans (hHeld.2.2.1)
                  have HS3_ := (hb.cell (World.block_lt_of_cell? _ _ (hHeld.2.2.2.1))).trans (hHeld.2.2.2.1)
                  have HS4_ := (hb.cell (World.block_lt_of_cell? _ _ (hHeld.2.2.2.2))).trans (hHeld.2.2.2.2)
                  refine ⟨_, rfl, ?_⟩
                  have n0_ := Aside0.mk (Kd.R_below (fr_ HO_4.out) hb)
                  have n1_ := Aside0.mk (Kd.S_elder' (by (with_reducible repeat (first | apply Kd.S_alloc | apply Kd.S_drewN | apply Kd.S_drew)); exact HO_271001.out) (Kd.S_base ho0) hb)
                  have n2_ := Aside0.mk (Kd.S_elder' (by (with_reducible repeat (first | apply Kd.S_alloc | apply Kd.S_drewN | apply Kd.S_drew)); exact HO_272001.out) (Kd.S_base ho0) hb)
                  have n3_ := Aside0.mk (Kd.S_lower (Kd.S_new' (Kd.S_new' ho0 (Kd.S_lt (by (with_reducible repeat (first | apply Kd.S_alloc | apply Kd.S_drewN | apply Kd.S_drew)); exact HO_271001.out))) (Kd.S_lt (by (with_reducible repeat (first | apply Kd.S_alloc | apply Kd.S_drewN | apply Kd.S_drew)); exact HO_272001.out))) (below_size (bel_ HB.out)))
                  have n4_ := Aside0.mk (bb_ BK270.out hb)
                  have n5_ := Aside0.mk (bb_ BK271.out hb)
                  have n6_ := Aside0.mk (below_step (bel_ HB.out) hb)
                  clear HO_4
                  clear HO_271001
                  clear HO_272001
                  clear BK270
                  clear BK271
                  clear HB
                  have HO_4 := n0_
                  have HO_271001 := n1_
                  have HO_272001 := n2_
                  have HO284 := n3_
                  have BK270 := n4_
                  have BK271 := n5_
                  have HB := n6_
                  clear n0_ n1_ n2_ n3_ n4_ n5_ n6_
                  (try clear hb)
                  (try clear hb2)
                  (try clear hk)
                  (try clear hi)
                  (try clear ho0)
                  refine hK.out _ _ ⟨(blk_cell BK271.out 0).trans rfl, (blk_cell BK271.out 1).trans rfl, HS2_, HS3_, HS4_⟩ (fun hHeld => ?_)
                  clear hK K
                  refine norm_ (a' := ?_) ?_ ?_
                  rotate_left
                  ·show Act.put _ (some 85) _ = _
                   simp only [Act.put, sA_, sZ_, sS_, i64_w, i32_w]
                   rfl
                  refine pu_ 6 79 HT_ (bs 14 127) rfl rfl ?_
                  refine pu_ 7 86 HT_ (bs 14 255) rfl rfl ?_
                  refine pu_ 8 87 HT_ (bs 14 511) rfl rfl ?_
                  refine pu_ 9 88 HT_ (bs 14 1023) rfl rfl ?_
                  refine one_ (i := 10) (N := some 12) (bs 14 2047) rfl rfl (one_of HT_.out (by kernel_rfl)) (by decide) (fun K hK => ?_)
                  refine box_step ?hg (N := 12) ?hd (cs := #[.int .i64 0, .slice none 0 0]) (t := 69) ?hr ?_; (case hd => rfl); (case hg => rfl); (case hr => first | (go_simp; done) | (go_simp; rfl))
                  intro gb287 hg w43 hbox hb
                  have HS2_ := (hb.cell (World.block_lt_of_cell? _ _ (hHeld.2.2.1))).trans (hHeld.2.2.1)
                  have HS3_ := (hb.cell (World.block_lt_of_cell? _ _ (hHeld.2.2.2.1))).trans (hHeld.2.2.2.1)
                  have HS4_ := (hb.cell (World.block_lt_of_cell? _ _ (hHeld.2.2.2.2))).trans (hHeld.2.2.2.2)
                  have n0_ := Aside0.mk (Kd.R_below (fr_ HO_4.out) hb)
                  have n1_ := Aside0.mk (Kd.S_below (by (with_reducible repeat (first | apply Kd.S_alloc | apply Kd.S_drewN | apply Kd.S_drew)); exact HO_271001.out) hb)
                  have n2_ := Aside0.mk (Kd.S_below (by (with_reducible repeat (first | apply Kd.S_alloc | apply Kd.S_drewN | apply Kd.S_drew)); exact HO_272001.out) hb)
                  have n3_ := Aside0.mk (Kd.S_below (by (with_reducible repeat (first | apply Kd.S_alloc | apply Kd.S_drewN | apply Kd.S_drew)); exact HO284.out) hb)
                  have n4_ := Aside0.mk (bb_ BK270.out hb)
                  have n5_ := Aside0.mk (bb_ BK271.out hb)
                  have n6_ := Aside0.mk (below_step (bel_ HB.out) hb)
                  have n7_ := Aside0.mk (hbox)
                  have n8_ := Aside0.mk ((by rw [hg]; exact (below_size (bel_ HB.out)) : w.heap.size ≤ gb287))
                  have n9_ := Aside0.mk ((by rw [hg]; exact (below_size (bel_ HB.out)) : w.heap.size ≤ gb287))
                  have n10_ := Aside0.mk (nl_ BK270.out hg)
                  have n11_ := Aside0.mk (ng_ BK270.out hg)
                  have n12_ := Aside0.mk (nl_ BK271.out hg)
                  have n13_ := Aside0.mk (ng_ BK271.out hg)
                  clear HO_4
                  clear HO_271001
                  clear HO_272001
                  clear HO284
                  clear BK270
                  clear BK271
                  clear HB
                  have HO_4 := n0_
                  have HO_271001 := n1_
                  have HO_272001 := n2_
                  have HO284 := n3_
                  have BK270 := n4_
                  have BK271 := n5_
                  have HB := n6_
                  have BK287 := n7_
                  have GW287 := n8_
                  have GE287 := n9_
                  have NB270_287 := n10_
                  have NB287_270 := n11_
                  have NB271_287 := n12_
                  have NB287_271 := n13_
                  clear n0_ n1_ n2_ n3_ n4_ n5_ n6_ n7_ n8_ n9_ n10_ n11_ n12_ n13_
                  clear hb hbox hg
                  refine hK.out _ _ ⟨(blk_cell BK271.out 0).trans rfl, (blk_cell BK271.out 1).trans rfl, HS2_, HS3_, HS4_⟩ (fun hHeld => ?_)
                  clear hK K
                  refine norm_ (a' := ?_) ?_ ?_
                  rotate_left
                  ·show Act.put _ (some 12) _ = _
                   simp only [Act.put, sA_, sZ_, sS_, i64_w, i32_w]
                   rfl
                  exact norm_ (by simp only [putAll, Act.put, sA_, sZ_, sS_]) (hCont (v283, gb287) _ ⟨hHeld, (by (with_reducible repeat (first | apply Kd.S_alloc | apply Kd.S_drewN | apply Kd.S_drew)); exact Kd.S_mono HO284.out (fun _ hk => ⟨hk.1.2, hk.2⟩)), (by (with_reducible repeat (first | apply Kd.S_alloc | apply Kd.S_drewN | apply Kd.S_drew)); exact Kd.S_mono HO_271001.out (fun _ hk => hk.2)), (by (with_reducible repeat (first | apply Kd.S_alloc | apply Kd.S_drewN | apply Kd.S_drew)); exact Kd.S_mono HO_272001.out (fun _ hk => hk.2)), (fr_ HO_4.out), (fb_ BK270.out), (fb_ BK271.out), (fb_ BK287.out), GW287.out, GE287.out, NB270_287.out, NB287_270.out, NB271_287.out, NB287_271.out, (bel_ HB.out)⟩)
                 ·skip
                  refine box_step ?hg (N := 12) ?hd (cs := #[.int .i64 0, .slice none 0 0]) (t := 69) ?hr ?_; (case hd => rfl); (case hg => rfl); (case hr => first | (go_simp; done) | (go_simp; rfl))
                  intro gb287 hg w42 hbox hb
                  have HS2_ := (hb.cell (World.block_lt_of_cell? _ _ (hHeld.2.2.1))).trans (hHeld.2.2.1)
                  have HS3_ := (hb.cell (World.block_lt_of_cell? _ _ (hHeld.2.2.2.1))).trans (hHeld.2.2.2.1)
                  have HS4_ := (hb.cell (World.block_lt_of_cell? _ _ (hHeld.2.2.2.2))).trans (hHeld.2.2.2.2)
                  have n0_ := Aside0.mk (Kd.R_below (fr_ HO_4.out) hb)
                  have n1_ := Aside0.mk (Kd.S_below (by (with_reducible repeat (first | apply Kd.S_alloc | apply Kd.S_drewN | apply Kd.S_drew)); exact HO_271001.out) hb)
                  have n2_ := Aside0.mk (Kd.S_below (by (with_reducible repeat (first | apply Kd.S_alloc | apply Kd.S_drewN | apply Kd.S_drew)); exact HO_272001.out) hb)
                  have n3_ := Aside0.mk (bb_ BK270.out hb)
                  have n4_ := Aside0.mk (bb_ BK271.out hb)
                  have n5_ := Aside0.mk (below_step (bel_ HB.out) hb)
                  have n6_ := Aside0.mk (hbox)
                  have n7_ := Aside0.mk ((by rw [hg]; exact (below_size (bel_ HB.out)) : w.heap.size ≤ gb287))
                  have n8_ := Aside0.mk ((by rw [hg]; exact (below_size (bel_ HB.out)) : w.heap.size ≤ gb287))
                  have n9_ := Aside0.mk (nl_ BK270.out hg)
                  have n10_ := Aside0.mk (ng_ BK270.out hg)
                  have n11_ := Aside0.mk (nl_ BK271.out hg)
                  have n12_ := Aside0.mk (ng_ BK271.out hg)
                  clear HO_4
                  clear HO_271001
                  clear HO_272001
                  clear BK270
                  clear BK271
                  clear HB
                  have HO_4 := n0_
                  have HO_271001 := n1_
                  have HO_272001 := n2_
                  have BK270 := n3_
                  have BK271 := n4_
                  have HB := n5_
                  have BK287 := n6_
                  have GW287 := n7_
                  have GE287 := n8_
                  have NB270_287 := n9_
                  have NB287_270 := n10_
                  have NB271_287 := n11_
                  have NB287_271 := n12_
                  clear n0_ n1_ n2_ n3_ n4_ n5_ n6_ n7_ n8_ n9_ n10_ n11_ n12_
                  clear hb hbox hg
                  refine hK.out _ _ ⟨(blk_cell BK271.out 0).trans rfl, (blk_cell BK271.out 1).trans rfl, HS2_, HS3_, HS4_⟩ (fun hHeld => ?_)
                  clear hK K
                  refine norm_ (a' := ?_) ?_ ?_
                  rotate_left
                  ·show Act.put _ (some 12) _ = _
                   simp only [Act.put, sA_, sZ_, sS_, i64_w, i32_w]
                   rfl
                  refine one_ (i := 5) (N := some 85) (bs 14 1087) rfl rfl (one_of HT_.out (by kernel_rfl)) (by decide) (fun K hK => ?_)
                  refine goes_ Try.func31 (by kernel_rfl) rfl #[.agg #[.int .i64 x272000_1, .slice Ao25 x272001_1.length co25], .agg #[.int .i64 ((rd_T76 t267 x6_1).f0), .int .i64 ((rd_T76 t267 x6_1).f1), .int .i64 ((rd_T76 t267 x6_1).f2)]] (by rfl) rfl rfl ml_ ?_
                  with_reducible refine (impl_DoYard.calls x272000_1 _ _ x272001_1 ((rd_T76 t267 x6_1).f0) ((rd_T76 t267 x6_1).f1) ((rd_T76 t267 x6_1).f2) t281 t282 t285 t286 _ ?side1 ?side2 A38.out).mono ?_
                  (case side1 => repeat (first | exact (Kd.S_reads' HO_272001.out).2.2 | (with_reducible refine Kd.C_alloc ?_ _) | (with_reducible refine Kd.C_drewN ?_ _) | (with_reducible refine Kd.C_drew ?_)))
                  (case side2 => exact (Kd.S_reads' HO_272001.out).2.1)
                  rintro e w43 ⟨v283, rfl, ho0, hb⟩
                  have HS2_ := (hb.cell (World.block_lt_of_cell? _ _ (hHeld.2.2.1))).trans (hHeld.2.2.1)
                  have HS3_ := (hb.cell (World.block_lt_of_cell? _ _ (hHeld.2.2.2.1))).trans (hHeld.2.2.2.1)
                  have HS4_ := (hb.cell (World.block_lt_of_cell? _ _ (hHeld.2.2.2.2))).trans (hHeld.2.2.2.2)
                  refine ⟨_, rfl, ?_⟩
                  have n0_ := Aside0.mk (Kd.R_below (fr_ HO_4.out) hb)
                  have n1_ := Aside0.mk (Kd.S_elder' (by (with_reducible repeat (first | apply Kd.S_alloc | apply Kd.S_drewN | apply Kd.S_drew)); exact HO_271001.out) (Kd.S_base ho0) hb)
                  have n2_ := Aside0.mk (Kd.S_elder' (by (with_reducible repeat (first | apply Kd.S_alloc | apply Kd.S_drewN | apply Kd.S_drew)); exact HO_272001.out) (Kd.S_base ho0) hb)
                  have n3_ := Aside0.mk (Kd.S_lower (Kd.S_new' (Kd.S_new' ho0 (Kd.S_lt (by (with_reducible repeat (first | apply Kd.S_alloc | apply Kd.S_drewN | apply Kd.S_drew)); exact HO_271001.out))) (Kd.S_lt (by (with_reducible repeat (first | apply Kd.S_alloc | apply Kd.S_drewN | apply Kd.S_drew)); exact HO_272001.out))) (below_size (bel_ HB.out)))
                  have n4_ := Aside0.mk (bb_ BK270.out hb)
                  have n5_ := Aside0.mk (bb_ BK271.out hb)
                  have n6_ := Aside0.mk (bb_ BK287.out hb)
                  have n7_ := Aside0.mk (below_step (bel_ HB.out) hb)
                  clear HO_4
                  clear HO_271001
                  clear HO_272001
                  clear BK270
                  clear BK271
                  clear BK287
                  clear HB
                  have HO_4 := n0_
                  have HO_271001 := n1_
                  have HO_272001 := n2_
                  have HO284 := n3_
                  have BK270 := n4_
                  have BK271 := n5_
                  have BK287 := n6_
                  have HB := n7_
                  clear n0_ n1_ n2_ n3_ n4_ n5_ n6_ n7_
                  (try clear hb)
                  (try clear hb2)
                  (try clear hk)
                  (try clear hi)
                  (try clear ho0)
                  refine hK.out _ _ ⟨(blk_cell BK271.out 0).trans rfl, (blk_cell BK271.out 1).trans rfl, HS2_, HS3_, HS4_⟩ (fun hHeld => ?_)
                  clear hK K
                  refine norm_ (a' := ?_) ?_ ?_
                  rotate_left
                  ·show Act.put _ (some 85) _ = _
                   simp only [Act.put, sA_, sZ_, sS_, i64_w, i32_w]
                   rfl
                  refine pu_ 6 79 HT_ (bs 14 1151) rfl rfl ?_
                  refine pu_ 7 86 HT_ (bs 14 1279) rfl rfl ?_
                  refine pu_ 8 87 HT_ (bs 14 1535) rfl rfl ?_
                  refine pu_ 9 88 HT_ (bs 14 2047) rfl rfl ?_
                  exact norm_ (by simp only [putAll, Act.put, sA_, sZ_, sS_]) (hCont (v283, gb287) _ ⟨hHeld, (by (with_reducible repeat (first | apply Kd.S_alloc | apply Kd.S_drewN | apply Kd.S_drew)); exact Kd.S_mono HO284.out (fun _ hk => ⟨hk.1.2, hk.2⟩)), (by (with_reducible repeat (first | apply Kd.S_alloc | apply Kd.S_drewN | apply Kd.S_drew)); exact Kd.S_mono HO_271001.out (fun _ hk => hk.2)), (by (with_reducible repeat (first | apply Kd.S_alloc | apply Kd.S_drewN | apply Kd.S_drew)); exact Kd.S_mono HO_272001.out (fun _ hk => hk.2)), (fr_ HO_4.out), (fb_ BK270.out), (fb_ BK271.out), (fb_ BK287.out), GW287.out, GE287.out, NB270_287.out, NB287_270.out, NB271_287.out, NB287_271.out, (bel_ HB.out)⟩)
                rintro ⟨v283, gb287⟩ w44 ⟨hS_, h0_, h1_, h2_, h3_, h4_, h5_, h6_, h7_, h8_, h9_, h10_, h11_, h12_, h13_⟩
                have n0_ : Aside0 (Kd.S (Kd.slice 3 (Kd.int .i64)) 28 w44 w.heap.size (fun k_ => some k_ ≠ (.slice Ao8 t264.length co8 : Value).ownBlock ∧ some k_ ≠ (.slice Ao25 x272001_1.length co25 : Value).ownBlock) v283 t282) := ⟨h0_⟩
                have n1_ : Aside0 (Kd.S (Kd.slice 3 (Kd.int .i64)) 28 w44 w.heap.size (fun k_ => some k_ ≠ (v283 : Value).ownBlock) (.slice Ao8 t264.length co8) t264) := ⟨h1_⟩
                have n2_ : Aside0 (Kd.S (Kd.slice 3 (Kd.int .i64)) 28 w44 w.heap.size (fun k_ => some k_ ≠ (v283 : Value).ownBlock) (.slice Ao25 x272001_1.length co25) x272001_1) := ⟨h2_⟩
                have n3_ : Aside0 (Kd.R k76 76 w44 w.heap.size (fun _ => True) (.slice (some ad273) t267.length co13) t267) := ⟨h3_⟩
                have n4_ : Aside0 (w44.heap[gb270]? = some (.cells #[.int .i64 t263, .slice Ao8 t264.length co8] 69 (0, 0))) := ⟨h4_⟩
                have n5_ : Aside0 (w44.heap[gb271]? = some (.cells #[.int .i64 x272000_1, .slice Ao25 x272001_1.length co25] 69 (0, 0))) := ⟨h5_⟩
                have n6_ : Aside0 (w44.heap[gb287]? = some (.cells #[.int .i64 0, .slice none 0 0] 69 (0, 0))) := ⟨h6_⟩
                have n7_ : Aside0 (w.heap.size ≤ gb287) := ⟨h7_⟩
                have n8_ : Aside0 (w.heap.size ≤ gb287) := ⟨h8_⟩
                have n9_ : Aside0 (gb270 ≠ gb287) := ⟨h9_⟩
                have n10_ : Aside0 (gb287 ≠ gb270) := ⟨h10_⟩
                have n11_ : Aside0 (gb271 ≠ gb287) := ⟨h11_⟩
                have n12_ : Aside0 (gb287 ≠ gb271) := ⟨h12_⟩
                have n13_ : Aside0 (Below w.heap.size w w44) := ⟨h13_⟩
                clear HO_4
                clear HO_271001
                clear HO_272001
                clear BK270
                clear BK271
                clear HB
                clear h0_ h1_ h2_ h3_ h4_ h5_ h6_ h7_ h8_ h9_ h10_ h11_ h12_ h13_
                have HO284 := n0_
                have HO_271001 := n1_
                have HO_272001 := n2_
                have HO_4 := n3_
                have BK270 := n4_
                have BK271 := n5_
                have BK287 := n6_
                have GW287 := n7_
                have GE287 := n8_
                have NB270_287 := n9_
                have NB287_270 := n10_
                have NB271_287 := n11_
                have NB287_271 := n12_
                have HB := n13_
                clear n0_ n1_ n2_ n3_ n4_ n5_ n6_ n7_ n8_ n9_ n10_ n11_ n12_ n13_
                have hHeld : w44.cell? ⟨gb271, 0, none⟩ = some (.int .i64 x272000_1) ∧ w44.cell? ⟨gb271, 1, none⟩ = some (.slice Ao25 x272001_1.length co25) ∧ w44.cell? (ad273.add ((x6_1).toNat * 3)) = some (.int .i64 ((rd_T76 t267 x6_1).f0)) ∧ w44.cell? ⟨(ad273.add ((x6_1).toNat * 3)).block, (ad273.add ((x6_1).toNat * 3)).off + 1, none⟩ = some (.int .i64 ((rd_T76 t267 x6_1).f1)) ∧ w44.cell? ⟨(ad273.add ((x6_1).toNat * 3)).block, (ad273.add ((x6_1).toNat * 3)).off + 2, none⟩ = some (.int .i64 ((rd_T76 t267 x6_1).f2)) := hS_
                obtain ⟨Ao46, co46, eo46⟩ := Kd.S_slice HO284.out
                (first | subst eo46 | (injection eo46 with f1_ f2_ f3_; have f4_ := f1_.symm; have f5_ := f3_.symm; clear f1_ f2_ f3_; subst f4_; subst f5_))
                refine norm_ (a' := ?_) ?_ ?_
                rotate_left
                ·simp only [putAll, Act.put, sA_, sZ_, sS_]
                 rfl
                refine one_ (i := 11) (N := none) (bs 14 4095) rfl rfl (one_of HT_.out (by kernel_rfl)) (by decide) (fun K hK => ?_)
                have hs45 : w44.cell? ⟨gb287, 0, none⟩ = some (.int .i64 0) := (blk_cell BK287.out 0).trans rfl
                have hfs45 := blk_frozen BK287.out 0
                have hns45_0 := NB270_287.out
                have hns45_1 := NB271_287.out
                have hms45_0 := NB287_270.out
                have hms45_1 := NB287_271.out
                have hs47 : w44.cell? ⟨gb287, 1, none⟩ = some (.slice none 0 0) := (blk_cell BK287.out 1).trans rfl
                have hfs47 := blk_frozen BK287.out 1
                have hns47_0 := NB270_287.out
                have hns47_1 := NB271_287.out
                have hms47_0 := NB287_270.out
                have hms47_1 := NB287_271.out
                refine skip_ (w1 := ?_) (by rfl) rfl ?_ ?_
                rotate_left
                ·go_simp
                 rfl
                refine hK.out _ _ ⟨((cell_far (p := ⟨gb287, _, none⟩) NB271_287.out _).trans (((cell_far (p := ⟨gb287, _, none⟩) NB271_287.out _).trans (hHeld.1)))), ((cell_far (p := ⟨gb287, _, none⟩) NB271_287.out _).trans (((cell_far (p := ⟨gb287, _, none⟩) NB271_287.out _).trans (hHeld.2.1)))), ((cell_far (p := ⟨gb287, _, none⟩) (by first | exact Kd.own_blk (Kd.R_ne HO_4.out BK287.out (by decide)) | (rw [add_block]; exact Kd.own_blk (Kd.R_ne HO_4.out BK287.out (by decide))) | (show (Addr.add _ _).block ≠ _; rw [add_block]; exact Kd.own_blk (Kd.R_ne HO_4.out BK287.out (by decide))) | (dsimp only; exact Kd.own_blk (Kd.R_ne HO_4.out BK287.out (by decide)))) _).trans (((cell_far (p := ⟨gb287, _, none⟩) (by first | exact Kd.own_blk (Kd.R_ne HO_4.out BK287.out (by decide)) | (rw [add_block]; exact Kd.own_blk (Kd.R_ne HO_4.out BK287.out (by decide))) | (show (Addr.add _ _).block ≠ _; rw [add_block]; exact Kd.own_blk (Kd.R_ne HO_4.out BK287.out (by decide))) | (dsimp only; exact Kd.own_blk (Kd.R_ne HO_4.out BK287.out (by decide)))) _).trans (hHeld.2.2.1)))), ((cell_far (p := ⟨gb287, _, none⟩) (by first | exact Kd.own_blk (Kd.R_ne HO_4.out BK287.out (by decide)) | (rw [add_block]; exact Kd.own_blk (Kd.R_ne HO_4.out BK287.out (by decide))) | (show (Addr.add _ _).block ≠ _; rw [add_block]; exact Kd.own_blk (Kd.R_ne HO_4.out BK287.out (by decide))) | (dsimp only; exact Kd.own_blk (Kd.R_ne HO_4.out BK287.out (by decide)))) _).trans (((cell_far (p := ⟨gb287, _, none⟩) (by first | exact Kd.own_blk (Kd.R_ne HO_4.out BK287.out (by decide)) | (rw [add_block]; exact Kd.own_blk (Kd.R_ne HO_4.out BK287.out (by decide))) | (show (Addr.add _ _).block ≠ _; rw [add_block]; exact Kd.own_blk (Kd.R_ne HO_4.out BK287.out (by decide))) | (dsimp only; exact Kd.own_blk (Kd.R_ne HO_4.out BK287.out (by decide)))) _).trans (hHeld.2.2.2.1)))), ((cell_far (p := ⟨gb287, _, none⟩) (by first | exact Kd.own_blk (Kd.R_ne HO_4.out BK287.out (by decide)) | (rw [add_block]; exact Kd.own_blk (Kd.R_ne HO_4.out BK287.out (by decide))) | (show (Addr.add _ _).block ≠ _; rw [add_block]; exact Kd.own_blk (Kd.R_ne HO_4.out BK287.out (by decide))) | (dsimp only; exact Kd.own_blk (Kd.R_ne HO_4.out BK287.out (by decide)))) _).trans (((cell_far (p := ⟨gb287, _, none⟩) (by first | exact Kd.own_blk (Kd.R_ne HO_4.out BK287.out (by decide)) | (rw [add_block]; exact Kd.own_blk (Kd.R_ne HO_4.out BK287.out (by decide))) | (show (Addr.add _ _).block ≠ _; rw [add_block]; exact Kd.own_blk (Kd.R_ne HO_4.out BK287.out (by decide))) | (dsimp only; exact Kd.own_blk (Kd.R_ne HO_4.out BK287.out (by decide)))) _).trans (hHeld.2.2.2.2))))⟩ (fun hHeld => ?_)
                clear hK K
                refine pu_ 12 13 HT_ (bs 14 8191) rfl rfl ?_
                refine pu_ 13 14 HT_ (bs 14 16383) rfl rfl ?_
                refine done_ (done_of HT_.out (by kernel_rfl)) ?_
                have hnb48 := NB287_270.out
                have hnc48 := NB270_287.out
                have hnb49 := NB287_271.out
                have hnc49 := NB271_287.out
                have hcz50_0 : w44.cell? ⟨gb287, 0, none⟩ = some (.int .i64 0) := (blk_cell BK287.out 0).trans rfl
                have hcz50_1 : w44.cell? ⟨gb287, 1, none⟩ = some (.slice none 0 0) := (blk_cell BK287.out 1).trans rfl
                have hfz50_0 := blk_frozen BK287.out 0
                have hfz50_1 := blk_frozen BK287.out 1
                try go_wp2_with (first | ((with_reducible refine gate_callee (f := 32) rfl ?_); refine goesL_ (some 90) rfl rfl Try.func32 (by kernel_rfl) rfl #[.agg #[.int .i64 t281, .slice Ao46 t282.length co46]] rfl ml_ ?_; (with_reducible refine (impl_YardOk.calls t281 _ _ t282 true _ ?side1 ?side2 A39.out).mono ?_); (case side1 => refine (Kd.S_reads' (e := 28) (base := w.heap.size) (ok := fun k_ => (some k_ ≠ (.slice Ao8 t264.length co8 : Value).ownBlock ∧ some k_ ≠ (.slice Ao25 x272001_1.length co25 : Value).ownBlock)) (n := t282.length) (c := co46) ?_).2.2; exact (by (with_reducible repeat (first | apply Kd.S_alloc | apply Kd.S_drewN | apply Kd.S_drew)); exact (Kd.S_mono (Kd.S_far (p := ⟨gb287, 1, none⟩) (Kd.S_far (p := ⟨gb287, 0, none⟩) (Kd.S_types HO284.out BK287.out (by decide)) (fun _ hk => hk.2) (.int .i64 t281)) (fun _ hk => hk.2) (.slice Ao46 t282.length co46)) (fun _ h_ => h_.1)))); (case side2 => exact (Kd.S_reads' HO284.out).2.1); rintro e w51 ⟨rfl, hb⟩; refine ⟨_, rfl, ?_⟩; have n0_ := Aside0.mk (Kd.R_below (rf1_ (rt_ HO_4.out BK287.out)) hb); have n1_ := Aside0.mk (Kd.S_below (by (with_reducible repeat (first | apply Kd.S_alloc | apply Kd.S_drewN | apply Kd.S_drew)); exact (Kd.S_mono (Kd.S_far (p := ⟨gb287, 1, none⟩) (Kd.S_far (p := ⟨gb287, 0, none⟩) (Kd.S_types HO_271001.out BK287.out (by decide)) (fun _ hk => hk.2) (.int .i64 t281)) (fun _ hk => hk.2) (.slice Ao46 t282.length co46)) (fun _ h_ => h_.1))) hb); have n2_ := Aside0.mk (Kd.S_below (by (with_reducible repeat (first | apply Kd.S_alloc | apply Kd.S_drewN | apply Kd.S_drew)); exact (Kd.S_mono (Kd.S_far (p := ⟨gb287, 1, none⟩) (Kd.S_far (p := ⟨gb287, 0, none⟩) (Kd.S_types HO_272001.out BK287.out (by decide)) (fun _ hk => hk.2) (.int .i64 t281)) (fun _ hk => hk.2) (.slice Ao46 t282.length co46)) (fun _ h_ => h_.1))) hb); have n3_ := Aside0.mk (Kd.S_below (by (with_reducible repeat (first | apply Kd.S_alloc | apply Kd.S_drewN | apply Kd.S_drew)); exact (Kd.S_mono (Kd.S_far (p := ⟨gb287, 1, none⟩) (Kd.S_far (p := ⟨gb287, 0, none⟩) (Kd.S_types HO284.out BK287.out (by decide)) (fun _ hk => hk.2) (.int .i64 t281)) (fun _ hk => hk.2) (.slice Ao46 t282.length co46)) (fun _ h_ => h_.1))) hb); have n4_ := Aside0.mk (ba_ BK270.out hb); have n5_ := Aside0.mk (ba_ BK271.out hb); have n6_ := Aside0.mk (blk_below (g := gb287) (o := .cells #[.int .i64 t281, .slice Ao46 t282.length co46] 69 (0, 0)) (by refine rp_ ?_; refine blk_put (cs := #[.int .i64 t281, .slice none 0 0]) ?_ 1 _ rfl; refine rp_ ?_; refine blk_put (cs := #[.int .i64 0, .slice none 0 0]) ?_ 0 _ rfl; refine rp_ ?_; exact BK287.out) hb); have n7_ := Aside0.mk (below_step (bel_ HB.out) hb); clear HO_4; clear HO_271001; clear HO_272001; clear HO284; clear BK270; clear BK271; clear BK287; clear HB; have HO_4 := n0_; have HO_271001 := n1_; have HO_272001 := n2_; have HO284 := n3_; have BK270 := n4_; have BK271 := n5_; have BK287 := n6_; have HB := n7_; clear n0_ n1_ n2_ n3_ n4_ n5_ n6_ n7_; (try clear hb); (try clear hb2); (try clear hk); (try clear hi)))
                (try simp only [Act.put, sA_, sZ_, sS_])
                go_loopg [15, 16] kj21 (fun kq v15 v16 w' => ∃ (x15_4 : Int) (x16_4 : Int), v15 = .int .i64 x15_4 ∧ v16 = .int .i64 x16_4 ∧ Aside0 (laws_FnYard.l2 kq t267 x6_1 x7_2 t274 t275 t276 t285 t286 x15_4 x16_4 t263 t264 x272000_1 x272001_1 t281 t282 = some r) ∧ Aside0 (kq ≤ kj21) ∧ Aside0 (Kd.R k76 76 w' w.heap.size (fun _ => True) (.slice (some ad273) t267.length co13) t267) ∧ Aside0 (Kd.S (Kd.slice 3 (Kd.int .i64)) 28 w' w.heap.size (fun k_ => some k_ ≠ ((.slice Ao46 t282.length co46) : Value).ownBlock) (.slice Ao8 t264.length co8) t264) ∧ Aside0 (Kd.S (Kd.slice 3 (Kd.int .i64)) 28 w' w.heap.size (fun k_ => some k_ ≠ ((.slice Ao46 t282.length co46) : Value).ownBlock) (.slice Ao25 x272001_1.length co25) x272001_1) ∧ Aside0 (Kd.S (Kd.slice 3 (Kd.int .i64)) 28 w' w.heap.size (fun k_ => some k_ ≠ ((.slice Ao8 t264.length co8) : Value).ownBlock ∧ some k_ ≠ ((.slice Ao25 x272001_1.length co25) : Value).ownBlock) (.slice Ao46 t282.length co46) t282) ∧ Aside0 (w'.heap[gb270]? = some (.cells #[.int .i64 t263, (.slice Ao8 t264.length co8)] 69 (0, 0))) ∧ Aside0 (w'.heap[gb271]? = some (.cells #[.int .i64 x272000_1, (.slice Ao25 x272001_1.length co25)] 69 (0, 0))) ∧ Aside0 (w'.heap[gb287]? = some (.cells #[.int .i64 t281, (.slice Ao46 t282.length co46)] 69 (0, 0))) ∧ Aside0 (Below w.heap.size w w'))
                case atStart => exact ⟨(0), (0), (by first | rfl | (simp; done) | (simp [*]; done) | (simp [wrap64]; done)), (by first | rfl | (simp; done) | (simp [*]; done) | (simp [wrap64]; done)), H', ⟨Nat.le_refl _⟩, ⟨by (with_reducible repeat (first | apply Kd.R_alloc | apply Kd.R_drewN | apply Kd.R_drew)); exact HO_4.out⟩, ⟨by (with_reducible repeat (first | apply Kd.S_alloc | apply Kd.S_drewN | apply Kd.S_drew)); exact HO_271001.out⟩, ⟨by (with_reducible repeat (first | apply Kd.S_alloc | apply Kd.S_drewN | apply Kd.S_drew)); exact HO_272001.out⟩, ⟨by (with_reducible repeat (first | apply Kd.S_alloc | apply Kd.S_drewN | apply Kd.S_drew)); exact HO284.out⟩, ⟨by refine rp_ ?_; exact BK270.out⟩, ⟨by refine rp_ ?_; exact BK271.out⟩, ⟨by refine rp_ ?_; exact BK287.out⟩, ⟨bel_ HB.out⟩⟩
                case round =>
                 clear H'
                 try clear c3
                 try clear c14
                 try clear c14b0
                 try clear c19
                 try clear c19b0
                 try clear c20
                 try clear c20b0
                 try clear c35
                 try clear c36
                 try clear c36b0
                 try clear c37
                 try clear c37b0
                 try clear c40
                 try clear hcz24_0
                 try clear hcz24_1
                 try clear hcz50_0
                 try clear hcz50_1
                 try clear hfz11_0
                 try clear hfz11_1
                 try clear hfz24_0
                 try clear hfz24_1
                 try clear hfz50_0
                 try clear hfz50_1
                 try clear hfz7_0
                 try clear hfz7_1
                 try clear hx273_0
                 try clear hx273_1
                 try clear hx273_2
                 try clear hx280_0
                 try clear hx280_1
                 try clear hx280_2
                 try clear p273
                 try clear p280
                 try clear q273
                 try clear q280
                 obtain ⟨x15_4, x16_4, rfl, rfl, HA, HK4, HO_4, HO_271001, HO_272001, HO_288001, BK270, BK271, BK287, HB⟩ := hrel
                 cases gk with
                 | zero => exact absurd HA.out (by simp [laws_FnYard.l2])
                 | succ k4 =>
                  have H := HA.out
                  clear HA
                  simp only [laws_FnYard.l2] at H
                  by_cases c52 : x16_4 < (t282.length : Int)
                  ·rw [if_pos c52] at H
                   have c52b0 : decide (x16_4 < (t282.length : Int)) = true := decide_eq_true c52
                   clear c52
                   by_cases c53 : 0 ≤ x16_4
                   ·rw [if_pos c53] at H
                    have c53b0 : decide (0 ≤ x16_4) = true := decide_eq_true c53
                    clear c53
                    have H' := Aside0.mk H
                    clear H
                    have hnb54 := NB287_270.out
                    have hnc54 := NB270_287.out
                    have hnb55 := NB287_271.out
                    have hnc55 := NB271_287.out
                    have hcz56_0 : wr.cell? ⟨gb287, 0, none⟩ = some (.int .i64 t281) := (blk_cell BK287.out 0).trans rfl
                    have hcz56_1 : wr.cell? ⟨gb287, 1, none⟩ = some (.slice Ao46 t282.length co46) := (blk_cell BK287.out 1).trans rfl
                    have hfz56_0 := blk_frozen BK287.out 0
                    have hfz56_1 := blk_frozen BK287.out 1
                    have p289 : 0 ≤ (x16_4 : Int) := of_decide_eq_true (by first | (with_reducible assumption) | assumption)
                    have q289 : x16_4 < (t282.length : Int) := of_decide_eq_true (by first | (with_reducible assumption) | assumption)
                    obtain ⟨ad289, A289_0, c289_0, e289, hx289_0, hl289_0, hi289_0⟩ := at_L2 (Kd.S_reads' HO_288001.out).2.2 x16_4 p289 q289
                    cases e289
                    obtain ⟨ce289, hce289, hMe289, hcc289⟩ := Kd.S_get HO_288001.out [] x16_4 p289 (by first | exact q289 | exact of_decide_eq_true (by first | (with_reducible assumption) | assumption) | (have e_ := (Kd.S_reads' HO_288001.out).1; omega))
                    obtain ⟨ve289_0, rfl, ge289_0⟩ := hMe289
                    have hv289_0 := hcc289 0 _ rfl
                    rw [Nat.add_zero, show ((Kd.slice 3 (Kd.int .i64))).sz = 1 from rfl, Nat.mul_one] at hv289_0
                    replace hv289_0 := Option.some.inj (hv289_0.symm.trans hx289_0)
                    rw [hv289_0] at ge289_0
                    have HL289_0 := Aside0.mk (show Kd.R (Kd.int .i64) 3 _ _ _ _ (rd_L2 t282 x16_4) from ge289_0)
                    clear hv289_0 ge289_0
                    clear hcc289 hce289
                    have HR289_0 := Aside0.mk hi289_0
                    have HC289_0 := Aside0.mk hl289_0
                    clear hi289_0 hl289_0
                    replace p289 := eq_true p289
                    replace q289 := eq_true q289
                    go_wp2
                    go_roundg k4
                    case measure => have := HK1.out; have := HK2.out; have := HJ21.out; have := HK4.out; omega
                    case rel => exact ⟨(wrap64 (x15_4 + ((rd_L2 t282 x16_4).length : Int))), (wrap64 (x16_4 + 1)), (by first | rfl | (simp; done) | (simp [*]; done) | (simp [wrap64]; done)), (by first | rfl | (simp; done) | (simp [*]; done) | (simp [wrap64]; done)), H', ⟨by have := HK1.out; have := HK2.out; have := HJ21.out; have := HK4.out; omega⟩, ⟨by (with_reducible repeat (first | apply Kd.R_alloc | apply Kd.R_drewN | apply Kd.R_drew)); exact HO_4.out⟩, ⟨by (with_reducible repeat (first | apply Kd.S_alloc | apply Kd.S_drewN | apply Kd.S_drew)); exact HO_271001.out⟩, ⟨by (with_reducible repeat (first | apply Kd.S_alloc | apply Kd.S_drewN | apply Kd.S_drew)); exact HO_272001.out⟩, ⟨by (with_reducible repeat (first | apply Kd.S_alloc | apply Kd.S_drewN | apply Kd.S_drew)); exact HO_288001.out⟩, ⟨by refine rp_ ?_; exact BK270.out⟩, ⟨by refine rp_ ?_; exact BK271.out⟩, ⟨by refine rp_ ?_; exact BK287.out⟩, ⟨bel_ HB.out⟩⟩
                   ·rw [if_neg c53] at H
                    exact absurd H (by simp)
                  ·rw [if_neg c52] at H
                   have c52b0 : decide (x16_4 < (t282.length : Int)) = false := decide_eq_false c52
                   clear c52
                   have HC57 := Aside0.mk H
                   clear H
                   have hnb58 := NB287_270.out
                   have hnc58 := NB270_287.out
                   have hnb59 := NB287_271.out
                   have hnc59 := NB271_287.out
                   have hcz60_0 : wr.cell? ⟨gb287, 0, none⟩ = some (.int .i64 t281) := (blk_cell BK287.out 0).trans rfl
                   have hcz60_1 : wr.cell? ⟨gb287, 1, none⟩ = some (.slice Ao46 t282.length co46) := (blk_cell BK287.out 1).trans rfl
                   have hfz60_0 := blk_frozen BK287.out 0
                   have hfz60_1 := blk_frozen BK287.out 1
                   go_upto_region 25 with (fail)
                   go_cut [117] (fun v117 wc => ∃ (kq : Nat) (x117_56 : Bool), v117 = .bool x117_56 ∧ Aside0 (laws_FnYard.j4 kq t267 x6_1 t274 t275 t276 t285 t286 x15_4 x7_2 x117_56 t263 t264 x272000_1 x272001_1 t281 t282 = some r) ∧ Aside0 (kq ≤ k4) ∧ Aside0 (Kd.R k76 76 wc w.heap.size (fun _ => True) (.slice (some ad273) t267.length co13) t267) ∧ Aside0 (Kd.S (Kd.slice 3 (Kd.int .i64)) 28 wc w.heap.size (fun k_ => some k_ ≠ ((.slice Ao46 t282.length co46) : Value).ownBlock) (.slice Ao8 t264.length co8) t264) ∧ Aside0 (Kd.S (Kd.slice 3 (Kd.int .i64)) 28 wc w.heap.size (fun k_ => some k_ ≠ ((.slice Ao46 t282.length co46) : Value).ownBlock) (.slice Ao25 x272001_1.length co25) x272001_1) ∧ Aside0 (Kd.S (Kd.slice 3 (Kd.int .i64)) 28 wc w.heap.size (fun k_ => some k_ ≠ ((.slice Ao8 t264.length co8) : Value).ownBlock ∧ some k_ ≠ ((.slice Ao25 x272001_1.length co25) : Value).ownBlock) (.slice Ao46 t282.length co46) t282) ∧ Aside0 (wc.heap[gb270]? = some (.cells #[.int .i64 t263, (.slice Ao8 t264.length co8)] 69 (0, 0))) ∧ Aside0 (wc.heap[gb271]? = some (.cells #[.int .i64 x272000_1, (.slice Ao25 x272001_1.length co25)] 69 (0, 0))) ∧ Aside0 (wc.heap[gb287]? = some (.cells #[.int .i64 t281, (.slice Ao46 t282.length co46)] 69 (0, 0))) ∧ Aside0 (Below w.heap.size w wc))
                   case first =>
                    have H := HC57.out
                    clear HC57
                    by_cases c61 : t286 = 0
                    ·rw [if_pos c61] at H
                     have c61b0 : (t286 == 0) = true := beq_iff_eq.mpr c61
                     have c61b1 : (t286 != 0) = false := bne_eq_false_iff_eq.mpr c61
                     clear c61
                     (first | rw [c61b0] | (simp only [i64_w, i32_w]; rw [c61b0]) | skip)
                     by_cases c62 : 0 ≤ x6_1
                     ·rw [if_pos c62] at H
                      have c62b0 : decide (0 ≤ x6_1) = true := decide_eq_true c62
                      clear c62
                      by_cases c63 : x6_1 < (t267.length : Int)
                      ·rw [if_pos c63] at H
                       have c63b0 : decide (x6_1 < (t267.length : Int)) = true := decide_eq_true c63
                       clear c63
                       have H' := Aside0.mk H
                       clear H
                       have p290 : 0 ≤ (x6_1 : Int) := of_decide_eq_true (by first | (with_reducible assumption) | assumption)
                       have q290 : x6_1 < (t267.length : Int) := of_decide_eq_true (by first | (with_reducible assumption) | assumption)
                       obtain ⟨ad290, e290, hx290_0, hx290_1, hx290_2⟩ := at_T76 (Kd.R_reads' HO_4.out).2.2 x6_1 p290 q290
                       obtain rfl : ad273 = ad290 := (by injection e290)
                       replace p290 := eq_true p290
                       replace q290 := eq_true q290
                       go_wp2
                       go_meet
                       case rel => exact ⟨_, ((((rd_T76 t267 x6_1).f0) == 1)), (by first | rfl | (simp; done) | (simp [*]; done) | (simp [wrap64]; done)), H', ⟨by have := HK1.out; have := HK2.out; have := HJ21.out; have := HK4.out; first | omega | exact Nat.le_refl _⟩, ⟨by (with_reducible repeat (first | apply Kd.R_alloc | apply Kd.R_drewN | apply Kd.R_drew)); exact HO_4.out⟩, ⟨by (with_reducible repeat (first | apply Kd.S_alloc | apply Kd.S_drewN | apply Kd.S_drew)); exact HO_271001.out⟩, ⟨by (with_reducible repeat (first | apply Kd.S_alloc | apply Kd.S_drewN | apply Kd.S_drew)); exact HO_272001.out⟩, ⟨by (with_reducible repeat (first | apply Kd.S_alloc | apply Kd.S_drewN | apply Kd.S_drew)); exact HO_288001.out⟩, ⟨by refine rp_ ?_; exact BK270.out⟩, ⟨by refine rp_ ?_; exact BK271.out⟩, ⟨by refine rp_ ?_; exact BK287.out⟩, ⟨bel_ HB.out⟩⟩
                      ·rw [if_neg c63] at H
                       exact absurd H (by simp)
                     ·rw [if_neg c62] at H
                      exact absurd H (by simp)
                    ·rw [if_neg c61] at H
                     have c61b0 : (t286 == 0) = false := beq_eq_false_iff_ne.mpr c61
                     have c61b1 : (t286 != 0) = true := bne_iff_ne.mpr c61
                     (first | rw [c61b0] | (simp only [i64_w, i32_w]; rw [c61b0]) | skip)
                     have H' := Aside0.mk H
                     clear H
                     go_wp2
                     go_meet
                     case rel => exact ⟨_, (false), (by first | rfl | (simp; done) | (simp [*]; done) | (simp [wrap64]; done)), H', ⟨by have := HK1.out; have := HK2.out; have := HJ21.out; have := HK4.out; first | omega | exact Nat.le_refl _⟩, ⟨by (with_reducible repeat (first | apply Kd.R_alloc | apply Kd.R_drewN | apply Kd.R_drew)); exact HO_4.out⟩, ⟨by (with_reducible repeat (first | apply Kd.S_alloc | apply Kd.S_drewN | apply Kd.S_drew)); exact HO_271001.out⟩, ⟨by (with_reducible repeat (first | apply Kd.S_alloc | apply Kd.S_drewN | apply Kd.S_drew)); exact HO_272001.out⟩, ⟨by (with_reducible repeat (first | apply Kd.S_alloc | apply Kd.S_drewN | apply Kd.S_drew)); exact HO_288001.out⟩, ⟨by refine rp_ ?_; exact BK270.out⟩, ⟨by refine rp_ ?_; exact BK271.out⟩, ⟨by refine rp_ ?_; exact BK287.out⟩, ⟨bel_ HB.out⟩⟩
                   case rest =>
                    clear HC57
                    try clear c3
                    try clear c14
                    try clear c14b0
                    try clear c19
                    try clear c19b0
                    try clear c20
                    try clear c20b0
                    try clear c35
                    try clear c36
                    try clear c36b0
                    try clear c37
                    try clear c37b0
                    try clear c40
                    try clear c52
                    try clear c52b0
                    try clear hcz24_0
                    try clear hcz24_1
                    try clear hcz50_0
                    try clear hcz50_1
                    try clear hcz60_0
                    try clear hcz60_1
                    try clear hfz11_0
                    try clear hfz11_1
                    try clear hfz24_0
                    try clear hfz24_1
                    try clear hfz50_0
                    try clear hfz50_1
                    try clear hfz60_0
                    try clear hfz60_1
                    try clear hfz7_0
                    try clear hfz7_1
                    try clear hx273_0
                    try clear hx273_1
                    try clear hx273_2
                    try clear hx280_0
                    try clear hx280_1
                    try clear hx280_2
                    try clear p273
                    try clear p280
                    try clear q273
                    try clear q280
                    obtain ⟨kq, x117_56, rfl, HA, HJ56, HO_4, HO_271001, HO_272001, HO_288001, BK270, BK271, BK287, HB⟩ := hcut
                    cases kq with
                    | zero => exact absurd HA.out (by simp [laws_FnYard.j4])
                    | succ kj56 =>
                     have H := HA.out
                     clear HA
                     simp only [laws_FnYard.j4] at H
                     have HC64 := Aside0.mk H
                     clear H
                     go_upto_if 117 with (fail)
                     go_cut [17] (fun v17 wc => ∃ (kq : Nat) (x17_63 : Int), v17 = .int .i64 x17_63 ∧ Aside0 (laws_FnYard.j5 kq t267 x6_1 t274 t275 t276 t285 t286 x15_4 x17_63 t263 t264 x272000_1 x272001_1 t281 t282 = some r) ∧ Aside0 (kq ≤ kj56) ∧ Aside0 (Kd.R k76 76 wc w.heap.size (fun _ => True) (.slice (some ad273) t267.length co13) t267) ∧ Aside0 (Kd.S (Kd.slice 3 (Kd.int .i64)) 28 wc w.heap.size (fun k_ => some k_ ≠ ((.slice Ao46 t282.length co46) : Value).ownBlock) (.slice Ao8 t264.length co8) t264) ∧ Aside0 (Kd.S (Kd.slice 3 (Kd.int .i64)) 28 wc w.heap.size (fun k_ => some k_ ≠ ((.slice Ao46 t282.length co46) : Value).ownBlock) (.slice Ao25 x272001_1.length co25) x272001_1) ∧ Aside0 (Kd.S (Kd.slice 3 (Kd.int .i64)) 28 wc w.heap.size (fun k_ => some k_ ≠ ((.slice Ao8 t264.length co8) : Value).ownBlock ∧ some k_ ≠ ((.slice Ao25 x272001_1.length co25) : Value).ownBlock) (.slice Ao46 t282.length co46) t282) ∧ Aside0 (wc.heap[gb270]? = some (.cells #[.int .i64 t263, (.slice Ao8 t264.length co8)] 69 (0, 0))) ∧ Aside0 (wc.heap[gb271]? = some (.cells #[.int .i64 x272000_1, (.slice Ao25 x272001_1.length co25)] 69 (0, 0))) ∧ Aside0 (wc.heap[gb287]? = some (.cells #[.int .i64 t281, (.slice Ao46 t282.length co46)] 69 (0, 0))) ∧ Aside0 (Below w.heap.size w wc))
                     case first =>
                      have H := HC64.out
                      clear HC64
                      by_cases c65 : x117_56 = true
                      ·subst c65
                       have H1 : (laws_FnYard.j5 kj56 t267 x6_1 t274 t275 t276 t285 t286 x15_4 (wrap64 (x7_2 + 1)) t263 t264 x272000_1 x272001_1 t281 t282) = some r := by rw [if_pos rfl] at H; exact H
                       clear H
                       have H := H1
                       clear H1
                       have H' := Aside0.mk H
                       clear H
                       go_wp2
                       go_meet
                       case rel => exact ⟨_, (wrap64 (x7_2 + 1)), (by first | rfl | (simp; done) | (simp [*]; done) | (simp [wrap64]; done)), H', ⟨by have := HK1.out; have := HK2.out; have := HJ21.out; have := HK4.out; have := HJ56.out; first | omega | exact Nat.le_refl _⟩, ⟨by (with_reducible repeat (first | apply Kd.R_alloc | apply Kd.R_drewN | apply Kd.R_drew)); exact HO_4.out⟩, ⟨by (with_reducible repeat (first | apply Kd.S_alloc | apply Kd.S_drewN | apply Kd.S_drew)); exact HO_271001.out⟩, ⟨by (with_reducible repeat (first | apply Kd.S_alloc | apply Kd.S_drewN | apply Kd.S_drew)); exact HO_272001.out⟩, ⟨by (with_reducible repeat (first | apply Kd.S_alloc | apply Kd.S_drewN | apply Kd.S_drew)); exact HO_288001.out⟩, ⟨by refine rp_ ?_; exact BK270.out⟩, ⟨by refine rp_ ?_; exact BK271.out⟩, ⟨by refine rp_ ?_; exact BK287.out⟩, ⟨bel_ HB.out⟩⟩
                      ·replace c65 := Bool.eq_false_iff.mpr c65
                       subst c65
                       have H1 : (laws_FnYard.j5 kj56 t267 x6_1 t274 t275 t276 t285 t286 x15_4 x7_2 t263 t264 x272000_1 x272001_1 t281 t282) = some r := by rw [if_neg (show ¬ (false = true) by decide)] at H; exact H
                       clear H
                       have H := H1
                       clear H1
                       have H' := Aside0.mk H
                       clear H
                       go_wp2
                       go_meet
                       case rel => exact ⟨_, (x7_2), (by first | rfl | (simp; done) | (simp [*]; done) | (simp [wrap64]; done)), H', ⟨by have := HK1.out; have := HK2.out; have := HJ21.out; have := HK4.out; have := HJ56.out; first | omega | exact Nat.le_refl _⟩, ⟨by (with_reducible repeat (first | apply Kd.R_alloc | apply Kd.R_drewN | apply Kd.R_drew)); exact HO_4.out⟩, ⟨by (with_reducible repeat (first | apply Kd.S_alloc | apply Kd.S_drewN | apply Kd.S_drew)); exact HO_271001.out⟩, ⟨by (with_reducible repeat (first | apply Kd.S_alloc | apply Kd.S_drewN | apply Kd.S_drew)); exact HO_272001.out⟩, ⟨by (with_reducible repeat (first | apply Kd.S_alloc | apply Kd.S_drewN | apply Kd.S_drew)); exact HO_288001.out⟩, ⟨by refine rp_ ?_; exact BK270.out⟩, ⟨by refine rp_ ?_; exact BK271.out⟩, ⟨by refine rp_ ?_; exact BK287.out⟩, ⟨bel_ HB.out⟩⟩
                     case rest =>
                      clear HC64
                      try clear c3
                      try clear c14
                      try clear c14b0
                      try clear c19
                      try clear c19b0
                      try clear c20
                      try clear c20b0
                      try clear c35
                      try clear c36
                      try clear c36b0
                      try clear c37
                      try clear c37b0
                      try clear c40
                      try clear c52
                      try clear c52b0
                      try clear hcz24_0
                      try clear hcz24_1
                      try clear hcz50_0
                      try clear hcz50_1
                      try clear hcz60_0
                      try clear hcz60_1
                      try clear hfz11_0
                      try clear hfz11_1
                      try clear hfz24_0
                      try clear hfz24_1
                      try clear hfz50_0
                      try clear hfz50_1
                      try clear hfz60_0
                      try clear hfz60_1
                      try clear hfz7_0
                      try clear hfz7_1
                      try clear hx273_0
                      try clear hx273_1
                      try clear hx273_2
                      try clear hx280_0
                      try clear hx280_1
                      try clear hx280_2
                      try clear p273
                      try clear p280
                      try clear q273
                      try clear q280
                      obtain ⟨kq, x17_63, rfl, HA, HJ63, HO_4, HO_271001, HO_272001, HO_288001, BK270, BK271, BK287, HB⟩ := hcut
                      cases kq with
                      | zero => exact absurd HA.out (by simp [laws_FnYard.j5])
                      | succ kj63 =>
                       have H := HA.out
                       clear HA
                       simp only [laws_FnYard.j5] at H
                       have HC66 := Aside0.mk H
                       clear H
                       go_upto_region 27 with (fail)
                       go_cut [129] (fun v129 wc => ∃ (kq : Nat) (x129_65 : Bool), v129 = .bool x129_65 ∧ Aside0 (laws_FnYard.j6 kq t267 x6_1 t274 t275 t276 t285 x15_4 x17_63 x129_65 t263 t264 x272000_1 x272001_1 t281 t282 = some r) ∧ Aside0 (kq ≤ kj63) ∧ Aside0 (Kd.R k76 76 wc w.heap.size (fun _ => True) (.slice (some ad273) t267.length co13) t267) ∧ Aside0 (Kd.S (Kd.slice 3 (Kd.int .i64)) 28 wc w.heap.size (fun k_ => some k_ ≠ ((.slice Ao46 t282.length co46) : Value).ownBlock) (.slice Ao8 t264.length co8) t264) ∧ Aside0 (Kd.S (Kd.slice 3 (Kd.int .i64)) 28 wc w.heap.size (fun k_ => some k_ ≠ ((.slice Ao46 t282.length co46) : Value).ownBlock) (.slice Ao25 x272001_1.length co25) x272001_1) ∧ Aside0 (Kd.S (Kd.slice 3 (Kd.int .i64)) 28 wc w.heap.size (fun k_ => some k_ ≠ ((.slice Ao8 t264.length co8) : Value).ownBlock ∧ some k_ ≠ ((.slice Ao25 x272001_1.length co25) : Value).ownBlock) (.slice Ao46 t282.length co46) t282) ∧ Aside0 (wc.heap[gb270]? = some (.cells #[.int .i64 t263, (.slice Ao8 t264.length co8)] 69 (0, 0))) ∧ Aside0 (wc.heap[gb271]? = some (.cells #[.int .i64 x272000_1, (.slice Ao25 x272001_1.length co25)] 69 (0, 0))) ∧ Aside0 (wc.heap[gb287]? = some (.cells #[.int .i64 t281, (.slice Ao46 t282.length co46)] 69 (0, 0))) ∧ Aside0 (Below w.heap.size w wc))
                       case first =>
                        have H := HC66.out
                        clear HC66
                        by_cases c67 : t286 = 0
                        ·rw [if_pos c67] at H
                         have c67b0 : (t286 == 0) = true := beq_iff_eq.mpr c67
                         have c67b1 : (t286 != 0) = false := bne_eq_false_iff_eq.mpr c67
                         clear c67
                         (first | rw [c67b0] | (simp only [i64_w, i32_w]; rw [c67b0]) | skip)
                         by_cases c68 : 0 ≤ x6_1
                         ·rw [if_pos c68] at H
                          have c68b0 : decide (0 ≤ x6_1) = true := decide_eq_true c68
                          clear c68
                          by_cases c69 : x6_1 < (t267.length : Int)
                          ·rw [if_pos c69] at H
                           have c69b0 : decide (x6_1 < (t267.length : Int)) = true := decide_eq_true c69
                           clear c69
                           have H' := Aside0.mk H
                           clear H
                           have p291 : 0 ≤ (x6_1 : Int) := of_decide_eq_true (by first | (with_reducible assumption) | assumption)
                           have q291 : x6_1 < (t267.length : Int) := of_decide_eq_true (by first | (with_reducible assumption) | assumption)
                           obtain ⟨ad291, e291, hx291_0, hx291_1, hx291_2⟩ := at_T76 (Kd.R_reads' HO_4.out).2.2 x6_1 p291 q291
                           obtain rfl : ad273 = ad291 := (by injection e291)
                           replace p291 := eq_true p291
                           replace q291 := eq_true q291
                           go_wp2
                           go_meet
                           case rel => exact ⟨_, ((((rd_T76 t267 x6_1).f0) == 2)), (by first | rfl | (simp; done) | (simp [*]; done) | (simp [wrap64]; done)), H', ⟨by have := HK1.out; have := HK2.out; have := HJ21.out; have := HK4.out; have := HJ56.out; have := HJ63.out; first | omega | exact Nat.le_refl _⟩, ⟨by (with_reducible repeat (first | apply Kd.R_alloc | apply Kd.R_drewN | apply Kd.R_drew)); exact HO_4.out⟩, ⟨by (with_reducible repeat (first | apply Kd.S_alloc | apply Kd.S_drewN | apply Kd.S_drew)); exact HO_271001.out⟩, ⟨by (with_reducible repeat (first | apply Kd.S_alloc | apply Kd.S_drewN | apply Kd.S_drew)); exact HO_272001.out⟩, ⟨by (with_reducible repeat (first | apply Kd.S_alloc | apply Kd.S_drewN | apply Kd.S_drew)); exact HO_288001.out⟩, ⟨by refine rp_ ?_; exact BK270.out⟩, ⟨by refine rp_ ?_; exact BK271.out⟩, ⟨by refine rp_ ?_; exact BK287.out⟩, ⟨bel_ HB.out⟩⟩
                          ·rw [if_neg c69] at H
                           exact absurd H (by simp)
                         ·rw [if_neg c68] at H
                          exact absurd H (by simp)
                        ·rw [if_neg c67] at H
                         have c67b0 : (t286 == 0) = false := beq_eq_false_iff_ne.mpr c67
                         have c67b1 : (t286 != 0) = true := bne_iff_ne.mpr c67
                         (first | rw [c67b0] | (simp only [i64_w, i32_w]; rw [c67b0]) | skip)
                         have H' := Aside0.mk H
                         clear H
                         go_wp2
                         go_meet
                         case rel => exact ⟨_, (false), (by first | rfl | (simp; done) | (simp [*]; done) | (simp [wrap64]; done)), H', ⟨by have := HK1.out; have := HK2.out; have := HJ21.out; have := HK4.out; have := HJ56.out; have := HJ63.out; first | omega | exact Nat.le_refl _⟩, ⟨by (with_reducible repeat (first | apply Kd.R_alloc | apply Kd.R_drewN | apply Kd.R_drew)); exact HO_4.out⟩, ⟨by (with_reducible repeat (first | apply Kd.S_alloc | apply Kd.S_drewN | apply Kd.S_drew)); exact HO_271001.out⟩, ⟨by (with_reducible repeat (first | apply Kd.S_alloc | apply Kd.S_drewN | apply Kd.S_drew)); exact HO_272001.out⟩, ⟨by (with_reducible repeat (first | apply Kd.S_alloc | apply Kd.S_drewN | apply Kd.S_drew)); exact HO_288001.out⟩, ⟨by refine rp_ ?_; exact BK270.out⟩, ⟨by refine rp_ ?_; exact BK271.out⟩, ⟨by refine rp_ ?_; exact BK287.out⟩, ⟨bel_ HB.out⟩⟩
                       case rest =>
                        clear HC66
                        try clear c3
                        try clear c14
                        try clear c14b0
                        try clear c19
                        try clear c19b0
                        try clear c20
                        try clear c20b0
                        try clear c35
                        try clear c36
                        try clear c36b0
                        try clear c37
                        try clear c37b0
                        try clear c40
                        try clear c52
                        try clear c52b0
                        try clear hcz24_0
                        try clear hcz24_1
                        try clear hcz50_0
                        try clear hcz50_1
                        try clear hcz60_0
                        try clear hcz60_1
                        try clear hfz11_0
                        try clear hfz11_1
                        try clear hfz24_0
                        try clear hfz24_1
                        try clear hfz50_0
                        try clear hfz50_1
                        try clear hfz60_0
                        try clear hfz60_1
                        try clear hfz7_0
                        try clear hfz7_1
                        try clear hx273_0
                        try clear hx273_1
                        try clear hx273_2
                        try clear hx280_0
                        try clear hx280_1
                        try clear hx280_2
                        try clear p273
                        try clear p280
                        try clear q273
                        try clear q280
                        obtain ⟨kq, x129_65, rfl, HA, HJ65, HO_4, HO_271001, HO_272001, HO_288001, BK270, BK271, BK287, HB⟩ := hcut
                        cases kq with
                        | zero => exact absurd HA.out (by simp [laws_FnYard.j6])
                        | succ kj65 =>
                         have H := HA.out
                         clear HA
                         simp only [laws_FnYard.j6] at H
                         by_cases c70 : x129_65 = true
                         ·subst c70
                          have H1 : (if t276 = true then (if 0 ≤ t274 then (if t274 < (x272001_1.length : Int) then (laws_FnYard.j7 kj65 t267 x6_1 x15_4 (wrap64 (x17_63 - 1)) (t285 != (wrap64 ((wrap64 (((rd_L2 x272001_1 t274).length : Int) - t275)) - 1))) t263 t264 t281 t282) else (none)) else (none)) else (laws_FnYard.j7 kj65 t267 x6_1 x15_4 (wrap64 (x17_63 - 1)) true t263 t264 t281 t282)) = some r := by rw [if_pos rfl] at H; exact H
                          clear H
                          have H := H1
                          clear H1
                          have HC71 := Aside0.mk H
                          clear H
                          go_upto_region 29 with (fail)
                          go_cut [146] (fun v146 wc => ∃ (kq : Nat) (x146_70 : Bool), v146 = .bool x146_70 ∧ Aside0 (laws_FnYard.j7 kq t267 x6_1 x15_4 (wrap64 (x17_63 - 1)) x146_70 t263 t264 t281 t282 = some r) ∧ Aside0 (kq ≤ kj65) ∧ Aside0 (Kd.R k76 76 wc w.heap.size (fun _ => True) (.slice (some ad273) t267.length co13) t267) ∧ Aside0 (Kd.S (Kd.slice 3 (Kd.int .i64)) 28 wc w.heap.size (fun k_ => some k_ ≠ ((.slice Ao46 t282.length co46) : Value).ownBlock) (.slice Ao8 t264.length co8) t264) ∧ Aside0 (Kd.S (Kd.slice 3 (Kd.int .i64)) 28 wc w.heap.size (fun k_ => some k_ ≠ ((.slice Ao46 t282.length co46) : Value).ownBlock) (.slice Ao25 x272001_1.length co25) x272001_1) ∧ Aside0 (Kd.S (Kd.slice 3 (Kd.int .i64)) 28 wc w.heap.size (fun k_ => some k_ ≠ ((.slice Ao8 t264.length co8) : Value).ownBlock ∧ some k_ ≠ ((.slice Ao25 x272001_1.length co25) : Value).ownBlock) (.slice Ao46 t282.length co46) t282) ∧ Aside0 (wc.heap[gb270]? = some (.cells #[.int .i64 t263, (.slice Ao8 t264.length co8)] 69 (0, 0))) ∧ Aside0 (wc.heap[gb271]? = some (.cells #[.int .i64 x272000_1, (.slice Ao25 x272001_1.length co25)] 69 (0, 0))) ∧ Aside0 (wc.heap[gb287]? = some (.cells #[.int .i64 t281, (.slice Ao46 t282.length co46)] 69 (0, 0))) ∧ Aside0 (Below w.heap.size w wc))
                          case first =>
                           have H := HC71.out
                           clear HC71
                           by_cases c72 : t276 = true
                           ·subst c72
                            have H1 : (if 0 ≤ t274 then (if t274 < (x272001_1.length : Int) then (laws_FnYard.j7 kj65 t267 x6_1 x15_4 (wrap64 (x17_63 - 1)) (t285 != (wrap64 ((wrap64 (((rd_L2 x272001_1 t274).length : Int) - t275)) - 1))) t263 t264 t281 t282) else (none)) else (none)) = some r := by rw [if_pos rfl] at H; exact H
                            clear H
                            have H := H1
                            clear H1
                            by_cases c73 : 0 ≤ t274
                            ·rw [if_pos c73] at H
                             have c73b0 : decide (0 ≤ t274) = true := decide_eq_true c73
                             clear c73
                             (first | rw [c73b0] | (simp only [i64_w, i32_w]; rw [c73b0]) | skip)
                             by_cases c74 : t274 < (x272001_1.length : Int)
                             ·rw [if_pos c74] at H
                              have c74b0 : decide (t274 < (x272001_1.length : Int)) = true := decide_eq_true c74
                              clear c74
                              have H' := Aside0.mk H
                              clear H
                              have hnb75 := NB271_270.out
                              have hnc75 := NB270_271.out
                              have hnb76 := NB271_287.out
                              have hnc76 := NB287_271.out
                              have hcz77_0 : wc.cell? ⟨gb271, 0, none⟩ = some (.int .i64 x272000_1) := (blk_cell BK271.out 0).trans rfl
                              have hcz77_1 : wc.cell? ⟨gb271, 1, none⟩ = some (.slice Ao25 x272001_1.length co25) := (blk_cell BK271.out 1).trans rfl
                              have hfz77_0 := blk_frozen BK271.out 0
                              have hfz77_1 := blk_frozen BK271.out 1
                              have p292 : 0 ≤ (t274 : Int) := of_decide_eq_true (by first | (with_reducible assumption) | assumption)
                              have q292 : t274 < (x272001_1.length : Int) := of_decide_eq_true (by first | (with_reducible assumption) | assumption)
                              obtain ⟨ad292, A292_0, c292_0, e292, hx292_0, hl292_0, hi292_0⟩ := at_L2 (Kd.S_reads' HO_272001.out).2.2 t274 p292 q292
                              cases e292
                              obtain ⟨ce292, hce292, hMe292, hcc292⟩ := Kd.S_get HO_272001.out [] t274 p292 (by first | exact q292 | exact of_decide_eq_true (by first | (with_reducible assumption) | assumption) | (have e_ := (Kd.S_reads' HO_272001.out).1; omega))
                              obtain ⟨ve292_0, rfl, ge292_0⟩ := hMe292
                              have hv292_0 := hcc292 0 _ rfl
                              rw [Nat.add_zero, show ((Kd.slice 3 (Kd.int .i64))).sz = 1 from rfl, Nat.mul_one] at hv292_0
                              replace hv292_0 := Option.some.inj (hv292_0.symm.trans hx292_0)
                              rw [hv292_0] at ge292_0
                              have HL292_0 := Aside0.mk (show Kd.R (Kd.int .i64) 3 _ _ _ _ (rd_L2 x272001_1 t274) from ge292_0)
                              clear hv292_0 ge292_0
                              clear hcc292 hce292
                              have HR292_0 := Aside0.mk hi292_0
                              have HC292_0 := Aside0.mk hl292_0
                              clear hi292_0 hl292_0
                              replace p292 := eq_true p292
                              replace q292 := eq_true q292
                              go_wp2
                              go_meet
                              case rel => exact ⟨_, ((t285 != (wrap64 ((wrap64 (((rd_L2 x272001_1 t274).length : Int) - t275)) - 1)))), (by first | rfl | (simp; done) | (simp [*]; done) | (simp [wrap64]; done)), H', ⟨by have := HK1.out; have := HK2.out; have := HJ21.out; have := HK4.out; have := HJ56.out; have := HJ63.out; have := HJ65.out; first | omega | exact Nat.le_refl _⟩, ⟨by (with_reducible repeat (first | apply Kd.R_alloc | apply Kd.R_drewN | apply Kd.R_drew)); exact HO_4.out⟩, ⟨by (with_reducible repeat (first | apply Kd.S_alloc | apply Kd.S_drewN | apply Kd.S_drew)); exact HO_271001.out⟩, ⟨by (with_reducible repeat (first | apply Kd.S_alloc | apply Kd.S_drewN | apply Kd.S_drew)); exact HO_272001.out⟩, ⟨by (with_reducible repeat (first | apply Kd.S_alloc | apply Kd.S_drewN | apply Kd.S_drew)); exact HO_288001.out⟩, ⟨by refine rp_ ?_; exact BK270.out⟩, ⟨by refine rp_ ?_; exact BK271.out⟩, ⟨by refine rp_ ?_; exact BK287.out⟩, ⟨bel_ HB.out⟩⟩
                             ·rw [if_neg c74] at H
                              exact absurd H (by simp)
                            ·rw [if_neg c73] at H
                             exact absurd H (by simp)
                           ·replace c72 := Bool.eq_false_iff.mpr c72
                            subst c72
                            have H1 : (laws_FnYard.j7 kj65 t267 x6_1 x15_4 (wrap64 (x17_63 - 1)) true t263 t264 t281 t282) = some r := by rw [if_neg (show ¬ (false = true) by decide)] at H; exact H
                            clear H
                            have H := H1
                            clear H1
                            have H' := Aside0.mk H
                            clear H
                            go_wp2
                            go_meet
                            case rel => exact ⟨_, (true), (by first | rfl | (simp; done) | (simp [*]; done) | (simp [wrap64]; done)), H', ⟨by have := HK1.out; have := HK2.out; have := HJ21.out; have := HK4.out; have := HJ56.out; have := HJ63.out; have := HJ65.out; first | omega | exact Nat.le_refl _⟩, ⟨by (with_reducible repeat (first | apply Kd.R_alloc | apply Kd.R_drewN | apply Kd.R_drew)); exact HO_4.out⟩, ⟨by (with_reducible repeat (first | apply Kd.S_alloc | apply Kd.S_drewN | apply Kd.S_drew)); exact HO_271001.out⟩, ⟨by (with_reducible repeat (first | apply Kd.S_alloc | apply Kd.S_drewN | apply Kd.S_drew)); exact HO_272001.out⟩, ⟨by (with_reducible repeat (first | apply Kd.S_alloc | apply Kd.S_drewN | apply Kd.S_drew)); exact HO_288001.out⟩, ⟨by refine rp_ ?_; exact BK270.out⟩, ⟨by refine rp_ ?_; exact BK271.out⟩, ⟨by refine rp_ ?_; exact BK287.out⟩, ⟨bel_ HB.out⟩⟩
                          case rest =>
                           clear HC71
                           try clear c3
                           try clear c14
                           try clear c14b0
                           try clear c19
                           try clear c19b0
                           try clear c20
                           try clear c20b0
                           try clear c35
                           try clear c36
                           try clear c36b0
                           try clear c37
                           try clear c37b0
                           try clear c40
                           try clear c52
                           try clear c52b0
                           try clear c70
                           try clear hcz24_0
                           try clear hcz24_1
                           try clear hcz50_0
                           try clear hcz50_1
                           try clear hcz60_0
                           try clear hcz60_1
                           try clear hfz11_0
                           try clear hfz11_1
                           try clear hfz24_0
                           try clear hfz24_1
                           try clear hfz50_0
                           try clear hfz50_1
                           try clear hfz60_0
                           try clear hfz60_1
                           try clear hfz7_0
                           try clear hfz7_1
                           try clear hx273_0
                           try clear hx273_1
                           try clear hx273_2
                           try clear hx280_0
                           try clear hx280_1
                           try clear hx280_2
                           try clear p273
                           try clear p280
                           try clear q273
                           try clear q280
                           obtain ⟨kq, x146_70, rfl, HA, HJ70, HO_4, HO_271001, HO_272001, HO_288001, BK270, BK271, BK287, HB⟩ := hcut
                           cases kq with
                           | zero => exact absurd HA.out (by simp [laws_FnYard.j7])
                           | succ kj70 =>
                            have H := HA.out
                            clear HA
                            simp only [laws_FnYard.j7] at H
                            by_cases c78 : x146_70 = true
                            ·subst c78
                             have H1 : (some false) = some r := by rw [if_pos rfl] at H; exact H
                             clear H
                             have H := H1
                             clear H1
                             obtain rfl := Option.some.inj H
                             go_wp2
                             go_ret
                             exact ⟨by first | rfl | (simp [errW_none, errW_some] <;> rfl) | (simp [*, errW_none, errW_some] <;> rfl), bel_ HB.out⟩
                            ·replace c78 := Bool.eq_false_iff.mpr c78
                             subst c78
                             have H1 : (if x15_4 = (wrap64 (x17_63 - 1)) then (laws_FnYard.l0 kj70 t267 (wrap64 (x6_1 + 1)) t263 t264 t281 t282) else (some false)) = some r := by rw [if_neg (show ¬ (false = true) by decide)] at H; exact H
                             clear H
                             have H := H1
                             clear H1
                             by_cases c79 : x15_4 = (wrap64 (x17_63 - 1))
                             ·rw [if_pos c79] at H
                              have c79b0 : (x15_4 == (wrap64 (x17_63 - 1))) = true := beq_iff_eq.mpr c79
                              have c79b1 : (x15_4 != (wrap64 (x17_63 - 1))) = false := bne_eq_false_iff_eq.mpr c79
                              clear c79
                              have H' := Aside0.mk H
                              clear H
                              have hnb80 := NB287_270.out
                              have hnc80 := NB270_287.out
                              have hnb81 := NB287_271.out
                              have hnc81 := NB271_287.out
                              have hcz82_0 : wc.cell? ⟨gb287, 0, none⟩ = some (.int .i64 t281) := (blk_cell BK287.out 0).trans rfl
                              have hcz82_1 : wc.cell? ⟨gb287, 1, none⟩ = some (.slice Ao46 t282.length co46) := (blk_cell BK287.out 1).trans rfl
                              have hfz82_0 := blk_frozen BK287.out 0
                              have hfz82_1 := blk_frozen BK287.out 1
                              have hnb83 := NB271_270.out
                              have hnc83 := NB270_271.out
                              have hcz84_0 : wc.cell? ⟨gb271, 0, none⟩ = some (.int .i64 x272000_1) := (blk_cell BK271.out 0).trans rfl
                              have hcz84_1 : wc.cell? ⟨gb271, 1, none⟩ = some (.slice Ao25 x272001_1.length co25) := (blk_cell BK271.out 1).trans rfl
                              have hfz84_0 := blk_frozen BK271.out 0
                              have hfz84_1 := blk_frozen BK271.out 1
                              go_wp2
                              go_roundg kj70
                              case measure => have := HK1.out; have := HK2.out; have := HJ21.out; have := HK4.out; have := HJ56.out; have := HJ63.out; have := HJ65.out; have := HJ70.out; omega
                              case rel => exact ⟨(wrap64 (x6_1 + 1)), (t281), (t282), (.slice Ao46 t282.length co46), (by first | rfl | (simp; done) | (simp [*]; done) | (simp [wrap64]; done)), H', ⟨by have := HK1.out; have := HK2.out; have := HJ21.out; have := HK4.out; have := HJ56.out; have := HJ63.out; have := HJ65.out; have := HJ70.out; omega⟩, ⟨by (with_reducible repeat (first | apply Kd.R_alloc | apply Kd.R_drewN | apply Kd.R_drew)); exact Kd.R_mono (Kd.R_far (p := ⟨gb271, 1, none⟩) (Kd.R_far (p := ⟨gb271, 0, none⟩) (rt_ HO_4.out BK271.out) (fun _ hk => hk.2) (.int .i64 t281)) (fun _ hk => hk.2) (.slice Ao46 t282.length co46)) (fun _ hk => trivial)⟩, ⟨by (with_reducible repeat (first | apply Kd.S_alloc | apply Kd.S_drewN | apply Kd.S_drew)); exact Kd.S_mono (Kd.S_far (p := ⟨gb271, 1, none⟩) (Kd.S_far (p := ⟨gb271, 0, none⟩) (Kd.S_types HO_271001.out BK271.out (by decide)) (fun _ hk => hk.2) (.int .i64 t281)) (fun _ hk => hk.2) (.slice Ao46 t282.length co46)) (fun _ hk => trivial)⟩, ⟨by (with_reducible repeat (first | apply Kd.S_alloc | apply Kd.S_drewN | apply Kd.S_drew)); exact Kd.S_mono (Kd.S_far (p := ⟨gb271, 1, none⟩) (Kd.S_far (p := ⟨gb271, 0, none⟩) (Kd.S_types HO_288001.out BK271.out (by decide)) (fun _ hk => hk.2) (.int .i64 t281)) (fun _ hk => hk.2) (.slice Ao46 t282.length co46)) (fun _ hk => trivial)⟩, ⟨by refine rp_ ?_; refine blk_far ?_ NB270_271.out _; refine rp_ ?_; refine blk_far ?_ NB270_271.out _; refine rp_ ?_; exact BK270.out⟩, ⟨by refine rp_ ?_; refine blk_put (cs := #[.int .i64 t281, .slice Ao25 x272001_1.length co25]) ?_ 1 _ rfl; refine rp_ ?_; refine blk_put (cs := #[.int .i64 x272000_1, .slice Ao25 x272001_1.length co25]) ?_ 0 _ rfl; refine rp_ ?_; exact BK271.out⟩, ⟨bel_ HB.out⟩⟩
                             ·rw [if_neg c79] at H
                              have c79b0 : (x15_4 == (wrap64 (x17_63 - 1))) = false := beq_eq_false_iff_ne.mpr c79
                              have c79b1 : (x15_4 != (wrap64 (x17_63 - 1))) = true := bne_iff_ne.mpr c79
                              obtain rfl := Option.some.inj H
                              go_wp2
                              go_ret
                              exact ⟨by first | rfl | (simp [errW_none, errW_some] <;> rfl) | (simp [*, errW_none, errW_some] <;> rfl), bel_ HB.out⟩
                         ·replace c70 := Bool.eq_false_iff.mpr c70
                          subst c70
                          have H1 : (if x15_4 = x17_63 then (laws_FnYard.l0 kj65 t267 (wrap64 (x6_1 + 1)) t263 t264 t281 t282) else (some false)) = some r := by rw [if_neg (show ¬ (false = true) by decide)] at H; exact H
                          clear H
                          have H := H1
                          clear H1
                          by_cases c85 : x15_4 = x17_63
                          ·rw [if_pos c85] at H
                           have c85b0 : (x15_4 == x17_63) = true := beq_iff_eq.mpr c85
                           have c85b1 : (x15_4 != x17_63) = false := bne_eq_false_iff_eq.mpr c85
                           clear c85
                           have H' := Aside0.mk H
                           clear H
                           have hnb86 := NB287_270.out
                           have hnc86 := NB270_287.out
                           have hnb87 := NB287_271.out
                           have hnc87 := NB271_287.out
                           have hcz88_0 : wc.cell? ⟨gb287, 0, none⟩ = some (.int .i64 t281) := (blk_cell BK287.out 0).trans rfl
                           have hcz88_1 : wc.cell? ⟨gb287, 1, none⟩ = some (.slice Ao46 t282.length co46) := (blk_cell BK287.out 1).trans rfl
                           have hfz88_0 := blk_frozen BK287.out 0
                           have hfz88_1 := blk_frozen BK287.out 1
                           have hnb89 := NB271_270.out
                           have hnc89 := NB270_271.out
                           have hcz90_0 : wc.cell? ⟨gb271, 0, none⟩ = some (.int .i64 x272000_1) := (blk_cell BK271.out 0).trans rfl
                           have hcz90_1 : wc.cell? ⟨gb271, 1, none⟩ = some (.slice Ao25 x272001_1.length co25) := (blk_cell BK271.out 1).trans rfl
                           have hfz90_0 := blk_frozen BK271.out 0
                           have hfz90_1 := blk_frozen BK271.out 1
                           go_wp2
                           go_roundg kj65
                           case measure => have := HK1.out; have := HK2.out; have := HJ21.out; have := HK4.out; have := HJ56.out; have := HJ63.out; have := HJ65.out; omega
                           case rel => exact ⟨(wrap64 (x6_1 + 1)), (t281), (t282), (.slice Ao46 t282.length co46), (by first | rfl | (simp; done) | (simp [*]; done) | (simp [wrap64]; done)), H', ⟨by have := HK1.out; have := HK2.out; have := HJ21.out; have := HK4.out; have := HJ56.out; have := HJ63.out; have := HJ65.out; omega⟩, ⟨by (with_reducible repeat (first | apply Kd.R_alloc | apply Kd.R_drewN | apply Kd.R_drew)); exact Kd.R_mono (Kd.R_far (p := ⟨gb271, 1, none⟩) (Kd.R_far (p := ⟨gb271, 0, none⟩) (rt_ HO_4.out BK271.out) (fun _ hk => hk.2) (.int .i64 t281)) (fun _ hk => hk.2) (.slice Ao46 t282.length co46)) (fun _ hk => trivial)⟩, ⟨by (with_reducible repeat (first | apply Kd.S_alloc | apply Kd.S_drewN | apply Kd.S_drew)); exact Kd.S_mono (Kd.S_far (p := ⟨gb271, 1, none⟩) (Kd.S_far (p := ⟨gb271, 0, none⟩) (Kd.S_types HO_271001.out BK271.out (by decide)) (fun _ hk => hk.2) (.int .i64 t281)) (fun _ hk => hk.2) (.slice Ao46 t282.length co46)) (fun _ hk => trivial)⟩, ⟨by (with_reducible repeat (first | apply Kd.S_alloc | apply Kd.S_drewN | apply Kd.S_drew)); exact Kd.S_mono (Kd.S_far (p := ⟨gb271, 1, none⟩) (Kd.S_far (p := ⟨gb271, 0, none⟩) (Kd.S_types HO_288001.out BK271.out (by decide)) (fun _ hk => hk.2) (.int .i64 t281)) (fun _ hk => hk.2) (.slice Ao46 t282.length co46)) (fun _ hk => trivial)⟩, ⟨by refine rp_ ?_; refine blk_far ?_ NB270_271.out _; refine rp_ ?_; refine blk_far ?_ NB270_271.out _; refine rp_ ?_; exact BK270.out⟩, ⟨by refine rp_ ?_; refine blk_put (cs := #[.int .i64 t281, .slice Ao25 x272001_1.length co25]) ?_ 1 _ rfl; refine rp_ ?_; refine blk_put (cs := #[.int .i64 x272000_1, .slice Ao25 x272001_1.length co25]) ?_ 0 _ rfl; refine rp_ ?_; exact BK271.out⟩, ⟨bel_ HB.out⟩⟩
                          ·rw [if_neg c85] at H
                           have c85b0 : (x15_4 == x17_63) = false := beq_eq_false_iff_ne.mpr c85
                           have c85b1 : (x15_4 != x17_63) = true := bne_iff_ne.mpr c85
                           obtain rfl := Option.some.inj H
                           go_wp2
                           go_ret
                           exact ⟨by first | rfl | (simp [errW_none, errW_some] <;> rfl) | (simp [*, errW_none, errW_some] <;> rfl), bel_ HB.out⟩
               ·replace c40 := Bool.eq_false_iff.mpr c40
                subst c40
                have H1 : (some false) = some r := by rw [if_neg (show ¬ (false = true) by decide)] at H; exact H
                clear H
                have H := H1
                clear H1
                obtain rfl := Option.some.inj H
                try go_wp2
                have n0_ := Aside0.mk (Kd.R_drew HO_4.out)
                have n1_ := Aside0.mk (Kd.S_drew HO_271001.out)
                have n2_ := Aside0.mk (Kd.S_drew HO_272001.out)
                have n3_ := Aside0.mk (blk_drew BK270.out)
                have n4_ := Aside0.mk (blk_drew BK271.out)
                have n5_ := Aside0.mk (below_drew1 HB.out)
                clear HO_4
                clear HO_271001
                clear HO_272001
                clear BK270
                clear BK271
                clear HB
                have HO_4 := n0_
                have HO_271001 := n1_
                have HO_272001 := n2_
                have BK270 := n3_
                have BK271 := n4_
                have HB := n5_
                clear n0_ n1_ n2_ n3_ n4_ n5_
                have p280 : 0 ≤ (x6_1 : Int) := of_decide_eq_true (by first | (with_reducible assumption) | assumption)
                have q280 : x6_1 < (t267.length : Int) := of_decide_eq_true (by first | (with_reducible assumption) | assumption)
                obtain ⟨ad280, e280, hx280_0, hx280_1, hx280_2⟩ := at_T76 (Kd.R_reads' HO_4.out).2.2 x6_1 p280 q280
                obtain rfl : ad273 = ad280 := (by injection e280)
                replace p280 := eq_true p280
                replace q280 := eq_true q280
                refine start_ (n := 14) (S := fun w' => w'.cell? ⟨gb271, 0, none⟩ = some (.int .i64 x272000_1) ∧ w'.cell? ⟨gb271, 1, none⟩ = some (.slice Ao25 x272001_1.length co25) ∧ w'.cell? (ad273.add ((x6_1).toNat * 3)) = some (.int .i64 ((rd_T76 t267 x6_1).f0)) ∧ w'.cell? ⟨(ad273.add ((x6_1).toNat * 3)).block, (ad273.add ((x6_1).toNat * 3)).off + 1, none⟩ = some (.int .i64 ((rd_T76 t267 x6_1).f1)) ∧ w'.cell? ⟨(ad273.add ((x6_1).toNat * 3)).block, (ad273.add ((x6_1).toNat * 3)).off + 2, none⟩ = some (.int .i64 ((rd_T76 t267 x6_1).f2))) (ds := []) (bs 14 0) (by kernel_rfl) rfl rfl ⟨(blk_cell BK271.out 0).trans rfl, (blk_cell BK271.out 1).trans rfl, hx280_0, hx280_1, hx280_2⟩ (fun hHeld => ?_); refine with_tabW laws_FnYard.tab16 laws_FnYard.bits16 (fun HT_ HW_ => ?_)
                generalize wc.drew = w91 at HO_4 HO_271001 HO_272001 BK270 BK271 HB hx280_0 hx280_1 hx280_2 hHeld ⊢
                refine pu_ 1 81 HT_ (bs 14 2) rfl rfl ?_
                refine pu_ 2 82 HT_ (bs 14 6) rfl rfl ?_
                refine pu_ 3 83 HT_ (bs 14 14) rfl rfl ?_
                refine take_ (i := 0) (N := some 80) (v := ?_) (a' := ?_) (bs 14 15) rfl rfl (take_ofW HT_.out HW_.out (by kernel_rfl)) (fun _ _ _ h => h) (Or.inl ⟨by rfl, ?_⟩) hHeld ?_ ?_
                rotate_left
                ·rintro w' ⟨s0, s1, s2, s3, s4⟩
                 go_simp
                 with_reducible rfl
                rotate_left
                ·simp only [Act.put, sA_, sZ_, sS_, i64_w, i32_w]
                 rfl
                refine take_ (i := 4) (N := some 84) (v := ?_) (a' := ?_) (bs 14 31) rfl rfl (take_ofW HT_.out HW_.out (by kernel_rfl)) (fun _ _ _ h => h) (Or.inl ⟨by rfl, ?_⟩) hHeld ?_ ?_
                rotate_left
                ·rintro w' ⟨s0, s1, s2, s3, s4⟩
                 go_simp
                 with_reducible rfl
                rotate_left
                ·simp only [Act.put, sA_, sZ_, sS_, i64_w, i32_w]
                 rfl
                refine join_ (σ := Value × Nat) 3 (bs 14 2047) (fun s_ => [(85, .tuple #[.agg #[.int .i64 t281, s_.1], .int .i64 t285, .int .i64 t286]), (12, .pointer (some ⟨s_.2, 0, none⟩)), (79, .tuple #[.agg #[.int .i64 t281, s_.1], .int .i64 t285, .int .i64 t286]), (86, .agg #[.int .i64 t281, s_.1]), (87, .int .i64 t285), (88, .int .i64 t286)]) (fun s_ w' => (w'.cell? ⟨gb271, 0, none⟩ = some (.int .i64 x272000_1) ∧ w'.cell? ⟨gb271, 1, none⟩ = some (.slice Ao25 x272001_1.length co25) ∧ w'.cell? (ad273.add ((x6_1).toNat * 3)) = some (.int .i64 ((rd_T76 t267 x6_1).f0)) ∧ w'.cell? ⟨(ad273.add ((x6_1).toNat * 3)).block, (ad273.add ((x6_1).toNat * 3)).off + 1, none⟩ = some (.int .i64 ((rd_T76 t267 x6_1).f1)) ∧ w'.cell? ⟨(ad273.add ((x6_1).toNat * 3)).block, (ad273.add ((x6_1).toNat * 3)).off + 2, none⟩ = some (.int .i64 ((rd_T76 t267 x6_1).f2))) ∧ (Kd.S (Kd.slice 3 (Kd.int .i64)) 28 w' w.heap.size (fun k_ => some k_ ≠ (.slice Ao8 t264.length co8 : Value).ownBlock ∧ some k_ ≠ (.slice Ao25 x272001_1.length co25 : Value).ownBlock) s_.1 t282) ∧ (Kd.S (Kd.slice 3 (Kd.int .i64)) 28 w' w.heap.size (fun k_ => some k_ ≠ (s_.1 : Value).ownBlock) (.slice Ao8 t264.length co8) t264) ∧ (Kd.S (Kd.slice 3 (Kd.int .i64)) 28 w' w.heap.size (fun k_ => some k_ ≠ (s_.1 : Value).ownBlock) (.slice Ao25 x272001_1.length co25) x272001_1) ∧ (Kd.R k76 76 w' w.heap.size (fun _ => True) (.slice (some ad273) t267.length co13) t267) ∧ (w'.heap[gb270]? = some (.cells #[.int .i64 t263, .slice Ao8 t264.length co8] 69 (0, 0))) ∧ (w'.heap[gb271]? = some (.cells #[.int .i64 x272000_1, .slice Ao25 x272001_1.length co25] 69 (0, 0))) ∧ (w'.heap[s_.2]? = some (.cells #[.int .i64 0, .slice none 0 0] 69 (0, 0))) ∧ (w.heap.size ≤ s_.2) ∧ (w.heap.size ≤ s_.2) ∧ (gb270 ≠ s_.2) ∧ (s_.2 ≠ gb270) ∧ (gb271 ≠ s_.2) ∧ (s_.2 ≠ gb271) ∧ (Below w.heap.size w w')) ?_ ?_
                rotate_left
                ·intro hCont
                 refine two_ (i := 5) (j := 10) (Ni := some 85) (Nj := some 12) (bs 14 63) (bs 14 1055) rfl rfl rfl rfl (two_of HT_.out (by kernel_rfl)) (by decide) (by decide) (fun K hK => ?_) (fun K hK => ?_)
                 ·skip
                  refine goes_ Try.func31 (by kernel_rfl) rfl #[.agg #[.int .i64 x272000_1, .slice Ao25 x272001_1.length co25], .agg #[.int .i64 ((rd_T76 t267 x6_1).f0), .int .i64 ((rd_T76 t267 x6_1).f1), .int .i64 ((rd_T76 t267 x6_1).f2)]] (by rfl) rfl rfl ml_ ?_
                  with_reducible refine (impl_DoYard.calls x272000_1 _ _ x272001_1 ((rd_T76 t267 x6_1).f0) ((rd_T76 t267 x6_1).f1) ((rd_T76 t267 x6_1).f2) t281 t282 t285 t286 _ ?side1 ?side2 A38.out).mono ?_
                  (case side1 => repeat (first | exact (Kd.S_reads' HO_272001.out).2.2 | (with_reducible refine Kd.C_alloc ?_ _) | (with_reducible refine Kd.C_drewN ?_ _) | (with_reducible refine Kd.C_drew ?_)))
                  (case side2 => exact (Kd.S_reads' HO_272001.out).2.1)
                  rintro e w92 ⟨v283, rfl, ho0, hb⟩
                  have HS2_ := (hb.cell (World.block_lt_of_cell? _ _ (hHeld.2.2.1))).trans (hHeld.2.2.1)
                  have HS3_ := (hb.cell (World.block_lt_of_cell? _ _ (hHeld.2.2.2.1))).trans (hHeld.2.2.2.1)
                  have HS4_ := (hb.cell (World.block_lt_of_cell? _ _ (hHeld.2.2.2.2))).trans (hHeld.2.2.2.2)
                  refine ⟨_, rfl, ?_⟩
                  have n0_ := Aside0.mk (Kd.R_below (fr_ HO_4.out) hb)
                  have n1_ := Aside0.mk (Kd.S_elder' (by (with_reducible repeat (first | apply Kd.S_alloc | apply Kd.S_drewN | apply Kd.S_drew)); exact HO_271001.out) (Kd.S_base ho0) hb)
                  have n2_ := Aside0.mk (Kd.S_elder' (by (with_reducible repeat (first | apply Kd.S_alloc | apply Kd.S_drewN | apply Kd.S_drew)); exact HO_272001.out) (Kd.S_base ho0) hb)
                  have n3_ := Aside0.mk (Kd.S_lower (Kd.S_new' (Kd.S_new' ho0 (Kd.S_lt (by (with_reducible repeat (first | apply Kd.S_alloc | apply Kd.S_drewN | apply Kd.S_drew)); exact HO_271001.out))) (Kd.S_lt (by (with_reducible repeat (first | apply Kd.S_alloc | apply Kd.S_drewN | apply Kd.S_drew)); exact HO_272001.out))) (below_size (bel_ HB.out)))
                  have n4_ := Aside0.mk (bb_ BK270.out hb)
                  have n5_ := Aside0.mk (bb_ BK271.out hb)
                  have n6_ := Aside0.mk (below_step (bel_ HB.out) hb)
                  clear HO_4
                  clear HO_271001
                  clear HO_272001
                  clear BK270
                  clear BK271
                  clear HB
                  have HO_4 := n0_
                  have HO_271001 := n1_
                  have HO_272001 := n2_
                  have HO284 := n3_
                  have BK270 := n4_
                  have BK271 := n5_
                  have HB := n6_
                  clear n0_ n1_ n2_ n3_ n4_ n5_ n6_
                  (try clear hb)
                  (try clear hb2)
                  (try clear hk)
                  (try clear hi)
                  (try clear ho0)
                  refine hK.out _ _ ⟨(blk_cell BK271.out 0).trans rfl, (blk_cell BK271.out 1).trans rfl, HS2_, HS3_, HS4_⟩ (fun hHeld => ?_)
                  clear hK K
                  refine norm_ (a' := ?_) ?_ ?_
                  rotate_left
                  ·show Act.put _ (some 85) _ = _
                   simp only [Act.put, sA_, sZ_, sS_, i64_w, i32_w]
                   rfl
                  refine pu_ 6 79 HT_ (bs 14 127) rfl rfl ?_
                  refine pu_ 7 86 HT_ (bs 14 255) rfl rfl ?_
                  refine pu_ 8 87 HT_ (bs 14 511) rfl rfl ?_
                  refine pu_ 9 88 HT_ (bs 14 1023) rfl rfl ?_
                  refine one_ (i := 10) (N := some 12) (bs 14 2047) rfl rfl (one_of HT_.out (by kernel_rfl)) (by decide) (fun K hK => ?_)
                  refine box_step ?hg (N := 12) ?hd (cs := #[.int .i64 0, .slice none 0 0]) (t := 69) ?hr ?_; (case hd => rfl); (case hg => rfl); (case hr => first | (go_simp; done) | (go_simp; rfl))
                  intro gb287 hg w93 hbox hb
                  have HS2_ := (hb.cell (World.block_lt_of_cell? _ _ (hHeld.2.2.1))).trans (hHeld.2.2.1)
                  have HS3_ := (hb.cell (World.block_lt_of_cell? _ _ (hHeld.2.2.2.1))).trans (hHeld.2.2.2.1)
                  have HS4_ := (hb.cell (World.block_lt_of_cell? _ _ (hHeld.2.2.2.2))).trans (hHeld.2.2.2.2)
                  have n0_ := Aside0.mk (Kd.R_below (fr_ HO_4.out) hb)
                  have n1_ := Aside0.mk (Kd.S_below (by (with_reducible repeat (first | apply Kd.S_alloc | apply Kd.S_drewN | apply Kd.S_drew)); exact HO_271001.out) hb)
                  have n2_ := Aside0.mk (Kd.S_below (by (with_reducible repeat (first | apply Kd.S_alloc | apply Kd.S_drewN | apply Kd.S_drew)); exact HO_272001.out) hb)
                  have n3_ := Aside0.mk (Kd.S_below (by (with_reducible repeat (first | apply Kd.S_alloc | apply Kd.S_drewN | apply Kd.S_drew)); exact HO284.out) hb)
                  have n4_ := Aside0.mk (bb_ BK270.out hb)
                  have n5_ := Aside0.mk (bb_ BK271.out hb)
                  have n6_ := Aside0.mk (below_step (bel_ HB.out) hb)
                  have n7_ := Aside0.mk (hbox)
                  have n8_ := Aside0.mk ((by rw [hg]; exact (below_size (bel_ HB.out)) : w.heap.size ≤ gb287))
                  have n9_ := Aside0.mk ((by rw [hg]; exact (below_size (bel_ HB.out)) : w.heap.size ≤ gb287))
                  have n10_ := Aside0.mk (nl_ BK270.out hg)
                  have n11_ := Aside0.mk (ng_ BK270.out hg)
                  have n12_ := Aside0.mk (nl_ BK271.out hg)
                  have n13_ := Aside0.mk (ng_ BK271.out hg)
                  clear HO_4
                  clear HO_271001
                  clear HO_272001
                  clear HO284
                  clear BK270
                  clear BK271
                  clear HB
                  have HO_4 := n0_
                  have HO_271001 := n1_
                  have HO_272001 := n2_
                  have HO284 := n3_
                  have BK270 := n4_
                  have BK271 := n5_
                  have HB := n6_
                  have BK287 := n7_
                  have GW287 := n8_
                  have GE287 := n9_
                  have NB270_287 := n10_
                  have NB287_270 := n11_
                  have NB271_287 := n12_
                  have NB287_271 := n13_
                  clear n0_ n1_ n2_ n3_ n4_ n5_ n6_ n7_ n8_ n9_ n10_ n11_ n12_ n13_
                  clear hb hbox hg
                  refine hK.out _ _ ⟨(blk_cell BK271.out 0).trans rfl, (blk_cell BK271.out 1).trans rfl, HS2_, HS3_, HS4_⟩ (fun hHeld => ?_)
                  clear hK K
                  refine norm_ (a' := ?_) ?_ ?_
                  rotate_left
                  ·show Act.put _ (some 12) _ = _
                   simp only [Act.put, sA_, sZ_, sS_, i64_w, i32_w]
                   rfl
                  exact norm_ (by simp only [putAll, Act.put, sA_, sZ_, sS_]) (hCont (v283, gb287) _ ⟨hHeld, (by (with_reducible repeat (first | apply Kd.S_alloc | apply Kd.S_drewN | apply Kd.S_drew)); exact Kd.S_mono HO284.out (fun _ hk => ⟨hk.1.2, hk.2⟩)), (by (with_reducible repeat (first | apply Kd.S_alloc | apply Kd.S_drewN | apply Kd.S_drew)); exact Kd.S_mono HO_271001.out (fun _ hk => hk.2)), (by (with_reducible repeat (first | apply Kd.S_alloc | apply Kd.S_drewN | apply Kd.S_drew)); exact Kd.S_mono HO_272001.out (fun _ hk => hk.2)), (fr_ HO_4.out), (fb_ BK270.out), (fb_ BK271.out), (fb_ BK287.out), GW287.out, GE287.out, NB270_287.out, NB287_270.out, NB271_287.out, NB287_271.out, (bel_ HB.out)⟩)
                 ·skip
                  refine box_step ?hg (N := 12) ?hd (cs := #[.int .i64 0, .slice none 0 0]) (t := 69) ?hr ?_; (case hd => rfl); (case hg => rfl); (case hr => first | (go_simp; done) | (go_simp; rfl))
                  intro gb287 hg w92 hbox hb
                  have HS2_ := (hb.cell (World.block_lt_of_cell? _ _ (hHeld.2.2.1))).trans (hHeld.2.2.1)
                  have HS3_ := (hb.cell (World.block_lt_of_cell? _ _ (hHeld.2.2.2.1))).trans (hHeld.2.2.2.1)
                  have HS4_ := (hb.cell (World.block_lt_of_cell? _ _ (hHeld.2.2.2.2))).trans (hHeld.2.2.2.2)
                  have n0_ := Aside0.mk (Kd.R_below (fr_ HO_4.out) hb)
                  have n1_ := Aside0.mk (Kd.S_below (by (with_reducible repeat (first | apply Kd.S_alloc | apply Kd.S_drewN | apply Kd.S_drew)); exact HO_271001.out) hb)
                  have n2_ := Aside0.mk (Kd.S_below (by (with_reducible repeat (first | apply Kd.S_alloc | apply Kd.S_drewN | apply Kd.S_drew)); exact HO_272001.out) hb)
                  have n3_ := Aside0.mk (bb_ BK270.out hb)
                  have n4_ := Aside0.mk (bb_ BK271.out hb)
                  have n5_ := Aside0.mk (below_step (bel_ HB.out) hb)
                  have n6_ := Aside0.mk (hbox)
                  have n7_ := Aside0.mk ((by rw [hg]; exact (below_size (bel_ HB.out)) : w.heap.size ≤ gb287))
                  have n8_ := Aside0.mk ((by rw [hg]; exact (below_size (bel_ HB.out)) : w.heap.size ≤ gb287))
                  have n9_ := Aside0.mk (nl_ BK270.out hg)
                  have n10_ := Aside0.mk (ng_ BK270.out hg)
                  have n11_ := Aside0.mk (nl_ BK271.out hg)
                  have n12_ := Aside0.mk (ng_ BK271.out hg)
                  clear HO_4
                  clear HO_271001
                  clear HO_272001
                  clear BK270
                  clear BK271
                  clear HB
                  have HO_4 := n0_
                  have HO_271001 := n1_
                  have HO_272001 := n2_
                  have BK270 := n3_
                  have BK271 := n4_
                  have HB := n5_
                  have BK287 := n6_
                  have GW287 := n7_
                  have GE287 := n8_
                  have NB270_287 := n9_
                  have NB287_270 := n10_
                  have NB271_287 := n11_
                  have NB287_271 := n12_
                  clear n0_ n1_ n2_ n3_ n4_ n5_ n6_ n7_ n8_ n9_ n10_ n11_ n12_
                  clear hb hbox hg
                  refine hK.out _ _ ⟨(blk_cell BK271.out 0).trans rfl, (blk_cell BK271.out 1).trans rfl, HS2_, HS3_, HS4_⟩ (fun hHeld => ?_)
                  clear hK K
                  refine norm_ (a' := ?_) ?_ ?_
                  rotate_left
                  ·show Act.put _ (some 12) _ = _
                   simp only [Act.put, sA_, sZ_, sS_, i64_w, i32_w]
                   rfl
                  refine one_ (i := 5) (N := some 85) (bs 14 1087) rfl rfl (one_of HT_.out (by kernel_rfl)) (by decide) (fun K hK => ?_)
                  refine goes_ Try.func31 (by kernel_rfl) rfl #[.agg #[.int .i64 x272000_1, .slice Ao25 x272001_1.length co25], .agg #[.int .i64 ((rd_T76 t267 x6_1).f0), .int .i64 ((rd_T76 t267 x6_1).f1), .int .i64 ((rd_T76 t267 x6_1).f2)]] (by rfl) rfl rfl ml_ ?_
                  with_reducible refine (impl_DoYard.calls x272000_1 _ _ x272001_1 ((rd_T76 t267 x6_1).f0) ((rd_T76 t267 x6_1).f1) ((rd_T76 t267 x6_1).f2) t281 t282 t285 t286 _ ?side1 ?side2 A38.out).mono ?_
                  (case side1 => repeat (first | exact (Kd.S_reads' HO_272001.out).2.2 | (with_reducible refine Kd.C_alloc ?_ _) | (with_reducible refine Kd.C_drewN ?_ _) | (with_reducible refine Kd.C_drew ?_)))
                  (case side2 => exact (Kd.S_reads' HO_272001.out).2.1)
                  rintro e w93 ⟨v283, rfl, ho0, hb⟩
                  have HS2_ := (hb.cell (World.block_lt_of_cell? _ _ (hHeld.2.2.1))).trans (hHeld.2.2.1)
                  have HS3_ := (hb.cell (World.block_lt_of_cell? _ _ (hHeld.2.2.2.1))).trans (hHeld.2.2.2.1)
                  have HS4_ := (hb.cell (World.block_lt_of_cell? _ _ (hHeld.2.2.2.2))).trans (hHeld.2.2.2.2)
                  refine ⟨_, rfl, ?_⟩
                  have n0_ := Aside0.mk (Kd.R_below (fr_ HO_4.out) hb)
                  have n1_ := Aside0.mk (Kd.S_elder' (by (with_reducible repeat (first | apply Kd.S_alloc | apply Kd.S_drewN | apply Kd.S_drew)); exact HO_271001.out) (Kd.S_base ho0) hb)
                  have n2_ := Aside0.mk (Kd.S_elder' (by (with_reducible repeat (first | apply Kd.S_alloc | apply Kd.S_drewN | apply Kd.S_drew)); exact HO_272001.out) (Kd.S_base ho0) hb)
                  have n3_ := Aside0.mk (Kd.S_lower (Kd.S_new' (Kd.S_new' ho0 (Kd.S_lt (by (with_reducible repeat (first | apply Kd.S_alloc | apply Kd.S_drewN | apply Kd.S_drew)); exact HO_271001.out))) (Kd.S_lt (by (with_reducible repeat (first | apply Kd.S_alloc | apply Kd.S_drewN | apply Kd.S_drew)); exact HO_272001.out))) (below_size (bel_ HB.out)))
                  have n4_ := Aside0.mk (bb_ BK270.out hb)
                  have n5_ := Aside0.mk (bb_ BK271.out hb)
                  have n6_ := Aside0.mk (bb_ BK287.out hb)
                  have n7_ := Aside0.mk (below_step (bel_ HB.out) hb)
                  clear HO_4
                  clear HO_271001
                  clear HO_272001
                  clear BK270
                  clear BK271
                  clear BK287
                  clear HB
                  have HO_4 := n0_
                  have HO_271001 := n1_
                  have HO_272001 := n2_
                  have HO284 := n3_
                  have BK270 := n4_
                  have BK271 := n5_
                  have BK287 := n6_
                  have HB := n7_
                  clear n0_ n1_ n2_ n3_ n4_ n5_ n6_ n7_
                  (try clear hb)
                  (try clear hb2)
                  (try clear hk)
                  (try clear hi)
                  (try clear ho0)
                  refine hK.out _ _ ⟨(blk_cell BK271.out 0).trans rfl, (blk_cell BK271.out 1).trans rfl, HS2_, HS3_, HS4_⟩ (fun hHeld => ?_)
                  clear hK K
                  refine norm_ (a' := ?_) ?_ ?_
                  rotate_left
                  ·show Act.put _ (some 85) _ = _
                   simp only [Act.put, sA_, sZ_, sS_, i64_w, i32_w]
                   rfl
                  refine pu_ 6 79 HT_ (bs 14 1151) rfl rfl ?_
                  refine pu_ 7 86 HT_ (bs 14 1279) rfl rfl ?_
                  refine pu_ 8 87 HT_ (bs 14 1535) rfl rfl ?_
                  refine pu_ 9 88 HT_ (bs 14 2047) rfl rfl ?_
                  exact norm_ (by simp only [putAll, Act.put, sA_, sZ_, sS_]) (hCont (v283, gb287) _ ⟨hHeld, (by (with_reducible repeat (first | apply Kd.S_alloc | apply Kd.S_drewN | apply Kd.S_drew)); exact Kd.S_mono HO284.out (fun _ hk => ⟨hk.1.2, hk.2⟩)), (by (with_reducible repeat (first | apply Kd.S_alloc | apply Kd.S_drewN | apply Kd.S_drew)); exact Kd.S_mono HO_271001.out (fun _ hk => hk.2)), (by (with_reducible repeat (first | apply Kd.S_alloc | apply Kd.S_drewN | apply Kd.S_drew)); exact Kd.S_mono HO_272001.out (fun _ hk => hk.2)), (fr_ HO_4.out), (fb_ BK270.out), (fb_ BK271.out), (fb_ BK287.out), GW287.out, GE287.out, NB270_287.out, NB287_270.out, NB271_287.out, NB287_271.out, (bel_ HB.out)⟩)
                rintro ⟨v283, gb287⟩ w94 ⟨hS_, h0_, h1_, h2_, h3_, h4_, h5_, h6_, h7_, h8_, h9_, h10_, h11_, h12_, h13_⟩
                have n0_ : Aside0 (Kd.S (Kd.slice 3 (Kd.int .i64)) 28 w94 w.heap.size (fun k_ => some k_ ≠ (.slice Ao8 t264.length co8 : Value).ownBlock ∧ some k_ ≠ (.slice Ao25 x272001_1.length co25 : Value).ownBlock) v283 t282) := ⟨h0_⟩
                have n1_ : Aside0 (Kd.S (Kd.slice 3 (Kd.int .i64)) 28 w94 w.heap.size (fun k_ => some k_ ≠ (v283 : Value).ownBlock) (.slice Ao8 t264.length co8) t264) := ⟨h1_⟩
                have n2_ : Aside0 (Kd.S (Kd.slice 3 (Kd.int .i64)) 28 w94 w.heap.size (fun k_ => some k_ ≠ (v283 : Value).ownBlock) (.slice Ao25 x272001_1.length co25) x272001_1) := ⟨h2_⟩
                have n3_ : Aside0 (Kd.R k76 76 w94 w.heap.size (fun _ => True) (.slice (some ad273) t267.length co13) t267) := ⟨h3_⟩
                have n4_ : Aside0 (w94.heap[gb270]? = some (.cells #[.int .i64 t263, .slice Ao8 t264.length co8] 69 (0, 0))) := ⟨h4_⟩
                have n5_ : Aside0 (w94.heap[gb271]? = some (.cells #[.int .i64 x272000_1, .slice Ao25 x272001_1.length co25] 69 (0, 0))) := ⟨h5_⟩
                have n6_ : Aside0 (w94.heap[gb287]? = some (.cells #[.int .i64 0, .slice none 0 0] 69 (0, 0))) := ⟨h6_⟩
                have n7_ : Aside0 (w.heap.size ≤ gb287) := ⟨h7_⟩
                have n8_ : Aside0 (w.heap.size ≤ gb287) := ⟨h8_⟩
                have n9_ : Aside0 (gb270 ≠ gb287) := ⟨h9_⟩
                have n10_ : Aside0 (gb287 ≠ gb270) := ⟨h10_⟩
                have n11_ : Aside0 (gb271 ≠ gb287) := ⟨h11_⟩
                have n12_ : Aside0 (gb287 ≠ gb271) := ⟨h12_⟩
                have n13_ : Aside0 (Below w.heap.size w w94) := ⟨h13_⟩
                clear HO_4
                clear HO_271001
                clear HO_272001
                clear BK270
                clear BK271
                clear HB
                clear h0_ h1_ h2_ h3_ h4_ h5_ h6_ h7_ h8_ h9_ h10_ h11_ h12_ h13_
                have HO284 := n0_
                have HO_271001 := n1_
                have HO_272001 := n2_
                have HO_4 := n3_
                have BK270 := n4_
                have BK271 := n5_
                have BK287 := n6_
                have GW287 := n7_
                have GE287 := n8_
                have NB270_287 := n9_
                have NB287_270 := n10_
                have NB271_287 := n11_
                have NB287_271 := n12_
                have HB := n13_
                clear n0_ n1_ n2_ n3_ n4_ n5_ n6_ n7_ n8_ n9_ n10_ n11_ n12_ n13_
                have hHeld : w94.cell? ⟨gb271, 0, none⟩ = some (.int .i64 x272000_1) ∧ w94.cell? ⟨gb271, 1, none⟩ = some (.slice Ao25 x272001_1.length co25) ∧ w94.cell? (ad273.add ((x6_1).toNat * 3)) = some (.int .i64 ((rd_T76 t267 x6_1).f0)) ∧ w94.cell? ⟨(ad273.add ((x6_1).toNat * 3)).block, (ad273.add ((x6_1).toNat * 3)).off + 1, none⟩ = some (.int .i64 ((rd_T76 t267 x6_1).f1)) ∧ w94.cell? ⟨(ad273.add ((x6_1).toNat * 3)).block, (ad273.add ((x6_1).toNat * 3)).off + 2, none⟩ = some (.int .i64 ((rd_T76 t267 x6_1).f2)) := hS_
                obtain ⟨Ao96, co96, eo96⟩ := Kd.S_slice HO284.out
                (first | subst eo96 | (injection eo96 with f1_ f2_ f3_; have f4_ := f1_.symm; have f5_ := f3_.symm; clear f1_ f2_ f3_; subst f4_; subst f5_))
                refine norm_ (a' := ?_) ?_ ?_
                rotate_left
                ·simp only [putAll, Act.put, sA_, sZ_, sS_]
                 rfl
                refine one_ (i := 11) (N := none) (bs 14 4095) rfl rfl (one_of HT_.out (by kernel_rfl)) (by decide) (fun K hK => ?_)
                have hs95 : w94.cell? ⟨gb287, 0, none⟩ = some (.int .i64 0) := (blk_cell BK287.out 0).trans rfl
                have hfs95 := blk_frozen BK287.out 0
                have hns95_0 := NB270_287.out
                have hns95_1 := NB271_287.out
                have hms95_0 := NB287_270.out
                have hms95_1 := NB287_271.out
                have hs97 : w94.cell? ⟨gb287, 1, none⟩ = some (.slice none 0 0) := (blk_cell BK287.out 1).trans rfl
                have hfs97 := blk_frozen BK287.out 1
                have hns97_0 := NB270_287.out
                have hns97_1 := NB271_287.out
                have hms97_0 := NB287_270.out
                have hms97_1 := NB287_271.out
                refine skip_ (w1 := ?_) (by rfl) rfl ?_ ?_
                rotate_left
                ·go_simp
                 rfl
                refine hK.out _ _ ⟨((cell_far (p := ⟨gb287, _, none⟩) NB271_287.out _).trans (((cell_far (p := ⟨gb287, _, none⟩) NB271_287.out _).trans (hHeld.1)))), ((cell_far (p := ⟨gb287, _, none⟩) NB271_287.out _).trans (((cell_far (p := ⟨gb287, _, none⟩) NB271_287.out _).trans (hHeld.2.1)))), ((cell_far (p := ⟨gb287, _, none⟩) (by first | exact Kd.own_blk (Kd.R_ne HO_4.out BK287.out (by decide)) | (rw [add_block]; exact Kd.own_blk (Kd.R_ne HO_4.out BK287.out (by decide))) | (show (Addr.add _ _).block ≠ _; rw [add_block]; exact Kd.own_blk (Kd.R_ne HO_4.out BK287.out (by decide))) | (dsimp only; exact Kd.own_blk (Kd.R_ne HO_4.out BK287.out (by decide)))) _).trans (((cell_far (p := ⟨gb287, _, none⟩) (by first | exact Kd.own_blk (Kd.R_ne HO_4.out BK287.out (by decide)) | (rw [add_block]; exact Kd.own_blk (Kd.R_ne HO_4.out BK287.out (by decide))) | (show (Addr.add _ _).block ≠ _; rw [add_block]; exact Kd.own_blk (Kd.R_ne HO_4.out BK287.out (by decide))) | (dsimp only; exact Kd.own_blk (Kd.R_ne HO_4.out BK287.out (by decide)))) _).trans (hHeld.2.2.1)))), ((cell_far (p := ⟨gb287, _, none⟩) (by first | exact Kd.own_blk (Kd.R_ne HO_4.out BK287.out (by decide)) | (rw [add_block]; exact Kd.own_blk (Kd.R_ne HO_4.out BK287.out (by decide))) | (show (Addr.add _ _).block ≠ _; rw [add_block]; exact Kd.own_blk (Kd.R_ne HO_4.out BK287.out (by decide))) | (dsimp only; exact Kd.own_blk (Kd.R_ne HO_4.out BK287.out (by decide)))) _).trans (((cell_far (p := ⟨gb287, _, none⟩) (by first | exact Kd.own_blk (Kd.R_ne HO_4.out BK287.out (by decide)) | (rw [add_block]; exact Kd.own_blk (Kd.R_ne HO_4.out BK287.out (by decide))) | (show (Addr.add _ _).block ≠ _; rw [add_block]; exact Kd.own_blk (Kd.R_ne HO_4.out BK287.out (by decide))) | (dsimp only; exact Kd.own_blk (Kd.R_ne HO_4.out BK287.out (by decide)))) _).trans (hHeld.2.2.2.1)))), ((cell_far (p := ⟨gb287, _, none⟩) (by first | exact Kd.own_blk (Kd.R_ne HO_4.out BK287.out (by decide)) | (rw [add_block]; exact Kd.own_blk (Kd.R_ne HO_4.out BK287.out (by decide))) | (show (Addr.add _ _).block ≠ _; rw [add_block]; exact Kd.own_blk (Kd.R_ne HO_4.out BK287.out (by decide))) | (dsimp only; exact Kd.own_blk (Kd.R_ne HO_4.out BK287.out (by decide)))) _).trans (((cell_far (p := ⟨gb287, _, none⟩) (by first | exact Kd.own_blk (Kd.R_ne HO_4.out BK287.out (by decide)) | (rw [add_block]; exact Kd.own_blk (Kd.R_ne HO_4.out BK287.out (by decide))) | (show (Addr.add _ _).block ≠ _; rw [add_block]; exact Kd.own_blk (Kd.R_ne HO_4.out BK287.out (by decide))) | (dsimp only; exact Kd.own_blk (Kd.R_ne HO_4.out BK287.out (by decide)))) _).trans (hHeld.2.2.2.2))))⟩ (fun hHeld => ?_)
                clear hK K
                refine pu_ 12 13 HT_ (bs 14 8191) rfl rfl ?_
                refine pu_ 13 14 HT_ (bs 14 16383) rfl rfl ?_
                refine done_ (done_of HT_.out (by kernel_rfl)) ?_
                have hnb98 := NB287_270.out
                have hnc98 := NB270_287.out
                have hnb99 := NB287_271.out
                have hnc99 := NB271_287.out
                have hcz100_0 : w94.cell? ⟨gb287, 0, none⟩ = some (.int .i64 0) := (blk_cell BK287.out 0).trans rfl
                have hcz100_1 : w94.cell? ⟨gb287, 1, none⟩ = some (.slice none 0 0) := (blk_cell BK287.out 1).trans rfl
                have hfz100_0 := blk_frozen BK287.out 0
                have hfz100_1 := blk_frozen BK287.out 1
                try go_wp2_with (first | ((with_reducible refine gate_callee (f := 32) rfl ?_); refine goesL_ (some 90) rfl rfl Try.func32 (by kernel_rfl) rfl #[.agg #[.int .i64 t281, .slice Ao96 t282.length co96]] rfl ml_ ?_; (with_reducible refine (impl_YardOk.calls t281 _ _ t282 false _ ?side1 ?side2 A39.out).mono ?_); (case side1 => refine (Kd.S_reads' (e := 28) (base := w.heap.size) (ok := fun k_ => (some k_ ≠ (.slice Ao8 t264.length co8 : Value).ownBlock ∧ some k_ ≠ (.slice Ao25 x272001_1.length co25 : Value).ownBlock)) (n := t282.length) (c := co96) ?_).2.2; exact (by (with_reducible repeat (first | apply Kd.S_alloc | apply Kd.S_drewN | apply Kd.S_drew)); exact (Kd.S_mono (Kd.S_far (p := ⟨gb287, 1, none⟩) (Kd.S_far (p := ⟨gb287, 0, none⟩) (Kd.S_types HO284.out BK287.out (by decide)) (fun _ hk => hk.2) (.int .i64 t281)) (fun _ hk => hk.2) (.slice Ao96 t282.length co96)) (fun _ h_ => h_.1)))); (case side2 => exact (Kd.S_reads' HO284.out).2.1); rintro e w101 ⟨rfl, hb⟩; refine ⟨_, rfl, ?_⟩; have n0_ := Aside0.mk (Kd.R_below (rf1_ (rt_ HO_4.out BK287.out)) hb); have n1_ := Aside0.mk (Kd.S_below (by (with_reducible repeat (first | apply Kd.S_alloc | apply Kd.S_drewN | apply Kd.S_drew)); exact (Kd.S_mono (Kd.S_far (p := ⟨gb287, 1, none⟩) (Kd.S_far (p := ⟨gb287, 0, none⟩) (Kd.S_types HO_271001.out BK287.out (by decide)) (fun _ hk => hk.2) (.int .i64 t281)) (fun _ hk => hk.2) (.slice Ao96 t282.length co96)) (fun _ h_ => h_.1))) hb); have n2_ := Aside0.mk (Kd.S_below (by (with_reducible repeat (first | apply Kd.S_alloc | apply Kd.S_drewN | apply Kd.S_drew)); exact (Kd.S_mono (Kd.S_far (p := ⟨gb287, 1, none⟩) (Kd.S_far (p := ⟨gb287, 0, none⟩) (Kd.S_types HO_272001.out BK287.out (by decide)) (fun _ hk => hk.2) (.int .i64 t281)) (fun _ hk => hk.2) (.slice Ao96 t282.length co96)) (fun _ h_ => h_.1))) hb); have n3_ := Aside0.mk (Kd.S_below (by (with_reducible repeat (first | apply Kd.S_alloc | apply Kd.S_drewN | apply Kd.S_drew)); exact (Kd.S_mono (Kd.S_far (p := ⟨gb287, 1, none⟩) (Kd.S_far (p := ⟨gb287, 0, none⟩) (Kd.S_types HO284.out BK287.out (by decide)) (fun _ hk => hk.2) (.int .i64 t281)) (fun _ hk => hk.2) (.slice Ao96 t282.length co96)) (fun _ h_ => h_.1))) hb); have n4_ := Aside0.mk (ba_ BK270.out hb); have n5_ := Aside0.mk (ba_ BK271.out hb); have n6_ := Aside0.mk (blk_below (g := gb287) (o := .cells #[.int .i64 t281, .slice Ao96 t282.length co96] 69 (0, 0)) (by refine rp_ ?_; refine blk_put (cs := #[.int .i64 t281, .slice none 0 0]) ?_ 1 _ rfl; refine rp_ ?_; refine blk_put (cs := #[.int .i64 0, .slice none 0 0]) ?_ 0 _ rfl; refine rp_ ?_; exact BK287.out) hb); have n7_ := Aside0.mk (below_step (bel_ HB.out) hb); clear HO_4; clear HO_271001; clear HO_272001; clear HO284; clear BK270; clear BK271; clear BK287; clear HB; have HO_4 := n0_; have HO_271001 := n1_; have HO_272001 := n2_; have HO284 := n3_; have BK270 := n4_; have BK271 := n5_; have BK287 := n6_; have HB := n7_; clear n0_ n1_ n2_ n3_ n4_ n5_ n6_ n7_; (try clear hb); (try clear hb2); (try clear hk); (try clear hi)))
                go_ret
                exact ⟨by first | rfl | (simp [errW_none, errW_some] <;> rfl) | (simp [*, errW_none, errW_some] <;> rfl), bel_ HB.out⟩
              ·rw [if_neg c37] at H
               exact absurd H (by simp)
             ·rw [if_neg c36] at H
              exact absurd H (by simp)
         ·rw [if_neg c20] at H
          exact absurd H (by simp)
        ·rw [if_neg c19] at H
         exact absurd H (by simp)
    ·rw [if_neg c12] at H
     have c12b0 : decide (x6_1 < (t267.length : Int)) = false := decide_eq_false c12
     clear c12
     replace H := Option.bind_eq_some_iff.mp H
     obtain ⟨⟨t293, t294, t297, t300⟩, A1020, H⟩ := H
     replace H : (if (t294.length : Int) = (x272001_1.length : Int) then (laws_FnYard.l3 k1 t267 t297 0 x272000_1 x272001_1 t293 t294) else (some false)) = some r := H
     have A102 := Aside0.mk A1020
     clear A1020
     by_cases c103 : (t294.length : Int) = (x272001_1.length : Int)
     ·rw [if_pos c103] at H
      have c103b0 : ((t294.length : Int) == (x272001_1.length : Int)) = true := beq_iff_eq.mpr c103
      have c103b1 : ((t294.length : Int) != (x272001_1.length : Int)) = false := bne_eq_false_iff_eq.mpr c103
      have c103b2 : (t294.length == x272001_1.length) = true := by first | simpa using c103 | (simp at c103 ⊢; omega)
      clear c103
      have H' := Aside0.mk H
      clear H
      obtain ⟨Ao104, co104, eo104⟩ := Kd.R_slice HO_4.out
      subst eo104
      have hnb105 := NB270_271.out
      have hnc105 := NB271_270.out
      have hcz106_0 : wr.cell? ⟨gb270, 0, none⟩ = some (.int .i64 t263) := (blk_cell BK270.out 0).trans rfl
      have hcz106_1 : wr.cell? ⟨gb270, 1, none⟩ = some (.slice Ao8 t264.length co8) := (blk_cell BK270.out 1).trans rfl
      have hfz106_0 := blk_frozen BK270.out 0
      have hfz106_1 := blk_frozen BK270.out 1
      go_wp2_with (first | ((with_reducible refine gate_callee (f := 33) rfl ?_); refine goesL_ (some 154) rfl rfl Try.func33 (by kernel_rfl) rfl #[.agg #[.int .i64 t263, .slice Ao8 t264.length co8], .slice Ao104 t267.length co104] rfl ml_ ?_; (with_reducible refine (impl_RunYard.calls k1 t263 _ _ t264 _ _ t267 t293 t294 t297 t300 _ ?side1 ?side2 ?side3 ?side4 A102.out).mono ?_); (case side1 => repeat (first | exact (Kd.S_reads' HO_271001.out).2.2 | (with_reducible refine Kd.C_alloc ?_ _) | (with_reducible refine Kd.C_drewN ?_ _) | (with_reducible refine Kd.C_drew ?_))); (case side2 => exact (Kd.S_reads' HO_271001.out).2.1); (case side3 => exact rc_ (Kd.R_reads' HO_4.out).2.2); (case side4 => exact (Kd.R_reads' HO_4.out).2.1); rintro e w107 ⟨v295, v298, rfl, ho0, ho1, hb⟩; refine ⟨_, rfl, ?_⟩; have n0_ := Aside0.mk (Kd.R_below (fr_ HO_4.out) hb); have n1_ := Aside0.mk (Kd.S_mono (Kd.S_told (Kd.S_told (Kd.S_old (by (with_reducible repeat (first | apply Kd.S_alloc | apply Kd.S_drewN | apply Kd.S_drew)); exact HO_271001.out) hb) (Kd.S_base ho0)) (Kd.R_base ho1)) (fun _ h_ => h_.1)); have n2_ := Aside0.mk (Kd.S_mono (Kd.S_told (Kd.S_told (Kd.S_old (by (with_reducible repeat (first | apply Kd.S_alloc | apply Kd.S_drewN | apply Kd.S_drew)); exact HO_272001.out) hb) (Kd.S_base ho0)) (Kd.R_base ho1)) (fun _ h_ => h_.1)); have n3_ := Aside0.mk (Kd.S_lower (Kd.S_new' (Kd.S_new' ho0 (Kd.S_lt (by (with_reducible repeat (first | apply Kd.S_alloc | apply Kd.S_drewN | apply Kd.S_drew)); exact HO_271001.out))) (Kd.S_lt (by (with_reducible repeat (first | apply Kd.S_alloc | apply Kd.S_drewN | apply Kd.S_drew)); exact HO_272001.out))) (below_size (bel_ HB.out))); have n4_ := Aside0.mk (Kd.R_lower ho1 (below_size (bel_ HB.out))); have n5_ := Aside0.mk (bb_ BK270.out hb); have n6_ := Aside0.mk (bb_ BK271.out hb); have n7_ := Aside0.mk (below_step (bel_ HB.out) hb); clear HO_4; clear HO_271001; clear HO_272001; clear BK270; clear BK271; clear HB; have HO_4 := n0_; have HO_271001 := n1_; have HO_272001 := n2_; have HO296 := n3_; have HO299 := n4_; have BK270 := n5_; have BK271 := n6_; have HB := n7_; clear n0_ n1_ n2_ n3_ n4_ n5_ n6_ n7_; (try clear hb); (try clear hb2); (try clear hk); (try clear hi); (try clear ho0); (try clear ho1)) | ((with_reducible refine gate_dst (N := 18) rfl ?_); (try (refine gate_guard (by rfl) ?_; dsimp only)); refine box_event ?hg (N := 18) ?hd (cs := #[.int .i64 0, .slice none 0 0]) (t := 69) ?hr ?_; (case hd => rfl); (case hg => rfl); (case hr => first | (go_simp; done) | (go_simp; rfl)); intro gb301 hg w108 hbox hb; have n0_ := Aside0.mk (Kd.R_below (fr_ HO_4.out) hb); have n1_ := Aside0.mk (Kd.S_below (by (with_reducible repeat (first | apply Kd.S_alloc | apply Kd.S_drewN | apply Kd.S_drew)); exact HO_271001.out) hb); have n2_ := Aside0.mk (Kd.S_below (by (with_reducible repeat (first | apply Kd.S_alloc | apply Kd.S_drewN | apply Kd.S_drew)); exact HO_272001.out) hb); have n3_ := Aside0.mk (Kd.S_below (by (with_reducible repeat (first | apply Kd.S_alloc | apply Kd.S_drewN | apply Kd.S_drew)); exact HO296.out) hb); have n4_ := Aside0.mk (Kd.R_below (fr_ HO299.out) hb); have n5_ := Aside0.mk (bb_ BK270.out hb); have n6_ := Aside0.mk (bb_ BK271.out hb); have n7_ := Aside0.mk (below_step (bel_ HB.out) hb); have n8_ := Aside0.mk (hbox); have n9_ := Aside0.mk ((by rw [hg]; exact (below_size (bel_ HB.out)) : w.heap.size ≤ gb301)); have n10_ := Aside0.mk ((by rw [hg]; exact (below_size (bel_ HB.out)) : w.heap.size ≤ gb301)); have n11_ := Aside0.mk (nl_ BK270.out hg); have n12_ := Aside0.mk (ng_ BK270.out hg); have n13_ := Aside0.mk (nl_ BK271.out hg); have n14_ := Aside0.mk (ng_ BK271.out hg); clear HO_4; clear HO_271001; clear HO_272001; clear HO296; clear HO299; clear BK270; clear BK271; clear HB; have HO_4 := n0_; have HO_271001 := n1_; have HO_272001 := n2_; have HO296 := n3_; have HO299 := n4_; have BK270 := n5_; have BK271 := n6_; have HB := n7_; have BK301 := n8_; have GW301 := n9_; have GE301 := n10_; have NB270_301 := n11_; have NB301_270 := n12_; have NB271_301 := n13_; have NB301_271 := n14_; clear n0_ n1_ n2_ n3_ n4_ n5_ n6_ n7_ n8_ n9_ n10_ n11_ n12_ n13_ n14_; clear hb hbox hg; have hnb109 := NB301_270.out; have hnc109 := NB270_301.out; have hnb110 := NB301_271.out; have hnc110 := NB271_301.out; have hcz111_0 : w108.cell? ⟨gb301, 0, none⟩ = some (.int .i64 0) := (blk_cell BK301.out 0).trans rfl; have hcz111_1 : w108.cell? ⟨gb301, 1, none⟩ = some (.slice none 0 0) := (blk_cell BK301.out 1).trans rfl; have hfz111_0 := blk_frozen BK301.out 0; have hfz111_1 := blk_frozen BK301.out 1; obtain ⟨Ao112, co112, eo112⟩ := Kd.S_slice HO296.out; subst eo112; have hcz113_0 : w108.cell? ⟨gb271, 0, none⟩ = some (.int .i64 x272000_1) := (blk_cell BK271.out 0).trans rfl; have hcz113_1 : w108.cell? ⟨gb271, 1, none⟩ = some (u272001) := (blk_cell BK271.out 1).trans rfl; have hfz113_0 := blk_frozen BK271.out 0; have hfz113_1 := blk_frozen BK271.out 1; obtain ⟨Ao114, co114, eo114⟩ := Kd.S_slice HO_272001.out; subst eo114))
      go_loopg [21] k1 (fun kq v21 w' => ∃ (x21_2 : Int), v21 = .int .i64 x21_2 ∧ Aside0 (laws_FnYard.l3 kq t267 t297 x21_2 x272000_1 x272001_1 t293 t294 = some r) ∧ Aside0 (kq ≤ k1) ∧ Aside0 (Kd.R k76 76 w' w.heap.size (fun _ => True) (.slice Ao104 t267.length co104) t267) ∧ Aside0 (Kd.R (Kd.int .i64) 3 w' w.heap.size (fun _ => True) v298 t297) ∧ Aside0 (Kd.S (Kd.slice 3 (Kd.int .i64)) 28 w' w.heap.size (fun k_ => some k_ ≠ (v298 : Value).ownBlock ∧ some k_ ≠ ((.slice Ao112 t294.length co112) : Value).ownBlock) (.slice Ao8 t264.length co8) t264) ∧ Aside0 (Kd.S (Kd.slice 3 (Kd.int .i64)) 28 w' w.heap.size (fun k_ => some k_ ≠ (v298 : Value).ownBlock ∧ some k_ ≠ ((.slice Ao112 t294.length co112) : Value).ownBlock) (.slice Ao114 x272001_1.length co114) x272001_1) ∧ Aside0 (Kd.S (Kd.slice 3 (Kd.int .i64)) 28 w' w.heap.size (fun k_ => some k_ ≠ (v298 : Value).ownBlock ∧ some k_ ≠ ((.slice Ao8 t264.length co8) : Value).ownBlock ∧ some k_ ≠ ((.slice Ao114 x272001_1.length co114) : Value).ownBlock) (.slice Ao112 t294.length co112) t294) ∧ Aside0 (w'.heap[gb270]? = some (.cells #[.int .i64 t263, (.slice Ao8 t264.length co8)] 69 (0, 0))) ∧ Aside0 (w'.heap[gb271]? = some (.cells #[.int .i64 x272000_1, (.slice Ao114 x272001_1.length co114)] 69 (0, 0))) ∧ Aside0 (w'.heap[gb301]? = some (.cells #[.int .i64 t293, (.slice Ao112 t294.length co112)] 69 (0, 0))) ∧ Aside0 (Below w.heap.size w w'))
      case atStart => exact ⟨(0), (by first | rfl | (simp; done) | (simp [*]; done) | (simp [wrap64]; done)), H', ⟨Nat.le_refl _⟩, ⟨by (with_reducible repeat (first | apply Kd.R_alloc | apply Kd.R_drewN | apply Kd.R_drew)); exact Kd.R_mono (Kd.R_far (p := ⟨gb301, 1, none⟩) (Kd.R_far (p := ⟨gb301, 0, none⟩) (rt_ HO_4.out BK301.out) (fun _ hk => hk.2) (.int .i64 t293)) (fun _ hk => hk.2) (.slice Ao112 t294.length co112)) (fun _ hk => trivial)⟩, ⟨by (with_reducible repeat (first | apply Kd.R_alloc | apply Kd.R_drewN | apply Kd.R_drew)); exact Kd.R_mono (Kd.R_far (p := ⟨gb301, 1, none⟩) (Kd.R_far (p := ⟨gb301, 0, none⟩) (rt_ HO299.out BK301.out) (fun _ hk => hk.2) (.int .i64 t293)) (fun _ hk => hk.2) (.slice Ao112 t294.length co112)) (fun _ hk => trivial)⟩, ⟨by (with_reducible repeat (first | apply Kd.S_alloc | apply Kd.S_drewN | apply Kd.S_drew)); exact Kd.S_mono (Kd.S_far (p := ⟨gb301, 1, none⟩) (Kd.S_far (p := ⟨gb301, 0, none⟩) (Kd.S_types HO_271001.out BK301.out (by decide)) (fun _ hk => hk.2) (.int .i64 t293)) (fun _ hk => hk.2) (.slice Ao112 t294.length co112)) (fun _ hk => ⟨hk.1.2, hk.1.1.2⟩)⟩, ⟨by (with_reducible repeat (first | apply Kd.S_alloc | apply Kd.S_drewN | apply Kd.S_drew)); exact Kd.S_mono (Kd.S_far (p := ⟨gb301, 1, none⟩) (Kd.S_far (p := ⟨gb301, 0, none⟩) (Kd.S_types HO_272001.out BK301.out (by decide)) (fun _ hk => hk.2) (.int .i64 t293)) (fun _ hk => hk.2) (.slice Ao112 t294.length co112)) (fun _ hk => ⟨hk.1.2, hk.1.1.2⟩)⟩, ⟨by (with_reducible repeat (first | apply Kd.S_alloc | apply Kd.S_drewN | apply Kd.S_drew)); exact Kd.S_mono (Kd.S_far (p := ⟨gb301, 1, none⟩) (Kd.S_far (p := ⟨gb301, 0, none⟩) (Kd.S_types HO296.out BK301.out (by decide)) (fun _ hk => hk.2) (.int .i64 t293)) (fun _ hk => hk.2) (.slice Ao112 t294.length co112)) (fun _ hk => ⟨hk.1.1.1, ⟨hk.1.1.2, hk.1.2⟩⟩)⟩, ⟨by refine rp_ ?_; refine blk_far ?_ NB270_301.out _; refine rp_ ?_; refine blk_far ?_ NB270_301.out _; refine rp_ ?_; exact BK270.out⟩, ⟨by refine rp_ ?_; refine blk_far ?_ NB271_301.out _; refine rp_ ?_; refine blk_far ?_ NB271_301.out _; refine rp_ ?_; exact BK271.out⟩, ⟨by refine rp_ ?_; refine blk_put (cs := #[.int .i64 t293, .slice none 0 0]) ?_ 1 _ rfl; refine rp_ ?_; refine blk_put (cs := #[.int .i64 0, .slice none 0 0]) ?_ 0 _ rfl; refine rp_ ?_; exact BK301.out⟩, ⟨bel_ HB.out⟩⟩
      case round =>
       clear H'
       try clear c3
       try clear c12
       try clear c12b0
       try clear c103
       try clear c103b0
       try clear c103b1
       try clear c103b2
       try clear hcz106_0
       try clear hcz106_1
       try clear hcz111_0
       try clear hcz111_1
       try clear hcz113_0
       try clear hcz113_1
       try clear hfz106_0
       try clear hfz106_1
       try clear hfz111_0
       try clear hfz111_1
       try clear hfz113_0
       try clear hfz113_1
       obtain ⟨x21_2, rfl, HA, HK2, HO_4, HO_19, HO_271001, HO_272001, HO_302001, BK270, BK271, BK301, HB⟩ := hrel
       cases gk with
       | zero => exact absurd HA.out (by simp [laws_FnYard.l3])
       | succ k2 =>
        have H := HA.out
        clear HA
        simp only [laws_FnYard.l3] at H
        by_cases c115 : x21_2 < (x272001_1.length : Int)
        ·rw [if_pos c115] at H
         have c115b0 : decide (x21_2 < (x272001_1.length : Int)) = true := decide_eq_true c115
         clear c115
         by_cases c116 : 0 ≤ x21_2
         ·rw [if_pos c116] at H
          have c116b0 : decide (0 ≤ x21_2) = true := decide_eq_true c116
          clear c116
          by_cases c117 : x21_2 < (t294.length : Int)
          ·rw [if_pos c117] at H
           have c117b0 : decide (x21_2 < (t294.length : Int)) = true := decide_eq_true c117
           clear c117
           replace H := Option.bind_eq_some_iff.mp H
           obtain ⟨t304, A1180, H⟩ := H
           replace H : (if t304 = true then (laws_FnYard.l3 k2 t267 t297 (wrap64 (x21_2 + 1)) x272000_1 x272001_1 t293 t294) else (some false)) = some r := H
           have A118 := Aside0.mk A1180
           clear A1180
           by_cases c119 : t304 = true
           ·subst c119
            have H1 : (laws_FnYard.l3 k2 t267 t297 (wrap64 (x21_2 + 1)) x272000_1 x272001_1 t293 t294) = some r := by rw [if_pos rfl] at H; exact H
            clear H
            have H := H1
            clear H1
            have H' := Aside0.mk H
            clear H
            have hnb120 := NB271_270.out
            have hnc120 := NB270_271.out
            have hnb121 := NB271_301.out
            have hnc121 := NB301_271.out
            have hcz122_0 : wr.cell? ⟨gb271, 0, none⟩ = some (.int .i64 x272000_1) := (blk_cell BK271.out 0).trans rfl
            have hcz122_1 : wr.cell? ⟨gb271, 1, none⟩ = some (.slice Ao114 x272001_1.length co114) := (blk_cell BK271.out 1).trans rfl
            have hfz122_0 := blk_frozen BK271.out 0
            have hfz122_1 := blk_frozen BK271.out 1
            try go_wp2
            have n0_ := Aside0.mk (Kd.R_drew HO_4.out)
            have n1_ := Aside0.mk (Kd.R_drew HO_19.out)
            have n2_ := Aside0.mk (Kd.S_drew HO_271001.out)
            have n3_ := Aside0.mk (Kd.S_drew HO_272001.out)
            have n4_ := Aside0.mk (Kd.S_drew HO_302001.out)
            have n5_ := Aside0.mk (blk_drew BK270.out)
            have n6_ := Aside0.mk (blk_drew BK271.out)
            have n7_ := Aside0.mk (blk_drew BK301.out)
            have n8_ := Aside0.mk (below_drew1 HB.out)
            clear HO_4
            clear HO_19
            clear HO_271001
            clear HO_272001
            clear HO_302001
            clear BK270
            clear BK271
            clear BK301
            clear HB
            have HO_4 := n0_
            have HO_19 := n1_
            have HO_271001 := n2_
            have HO_272001 := n3_
            have HO_302001 := n4_
            have BK270 := n5_
            have BK271 := n6_
            have BK301 := n7_
            have HB := n8_
            clear n0_ n1_ n2_ n3_ n4_ n5_ n6_ n7_ n8_
            have p302 : 0 ≤ (x21_2 : Int) := of_decide_eq_true (by first | (with_reducible assumption) | assumption)
            have q302 : x21_2 < (t294.length : Int) := of_decide_eq_true (by first | (with_reducible assumption) | assumption)
            obtain ⟨ad302, A302_0, c302_0, e302, hx302_0, hl302_0, hi302_0⟩ := at_L2 (Kd.S_reads' HO_302001.out).2.2 x21_2 p302 q302
            cases e302
            obtain ⟨ce302, hce302, hMe302, hcc302⟩ := Kd.S_get HO_302001.out [] x21_2 p302 (by first | exact q302 | exact of_decide_eq_true (by first | (with_reducible assumption) | assumption) | (have e_ := (Kd.S_reads' HO_302001.out).1; omega))
            obtain ⟨ve302_0, rfl, ge302_0⟩ := hMe302
            have hv302_0 := hcc302 0 _ rfl
            rw [Nat.add_zero, show ((Kd.slice 3 (Kd.int .i64))).sz = 1 from rfl, Nat.mul_one] at hv302_0
            replace hv302_0 := Option.some.inj (hv302_0.symm.trans hx302_0)
            rw [hv302_0] at ge302_0
            have HL302_0 := Aside0.mk (show Kd.R (Kd.int .i64) 3 _ _ _ _ (rd_L2 t294 x21_2) from ge302_0)
            clear hv302_0 ge302_0
            clear hcc302 hce302
            have HR302_0 := Aside0.mk hi302_0
            have HC302_0 := Aside0.mk hl302_0
            clear hi302_0 hl302_0
            replace p302 := eq_true p302
            replace q302 := eq_true q302
            have p303 : 0 ≤ (x21_2 : Int) := of_decide_eq_true (by first | (with_reducible assumption) | assumption)
            have q303 : x21_2 < (x272001_1.length : Int) := of_decide_eq_true (by first | (with_reducible assumption) | assumption)
            obtain ⟨ad303, A303_0, c303_0, e303, hx303_0, hl303_0, hi303_0⟩ := at_L2 (Kd.S_reads' HO_272001.out).2.2 x21_2 p303 q303
            cases e303
            obtain ⟨ce303, hce303, hMe303, hcc303⟩ := Kd.S_get HO_272001.out [] x21_2 p303 (by first | exact q303 | exact of_decide_eq_true (by first | (with_reducible assumption) | assumption) | (have e_ := (Kd.S_reads' HO_272001.out).1; omega))
            obtain ⟨ve303_0, rfl, ge303_0⟩ := hMe303
            have hv303_0 := hcc303 0 _ rfl
            rw [Nat.add_zero, show ((Kd.slice 3 (Kd.int .i64))).sz = 1 from rfl, Nat.mul_one] at hv303_0
            replace hv303_0 := Option.some.inj (hv303_0.symm.trans hx303_0)
            rw [hv303_0] at ge303_0
            have HL303_0 := Aside0.mk (show Kd.R (Kd.int .i64) 3 _ _ _ _ (rd_L2 x272001_1 x21_2) from ge303_0)
            clear hv303_0 ge303_0
            clear hcc303 hce303
            have HR303_0 := Aside0.mk hi303_0
            have HC303_0 := Aside0.mk hl303_0
            clear hi303_0 hl303_0
            replace p303 := eq_true p303
            replace q303 := eq_true q303
            refine start_ (n := 12) (S := fun w' => w'.cell? ⟨gb301, 0, none⟩ = some (.int .i64 t293) ∧ w'.cell? ⟨gb301, 1, none⟩ = some (.slice (some ad302) t294.length co112) ∧ w'.cell? ⟨gb271, 0, none⟩ = some (.int .i64 x272000_1) ∧ w'.cell? ⟨gb271, 1, none⟩ = some (.slice (some ad303) x272001_1.length co114) ∧ w'.cell? (ad302.add (x21_2).toNat) = some (.slice A302_0 (rd_L2 t294 x21_2).length c302_0) ∧ w'.cell? (ad303.add (x21_2).toNat) = some (.slice A303_0 (rd_L2 x272001_1 x21_2).length c303_0)) (ds := []) (bs 12 0) (by kernel_rfl) rfl rfl ⟨(blk_cell BK301.out 0).trans rfl, (blk_cell BK301.out 1).trans rfl, (blk_cell BK271.out 0).trans rfl, (blk_cell BK271.out 1).trans rfl, hx302_0, hx303_0⟩ (fun hHeld => ?_); refine with_tabW laws_FnYard.tab40 laws_FnYard.bits40 (fun HT_ HW_ => ?_)
            generalize wr.drew = w123 at HO_4 HO_19 HO_271001 HO_272001 HO_302001 BK270 BK271 BK301 HB HL302_0 HL303_0 HR302_0 HR303_0 hx302_0 hx303_0 hHeld ⊢
            refine pu_ 0 172 HT_ (bs 12 1) rfl rfl ?_
            refine pu_ 2 174 HT_ (bs 12 5) rfl rfl ?_
            refine pu_ 5 177 HT_ (bs 12 37) rfl rfl ?_
            refine pu_ 7 179 HT_ (bs 12 165) rfl rfl ?_
            refine take_ (i := 1) (N := some 173) (v := ?_) (a' := ?_) (bs 12 167) rfl rfl (take_ofW HT_.out HW_.out (by kernel_rfl)) (fun _ _ _ h => h) (Or.inl ⟨by rfl, ?_⟩) hHeld ?_ ?_
            rotate_left
            ·rintro w' ⟨s0, s1, s2, s3, s4, s5⟩
             go_simp
             with_reducible rfl
            rotate_left
            ·simp only [Act.put, sA_, sZ_, sS_, i64_w, i32_w]
             rfl
            refine pu_ 3 175 HT_ (bs 12 175) rfl rfl ?_
            refine take_ (i := 4) (N := some 176) (v := ?_) (a' := ?_) (bs 12 191) rfl rfl (take_ofW HT_.out HW_.out (by kernel_rfl)) (fun _ _ _ h => h) (Or.inl ⟨by rfl, ?_⟩) hHeld ?_ ?_
            rotate_left
            ·rintro w' ⟨s0, s1, s2, s3, s4, s5⟩
             go_simp
             with_reducible rfl
            rotate_left
            ·simp only [Act.put, sA_, sZ_, sS_, i64_w, i32_w]
             rfl
            refine take_ (i := 6) (N := some 178) (v := ?_) (a' := ?_) (bs 12 255) rfl rfl (take_ofW HT_.out HW_.out (by kernel_rfl)) (fun _ _ _ h => h) (Or.inl ⟨by rfl, ?_⟩) hHeld ?_ ?_
            rotate_left
            ·rintro w' ⟨s0, s1, s2, s3, s4, s5⟩
             go_simp
             with_reducible rfl
            rotate_left
            ·simp only [Act.put, sA_, sZ_, sS_, i64_w, i32_w]
             rfl
            refine pu_ 8 180 HT_ (bs 12 511) rfl rfl ?_
            refine take_ (i := 9) (N := some 181) (v := ?_) (a' := ?_) (bs 12 1023) rfl rfl (take_ofW HT_.out HW_.out (by kernel_rfl)) (fun _ _ _ h => h) (Or.inl ⟨by rfl, ?_⟩) hHeld ?_ ?_
            rotate_left
            ·rintro w' ⟨s0, s1, s2, s3, s4, s5⟩
             go_simp
             with_reducible rfl
            rotate_left
            ·simp only [Act.put, sA_, sZ_, sS_, i64_w, i32_w]
             rfl
            refine one_ (i := 10) (N := some 182) (bs 12 2047) rfl rfl (one_of HT_.out (by kernel_rfl)) (by decide) (fun K hK => ?_)
            refine goes_ Try.func34 (by kernel_rfl) rfl #[.slice A302_0 (rd_L2 t294 x21_2).length c302_0, .slice A303_0 (rd_L2 x272001_1 x21_2).length c303_0] (by rfl) rfl rfl ml_ ?_
            with_reducible refine (laws_sameInts.calls k2 _ _ (rd_L2 t294 x21_2) _ _ (rd_L2 x272001_1 x21_2) true _ ?side1 ?side2 ?side3 ?side4 A118.out).mono ?_
            (case side1 => repeat (first | exact (by repeat (first | (with_reducible exact HR302_0.out) | (with_reducible refine Kd.C_alloc ?_ _) | (with_reducible refine Kd.C_drewN ?_ _) | (with_reducible refine Kd.C_drew ?_) | exact HR302_0.out)) | (with_reducible refine Kd.C_alloc ?_ _) | (with_reducible refine Kd.C_drewN ?_ _) | (with_reducible refine Kd.C_drew ?_)))
            (case side2 => exact HC302_0.out)
            (case side3 => repeat (first | exact (by repeat (first | (with_reducible exact HR303_0.out) | (with_reducible refine Kd.C_alloc ?_ _) | (with_reducible refine Kd.C_drewN ?_ _) | (with_reducible refine Kd.C_drew ?_) | exact HR303_0.out)) | (with_reducible refine Kd.C_alloc ?_ _) | (with_reducible refine Kd.C_drewN ?_ _) | (with_reducible refine Kd.C_drew ?_)))
            (case side4 => exact HC303_0.out)
            rintro e w' ⟨rfl, ⟨nd, rfl⟩⟩
            refine ⟨_, rfl, ?_⟩
            refine hK.out _ _ ⟨(blk_cell BK301.out 0).trans rfl, (blk_cell BK301.out 1).trans rfl, (blk_cell BK271.out 0).trans rfl, (blk_cell BK271.out 1).trans rfl, hHeld.2.2.2.2.1, hHeld.2.2.2.2.2⟩ (fun hHeld => ?_)
            clear hK K
            refine norm_ (a' := ?_) ?_ ?_
            rotate_left
            ·show Act.put _ (some 182) _ = _
             simp only [Act.put, sA_, sZ_, sS_, i64_w, i32_w]
             rfl
            refine pu_ 11 183 HT_ (bs 12 4095) rfl rfl ?_
            refine done_ (done_of HT_.out (by kernel_rfl)) ?_
            try go_wp2
            go_roundg k2
            case measure => have := HK1.out; have := HK2.out; omega
            case rel => exact ⟨(wrap64 (x21_2 + 1)), (by first | rfl | (simp; done) | (simp [*]; done) | (simp [wrap64]; done)), H', ⟨by have := HK1.out; have := HK2.out; omega⟩, ⟨by (with_reducible repeat (first | apply Kd.R_alloc | apply Kd.R_drewN | apply Kd.R_drew)); exact HO_4.out⟩, ⟨by (with_reducible repeat (first | apply Kd.R_alloc | apply Kd.R_drewN | apply Kd.R_drew)); exact HO_19.out⟩, ⟨by (with_reducible repeat (first | apply Kd.S_alloc | apply Kd.S_drewN | apply Kd.S_drew)); exact HO_271001.out⟩, ⟨by (with_reducible repeat (first | apply Kd.S_alloc | apply Kd.S_drewN | apply Kd.S_drew)); exact HO_272001.out⟩, ⟨by (with_reducible repeat (first | apply Kd.S_alloc | apply Kd.S_drewN | apply Kd.S_drew)); exact HO_302001.out⟩, ⟨by refine rp_ ?_; exact BK270.out⟩, ⟨by refine rp_ ?_; exact BK271.out⟩, ⟨by refine rp_ ?_; exact BK301.out⟩, ⟨bel_ HB.out⟩⟩
           ·replace c119 := Bool.eq_false_iff.mpr c119
            subst c119
            have H1 : (some false) = some r := by rw [if_neg (show ¬ (false = true) by decide)] at H; exact H
            clear H
            have H := H1
            clear H1
            obtain rfl := Option.some.inj H
            have hnb124 := NB271_270.out
            have hnc124 := NB270_271.out
            have hnb125 := NB271_301.out
            have hnc125 := NB301_271.out
            have hcz126_0 : wr.cell? ⟨gb271, 0, none⟩ = some (.int .i64 x272000_1) := (blk_cell BK271.out 0).trans rfl
            have hcz126_1 : wr.cell? ⟨gb271, 1, none⟩ = some (.slice Ao114 x272001_1.length co114) := (blk_cell BK271.out 1).trans rfl
            have hfz126_0 := blk_frozen BK271.out 0
            have hfz126_1 := blk_frozen BK271.out 1
            try go_wp2
            have n0_ := Aside0.mk (Kd.R_drew HO_4.out)
            have n1_ := Aside0.mk (Kd.R_drew HO_19.out)
            have n2_ := Aside0.mk (Kd.S_drew HO_271001.out)
            have n3_ := Aside0.mk (Kd.S_drew HO_272001.out)
            have n4_ := Aside0.mk (Kd.S_drew HO_302001.out)
            have n5_ := Aside0.mk (blk_drew BK270.out)
            have n6_ := Aside0.mk (blk_drew BK271.out)
            have n7_ := Aside0.mk (blk_drew BK301.out)
            have n8_ := Aside0.mk (below_drew1 HB.out)
            clear HO_4
            clear HO_19
            clear HO_271001
            clear HO_272001
            clear HO_302001
            clear BK270
            clear BK271
            clear BK301
            clear HB
            have HO_4 := n0_
            have HO_19 := n1_
            have HO_271001 := n2_
            have HO_272001 := n3_
            have HO_302001 := n4_
            have BK270 := n5_
            have BK271 := n6_
            have BK301 := n7_
            have HB := n8_
            clear n0_ n1_ n2_ n3_ n4_ n5_ n6_ n7_ n8_
            have p302 : 0 ≤ (x21_2 : Int) := of_decide_eq_true (by first | (with_reducible assumption) | assumption)
            have q302 : x21_2 < (t294.length : Int) := of_decide_eq_true (by first | (with_reducible assumption) | assumption)
            obtain ⟨ad302, A302_0, c302_0, e302, hx302_0, hl302_0, hi302_0⟩ := at_L2 (Kd.S_reads' HO_302001.out).2.2 x21_2 p302 q302
            cases e302
            obtain ⟨ce302, hce302, hMe302, hcc302⟩ := Kd.S_get HO_302001.out [] x21_2 p302 (by first | exact q302 | exact of_decide_eq_true (by first | (with_reducible assumption) | assumption) | (have e_ := (Kd.S_reads' HO_302001.out).1; omega))
            obtain ⟨ve302_0, rfl, ge302_0⟩ := hMe302
            have hv302_0 := hcc302 0 _ rfl
            rw [Nat.add_zero, show ((Kd.slice 3 (Kd.int .i64))).sz = 1 from rfl, Nat.mul_one] at hv302_0
            replace hv302_0 := Option.some.inj (hv302_0.symm.trans hx302_0)
            rw [hv302_0] at ge302_0
            have HL302_0 := Aside0.mk (show Kd.R (Kd.int .i64) 3 _ _ _ _ (rd_L2 t294 x21_2) from ge302_0)
            clear hv302_0 ge302_0
            clear hcc302 hce302
            have HR302_0 := Aside0.mk hi302_0
            have HC302_0 := Aside0.mk hl302_0
            clear hi302_0 hl302_0
            replace p302 := eq_true p302
            replace q302 := eq_true q302
            have p303 : 0 ≤ (x21_2 : Int) := of_decide_eq_true (by first | (with_reducible assumption) | assumption)
            have q303 : x21_2 < (x272001_1.length : Int) := of_decide_eq_true (by first | (with_reducible assumption) | assumption)
            obtain ⟨ad303, A303_0, c303_0, e303, hx303_0, hl303_0, hi303_0⟩ := at_L2 (Kd.S_reads' HO_272001.out).2.2 x21_2 p303 q303
            cases e303
            obtain ⟨ce303, hce303, hMe303, hcc303⟩ := Kd.S_get HO_272001.out [] x21_2 p303 (by first | exact q303 | exact of_decide_eq_true (by first | (with_reducible assumption) | assumption) | (have e_ := (Kd.S_reads' HO_272001.out).1; omega))
            obtain ⟨ve303_0, rfl, ge303_0⟩ := hMe303
            have hv303_0 := hcc303 0 _ rfl
            rw [Nat.add_zero, show ((Kd.slice 3 (Kd.int .i64))).sz = 1 from rfl, Nat.mul_one] at hv303_0
            replace hv303_0 := Option.some.inj (hv303_0.symm.trans hx303_0)
            rw [hv303_0] at ge303_0
            have HL303_0 := Aside0.mk (show Kd.R (Kd.int .i64) 3 _ _ _ _ (rd_L2 x272001_1 x21_2) from ge303_0)
            clear hv303_0 ge303_0
            clear hcc303 hce303
            have HR303_0 := Aside0.mk hi303_0
            have HC303_0 := Aside0.mk hl303_0
            clear hi303_0 hl303_0
            replace p303 := eq_true p303
            replace q303 := eq_true q303
            refine start_ (n := 12) (S := fun w' => w'.cell? ⟨gb301, 0, none⟩ = some (.int .i64 t293) ∧ w'.cell? ⟨gb301, 1, none⟩ = some (.slice (some ad302) t294.length co112) ∧ w'.cell? ⟨gb271, 0, none⟩ = some (.int .i64 x272000_1) ∧ w'.cell? ⟨gb271, 1, none⟩ = some (.slice (some ad303) x272001_1.length co114) ∧ w'.cell? (ad302.add (x21_2).toNat) = some (.slice A302_0 (rd_L2 t294 x21_2).length c302_0) ∧ w'.cell? (ad303.add (x21_2).toNat) = some (.slice A303_0 (rd_L2 x272001_1 x21_2).length c303_0)) (ds := []) (bs 12 0) (by kernel_rfl) rfl rfl ⟨(blk_cell BK301.out 0).trans rfl, (blk_cell BK301.out 1).trans rfl, (blk_cell BK271.out 0).trans rfl, (blk_cell BK271.out 1).trans rfl, hx302_0, hx303_0⟩ (fun hHeld => ?_); refine with_tabW laws_FnYard.tab40 laws_FnYard.bits40 (fun HT_ HW_ => ?_)
            generalize wr.drew = w127 at HO_4 HO_19 HO_271001 HO_272001 HO_302001 BK270 BK271 BK301 HB HL302_0 HL303_0 HR302_0 HR303_0 hx302_0 hx303_0 hHeld ⊢
            refine pu_ 0 172 HT_ (bs 12 1) rfl rfl ?_
            refine pu_ 2 174 HT_ (bs 12 5) rfl rfl ?_
            refine pu_ 5 177 HT_ (bs 12 37) rfl rfl ?_
            refine pu_ 7 179 HT_ (bs 12 165) rfl rfl ?_
            refine take_ (i := 1) (N := some 173) (v := ?_) (a' := ?_) (bs 12 167) rfl rfl (take_ofW HT_.out HW_.out (by kernel_rfl)) (fun _ _ _ h => h) (Or.inl ⟨by rfl, ?_⟩) hHeld ?_ ?_
            rotate_left
            ·rintro w' ⟨s0, s1, s2, s3, s4, s5⟩
             go_simp
             with_reducible rfl
            rotate_left
            ·simp only [Act.put, sA_, sZ_, sS_, i64_w, i32_w]
             rfl
            refine pu_ 3 175 HT_ (bs 12 175) rfl rfl ?_
            refine take_ (i := 4) (N := some 176) (v := ?_) (a' := ?_) (bs 12 191) rfl rfl (take_ofW HT_.out HW_.out (by kernel_rfl)) (fun _ _ _ h => h) (Or.inl ⟨by rfl, ?_⟩) hHeld ?_ ?_
            rotate_left
            ·rintro w' ⟨s0, s1, s2, s3, s4, s5⟩
             go_simp
             with_reducible rfl
            rotate_left
            ·simp only [Act.put, sA_, sZ_, sS_, i64_w, i32_w]
             rfl
            refine take_ (i := 6) (N := some 178) (v := ?_) (a' := ?_) (bs 12 255) rfl rfl (take_ofW HT_.out HW_.out (by kernel_rfl)) (fun _ _ _ h => h) (Or.inl ⟨by rfl, ?_⟩) hHeld ?_ ?_
            rotate_left
            ·rintro w' ⟨s0, s1, s2, s3, s4, s5⟩
             go_simp
             with_reducible rfl
            rotate_left
            ·simp only [Act.put, sA_, sZ_, sS_, i64_w, i32_w]
             rfl
            refine pu_ 8 180 HT_ (bs 12 511) rfl rfl ?_
            refine take_ (i := 9) (N := some 181) (v := ?_) (a' := ?_) (bs 12 1023) rfl rfl (take_ofW HT_.out HW_.out (by kernel_rfl)) (fun _ _ _ h => h) (Or.inl ⟨by rfl, ?_⟩) hHeld ?_ ?_
            rotate_left
            ·rintro w' ⟨s0, s1, s2, s3, s4, s5⟩
             go_simp
             with_reducible rfl
            rotate_left
            ·simp only [Act.put, sA_, sZ_, sS_, i64_w, i32_w]
             rfl
            refine one_ (i := 10) (N := some 182) (bs 12 2047) rfl rfl (one_of HT_.out (by kernel_rfl)) (by decide) (fun K hK => ?_)
            refine goes_ Try.func34 (by kernel_rfl) rfl #[.slice A302_0 (rd_L2 t294 x21_2).length c302_0, .slice A303_0 (rd_L2 x272001_1 x21_2).length c303_0] (by rfl) rfl rfl ml_ ?_
            with_reducible refine (laws_sameInts.calls k2 _ _ (rd_L2 t294 x21_2) _ _ (rd_L2 x272001_1 x21_2) false _ ?side1 ?side2 ?side3 ?side4 A118.out).mono ?_
            (case side1 => repeat (first | exact (by repeat (first | (with_reducible exact HR302_0.out) | (with_reducible refine Kd.C_alloc ?_ _) | (with_reducible refine Kd.C_drewN ?_ _) | (with_reducible refine Kd.C_drew ?_) | exact HR302_0.out)) | (with_reducible refine Kd.C_alloc ?_ _) | (with_reducible refine Kd.C_drewN ?_ _) | (with_reducible refine Kd.C_drew ?_)))
            (case side2 => exact HC302_0.out)
            (case side3 => repeat (first | exact (by repeat (first | (with_reducible exact HR303_0.out) | (with_reducible refine Kd.C_alloc ?_ _) | (with_reducible refine Kd.C_drewN ?_ _) | (with_reducible refine Kd.C_drew ?_) | exact HR303_0.out)) | (with_reducible refine Kd.C_alloc ?_ _) | (with_reducible refine Kd.C_drewN ?_ _) | (with_reducible refine Kd.C_drew ?_)))
            (case side4 => exact HC303_0.out)
            rintro e w' ⟨rfl, ⟨nd, rfl⟩⟩
            refine ⟨_, rfl, ?_⟩
            refine hK.out _ _ ⟨(blk_cell BK301.out 0).trans rfl, (blk_cell BK301.out 1).trans rfl, (blk_cell BK271.out 0).trans rfl, (blk_cell BK271.out 1).trans rfl, hHeld.2.2.2.2.1, hHeld.2.2.2.2.2⟩ (fun hHeld => ?_)
            clear hK K
            refine norm_ (a' := ?_) ?_ ?_
            rotate_left
            ·show Act.put _ (some 182) _ = _
             simp only [Act.put, sA_, sZ_, sS_, i64_w, i32_w]
             rfl
            refine pu_ 11 183 HT_ (bs 12 4095) rfl rfl ?_
            refine done_ (done_of HT_.out (by kernel_rfl)) ?_
            try go_wp2
            go_ret
            exact ⟨by first | rfl | (simp [errW_none, errW_some] <;> rfl) | (simp [*, errW_none, errW_some] <;> rfl), bel_ HB.out⟩
          ·rw [if_neg c117] at H
           exact absurd H (by simp)
         ·rw [if_neg c116] at H
          exact absurd H (by simp)
        ·rw [if_neg c115] at H
         have c115b0 : decide (x21_2 < (x272001_1.length : Int)) = false := decide_eq_false c115
         clear c115
         obtain rfl := Option.some.inj H
         have hnb128 := NB271_270.out
         have hnc128 := NB270_271.out
         have hnb129 := NB271_301.out
         have hnc129 := NB301_271.out
         have hcz130_0 : wr.cell? ⟨gb271, 0, none⟩ = some (.int .i64 x272000_1) := (blk_cell BK271.out 0).trans rfl
         have hcz130_1 : wr.cell? ⟨gb271, 1, none⟩ = some (.slice Ao114 x272001_1.length co114) := (blk_cell BK271.out 1).trans rfl
         have hfz130_0 := blk_frozen BK271.out 0
         have hfz130_1 := blk_frozen BK271.out 1
         obtain ⟨Ao131, co131, eo131⟩ := Kd.R_slice HO_19.out
         subst eo131
         go_wp2
         go_ret
         exact ⟨by first | rfl | (simp [errW_none, errW_some] <;> rfl) | (simp [*, errW_none, errW_some] <;> rfl), bel_ HB.out⟩
     ·rw [if_neg c103] at H
      have c103b0 : ((t294.length : Int) == (x272001_1.length : Int)) = false := beq_eq_false_iff_ne.mpr c103
      have c103b1 : ((t294.length : Int) != (x272001_1.length : Int)) = true := bne_iff_ne.mpr c103
      have c103b2 : (t294.length == x272001_1.length) = false := by first | simpa using c103 | (simp at c103 ⊢; omega)
      obtain rfl := Option.some.inj H
      obtain ⟨Ao132, co132, eo132⟩ := Kd.R_slice HO_4.out
      subst eo132
      have hnb133 := NB270_271.out
      have hnc133 := NB271_270.out
      have hcz134_0 : wr.cell? ⟨gb270, 0, none⟩ = some (.int .i64 t263) := (blk_cell BK270.out 0).trans rfl
      have hcz134_1 : wr.cell? ⟨gb270, 1, none⟩ = some (.slice Ao8 t264.length co8) := (blk_cell BK270.out 1).trans rfl
      have hfz134_0 := blk_frozen BK270.out 0
      have hfz134_1 := blk_frozen BK270.out 1
      go_wp2_with (first | ((with_reducible refine gate_callee (f := 33) rfl ?_); refine goesL_ (some 154) rfl rfl Try.func33 (by kernel_rfl) rfl #[.agg #[.int .i64 t263, .slice Ao8 t264.length co8], .slice Ao132 t267.length co132] rfl ml_ ?_; (with_reducible refine (impl_RunYard.calls k1 t263 _ _ t264 _ _ t267 t293 t294 t297 t300 _ ?side1 ?side2 ?side3 ?side4 A102.out).mono ?_); (case side1 => repeat (first | exact (Kd.S_reads' HO_271001.out).2.2 | (with_reducible refine Kd.C_alloc ?_ _) | (with_reducible refine Kd.C_drewN ?_ _) | (with_reducible refine Kd.C_drew ?_))); (case side2 => exact (Kd.S_reads' HO_271001.out).2.1); (case side3 => exact rc_ (Kd.R_reads' HO_4.out).2.2); (case side4 => exact (Kd.R_reads' HO_4.out).2.1); rintro e w135 ⟨v295, v298, rfl, ho0, ho1, hb⟩; refine ⟨_, rfl, ?_⟩; have n0_ := Aside0.mk (Kd.R_below (fr_ HO_4.out) hb); have n1_ := Aside0.mk (Kd.S_mono (Kd.S_told (Kd.S_told (Kd.S_old (by (with_reducible repeat (first | apply Kd.S_alloc | apply Kd.S_drewN | apply Kd.S_drew)); exact HO_271001.out) hb) (Kd.S_base ho0)) (Kd.R_base ho1)) (fun _ h_ => h_.1)); have n2_ := Aside0.mk (Kd.S_mono (Kd.S_told (Kd.S_told (Kd.S_old (by (with_reducible repeat (first | apply Kd.S_alloc | apply Kd.S_drewN | apply Kd.S_drew)); exact HO_272001.out) hb) (Kd.S_base ho0)) (Kd.R_base ho1)) (fun _ h_ => h_.1)); have n3_ := Aside0.mk (Kd.S_lower (Kd.S_new' (Kd.S_new' ho0 (Kd.S_lt (by (with_reducible repeat (first | apply Kd.S_alloc | apply Kd.S_drewN | apply Kd.S_drew)); exact HO_271001.out))) (Kd.S_lt (by (with_reducible repeat (first | apply Kd.S_alloc | apply Kd.S_drewN | apply Kd.S_drew)); exact HO_272001.out))) (below_size (bel_ HB.out))); have n4_ := Aside0.mk (Kd.R_lower ho1 (below_size (bel_ HB.out))); have n5_ := Aside0.mk (bb_ BK270.out hb); have n6_ := Aside0.mk (bb_ BK271.out hb); have n7_ := Aside0.mk (below_step (bel_ HB.out) hb); clear HO_4; clear HO_271001; clear HO_272001; clear BK270; clear BK271; clear HB; have HO_4 := n0_; have HO_271001 := n1_; have HO_272001 := n2_; have HO296 := n3_; have HO299 := n4_; have BK270 := n5_; have BK271 := n6_; have HB := n7_; clear n0_ n1_ n2_ n3_ n4_ n5_ n6_ n7_; (try clear hb); (try clear hb2); (try clear hk); (try clear hi); (try clear ho0); (try clear ho1)) | ((with_reducible refine gate_dst (N := 18) rfl ?_); (try (refine gate_guard (by rfl) ?_; dsimp only)); refine box_event ?hg (N := 18) ?hd (cs := #[.int .i64 0, .slice none 0 0]) (t := 69) ?hr ?_; (case hd => rfl); (case hg => rfl); (case hr => first | (go_simp; done) | (go_simp; rfl)); intro gb301 hg w136 hbox hb; have n0_ := Aside0.mk (Kd.R_below (fr_ HO_4.out) hb); have n1_ := Aside0.mk (Kd.S_below (by (with_reducible repeat (first | apply Kd.S_alloc | apply Kd.S_drewN | apply Kd.S_drew)); exact HO_271001.out) hb); have n2_ := Aside0.mk (Kd.S_below (by (with_reducible repeat (first | apply Kd.S_alloc | apply Kd.S_drewN | apply Kd.S_drew)); exact HO_272001.out) hb); have n3_ := Aside0.mk (Kd.S_below (by (with_reducible repeat (first | apply Kd.S_alloc | apply Kd.S_drewN | apply Kd.S_drew)); exact HO296.out) hb); have n4_ := Aside0.mk (Kd.R_below (fr_ HO299.out) hb); have n5_ := Aside0.mk (bb_ BK270.out hb); have n6_ := Aside0.mk (bb_ BK271.out hb); have n7_ := Aside0.mk (below_step (bel_ HB.out) hb); have n8_ := Aside0.mk (hbox); have n9_ := Aside0.mk ((by rw [hg]; exact (below_size (bel_ HB.out)) : w.heap.size ≤ gb301)); have n10_ := Aside0.mk ((by rw [hg]; exact (below_size (bel_ HB.out)) : w.heap.size ≤ gb301)); have n11_ := Aside0.mk (nl_ BK270.out hg); have n12_ := Aside0.mk (ng_ BK270.out hg); have n13_ := Aside0.mk (nl_ BK271.out hg); have n14_ := Aside0.mk (ng_ BK271.out hg); clear HO_4; clear HO_271001; clear HO_272001; clear HO296; clear HO299; clear BK270; clear BK271; clear HB; have HO_4 := n0_; have HO_271001 := n1_; have HO_272001 := n2_; have HO296 := n3_; have HO299 := n4_; have BK270 := n5_; have BK271 := n6_; have HB := n7_; have BK301 := n8_; have GW301 := n9_; have GE301 := n10_; have NB270_301 := n11_; have NB301_270 := n12_; have NB271_301 := n13_; have NB301_271 := n14_; clear n0_ n1_ n2_ n3_ n4_ n5_ n6_ n7_ n8_ n9_ n10_ n11_ n12_ n13_ n14_; clear hb hbox hg; have hnb137 := NB301_270.out; have hnc137 := NB270_301.out; have hnb138 := NB301_271.out; have hnc138 := NB271_301.out; have hcz139_0 : w136.cell? ⟨gb301, 0, none⟩ = some (.int .i64 0) := (blk_cell BK301.out 0).trans rfl; have hcz139_1 : w136.cell? ⟨gb301, 1, none⟩ = some (.slice none 0 0) := (blk_cell BK301.out 1).trans rfl; have hfz139_0 := blk_frozen BK301.out 0; have hfz139_1 := blk_frozen BK301.out 1; obtain ⟨Ao140, co140, eo140⟩ := Kd.S_slice HO296.out; subst eo140; have hcz141_0 : w136.cell? ⟨gb271, 0, none⟩ = some (.int .i64 x272000_1) := (blk_cell BK271.out 0).trans rfl; have hcz141_1 : w136.cell? ⟨gb271, 1, none⟩ = some (u272001) := (blk_cell BK271.out 1).trans rfl; have hfz141_0 := blk_frozen BK271.out 0; have hfz141_1 := blk_frozen BK271.out 1; obtain ⟨Ao142, co142, eo142⟩ := Kd.S_slice HO_272001.out; subst eo142))
      go_ret
      exact ⟨by first | rfl | (simp [errW_none, errW_some] <;> rfl) | (simp [*, errW_none, errW_some] <;> rfl), bel_ HB.out⟩

/-- THE ONE PURE STATEMENT of laws_FnYard: yours. -/
def laws_FnYard.Pure : Prop := ∀ (l0 : List Int), l0.length ≤ maxLen → l0.length * 1 ≤ 140737488351232 → (∀ x ∈ l0, (Lit.int .u8 x).wf = true) → ∃ k, laws_FnYard.f k l0 = some true
theorem laws_FnYard.walk (P : laws_FnYard.Pure) (a0 : Option Addr) (len0 cap0 : Nat) (z0 : List Int) (w : World) (w0 : (a0 = none ∧ len0 = 0 ∧ cap0 = 0 ∧ z0 = []) ∨ ∃ x, a0 = some x ∧ len0 ≤ cap0 ∧ cap0 ≤ maxLen ∧ z0.length = cap0 ∧ (∀ i, i < z0.length → w.cell? (x.add i) = some (.int .u8 (z0.getD i 0))) ∧ ∀ n ∈ z0, (Lit.int .u8 n).wf = true) (y0 : len0 * 1 ≤ 140737488351232) :
  Calls Try.prog 7 #[.slice a0 len0 cap0] w fun e w' => e = .returned (.bool true) ∧ Below w.heap.size w w' := by
 obtain ⟨l0, rfl, hr0, hm0, hw0, hc0⟩ := ReadsInt.ofRowC w0
 obtain ⟨k, h⟩ := P l0 hm0 y0 hw0
 refine (laws_FnYard.calls k _ _ l0 true w (Kd.C_of_reads (d := (0 : Int)) (h1 := fun _ => rfl) hr0) hc0 h).mono ?_
 rintro e w' ⟨rfl, hd⟩
 exact ⟨rfl, hd⟩

end Go.Proofs.Ytlphfhibnbhkfaa.PFnYard
