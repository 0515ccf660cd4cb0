/- The Lean side of Go functions of this seat: what each answers, and that its run comes to that answer; written by a program of this work. -/
import Derived.Test.YtacekdgajpaomaaPFnDelaysx0
import Derived.Test.YtacekdgajpaomaaPFnDelaysx1
import Derived.Test.YtacekdgajpaomaaPFnDelaysx2
import Derived.Test.YtacekdgajpaomaaPFnDelaysx4
import Derived.Test.YtacekdgajpaomaaPFnDelaysx5
import Derived.Test.YtacekdgajpaomaaPFnDelaysx6
import Derived.Test.YtacekdgajpaomaaPFnDelaysx8
namespace Go.Proofs.Ytacekdgajpaomaa.PFnDelays
open Go.RowKit Go.Proofs.YtacekdgajpaomaaW.PrintWords Go.Proofs.YtacekdgajpaomaaW.PrintLast Go.Proofs.YtacekdgajpaomaaW.PrintMore
attribute [local go_sem] max2_int min2_int max_two min_two max_three min_three max_four min_four   -- for this text's walks alone
set_option linter.unusedVariables false
set_option linter.unusedSimpArgs false

attribute [local go_sem high] eqA31
/-! ### laws_FnDelays: function 3 -/
mutual
def laws_FnDelays.j0 : Nat → List Int → List (S31) → Int → List (S31) → Bool → Option (Bool)
 | 0, _, _, _, _, _ => none
 | k + 1, x0, x3, x6, x7, x82 => if x82 = true then (some false) else (laws_FnDelays.l0 k x0 x3 x6 x7 0)
def laws_FnDelays.l0 : Nat → List Int → List (S31) → Int → List (S31) → Int → Option (Bool)
 | 0, _, _, _, _, _ => none
 | k + 1, x0, x3, x6, x7, x9 => if x9 < (x7.length : Int) then (if 0 ≤ x9 then (if x9 < (x3.length : Int) then (if ((rd_T31 x7 x9).f3) < ((rd_T31 x3 x9).f3) then (some false) else (if (wrap64 (((rd_T31 x7 x9).f4) - ((rd_T31 x3 x9).f4))) = (wrap64 (((rd_T31 x7 x9).f3) - ((rd_T31 x3 x9).f3))) then (if x9 < x6 then (if (!(((rd_T31 x7 x9).f0) == ((rd_T31 x3 x9).f0)) || (!(((rd_T31 x7 x9).f1) == ((rd_T31 x3 x9).f1)) || (!(((rd_T31 x7 x9).f2) == ((rd_T31 x3 x9).f2)) || (!(((rd_T31 x7 x9).f3) == ((rd_T31 x3 x9).f3)) || (!(((rd_T31 x7 x9).f4) == ((rd_T31 x3 x9).f4)) || (!(((rd_T31 x7 x9).f5) == ((rd_T31 x3 x9).f5)))))))) = true then (some false) else (laws_FnDelays.l0 k x0 x3 x6 x7 (wrap64 (x9 + 1)))) else (if 0 ≤ x6 then (if x6 < (x3.length : Int) then (if ((rd_T31 x3 x9).f0) = ((rd_T31 x3 x6).f0) then (laws_FnDelays.l0 k x0 x3 x6 x7 (wrap64 (x9 + 1))) else (if (!(((rd_T31 x7 x9).f0) == ((rd_T31 x3 x9).f0)) || (!(((rd_T31 x7 x9).f1) == ((rd_T31 x3 x9).f1)) || (!(((rd_T31 x7 x9).f2) == ((rd_T31 x3 x9).f2)) || (!(((rd_T31 x7 x9).f3) == ((rd_T31 x3 x9).f3)) || (!(((rd_T31 x7 x9).f4) == ((rd_T31 x3 x9).f4)) || (!(((rd_T31 x7 x9).f5) == ((rd_T31 x3 x9).f5)))))))) = true then (some false) else (laws_FnDelays.l0 k x0 x3 x6 x7 (wrap64 (x9 + 1))))) else (none)) else (none))) else (some false))) else (none)) else (none)) else ((impl_Missed.f k x3 x7 0).bind fun bt275 => ((impl_Missed.f k x3 x3 0).bind fun bt279 => (if bt275.2 = true then (if bt279.2 = true then (if (bt279.1.length : Int) = 0 then ((laws_at.f x0 2).bind fun t283 => (if t283 = 0 then ((laws_at.f x0 3).bind fun t284 => (if (Int.tmod t284 20) = 0 then (laws_FnDelays.j2 k x0 x3 x6 ((bt275.1.length : Int) != 0)) else (laws_FnDelays.j2 k x0 x3 x6 false))) else (laws_FnDelays.j2 k x0 x3 x6 false))) else (laws_FnDelays.j2 k x0 x3 x6 true)) else (laws_FnDelays.j2 k x0 x3 x6 true)) else (laws_FnDelays.j2 k x0 x3 x6 true))))
def laws_FnDelays.j2 : Nat → List Int → List (S31) → Int → Bool → Option (Bool)
 | 0, _, _, _, _ => none
 | k + 1, x0, x3, x6, x192 => if x192 = true then (some false) else ((laws_at.f x0 4).bind fun t285 => ((impl_Load22.f k x3 (([x6] : List Int)) (wrap64 (1 + (Int.tmod t285 10)))).bind fun bt289 => (if 0 ≤ x6 then (if x6 < (x3.length : Int) then (if ((rd_T31 x3 x6).f5) < (wrap64 (1 + (Int.tmod t285 10))) then (if bt289.2 = 3 then (if x6 < (bt289.1.length : Int) then (some (((rd_T31 bt289.1 x6).f5) == ((rd_T31 x3 x6).f5))) else (none)) else (some false)) else (laws_FnDelays.l1 k x3 x6 (wrap64 (1 + (Int.tmod t285 10))) bt289.1 bt289.2 0)) else (none)) else (none))))
def laws_FnDelays.l1 : Nat → List (S31) → Int → Int → List (S31) → Int → Int → Option (Bool)
 | 0, _, _, _, _, _, _ => none
 | k + 1, x3, x6, x14, x15, x16, x17 => if x17 < (x15.length : Int) then (if x17 = x6 then (laws_FnDelays.l1 k x3 x6 x14 x15 x16 (wrap64 (x17 + 1))) else (if 0 ≤ x17 then (if x17 < (x3.length : Int) then (if (!(((rd_T31 x15 x17).f0) == ((rd_T31 x3 x17).f0)) || (!(((rd_T31 x15 x17).f1) == ((rd_T31 x3 x17).f1)) || (!(((rd_T31 x15 x17).f2) == ((rd_T31 x3 x17).f2)) || (!(((rd_T31 x15 x17).f3) == ((rd_T31 x3 x17).f3)) || (!(((rd_T31 x15 x17).f4) == ((rd_T31 x3 x17).f4)) || (!(((rd_T31 x15 x17).f5) == ((rd_T31 x3 x17).f5)))))))) = true then (some false) else (laws_FnDelays.l1 k x3 x6 x14 x15 x16 (wrap64 (x17 + 1)))) else (none)) else (none))) else (if x16 = 0 then (if 0 ≤ x6 then (if x6 < (x15.length : Int) then (if x6 < (x3.length : Int) then (some (((rd_T31 x15 x6).f5) == (wrap64 (((rd_T31 x3 x6).f5) - x14)))) else (none)) else (none)) else (none)) else (some false))
end
def laws_FnDelays.f (k : Nat) (l0 : List Int) : Option (Bool) := (laws_big.f l0).bind fun t244 => (if t244 = true then (some true) else ((spec_DrawLegs.f k l0).bind fun t245 => (if (t245.length : Int) = 0 then ((impl_Delay.f k t245 0 1 1).bind fun bt248 => (if bt248.2 = true then (some false) else (some ((bt248.1.length : Int) == 0)))) else ((laws_at.f l0 1).bind fun t252 => ((laws_at.f l0 2).bind fun t253 => ((laws_at.f l0 3).bind fun t254 => ((impl_Delay.f k t245 (Int.tmod t252 (t245.length : Int)) t253 (Int.tmod t254 20)).bind fun bt255 => (if bt255.2 = true then (if (bt255.1.length : Int) = (t245.length : Int) then ((impl_LegsOk.f bt255.1).bind fun t259 => (if t259 = true then (if 0 ≤ (Int.tmod t252 (t245.length : Int)) then (if (Int.tmod t252 (t245.length : Int)) < (bt255.1.length : Int) then (if (Int.tmod t252 (t245.length : Int)) < (t245.length : Int) then ((laws_at.f l0 2).bind fun t262 => (laws_FnDelays.j0 k l0 t245 (Int.tmod t252 (t245.length : Int)) bt255.1 (((rd_T31 bt255.1 (Int.tmod t252 (t245.length : Int))).f3) != (wrap64 (((rd_T31 t245 (Int.tmod t252 (t245.length : Int))).f3) + t262))))) else (none)) else (none)) else (none)) else (laws_FnDelays.j0 k l0 t245 (Int.tmod t252 (t245.length : Int)) bt255.1 true))) else (laws_FnDelays.j0 k l0 t245 (Int.tmod t252 (t245.length : Int)) bt255.1 true)) else (laws_FnDelays.j0 k l0 t245 (Int.tmod t252 (t245.length : Int)) bt255.1 true)))))))))
theorem laws_FnDelays.mono_l : ∀ k, (∀ y0 y1 y2 y3 y4, LeO (laws_FnDelays.j0 k y0 y1 y2 y3 y4) (laws_FnDelays.j0 (k + 1) y0 y1 y2 y3 y4)) ∧ (∀ y0 y1 y2 y3 y4, LeO (laws_FnDelays.l0 k y0 y1 y2 y3 y4) (laws_FnDelays.l0 (k + 1) y0 y1 y2 y3 y4)) ∧ (∀ y0 y1 y2 y3, LeO (laws_FnDelays.j2 k y0 y1 y2 y3) (laws_FnDelays.j2 (k + 1) y0 y1 y2 y3)) ∧ (∀ y0 y1 y2 y3 y4 y5, LeO (laws_FnDelays.l1 k y0 y1 y2 y3 y4 y5) (laws_FnDelays.l1 (k + 1) y0 y1 y2 y3 y4 y5))
 | 0 => ⟨fun _ _ _ _ _ r h => by simp [laws_FnDelays.j0] at h, fun _ _ _ _ _ r h => by simp [laws_FnDelays.l0] at h, fun _ _ _ _ r h => by simp [laws_FnDelays.j2] at h, fun _ _ _ _ _ _ r h => by simp [laws_FnDelays.l1] at h⟩
 | k + 1 => by
  obtain ⟨ih0, ih1, ih2, ih3⟩ := laws_FnDelays.mono_l k
  refine ⟨?_, ?_, ?_, ?_⟩
  ·intro y0 y1 y2 y3 y4
   unfold laws_FnDelays.j0
   repeat' first
   | (with_reducible exact ih0 _ _ _ _ _)
   | (with_reducible exact ih1 _ _ _ _ _)
   | (with_reducible exact ih2 _ _ _ _)
   | (with_reducible exact ih3 _ _ _ _ _ _)
   | (with_reducible exact impl_Delay.mono _ _ _ _ _)
   | (with_reducible exact impl_Load22.mono _ _ _ _)
   | (with_reducible exact impl_Missed.mono _ _ _ _)
   | (with_reducible exact spec_DrawLegs.mono _ _)
   | (with_reducible exact LeO.refl _)
   | (with_reducible exact LeO.none _)
   | (with_reducible refine LeO.ite ?_ ?_)
   | (with_reducible refine LeO.bind ?_ (fun _ => ?_))
   | exact ih0 _ _ _ _ _
   | exact ih1 _ _ _ _ _
   | exact ih2 _ _ _ _
   | exact ih3 _ _ _ _ _ _
   | exact impl_Delay.mono _ _ _ _ _
   | exact impl_Load22.mono _ _ _ _
   | exact impl_Missed.mono _ _ _ _
   | exact spec_DrawLegs.mono _ _
   | exact LeO.none _
   | refine LeO.ite ?_ ?_
   | refine LeO.bind ?_ (fun _ => ?_)
  ·intro y0 y1 y2 y3 y4
   unfold laws_FnDelays.l0
   repeat' first
   | (with_reducible exact ih0 _ _ _ _ _)
   | (with_reducible exact ih1 _ _ _ _ _)
   | (with_reducible exact ih2 _ _ _ _)
   | (with_reducible exact ih3 _ _ _ _ _ _)
   | (with_reducible exact impl_Delay.mono _ _ _ _ _)
   | (with_reducible exact impl_Load22.mono _ _ _ _)
   | (with_reducible exact impl_Missed.mono _ _ _ _)
   | (with_reducible exact spec_DrawLegs.mono _ _)
   | (with_reducible exact LeO.refl _)
   | (with_reducible exact LeO.none _)
   | (with_reducible refine LeO.ite ?_ ?_)
   | (with_reducible refine LeO.bind ?_ (fun _ => ?_))
   | exact ih0 _ _ _ _ _
   | exact ih1 _ _ _ _ _
   | exact ih2 _ _ _ _
   | exact ih3 _ _ _ _ _ _
   | exact impl_Delay.mono _ _ _ _ _
   | exact impl_Load22.mono _ _ _ _
   | exact impl_Missed.mono _ _ _ _
   | exact spec_DrawLegs.mono _ _
   | exact LeO.none _
   | refine LeO.ite ?_ ?_
   | refine LeO.bind ?_ (fun _ => ?_)
  ·intro y0 y1 y2 y3
   unfold laws_FnDelays.j2
   repeat' first
   | (with_reducible exact ih0 _ _ _ _ _)
   | (with_reducible exact ih1 _ _ _ _ _)
   | (with_reducible exact ih2 _ _ _ _)
   | (with_reducible exact ih3 _ _ _ _ _ _)
   | (with_reducible exact impl_Delay.mono _ _ _ _ _)
   | (with_reducible exact impl_Load22.mono _ _ _ _)
   | (with_reducible exact impl_Missed.mono _ _ _ _)
   | (with_reducible exact spec_DrawLegs.mono _ _)
   | (with_reducible exact LeO.refl _)
   | (with_reducible exact LeO.none _)
   | (with_reducible refine LeO.ite ?_ ?_)
   | (with_reducible refine LeO.bind ?_ (fun _ => ?_))
   | exact ih0 _ _ _ _ _
   | exact ih1 _ _ _ _ _
   | exact ih2 _ _ _ _
   | exact ih3 _ _ _ _ _ _
   | exact impl_Delay.mono _ _ _ _ _
   | exact impl_Load22.mono _ _ _ _
   | exact impl_Missed.mono _ _ _ _
   | exact spec_DrawLegs.mono _ _
   | exact LeO.none _
   | refine LeO.ite ?_ ?_
   | refine LeO.bind ?_ (fun _ => ?_)
  ·intro y0 y1 y2 y3 y4 y5
   unfold laws_FnDelays.l1
   repeat' first
   | (with_reducible exact ih0 _ _ _ _ _)
   | (with_reducible exact ih1 _ _ _ _ _)
   | (with_reducible exact ih2 _ _ _ _)
   | (with_reducible exact ih3 _ _ _ _ _ _)
   | (with_reducible exact impl_Delay.mono _ _ _ _ _)
   | (with_reducible exact impl_Load22.mono _ _ _ _)
   | (with_reducible exact impl_Missed.mono _ _ _ _)
   | (with_reducible exact spec_DrawLegs.mono _ _)
   | (with_reducible exact LeO.refl _)
   | (with_reducible exact LeO.none _)
   | (with_reducible refine LeO.ite ?_ ?_)
   | (with_reducible refine LeO.bind ?_ (fun _ => ?_))
   | exact ih0 _ _ _ _ _
   | exact ih1 _ _ _ _ _
   | exact ih2 _ _ _ _
   | exact ih3 _ _ _ _ _ _
   | exact impl_Delay.mono _ _ _ _ _
   | exact impl_Load22.mono _ _ _ _
   | exact impl_Missed.mono _ _ _ _
   | exact spec_DrawLegs.mono _ _
   | exact LeO.none _
   | refine LeO.ite ?_ ?_
   | refine LeO.bind ?_ (fun _ => ?_)
theorem laws_FnDelays.mono : ∀ a0 k, LeO (laws_FnDelays.f k a0) (laws_FnDelays.f (k + 1) a0) := by
 intro a0 k
 obtain ⟨ih0, ih1, ih2, ih3⟩ := laws_FnDelays.mono_l k
 unfold laws_FnDelays.f
 repeat' first
   | (with_reducible exact ih0 _ _ _ _ _)
   | (with_reducible exact ih1 _ _ _ _ _)
   | (with_reducible exact ih2 _ _ _ _)
   | (with_reducible exact ih3 _ _ _ _ _ _)
   | (with_reducible exact impl_Delay.mono _ _ _ _ _)
   | (with_reducible exact impl_Load22.mono _ _ _ _)
   | (with_reducible exact impl_Missed.mono _ _ _ _)
   | (with_reducible exact spec_DrawLegs.mono _ _)
   | (with_reducible exact LeO.refl _)
   | (with_reducible exact LeO.none _)
   | (with_reducible refine LeO.ite ?_ ?_)
   | (with_reducible refine LeO.bind ?_ (fun _ => ?_))
   | exact ih0 _ _ _ _ _
   | exact ih1 _ _ _ _ _
   | exact ih2 _ _ _ _
   | exact ih3 _ _ _ _ _ _
   | exact impl_Delay.mono _ _ _ _ _
   | exact impl_Load22.mono _ _ _ _
   | exact impl_Missed.mono _ _ _ _
   | exact spec_DrawLegs.mono _ _
   | exact LeO.none _
   | refine LeO.ite ?_ ?_
   | refine LeO.bind ?_ (fun _ => ?_)
def laws_FnDelays.T9 : Bool × List (List Nat × List Nat) := (true, [([], []), ([0], [0]), ([1], [1]), ([2], [2]), ([3, 2], [2, 3]), ([2], [2]), ([5, 2], [2, 5]), ([4, 6, 2], [2, 4, 6]), ([2, 7], [2, 7]), ([8, 2], [8]), ([9], [9]), ([10, 9, 9], [9, 10]), ([11, 9], [9, 11]), ([9, 12], [9, 12]), ([13, 11], [13]), ([14], [14]), ([14], [14]), ([15, 16, 14], [14, 15, 16]), ([17, 14], [14, 17]), ([18, 14], [14, 18]), ([14], [14]), ([14], [14]), ([20, 21, 14], [14, 20, 21]), ([22, 14], [14, 22]), ([23, 14], [14, 23]), ([14], [14]), ([25, 14, 14], [14, 25]), ([24, 26, 14], [14, 24, 26]), ([19, 27, 14], [14, 19, 27]), ([14, 28], [14, 28])])
def laws_FnDelays.B9 : List Nat := [0, 1, 3, 7, 15, 7, 39, 127, 255, 511, 1023, 2047, 4095, 8191, 16383, 32767, 32767, 131071, 262143, 524287, 32767, 32767, 3178495, 7372799, 15761407, 32767, 33587199, 133201919, 268435455, 536870911]
theorem laws_FnDelays.tab9 : rtab .any (opsOf Try.f3 9) = laws_FnDelays.T9 := by kernel_rfl
theorem laws_FnDelays.bits9 : waitsOk laws_FnDelays.T9.2 laws_FnDelays.B9 = true := by kernel_rfl
def laws_FnDelays.T14 : Bool × List (List Nat × List Nat) := (true, [([], []), ([], []), ([0, 1], [0, 1]), ([2], [2]), ([3], [3]), ([], []), ([], []), ([5, 6], [5, 6]), ([7], [7]), ([8], [8]), ([4, 9], [4, 9]), ([10], [10]), ([11], [11]), ([11], [11]), ([12, 13, 11], [11, 12, 13]), ([14, 11], [11, 14]), ([15, 11], [11, 15]), ([11], [11]), ([11], [11]), ([17, 18, 11], [11, 17, 18]), ([19, 11], [11, 19]), ([20, 11], [11, 20]), ([16, 21, 11], [11, 16, 21]), ([11], [11]), ([11], [11]), ([23, 24, 11], [11, 23, 24]), ([25, 11], [11, 25]), ([26, 11], [11, 26]), ([11], [11]), ([11], [11]), ([28, 29, 11], [11, 28, 29]), ([30, 11], [11, 30]), ([31, 11], [11, 31]), ([27, 32, 11], [11, 27, 32]), ([22, 33, 11], [11, 22, 33]), ([11, 34], [11, 34]), ([35, 11], [35]), ([36], [36]), ([36], [36]), ([37, 38, 36], [36, 37, 38]), ([39, 36, 36], [36, 39]), ([40], [40]), ([40], [40]), ([41, 42, 40], [40, 41, 42]), ([43, 40], [40, 43]), ([44, 40], [40, 44]), ([40], [40]), ([40], [40]), ([46, 47, 40], [40, 46, 47]), ([48, 40], [40, 48]), ([49, 40], [40, 49]), ([45, 50, 40], [40, 45, 50]), ([40, 51, 36], [36, 40, 51]), ([52, 40, 36], [36, 52]), ([53], [53]), ([53], [53]), ([54, 55, 53], [53, 54, 55]), ([56, 53], [53, 56]), ([53], [53]), ([53], [53]), ([58, 59, 53], [53, 58, 59]), ([60, 53], [53, 60]), ([57, 61, 53], [53, 57, 61]), ([53, 62, 36], [36, 53, 62]), ([36, 63], [36, 63])])
def laws_FnDelays.B14 : List Nat := [0, 0, 3, 7, 15, 0, 0, 96, 224, 480, 1023, 2047, 4095, 4095, 16383, 32767, 65535, 4095, 4095, 397311, 921599, 1970175, 4194303, 4095, 4095, 25169919, 58724351, 125833215, 4095, 4095, 805310463, 1879052287, 4026535935, 8581550079, 17179869183, 34359738367, 68719476735, 137438953471, 137438953471, 549755813887, 1099511627775, 2199023255551, 2199023255551, 8796093022207, 17592186044415, 35184372088831, 2199023255551, 2199023255551, 213305255788543, 494780232499199, 1057730185920511, 2251799813685247, 4503599627370495, 9007199254740991, 18014398509481983, 18014398509481983, 72057594037927935, 144115188075855871, 18014398509481983, 18014398509481983, 882705526964617215, 2035627031571464191, 4611686018427387903, 9223372036854775807, 18446744073709551615]
theorem laws_FnDelays.tab14 : rtab .any (opsOf Try.f3 14) = laws_FnDelays.T14 := by kernel_rfl
theorem laws_FnDelays.bits14 : waitsOk laws_FnDelays.T14.2 laws_FnDelays.B14 = true := by kernel_rfl
def laws_FnDelays.T23 : Bool × List (List Nat × List Nat) := (true, [([], []), ([0], [0]), ([1], [1]), ([2], [2]), ([2], [2]), ([3, 4, 2], [2, 3, 4]), ([5, 2], [2, 5]), ([6, 2], [2, 6]), ([2], [2]), ([2], [2]), ([8, 9, 2], [2, 8, 9]), ([10, 2], [2, 10]), ([11, 2], [2, 11]), ([7, 12, 2], [2, 7, 12]), ([2, 13], [2, 13]), ([14, 2, 0, 1, 2, 3, 4, 5, 6, 7, 8, 9, 10, 11, 12, 13, 14], [14])])
def laws_FnDelays.B23 : List Nat := [0, 1, 3, 7, 7, 31, 63, 127, 7, 7, 775, 1799, 3847, 8191, 16383, 32767]
theorem laws_FnDelays.tab23 : rtab .any (opsOf Try.f3 23) = laws_FnDelays.T23 := by kernel_rfl
theorem laws_FnDelays.bits23 : waitsOk laws_FnDelays.T23.2 laws_FnDelays.B23 = true := by kernel_rfl
def laws_FnDelays.T27 : Bool × List (List Nat × List Nat) := (true, [([], []), ([], []), ([0, 1], [0, 1]), ([2], [2]), ([3], [3]), ([3], [3]), ([4, 5, 3], [3, 4, 5]), ([6, 3], [3, 6]), ([3], [3]), ([3], [3]), ([8, 9, 3], [3, 8, 9]), ([10, 3], [3, 10]), ([7, 11, 3], [3, 7, 11]), ([3, 12], [3, 12])])
def laws_FnDelays.B27 : List Nat := [0, 0, 3, 7, 15, 15, 63, 127, 15, 15, 783, 1807, 4095, 8191]
theorem laws_FnDelays.tab27 : rtab .any (opsOf Try.f3 27) = laws_FnDelays.T27 := by kernel_rfl
theorem laws_FnDelays.bits27 : waitsOk laws_FnDelays.T27.2 laws_FnDelays.B27 = true := by kernel_rfl
def laws_FnDelays.T29 : Bool × List (List Nat × List Nat) := (true, [([], []), ([0], [0]), ([1], [1]), ([2], [2]), ([2], [2]), ([3, 4, 2], [2, 3, 4]), ([5, 2], [2, 5]), ([6, 2], [2, 6]), ([2], [2]), ([2], [2]), ([8, 9, 2], [2, 8, 9]), ([10, 2], [2, 10]), ([11, 2], [2, 11]), ([2], [2]), ([12, 13, 2], [2, 12, 13]), ([7, 14, 2], [2, 7, 14]), ([2, 15], [2, 15]), ([16, 2, 0, 1, 2, 3, 4, 5, 6, 7, 8, 9, 10, 11, 12, 13, 14, 15, 16], [16])])
def laws_FnDelays.B29 : List Nat := [0, 1, 3, 7, 7, 31, 63, 127, 7, 7, 775, 1799, 3847, 7, 16135, 32767, 65535, 131071]
theorem laws_FnDelays.tab29 : rtab .any (opsOf Try.f3 29) = laws_FnDelays.T29 := by kernel_rfl
theorem laws_FnDelays.bits29 : waitsOk laws_FnDelays.T29.2 laws_FnDelays.B29 = true := by kernel_rfl
set_option maxHeartbeats 8000000 in
set_option maxRecDepth 100000 in
theorem laws_FnDelays.calls (k : Nat) (A0 : Option Addr) (c0 : Nat) (l0 : List Int) (r : Bool) (w : World) (hr0 : Kd.C (Kd.int .u8) w A0 l0.length l0) (hc0 : l0.length ≤ c0) (h : laws_FnDelays.f k l0 = some r) :
  Calls Try.prog 3 #[.slice A0 l0.length c0] w fun e w' => e = .returned (.bool r) ∧ Below w.heap.size w w' := by
 have hu31 := Try.underlying31
 have HR0 := Aside0.mk hr0
 have HC0 := Aside0.mk hc0
 clear hr0 hc0
 have HB := Aside0.mk (Below.refl w.heap.size w)
 have H : ((laws_big.f l0).bind fun t244 => (if t244 = true then (some true) else ((spec_DrawLegs.f k l0).bind fun t245 => (if (t245.length : Int) = 0 then ((impl_Delay.f k t245 0 1 1).bind fun bt248 => (if bt248.2 = true then (some false) else (some ((bt248.1.length : Int) == 0)))) else ((laws_at.f l0 1).bind fun t252 => ((laws_at.f l0 2).bind fun t253 => ((laws_at.f l0 3).bind fun t254 => ((impl_Delay.f k t245 (Int.tmod t252 (t245.length : Int)) t253 (Int.tmod t254 20)).bind fun bt255 => (if bt255.2 = true then (if (bt255.1.length : Int) = (t245.length : Int) then ((impl_LegsOk.f bt255.1).bind fun t259 => (if t259 = true then (if 0 ≤ (Int.tmod t252 (t245.length : Int)) then (if (Int.tmod t252 (t245.length : Int)) < (bt255.1.length : Int) then (if (Int.tmod t252 (t245.length : Int)) < (t245.length : Int) then ((laws_at.f l0 2).bind fun t262 => (laws_FnDelays.j0 k l0 t245 (Int.tmod t252 (t245.length : Int)) bt255.1 (((rd_T31 bt255.1 (Int.tmod t252 (t245.length : Int))).f3) != (wrap64 (((rd_T31 t245 (Int.tmod t252 (t245.length : Int))).f3) + t262))))) else (none)) else (none)) else (none)) else (laws_FnDelays.j0 k l0 t245 (Int.tmod t252 (t245.length : Int)) bt255.1 true))) else (laws_FnDelays.j0 k l0 t245 (Int.tmod t252 (t245.length : Int)) bt255.1 true)) else (laws_FnDelays.j0 k l0 t245 (Int.tmod t252 (t245.length : Int)) bt255.1 true)))))))))) = some r := h
 clear h
 replace H := Option.bind_eq_some_iff.mp H
 obtain ⟨t244, A20, H⟩ := H
 replace H : (if t244 = true then (some true) else ((spec_DrawLegs.f k l0).bind fun t245 => (if (t245.length : Int) = 0 then ((impl_Delay.f k t245 0 1 1).bind fun bt248 => (if bt248.2 = true then (some false) else (some ((bt248.1.length : Int) == 0)))) else ((laws_at.f l0 1).bind fun t252 => ((laws_at.f l0 2).bind fun t253 => ((laws_at.f l0 3).bind fun t254 => ((impl_Delay.f k t245 (Int.tmod t252 (t245.length : Int)) t253 (Int.tmod t254 20)).bind fun bt255 => (if bt255.2 = true then (if (bt255.1.length : Int) = (t245.length : Int) then ((impl_LegsOk.f bt255.1).bind fun t259 => (if t259 = true then (if 0 ≤ (Int.tmod t252 (t245.length : Int)) then (if (Int.tmod t252 (t245.length : Int)) < (bt255.1.length : Int) then (if (Int.tmod t252 (t245.length : Int)) < (t245.length : Int) then ((laws_at.f l0 2).bind fun t262 => (laws_FnDelays.j0 k l0 t245 (Int.tmod t252 (t245.length : Int)) bt255.1 (((rd_T31 bt255.1 (Int.tmod t252 (t245.length : Int))).f3) != (wrap64 (((rd_T31 t245 (Int.tmod t252 (t245.length : Int))).f3) + t262))))) else (none)) else (none)) else (none)) else (laws_FnDelays.j0 k l0 t245 (Int.tmod t252 (t245.length : Int)) bt255.1 true))) else (laws_FnDelays.j0 k l0 t245 (Int.tmod t252 (t245.length : Int)) bt255.1 true)) else (laws_FnDelays.j0 k l0 t245 (Int.tmod t252 (t245.length : Int)) bt255.1 true))))))))) = some r := H
 have A2 := Aside0.mk A20
 clear A20
 by_cases c3 : t244 = true
 ·subst c3
  have H1 : (some true) = some r := by rw [if_pos rfl] at H; exact H
  clear H
  have H := H1
  clear H1
  obtain rfl := Option.some.inj H
  go_enter Try.func3, Try.ntmps3
  go_wp2_with (first | ((with_reducible refine gate_callee (f := 8) rfl ?_); refine goesL_ (some 19) rfl rfl Try.func8 (by kernel_rfl) rfl #[.slice A0 l0.length c0] rfl ml_ ?_; (with_reducible refine (laws_big.calls _ _ l0 true _ ?side1 ?side2 A2.out).mono ?_); (case side1 => repeat (first | exact HR0.out | (with_reducible refine Kd.C_alloc ?_ _) | (with_reducible refine Kd.C_drewN ?_ _) | (with_reducible refine Kd.C_drew ?_))); (case side2 => exact HC0.out); rintro e w' ⟨rfl, ⟨nd, rfl⟩⟩; refine ⟨_, rfl, ?_⟩))
  go_ret
  exact ⟨by first | rfl | (simp [errW_none, errW_some] <;> rfl) | (simp [*, errW_none, errW_some] <;> rfl), bel_ HB.out⟩
 ·replace c3 := Bool.eq_false_iff.mpr c3
  subst c3
  have H1 : ((spec_DrawLegs.f k l0).bind fun t245 => (if (t245.length : Int) = 0 then ((impl_Delay.f k t245 0 1 1).bind fun bt248 => (if bt248.2 = true then (some false) else (some ((bt248.1.length : Int) == 0)))) else ((laws_at.f l0 1).bind fun t252 => ((laws_at.f l0 2).bind fun t253 => ((laws_at.f l0 3).bind fun t254 => ((impl_Delay.f k t245 (Int.tmod t252 (t245.length : Int)) t253 (Int.tmod t254 20)).bind fun bt255 => (if bt255.2 = true then (if (bt255.1.length : Int) = (t245.length : Int) then ((impl_LegsOk.f bt255.1).bind fun t259 => (if t259 = true then (if 0 ≤ (Int.tmod t252 (t245.length : Int)) then (if (Int.tmod t252 (t245.length : Int)) < (bt255.1.length : Int) then (if (Int.tmod t252 (t245.length : Int)) < (t245.length : Int) then ((laws_at.f l0 2).bind fun t262 => (laws_FnDelays.j0 k l0 t245 (Int.tmod t252 (t245.length : Int)) bt255.1 (((rd_T31 bt255.1 (Int.tmod t252 (t245.length : Int))).f3) != (wrap64 (((rd_T31 t245 (Int.tmod t252 (t245.length : Int))).f3) + t262))))) else (none)) else (none)) else (none)) else (laws_FnDelays.j0 k l0 t245 (Int.tmod t252 (t245.length : Int)) bt255.1 true))) else (laws_FnDelays.j0 k l0 t245 (Int.tmod t252 (t245.length : Int)) bt255.1 true)) else (laws_FnDelays.j0 k l0 t245 (Int.tmod t252 (t245.length : Int)) bt255.1 true)))))))) = some r := by rw [if_neg (show ¬ (false = true) by decide)] at H; exact H
  clear H
  have H := H1
  clear H1
  replace H := Option.bind_eq_some_iff.mp H
  obtain ⟨t245, A40, H⟩ := H
  replace H : (if (t245.length : Int) = 0 then ((impl_Delay.f k t245 0 1 1).bind fun bt248 => (if bt248.2 = true then (some false) else (some ((bt248.1.length : Int) == 0)))) else ((laws_at.f l0 1).bind fun t252 => ((laws_at.f l0 2).bind fun t253 => ((laws_at.f l0 3).bind fun t254 => ((impl_Delay.f k t245 (Int.tmod t252 (t245.length : Int)) t253 (Int.tmod t254 20)).bind fun bt255 => (if bt255.2 = true then (if (bt255.1.length : Int) = (t245.length : Int) then ((impl_LegsOk.f bt255.1).bind fun t259 => (if t259 = true then (if 0 ≤ (Int.tmod t252 (t245.length : Int)) then (if (Int.tmod t252 (t245.length : Int)) < (bt255.1.length : Int) then (if (Int.tmod t252 (t245.length : Int)) < (t245.length : Int) then ((laws_at.f l0 2).bind fun t262 => (laws_FnDelays.j0 k l0 t245 (Int.tmod t252 (t245.length : Int)) bt255.1 (((rd_T31 bt255.1 (Int.tmod t252 (t245.length : Int))).f3) != (wrap64 (((rd_T31 t245 (Int.tmod t252 (t245.length : Int))).f3) + t262))))) else (none)) else (none)) else (none)) else (laws_FnDelays.j0 k l0 t245 (Int.tmod t252 (t245.length : Int)) bt255.1 true))) else (laws_FnDelays.j0 k l0 t245 (Int.tmod t252 (t245.length : Int)) bt255.1 true)) else (laws_FnDelays.j0 k l0 t245 (Int.tmod t252 (t245.length : Int)) bt255.1 true))))))) = some r := H
  have A4 := Aside0.mk A40
  clear A40
  by_cases c5 : (t245.length : Int) = 0
  ·as_aux_lemma =>
   rw [if_pos c5] at H
   have c5b0 : ((t245.length : Int) == 0) = true := beq_iff_eq.mpr c5
   have c5b1 : ((t245.length : Int) != 0) = false := bne_eq_false_iff_eq.mpr c5
   clear c5
   replace H := Option.bind_eq_some_iff.mp H
   obtain ⟨⟨t248, t249⟩, A60, H⟩ := H
   replace H : (if t249 = true then (some false) else (some ((t248.length : Int) == 0))) = some r := H
   have A6 := Aside0.mk A60
   clear A60
   by_cases c7 : t249 = true
   ·subst c7
    have H1 : (some false) = some r := by rw [if_pos rfl] at H; exact H
    clear H
    have H := H1
    clear H1
    obtain rfl := Option.some.inj H
    go_enter Try.func3, Try.ntmps3
    go_wp2_with (first | ((with_reducible refine gate_callee (f := 8) rfl ?_); refine goesL_ (some 19) rfl rfl Try.func8 (by kernel_rfl) rfl #[.slice A0 l0.length c0] rfl ml_ ?_; (with_reducible refine (laws_big.calls _ _ l0 false _ ?side1 ?side2 A2.out).mono ?_); (case side1 => repeat (first | exact HR0.out | (with_reducible refine Kd.C_alloc ?_ _) | (with_reducible refine Kd.C_drewN ?_ _) | (with_reducible refine Kd.C_drew ?_))); (case side2 => exact HC0.out); rintro e w' ⟨rfl, ⟨nd, rfl⟩⟩; refine ⟨_, rfl, ?_⟩) | ((with_reducible refine gate_callee (f := 9) rfl ?_); refine goesL_ (some 21) rfl rfl Try.func9 (by kernel_rfl) rfl #[.slice A0 l0.length c0] rfl ml_ ?_; (with_reducible refine (spec_DrawLegs.calls k _ _ l0 t245 _ ?side1 ?side2 A4.out).mono ?_); (case side1 => repeat (first | exact HR0.out | (with_reducible refine Kd.C_alloc ?_ _) | (with_reducible refine Kd.C_drewN ?_ _) | (with_reducible refine Kd.C_drew ?_))); (case side2 => exact HC0.out); rintro e w8 ⟨v246, rfl, ho0, hb⟩; refine ⟨_, rfl, ?_⟩; have n0_ := Aside0.mk (Kd.R_lower ho0 (below_size (bel_ HB.out))); have n1_ := Aside0.mk (below_step (bel_ HB.out) hb); clear HB; have HO247 := n0_; have HB := n1_; clear n0_ n1_; (try clear hb); (try clear hb2); (try clear hk); (try clear hi); (try clear ho0); obtain ⟨Ao9, co9, eo9⟩ := Kd.R_slice HO247.out; subst eo9) | ((with_reducible refine gate_callee (f := 10) rfl ?_); refine goesL_ (some 27) rfl rfl Try.func10 (by kernel_rfl) rfl #[.slice Ao9 t245.length co9, .int .i64 0, .int .i64 1, .int .i64 1] rfl ml_ ?_; (with_reducible refine (impl_Delay.calls k _ _ t245 0 1 1 t248 true _ ?side1 ?side2 A6.out).mono ?_); (case side1 => exact rc_ (Kd.R_reads' HO247.out).2.2); (case side2 => exact (Kd.R_reads' HO247.out).2.1); rintro e w10 ⟨v250, rfl, ho0, hb⟩; refine ⟨_, rfl, ?_⟩; have n0_ := Aside0.mk (Kd.R_elder' (fr_ HO247.out) (Kd.R_base ho0) hb); have n1_ := Aside0.mk (Kd.R_lower (Kd.R_new' ho0 (Kd.R_lt (fr_ HO247.out))) (below_size (bel_ HB.out))); have n2_ := Aside0.mk (below_step (bel_ HB.out) hb); clear HO247; clear HB; have HO247 := n0_; have HO251 := n1_; have HB := n2_; clear n0_ n1_ n2_; (try clear hb); (try clear hb2); (try clear hk); (try clear hi); (try clear ho0)))
    go_ret
    exact ⟨by first | rfl | (simp [errW_none, errW_some] <;> rfl) | (simp [*, errW_none, errW_some] <;> rfl), bel_ HB.out⟩
   ·replace c7 := Bool.eq_false_iff.mpr c7
    subst c7
    have H1 : (some ((t248.length : Int) == 0)) = some r := by rw [if_neg (show ¬ (false = true) by decide)] at H; exact H
    clear H
    have H := H1
    clear H1
    obtain rfl := Option.some.inj H
    go_enter Try.func3, Try.ntmps3
    go_wp2_with (first | ((with_reducible refine gate_callee (f := 8) rfl ?_); refine goesL_ (some 19) rfl rfl Try.func8 (by kernel_rfl) rfl #[.slice A0 l0.length c0] rfl ml_ ?_; (with_reducible refine (laws_big.calls _ _ l0 false _ ?side1 ?side2 A2.out).mono ?_); (case side1 => repeat (first | exact HR0.out | (with_reducible refine Kd.C_alloc ?_ _) | (with_reducible refine Kd.C_drewN ?_ _) | (with_reducible refine Kd.C_drew ?_))); (case side2 => exact HC0.out); rintro e w' ⟨rfl, ⟨nd, rfl⟩⟩; refine ⟨_, rfl, ?_⟩) | ((with_reducible refine gate_callee (f := 9) rfl ?_); refine goesL_ (some 21) rfl rfl Try.func9 (by kernel_rfl) rfl #[.slice A0 l0.length c0] rfl ml_ ?_; (with_reducible refine (spec_DrawLegs.calls k _ _ l0 t245 _ ?side1 ?side2 A4.out).mono ?_); (case side1 => repeat (first | exact HR0.out | (with_reducible refine Kd.C_alloc ?_ _) | (with_reducible refine Kd.C_drewN ?_ _) | (with_reducible refine Kd.C_drew ?_))); (case side2 => exact HC0.out); rintro e w11 ⟨v246, rfl, ho0, hb⟩; refine ⟨_, rfl, ?_⟩; have n0_ := Aside0.mk (Kd.R_lower ho0 (below_size (bel_ HB.out))); have n1_ := Aside0.mk (below_step (bel_ HB.out) hb); clear HB; have HO247 := n0_; have HB := n1_; clear n0_ n1_; (try clear hb); (try clear hb2); (try clear hk); (try clear hi); (try clear ho0); obtain ⟨Ao12, co12, eo12⟩ := Kd.R_slice HO247.out; subst eo12) | ((with_reducible refine gate_callee (f := 10) rfl ?_); refine goesL_ (some 27) rfl rfl Try.func10 (by kernel_rfl) rfl #[.slice Ao12 t245.length co12, .int .i64 0, .int .i64 1, .int .i64 1] rfl ml_ ?_; (with_reducible refine (impl_Delay.calls k _ _ t245 0 1 1 t248 false _ ?side1 ?side2 A6.out).mono ?_); (case side1 => exact rc_ (Kd.R_reads' HO247.out).2.2); (case side2 => exact (Kd.R_reads' HO247.out).2.1); rintro e w13 ⟨v250, rfl, ho0, hb⟩; refine ⟨_, rfl, ?_⟩; have n0_ := Aside0.mk (Kd.R_elder' (fr_ HO247.out) (Kd.R_base ho0) hb); have n1_ := Aside0.mk (Kd.R_lower (Kd.R_new' ho0 (Kd.R_lt (fr_ HO247.out))) (below_size (bel_ HB.out))); have n2_ := Aside0.mk (below_step (bel_ HB.out) hb); clear HO247; clear HB; have HO247 := n0_; have HO251 := n1_; have HB := n2_; clear n0_ n1_ n2_; (try clear hb); (try clear hb2); (try clear hk); (try clear hi); (try clear ho0); obtain ⟨Ao14, co14, eo14⟩ := Kd.R_slice HO251.out; subst eo14))
    go_ret
    exact ⟨by first | rfl | (simp [errW_none, errW_some] <;> rfl) | (simp [*, errW_none, errW_some] <;> rfl), bel_ HB.out⟩
  ·rw [if_neg c5] at H
   have c5b0 : ((t245.length : Int) == 0) = false := beq_eq_false_iff_ne.mpr c5
   have c5b1 : ((t245.length : Int) != 0) = true := bne_iff_ne.mpr c5
   have c5b2 : ¬ (t245 = []) := fun h_ => c5 (by rw [h_]; rfl)
   replace H := Option.bind_eq_some_iff.mp H
   obtain ⟨t252, A150, H⟩ := H
   replace H : ((laws_at.f l0 2).bind fun t253 => ((laws_at.f l0 3).bind fun t254 => ((impl_Delay.f k t245 (Int.tmod t252 (t245.length : Int)) t253 (Int.tmod t254 20)).bind fun bt255 => (if bt255.2 = true then (if (bt255.1.length : Int) = (t245.length : Int) then ((impl_LegsOk.f bt255.1).bind fun t259 => (if t259 = true then (if 0 ≤ (Int.tmod t252 (t245.length : Int)) then (if (Int.tmod t252 (t245.length : Int)) < (bt255.1.length : Int) then (if (Int.tmod t252 (t245.length : Int)) < (t245.length : Int) then ((laws_at.f l0 2).bind fun t262 => (laws_FnDelays.j0 k l0 t245 (Int.tmod t252 (t245.length : Int)) bt255.1 (((rd_T31 bt255.1 (Int.tmod t252 (t245.length : Int))).f3) != (wrap64 (((rd_T31 t245 (Int.tmod t252 (t245.length : Int))).f3) + t262))))) else (none)) else (none)) else (none)) else (laws_FnDelays.j0 k l0 t245 (Int.tmod t252 (t245.length : Int)) bt255.1 true))) else (laws_FnDelays.j0 k l0 t245 (Int.tmod t252 (t245.length : Int)) bt255.1 true)) else (laws_FnDelays.j0 k l0 t245 (Int.tmod t252 (t245.length : Int)) bt255.1 true))))) = some r := H
   have A15 := Aside0.mk A150
   clear A150
   replace H := Option.bind_eq_some_iff.mp H
   obtain ⟨t253, A160, H⟩ := H
   replace H : ((laws_at.f l0 3).bind fun t254 => ((impl_Delay.f k t245 (Int.tmod t252 (t245.length : Int)) t253 (Int.tmod t254 20)).bind fun bt255 => (if bt255.2 = true then (if (bt255.1.length : Int) = (t245.length : Int) then ((impl_LegsOk.f bt255.1).bind fun t259 => (if t259 = true then (if 0 ≤ (Int.tmod t252 (t245.length : Int)) then (if (Int.tmod t252 (t245.length : Int)) < (bt255.1.length : Int) then (if (Int.tmod t252 (t245.length : Int)) < (t245.length : Int) then ((laws_at.f l0 2).bind fun t262 => (laws_FnDelays.j0 k l0 t245 (Int.tmod t252 (t245.length : Int)) bt255.1 (((rd_T31 bt255.1 (Int.tmod t252 (t245.length : Int))).f3) != (wrap64 (((rd_T31 t245 (Int.tmod t252 (t245.length : Int))).f3) + t262))))) else (none)) else (none)) else (none)) else (laws_FnDelays.j0 k l0 t245 (Int.tmod t252 (t245.length : Int)) bt255.1 true))) else (laws_FnDelays.j0 k l0 t245 (Int.tmod t252 (t245.length : Int)) bt255.1 true)) else (laws_FnDelays.j0 k l0 t245 (Int.tmod t252 (t245.length : Int)) bt255.1 true)))) = some r := H
   have A16 := Aside0.mk A160
   clear A160
   replace H := Option.bind_eq_some_iff.mp H
   obtain ⟨t254, A170, H⟩ := H
   replace H : ((impl_Delay.f k t245 (Int.tmod t252 (t245.length : Int)) t253 (Int.tmod t254 20)).bind fun bt255 => (if bt255.2 = true then (if (bt255.1.length : Int) = (t245.length : Int) then ((impl_LegsOk.f bt255.1).bind fun t259 => (if t259 = true then (if 0 ≤ (Int.tmod t252 (t245.length : Int)) then (if (Int.tmod t252 (t245.length : Int)) < (bt255.1.length : Int) then (if (Int.tmod t252 (t245.length : Int)) < (t245.length : Int) then ((laws_at.f l0 2).bind fun t262 => (laws_FnDelays.j0 k l0 t245 (Int.tmod t252 (t245.length : Int)) bt255.1 (((rd_T31 bt255.1 (Int.tmod t252 (t245.length : Int))).f3) != (wrap64 (((rd_T31 t245 (Int.tmod t252 (t245.length : Int))).f3) + t262))))) else (none)) else (none)) else (none)) else (laws_FnDelays.j0 k l0 t245 (Int.tmod t252 (t245.length : Int)) bt255.1 true))) else (laws_FnDelays.j0 k l0 t245 (Int.tmod t252 (t245.length : Int)) bt255.1 true)) else (laws_FnDelays.j0 k l0 t245 (Int.tmod t252 (t245.length : Int)) bt255.1 true))) = some r := H
   have A17 := Aside0.mk A170
   clear A170
   replace H := Option.bind_eq_some_iff.mp H
   obtain ⟨⟨t255, t256⟩, A180, H⟩ := H
   replace H : (if t256 = true then (if (t255.length : Int) = (t245.length : Int) then ((impl_LegsOk.f t255).bind fun t259 => (if t259 = true then (if 0 ≤ (Int.tmod t252 (t245.length : Int)) then (if (Int.tmod t252 (t245.length : Int)) < (t255.length : Int) then (if (Int.tmod t252 (t245.length : Int)) < (t245.length : Int) then ((laws_at.f l0 2).bind fun t262 => (laws_FnDelays.j0 k l0 t245 (Int.tmod t252 (t245.length : Int)) t255 (((rd_T31 t255 (Int.tmod t252 (t245.length : Int))).f3) != (wrap64 (((rd_T31 t245 (Int.tmod t252 (t245.length : Int))).f3) + t262))))) else (none)) else (none)) else (none)) else (laws_FnDelays.j0 k l0 t245 (Int.tmod t252 (t245.length : Int)) t255 true))) else (laws_FnDelays.j0 k l0 t245 (Int.tmod t252 (t245.length : Int)) t255 true)) else (laws_FnDelays.j0 k l0 t245 (Int.tmod t252 (t245.length : Int)) t255 true)) = some r := H
   have A18 := Aside0.mk A180
   clear A180
   have HC19 := Aside0.mk H
   clear H
   go_enter Try.func3, Try.ntmps3
   go_upto_region 9 with (first | ((with_reducible refine gate_callee (f := 8) rfl ?_); refine goesL_ (some 19) rfl rfl Try.func8 (by kernel_rfl) rfl #[.slice A0 l0.length c0] rfl ml_ ?_; (with_reducible refine (laws_big.calls _ _ l0 false _ ?side1 ?side2 A2.out).mono ?_); (case side1 => repeat (first | exact HR0.out | (with_reducible refine Kd.C_alloc ?_ _) | (with_reducible refine Kd.C_drewN ?_ _) | (with_reducible refine Kd.C_drew ?_))); (case side2 => exact HC0.out); rintro e w' ⟨rfl, ⟨nd, rfl⟩⟩; refine ⟨_, rfl, ?_⟩) | ((with_reducible refine gate_callee (f := 9) rfl ?_); refine goesL_ (some 21) rfl rfl Try.func9 (by kernel_rfl) rfl #[.slice A0 l0.length c0] rfl ml_ ?_; (with_reducible refine (spec_DrawLegs.calls k _ _ l0 t245 _ ?side1 ?side2 A4.out).mono ?_); (case side1 => repeat (first | exact HR0.out | (with_reducible refine Kd.C_alloc ?_ _) | (with_reducible refine Kd.C_drewN ?_ _) | (with_reducible refine Kd.C_drew ?_))); (case side2 => exact HC0.out); rintro e w20 ⟨v246, rfl, ho0, hb⟩; refine ⟨_, rfl, ?_⟩; have n0_ := Aside0.mk (Kd.R_lower ho0 (below_size (bel_ HB.out))); have n1_ := Aside0.mk (below_step (bel_ HB.out) hb); clear HB; have HO247 := n0_; have HB := n1_; clear n0_ n1_; (try clear hb); (try clear hb2); (try clear hk); (try clear hi); (try clear ho0); obtain ⟨Ao21, co21, eo21⟩ := Kd.R_slice HO247.out; subst eo21) | ((with_reducible refine gate_callee (f := 11) rfl ?_); refine goesL_ (some 38) rfl rfl Try.func11 (by kernel_rfl) rfl #[.slice A0 l0.length c0, .int .i64 1] rfl ml_ ?_; (with_reducible refine (laws_at.calls _ _ l0 1 t252 _ ?side1 ?side2 A15.out).mono ?_); (case side1 => repeat (first | exact (Kd.C_below HR0.out HB.out) | (with_reducible refine Kd.C_alloc ?_ _) | (with_reducible refine Kd.C_drewN ?_ _) | (with_reducible refine Kd.C_drew ?_))); (case side2 => exact HC0.out); rintro e w' ⟨rfl, ⟨nd, rfl⟩⟩; refine ⟨_, rfl, ?_⟩) | ((with_reducible refine gate_callee (f := 11) rfl ?_); refine goesL_ (some 46) rfl rfl Try.func11 (by kernel_rfl) rfl #[.slice A0 l0.length c0, .int .i64 2] rfl ml_ ?_; (with_reducible refine (laws_at.calls _ _ l0 2 t253 _ ?side1 ?side2 A16.out).mono ?_); (case side1 => repeat (first | exact (Kd.C_below HR0.out (bel_ HB.out)) | (with_reducible refine Kd.C_alloc ?_ _) | (with_reducible refine Kd.C_drewN ?_ _) | (with_reducible refine Kd.C_drew ?_))); (case side2 => exact HC0.out); rintro e w' ⟨rfl, ⟨nd, rfl⟩⟩; refine ⟨_, rfl, ?_⟩) | ((with_reducible refine gate_callee (f := 11) rfl ?_); refine goesL_ (some 48) rfl rfl Try.func11 (by kernel_rfl) rfl #[.slice A0 l0.length c0, .int .i64 3] rfl ml_ ?_; (with_reducible refine (laws_at.calls _ _ l0 3 t254 _ ?side1 ?side2 A17.out).mono ?_); (case side1 => repeat (first | exact (Kd.C_below HR0.out (bel_ HB.out)) | (with_reducible refine Kd.C_alloc ?_ _) | (with_reducible refine Kd.C_drewN ?_ _) | (with_reducible refine Kd.C_drew ?_))); (case side2 => exact HC0.out); rintro e w' ⟨rfl, ⟨nd, rfl⟩⟩; refine ⟨_, rfl, ?_⟩) | ((with_reducible refine gate_callee (f := 10) rfl ?_); refine goesL_ (some 50) rfl rfl Try.func10 (by kernel_rfl) rfl #[.slice Ao21 t245.length co21, .int .i64 (Int.tmod t252 (t245.length : Int)), .int .i64 t253, .int .i64 (Int.tmod t254 20)] rfl ml_ ?_; (with_reducible refine (impl_Delay.calls k _ _ t245 (Int.tmod t252 (t245.length : Int)) t253 (Int.tmod t254 20) t255 t256 _ ?side1 ?side2 A18.out).mono ?_); (case side1 => exact rc_ (Kd.R_reads' HO247.out).2.2); (case side2 => exact (Kd.R_reads' HO247.out).2.1); rintro e w22 ⟨v257, rfl, ho0, hb⟩; refine ⟨_, rfl, ?_⟩; have n0_ := Aside0.mk (Kd.R_elder' (fr_ HO247.out) (Kd.R_base ho0) hb); have n1_ := Aside0.mk (Kd.R_lower (Kd.R_new' ho0 (Kd.R_lt (fr_ HO247.out))) (below_size (bel_ HB.out))); have n2_ := Aside0.mk (below_step (bel_ HB.out) hb); clear HO247; clear HB; have HO247 := n0_; have HO258 := n1_; have HB := n2_; clear n0_ n1_ n2_; (try clear hb); (try clear hb2); (try clear hk); (try clear hi); (try clear ho0)))
   (try simp only [Act.put, sA_, sZ_, sS_])
   go_cut [82] (fun v82 wc => ∃ (kq : Nat) (x82_18 : Bool), v82 = .bool x82_18 ∧ Aside0 (laws_FnDelays.j0 kq l0 t245 (Int.tmod t252 (t245.length : Int)) t255 x82_18 = some r) ∧ Aside0 (kq ≤ k) ∧ Aside0 (Kd.R k31 31 wc w.heap.size (fun k_ => some k_ ≠ (v257 : Value).ownBlock) (.slice Ao21 t245.length co21) t245) ∧ Aside0 (Kd.R k31 31 wc w.heap.size (fun k_ => some k_ ≠ ((.slice Ao21 t245.length co21) : Value).ownBlock) v257 t255) ∧ Aside0 (Below w.heap.size w wc))
   case first =>
    have H := HC19.out
    clear HC19
    by_cases c23 : t256 = true
    ·subst c23
     have H1 : (if (t255.length : Int) = (t245.length : Int) then ((impl_LegsOk.f t255).bind fun t259 => (if t259 = true then (if 0 ≤ (Int.tmod t252 (t245.length : Int)) then (if (Int.tmod t252 (t245.length : Int)) < (t255.length : Int) then (if (Int.tmod t252 (t245.length : Int)) < (t245.length : Int) then ((laws_at.f l0 2).bind fun t262 => (laws_FnDelays.j0 k l0 t245 (Int.tmod t252 (t245.length : Int)) t255 (((rd_T31 t255 (Int.tmod t252 (t245.length : Int))).f3) != (wrap64 (((rd_T31 t245 (Int.tmod t252 (t245.length : Int))).f3) + t262))))) else (none)) else (none)) else (none)) else (laws_FnDelays.j0 k l0 t245 (Int.tmod t252 (t245.length : Int)) t255 true))) else (laws_FnDelays.j0 k l0 t245 (Int.tmod t252 (t245.length : Int)) t255 true)) = some r := by rw [if_pos rfl] at H; exact H
     clear H
     have H := H1
     clear H1
     by_cases c24 : (t255.length : Int) = (t245.length : Int)
     ·as_aux_lemma =>
      rw [if_pos c24] at H
      have c24b0 : ((t255.length : Int) == (t245.length : Int)) = true := beq_iff_eq.mpr c24
      have c24b1 : ((t255.length : Int) != (t245.length : Int)) = false := bne_eq_false_iff_eq.mpr c24
      have c24b2 : (t255.length == t245.length) = true := by first | simpa using c24 | (simp at c24 ⊢; omega)
      clear c24
      (first | rw [c24b0] | (simp only [i64_w, i32_w]; rw [c24b0]) | skip)
      replace H := Option.bind_eq_some_iff.mp H
      obtain ⟨t259, A250, H⟩ := H
      replace H : (if t259 = true then (if 0 ≤ (Int.tmod t252 (t245.length : Int)) then (if (Int.tmod t252 (t245.length : Int)) < (t255.length : Int) then (if (Int.tmod t252 (t245.length : Int)) < (t245.length : Int) then ((laws_at.f l0 2).bind fun t262 => (laws_FnDelays.j0 k l0 t245 (Int.tmod t252 (t245.length : Int)) t255 (((rd_T31 t255 (Int.tmod t252 (t245.length : Int))).f3) != (wrap64 (((rd_T31 t245 (Int.tmod t252 (t245.length : Int))).f3) + t262))))) else (none)) else (none)) else (none)) else (laws_FnDelays.j0 k l0 t245 (Int.tmod t252 (t245.length : Int)) t255 true)) = some r := H
      have A25 := Aside0.mk A250
      clear A250
      by_cases c26 : t259 = true
      ·subst c26
       have H1 : (if 0 ≤ (Int.tmod t252 (t245.length : Int)) then (if (Int.tmod t252 (t245.length : Int)) < (t255.length : Int) then (if (Int.tmod t252 (t245.length : Int)) < (t245.length : Int) then ((laws_at.f l0 2).bind fun t262 => (laws_FnDelays.j0 k l0 t245 (Int.tmod t252 (t245.length : Int)) t255 (((rd_T31 t255 (Int.tmod t252 (t245.length : Int))).f3) != (wrap64 (((rd_T31 t245 (Int.tmod t252 (t245.length : Int))).f3) + t262))))) else (none)) else (none)) else (none)) = some r := by rw [if_pos rfl] at H; exact H
       clear H
       have H := H1
       clear H1
       obtain ⟨ji27, hji27⟩ : ∃ j_ : Int, (Int.tmod t252 (t245.length : Int)) = j_ := ⟨_, rfl⟩
       replace H : (if 0 ≤ (ji27) then (if (ji27) < (t255.length : Int) then (if (ji27) < (t245.length : Int) then ((laws_at.f l0 2).bind fun t262 => (laws_FnDelays.j0 k l0 t245 ji27 t255 (((rd_T31 t255 (ji27)).f3) != (wrap64 (((rd_T31 t245 (ji27)).f3) + t262))))) else (none)) else (none)) else (none)) = some r := by first | (rw [hji27] at H; exact H) | (simp only [hji27] at H ⊢; exact H)
       (try rw [hji27] at A25)
       by_cases c28 : 0 ≤ (ji27)
       ·rw [if_pos c28] at H
        have c28b0 : decide (0 ≤ (ji27)) = true := decide_eq_true c28
        clear c28
        by_cases c29 : (ji27) < (t255.length : Int)
        ·rw [if_pos c29] at H
         have c29b0 : decide ((ji27) < (t255.length : Int)) = true := decide_eq_true c29
         clear c29
         by_cases c30 : (ji27) < (t245.length : Int)
         ·rw [if_pos c30] at H
          have c30b0 : decide ((ji27) < (t245.length : Int)) = true := decide_eq_true c30
          clear c30
          replace H := Option.bind_eq_some_iff.mp H
          obtain ⟨t262, A310, H⟩ := H
          replace H : (laws_FnDelays.j0 k l0 t245 ji27 t255 (((rd_T31 t255 (ji27)).f3) != (wrap64 (((rd_T31 t245 (ji27)).f3) + t262)))) = some r := H
          have A31 := Aside0.mk A310
          clear A310
          have H' := Aside0.mk H
          clear H
          try go_wp2
          (try ((rw [drewN_self w22]; generalize hq_ : World.drewN w22 _ = w22); have n0_ : Aside0 (Kd.R k31 31 w22 w.heap.size (fun k_ => some k_ ≠ (v257 : Value).ownBlock) (.slice Ao21 t245.length co21) t245) := ⟨by rw [← hq_]; exact (by (with_reducible repeat (first | apply Kd.R_alloc | apply Kd.R_drewN | apply Kd.R_drew)); exact Kd.R_mono HO247.out (fun _ hk => hk.2))⟩; have n1_ : Aside0 (Kd.R k31 31 w22 w.heap.size (fun k_ => some k_ ≠ (.slice Ao21 t245.length co21 : Value).ownBlock) v257 t255) := ⟨by rw [← hq_]; exact (by (with_reducible repeat (first | apply Kd.R_alloc | apply Kd.R_drewN | apply Kd.R_drew)); exact Kd.R_mono HO258.out (fun _ hk => hk.2))⟩; have n2_ : Aside0 (Below w.heap.size w w22) := ⟨by rw [← hq_]; exact (bel_ HB.out)⟩; clear HO247 HO258 HB hq_; have HO247 := n0_; have HO258 := n1_; have HB := n2_; clear n0_ n1_ n2_))
          have n0_ := Aside0.mk (Kd.R_drew HO247.out)
          have n1_ := Aside0.mk (Kd.R_drew HO258.out)
          have n2_ := Aside0.mk (below_drew1 HB.out)
          clear HO247
          clear HO258
          clear HB
          have HO247 := n0_
          have HO258 := n1_
          have HB := n2_
          clear n0_ n1_ n2_
          obtain ⟨Ao33, co33, eo33⟩ := Kd.R_slice HO258.out
          (first | subst eo33 | (injection eo33 with f1_ f2_ f3_; have f4_ := f1_.symm; have f5_ := f3_.symm; clear f1_ f2_ f3_; subst f4_; subst f5_))
          have p260 : 0 ≤ ((ji27) : Int) := of_decide_eq_true (by first | (with_reducible assumption) | assumption)
          have q260 : (ji27) < (t255.length : Int) := of_decide_eq_true (by first | (with_reducible assumption) | assumption)
          obtain ⟨ad260, e260, hx260_0, hx260_1, hx260_2, hx260_3, hx260_4, hx260_5⟩ := at_T31 (Kd.R_reads' HO258.out).2.2 (ji27) p260 q260
          cases e260
          replace p260 := eq_true p260
          replace q260 := eq_true q260
          have p261 : 0 ≤ ((ji27) : Int) := of_decide_eq_true (by first | (with_reducible assumption) | assumption)
          have q261 : (ji27) < (t245.length : Int) := of_decide_eq_true (by first | (with_reducible assumption) | assumption)
          obtain ⟨ad261, e261, hx261_0, hx261_1, hx261_2, hx261_3, hx261_4, hx261_5⟩ := at_T31 (Kd.R_reads' HO247.out).2.2 (ji27) p261 q261
          cases e261
          replace p261 := eq_true p261
          replace q261 := eq_true q261
          refine start_ (n := 30) (S := fun w' => w'.cell? (ad260.add (((ji27)).toNat * 6)) = some (.int .i64 ((rd_T31 t255 (ji27)).f0)) ∧ w'.cell? ⟨(ad260.add (((ji27)).toNat * 6)).block, (ad260.add (((ji27)).toNat * 6)).off + 1, none⟩ = some (.int .i64 ((rd_T31 t255 (ji27)).f1)) ∧ w'.cell? ⟨(ad260.add (((ji27)).toNat * 6)).block, (ad260.add (((ji27)).toNat * 6)).off + 2, none⟩ = some (.int .i64 ((rd_T31 t255 (ji27)).f2)) ∧ w'.cell? ⟨(ad260.add (((ji27)).toNat * 6)).block, (ad260.add (((ji27)).toNat * 6)).off + 3, none⟩ = some (.int .i64 ((rd_T31 t255 (ji27)).f3)) ∧ w'.cell? ⟨(ad260.add (((ji27)).toNat * 6)).block, (ad260.add (((ji27)).toNat * 6)).off + 4, none⟩ = some (.int .i64 ((rd_T31 t255 (ji27)).f4)) ∧ w'.cell? ⟨(ad260.add (((ji27)).toNat * 6)).block, (ad260.add (((ji27)).toNat * 6)).off + 5, none⟩ = some (.int .i64 ((rd_T31 t255 (ji27)).f5)) ∧ w'.cell? (ad261.add (((ji27)).toNat * 6)) = some (.int .i64 ((rd_T31 t245 (ji27)).f0)) ∧ w'.cell? ⟨(ad261.add (((ji27)).toNat * 6)).block, (ad261.add (((ji27)).toNat * 6)).off + 1, none⟩ = some (.int .i64 ((rd_T31 t245 (ji27)).f1)) ∧ w'.cell? ⟨(ad261.add (((ji27)).toNat * 6)).block, (ad261.add (((ji27)).toNat * 6)).off + 2, none⟩ = some (.int .i64 ((rd_T31 t245 (ji27)).f2)) ∧ w'.cell? ⟨(ad261.add (((ji27)).toNat * 6)).block, (ad261.add (((ji27)).toNat * 6)).off + 3, none⟩ = some (.int .i64 ((rd_T31 t245 (ji27)).f3)) ∧ w'.cell? ⟨(ad261.add (((ji27)).toNat * 6)).block, (ad261.add (((ji27)).toNat * 6)).off + 4, none⟩ = some (.int .i64 ((rd_T31 t245 (ji27)).f4)) ∧ w'.cell? ⟨(ad261.add (((ji27)).toNat * 6)).block, (ad261.add (((ji27)).toNat * 6)).off + 5, none⟩ = some (.int .i64 ((rd_T31 t245 (ji27)).f5))) (ds := []) (bs 30 0) (by kernel_rfl) rfl rfl ⟨hx260_0, hx260_1, hx260_2, hx260_3, hx260_4, hx260_5, hx261_0, hx261_1, hx261_2, hx261_3, hx261_4, hx261_5⟩ (fun hHeld => ?_); refine with_tabW laws_FnDelays.tab9 laws_FnDelays.bits9 (fun HT_ HW_ => ?_)
          generalize w22.drew = w32 at HO247 HO258 HB hx260_0 hx260_1 hx260_2 hx260_3 hx260_4 hx260_5 hx261_0 hx261_1 hx261_2 hx261_3 hx261_4 hx261_5 hHeld ⊢
          refine pu_ 0 53 HT_ (bs 30 1) rfl rfl ?_
          refine pu_ 1 54 HT_ (bs 30 3) rfl rfl ?_
          refine pu_ 2 55 HT_ (bs 30 7) rfl rfl ?_
          refine pu_ 3 56 HT_ (bs 30 15) rfl rfl ?_
          refine pu_ 4 57 HT_ (bs 30 31) rfl rfl ?_
          refine pu_ 5 58 HT_ (bs 30 63) rfl rfl ?_
          refine pu_ 6 59 HT_ (bs 30 127) rfl rfl ?_
          refine pu_ 7 60 HT_ (bs 30 255) rfl rfl ?_
          refine pu_ 8 61 HT_ (bs 30 511) rfl rfl ?_
          refine pu_ 9 62 HT_ (bs 30 1023) rfl rfl ?_
          refine pu_ 10 63 HT_ (bs 30 2047) rfl rfl ?_
          refine one_ (i := 11) (N := some 64) (bs 30 4095) rfl rfl (one_of HT_.out (by kernel_rfl)) (by decide) (fun K hK => ?_)
          refine goes_ Try.func12 (by kernel_rfl) rfl #[.slice (some ad260) t255.length co33] (by rfl) rfl rfl ml_ ?_
          with_reducible refine (impl_LegsOk.calls _ _ t255 true _ ?side1 ?side2 A25.out).mono ?_
          (case side1 => exact rc_ (Kd.R_reads' HO258.out).2.2)
          (case side2 => exact (Kd.R_reads' HO258.out).2.1)
          rintro e w34 ⟨rfl, hb⟩
          have HS0_ := (hb.cell (World.block_lt_of_cell? _ _ (hHeld.1))).trans (hHeld.1)
          have HS1_ := (hb.cell (World.block_lt_of_cell? _ _ (hHeld.2.1))).trans (hHeld.2.1)
          have HS2_ := (hb.cell (World.block_lt_of_cell? _ _ (hHeld.2.2.1))).trans (hHeld.2.2.1)
          have HS3_ := (hb.cell (World.block_lt_of_cell? _ _ (hHeld.2.2.2.1))).trans (hHeld.2.2.2.1)
          have HS4_ := (hb.cell (World.block_lt_of_cell? _ _ (hHeld.2.2.2.2.1))).trans (hHeld.2.2.2.2.1)
          have HS5_ := (hb.cell (World.block_lt_of_cell? _ _ (hHeld.2.2.2.2.2.1))).trans (hHeld.2.2.2.2.2.1)
          have HS6_ := (hb.cell (World.block_lt_of_cell? _ _ (hHeld.2.2.2.2.2.2.1))).trans (hHeld.2.2.2.2.2.2.1)
          have HS7_ := (hb.cell (World.block_lt_of_cell? _ _ (hHeld.2.2.2.2.2.2.2.1))).trans (hHeld.2.2.2.2.2.2.2.1)
          have HS8_ := (hb.cell (World.block_lt_of_cell? _ _ (hHeld.2.2.2.2.2.2.2.2.1))).trans (hHeld.2.2.2.2.2.2.2.2.1)
          have HS9_ := (hb.cell (World.block_lt_of_cell? _ _ (hHeld.2.2.2.2.2.2.2.2.2.1))).trans (hHeld.2.2.2.2.2.2.2.2.2.1)
          have HS10_ := (hb.cell (World.block_lt_of_cell? _ _ (hHeld.2.2.2.2.2.2.2.2.2.2.1))).trans (hHeld.2.2.2.2.2.2.2.2.2.2.1)
          have HS11_ := (hb.cell (World.block_lt_of_cell? _ _ (hHeld.2.2.2.2.2.2.2.2.2.2.2))).trans (hHeld.2.2.2.2.2.2.2.2.2.2.2)
          refine ⟨_, rfl, ?_⟩
          have n0_ := Aside0.mk (Kd.R_below (fr_ HO247.out) hb)
          have n1_ := Aside0.mk (Kd.R_below (fr_ HO258.out) hb)
          have n2_ := Aside0.mk (below_step (bel_ HB.out) hb)
          clear HO247
          clear HO258
          clear HB
          have HO247 := n0_
          have HO258 := n1_
          have HB := n2_
          clear n0_ n1_ n2_
          (try clear hb)
          (try clear hb2)
          (try clear hk)
          (try clear hi)
          refine hK.out _ _ ⟨HS0_, HS1_, HS2_, HS3_, HS4_, HS5_, HS6_, HS7_, HS8_, HS9_, HS10_, HS11_⟩ (fun hHeld => ?_)
          clear hK K
          refine norm_ (a' := ?_) ?_ ?_
          rotate_left
          ·show Act.put _ (some 64) _ = _
           simp only [Act.put, sA_, sZ_, sS_, i64_w, i32_w]
           rfl
          refine pu_ 12 65 HT_ (bs 30 8191) rfl rfl ?_
          refine pu_ 13 66 HT_ (bs 30 16383) rfl rfl ?_
          refine pu_ 14 67 HT_ (bs 30 32767) rfl rfl ?_
          refine pu_ 15 68 HT_ (bs 30 65535) rfl rfl ?_
          refine pu_ 16 69 HT_ (bs 30 131071) rfl rfl ?_
          refine pu_ 17 70 HT_ (bs 30 262143) rfl rfl ?_
          refine pu_ 18 71 HT_ (bs 30 524287) rfl rfl ?_
          refine pu_ 20 73 HT_ (bs 30 1572863) rfl rfl ?_
          refine pu_ 21 74 HT_ (bs 30 3670015) rfl rfl ?_
          refine pu_ 22 75 HT_ (bs 30 7864319) rfl rfl ?_
          refine pu_ 23 76 HT_ (bs 30 16252927) rfl rfl ?_
          refine pu_ 25 78 HT_ (bs 30 49807359) rfl rfl ?_
          refine take_ (i := 19) (N := some 72) (v := ?_) (a' := ?_) (bs 30 50331647) rfl rfl (take_ofW HT_.out HW_.out (by kernel_rfl)) (fun _ _ _ h => h) (Or.inl ⟨by rfl, ?_⟩) hHeld ?_ ?_
          rotate_left
          ·rintro w' ⟨s0, s1, s2, s3, s4, s5, s6, s7, s8, s9, s10, s11⟩
           go_simp
           with_reducible rfl
          rotate_left
          ·simp only [Act.put, sA_, sZ_, sS_, i64_w, i32_w]
           rfl
          refine take_ (i := 24) (N := some 77) (v := ?_) (a' := ?_) (bs 30 67108863) rfl rfl (take_ofW HT_.out HW_.out (by kernel_rfl)) (fun _ _ _ h => h) (Or.inl ⟨by rfl, ?_⟩) hHeld ?_ ?_
          rotate_left
          ·rintro w' ⟨s0, s1, s2, s3, s4, s5, s6, s7, s8, s9, s10, s11⟩
           go_simp
           with_reducible rfl
          rotate_left
          ·simp only [Act.put, sA_, sZ_, sS_, i64_w, i32_w]
           rfl
          refine one_ (i := 26) (N := some 79) (bs 30 134217727) rfl rfl (one_of HT_.out (by kernel_rfl)) (by decide) (fun K hK => ?_)
          refine goes_ Try.func11 (by kernel_rfl) rfl #[.slice A0 l0.length c0, .int .i64 2] (by rfl) rfl rfl ml_ ?_
          with_reducible refine (laws_at.calls _ _ l0 2 t262 _ ?side1 ?side2 A31.out).mono ?_
          (case side1 => repeat (first | exact (Kd.C_below HR0.out HB.out) | (with_reducible refine Kd.C_alloc ?_ _) | (with_reducible refine Kd.C_drewN ?_ _) | (with_reducible refine Kd.C_drew ?_)))
          (case side2 => exact HC0.out)
          rintro e w' ⟨rfl, ⟨nd, rfl⟩⟩
          refine ⟨_, rfl, ?_⟩
          refine hK.out _ _ ⟨hHeld.1, hHeld.2.1, hHeld.2.2.1, hHeld.2.2.2.1, hHeld.2.2.2.2.1, hHeld.2.2.2.2.2.1, hHeld.2.2.2.2.2.2.1, hHeld.2.2.2.2.2.2.2.1, hHeld.2.2.2.2.2.2.2.2.1, hHeld.2.2.2.2.2.2.2.2.2.1, hHeld.2.2.2.2.2.2.2.2.2.2.1, hHeld.2.2.2.2.2.2.2.2.2.2.2⟩ (fun hHeld => ?_)
          clear hK K
          refine norm_ (a' := ?_) ?_ ?_
          rotate_left
          ·show Act.put _ (some 79) _ = _
           simp only [Act.put, sA_, sZ_, sS_, i64_w, i32_w]
           rfl
          refine pu_ 27 80 HT_ (bs 30 268435455) rfl rfl ?_
          refine pu_ 28 81 HT_ (bs 30 536870911) rfl rfl ?_
          refine pu_ 29 82 HT_ (bs 30 1073741823) rfl rfl ?_
          refine done_ (done_of HT_.out (by kernel_rfl)) ?_
          try go_wp2
          go_meet
          case rel => exact ⟨_, ((((rd_T31 t255 (ji27)).f3) != (wrap64 (((rd_T31 t245 (ji27)).f3) + t262)))), (by first | rfl | (simp; done) | (simp only [← hji27] <;> (first | rfl | simp)) | (simp [*]; done)), (by first | exact H' | (rw [hji27]; exact H')), ⟨by first | omega | exact Nat.le_refl _⟩, ⟨by (with_reducible repeat (first | apply Kd.R_alloc | apply Kd.R_drewN | apply Kd.R_drew)); exact Kd.R_mono HO247.out (fun _ hk => hk.2)⟩, ⟨by (with_reducible repeat (first | apply Kd.R_alloc | apply Kd.R_drewN | apply Kd.R_drew)); exact Kd.R_mono HO258.out (fun _ hk => hk.2)⟩, ⟨bel_ HB.out⟩⟩
         ·rw [if_neg c30] at H
          exact absurd H (by simp)
        ·rw [if_neg c29] at H
         exact absurd H (by simp)
       ·rw [if_neg c28] at H
        exact absurd H (by simp)
      ·replace c26 := Bool.eq_false_iff.mpr c26
       subst c26
       have H1 : (laws_FnDelays.j0 k l0 t245 (Int.tmod t252 (t245.length : Int)) t255 true) = some r := by rw [if_neg (show ¬ (false = true) by decide)] at H; exact H
       clear H
       have H := H1
       clear H1
       have H' := Aside0.mk H
       clear H
       try go_wp2
       (try ((rw [drewN_self w22]; generalize hq_ : World.drewN w22 _ = w22); have n0_ : Aside0 (Kd.R k31 31 w22 w.heap.size (fun k_ => some k_ ≠ (v257 : Value).ownBlock) (.slice Ao21 t245.length co21) t245) := ⟨by rw [← hq_]; exact (by (with_reducible repeat (first | apply Kd.R_alloc | apply Kd.R_drewN | apply Kd.R_drew)); exact Kd.R_mono HO247.out (fun _ hk => hk.2))⟩; have n1_ : Aside0 (Kd.R k31 31 w22 w.heap.size (fun k_ => some k_ ≠ (.slice Ao21 t245.length co21 : Value).ownBlock) v257 t255) := ⟨by rw [← hq_]; exact (by (with_reducible repeat (first | apply Kd.R_alloc | apply Kd.R_drewN | apply Kd.R_drew)); exact Kd.R_mono HO258.out (fun _ hk => hk.2))⟩; have n2_ : Aside0 (Below w.heap.size w w22) := ⟨by rw [← hq_]; exact (bel_ HB.out)⟩; clear HO247 HO258 HB hq_; have HO247 := n0_; have HO258 := n1_; have HB := n2_; clear n0_ n1_ n2_))
       have n0_ := Aside0.mk (Kd.R_drew HO247.out)
       have n1_ := Aside0.mk (Kd.R_drew HO258.out)
       have n2_ := Aside0.mk (below_drew1 HB.out)
       clear HO247
       clear HO258
       clear HB
       have HO247 := n0_
       have HO258 := n1_
       have HB := n2_
       clear n0_ n1_ n2_
       obtain ⟨Ao36, co36, eo36⟩ := Kd.R_slice HO258.out
       (first | subst eo36 | (injection eo36 with f1_ f2_ f3_; have f4_ := f1_.symm; have f5_ := f3_.symm; clear f1_ f2_ f3_; subst f4_; subst f5_))
       refine start_ (n := 30) (S := fun w' => True) (ds := []) (bs 30 0) (by kernel_rfl) rfl rfl trivial (fun hHeld => ?_); refine with_tabW laws_FnDelays.tab9 laws_FnDelays.bits9 (fun HT_ HW_ => ?_)
       generalize w22.drew = w35 at HO247 HO258 HB hHeld ⊢
       refine pu_ 0 53 HT_ (bs 30 1) rfl rfl ?_
       refine pu_ 1 54 HT_ (bs 30 3) rfl rfl ?_
       refine pu_ 2 55 HT_ (bs 30 7) rfl rfl ?_
       refine pu_ 3 56 HT_ (bs 30 15) rfl rfl ?_
       refine pu_ 4 57 HT_ (bs 30 31) rfl rfl ?_
       refine pu_ 5 58 HT_ (bs 30 63) rfl rfl ?_
       refine pu_ 6 59 HT_ (bs 30 127) rfl rfl ?_
       refine pu_ 7 60 HT_ (bs 30 255) rfl rfl ?_
       refine pu_ 8 61 HT_ (bs 30 511) rfl rfl ?_
       refine pu_ 9 62 HT_ (bs 30 1023) rfl rfl ?_
       refine pu_ 10 63 HT_ (bs 30 2047) rfl rfl ?_
       refine one_ (i := 11) (N := some 64) (bs 30 4095) rfl rfl (one_of HT_.out (by kernel_rfl)) (by decide) (fun K hK => ?_)
       refine goes_ Try.func12 (by kernel_rfl) rfl #[.slice Ao36 t255.length co36] (by rfl) rfl rfl ml_ ?_
       with_reducible refine (impl_LegsOk.calls _ _ t255 false _ ?side1 ?side2 A25.out).mono ?_
       (case side1 => exact rc_ (Kd.R_reads' HO258.out).2.2)
       (case side2 => exact (Kd.R_reads' HO258.out).2.1)
       rintro e w37 ⟨rfl, hb⟩
       refine ⟨_, rfl, ?_⟩
       have n0_ := Aside0.mk (Kd.R_below (fr_ HO247.out) hb)
       have n1_ := Aside0.mk (Kd.R_below (fr_ HO258.out) hb)
       have n2_ := Aside0.mk (below_step (bel_ HB.out) hb)
       clear HO247
       clear HO258
       clear HB
       have HO247 := n0_
       have HO258 := n1_
       have HB := n2_
       clear n0_ n1_ n2_
       (try clear hb)
       (try clear hb2)
       (try clear hk)
       (try clear hi)
       refine hK.out _ _ trivial (fun hHeld => ?_)
       clear hK K
       refine norm_ (a' := ?_) ?_ ?_
       rotate_left
       ·show Act.put _ (some 64) _ = _
        simp only [Act.put, sA_, sZ_, sS_, i64_w, i32_w]
        rfl
       refine pu_ 12 65 HT_ (bs 30 8191) rfl rfl ?_
       refine pu_ 13 66 HT_ (bs 30 16383) rfl rfl ?_
       refine pu_ 14 67 HT_ (bs 30 32767) rfl rfl ?_
       refine pn_ 15 68 HT_ (bs 30 65535) rfl rfl ?_
       refine pn_ 16 69 HT_ (bs 30 131071) rfl rfl ?_
       refine pn_ 17 70 HT_ (bs 30 262143) rfl rfl ?_
       refine pn_ 18 71 HT_ (bs 30 524287) rfl rfl ?_
       refine pn_ 19 72 HT_ (bs 30 1048575) rfl rfl ?_
       refine pn_ 20 73 HT_ (bs 30 2097151) rfl rfl ?_
       refine pn_ 21 74 HT_ (bs 30 4194303) rfl rfl ?_
       refine pn_ 22 75 HT_ (bs 30 8388607) rfl rfl ?_
       refine pn_ 23 76 HT_ (bs 30 16777215) rfl rfl ?_
       refine pn_ 24 77 HT_ (bs 30 33554431) rfl rfl ?_
       refine pn_ 25 78 HT_ (bs 30 67108863) rfl rfl ?_
       refine pn_ 26 79 HT_ (bs 30 134217727) rfl rfl ?_
       refine pn_ 27 80 HT_ (bs 30 268435455) rfl rfl ?_
       refine pn_ 28 81 HT_ (bs 30 536870911) rfl rfl ?_
       refine pu_ 29 82 HT_ (bs 30 1073741823) rfl rfl ?_
       refine done_ (done_of HT_.out (by kernel_rfl)) ?_
       try go_wp2
       go_meet
       case rel => exact ⟨_, (true), (by first | rfl | (simp; done) | (simp [*]; done) | (simp [wrap64]; done)), H', ⟨by first | omega | exact Nat.le_refl _⟩, ⟨by (with_reducible repeat (first | apply Kd.R_alloc | apply Kd.R_drewN | apply Kd.R_drew)); exact Kd.R_mono HO247.out (fun _ hk => hk.2)⟩, ⟨by (with_reducible repeat (first | apply Kd.R_alloc | apply Kd.R_drewN | apply Kd.R_drew)); exact Kd.R_mono HO258.out (fun _ hk => hk.2)⟩, ⟨bel_ HB.out⟩⟩
     ·as_aux_lemma =>
      rw [if_neg c24] at H
      have c24b0 : ((t255.length : Int) == (t245.length : Int)) = false := beq_eq_false_iff_ne.mpr c24
      have c24b1 : ((t255.length : Int) != (t245.length : Int)) = true := bne_iff_ne.mpr c24
      have c24b2 : (t255.length == t245.length) = false := by first | simpa using c24 | (simp at c24 ⊢; omega)
      (first | rw [c24b0] | (simp only [i64_w, i32_w]; rw [c24b0]) | skip)
      have H' := Aside0.mk H
      clear H
      try go_wp2
      (try ((rw [drewN_self w22]; generalize hq_ : World.drewN w22 _ = w22); have n0_ : Aside0 (Kd.R k31 31 w22 w.heap.size (fun k_ => some k_ ≠ (v257 : Value).ownBlock) (.slice Ao21 t245.length co21) t245) := ⟨by rw [← hq_]; exact (by (with_reducible repeat (first | apply Kd.R_alloc | apply Kd.R_drewN | apply Kd.R_drew)); exact Kd.R_mono HO247.out (fun _ hk => hk.2))⟩; have n1_ : Aside0 (Kd.R k31 31 w22 w.heap.size (fun k_ => some k_ ≠ (.slice Ao21 t245.length co21 : Value).ownBlock) v257 t255) := ⟨by rw [← hq_]; exact (by (with_reducible repeat (first | apply Kd.R_alloc | apply Kd.R_drewN | apply Kd.R_drew)); exact Kd.R_mono HO258.out (fun _ hk => hk.2))⟩; have n2_ : Aside0 (Below w.heap.size w w22) := ⟨by rw [← hq_]; exact (bel_ HB.out)⟩; clear HO247 HO258 HB hq_; have HO247 := n0_; have HO258 := n1_; have HB := n2_; clear n0_ n1_ n2_))
      have n0_ := Aside0.mk (Kd.R_drew HO247.out)
      have n1_ := Aside0.mk (Kd.R_drew HO258.out)
      have n2_ := Aside0.mk (below_drew1 HB.out)
      clear HO247
      clear HO258
      clear HB
      have HO247 := n0_
      have HO258 := n1_
      have HB := n2_
      clear n0_ n1_ n2_
      obtain ⟨Ao39, co39, eo39⟩ := Kd.R_slice HO258.out
      (first | subst eo39 | (injection eo39 with f1_ f2_ f3_; have f4_ := f1_.symm; have f5_ := f3_.symm; clear f1_ f2_ f3_; subst f4_; subst f5_))
      refine start_ (n := 30) (S := fun w' => True) (ds := []) (bs 30 0) (by kernel_rfl) rfl rfl trivial (fun hHeld => ?_); refine with_tabW laws_FnDelays.tab9 laws_FnDelays.bits9 (fun HT_ HW_ => ?_)
      generalize w22.drew = w38 at HO247 HO258 HB hHeld ⊢
      refine pu_ 0 53 HT_ (bs 30 1) rfl rfl ?_
      refine pu_ 1 54 HT_ (bs 30 3) rfl rfl ?_
      refine pu_ 2 55 HT_ (bs 30 7) rfl rfl ?_
      refine pu_ 3 56 HT_ (bs 30 15) rfl rfl ?_
      refine pu_ 4 57 HT_ (bs 30 31) rfl rfl ?_
      refine pu_ 5 58 HT_ (bs 30 63) rfl rfl ?_
      refine pu_ 6 59 HT_ (bs 30 127) rfl rfl ?_
      refine pu_ 7 60 HT_ (bs 30 255) rfl rfl ?_
      refine pu_ 8 61 HT_ (bs 30 511) rfl rfl ?_
      refine pu_ 9 62 HT_ (bs 30 1023) rfl rfl ?_
      refine pn_ 10 63 HT_ (bs 30 2047) rfl rfl ?_
      refine pn_ 11 64 HT_ (bs 30 4095) rfl rfl ?_
      refine pn_ 12 65 HT_ (bs 30 8191) rfl rfl ?_
      refine pu_ 13 66 HT_ (bs 30 16383) rfl rfl ?_
      refine pu_ 14 67 HT_ (bs 30 32767) rfl rfl ?_
      refine pn_ 15 68 HT_ (bs 30 65535) rfl rfl ?_
      refine pn_ 16 69 HT_ (bs 30 131071) rfl rfl ?_
      refine pn_ 17 70 HT_ (bs 30 262143) rfl rfl ?_
      refine pn_ 18 71 HT_ (bs 30 524287) rfl rfl ?_
      refine pn_ 19 72 HT_ (bs 30 1048575) rfl rfl ?_
      refine pn_ 20 73 HT_ (bs 30 2097151) rfl rfl ?_
      refine pn_ 21 74 HT_ (bs 30 4194303) rfl rfl ?_
      refine pn_ 22 75 HT_ (bs 30 8388607) rfl rfl ?_
      refine pn_ 23 76 HT_ (bs 30 16777215) rfl rfl ?_
      refine pn_ 24 77 HT_ (bs 30 33554431) rfl rfl ?_
      refine pn_ 25 78 HT_ (bs 30 67108863) rfl rfl ?_
      refine pn_ 26 79 HT_ (bs 30 134217727) rfl rfl ?_
      refine pn_ 27 80 HT_ (bs 30 268435455) rfl rfl ?_
      refine pn_ 28 81 HT_ (bs 30 536870911) rfl rfl ?_
      refine pu_ 29 82 HT_ (bs 30 1073741823) rfl rfl ?_
      refine done_ (done_of HT_.out (by kernel_rfl)) ?_
      try go_wp2
      go_meet
      case rel => exact ⟨_, (true), (by first | rfl | (simp; done) | (simp [*]; done) | (simp [wrap64]; done)), H', ⟨by first | omega | exact Nat.le_refl _⟩, ⟨by (with_reducible repeat (first | apply Kd.R_alloc | apply Kd.R_drewN | apply Kd.R_drew)); exact Kd.R_mono HO247.out (fun _ hk => hk.2)⟩, ⟨by (with_reducible repeat (first | apply Kd.R_alloc | apply Kd.R_drewN | apply Kd.R_drew)); exact Kd.R_mono HO258.out (fun _ hk => hk.2)⟩, ⟨bel_ HB.out⟩⟩
    ·as_aux_lemma =>
     replace c23 := Bool.eq_false_iff.mpr c23
     subst c23
     have H1 : (laws_FnDelays.j0 k l0 t245 (Int.tmod t252 (t245.length : Int)) t255 true) = some r := by rw [if_neg (show ¬ (false = true) by decide)] at H; exact H
     clear H
     have H := H1
     clear H1
     have H' := Aside0.mk H
     clear H
     try go_wp2
     (try ((rw [drewN_self w22]; generalize hq_ : World.drewN w22 _ = w22); have n0_ : Aside0 (Kd.R k31 31 w22 w.heap.size (fun k_ => some k_ ≠ (v257 : Value).ownBlock) (.slice Ao21 t245.length co21) t245) := ⟨by rw [← hq_]; exact (by (with_reducible repeat (first | apply Kd.R_alloc | apply Kd.R_drewN | apply Kd.R_drew)); exact Kd.R_mono HO247.out (fun _ hk => hk.2))⟩; have n1_ : Aside0 (Kd.R k31 31 w22 w.heap.size (fun k_ => some k_ ≠ (.slice Ao21 t245.length co21 : Value).ownBlock) v257 t255) := ⟨by rw [← hq_]; exact (by (with_reducible repeat (first | apply Kd.R_alloc | apply Kd.R_drewN | apply Kd.R_drew)); exact Kd.R_mono HO258.out (fun _ hk => hk.2))⟩; have n2_ : Aside0 (Below w.heap.size w w22) := ⟨by rw [← hq_]; exact (bel_ HB.out)⟩; clear HO247 HO258 HB hq_; have HO247 := n0_; have HO258 := n1_; have HB := n2_; clear n0_ n1_ n2_))
     have n0_ := Aside0.mk (Kd.R_drew HO247.out)
     have n1_ := Aside0.mk (Kd.R_drew HO258.out)
     have n2_ := Aside0.mk (below_drew1 HB.out)
     clear HO247
     clear HO258
     clear HB
     have HO247 := n0_
     have HO258 := n1_
     have HB := n2_
     clear n0_ n1_ n2_
     refine start_ (n := 30) (S := fun w' => True) (ds := []) (bs 30 0) (by kernel_rfl) rfl rfl trivial (fun hHeld => ?_); refine with_tabW laws_FnDelays.tab9 laws_FnDelays.bits9 (fun HT_ HW_ => ?_)
     generalize w22.drew = w40 at HO247 HO258 HB hHeld ⊢
     refine pu_ 0 53 HT_ (bs 30 1) rfl rfl ?_
     refine pu_ 1 54 HT_ (bs 30 3) rfl rfl ?_
     refine pu_ 2 55 HT_ (bs 30 7) rfl rfl ?_
     refine pn_ 3 56 HT_ (bs 30 15) rfl rfl ?_
     refine pn_ 4 57 HT_ (bs 30 31) rfl rfl ?_
     refine pn_ 5 58 HT_ (bs 30 63) rfl rfl ?_
     refine pn_ 6 59 HT_ (bs 30 127) rfl rfl ?_
     refine pn_ 7 60 HT_ (bs 30 255) rfl rfl ?_
     refine pu_ 8 61 HT_ (bs 30 511) rfl rfl ?_
     refine pu_ 9 62 HT_ (bs 30 1023) rfl rfl ?_
     refine pn_ 10 63 HT_ (bs 30 2047) rfl rfl ?_
     refine pn_ 11 64 HT_ (bs 30 4095) rfl rfl ?_
     refine pn_ 12 65 HT_ (bs 30 8191) rfl rfl ?_
     refine pu_ 13 66 HT_ (bs 30 16383) rfl rfl ?_
     refine pu_ 14 67 HT_ (bs 30 32767) rfl rfl ?_
     refine pn_ 15 68 HT_ (bs 30 65535) rfl rfl ?_
     refine pn_ 16 69 HT_ (bs 30 131071) rfl rfl ?_
     refine pn_ 17 70 HT_ (bs 30 262143) rfl rfl ?_
     refine pn_ 18 71 HT_ (bs 30 524287) rfl rfl ?_
     refine pn_ 19 72 HT_ (bs 30 1048575) rfl rfl ?_
     refine pn_ 20 73 HT_ (bs 30 2097151) rfl rfl ?_
     refine pn_ 21 74 HT_ (bs 30 4194303) rfl rfl ?_
     refine pn_ 22 75 HT_ (bs 30 8388607) rfl rfl ?_
     refine pn_ 23 76 HT_ (bs 30 16777215) rfl rfl ?_
     refine pn_ 24 77 HT_ (bs 30 33554431) rfl rfl ?_
     refine pn_ 25 78 HT_ (bs 30 67108863) rfl rfl ?_
     refine pn_ 26 79 HT_ (bs 30 134217727) rfl rfl ?_
     refine pn_ 27 80 HT_ (bs 30 268435455) rfl rfl ?_
     refine pn_ 28 81 HT_ (bs 30 536870911) rfl rfl ?_
     refine pu_ 29 82 HT_ (bs 30 1073741823) rfl rfl ?_
     refine done_ (done_of HT_.out (by kernel_rfl)) ?_
     try go_wp2
     go_meet
     case rel => exact ⟨_, (true), (by first | rfl | (simp; done) | (simp [*]; done) | (simp [wrap64]; done)), H', ⟨by first | omega | exact Nat.le_refl _⟩, ⟨by (with_reducible repeat (first | apply Kd.R_alloc | apply Kd.R_drewN | apply Kd.R_drew)); exact Kd.R_mono HO247.out (fun _ hk => hk.2)⟩, ⟨by (with_reducible repeat (first | apply Kd.R_alloc | apply Kd.R_drewN | apply Kd.R_drew)); exact Kd.R_mono HO258.out (fun _ hk => hk.2)⟩, ⟨bel_ HB.out⟩⟩
   case rest =>
    clear HC19
    obtain ⟨kq, x82_18, rfl, HA, HJ18, HO_3, HO_7, HB⟩ := hcut
    cases kq with
    | zero => exact absurd HA.out (by simp [laws_FnDelays.j0])
    | succ kj18 =>
     have H := HA.out
     clear HA
     simp only [laws_FnDelays.j0] at H
     by_cases c41 : x82_18 = true
     ·subst c41
      have H1 : (some false) = some r := by rw [if_pos rfl] at H; exact H
      clear H
      have H := H1
      clear H1
      obtain rfl := Option.some.inj H
      go_wp2
      go_ret
      exact ⟨by first | rfl | (simp [errW_none, errW_some] <;> rfl) | (simp [*, errW_none, errW_some] <;> rfl), bel_ HB.out⟩
     ·replace c41 := Bool.eq_false_iff.mpr c41
      subst c41
      have H1 : (laws_FnDelays.l0 kj18 l0 t245 (Int.tmod t252 (t245.length : Int)) t255 0) = some r := by rw [if_neg (show ¬ (false = true) by decide)] at H; exact H
      clear H
      have H := H1
      clear H1
      have H' := Aside0.mk H
      clear H
      go_wp2
      go_loopg [9] kj18 (fun kq v9 w' => ∃ (x9_2 : Int), v9 = .int .i64 x9_2 ∧ Aside0 (laws_FnDelays.l0 kq l0 t245 (Int.tmod t252 (t245.length : Int)) t255 x9_2 = some r) ∧ Aside0 (kq ≤ kj18) ∧ Aside0 (Kd.R k31 31 w' w.heap.size (fun k_ => some k_ ≠ (v257 : Value).ownBlock) (.slice Ao21 t245.length co21) t245) ∧ Aside0 (Kd.R k31 31 w' w.heap.size (fun k_ => some k_ ≠ ((.slice Ao21 t245.length co21) : Value).ownBlock) v257 t255) ∧ Aside0 (Below w.heap.size w w'))
      case atStart => exact ⟨(0), (by first | rfl | (simp; done) | (simp [*]; done) | (simp [wrap64]; done)), H', ⟨Nat.le_refl _⟩, ⟨by (with_reducible repeat (first | apply Kd.R_alloc | apply Kd.R_drewN | apply Kd.R_drew)); exact HO_3.out⟩, ⟨by (with_reducible repeat (first | apply Kd.R_alloc | apply Kd.R_drewN | apply Kd.R_drew)); exact HO_7.out⟩, ⟨bel_ HB.out⟩⟩
      case round =>
       clear H'
       try clear c41
       obtain ⟨x9_2, rfl, HA, HK2, HO_3, HO_7, HB⟩ := hrel
       cases gk with
       | zero => exact absurd HA.out (by simp [laws_FnDelays.l0])
       | succ k2 =>
        have H := HA.out
        clear HA
        simp only [laws_FnDelays.l0] at H
        by_cases c42 : x9_2 < (t255.length : Int)
        ·rw [if_pos c42] at H
         have c42b0 : decide (x9_2 < (t255.length : Int)) = true := decide_eq_true c42
         clear c42
         by_cases c43 : 0 ≤ x9_2
         ·rw [if_pos c43] at H
          have c43b0 : decide (0 ≤ x9_2) = true := decide_eq_true c43
          clear c43
          by_cases c44 : x9_2 < (t245.length : Int)
          ·rw [if_pos c44] at H
           have c44b0 : decide (x9_2 < (t245.length : Int)) = true := decide_eq_true c44
           clear c44
           by_cases c45 : ((rd_T31 t255 x9_2).f3) < ((rd_T31 t245 x9_2).f3)
           ·as_aux_lemma =>
            rw [if_pos c45] at H
            have c45b0 : decide (((rd_T31 t255 x9_2).f3) < ((rd_T31 t245 x9_2).f3)) = true := decide_eq_true c45
            clear c45
            obtain rfl := Option.some.inj H
            obtain ⟨Ao46, co46, eo46⟩ := Kd.R_slice HO_7.out
            subst eo46
            try go_wp2
            have n0_ := Aside0.mk (Kd.R_drew HO_3.out)
            have n1_ := Aside0.mk (Kd.R_drew HO_7.out)
            have n2_ := Aside0.mk (below_drew1 HB.out)
            clear HO_3
            clear HO_7
            clear HB
            have HO_3 := n0_
            have HO_7 := n1_
            have HB := n2_
            clear n0_ n1_ n2_
            have p263 : 0 ≤ (x9_2 : Int) := of_decide_eq_true (by first | (with_reducible assumption) | assumption)
            have q263 : x9_2 < (t255.length : Int) := of_decide_eq_true (by first | (with_reducible assumption) | assumption)
            obtain ⟨ad263, e263, hx263_0, hx263_1, hx263_2, hx263_3, hx263_4, hx263_5⟩ := at_T31 (Kd.R_reads' HO_7.out).2.2 x9_2 p263 q263
            cases e263
            replace p263 := eq_true p263
            replace q263 := eq_true q263
            have p264 : 0 ≤ (x9_2 : Int) := of_decide_eq_true (by first | (with_reducible assumption) | assumption)
            have q264 : x9_2 < (t245.length : Int) := of_decide_eq_true (by first | (with_reducible assumption) | assumption)
            obtain ⟨ad264, e264, hx264_0, hx264_1, hx264_2, hx264_3, hx264_4, hx264_5⟩ := at_T31 (Kd.R_reads' HO_3.out).2.2 x9_2 p264 q264
            cases e264
            replace p264 := eq_true p264
            replace q264 := eq_true q264
            refine start_ (n := 65) (S := fun w' => w'.cell? (ad263.add ((x9_2).toNat * 6)) = some (.int .i64 ((rd_T31 t255 x9_2).f0)) ∧ w'.cell? ⟨(ad263.add ((x9_2).toNat * 6)).block, (ad263.add ((x9_2).toNat * 6)).off + 1, none⟩ = some (.int .i64 ((rd_T31 t255 x9_2).f1)) ∧ w'.cell? ⟨(ad263.add ((x9_2).toNat * 6)).block, (ad263.add ((x9_2).toNat * 6)).off + 2, none⟩ = some (.int .i64 ((rd_T31 t255 x9_2).f2)) ∧ w'.cell? ⟨(ad263.add ((x9_2).toNat * 6)).block, (ad263.add ((x9_2).toNat * 6)).off + 3, none⟩ = some (.int .i64 ((rd_T31 t255 x9_2).f3)) ∧ w'.cell? ⟨(ad263.add ((x9_2).toNat * 6)).block, (ad263.add ((x9_2).toNat * 6)).off + 4, none⟩ = some (.int .i64 ((rd_T31 t255 x9_2).f4)) ∧ w'.cell? ⟨(ad263.add ((x9_2).toNat * 6)).block, (ad263.add ((x9_2).toNat * 6)).off + 5, none⟩ = some (.int .i64 ((rd_T31 t255 x9_2).f5)) ∧ w'.cell? (ad264.add ((x9_2).toNat * 6)) = some (.int .i64 ((rd_T31 t245 x9_2).f0)) ∧ w'.cell? ⟨(ad264.add ((x9_2).toNat * 6)).block, (ad264.add ((x9_2).toNat * 6)).off + 1, none⟩ = some (.int .i64 ((rd_T31 t245 x9_2).f1)) ∧ w'.cell? ⟨(ad264.add ((x9_2).toNat * 6)).block, (ad264.add ((x9_2).toNat * 6)).off + 2, none⟩ = some (.int .i64 ((rd_T31 t245 x9_2).f2)) ∧ w'.cell? ⟨(ad264.add ((x9_2).toNat * 6)).block, (ad264.add ((x9_2).toNat * 6)).off + 3, none⟩ = some (.int .i64 ((rd_T31 t245 x9_2).f3)) ∧ w'.cell? ⟨(ad264.add ((x9_2).toNat * 6)).block, (ad264.add ((x9_2).toNat * 6)).off + 4, none⟩ = some (.int .i64 ((rd_T31 t245 x9_2).f4)) ∧ w'.cell? ⟨(ad264.add ((x9_2).toNat * 6)).block, (ad264.add ((x9_2).toNat * 6)).off + 5, none⟩ = some (.int .i64 ((rd_T31 t245 x9_2).f5))) (ds := []) (bs 65 0) (by kernel_rfl) rfl rfl ⟨hx263_0, hx263_1, hx263_2, hx263_3, hx263_4, hx263_5, hx264_0, hx264_1, hx264_2, hx264_3, hx264_4, hx264_5⟩ (fun hHeld => ?_); refine with_tabW laws_FnDelays.tab14 laws_FnDelays.bits14 (fun HT_ HW_ => ?_)
            generalize wr.drew = w47 at HO_3 HO_7 HB hx263_0 hx263_1 hx263_2 hx263_3 hx263_4 hx263_5 hx264_0 hx264_1 hx264_2 hx264_3 hx264_4 hx264_5 hHeld ⊢
            refine pu_ 0 89 HT_ (bs 65 1) rfl rfl ?_
            refine pu_ 1 90 HT_ (bs 65 3) rfl rfl ?_
            refine pu_ 2 91 HT_ (bs 65 7) rfl rfl ?_
            refine pu_ 3 92 HT_ (bs 65 15) rfl rfl ?_
            refine pu_ 5 94 HT_ (bs 65 47) rfl rfl ?_
            refine pu_ 6 95 HT_ (bs 65 111) rfl rfl ?_
            refine pu_ 7 96 HT_ (bs 65 239) rfl rfl ?_
            refine pu_ 8 97 HT_ (bs 65 495) rfl rfl ?_
            refine take_ (i := 4) (N := some 93) (v := ?_) (a' := ?_) (bs 65 511) rfl rfl (take_ofW HT_.out HW_.out (by kernel_rfl)) (fun _ _ _ h => h) (Or.inl ⟨by rfl, ?_⟩) hHeld ?_ ?_
            rotate_left
            ·rintro w' ⟨s0, s1, s2, s3, s4, s5, s6, s7, s8, s9, s10, s11⟩
             go_simp
             with_reducible rfl
            rotate_left
            ·simp only [Act.put, sA_, sZ_, sS_, i64_w, i32_w]
             rfl
            refine take_ (i := 9) (N := some 98) (v := ?_) (a' := ?_) (bs 65 1023) rfl rfl (take_ofW HT_.out HW_.out (by kernel_rfl)) (fun _ _ _ h => h) (Or.inl ⟨by rfl, ?_⟩) hHeld ?_ ?_
            rotate_left
            ·rintro w' ⟨s0, s1, s2, s3, s4, s5, s6, s7, s8, s9, s10, s11⟩
             go_simp
             with_reducible rfl
            rotate_left
            ·simp only [Act.put, sA_, sZ_, sS_, i64_w, i32_w]
             rfl
            refine pu_ 10 99 HT_ (bs 65 2047) rfl rfl ?_
            refine pu_ 11 100 HT_ (bs 65 4095) rfl rfl ?_
            refine pn_ 12 101 HT_ (bs 65 8191) rfl rfl ?_
            refine pn_ 13 102 HT_ (bs 65 16383) rfl rfl ?_
            refine pn_ 14 103 HT_ (bs 65 32767) rfl rfl ?_
            refine pn_ 15 104 HT_ (bs 65 65535) rfl rfl ?_
            refine pn_ 16 105 HT_ (bs 65 131071) rfl rfl ?_
            refine pn_ 17 106 HT_ (bs 65 262143) rfl rfl ?_
            refine pn_ 18 107 HT_ (bs 65 524287) rfl rfl ?_
            refine pn_ 19 108 HT_ (bs 65 1048575) rfl rfl ?_
            refine pn_ 20 109 HT_ (bs 65 2097151) rfl rfl ?_
            refine pn_ 21 110 HT_ (bs 65 4194303) rfl rfl ?_
            refine pn_ 22 111 HT_ (bs 65 8388607) rfl rfl ?_
            refine pn_ 23 112 HT_ (bs 65 16777215) rfl rfl ?_
            refine pn_ 24 113 HT_ (bs 65 33554431) rfl rfl ?_
            refine pn_ 25 114 HT_ (bs 65 67108863) rfl rfl ?_
            refine pn_ 26 115 HT_ (bs 65 134217727) rfl rfl ?_
            refine pn_ 27 116 HT_ (bs 65 268435455) rfl rfl ?_
            refine pn_ 28 117 HT_ (bs 65 536870911) rfl rfl ?_
            refine pn_ 29 118 HT_ (bs 65 1073741823) rfl rfl ?_
            refine pn_ 30 119 HT_ (bs 65 2147483647) rfl rfl ?_
            refine pn_ 31 120 HT_ (bs 65 4294967295) rfl rfl ?_
            refine pn_ 32 121 HT_ (bs 65 8589934591) rfl rfl ?_
            refine pn_ 33 122 HT_ (bs 65 17179869183) rfl rfl ?_
            refine pn_ 34 123 HT_ (bs 65 34359738367) rfl rfl ?_
            refine pu_ 35 124 HT_ (bs 65 68719476735) rfl rfl ?_
            refine pu_ 36 125 HT_ (bs 65 137438953471) rfl rfl ?_
            refine pn_ 37 126 HT_ (bs 65 274877906943) rfl rfl ?_
            refine pn_ 38 127 HT_ (bs 65 549755813887) rfl rfl ?_
            refine pn_ 39 128 HT_ (bs 65 1099511627775) rfl rfl ?_
            refine pn_ 40 129 HT_ (bs 65 2199023255551) rfl rfl ?_
            refine pn_ 41 130 HT_ (bs 65 4398046511103) rfl rfl ?_
            refine pn_ 42 131 HT_ (bs 65 8796093022207) rfl rfl ?_
            refine pn_ 43 132 HT_ (bs 65 17592186044415) rfl rfl ?_
            refine pn_ 44 133 HT_ (bs 65 35184372088831) rfl rfl ?_
            refine pn_ 45 134 HT_ (bs 65 70368744177663) rfl rfl ?_
            refine pn_ 46 135 HT_ (bs 65 140737488355327) rfl rfl ?_
            refine pn_ 47 136 HT_ (bs 65 281474976710655) rfl rfl ?_
            refine pn_ 48 137 HT_ (bs 65 562949953421311) rfl rfl ?_
            refine pn_ 49 138 HT_ (bs 65 1125899906842623) rfl rfl ?_
            refine pn_ 50 139 HT_ (bs 65 2251799813685247) rfl rfl ?_
            refine pn_ 51 140 HT_ (bs 65 4503599627370495) rfl rfl ?_
            refine pn_ 52 141 HT_ (bs 65 9007199254740991) rfl rfl ?_
            refine pn_ 53 142 HT_ (bs 65 18014398509481983) rfl rfl ?_
            refine pn_ 54 143 HT_ (bs 65 36028797018963967) rfl rfl ?_
            refine pn_ 55 144 HT_ (bs 65 72057594037927935) rfl rfl ?_
            refine pn_ 56 145 HT_ (bs 65 144115188075855871) rfl rfl ?_
            refine pn_ 57 146 HT_ (bs 65 288230376151711743) rfl rfl ?_
            refine pn_ 58 147 HT_ (bs 65 576460752303423487) rfl rfl ?_
            refine pn_ 59 148 HT_ (bs 65 1152921504606846975) rfl rfl ?_
            refine pn_ 60 149 HT_ (bs 65 2305843009213693951) rfl rfl ?_
            refine pn_ 61 150 HT_ (bs 65 4611686018427387903) rfl rfl ?_
            refine pn_ 62 151 HT_ (bs 65 9223372036854775807) rfl rfl ?_
            refine pn_ 63 152 HT_ (bs 65 18446744073709551615) rfl rfl ?_
            refine pu_ 64 153 HT_ (bs 65 36893488147419103231) rfl rfl ?_
            refine done_ (done_of HT_.out (by kernel_rfl)) ?_
            try go_wp2
            go_ret
            exact ⟨by first | rfl | (simp [errW_none, errW_some] <;> rfl) | (simp [*, errW_none, errW_some] <;> rfl), bel_ HB.out⟩
           ·rw [if_neg c45] at H
            have c45b0 : decide (((rd_T31 t255 x9_2).f3) < ((rd_T31 t245 x9_2).f3)) = false := decide_eq_false c45
            clear c45
            by_cases c48 : (wrap64 (((rd_T31 t255 x9_2).f4) - ((rd_T31 t245 x9_2).f4))) = (wrap64 (((rd_T31 t255 x9_2).f3) - ((rd_T31 t245 x9_2).f3)))
            ·rw [if_pos c48] at H
             have c48b0 : ((wrap64 (((rd_T31 t255 x9_2).f4) - ((rd_T31 t245 x9_2).f4))) == (wrap64 (((rd_T31 t255 x9_2).f3) - ((rd_T31 t245 x9_2).f3)))) = true := beq_iff_eq.mpr c48
             have c48b1 : ((wrap64 (((rd_T31 t255 x9_2).f4) - ((rd_T31 t245 x9_2).f4))) != (wrap64 (((rd_T31 t255 x9_2).f3) - ((rd_T31 t245 x9_2).f3)))) = false := bne_eq_false_iff_eq.mpr c48
             clear c48
             by_cases c49 : x9_2 < (Int.tmod t252 (t245.length : Int))
             ·rw [if_pos c49] at H
              have c49b0 : decide (x9_2 < (Int.tmod t252 (t245.length : Int))) = true := decide_eq_true c49
              clear c49
              by_cases c50 : (!(((rd_T31 t255 x9_2).f0) == ((rd_T31 t245 x9_2).f0)) || (!(((rd_T31 t255 x9_2).f1) == ((rd_T31 t245 x9_2).f1)) || (!(((rd_T31 t255 x9_2).f2) == ((rd_T31 t245 x9_2).f2)) || (!(((rd_T31 t255 x9_2).f3) == ((rd_T31 t245 x9_2).f3)) || (!(((rd_T31 t255 x9_2).f4) == ((rd_T31 t245 x9_2).f4)) || (!(((rd_T31 t255 x9_2).f5) == ((rd_T31 t245 x9_2).f5)))))))) = true
              ·as_aux_lemma =>
               rw [if_pos c50] at H
               have c50b0 : (!(((rd_T31 t255 x9_2).f0) == ((rd_T31 t245 x9_2).f0)) || (!(((rd_T31 t255 x9_2).f1) == ((rd_T31 t245 x9_2).f1)) || (!(((rd_T31 t255 x9_2).f2) == ((rd_T31 t245 x9_2).f2)) || (!(((rd_T31 t255 x9_2).f3) == ((rd_T31 t245 x9_2).f3)) || (!(((rd_T31 t255 x9_2).f4) == ((rd_T31 t245 x9_2).f4)) || (!(((rd_T31 t255 x9_2).f5) == ((rd_T31 t245 x9_2).f5)))))))) = true := c50
               clear c50
               obtain rfl := Option.some.inj H
               obtain ⟨Ao51, co51, eo51⟩ := Kd.R_slice HO_7.out
               subst eo51
               try go_wp2
               have n0_ := Aside0.mk (Kd.R_drew HO_3.out)
               have n1_ := Aside0.mk (Kd.R_drew HO_7.out)
               have n2_ := Aside0.mk (below_drew1 HB.out)
               clear HO_3
               clear HO_7
               clear HB
               have HO_3 := n0_
               have HO_7 := n1_
               have HB := n2_
               clear n0_ n1_ n2_
               have p263 : 0 ≤ (x9_2 : Int) := of_decide_eq_true (by first | (with_reducible assumption) | assumption)
               have q263 : x9_2 < (t255.length : Int) := of_decide_eq_true (by first | (with_reducible assumption) | assumption)
               obtain ⟨ad263, e263, hx263_0, hx263_1, hx263_2, hx263_3, hx263_4, hx263_5⟩ := at_T31 (Kd.R_reads' HO_7.out).2.2 x9_2 p263 q263
               cases e263
               replace p263 := eq_true p263
               replace q263 := eq_true q263
               have p264 : 0 ≤ (x9_2 : Int) := of_decide_eq_true (by first | (with_reducible assumption) | assumption)
               have q264 : x9_2 < (t245.length : Int) := of_decide_eq_true (by first | (with_reducible assumption) | assumption)
               obtain ⟨ad264, e264, hx264_0, hx264_1, hx264_2, hx264_3, hx264_4, hx264_5⟩ := at_T31 (Kd.R_reads' HO_3.out).2.2 x9_2 p264 q264
               cases e264
               replace p264 := eq_true p264
               replace q264 := eq_true q264
               have p265 : 0 ≤ (x9_2 : Int) := of_decide_eq_true (by first | (with_reducible assumption) | assumption)
               have q265 : x9_2 < (t255.length : Int) := of_decide_eq_true (by first | (with_reducible assumption) | assumption)
               obtain ⟨ad265, e265, hx265_0, hx265_1, hx265_2, hx265_3, hx265_4, hx265_5⟩ := at_T31 (Kd.R_reads' HO_7.out).2.2 x9_2 p265 q265
               obtain rfl : ad263 = ad265 := (by injection e265)
               replace p265 := eq_true p265
               replace q265 := eq_true q265
               have p266 : 0 ≤ (x9_2 : Int) := of_decide_eq_true (by first | (with_reducible assumption) | assumption)
               have q266 : x9_2 < (t245.length : Int) := of_decide_eq_true (by first | (with_reducible assumption) | assumption)
               obtain ⟨ad266, e266, hx266_0, hx266_1, hx266_2, hx266_3, hx266_4, hx266_5⟩ := at_T31 (Kd.R_reads' HO_3.out).2.2 x9_2 p266 q266
               obtain rfl : ad264 = ad266 := (by injection e266)
               replace p266 := eq_true p266
               replace q266 := eq_true q266
               have p267 : 0 ≤ (x9_2 : Int) := of_decide_eq_true (by first | (with_reducible assumption) | assumption)
               have q267 : x9_2 < (t255.length : Int) := of_decide_eq_true (by first | (with_reducible assumption) | assumption)
               obtain ⟨ad267, e267, hx267_0, hx267_1, hx267_2, hx267_3, hx267_4, hx267_5⟩ := at_T31 (Kd.R_reads' HO_7.out).2.2 x9_2 p267 q267
               obtain rfl : ad263 = ad267 := (by injection e267)
               replace p267 := eq_true p267
               replace q267 := eq_true q267
               have p268 : 0 ≤ (x9_2 : Int) := of_decide_eq_true (by first | (with_reducible assumption) | assumption)
               have q268 : x9_2 < (t245.length : Int) := of_decide_eq_true (by first | (with_reducible assumption) | assumption)
               obtain ⟨ad268, e268, hx268_0, hx268_1, hx268_2, hx268_3, hx268_4, hx268_5⟩ := at_T31 (Kd.R_reads' HO_3.out).2.2 x9_2 p268 q268
               obtain rfl : ad264 = ad268 := (by injection e268)
               replace p268 := eq_true p268
               replace q268 := eq_true q268
               have p269 : 0 ≤ (x9_2 : Int) := of_decide_eq_true (by first | (with_reducible assumption) | assumption)
               have q269 : x9_2 < (t255.length : Int) := of_decide_eq_true (by first | (with_reducible assumption) | assumption)
               obtain ⟨ad269, e269, hx269_0, hx269_1, hx269_2, hx269_3, hx269_4, hx269_5⟩ := at_T31 (Kd.R_reads' HO_7.out).2.2 x9_2 p269 q269
               obtain rfl : ad263 = ad269 := (by injection e269)
               replace p269 := eq_true p269
               replace q269 := eq_true q269
               have p270 : 0 ≤ (x9_2 : Int) := of_decide_eq_true (by first | (with_reducible assumption) | assumption)
               have q270 : x9_2 < (t245.length : Int) := of_decide_eq_true (by first | (with_reducible assumption) | assumption)
               obtain ⟨ad270, e270, hx270_0, hx270_1, hx270_2, hx270_3, hx270_4, hx270_5⟩ := at_T31 (Kd.R_reads' HO_3.out).2.2 x9_2 p270 q270
               obtain rfl : ad264 = ad270 := (by injection e270)
               replace p270 := eq_true p270
               replace q270 := eq_true q270
               refine start_ (n := 65) (S := fun w' => w'.cell? (ad263.add ((x9_2).toNat * 6)) = some (.int .i64 ((rd_T31 t255 x9_2).f0)) ∧ w'.cell? ⟨(ad263.add ((x9_2).toNat * 6)).block, (ad263.add ((x9_2).toNat * 6)).off + 1, none⟩ = some (.int .i64 ((rd_T31 t255 x9_2).f1)) ∧ w'.cell? ⟨(ad263.add ((x9_2).toNat * 6)).block, (ad263.add ((x9_2).toNat * 6)).off + 2, none⟩ = some (.int .i64 ((rd_T31 t255 x9_2).f2)) ∧ w'.cell? ⟨(ad263.add ((x9_2).toNat * 6)).block, (ad263.add ((x9_2).toNat * 6)).off + 3, none⟩ = some (.int .i64 ((rd_T31 t255 x9_2).f3)) ∧ w'.cell? ⟨(ad263.add ((x9_2).toNat * 6)).block, (ad263.add ((x9_2).toNat * 6)).off + 4, none⟩ = some (.int .i64 ((rd_T31 t255 x9_2).f4)) ∧ w'.cell? ⟨(ad263.add ((x9_2).toNat * 6)).block, (ad263.add ((x9_2).toNat * 6)).off + 5, none⟩ = some (.int .i64 ((rd_T31 t255 x9_2).f5)) ∧ w'.cell? (ad264.add ((x9_2).toNat * 6)) = some (.int .i64 ((rd_T31 t245 x9_2).f0)) ∧ w'.cell? ⟨(ad264.add ((x9_2).toNat * 6)).block, (ad264.add ((x9_2).toNat * 6)).off + 1, none⟩ = some (.int .i64 ((rd_T31 t245 x9_2).f1)) ∧ w'.cell? ⟨(ad264.add ((x9_2).toNat * 6)).block, (ad264.add ((x9_2).toNat * 6)).off + 2, none⟩ = some (.int .i64 ((rd_T31 t245 x9_2).f2)) ∧ w'.cell? ⟨(ad264.add ((x9_2).toNat * 6)).block, (ad264.add ((x9_2).toNat * 6)).off + 3, none⟩ = some (.int .i64 ((rd_T31 t245 x9_2).f3)) ∧ w'.cell? ⟨(ad264.add ((x9_2).toNat * 6)).block, (ad264.add ((x9_2).toNat * 6)).off + 4, none⟩ = some (.int .i64 ((rd_T31 t245 x9_2).f4)) ∧ w'.cell? ⟨(ad264.add ((x9_2).toNat * 6)).block, (ad264.add ((x9_2).toNat * 6)).off + 5, none⟩ = some (.int .i64 ((rd_T31 t245 x9_2).f5)) ∧ w'.cell? (ad263.add ((x9_2).toNat * 6)) = some (.int .i64 ((rd_T31 t255 x9_2).f0)) ∧ w'.cell? ⟨(ad263.add ((x9_2).toNat * 6)).block, (ad263.add ((x9_2).toNat * 6)).off + 1, none⟩ = some (.int .i64 ((rd_T31 t255 x9_2).f1)) ∧ w'.cell? ⟨(ad263.add ((x9_2).toNat * 6)).block, (ad263.add ((x9_2).toNat * 6)).off + 2, none⟩ = some (.int .i64 ((rd_T31 t255 x9_2).f2)) ∧ w'.cell? ⟨(ad263.add ((x9_2).toNat * 6)).block, (ad263.add ((x9_2).toNat * 6)).off + 3, none⟩ = some (.int .i64 ((rd_T31 t255 x9_2).f3)) ∧ w'.cell? ⟨(ad263.add ((x9_2).toNat * 6)).block, (ad263.add ((x9_2).toNat * 6)).off + 4, none⟩ = some (.int .i64 ((rd_T31 t255 x9_2).f4)) ∧ w'.cell? ⟨(ad263.add ((x9_2).toNat * 6)).block, (ad263.add ((x9_2).toNat * 6)).off + 5, none⟩ = some (.int .i64 ((rd_T31 t255 x9_2).f5)) ∧ w'.cell? (ad264.add ((x9_2).toNat * 6)) = some (.int .i64 ((rd_T31 t245 x9_2).f0)) ∧ w'.cell? ⟨(ad264.add ((x9_2).toNat * 6)).block, (ad264.add ((x9_2).toNat * 6)).off + 1, none⟩ = some (.int .i64 ((rd_T31 t245 x9_2).f1)) ∧ w'.cell? ⟨(ad264.add ((x9_2).toNat * 6)).block, (ad264.add ((x9_2).toNat * 6)).off + 2, none⟩ = some (.int .i64 ((rd_T31 t245 x9_2).f2)) ∧ w'.cell? ⟨(ad264.add ((x9_2).toNat * 6)).block, (ad264.add ((x9_2).toNat * 6)).off + 3, none⟩ = some (.int .i64 ((rd_T31 t245 x9_2).f3)) ∧ w'.cell? ⟨(ad264.add ((x9_2).toNat * 6)).block, (ad264.add ((x9_2).toNat * 6)).off + 4, none⟩ = some (.int .i64 ((rd_T31 t245 x9_2).f4)) ∧ w'.cell? ⟨(ad264.add ((x9_2).toNat * 6)).block, (ad264.add ((x9_2).toNat * 6)).off + 5, none⟩ = some (.int .i64 ((rd_T31 t245 x9_2).f5)) ∧ w'.cell? (ad263.add ((x9_2).toNat * 6)) = some (.int .i64 ((rd_T31 t255 x9_2).f0)) ∧ w'.cell? ⟨(ad263.add ((x9_2).toNat * 6)).block, (ad263.add ((x9_2).toNat * 6)).off + 1, none⟩ = some (.int .i64 ((rd_T31 t255 x9_2).f1)) ∧ w'.cell? ⟨(ad263.add ((x9_2).toNat * 6)).block, (ad263.add ((x9_2).toNat * 6)).off + 2, none⟩ = some (.int .i64 ((rd_T31 t255 x9_2).f2)) ∧ w'.cell? ⟨(ad263.add ((x9_2).toNat * 6)).block, (ad263.add ((x9_2).toNat * 6)).off + 3, none⟩ = some (.int .i64 ((rd_T31 t255 x9_2).f3)) ∧ w'.cell? ⟨(ad263.add ((x9_2).toNat * 6)).block, (ad263.add ((x9_2).toNat * 6)).off + 4, none⟩ = some (.int .i64 ((rd_T31 t255 x9_2).f4)) ∧ w'.cell? ⟨(ad263.add ((x9_2).toNat * 6)).block, (ad263.add ((x9_2).toNat * 6)).off + 5, none⟩ = some (.int .i64 ((rd_T31 t255 x9_2).f5)) ∧ w'.cell? (ad264.add ((x9_2).toNat * 6)) = some (.int .i64 ((rd_T31 t245 x9_2).f0)) ∧ w'.cell? ⟨(ad264.add ((x9_2).toNat * 6)).block, (ad264.add ((x9_2).toNat * 6)).off + 1, none⟩ = some (.int .i64 ((rd_T31 t245 x9_2).f1)) ∧ w'.cell? ⟨(ad264.add ((x9_2).toNat * 6)).block, (ad264.add ((x9_2).toNat * 6)).off + 2, none⟩ = some (.int .i64 ((rd_T31 t245 x9_2).f2)) ∧ w'.cell? ⟨(ad264.add ((x9_2).toNat * 6)).block, (ad264.add ((x9_2).toNat * 6)).off + 3, none⟩ = some (.int .i64 ((rd_T31 t245 x9_2).f3)) ∧ w'.cell? ⟨(ad264.add ((x9_2).toNat * 6)).block, (ad264.add ((x9_2).toNat * 6)).off + 4, none⟩ = some (.int .i64 ((rd_T31 t245 x9_2).f4)) ∧ w'.cell? ⟨(ad264.add ((x9_2).toNat * 6)).block, (ad264.add ((x9_2).toNat * 6)).off + 5, none⟩ = some (.int .i64 ((rd_T31 t245 x9_2).f5)) ∧ w'.cell? (ad263.add ((x9_2).toNat * 6)) = some (.int .i64 ((rd_T31 t255 x9_2).f0)) ∧ w'.cell? ⟨(ad263.add ((x9_2).toNat * 6)).block, (ad263.add ((x9_2).toNat * 6)).off + 1, none⟩ = some (.int .i64 ((rd_T31 t255 x9_2).f1)) ∧ w'.cell? ⟨(ad263.add ((x9_2).toNat * 6)).block, (ad263.add ((x9_2).toNat * 6)).off + 2, none⟩ = some (.int .i64 ((rd_T31 t255 x9_2).f2)) ∧ w'.cell? ⟨(ad263.add ((x9_2).toNat * 6)).block, (ad263.add ((x9_2).toNat * 6)).off + 3, none⟩ = some (.int .i64 ((rd_T31 t255 x9_2).f3)) ∧ w'.cell? ⟨(ad263.add ((x9_2).toNat * 6)).block, (ad263.add ((x9_2).toNat * 6)).off + 4, none⟩ = some (.int .i64 ((rd_T31 t255 x9_2).f4)) ∧ w'.cell? ⟨(ad263.add ((x9_2).toNat * 6)).block, (ad263.add ((x9_2).toNat * 6)).off + 5, none⟩ = some (.int .i64 ((rd_T31 t255 x9_2).f5)) ∧ w'.cell? (ad264.add ((x9_2).toNat * 6)) = some (.int .i64 ((rd_T31 t245 x9_2).f0)) ∧ w'.cell? ⟨(ad264.add ((x9_2).toNat * 6)).block, (ad264.add ((x9_2).toNat * 6)).off + 1, none⟩ = some (.int .i64 ((rd_T31 t245 x9_2).f1)) ∧ w'.cell? ⟨(ad264.add ((x9_2).toNat * 6)).block, (ad264.add ((x9_2).toNat * 6)).off + 2, none⟩ = some (.int .i64 ((rd_T31 t245 x9_2).f2)) ∧ w'.cell? ⟨(ad264.add ((x9_2).toNat * 6)).block, (ad264.add ((x9_2).toNat * 6)).off + 3, none⟩ = some (.int .i64 ((rd_T31 t245 x9_2).f3)) ∧ w'.cell? ⟨(ad264.add ((x9_2).toNat * 6)).block, (ad264.add ((x9_2).toNat * 6)).off + 4, none⟩ = some (.int .i64 ((rd_T31 t245 x9_2).f4)) ∧ w'.cell? ⟨(ad264.add ((x9_2).toNat * 6)).block, (ad264.add ((x9_2).toNat * 6)).off + 5, none⟩ = some (.int .i64 ((rd_T31 t245 x9_2).f5))) (ds := []) (bs 65 0) (by kernel_rfl) rfl rfl ⟨hx263_0, hx263_1, hx263_2, hx263_3, hx263_4, hx263_5, hx264_0, hx264_1, hx264_2, hx264_3, hx264_4, hx264_5, hx265_0, hx265_1, hx265_2, hx265_3, hx265_4, hx265_5, hx266_0, hx266_1, hx266_2, hx266_3, hx266_4, hx266_5, hx267_0, hx267_1, hx267_2, hx267_3, hx267_4, hx267_5, hx268_0, hx268_1, hx268_2, hx268_3, hx268_4, hx268_5, hx269_0, hx269_1, hx269_2, hx269_3, hx269_4, hx269_5, hx270_0, hx270_1, hx270_2, hx270_3, hx270_4, hx270_5⟩ (fun hHeld => ?_); refine with_tabW laws_FnDelays.tab14 laws_FnDelays.bits14 (fun HT_ HW_ => ?_)
               generalize wr.drew = w52 at HO_3 HO_7 HB hx263_0 hx263_1 hx263_2 hx263_3 hx263_4 hx263_5 hx264_0 hx264_1 hx264_2 hx264_3 hx264_4 hx264_5 hx265_0 hx265_1 hx265_2 hx265_3 hx265_4 hx265_5 hx266_0 hx266_1 hx266_2 hx266_3 hx266_4 hx266_5 hx267_0 hx267_1 hx267_2 hx267_3 hx267_4 hx267_5 hx268_0 hx268_1 hx268_2 hx268_3 hx268_4 hx268_5 hx269_0 hx269_1 hx269_2 hx269_3 hx269_4 hx269_5 hx270_0 hx270_1 hx270_2 hx270_3 hx270_4 hx270_5 hHeld ⊢
               refine pu_ 0 89 HT_ (bs 65 1) rfl rfl ?_
               refine pu_ 1 90 HT_ (bs 65 3) rfl rfl ?_
               refine pu_ 2 91 HT_ (bs 65 7) rfl rfl ?_
               refine pu_ 3 92 HT_ (bs 65 15) rfl rfl ?_
               refine pu_ 5 94 HT_ (bs 65 47) rfl rfl ?_
               refine pu_ 6 95 HT_ (bs 65 111) rfl rfl ?_
               refine pu_ 7 96 HT_ (bs 65 239) rfl rfl ?_
               refine pu_ 8 97 HT_ (bs 65 495) rfl rfl ?_
               refine take_ (i := 4) (N := some 93) (v := ?_) (a' := ?_) (bs 65 511) rfl rfl (take_ofW HT_.out HW_.out (by kernel_rfl)) (fun _ _ _ h => h) (Or.inl ⟨by rfl, ?_⟩) hHeld ?_ ?_
               rotate_left
               ·rintro w' ⟨s0, s1, s2, s3, s4, s5, s6, s7, s8, s9, s10, s11, s12, s13, s14, s15, s16, s17, s18, s19, s20, s21, s22, s23, s24, s25, s26, s27, s28, s29, s30, s31, s32, s33, s34, s35, s36, s37, s38, s39, s40, s41, s42, s43, s44, s45, s46, s47⟩
                go_simp
                with_reducible rfl
               rotate_left
               ·simp only [Act.put, sA_, sZ_, sS_, i64_w, i32_w]
                rfl
               refine take_ (i := 9) (N := some 98) (v := ?_) (a' := ?_) (bs 65 1023) rfl rfl (take_ofW HT_.out HW_.out (by kernel_rfl)) (fun _ _ _ h => h) (Or.inl ⟨by rfl, ?_⟩) hHeld ?_ ?_
               rotate_left
               ·rintro w' ⟨s0, s1, s2, s3, s4, s5, s6, s7, s8, s9, s10, s11, s12, s13, s14, s15, s16, s17, s18, s19, s20, s21, s22, s23, s24, s25, s26, s27, s28, s29, s30, s31, s32, s33, s34, s35, s36, s37, s38, s39, s40, s41, s42, s43, s44, s45, s46, s47⟩
                go_simp
                with_reducible rfl
               rotate_left
               ·simp only [Act.put, sA_, sZ_, sS_, i64_w, i32_w]
                rfl
               refine pu_ 10 99 HT_ (bs 65 2047) rfl rfl ?_
               refine pu_ 11 100 HT_ (bs 65 4095) rfl rfl ?_
               refine pu_ 12 101 HT_ (bs 65 8191) rfl rfl ?_
               refine pu_ 13 102 HT_ (bs 65 16383) rfl rfl ?_
               refine pu_ 14 103 HT_ (bs 65 32767) rfl rfl ?_
               refine pu_ 15 104 HT_ (bs 65 65535) rfl rfl ?_
               refine pu_ 17 106 HT_ (bs 65 196607) rfl rfl ?_
               refine pu_ 18 107 HT_ (bs 65 458751) rfl rfl ?_
               refine pu_ 19 108 HT_ (bs 65 983039) rfl rfl ?_
               refine pu_ 20 109 HT_ (bs 65 2031615) rfl rfl ?_
               refine pu_ 23 112 HT_ (bs 65 10420223) rfl rfl ?_
               refine pu_ 24 113 HT_ (bs 65 27197439) rfl rfl ?_
               refine pu_ 25 114 HT_ (bs 65 60751871) rfl rfl ?_
               refine pu_ 26 115 HT_ (bs 65 127860735) rfl rfl ?_
               refine pu_ 28 117 HT_ (bs 65 396296191) rfl rfl ?_
               refine pu_ 29 118 HT_ (bs 65 933167103) rfl rfl ?_
               refine pu_ 30 119 HT_ (bs 65 2006908927) rfl rfl ?_
               refine pu_ 31 120 HT_ (bs 65 4154392575) rfl rfl ?_
               refine take_ (i := 16) (N := some 105) (v := ?_) (a' := ?_) (bs 65 4154458111) rfl rfl (take_ofW HT_.out HW_.out (by kernel_rfl)) (fun _ _ _ h => h) (Or.inl ⟨by rfl, ?_⟩) hHeld ?_ ?_
               rotate_left
               ·rintro w' ⟨s0, s1, s2, s3, s4, s5, s6, s7, s8, s9, s10, s11, s12, s13, s14, s15, s16, s17, s18, s19, s20, s21, s22, s23, s24, s25, s26, s27, s28, s29, s30, s31, s32, s33, s34, s35, s36, s37, s38, s39, s40, s41, s42, s43, s44, s45, s46, s47⟩
                go_simp
                with_reducible rfl
               rotate_left
               ·simp only [Act.put, sA_, sZ_, sS_, i64_w, i32_w]
                rfl
               refine take_ (i := 21) (N := some 110) (v := ?_) (a' := ?_) (bs 65 4156555263) rfl rfl (take_ofW HT_.out HW_.out (by kernel_rfl)) (fun _ _ _ h => h) (Or.inl ⟨by rfl, ?_⟩) hHeld ?_ ?_
               rotate_left
               ·rintro w' ⟨s0, s1, s2, s3, s4, s5, s6, s7, s8, s9, s10, s11, s12, s13, s14, s15, s16, s17, s18, s19, s20, s21, s22, s23, s24, s25, s26, s27, s28, s29, s30, s31, s32, s33, s34, s35, s36, s37, s38, s39, s40, s41, s42, s43, s44, s45, s46, s47⟩
                go_simp
                with_reducible rfl
               rotate_left
               ·simp only [Act.put, sA_, sZ_, sS_, i64_w, i32_w]
                rfl
               refine pu_ 22 111 HT_ (bs 65 4160749567) rfl rfl ?_
               refine take_ (i := 27) (N := some 116) (v := ?_) (a' := ?_) (bs 65 4294967295) rfl rfl (take_ofW HT_.out HW_.out (by kernel_rfl)) (fun _ _ _ h => h) (Or.inl ⟨by rfl, ?_⟩) hHeld ?_ ?_
               rotate_left
               ·rintro w' ⟨s0, s1, s2, s3, s4, s5, s6, s7, s8, s9, s10, s11, s12, s13, s14, s15, s16, s17, s18, s19, s20, s21, s22, s23, s24, s25, s26, s27, s28, s29, s30, s31, s32, s33, s34, s35, s36, s37, s38, s39, s40, s41, s42, s43, s44, s45, s46, s47⟩
                go_simp
                with_reducible rfl
               rotate_left
               ·simp only [Act.put, sA_, sZ_, sS_, i64_w, i32_w]
                rfl
               refine take_ (i := 32) (N := some 121) (v := ?_) (a' := ?_) (bs 65 8589934591) rfl rfl (take_ofW HT_.out HW_.out (by kernel_rfl)) (fun _ _ _ h => h) (Or.inl ⟨by rfl, ?_⟩) hHeld ?_ ?_
               rotate_left
               ·rintro w' ⟨s0, s1, s2, s3, s4, s5, s6, s7, s8, s9, s10, s11, s12, s13, s14, s15, s16, s17, s18, s19, s20, s21, s22, s23, s24, s25, s26, s27, s28, s29, s30, s31, s32, s33, s34, s35, s36, s37, s38, s39, s40, s41, s42, s43, s44, s45, s46, s47⟩
                go_simp
                with_reducible rfl
               rotate_left
               ·simp only [Act.put, sA_, sZ_, sS_, i64_w, i32_w]
                rfl
               refine pu_ 33 122 HT_ (bs 65 17179869183) rfl rfl ?_
               refine pu_ 34 123 HT_ (bs 65 34359738367) rfl rfl ?_
               refine pu_ 35 124 HT_ (bs 65 68719476735) rfl rfl ?_
               refine pu_ 36 125 HT_ (bs 65 137438953471) rfl rfl ?_
               refine pu_ 37 126 HT_ (bs 65 274877906943) rfl rfl ?_
               refine pu_ 38 127 HT_ (bs 65 549755813887) rfl rfl ?_
               refine pu_ 39 128 HT_ (bs 65 1099511627775) rfl rfl ?_
               refine pu_ 40 129 HT_ (bs 65 2199023255551) rfl rfl ?_
               refine pn_ 41 130 HT_ (bs 65 4398046511103) rfl rfl ?_
               refine pn_ 42 131 HT_ (bs 65 8796093022207) rfl rfl ?_
               refine pn_ 43 132 HT_ (bs 65 17592186044415) rfl rfl ?_
               refine pn_ 44 133 HT_ (bs 65 35184372088831) rfl rfl ?_
               refine pn_ 45 134 HT_ (bs 65 70368744177663) rfl rfl ?_
               refine pn_ 46 135 HT_ (bs 65 140737488355327) rfl rfl ?_
               refine pn_ 47 136 HT_ (bs 65 281474976710655) rfl rfl ?_
               refine pn_ 48 137 HT_ (bs 65 562949953421311) rfl rfl ?_
               refine pn_ 49 138 HT_ (bs 65 1125899906842623) rfl rfl ?_
               refine pn_ 50 139 HT_ (bs 65 2251799813685247) rfl rfl ?_
               refine pn_ 51 140 HT_ (bs 65 4503599627370495) rfl rfl ?_
               refine pu_ 52 141 HT_ (bs 65 9007199254740991) rfl rfl ?_
               refine pu_ 53 142 HT_ (bs 65 18014398509481983) rfl rfl ?_
               refine pu_ 54 143 HT_ (bs 65 36028797018963967) rfl rfl ?_
               refine pu_ 55 144 HT_ (bs 65 72057594037927935) rfl rfl ?_
               refine pu_ 56 145 HT_ (bs 65 144115188075855871) rfl rfl ?_
               refine pu_ 58 147 HT_ (bs 65 432345564227567615) rfl rfl ?_
               refine pu_ 59 148 HT_ (bs 65 1008806316530991103) rfl rfl ?_
               refine pu_ 60 149 HT_ (bs 65 2161727821137838079) rfl rfl ?_
               refine take_ (i := 57) (N := some 146) (v := ?_) (a' := ?_) (bs 65 2305843009213693951) rfl rfl (take_ofW HT_.out HW_.out (by kernel_rfl)) (fun _ _ _ h => h) (Or.inl ⟨by rfl, ?_⟩) hHeld ?_ ?_
               rotate_left
               ·rintro w' ⟨s0, s1, s2, s3, s4, s5, s6, s7, s8, s9, s10, s11, s12, s13, s14, s15, s16, s17, s18, s19, s20, s21, s22, s23, s24, s25, s26, s27, s28, s29, s30, s31, s32, s33, s34, s35, s36, s37, s38, s39, s40, s41, s42, s43, s44, s45, s46, s47⟩
                go_simp
                with_reducible rfl
               rotate_left
               ·simp only [Act.put, sA_, sZ_, sS_, i64_w, i32_w]
                rfl
               refine take_ (i := 61) (N := some 150) (v := ?_) (a' := ?_) (bs 65 4611686018427387903) rfl rfl (take_ofW HT_.out HW_.out (by kernel_rfl)) (fun _ _ _ h => h) (Or.inl ⟨by rfl, ?_⟩) hHeld ?_ ?_
               rotate_left
               ·rintro w' ⟨s0, s1, s2, s3, s4, s5, s6, s7, s8, s9, s10, s11, s12, s13, s14, s15, s16, s17, s18, s19, s20, s21, s22, s23, s24, s25, s26, s27, s28, s29, s30, s31, s32, s33, s34, s35, s36, s37, s38, s39, s40, s41, s42, s43, s44, s45, s46, s47⟩
                go_simp
                with_reducible rfl
               rotate_left
               ·simp only [Act.put, sA_, sZ_, sS_, i64_w, i32_w]
                rfl
               refine pu_ 62 151 HT_ (bs 65 9223372036854775807) rfl rfl ?_
               refine pu_ 63 152 HT_ (bs 65 18446744073709551615) rfl rfl ?_
               refine pu_ 64 153 HT_ (bs 65 36893488147419103231) rfl rfl ?_
               refine done_ (done_of HT_.out (by kernel_rfl)) ?_
               try go_wp2
               go_ret
               exact ⟨by first | rfl | (simp [errW_none, errW_some] <;> rfl) | (simp [*, errW_none, errW_some] <;> rfl), bel_ HB.out⟩
              ·as_aux_lemma =>
               rw [if_neg c50] at H
               have c50b0 : (!(((rd_T31 t255 x9_2).f0) == ((rd_T31 t245 x9_2).f0)) || (!(((rd_T31 t255 x9_2).f1) == ((rd_T31 t245 x9_2).f1)) || (!(((rd_T31 t255 x9_2).f2) == ((rd_T31 t245 x9_2).f2)) || (!(((rd_T31 t255 x9_2).f3) == ((rd_T31 t245 x9_2).f3)) || (!(((rd_T31 t255 x9_2).f4) == ((rd_T31 t245 x9_2).f4)) || (!(((rd_T31 t255 x9_2).f5) == ((rd_T31 t245 x9_2).f5)))))))) = false := by simpa using c50
               clear c50
               have H' := Aside0.mk H
               clear H
               obtain ⟨Ao53, co53, eo53⟩ := Kd.R_slice HO_7.out
               subst eo53
               try go_wp2
               have n0_ := Aside0.mk (Kd.R_drew HO_3.out)
               have n1_ := Aside0.mk (Kd.R_drew HO_7.out)
               have n2_ := Aside0.mk (below_drew1 HB.out)
               clear HO_3
               clear HO_7
               clear HB
               have HO_3 := n0_
               have HO_7 := n1_
               have HB := n2_
               clear n0_ n1_ n2_
               have p263 : 0 ≤ (x9_2 : Int) := of_decide_eq_true (by first | (with_reducible assumption) | assumption)
               have q263 : x9_2 < (t255.length : Int) := of_decide_eq_true (by first | (with_reducible assumption) | assumption)
               obtain ⟨ad263, e263, hx263_0, hx263_1, hx263_2, hx263_3, hx263_4, hx263_5⟩ := at_T31 (Kd.R_reads' HO_7.out).2.2 x9_2 p263 q263
               cases e263
               replace p263 := eq_true p263
               replace q263 := eq_true q263
               have p264 : 0 ≤ (x9_2 : Int) := of_decide_eq_true (by first | (with_reducible assumption) | assumption)
               have q264 : x9_2 < (t245.length : Int) := of_decide_eq_true (by first | (with_reducible assumption) | assumption)
               obtain ⟨ad264, e264, hx264_0, hx264_1, hx264_2, hx264_3, hx264_4, hx264_5⟩ := at_T31 (Kd.R_reads' HO_3.out).2.2 x9_2 p264 q264
               cases e264
               replace p264 := eq_true p264
               replace q264 := eq_true q264
               have p265 : 0 ≤ (x9_2 : Int) := of_decide_eq_true (by first | (with_reducible assumption) | assumption)
               have q265 : x9_2 < (t255.length : Int) := of_decide_eq_true (by first | (with_reducible assumption) | assumption)
               obtain ⟨ad265, e265, hx265_0, hx265_1, hx265_2, hx265_3, hx265_4, hx265_5⟩ := at_T31 (Kd.R_reads' HO_7.out).2.2 x9_2 p265 q265
               obtain rfl : ad263 = ad265 := (by injection e265)
               replace p265 := eq_true p265
               replace q265 := eq_true q265
               have p266 : 0 ≤ (x9_2 : Int) := of_decide_eq_true (by first | (with_reducible assumption) | assumption)
               have q266 : x9_2 < (t245.length : Int) := of_decide_eq_true (by first | (with_reducible assumption) | assumption)
               obtain ⟨ad266, e266, hx266_0, hx266_1, hx266_2, hx266_3, hx266_4, hx266_5⟩ := at_T31 (Kd.R_reads' HO_3.out).2.2 x9_2 p266 q266
               obtain rfl : ad264 = ad266 := (by injection e266)
               replace p266 := eq_true p266
               replace q266 := eq_true q266
               have p267 : 0 ≤ (x9_2 : Int) := of_decide_eq_true (by first | (with_reducible assumption) | assumption)
               have q267 : x9_2 < (t255.length : Int) := of_decide_eq_true (by first | (with_reducible assumption) | assumption)
               obtain ⟨ad267, e267, hx267_0, hx267_1, hx267_2, hx267_3, hx267_4, hx267_5⟩ := at_T31 (Kd.R_reads' HO_7.out).2.2 x9_2 p267 q267
               obtain rfl : ad263 = ad267 := (by injection e267)
               replace p267 := eq_true p267
               replace q267 := eq_true q267
               have p268 : 0 ≤ (x9_2 : Int) := of_decide_eq_true (by first | (with_reducible assumption) | assumption)
               have q268 : x9_2 < (t245.length : Int) := of_decide_eq_true (by first | (with_reducible assumption) | assumption)
               obtain ⟨ad268, e268, hx268_0, hx268_1, hx268_2, hx268_3, hx268_4, hx268_5⟩ := at_T31 (Kd.R_reads' HO_3.out).2.2 x9_2 p268 q268
               obtain rfl : ad264 = ad268 := (by injection e268)
               replace p268 := eq_true p268
               replace q268 := eq_true q268
               have p269 : 0 ≤ (x9_2 : Int) := of_decide_eq_true (by first | (with_reducible assumption) | assumption)
               have q269 : x9_2 < (t255.length : Int) := of_decide_eq_true (by first | (with_reducible assumption) | assumption)
               obtain ⟨ad269, e269, hx269_0, hx269_1, hx269_2, hx269_3, hx269_4, hx269_5⟩ := at_T31 (Kd.R_reads' HO_7.out).2.2 x9_2 p269 q269
               obtain rfl : ad263 = ad269 := (by injection e269)
               replace p269 := eq_true p269
               replace q269 := eq_true q269
               have p270 : 0 ≤ (x9_2 : Int) := of_decide_eq_true (by first | (with_reducible assumption) | assumption)
               have q270 : x9_2 < (t245.length : Int) := of_decide_eq_true (by first | (with_reducible assumption) | assumption)
               obtain ⟨ad270, e270, hx270_0, hx270_1, hx270_2, hx270_3, hx270_4, hx270_5⟩ := at_T31 (Kd.R_reads' HO_3.out).2.2 x9_2 p270 q270
               obtain rfl : ad264 = ad270 := (by injection e270)
               replace p270 := eq_true p270
               replace q270 := eq_true q270
               refine start_ (n := 65) (S := fun w' => w'.cell? (ad263.add ((x9_2).toNat * 6)) = some (.int .i64 ((rd_T31 t255 x9_2).f0)) ∧ w'.cell? ⟨(ad263.add ((x9_2).toNat * 6)).block, (ad263.add ((x9_2).toNat * 6)).off + 1, none⟩ = some (.int .i64 ((rd_T31 t255 x9_2).f1)) ∧ w'.cell? ⟨(ad263.add ((x9_2).toNat * 6)).block, (ad263.add ((x9_2).toNat * 6)).off + 2, none⟩ = some (.int .i64 ((rd_T31 t255 x9_2).f2)) ∧ w'.cell? ⟨(ad263.add ((x9_2).toNat * 6)).block, (ad263.add ((x9_2).toNat * 6)).off + 3, none⟩ = some (.int .i64 ((rd_T31 t255 x9_2).f3)) ∧ w'.cell? ⟨(ad263.add ((x9_2).toNat * 6)).block, (ad263.add ((x9_2).toNat * 6)).off + 4, none⟩ = some (.int .i64 ((rd_T31 t255 x9_2).f4)) ∧ w'.cell? ⟨(ad263.add ((x9_2).toNat * 6)).block, (ad263.add ((x9_2).toNat * 6)).off + 5, none⟩ = some (.int .i64 ((rd_T31 t255 x9_2).f5)) ∧ w'.cell? (ad264.add ((x9_2).toNat * 6)) = some (.int .i64 ((rd_T31 t245 x9_2).f0)) ∧ w'.cell? ⟨(ad264.add ((x9_2).toNat * 6)).block, (ad264.add ((x9_2).toNat * 6)).off + 1, none⟩ = some (.int .i64 ((rd_T31 t245 x9_2).f1)) ∧ w'.cell? ⟨(ad264.add ((x9_2).toNat * 6)).block, (ad264.add ((x9_2).toNat * 6)).off + 2, none⟩ = some (.int .i64 ((rd_T31 t245 x9_2).f2)) ∧ w'.cell? ⟨(ad264.add ((x9_2).toNat * 6)).block, (ad264.add ((x9_2).toNat * 6)).off + 3, none⟩ = some (.int .i64 ((rd_T31 t245 x9_2).f3)) ∧ w'.cell? ⟨(ad264.add ((x9_2).toNat * 6)).block, (ad264.add ((x9_2).toNat * 6)).off + 4, none⟩ = some (.int .i64 ((rd_T31 t245 x9_2).f4)) ∧ w'.cell? ⟨(ad264.add ((x9_2).toNat * 6)).block, (ad264.add ((x9_2).toNat * 6)).off + 5, none⟩ = some (.int .i64 ((rd_T31 t245 x9_2).f5)) ∧ w'.cell? (ad263.add ((x9_2).toNat * 6)) = some (.int .i64 ((rd_T31 t255 x9_2).f0)) ∧ w'.cell? ⟨(ad263.add ((x9_2).toNat * 6)).block, (ad263.add ((x9_2).toNat * 6)).off + 1, none⟩ = some (.int .i64 ((rd_T31 t255 x9_2).f1)) ∧ w'.cell? ⟨(ad263.add ((x9_2).toNat * 6)).block, (ad263.add ((x9_2).toNat * 6)).off + 2, none⟩ = some (.int .i64 ((rd_T31 t255 x9_2).f2)) ∧ w'.cell? ⟨(ad263.add ((x9_2).toNat * 6)).block, (ad263.add ((x9_2).toNat * 6)).off + 3, none⟩ = some (.int .i64 ((rd_T31 t255 x9_2).f3)) ∧ w'.cell? ⟨(ad263.add ((x9_2).toNat * 6)).block, (ad263.add ((x9_2).toNat * 6)).off + 4, none⟩ = some (.int .i64 ((rd_T31 t255 x9_2).f4)) ∧ w'.cell? ⟨(ad263.add ((x9_2).toNat * 6)).block, (ad263.add ((x9_2).toNat * 6)).off + 5, none⟩ = some (.int .i64 ((rd_T31 t255 x9_2).f5)) ∧ w'.cell? (ad264.add ((x9_2).toNat * 6)) = some (.int .i64 ((rd_T31 t245 x9_2).f0)) ∧ w'.cell? ⟨(ad264.add ((x9_2).toNat * 6)).block, (ad264.add ((x9_2).toNat * 6)).off + 1, none⟩ = some (.int .i64 ((rd_T31 t245 x9_2).f1)) ∧ w'.cell? ⟨(ad264.add ((x9_2).toNat * 6)).block, (ad264.add ((x9_2).toNat * 6)).off + 2, none⟩ = some (.int .i64 ((rd_T31 t245 x9_2).f2)) ∧ w'.cell? ⟨(ad264.add ((x9_2).toNat * 6)).block, (ad264.add ((x9_2).toNat * 6)).off + 3, none⟩ = some (.int .i64 ((rd_T31 t245 x9_2).f3)) ∧ w'.cell? ⟨(ad264.add ((x9_2).toNat * 6)).block, (ad264.add ((x9_2).toNat * 6)).off + 4, none⟩ = some (.int .i64 ((rd_T31 t245 x9_2).f4)) ∧ w'.cell? ⟨(ad264.add ((x9_2).toNat * 6)).block, (ad264.add ((x9_2).toNat * 6)).off + 5, none⟩ = some (.int .i64 ((rd_T31 t245 x9_2).f5)) ∧ w'.cell? (ad263.add ((x9_2).toNat * 6)) = some (.int .i64 ((rd_T31 t255 x9_2).f0)) ∧ w'.cell? ⟨(ad263.add ((x9_2).toNat * 6)).block, (ad263.add ((x9_2).toNat * 6)).off + 1, none⟩ = some (.int .i64 ((rd_T31 t255 x9_2).f1)) ∧ w'.cell? ⟨(ad263.add ((x9_2).toNat * 6)).block, (ad263.add ((x9_2).toNat * 6)).off + 2, none⟩ = some (.int .i64 ((rd_T31 t255 x9_2).f2)) ∧ w'.cell? ⟨(ad263.add ((x9_2).toNat * 6)).block, (ad263.add ((x9_2).toNat * 6)).off + 3, none⟩ = some (.int .i64 ((rd_T31 t255 x9_2).f3)) ∧ w'.cell? ⟨(ad263.add ((x9_2).toNat * 6)).block, (ad263.add ((x9_2).toNat * 6)).off + 4, none⟩ = some (.int .i64 ((rd_T31 t255 x9_2).f4)) ∧ w'.cell? ⟨(ad263.add ((x9_2).toNat * 6)).block, (ad263.add ((x9_2).toNat * 6)).off + 5, none⟩ = some (.int .i64 ((rd_T31 t255 x9_2).f5)) ∧ w'.cell? (ad264.add ((x9_2).toNat * 6)) = some (.int .i64 ((rd_T31 t245 x9_2).f0)) ∧ w'.cell? ⟨(ad264.add ((x9_2).toNat * 6)).block, (ad264.add ((x9_2).toNat * 6)).off + 1, none⟩ = some (.int .i64 ((rd_T31 t245 x9_2).f1)) ∧ w'.cell? ⟨(ad264.add ((x9_2).toNat * 6)).block, (ad264.add ((x9_2).toNat * 6)).off + 2, none⟩ = some (.int .i64 ((rd_T31 t245 x9_2).f2)) ∧ w'.cell? ⟨(ad264.add ((x9_2).toNat * 6)).block, (ad264.add ((x9_2).toNat * 6)).off + 3, none⟩ = some (.int .i64 ((rd_T31 t245 x9_2).f3)) ∧ w'.cell? ⟨(ad264.add ((x9_2).toNat * 6)).block, (ad264.add ((x9_2).toNat * 6)).off + 4, none⟩ = some (.int .i64 ((rd_T31 t245 x9_2).f4)) ∧ w'.cell? ⟨(ad264.add ((x9_2).toNat * 6)).block, (ad264.add ((x9_2).toNat * 6)).off + 5, none⟩ = some (.int .i64 ((rd_T31 t245 x9_2).f5)) ∧ w'.cell? (ad263.add ((x9_2).toNat * 6)) = some (.int .i64 ((rd_T31 t255 x9_2).f0)) ∧ w'.cell? ⟨(ad263.add ((x9_2).toNat * 6)).block, (ad263.add ((x9_2).toNat * 6)).off + 1, none⟩ = some (.int .i64 ((rd_T31 t255 x9_2).f1)) ∧ w'.cell? ⟨(ad263.add ((x9_2).toNat * 6)).block, (ad263.add ((x9_2).toNat * 6)).off + 2, none⟩ = some (.int .i64 ((rd_T31 t255 x9_2).f2)) ∧ w'.cell? ⟨(ad263.add ((x9_2).toNat * 6)).block, (ad263.add ((x9_2).toNat * 6)).off + 3, none⟩ = some (.int .i64 ((rd_T31 t255 x9_2).f3)) ∧ w'.cell? ⟨(ad263.add ((x9_2).toNat * 6)).block, (ad263.add ((x9_2).toNat * 6)).off + 4, none⟩ = some (.int .i64 ((rd_T31 t255 x9_2).f4)) ∧ w'.cell? ⟨(ad263.add ((x9_2).toNat * 6)).block, (ad263.add ((x9_2).toNat * 6)).off + 5, none⟩ = some (.int .i64 ((rd_T31 t255 x9_2).f5)) ∧ w'.cell? (ad264.add ((x9_2).toNat * 6)) = some (.int .i64 ((rd_T31 t245 x9_2).f0)) ∧ w'.cell? ⟨(ad264.add ((x9_2).toNat * 6)).block, (ad264.add ((x9_2).toNat * 6)).off + 1, none⟩ = some (.int .i64 ((rd_T31 t245 x9_2).f1)) ∧ w'.cell? ⟨(ad264.add ((x9_2).toNat * 6)).block, (ad264.add ((x9_2).toNat * 6)).off + 2, none⟩ = some (.int .i64 ((rd_T31 t245 x9_2).f2)) ∧ w'.cell? ⟨(ad264.add ((x9_2).toNat * 6)).block, (ad264.add ((x9_2).toNat * 6)).off + 3, none⟩ = some (.int .i64 ((rd_T31 t245 x9_2).f3)) ∧ w'.cell? ⟨(ad264.add ((x9_2).toNat * 6)).block, (ad264.add ((x9_2).toNat * 6)).off + 4, none⟩ = some (.int .i64 ((rd_T31 t245 x9_2).f4)) ∧ w'.cell? ⟨(ad264.add ((x9_2).toNat * 6)).block, (ad264.add ((x9_2).toNat * 6)).off + 5, none⟩ = some (.int .i64 ((rd_T31 t245 x9_2).f5))) (ds := []) (bs 65 0) (by kernel_rfl) rfl rfl ⟨hx263_0, hx263_1, hx263_2, hx263_3, hx263_4, hx263_5, hx264_0, hx264_1, hx264_2, hx264_3, hx264_4, hx264_5, hx265_0, hx265_1, hx265_2, hx265_3, hx265_4, hx265_5, hx266_0, hx266_1, hx266_2, hx266_3, hx266_4, hx266_5, hx267_0, hx267_1, hx267_2, hx267_3, hx267_4, hx267_5, hx268_0, hx268_1, hx268_2, hx268_3, hx268_4, hx268_5, hx269_0, hx269_1, hx269_2, hx269_3, hx269_4, hx269_5, hx270_0, hx270_1, hx270_2, hx270_3, hx270_4, hx270_5⟩ (fun hHeld => ?_); refine with_tabW laws_FnDelays.tab14 laws_FnDelays.bits14 (fun HT_ HW_ => ?_)
               generalize wr.drew = w54 at HO_3 HO_7 HB hx263_0 hx263_1 hx263_2 hx263_3 hx263_4 hx263_5 hx264_0 hx264_1 hx264_2 hx264_3 hx264_4 hx264_5 hx265_0 hx265_1 hx265_2 hx265_3 hx265_4 hx265_5 hx266_0 hx266_1 hx266_2 hx266_3 hx266_4 hx266_5 hx267_0 hx267_1 hx267_2 hx267_3 hx267_4 hx267_5 hx268_0 hx268_1 hx268_2 hx268_3 hx268_4 hx268_5 hx269_0 hx269_1 hx269_2 hx269_3 hx269_4 hx269_5 hx270_0 hx270_1 hx270_2 hx270_3 hx270_4 hx270_5 hHeld ⊢
               refine pu_ 0 89 HT_ (bs 65 1) rfl rfl ?_
               refine pu_ 1 90 HT_ (bs 65 3) rfl rfl ?_
               refine pu_ 2 91 HT_ (bs 65 7) rfl rfl ?_
               refine pu_ 3 92 HT_ (bs 65 15) rfl rfl ?_
               refine pu_ 5 94 HT_ (bs 65 47) rfl rfl ?_
               refine pu_ 6 95 HT_ (bs 65 111) rfl rfl ?_
               refine pu_ 7 96 HT_ (bs 65 239) rfl rfl ?_
               refine pu_ 8 97 HT_ (bs 65 495) rfl rfl ?_
               refine take_ (i := 4) (N := some 93) (v := ?_) (a' := ?_) (bs 65 511) rfl rfl (take_ofW HT_.out HW_.out (by kernel_rfl)) (fun _ _ _ h => h) (Or.inl ⟨by rfl, ?_⟩) hHeld ?_ ?_
               rotate_left
               ·rintro w' ⟨s0, s1, s2, s3, s4, s5, s6, s7, s8, s9, s10, s11, s12, s13, s14, s15, s16, s17, s18, s19, s20, s21, s22, s23, s24, s25, s26, s27, s28, s29, s30, s31, s32, s33, s34, s35, s36, s37, s38, s39, s40, s41, s42, s43, s44, s45, s46, s47⟩
                go_simp
                with_reducible rfl
               rotate_left
               ·simp only [Act.put, sA_, sZ_, sS_, i64_w, i32_w]
                rfl
               refine take_ (i := 9) (N := some 98) (v := ?_) (a' := ?_) (bs 65 1023) rfl rfl (take_ofW HT_.out HW_.out (by kernel_rfl)) (fun _ _ _ h => h) (Or.inl ⟨by rfl, ?_⟩) hHeld ?_ ?_
               rotate_left
               ·rintro w' ⟨s0, s1, s2, s3, s4, s5, s6, s7, s8, s9, s10, s11, s12, s13, s14, s15, s16, s17, s18, s19, s20, s21, s22, s23, s24, s25, s26, s27, s28, s29, s30, s31, s32, s33, s34, s35, s36, s37, s38, s39, s40, s41, s42, s43, s44, s45, s46, s47⟩
                go_simp
                with_reducible rfl
               rotate_left
               ·simp only [Act.put, sA_, sZ_, sS_, i64_w, i32_w]
                rfl
               refine pu_ 10 99 HT_ (bs 65 2047) rfl rfl ?_
               refine pu_ 11 100 HT_ (bs 65 4095) rfl rfl ?_
               refine pu_ 12 101 HT_ (bs 65 8191) rfl rfl ?_
               refine pu_ 13 102 HT_ (bs 65 16383) rfl rfl ?_
               refine pu_ 14 103 HT_ (bs 65 32767) rfl rfl ?_
               refine pu_ 15 104 HT_ (bs 65 65535) rfl rfl ?_
               refine pu_ 17 106 HT_ (bs 65 196607) rfl rfl ?_
               refine pu_ 18 107 HT_ (bs 65 458751) rfl rfl ?_
               refine pu_ 19 108 HT_ (bs 65 983039) rfl rfl ?_
               refine pu_ 20 109 HT_ (bs 65 2031615) rfl rfl ?_
               refine pu_ 23 112 HT_ (bs 65 10420223) rfl rfl ?_
               refine pu_ 24 113 HT_ (bs 65 27197439) rfl rfl ?_
               refine pu_ 25 114 HT_ (bs 65 60751871) rfl rfl ?_
               refine pu_ 26 115 HT_ (bs 65 127860735) rfl rfl ?_
               refine pu_ 28 117 HT_ (bs 65 396296191) rfl rfl ?_
               refine pu_ 29 118 HT_ (bs 65 933167103) rfl rfl ?_
               refine pu_ 30 119 HT_ (bs 65 2006908927) rfl rfl ?_
               refine pu_ 31 120 HT_ (bs 65 4154392575) rfl rfl ?_
               refine take_ (i := 16) (N := some 105) (v := ?_) (a' := ?_) (bs 65 4154458111) rfl rfl (take_ofW HT_.out HW_.out (by kernel_rfl)) (fun _ _ _ h => h) (Or.inl ⟨by rfl, ?_⟩) hHeld ?_ ?_
               rotate_left
               ·rintro w' ⟨s0, s1, s2, s3, s4, s5, s6, s7, s8, s9, s10, s11, s12, s13, s14, s15, s16, s17, s18, s19, s20, s21, s22, s23, s24, s25, s26, s27, s28, s29, s30, s31, s32, s33, s34, s35, s36, s37, s38, s39, s40, s41, s42, s43, s44, s45, s46, s47⟩
                go_simp
                with_reducible rfl
               rotate_left
               ·simp only [Act.put, sA_, sZ_, sS_, i64_w, i32_w]
                rfl
               refine take_ (i := 21) (N := some 110) (v := ?_) (a' := ?_) (bs 65 4156555263) rfl rfl (take_ofW HT_.out HW_.out (by kernel_rfl)) (fun _ _ _ h => h) (Or.inl ⟨by rfl, ?_⟩) hHeld ?_ ?_
               rotate_left
               ·rintro w' ⟨s0, s1, s2, s3, s4, s5, s6, s7, s8, s9, s10, s11, s12, s13, s14, s15, s16, s17, s18, s19, s20, s21, s22, s23, s24, s25, s26, s27, s28, s29, s30, s31, s32, s33, s34, s35, s36, s37, s38, s39, s40, s41, s42, s43, s44, s45, s46, s47⟩
                go_simp
                with_reducible rfl
               rotate_left
               ·simp only [Act.put, sA_, sZ_, sS_, i64_w, i32_w]
                rfl
               refine pu_ 22 111 HT_ (bs 65 4160749567) rfl rfl ?_
               refine take_ (i := 27) (N := some 116) (v := ?_) (a' := ?_) (bs 65 4294967295) rfl rfl (take_ofW HT_.out HW_.out (by kernel_rfl)) (fun _ _ _ h => h) (Or.inl ⟨by rfl, ?_⟩) hHeld ?_ ?_
               rotate_left
               ·rintro w' ⟨s0, s1, s2, s3, s4, s5, s6, s7, s8, s9, s10, s11, s12, s13, s14, s15, s16, s17, s18, s19, s20, s21, s22, s23, s24, s25, s26, s27, s28, s29, s30, s31, s32, s33, s34, s35, s36, s37, s38, s39, s40, s41, s42, s43, s44, s45, s46, s47⟩
                go_simp
                with_reducible rfl
               rotate_left
               ·simp only [Act.put, sA_, sZ_, sS_, i64_w, i32_w]
                rfl
               refine take_ (i := 32) (N := some 121) (v := ?_) (a' := ?_) (bs 65 8589934591) rfl rfl (take_ofW HT_.out HW_.out (by kernel_rfl)) (fun _ _ _ h => h) (Or.inl ⟨by rfl, ?_⟩) hHeld ?_ ?_
               rotate_left
               ·rintro w' ⟨s0, s1, s2, s3, s4, s5, s6, s7, s8, s9, s10, s11, s12, s13, s14, s15, s16, s17, s18, s19, s20, s21, s22, s23, s24, s25, s26, s27, s28, s29, s30, s31, s32, s33, s34, s35, s36, s37, s38, s39, s40, s41, s42, s43, s44, s45, s46, s47⟩
                go_simp
                with_reducible rfl
               rotate_left
               ·simp only [Act.put, sA_, sZ_, sS_, i64_w, i32_w]
                rfl
               refine pu_ 33 122 HT_ (bs 65 17179869183) rfl rfl ?_
               refine pu_ 34 123 HT_ (bs 65 34359738367) rfl rfl ?_
               refine pu_ 35 124 HT_ (bs 65 68719476735) rfl rfl ?_
               refine pu_ 36 125 HT_ (bs 65 137438953471) rfl rfl ?_
               refine pu_ 37 126 HT_ (bs 65 274877906943) rfl rfl ?_
               refine pu_ 38 127 HT_ (bs 65 549755813887) rfl rfl ?_
               refine pu_ 39 128 HT_ (bs 65 1099511627775) rfl rfl ?_
               refine pu_ 40 129 HT_ (bs 65 2199023255551) rfl rfl ?_
               refine pn_ 41 130 HT_ (bs 65 4398046511103) rfl rfl ?_
               refine pn_ 42 131 HT_ (bs 65 8796093022207) rfl rfl ?_
               refine pn_ 43 132 HT_ (bs 65 17592186044415) rfl rfl ?_
               refine pn_ 44 133 HT_ (bs 65 35184372088831) rfl rfl ?_
               refine pn_ 45 134 HT_ (bs 65 70368744177663) rfl rfl ?_
               refine pn_ 46 135 HT_ (bs 65 140737488355327) rfl rfl ?_
               refine pn_ 47 136 HT_ (bs 65 281474976710655) rfl rfl ?_
               refine pn_ 48 137 HT_ (bs 65 562949953421311) rfl rfl ?_
               refine pn_ 49 138 HT_ (bs 65 1125899906842623) rfl rfl ?_
               refine pn_ 50 139 HT_ (bs 65 2251799813685247) rfl rfl ?_
               refine pn_ 51 140 HT_ (bs 65 4503599627370495) rfl rfl ?_
               refine pu_ 52 141 HT_ (bs 65 9007199254740991) rfl rfl ?_
               refine pu_ 53 142 HT_ (bs 65 18014398509481983) rfl rfl ?_
               refine pu_ 54 143 HT_ (bs 65 36028797018963967) rfl rfl ?_
               refine pu_ 55 144 HT_ (bs 65 72057594037927935) rfl rfl ?_
               refine pu_ 56 145 HT_ (bs 65 144115188075855871) rfl rfl ?_
               refine pu_ 58 147 HT_ (bs 65 432345564227567615) rfl rfl ?_
               refine pu_ 59 148 HT_ (bs 65 1008806316530991103) rfl rfl ?_
               refine pu_ 60 149 HT_ (bs 65 2161727821137838079) rfl rfl ?_
               refine take_ (i := 57) (N := some 146) (v := ?_) (a' := ?_) (bs 65 2305843009213693951) rfl rfl (take_ofW HT_.out HW_.out (by kernel_rfl)) (fun _ _ _ h => h) (Or.inl ⟨by rfl, ?_⟩) hHeld ?_ ?_
               rotate_left
               ·rintro w' ⟨s0, s1, s2, s3, s4, s5, s6, s7, s8, s9, s10, s11, s12, s13, s14, s15, s16, s17, s18, s19, s20, s21, s22, s23, s24, s25, s26, s27, s28, s29, s30, s31, s32, s33, s34, s35, s36, s37, s38, s39, s40, s41, s42, s43, s44, s45, s46, s47⟩
                go_simp
                with_reducible rfl
               rotate_left
               ·simp only [Act.put, sA_, sZ_, sS_, i64_w, i32_w]
                rfl
               refine take_ (i := 61) (N := some 150) (v := ?_) (a' := ?_) (bs 65 4611686018427387903) rfl rfl (take_ofW HT_.out HW_.out (by kernel_rfl)) (fun _ _ _ h => h) (Or.inl ⟨by rfl, ?_⟩) hHeld ?_ ?_
               rotate_left
               ·rintro w' ⟨s0, s1, s2, s3, s4, s5, s6, s7, s8, s9, s10, s11, s12, s13, s14, s15, s16, s17, s18, s19, s20, s21, s22, s23, s24, s25, s26, s27, s28, s29, s30, s31, s32, s33, s34, s35, s36, s37, s38, s39, s40, s41, s42, s43, s44, s45, s46, s47⟩
                go_simp
                with_reducible rfl
               rotate_left
               ·simp only [Act.put, sA_, sZ_, sS_, i64_w, i32_w]
                rfl
               refine pu_ 62 151 HT_ (bs 65 9223372036854775807) rfl rfl ?_
               refine pu_ 63 152 HT_ (bs 65 18446744073709551615) rfl rfl ?_
               refine pu_ 64 153 HT_ (bs 65 36893488147419103231) rfl rfl ?_
               refine done_ (done_of HT_.out (by kernel_rfl)) ?_
               try go_wp2
               go_roundg k2
               case measure => have := HJ18.out; have := HK2.out; omega
               case rel => exact ⟨(wrap64 (x9_2 + 1)), (by first | rfl | (simp; done) | (simp [*]; done) | (simp [wrap64]; done)), H', ⟨by have := HJ18.out; have := HK2.out; omega⟩, ⟨by (with_reducible repeat (first | apply Kd.R_alloc | apply Kd.R_drewN | apply Kd.R_drew)); exact HO_3.out⟩, ⟨by (with_reducible repeat (first | apply Kd.R_alloc | apply Kd.R_drewN | apply Kd.R_drew)); exact HO_7.out⟩, ⟨bel_ HB.out⟩⟩
             ·rw [if_neg c49] at H
              have c49b0 : decide (x9_2 < (Int.tmod t252 (t245.length : Int))) = false := decide_eq_false c49
              clear c49
              obtain ⟨ji55, hji55⟩ : ∃ j_ : Int, (Int.tmod t252 (t245.length : Int)) = j_ := ⟨_, rfl⟩
              replace H : (if 0 ≤ (ji55) then (if (ji55) < (t245.length : Int) then (if ((rd_T31 t245 x9_2).f0) = ((rd_T31 t245 (ji55)).f0) then (laws_FnDelays.l0 k2 l0 t245 (ji55) t255 (wrap64 (x9_2 + 1))) else (if (!(((rd_T31 t255 x9_2).f0) == ((rd_T31 t245 x9_2).f0)) || (!(((rd_T31 t255 x9_2).f1) == ((rd_T31 t245 x9_2).f1)) || (!(((rd_T31 t255 x9_2).f2) == ((rd_T31 t245 x9_2).f2)) || (!(((rd_T31 t255 x9_2).f3) == ((rd_T31 t245 x9_2).f3)) || (!(((rd_T31 t255 x9_2).f4) == ((rd_T31 t245 x9_2).f4)) || (!(((rd_T31 t255 x9_2).f5) == ((rd_T31 t245 x9_2).f5)))))))) = true then (some false) else (laws_FnDelays.l0 k2 l0 t245 (ji55) t255 (wrap64 (x9_2 + 1))))) else (none)) else (none)) = some r := by first | (rw [hji55] at H; exact H) | (simp only [hji55] at H ⊢; exact H)
              (try rw [hji55] at c49b0)
              by_cases c56 : 0 ≤ (ji55)
              ·rw [if_pos c56] at H
               have c56b0 : decide (0 ≤ (ji55)) = true := decide_eq_true c56
               clear c56
               by_cases c57 : (ji55) < (t245.length : Int)
               ·rw [if_pos c57] at H
                have c57b0 : decide ((ji55) < (t245.length : Int)) = true := decide_eq_true c57
                clear c57
                by_cases c58 : ((rd_T31 t245 x9_2).f0) = ((rd_T31 t245 (ji55)).f0)
                ·as_aux_lemma =>
                 rw [if_pos c58] at H
                 have c58b0 : (((rd_T31 t245 x9_2).f0) == ((rd_T31 t245 (ji55)).f0)) = true := beq_iff_eq.mpr c58
                 have c58b1 : (((rd_T31 t245 x9_2).f0) != ((rd_T31 t245 (ji55)).f0)) = false := bne_eq_false_iff_eq.mpr c58
                 clear c58
                 have H' := Aside0.mk H
                 clear H
                 obtain ⟨Ao59, co59, eo59⟩ := Kd.R_slice HO_7.out
                 subst eo59
                 try go_wp2
                 have n0_ := Aside0.mk (Kd.R_drew HO_3.out)
                 have n1_ := Aside0.mk (Kd.R_drew HO_7.out)
                 have n2_ := Aside0.mk (below_drew1 HB.out)
                 clear HO_3
                 clear HO_7
                 clear HB
                 have HO_3 := n0_
                 have HO_7 := n1_
                 have HB := n2_
                 clear n0_ n1_ n2_
                 have p263 : 0 ≤ (x9_2 : Int) := of_decide_eq_true (by first | (with_reducible assumption) | assumption)
                 have q263 : x9_2 < (t255.length : Int) := of_decide_eq_true (by first | (with_reducible assumption) | assumption)
                 obtain ⟨ad263, e263, hx263_0, hx263_1, hx263_2, hx263_3, hx263_4, hx263_5⟩ := at_T31 (Kd.R_reads' HO_7.out).2.2 x9_2 p263 q263
                 cases e263
                 replace p263 := eq_true p263
                 replace q263 := eq_true q263
                 have p264 : 0 ≤ (x9_2 : Int) := of_decide_eq_true (by first | (with_reducible assumption) | assumption)
                 have q264 : x9_2 < (t245.length : Int) := of_decide_eq_true (by first | (with_reducible assumption) | assumption)
                 obtain ⟨ad264, e264, hx264_0, hx264_1, hx264_2, hx264_3, hx264_4, hx264_5⟩ := at_T31 (Kd.R_reads' HO_3.out).2.2 x9_2 p264 q264
                 cases e264
                 replace p264 := eq_true p264
                 replace q264 := eq_true q264
                 have p265 : 0 ≤ (x9_2 : Int) := of_decide_eq_true (by first | (with_reducible assumption) | assumption)
                 have q265 : x9_2 < (t255.length : Int) := of_decide_eq_true (by first | (with_reducible assumption) | assumption)
                 obtain ⟨ad265, e265, hx265_0, hx265_1, hx265_2, hx265_3, hx265_4, hx265_5⟩ := at_T31 (Kd.R_reads' HO_7.out).2.2 x9_2 p265 q265
                 obtain rfl : ad263 = ad265 := (by injection e265)
                 replace p265 := eq_true p265
                 replace q265 := eq_true q265
                 have p266 : 0 ≤ (x9_2 : Int) := of_decide_eq_true (by first | (with_reducible assumption) | assumption)
                 have q266 : x9_2 < (t245.length : Int) := of_decide_eq_true (by first | (with_reducible assumption) | assumption)
                 obtain ⟨ad266, e266, hx266_0, hx266_1, hx266_2, hx266_3, hx266_4, hx266_5⟩ := at_T31 (Kd.R_reads' HO_3.out).2.2 x9_2 p266 q266
                 obtain rfl : ad264 = ad266 := (by injection e266)
                 replace p266 := eq_true p266
                 replace q266 := eq_true q266
                 have p267 : 0 ≤ (x9_2 : Int) := of_decide_eq_true (by first | (with_reducible assumption) | assumption)
                 have q267 : x9_2 < (t255.length : Int) := of_decide_eq_true (by first | (with_reducible assumption) | assumption)
                 obtain ⟨ad267, e267, hx267_0, hx267_1, hx267_2, hx267_3, hx267_4, hx267_5⟩ := at_T31 (Kd.R_reads' HO_7.out).2.2 x9_2 p267 q267
                 obtain rfl : ad263 = ad267 := (by injection e267)
                 replace p267 := eq_true p267
                 replace q267 := eq_true q267
                 have p268 : 0 ≤ (x9_2 : Int) := of_decide_eq_true (by first | (with_reducible assumption) | assumption)
                 have q268 : x9_2 < (t245.length : Int) := of_decide_eq_true (by first | (with_reducible assumption) | assumption)
                 obtain ⟨ad268, e268, hx268_0, hx268_1, hx268_2, hx268_3, hx268_4, hx268_5⟩ := at_T31 (Kd.R_reads' HO_3.out).2.2 x9_2 p268 q268
                 obtain rfl : ad264 = ad268 := (by injection e268)
                 replace p268 := eq_true p268
                 replace q268 := eq_true q268
                 have p271 : 0 ≤ (x9_2 : Int) := of_decide_eq_true (by first | (with_reducible assumption) | assumption)
                 have q271 : x9_2 < (t245.length : Int) := of_decide_eq_true (by first | (with_reducible assumption) | assumption)
                 obtain ⟨ad271, e271, hx271_0, hx271_1, hx271_2, hx271_3, hx271_4, hx271_5⟩ := at_T31 (Kd.R_reads' HO_3.out).2.2 x9_2 p271 q271
                 obtain rfl : ad264 = ad271 := (by injection e271)
                 replace p271 := eq_true p271
                 replace q271 := eq_true q271
                 have p272 : 0 ≤ ((ji55) : Int) := of_decide_eq_true (by first | (with_reducible assumption) | assumption)
                 have q272 : (ji55) < (t245.length : Int) := of_decide_eq_true (by first | (with_reducible assumption) | assumption)
                 obtain ⟨ad272, e272, hx272_0, hx272_1, hx272_2, hx272_3, hx272_4, hx272_5⟩ := at_T31 (Kd.R_reads' HO_3.out).2.2 (ji55) p272 q272
                 obtain rfl : ad264 = ad272 := (by injection e272)
                 replace p272 := eq_true p272
                 replace q272 := eq_true q272
                 refine start_ (n := 65) (S := fun w' => w'.cell? (ad263.add ((x9_2).toNat * 6)) = some (.int .i64 ((rd_T31 t255 x9_2).f0)) ∧ w'.cell? ⟨(ad263.add ((x9_2).toNat * 6)).block, (ad263.add ((x9_2).toNat * 6)).off + 1, none⟩ = some (.int .i64 ((rd_T31 t255 x9_2).f1)) ∧ w'.cell? ⟨(ad263.add ((x9_2).toNat * 6)).block, (ad263.add ((x9_2).toNat * 6)).off + 2, none⟩ = some (.int .i64 ((rd_T31 t255 x9_2).f2)) ∧ w'.cell? ⟨(ad263.add ((x9_2).toNat * 6)).block, (ad263.add ((x9_2).toNat * 6)).off + 3, none⟩ = some (.int .i64 ((rd_T31 t255 x9_2).f3)) ∧ w'.cell? ⟨(ad263.add ((x9_2).toNat * 6)).block, (ad263.add ((x9_2).toNat * 6)).off + 4, none⟩ = some (.int .i64 ((rd_T31 t255 x9_2).f4)) ∧ w'.cell? ⟨(ad263.add ((x9_2).toNat * 6)).block, (ad263.add ((x9_2).toNat * 6)).off + 5, none⟩ = some (.int .i64 ((rd_T31 t255 x9_2).f5)) ∧ w'.cell? (ad264.add ((x9_2).toNat * 6)) = some (.int .i64 ((rd_T31 t245 x9_2).f0)) ∧ w'.cell? ⟨(ad264.add ((x9_2).toNat * 6)).block, (ad264.add ((x9_2).toNat * 6)).off + 1, none⟩ = some (.int .i64 ((rd_T31 t245 x9_2).f1)) ∧ w'.cell? ⟨(ad264.add ((x9_2).toNat * 6)).block, (ad264.add ((x9_2).toNat * 6)).off + 2, none⟩ = some (.int .i64 ((rd_T31 t245 x9_2).f2)) ∧ w'.cell? ⟨(ad264.add ((x9_2).toNat * 6)).block, (ad264.add ((x9_2).toNat * 6)).off + 3, none⟩ = some (.int .i64 ((rd_T31 t245 x9_2).f3)) ∧ w'.cell? ⟨(ad264.add ((x9_2).toNat * 6)).block, (ad264.add ((x9_2).toNat * 6)).off + 4, none⟩ = some (.int .i64 ((rd_T31 t245 x9_2).f4)) ∧ w'.cell? ⟨(ad264.add ((x9_2).toNat * 6)).block, (ad264.add ((x9_2).toNat * 6)).off + 5, none⟩ = some (.int .i64 ((rd_T31 t245 x9_2).f5)) ∧ w'.cell? (ad263.add ((x9_2).toNat * 6)) = some (.int .i64 ((rd_T31 t255 x9_2).f0)) ∧ w'.cell? ⟨(ad263.add ((x9_2).toNat * 6)).block, (ad263.add ((x9_2).toNat * 6)).off + 1, none⟩ = some (.int .i64 ((rd_T31 t255 x9_2).f1)) ∧ w'.cell? ⟨(ad263.add ((x9_2).toNat * 6)).block, (ad263.add ((x9_2).toNat * 6)).off + 2, none⟩ = some (.int .i64 ((rd_T31 t255 x9_2).f2)) ∧ w'.cell? ⟨(ad263.add ((x9_2).toNat * 6)).block, (ad263.add ((x9_2).toNat * 6)).off + 3, none⟩ = some (.int .i64 ((rd_T31 t255 x9_2).f3)) ∧ w'.cell? ⟨(ad263.add ((x9_2).toNat * 6)).block, (ad263.add ((x9_2).toNat * 6)).off + 4, none⟩ = some (.int .i64 ((rd_T31 t255 x9_2).f4)) ∧ w'.cell? ⟨(ad263.add ((x9_2).toNat * 6)).block, (ad263.add ((x9_2).toNat * 6)).off + 5, none⟩ = some (.int .i64 ((rd_T31 t255 x9_2).f5)) ∧ w'.cell? (ad264.add ((x9_2).toNat * 6)) = some (.int .i64 ((rd_T31 t245 x9_2).f0)) ∧ w'.cell? ⟨(ad264.add ((x9_2).toNat * 6)).block, (ad264.add ((x9_2).toNat * 6)).off + 1, none⟩ = some (.int .i64 ((rd_T31 t245 x9_2).f1)) ∧ w'.cell? ⟨(ad264.add ((x9_2).toNat * 6)).block, (ad264.add ((x9_2).toNat * 6)).off + 2, none⟩ = some (.int .i64 ((rd_T31 t245 x9_2).f2)) ∧ w'.cell? ⟨(ad264.add ((x9_2).toNat * 6)).block, (ad264.add ((x9_2).toNat * 6)).off + 3, none⟩ = some (.int .i64 ((rd_T31 t245 x9_2).f3)) ∧ w'.cell? ⟨(ad264.add ((x9_2).toNat * 6)).block, (ad264.add ((x9_2).toNat * 6)).off + 4, none⟩ = some (.int .i64 ((rd_T31 t245 x9_2).f4)) ∧ w'.cell? ⟨(ad264.add ((x9_2).toNat * 6)).block, (ad264.add ((x9_2).toNat * 6)).off + 5, none⟩ = some (.int .i64 ((rd_T31 t245 x9_2).f5)) ∧ w'.cell? (ad263.add ((x9_2).toNat * 6)) = some (.int .i64 ((rd_T31 t255 x9_2).f0)) ∧ w'.cell? ⟨(ad263.add ((x9_2).toNat * 6)).block, (ad263.add ((x9_2).toNat * 6)).off + 1, none⟩ = some (.int .i64 ((rd_T31 t255 x9_2).f1)) ∧ w'.cell? ⟨(ad263.add ((x9_2).toNat * 6)).block, (ad263.add ((x9_2).toNat * 6)).off + 2, none⟩ = some (.int .i64 ((rd_T31 t255 x9_2).f2)) ∧ w'.cell? ⟨(ad263.add ((x9_2).toNat * 6)).block, (ad263.add ((x9_2).toNat * 6)).off + 3, none⟩ = some (.int .i64 ((rd_T31 t255 x9_2).f3)) ∧ w'.cell? ⟨(ad263.add ((x9_2).toNat * 6)).block, (ad263.add ((x9_2).toNat * 6)).off + 4, none⟩ = some (.int .i64 ((rd_T31 t255 x9_2).f4)) ∧ w'.cell? ⟨(ad263.add ((x9_2).toNat * 6)).block, (ad263.add ((x9_2).toNat * 6)).off + 5, none⟩ = some (.int .i64 ((rd_T31 t255 x9_2).f5)) ∧ w'.cell? (ad264.add ((x9_2).toNat * 6)) = some (.int .i64 ((rd_T31 t245 x9_2).f0)) ∧ w'.cell? ⟨(ad264.add ((x9_2).toNat * 6)).block, (ad264.add ((x9_2).toNat * 6)).off + 1, none⟩ = some (.int .i64 ((rd_T31 t245 x9_2).f1)) ∧ w'.cell? ⟨(ad264.add ((x9_2).toNat * 6)).block, (ad264.add ((x9_2).toNat * 6)).off + 2, none⟩ = some (.int .i64 ((rd_T31 t245 x9_2).f2)) ∧ w'.cell? ⟨(ad264.add ((x9_2).toNat * 6)).block, (ad264.add ((x9_2).toNat * 6)).off + 3, none⟩ = some (.int .i64 ((rd_T31 t245 x9_2).f3)) ∧ w'.cell? ⟨(ad264.add ((x9_2).toNat * 6)).block, (ad264.add ((x9_2).toNat * 6)).off + 4, none⟩ = some (.int .i64 ((rd_T31 t245 x9_2).f4)) ∧ w'.cell? ⟨(ad264.add ((x9_2).toNat * 6)).block, (ad264.add ((x9_2).toNat * 6)).off + 5, none⟩ = some (.int .i64 ((rd_T31 t245 x9_2).f5)) ∧ w'.cell? (ad264.add ((x9_2).toNat * 6)) = some (.int .i64 ((rd_T31 t245 x9_2).f0)) ∧ w'.cell? ⟨(ad264.add ((x9_2).toNat * 6)).block, (ad264.add ((x9_2).toNat * 6)).off + 1, none⟩ = some (.int .i64 ((rd_T31 t245 x9_2).f1)) ∧ w'.cell? ⟨(ad264.add ((x9_2).toNat * 6)).block, (ad264.add ((x9_2).toNat * 6)).off + 2, none⟩ = some (.int .i64 ((rd_T31 t245 x9_2).f2)) ∧ w'.cell? ⟨(ad264.add ((x9_2).toNat * 6)).block, (ad264.add ((x9_2).toNat * 6)).off + 3, none⟩ = some (.int .i64 ((rd_T31 t245 x9_2).f3)) ∧ w'.cell? ⟨(ad264.add ((x9_2).toNat * 6)).block, (ad264.add ((x9_2).toNat * 6)).off + 4, none⟩ = some (.int .i64 ((rd_T31 t245 x9_2).f4)) ∧ w'.cell? ⟨(ad264.add ((x9_2).toNat * 6)).block, (ad264.add ((x9_2).toNat * 6)).off + 5, none⟩ = some (.int .i64 ((rd_T31 t245 x9_2).f5)) ∧ w'.cell? (ad264.add (((ji55)).toNat * 6)) = some (.int .i64 ((rd_T31 t245 (ji55)).f0)) ∧ w'.cell? ⟨(ad264.add (((ji55)).toNat * 6)).block, (ad264.add (((ji55)).toNat * 6)).off + 1, none⟩ = some (.int .i64 ((rd_T31 t245 (ji55)).f1)) ∧ w'.cell? ⟨(ad264.add (((ji55)).toNat * 6)).block, (ad264.add (((ji55)).toNat * 6)).off + 2, none⟩ = some (.int .i64 ((rd_T31 t245 (ji55)).f2)) ∧ w'.cell? ⟨(ad264.add (((ji55)).toNat * 6)).block, (ad264.add (((ji55)).toNat * 6)).off + 3, none⟩ = some (.int .i64 ((rd_T31 t245 (ji55)).f3)) ∧ w'.cell? ⟨(ad264.add (((ji55)).toNat * 6)).block, (ad264.add (((ji55)).toNat * 6)).off + 4, none⟩ = some (.int .i64 ((rd_T31 t245 (ji55)).f4)) ∧ w'.cell? ⟨(ad264.add (((ji55)).toNat * 6)).block, (ad264.add (((ji55)).toNat * 6)).off + 5, none⟩ = some (.int .i64 ((rd_T31 t245 (ji55)).f5))) (ds := []) (bs 65 0) (by kernel_rfl) rfl rfl ⟨hx263_0, hx263_1, hx263_2, hx263_3, hx263_4, hx263_5, hx264_0, hx264_1, hx264_2, hx264_3, hx264_4, hx264_5, hx265_0, hx265_1, hx265_2, hx265_3, hx265_4, hx265_5, hx266_0, hx266_1, hx266_2, hx266_3, hx266_4, hx266_5, hx267_0, hx267_1, hx267_2, hx267_3, hx267_4, hx267_5, hx268_0, hx268_1, hx268_2, hx268_3, hx268_4, hx268_5, hx271_0, hx271_1, hx271_2, hx271_3, hx271_4, hx271_5, hx272_0, hx272_1, hx272_2, hx272_3, hx272_4, hx272_5⟩ (fun hHeld => ?_); refine with_tabW laws_FnDelays.tab14 laws_FnDelays.bits14 (fun HT_ HW_ => ?_)
                 generalize wr.drew = w60 at HO_3 HO_7 HB hx263_0 hx263_1 hx263_2 hx263_3 hx263_4 hx263_5 hx264_0 hx264_1 hx264_2 hx264_3 hx264_4 hx264_5 hx265_0 hx265_1 hx265_2 hx265_3 hx265_4 hx265_5 hx266_0 hx266_1 hx266_2 hx266_3 hx266_4 hx266_5 hx267_0 hx267_1 hx267_2 hx267_3 hx267_4 hx267_5 hx268_0 hx268_1 hx268_2 hx268_3 hx268_4 hx268_5 hx271_0 hx271_1 hx271_2 hx271_3 hx271_4 hx271_5 hx272_0 hx272_1 hx272_2 hx272_3 hx272_4 hx272_5 hHeld ⊢
                 refine pu_ 0 89 HT_ (bs 65 1) rfl rfl ?_
                 refine pu_ 1 90 HT_ (bs 65 3) rfl rfl ?_
                 refine pu_ 2 91 HT_ (bs 65 7) rfl rfl ?_
                 refine pu_ 3 92 HT_ (bs 65 15) rfl rfl ?_
                 refine pu_ 5 94 HT_ (bs 65 47) rfl rfl ?_
                 refine pu_ 6 95 HT_ (bs 65 111) rfl rfl ?_
                 refine pu_ 7 96 HT_ (bs 65 239) rfl rfl ?_
                 refine pu_ 8 97 HT_ (bs 65 495) rfl rfl ?_
                 refine take_ (i := 4) (N := some 93) (v := ?_) (a' := ?_) (bs 65 511) rfl rfl (take_ofW HT_.out HW_.out (by kernel_rfl)) (fun _ _ _ h => h) (Or.inl ⟨by rfl, ?_⟩) hHeld ?_ ?_
                 rotate_left
                 ·rintro w' ⟨s0, s1, s2, s3, s4, s5, s6, s7, s8, s9, s10, s11, s12, s13, s14, s15, s16, s17, s18, s19, s20, s21, s22, s23, s24, s25, s26, s27, s28, s29, s30, s31, s32, s33, s34, s35, s36, s37, s38, s39, s40, s41, s42, s43, s44, s45, s46, s47⟩
                  go_simp
                  with_reducible rfl
                 rotate_left
                 ·simp only [Act.put, sA_, sZ_, sS_, i64_w, i32_w]
                  rfl
                 refine take_ (i := 9) (N := some 98) (v := ?_) (a' := ?_) (bs 65 1023) rfl rfl (take_ofW HT_.out HW_.out (by kernel_rfl)) (fun _ _ _ h => h) (Or.inl ⟨by rfl, ?_⟩) hHeld ?_ ?_
                 rotate_left
                 ·rintro w' ⟨s0, s1, s2, s3, s4, s5, s6, s7, s8, s9, s10, s11, s12, s13, s14, s15, s16, s17, s18, s19, s20, s21, s22, s23, s24, s25, s26, s27, s28, s29, s30, s31, s32, s33, s34, s35, s36, s37, s38, s39, s40, s41, s42, s43, s44, s45, s46, s47⟩
                  go_simp
                  with_reducible rfl
                 rotate_left
                 ·simp only [Act.put, sA_, sZ_, sS_, i64_w, i32_w]
                  rfl
                 refine pu_ 10 99 HT_ (bs 65 2047) rfl rfl ?_
                 refine pu_ 11 100 HT_ (bs 65 4095) rfl rfl ?_
                 refine pu_ 12 101 HT_ (bs 65 8191) rfl rfl ?_
                 refine pu_ 13 102 HT_ (bs 65 16383) rfl rfl ?_
                 refine pu_ 14 103 HT_ (bs 65 32767) rfl rfl ?_
                 refine pu_ 15 104 HT_ (bs 65 65535) rfl rfl ?_
                 refine pu_ 17 106 HT_ (bs 65 196607) rfl rfl ?_
                 refine pu_ 18 107 HT_ (bs 65 458751) rfl rfl ?_
                 refine pu_ 19 108 HT_ (bs 65 983039) rfl rfl ?_
                 refine pu_ 20 109 HT_ (bs 65 2031615) rfl rfl ?_
                 refine pu_ 23 112 HT_ (bs 65 10420223) rfl rfl ?_
                 refine pu_ 24 113 HT_ (bs 65 27197439) rfl rfl ?_
                 refine pu_ 25 114 HT_ (bs 65 60751871) rfl rfl ?_
                 refine pu_ 26 115 HT_ (bs 65 127860735) rfl rfl ?_
                 refine pu_ 28 117 HT_ (bs 65 396296191) rfl rfl ?_
                 refine pu_ 29 118 HT_ (bs 65 933167103) rfl rfl ?_
                 refine pu_ 30 119 HT_ (bs 65 2006908927) rfl rfl ?_
                 refine pu_ 31 120 HT_ (bs 65 4154392575) rfl rfl ?_
                 refine take_ (i := 16) (N := some 105) (v := ?_) (a' := ?_) (bs 65 4154458111) rfl rfl (take_ofW HT_.out HW_.out (by kernel_rfl)) (fun _ _ _ h => h) (Or.inl ⟨by rfl, ?_⟩) hHeld ?_ ?_
                 rotate_left
                 ·rintro w' ⟨s0, s1, s2, s3, s4, s5, s6, s7, s8, s9, s10, s11, s12, s13, s14, s15, s16, s17, s18, s19, s20, s21, s22, s23, s24, s25, s26, s27, s28, s29, s30, s31, s32, s33, s34, s35, s36, s37, s38, s39, s40, s41, s42, s43, s44, s45, s46, s47⟩
                  go_simp
                  with_reducible rfl
                 rotate_left
                 ·simp only [Act.put, sA_, sZ_, sS_, i64_w, i32_w]
                  rfl
                 refine take_ (i := 21) (N := some 110) (v := ?_) (a' := ?_) (bs 65 4156555263) rfl rfl (take_ofW HT_.out HW_.out (by kernel_rfl)) (fun _ _ _ h => h) (Or.inl ⟨by rfl, ?_⟩) hHeld ?_ ?_
                 rotate_left
                 ·rintro w' ⟨s0, s1, s2, s3, s4, s5, s6, s7, s8, s9, s10, s11, s12, s13, s14, s15, s16, s17, s18, s19, s20, s21, s22, s23, s24, s25, s26, s27, s28, s29, s30, s31, s32, s33, s34, s35, s36, s37, s38, s39, s40, s41, s42, s43, s44, s45, s46, s47⟩
                  go_simp
                  with_reducible rfl
                 rotate_left
                 ·simp only [Act.put, sA_, sZ_, sS_, i64_w, i32_w]
                  rfl
                 refine pu_ 22 111 HT_ (bs 65 4160749567) rfl rfl ?_
                 refine take_ (i := 27) (N := some 116) (v := ?_) (a' := ?_) (bs 65 4294967295) rfl rfl (take_ofW HT_.out HW_.out (by kernel_rfl)) (fun _ _ _ h => h) (Or.inl ⟨by rfl, ?_⟩) hHeld ?_ ?_
                 rotate_left
                 ·rintro w' ⟨s0, s1, s2, s3, s4, s5, s6, s7, s8, s9, s10, s11, s12, s13, s14, s15, s16, s17, s18, s19, s20, s21, s22, s23, s24, s25, s26, s27, s28, s29, s30, s31, s32, s33, s34, s35, s36, s37, s38, s39, s40, s41, s42, s43, s44, s45, s46, s47⟩
                  go_simp
                  with_reducible rfl
                 rotate_left
                 ·simp only [Act.put, sA_, sZ_, sS_, i64_w, i32_w]
                  rfl
                 refine take_ (i := 32) (N := some 121) (v := ?_) (a' := ?_) (bs 65 8589934591) rfl rfl (take_ofW HT_.out HW_.out (by kernel_rfl)) (fun _ _ _ h => h) (Or.inl ⟨by rfl, ?_⟩) hHeld ?_ ?_
                 rotate_left
                 ·rintro w' ⟨s0, s1, s2, s3, s4, s5, s6, s7, s8, s9, s10, s11, s12, s13, s14, s15, s16, s17, s18, s19, s20, s21, s22, s23, s24, s25, s26, s27, s28, s29, s30, s31, s32, s33, s34, s35, s36, s37, s38, s39, s40, s41, s42, s43, s44, s45, s46, s47⟩
                  go_simp
                  with_reducible rfl
                 rotate_left
                 ·simp only [Act.put, sA_, sZ_, sS_, i64_w, i32_w]
                  rfl
                 refine pu_ 33 122 HT_ (bs 65 17179869183) rfl rfl ?_
                 refine pu_ 34 123 HT_ (bs 65 34359738367) rfl rfl ?_
                 refine pu_ 35 124 HT_ (bs 65 68719476735) rfl rfl ?_
                 refine pu_ 36 125 HT_ (bs 65 137438953471) rfl rfl ?_
                 refine pu_ 37 126 HT_ (bs 65 274877906943) rfl rfl ?_
                 refine pu_ 38 127 HT_ (bs 65 549755813887) rfl rfl ?_
                 refine pu_ 39 128 HT_ (bs 65 1099511627775) rfl rfl ?_
                 refine pu_ 40 129 HT_ (bs 65 2199023255551) rfl rfl ?_
                 refine pu_ 41 130 HT_ (bs 65 4398046511103) rfl rfl ?_
                 refine pu_ 42 131 HT_ (bs 65 8796093022207) rfl rfl ?_
                 refine pu_ 43 132 HT_ (bs 65 17592186044415) rfl rfl ?_
                 refine pu_ 44 133 HT_ (bs 65 35184372088831) rfl rfl ?_
                 refine pu_ 46 135 HT_ (bs 65 105553116266495) rfl rfl ?_
                 refine pu_ 47 136 HT_ (bs 65 246290604621823) rfl rfl ?_
                 refine pu_ 48 137 HT_ (bs 65 527765581332479) rfl rfl ?_
                 refine pu_ 49 138 HT_ (bs 65 1090715534753791) rfl rfl ?_
                 refine take_ (i := 45) (N := some 134) (v := ?_) (a' := ?_) (bs 65 1125899906842623) rfl rfl (take_ofW HT_.out HW_.out (by kernel_rfl)) (fun _ _ _ h => h) (Or.inl ⟨by rfl, ?_⟩) hHeld ?_ ?_
                 rotate_left
                 ·rintro w' ⟨s0, s1, s2, s3, s4, s5, s6, s7, s8, s9, s10, s11, s12, s13, s14, s15, s16, s17, s18, s19, s20, s21, s22, s23, s24, s25, s26, s27, s28, s29, s30, s31, s32, s33, s34, s35, s36, s37, s38, s39, s40, s41, s42, s43, s44, s45, s46, s47⟩
                  go_simp
                  with_reducible rfl
                 rotate_left
                 ·simp only [Act.put, sA_, sZ_, sS_, i64_w, i32_w]
                  rfl
                 refine take_ (i := 50) (N := some 139) (v := ?_) (a' := ?_) (bs 65 2251799813685247) rfl rfl (take_ofW HT_.out HW_.out (by kernel_rfl)) (fun _ _ _ h => h) (Or.inl ⟨by rfl, ?_⟩) hHeld ?_ ?_
                 rotate_left
                 ·rintro w' ⟨s0, s1, s2, s3, s4, s5, s6, s7, s8, s9, s10, s11, s12, s13, s14, s15, s16, s17, s18, s19, s20, s21, s22, s23, s24, s25, s26, s27, s28, s29, s30, s31, s32, s33, s34, s35, s36, s37, s38, s39, s40, s41, s42, s43, s44, s45, s46, s47⟩
                  go_simp
                  with_reducible rfl
                 rotate_left
                 ·simp only [Act.put, sA_, sZ_, sS_, i64_w, i32_w]
                  rfl
                 refine pu_ 51 140 HT_ (bs 65 4503599627370495) rfl rfl ?_
                 refine pu_ 52 141 HT_ (bs 65 9007199254740991) rfl rfl ?_
                 refine pu_ 53 142 HT_ (bs 65 18014398509481983) rfl rfl ?_
                 refine pn_ 54 143 HT_ (bs 65 36028797018963967) rfl rfl ?_
                 refine pn_ 55 144 HT_ (bs 65 72057594037927935) rfl rfl ?_
                 refine pn_ 56 145 HT_ (bs 65 144115188075855871) rfl rfl ?_
                 refine pn_ 57 146 HT_ (bs 65 288230376151711743) rfl rfl ?_
                 refine pn_ 58 147 HT_ (bs 65 576460752303423487) rfl rfl ?_
                 refine pn_ 59 148 HT_ (bs 65 1152921504606846975) rfl rfl ?_
                 refine pn_ 60 149 HT_ (bs 65 2305843009213693951) rfl rfl ?_
                 refine pn_ 61 150 HT_ (bs 65 4611686018427387903) rfl rfl ?_
                 refine pn_ 62 151 HT_ (bs 65 9223372036854775807) rfl rfl ?_
                 refine pu_ 63 152 HT_ (bs 65 18446744073709551615) rfl rfl ?_
                 refine pu_ 64 153 HT_ (bs 65 36893488147419103231) rfl rfl ?_
                 refine done_ (done_of HT_.out (by kernel_rfl)) ?_
                 try go_wp2
                 (first | go_roundg k2 | (simp only [← hji55]; go_roundg k2))
                 case measure => have := HJ18.out; have := HK2.out; omega
                 case rel => exact ⟨(wrap64 (x9_2 + 1)), (by first | rfl | (simp; done) | (simp [*]; done) | (simp [wrap64]; done)), (by first | exact H' | (rw [hji55]; exact H')), ⟨by have := HJ18.out; have := HK2.out; omega⟩, ⟨by (with_reducible repeat (first | apply Kd.R_alloc | apply Kd.R_drewN | apply Kd.R_drew)); exact HO_3.out⟩, ⟨by (with_reducible repeat (first | apply Kd.R_alloc | apply Kd.R_drewN | apply Kd.R_drew)); exact HO_7.out⟩, ⟨bel_ HB.out⟩⟩
                ·rw [if_neg c58] at H
                 have c58b0 : (((rd_T31 t245 x9_2).f0) == ((rd_T31 t245 (ji55)).f0)) = false := beq_eq_false_iff_ne.mpr c58
                 have c58b1 : (((rd_T31 t245 x9_2).f0) != ((rd_T31 t245 (ji55)).f0)) = true := bne_iff_ne.mpr c58
                 by_cases c61 : (!(((rd_T31 t255 x9_2).f0) == ((rd_T31 t245 x9_2).f0)) || (!(((rd_T31 t255 x9_2).f1) == ((rd_T31 t245 x9_2).f1)) || (!(((rd_T31 t255 x9_2).f2) == ((rd_T31 t245 x9_2).f2)) || (!(((rd_T31 t255 x9_2).f3) == ((rd_T31 t245 x9_2).f3)) || (!(((rd_T31 t255 x9_2).f4) == ((rd_T31 t245 x9_2).f4)) || (!(((rd_T31 t255 x9_2).f5) == ((rd_T31 t245 x9_2).f5)))))))) = true
                 ·as_aux_lemma =>
                  rw [if_pos c61] at H
                  have c61b0 : (!(((rd_T31 t255 x9_2).f0) == ((rd_T31 t245 x9_2).f0)) || (!(((rd_T31 t255 x9_2).f1) == ((rd_T31 t245 x9_2).f1)) || (!(((rd_T31 t255 x9_2).f2) == ((rd_T31 t245 x9_2).f2)) || (!(((rd_T31 t255 x9_2).f3) == ((rd_T31 t245 x9_2).f3)) || (!(((rd_T31 t255 x9_2).f4) == ((rd_T31 t245 x9_2).f4)) || (!(((rd_T31 t255 x9_2).f5) == ((rd_T31 t245 x9_2).f5)))))))) = true := c61
                  clear c61
                  obtain rfl := Option.some.inj H
                  obtain ⟨Ao62, co62, eo62⟩ := Kd.R_slice HO_7.out
                  subst eo62
                  try go_wp2
                  have n0_ := Aside0.mk (Kd.R_drew HO_3.out)
                  have n1_ := Aside0.mk (Kd.R_drew HO_7.out)
                  have n2_ := Aside0.mk (below_drew1 HB.out)
                  clear HO_3
                  clear HO_7
                  clear HB
                  have HO_3 := n0_
                  have HO_7 := n1_
                  have HB := n2_
                  clear n0_ n1_ n2_
                  have p263 : 0 ≤ (x9_2 : Int) := of_decide_eq_true (by first | (with_reducible assumption) | assumption)
                  have q263 : x9_2 < (t255.length : Int) := of_decide_eq_true (by first | (with_reducible assumption) | assumption)
                  obtain ⟨ad263, e263, hx263_0, hx263_1, hx263_2, hx263_3, hx263_4, hx263_5⟩ := at_T31 (Kd.R_reads' HO_7.out).2.2 x9_2 p263 q263
                  cases e263
                  replace p263 := eq_true p263
                  replace q263 := eq_true q263
                  have p264 : 0 ≤ (x9_2 : Int) := of_decide_eq_true (by first | (with_reducible assumption) | assumption)
                  have q264 : x9_2 < (t245.length : Int) := of_decide_eq_true (by first | (with_reducible assumption) | assumption)
                  obtain ⟨ad264, e264, hx264_0, hx264_1, hx264_2, hx264_3, hx264_4, hx264_5⟩ := at_T31 (Kd.R_reads' HO_3.out).2.2 x9_2 p264 q264
                  cases e264
                  replace p264 := eq_true p264
                  replace q264 := eq_true q264
                  have p265 : 0 ≤ (x9_2 : Int) := of_decide_eq_true (by first | (with_reducible assumption) | assumption)
                  have q265 : x9_2 < (t255.length : Int) := of_decide_eq_true (by first | (with_reducible assumption) | assumption)
                  obtain ⟨ad265, e265, hx265_0, hx265_1, hx265_2, hx265_3, hx265_4, hx265_5⟩ := at_T31 (Kd.R_reads' HO_7.out).2.2 x9_2 p265 q265
                  obtain rfl : ad263 = ad265 := (by injection e265)
                  replace p265 := eq_true p265
                  replace q265 := eq_true q265
                  have p266 : 0 ≤ (x9_2 : Int) := of_decide_eq_true (by first | (with_reducible assumption) | assumption)
                  have q266 : x9_2 < (t245.length : Int) := of_decide_eq_true (by first | (with_reducible assumption) | assumption)
                  obtain ⟨ad266, e266, hx266_0, hx266_1, hx266_2, hx266_3, hx266_4, hx266_5⟩ := at_T31 (Kd.R_reads' HO_3.out).2.2 x9_2 p266 q266
                  obtain rfl : ad264 = ad266 := (by injection e266)
                  replace p266 := eq_true p266
                  replace q266 := eq_true q266
                  have p267 : 0 ≤ (x9_2 : Int) := of_decide_eq_true (by first | (with_reducible assumption) | assumption)
                  have q267 : x9_2 < (t255.length : Int) := of_decide_eq_true (by first | (with_reducible assumption) | assumption)
                  obtain ⟨ad267, e267, hx267_0, hx267_1, hx267_2, hx267_3, hx267_4, hx267_5⟩ := at_T31 (Kd.R_reads' HO_7.out).2.2 x9_2 p267 q267
                  obtain rfl : ad263 = ad267 := (by injection e267)
                  replace p267 := eq_true p267
                  replace q267 := eq_true q267
                  have p268 : 0 ≤ (x9_2 : Int) := of_decide_eq_true (by first | (with_reducible assumption) | assumption)
                  have q268 : x9_2 < (t245.length : Int) := of_decide_eq_true (by first | (with_reducible assumption) | assumption)
                  obtain ⟨ad268, e268, hx268_0, hx268_1, hx268_2, hx268_3, hx268_4, hx268_5⟩ := at_T31 (Kd.R_reads' HO_3.out).2.2 x9_2 p268 q268
                  obtain rfl : ad264 = ad268 := (by injection e268)
                  replace p268 := eq_true p268
                  replace q268 := eq_true q268
                  have p271 : 0 ≤ (x9_2 : Int) := of_decide_eq_true (by first | (with_reducible assumption) | assumption)
                  have q271 : x9_2 < (t245.length : Int) := of_decide_eq_true (by first | (with_reducible assumption) | assumption)
                  obtain ⟨ad271, e271, hx271_0, hx271_1, hx271_2, hx271_3, hx271_4, hx271_5⟩ := at_T31 (Kd.R_reads' HO_3.out).2.2 x9_2 p271 q271
                  obtain rfl : ad264 = ad271 := (by injection e271)
                  replace p271 := eq_true p271
                  replace q271 := eq_true q271
                  have p272 : 0 ≤ ((ji55) : Int) := of_decide_eq_true (by first | (with_reducible assumption) | assumption)
                  have q272 : (ji55) < (t245.length : Int) := of_decide_eq_true (by first | (with_reducible assumption) | assumption)
                  obtain ⟨ad272, e272, hx272_0, hx272_1, hx272_2, hx272_3, hx272_4, hx272_5⟩ := at_T31 (Kd.R_reads' HO_3.out).2.2 (ji55) p272 q272
                  obtain rfl : ad264 = ad272 := (by injection e272)
                  replace p272 := eq_true p272
                  replace q272 := eq_true q272
                  have p273 : 0 ≤ (x9_2 : Int) := of_decide_eq_true (by first | (with_reducible assumption) | assumption)
                  have q273 : x9_2 < (t255.length : Int) := of_decide_eq_true (by first | (with_reducible assumption) | assumption)
                  obtain ⟨ad273, e273, hx273_0, hx273_1, hx273_2, hx273_3, hx273_4, hx273_5⟩ := at_T31 (Kd.R_reads' HO_7.out).2.2 x9_2 p273 q273
                  obtain rfl : ad263 = ad273 := (by injection e273)
                  replace p273 := eq_true p273
                  replace q273 := eq_true q273
                  have p274 : 0 ≤ (x9_2 : Int) := of_decide_eq_true (by first | (with_reducible assumption) | assumption)
                  have q274 : x9_2 < (t245.length : Int) := of_decide_eq_true (by first | (with_reducible assumption) | assumption)
                  obtain ⟨ad274, e274, hx274_0, hx274_1, hx274_2, hx274_3, hx274_4, hx274_5⟩ := at_T31 (Kd.R_reads' HO_3.out).2.2 x9_2 p274 q274
                  obtain rfl : ad264 = ad274 := (by injection e274)
                  replace p274 := eq_true p274
                  replace q274 := eq_true q274
                  refine start_ (n := 65) (S := fun w' => w'.cell? (ad263.add ((x9_2).toNat * 6)) = some (.int .i64 ((rd_T31 t255 x9_2).f0)) ∧ w'.cell? ⟨(ad263.add ((x9_2).toNat * 6)).block, (ad263.add ((x9_2).toNat * 6)).off + 1, none⟩ = some (.int .i64 ((rd_T31 t255 x9_2).f1)) ∧ w'.cell? ⟨(ad263.add ((x9_2).toNat * 6)).block, (ad263.add ((x9_2).toNat * 6)).off + 2, none⟩ = some (.int .i64 ((rd_T31 t255 x9_2).f2)) ∧ w'.cell? ⟨(ad263.add ((x9_2).toNat * 6)).block, (ad263.add ((x9_2).toNat * 6)).off + 3, none⟩ = some (.int .i64 ((rd_T31 t255 x9_2).f3)) ∧ w'.cell? ⟨(ad263.add ((x9_2).toNat * 6)).block, (ad263.add ((x9_2).toNat * 6)).off + 4, none⟩ = some (.int .i64 ((rd_T31 t255 x9_2).f4)) ∧ w'.cell? ⟨(ad263.add ((x9_2).toNat * 6)).block, (ad263.add ((x9_2).toNat * 6)).off + 5, none⟩ = some (.int .i64 ((rd_T31 t255 x9_2).f5)) ∧ w'.cell? (ad264.add ((x9_2).toNat * 6)) = some (.int .i64 ((rd_T31 t245 x9_2).f0)) ∧ w'.cell? ⟨(ad264.add ((x9_2).toNat * 6)).block, (ad264.add ((x9_2).toNat * 6)).off + 1, none⟩ = some (.int .i64 ((rd_T31 t245 x9_2).f1)) ∧ w'.cell? ⟨(ad264.add ((x9_2).toNat * 6)).block, (ad264.add ((x9_2).toNat * 6)).off + 2, none⟩ = some (.int .i64 ((rd_T31 t245 x9_2).f2)) ∧ w'.cell? ⟨(ad264.add ((x9_2).toNat * 6)).block, (ad264.add ((x9_2).toNat * 6)).off + 3, none⟩ = some (.int .i64 ((rd_T31 t245 x9_2).f3)) ∧ w'.cell? ⟨(ad264.add ((x9_2).toNat * 6)).block, (ad264.add ((x9_2).toNat * 6)).off + 4, none⟩ = some (.int .i64 ((rd_T31 t245 x9_2).f4)) ∧ w'.cell? ⟨(ad264.add ((x9_2).toNat * 6)).block, (ad264.add ((x9_2).toNat * 6)).off + 5, none⟩ = some (.int .i64 ((rd_T31 t245 x9_2).f5)) ∧ w'.cell? (ad263.add ((x9_2).toNat * 6)) = some (.int .i64 ((rd_T31 t255 x9_2).f0)) ∧ w'.cell? ⟨(ad263.add ((x9_2).toNat * 6)).block, (ad263.add ((x9_2).toNat * 6)).off + 1, none⟩ = some (.int .i64 ((rd_T31 t255 x9_2).f1)) ∧ w'.cell? ⟨(ad263.add ((x9_2).toNat * 6)).block, (ad263.add ((x9_2).toNat * 6)).off + 2, none⟩ = some (.int .i64 ((rd_T31 t255 x9_2).f2)) ∧ w'.cell? ⟨(ad263.add ((x9_2).toNat * 6)).block, (ad263.add ((x9_2).toNat * 6)).off + 3, none⟩ = some (.int .i64 ((rd_T31 t255 x9_2).f3)) ∧ w'.cell? ⟨(ad263.add ((x9_2).toNat * 6)).block, (ad263.add ((x9_2).toNat * 6)).off + 4, none⟩ = some (.int .i64 ((rd_T31 t255 x9_2).f4)) ∧ w'.cell? ⟨(ad263.add ((x9_2).toNat * 6)).block, (ad263.add ((x9_2).toNat * 6)).off + 5, none⟩ = some (.int .i64 ((rd_T31 t255 x9_2).f5)) ∧ w'.cell? (ad264.add ((x9_2).toNat * 6)) = some (.int .i64 ((rd_T31 t245 x9_2).f0)) ∧ w'.cell? ⟨(ad264.add ((x9_2).toNat * 6)).block, (ad264.add ((x9_2).toNat * 6)).off + 1, none⟩ = some (.int .i64 ((rd_T31 t245 x9_2).f1)) ∧ w'.cell? ⟨(ad264.add ((x9_2).toNat * 6)).block, (ad264.add ((x9_2).toNat * 6)).off + 2, none⟩ = some (.int .i64 ((rd_T31 t245 x9_2).f2)) ∧ w'.cell? ⟨(ad264.add ((x9_2).toNat * 6)).block, (ad264.add ((x9_2).toNat * 6)).off + 3, none⟩ = some (.int .i64 ((rd_T31 t245 x9_2).f3)) ∧ w'.cell? ⟨(ad264.add ((x9_2).toNat * 6)).block, (ad264.add ((x9_2).toNat * 6)).off + 4, none⟩ = some (.int .i64 ((rd_T31 t245 x9_2).f4)) ∧ w'.cell? ⟨(ad264.add ((x9_2).toNat * 6)).block, (ad264.add ((x9_2).toNat * 6)).off + 5, none⟩ = some (.int .i64 ((rd_T31 t245 x9_2).f5)) ∧ w'.cell? (ad263.add ((x9_2).toNat * 6)) = some (.int .i64 ((rd_T31 t255 x9_2).f0)) ∧ w'.cell? ⟨(ad263.add ((x9_2).toNat * 6)).block, (ad263.add ((x9_2).toNat * 6)).off + 1, none⟩ = some (.int .i64 ((rd_T31 t255 x9_2).f1)) ∧ w'.cell? ⟨(ad263.add ((x9_2).toNat * 6)).block, (ad263.add ((x9_2).toNat * 6)).off + 2, none⟩ = some (.int .i64 ((rd_T31 t255 x9_2).f2)) ∧ w'.cell? ⟨(ad263.add ((x9_2).toNat * 6)).block, (ad263.add ((x9_2).toNat * 6)).off + 3, none⟩ = some (.int .i64 ((rd_T31 t255 x9_2).f3)) ∧ w'.cell? ⟨(ad263.add ((x9_2).toNat * 6)).block, (ad263.add ((x9_2).toNat * 6)).off + 4, none⟩ = some (.int .i64 ((rd_T31 t255 x9_2).f4)) ∧ w'.cell? ⟨(ad263.add ((x9_2).toNat * 6)).block, (ad263.add ((x9_2).toNat * 6)).off + 5, none⟩ = some (.int .i64 ((rd_T31 t255 x9_2).f5)) ∧ w'.cell? (ad264.add ((x9_2).toNat * 6)) = some (.int .i64 ((rd_T31 t245 x9_2).f0)) ∧ w'.cell? ⟨(ad264.add ((x9_2).toNat * 6)).block, (ad264.add ((x9_2).toNat * 6)).off + 1, none⟩ = some (.int .i64 ((rd_T31 t245 x9_2).f1)) ∧ w'.cell? ⟨(ad264.add ((x9_2).toNat * 6)).block, (ad264.add ((x9_2).toNat * 6)).off + 2, none⟩ = some (.int .i64 ((rd_T31 t245 x9_2).f2)) ∧ w'.cell? ⟨(ad264.add ((x9_2).toNat * 6)).block, (ad264.add ((x9_2).toNat * 6)).off + 3, none⟩ = some (.int .i64 ((rd_T31 t245 x9_2).f3)) ∧ w'.cell? ⟨(ad264.add ((x9_2).toNat * 6)).block, (ad264.add ((x9_2).toNat * 6)).off + 4, none⟩ = some (.int .i64 ((rd_T31 t245 x9_2).f4)) ∧ w'.cell? ⟨(ad264.add ((x9_2).toNat * 6)).block, (ad264.add ((x9_2).toNat * 6)).off + 5, none⟩ = some (.int .i64 ((rd_T31 t245 x9_2).f5)) ∧ w'.cell? (ad264.add ((x9_2).toNat * 6)) = some (.int .i64 ((rd_T31 t245 x9_2).f0)) ∧ w'.cell? ⟨(ad264.add ((x9_2).toNat * 6)).block, (ad264.add ((x9_2).toNat * 6)).off + 1, none⟩ = some (.int .i64 ((rd_T31 t245 x9_2).f1)) ∧ w'.cell? ⟨(ad264.add ((x9_2).toNat * 6)).block, (ad264.add ((x9_2).toNat * 6)).off + 2, none⟩ = some (.int .i64 ((rd_T31 t245 x9_2).f2)) ∧ w'.cell? ⟨(ad264.add ((x9_2).toNat * 6)).block, (ad264.add ((x9_2).toNat * 6)).off + 3, none⟩ = some (.int .i64 ((rd_T31 t245 x9_2).f3)) ∧ w'.cell? ⟨(ad264.add ((x9_2).toNat * 6)).block, (ad264.add ((x9_2).toNat * 6)).off + 4, none⟩ = some (.int .i64 ((rd_T31 t245 x9_2).f4)) ∧ w'.cell? ⟨(ad264.add ((x9_2).toNat * 6)).block, (ad264.add ((x9_2).toNat * 6)).off + 5, none⟩ = some (.int .i64 ((rd_T31 t245 x9_2).f5)) ∧ w'.cell? (ad264.add (((ji55)).toNat * 6)) = some (.int .i64 ((rd_T31 t245 (ji55)).f0)) ∧ w'.cell? ⟨(ad264.add (((ji55)).toNat * 6)).block, (ad264.add (((ji55)).toNat * 6)).off + 1, none⟩ = some (.int .i64 ((rd_T31 t245 (ji55)).f1)) ∧ w'.cell? ⟨(ad264.add (((ji55)).toNat * 6)).block, (ad264.add (((ji55)).toNat * 6)).off + 2, none⟩ = some (.int .i64 ((rd_T31 t245 (ji55)).f2)) ∧ w'.cell? ⟨(ad264.add (((ji55)).toNat * 6)).block, (ad264.add (((ji55)).toNat * 6)).off + 3, none⟩ = some (.int .i64 ((rd_T31 t245 (ji55)).f3)) ∧ w'.cell? ⟨(ad264.add (((ji55)).toNat * 6)).block, (ad264.add (((ji55)).toNat * 6)).off + 4, none⟩ = some (.int .i64 ((rd_T31 t245 (ji55)).f4)) ∧ w'.cell? ⟨(ad264.add (((ji55)).toNat * 6)).block, (ad264.add (((ji55)).toNat * 6)).off + 5, none⟩ = some (.int .i64 ((rd_T31 t245 (ji55)).f5)) ∧ w'.cell? (ad263.add ((x9_2).toNat * 6)) = some (.int .i64 ((rd_T31 t255 x9_2).f0)) ∧ w'.cell? ⟨(ad263.add ((x9_2).toNat * 6)).block, (ad263.add ((x9_2).toNat * 6)).off + 1, none⟩ = some (.int .i64 ((rd_T31 t255 x9_2).f1)) ∧ w'.cell? ⟨(ad263.add ((x9_2).toNat * 6)).block, (ad263.add ((x9_2).toNat * 6)).off + 2, none⟩ = some (.int .i64 ((rd_T31 t255 x9_2).f2)) ∧ w'.cell? ⟨(ad263.add ((x9_2).toNat * 6)).block, (ad263.add ((x9_2).toNat * 6)).off + 3, none⟩ = some (.int .i64 ((rd_T31 t255 x9_2).f3)) ∧ w'.cell? ⟨(ad263.add ((x9_2).toNat * 6)).block, (ad263.add ((x9_2).toNat * 6)).off + 4, none⟩ = some (.int .i64 ((rd_T31 t255 x9_2).f4)) ∧ w'.cell? ⟨(ad263.add ((x9_2).toNat * 6)).block, (ad263.add ((x9_2).toNat * 6)).off + 5, none⟩ = some (.int .i64 ((rd_T31 t255 x9_2).f5)) ∧ w'.cell? (ad264.add ((x9_2).toNat * 6)) = some (.int .i64 ((rd_T31 t245 x9_2).f0)) ∧ w'.cell? ⟨(ad264.add ((x9_2).toNat * 6)).block, (ad264.add ((x9_2).toNat * 6)).off + 1, none⟩ = some (.int .i64 ((rd_T31 t245 x9_2).f1)) ∧ w'.cell? ⟨(ad264.add ((x9_2).toNat * 6)).block, (ad264.add ((x9_2).toNat * 6)).off + 2, none⟩ = some (.int .i64 ((rd_T31 t245 x9_2).f2)) ∧ w'.cell? ⟨(ad264.add ((x9_2).toNat * 6)).block, (ad264.add ((x9_2).toNat * 6)).off + 3, none⟩ = some (.int .i64 ((rd_T31 t245 x9_2).f3)) ∧ w'.cell? ⟨(ad264.add ((x9_2).toNat * 6)).block, (ad264.add ((x9_2).toNat * 6)).off + 4, none⟩ = some (.int .i64 ((rd_T31 t245 x9_2).f4)) ∧ w'.cell? ⟨(ad264.add ((x9_2).toNat * 6)).block, (ad264.add ((x9_2).toNat * 6)).off + 5, none⟩ = some (.int .i64 ((rd_T31 t245 x9_2).f5))) (ds := []) (bs 65 0) (by kernel_rfl) rfl rfl ⟨hx263_0, hx263_1, hx263_2, hx263_3, hx263_4, hx263_5, hx264_0, hx264_1, hx264_2, hx264_3, hx264_4, hx264_5, hx265_0, hx265_1, hx265_2, hx265_3, hx265_4, hx265_5, hx266_0, hx266_1, hx266_2, hx266_3, hx266_4, hx266_5, hx267_0, hx267_1, hx267_2, hx267_3, hx267_4, hx267_5, hx268_0, hx268_1, hx268_2, hx268_3, hx268_4, hx268_5, hx271_0, hx271_1, hx271_2, hx271_3, hx271_4, hx271_5, hx272_0, hx272_1, hx272_2, hx272_3, hx272_4, hx272_5, hx273_0, hx273_1, hx273_2, hx273_3, hx273_4, hx273_5, hx274_0, hx274_1, hx274_2, hx274_3, hx274_4, hx274_5⟩ (fun hHeld => ?_); refine with_tabW laws_FnDelays.tab14 laws_FnDelays.bits14 (fun HT_ HW_ => ?_)
                  generalize wr.drew = w63 at HO_3 HO_7 HB hx263_0 hx263_1 hx263_2 hx263_3 hx263_4 hx263_5 hx264_0 hx264_1 hx264_2 hx264_3 hx264_4 hx264_5 hx265_0 hx265_1 hx265_2 hx265_3 hx265_4 hx265_5 hx266_0 hx266_1 hx266_2 hx266_3 hx266_4 hx266_5 hx267_0 hx267_1 hx267_2 hx267_3 hx267_4 hx267_5 hx268_0 hx268_1 hx268_2 hx268_3 hx268_4 hx268_5 hx271_0 hx271_1 hx271_2 hx271_3 hx271_4 hx271_5 hx272_0 hx272_1 hx272_2 hx272_3 hx272_4 hx272_5 hx273_0 hx273_1 hx273_2 hx273_3 hx273_4 hx273_5 hx274_0 hx274_1 hx274_2 hx274_3 hx274_4 hx274_5 hHeld ⊢
                  refine pu_ 0 89 HT_ (bs 65 1) rfl rfl ?_
                  refine pu_ 1 90 HT_ (bs 65 3) rfl rfl ?_
                  refine pu_ 2 91 HT_ (bs 65 7) rfl rfl ?_
                  refine pu_ 3 92 HT_ (bs 65 15) rfl rfl ?_
                  refine pu_ 5 94 HT_ (bs 65 47) rfl rfl ?_
                  refine pu_ 6 95 HT_ (bs 65 111) rfl rfl ?_
                  refine pu_ 7 96 HT_ (bs 65 239) rfl rfl ?_
                  refine pu_ 8 97 HT_ (bs 65 495) rfl rfl ?_
                  refine take_ (i := 4) (N := some 93) (v := ?_) (a' := ?_) (bs 65 511) rfl rfl (take_ofW HT_.out HW_.out (by kernel_rfl)) (fun _ _ _ h => h) (Or.inl ⟨by rfl, ?_⟩) hHeld ?_ ?_
                  rotate_left
                  ·rintro w' ⟨s0, s1, s2, s3, s4, s5, s6, s7, s8, s9, s10, s11, s12, s13, s14, s15, s16, s17, s18, s19, s20, s21, s22, s23, s24, s25, s26, s27, s28, s29, s30, s31, s32, s33, s34, s35, s36, s37, s38, s39, s40, s41, s42, s43, s44, s45, s46, s47, s48, s49, s50, s51, s52, s53, s54, s55, s56, s57, s58, s59⟩
                   go_simp
                   with_reducible rfl
                  rotate_left
                  ·simp only [Act.put, sA_, sZ_, sS_, i64_w, i32_w]
                   rfl
                  refine take_ (i := 9) (N := some 98) (v := ?_) (a' := ?_) (bs 65 1023) rfl rfl (take_ofW HT_.out HW_.out (by kernel_rfl)) (fun _ _ _ h => h) (Or.inl ⟨by rfl, ?_⟩) hHeld ?_ ?_
                  rotate_left
                  ·rintro w' ⟨s0, s1, s2, s3, s4, s5, s6, s7, s8, s9, s10, s11, s12, s13, s14, s15, s16, s17, s18, s19, s20, s21, s22, s23, s24, s25, s26, s27, s28, s29, s30, s31, s32, s33, s34, s35, s36, s37, s38, s39, s40, s41, s42, s43, s44, s45, s46, s47, s48, s49, s50, s51, s52, s53, s54, s55, s56, s57, s58, s59⟩
                   go_simp
                   with_reducible rfl
                  rotate_left
                  ·simp only [Act.put, sA_, sZ_, sS_, i64_w, i32_w]
                   rfl
                  refine pu_ 10 99 HT_ (bs 65 2047) rfl rfl ?_
                  refine pu_ 11 100 HT_ (bs 65 4095) rfl rfl ?_
                  refine pu_ 12 101 HT_ (bs 65 8191) rfl rfl ?_
                  refine pu_ 13 102 HT_ (bs 65 16383) rfl rfl ?_
                  refine pu_ 14 103 HT_ (bs 65 32767) rfl rfl ?_
                  refine pu_ 15 104 HT_ (bs 65 65535) rfl rfl ?_
                  refine pu_ 17 106 HT_ (bs 65 196607) rfl rfl ?_
                  refine pu_ 18 107 HT_ (bs 65 458751) rfl rfl ?_
                  refine pu_ 19 108 HT_ (bs 65 983039) rfl rfl ?_
                  refine pu_ 20 109 HT_ (bs 65 2031615) rfl rfl ?_
                  refine pu_ 23 112 HT_ (bs 65 10420223) rfl rfl ?_
                  refine pu_ 24 113 HT_ (bs 65 27197439) rfl rfl ?_
                  refine pu_ 25 114 HT_ (bs 65 60751871) rfl rfl ?_
                  refine pu_ 26 115 HT_ (bs 65 127860735) rfl rfl ?_
                  refine pu_ 28 117 HT_ (bs 65 396296191) rfl rfl ?_
                  refine pu_ 29 118 HT_ (bs 65 933167103) rfl rfl ?_
                  refine pu_ 30 119 HT_ (bs 65 2006908927) rfl rfl ?_
                  refine pu_ 31 120 HT_ (bs 65 4154392575) rfl rfl ?_
                  refine take_ (i := 16) (N := some 105) (v := ?_) (a' := ?_) (bs 65 4154458111) rfl rfl (take_ofW HT_.out HW_.out (by kernel_rfl)) (fun _ _ _ h => h) (Or.inl ⟨by rfl, ?_⟩) hHeld ?_ ?_
                  rotate_left
                  ·rintro w' ⟨s0, s1, s2, s3, s4, s5, s6, s7, s8, s9, s10, s11, s12, s13, s14, s15, s16, s17, s18, s19, s20, s21, s22, s23, s24, s25, s26, s27, s28, s29, s30, s31, s32, s33, s34, s35, s36, s37, s38, s39, s40, s41, s42, s43, s44, s45, s46, s47, s48, s49, s50, s51, s52, s53, s54, s55, s56, s57, s58, s59⟩
                   go_simp
                   with_reducible rfl
                  rotate_left
                  ·simp only [Act.put, sA_, sZ_, sS_, i64_w, i32_w]
                   rfl
                  refine take_ (i := 21) (N := some 110) (v := ?_) (a' := ?_) (bs 65 4156555263) rfl rfl (take_ofW HT_.out HW_.out (by kernel_rfl)) (fun _ _ _ h => h) (Or.inl ⟨by rfl, ?_⟩) hHeld ?_ ?_
                  rotate_left
                  ·rintro w' ⟨s0, s1, s2, s3, s4, s5, s6, s7, s8, s9, s10, s11, s12, s13, s14, s15, s16, s17, s18, s19, s20, s21, s22, s23, s24, s25, s26, s27, s28, s29, s30, s31, s32, s33, s34, s35, s36, s37, s38, s39, s40, s41, s42, s43, s44, s45, s46, s47, s48, s49, s50, s51, s52, s53, s54, s55, s56, s57, s58, s59⟩
                   go_simp
                   with_reducible rfl
                  rotate_left
                  ·simp only [Act.put, sA_, sZ_, sS_, i64_w, i32_w]
                   rfl
                  refine pu_ 22 111 HT_ (bs 65 4160749567) rfl rfl ?_
                  refine take_ (i := 27) (N := some 116) (v := ?_) (a' := ?_) (bs 65 4294967295) rfl rfl (take_ofW HT_.out HW_.out (by kernel_rfl)) (fun _ _ _ h => h) (Or.inl ⟨by rfl, ?_⟩) hHeld ?_ ?_
                  rotate_left
                  ·rintro w' ⟨s0, s1, s2, s3, s4, s5, s6, s7, s8, s9, s10, s11, s12, s13, s14, s15, s16, s17, s18, s19, s20, s21, s22, s23, s24, s25, s26, s27, s28, s29, s30, s31, s32, s33, s34, s35, s36, s37, s38, s39, s40, s41, s42, s43, s44, s45, s46, s47, s48, s49, s50, s51, s52, s53, s54, s55, s56, s57, s58, s59⟩
                   go_simp
                   with_reducible rfl
                  rotate_left
                  ·simp only [Act.put, sA_, sZ_, sS_, i64_w, i32_w]
                   rfl
                  refine take_ (i := 32) (N := some 121) (v := ?_) (a' := ?_) (bs 65 8589934591) rfl rfl (take_ofW HT_.out HW_.out (by kernel_rfl)) (fun _ _ _ h => h) (Or.inl ⟨by rfl, ?_⟩) hHeld ?_ ?_
                  rotate_left
                  ·rintro w' ⟨s0, s1, s2, s3, s4, s5, s6, s7, s8, s9, s10, s11, s12, s13, s14, s15, s16, s17, s18, s19, s20, s21, s22, s23, s24, s25, s26, s27, s28, s29, s30, s31, s32, s33, s34, s35, s36, s37, s38, s39, s40, s41, s42, s43, s44, s45, s46, s47, s48, s49, s50, s51, s52, s53, s54, s55, s56, s57, s58, s59⟩
                   go_simp
                   with_reducible rfl
                  rotate_left
                  ·simp only [Act.put, sA_, sZ_, sS_, i64_w, i32_w]
                   rfl
                  refine pu_ 33 122 HT_ (bs 65 17179869183) rfl rfl ?_
                  refine pu_ 34 123 HT_ (bs 65 34359738367) rfl rfl ?_
                  refine pu_ 35 124 HT_ (bs 65 68719476735) rfl rfl ?_
                  refine pu_ 36 125 HT_ (bs 65 137438953471) rfl rfl ?_
                  refine pu_ 37 126 HT_ (bs 65 274877906943) rfl rfl ?_
                  refine pu_ 38 127 HT_ (bs 65 549755813887) rfl rfl ?_
                  refine pu_ 39 128 HT_ (bs 65 1099511627775) rfl rfl ?_
                  refine pu_ 40 129 HT_ (bs 65 2199023255551) rfl rfl ?_
                  refine pu_ 41 130 HT_ (bs 65 4398046511103) rfl rfl ?_
                  refine pu_ 42 131 HT_ (bs 65 8796093022207) rfl rfl ?_
                  refine pu_ 43 132 HT_ (bs 65 17592186044415) rfl rfl ?_
                  refine pu_ 44 133 HT_ (bs 65 35184372088831) rfl rfl ?_
                  refine pu_ 46 135 HT_ (bs 65 105553116266495) rfl rfl ?_
                  refine pu_ 47 136 HT_ (bs 65 246290604621823) rfl rfl ?_
                  refine pu_ 48 137 HT_ (bs 65 527765581332479) rfl rfl ?_
                  refine pu_ 49 138 HT_ (bs 65 1090715534753791) rfl rfl ?_
                  refine take_ (i := 45) (N := some 134) (v := ?_) (a' := ?_) (bs 65 1125899906842623) rfl rfl (take_ofW HT_.out HW_.out (by kernel_rfl)) (fun _ _ _ h => h) (Or.inl ⟨by rfl, ?_⟩) hHeld ?_ ?_
                  rotate_left
                  ·rintro w' ⟨s0, s1, s2, s3, s4, s5, s6, s7, s8, s9, s10, s11, s12, s13, s14, s15, s16, s17, s18, s19, s20, s21, s22, s23, s24, s25, s26, s27, s28, s29, s30, s31, s32, s33, s34, s35, s36, s37, s38, s39, s40, s41, s42, s43, s44, s45, s46, s47, s48, s49, s50, s51, s52, s53, s54, s55, s56, s57, s58, s59⟩
                   go_simp
                   with_reducible rfl
                  rotate_left
                  ·simp only [Act.put, sA_, sZ_, sS_, i64_w, i32_w]
                   rfl
                  refine take_ (i := 50) (N := some 139) (v := ?_) (a' := ?_) (bs 65 2251799813685247) rfl rfl (take_ofW HT_.out HW_.out (by kernel_rfl)) (fun _ _ _ h => h) (Or.inl ⟨by rfl, ?_⟩) hHeld ?_ ?_
                  rotate_left
                  ·rintro w' ⟨s0, s1, s2, s3, s4, s5, s6, s7, s8, s9, s10, s11, s12, s13, s14, s15, s16, s17, s18, s19, s20, s21, s22, s23, s24, s25, s26, s27, s28, s29, s30, s31, s32, s33, s34, s35, s36, s37, s38, s39, s40, s41, s42, s43, s44, s45, s46, s47, s48, s49, s50, s51, s52, s53, s54, s55, s56, s57, s58, s59⟩
                   go_simp
                   with_reducible rfl
                  rotate_left
                  ·simp only [Act.put, sA_, sZ_, sS_, i64_w, i32_w]
                   rfl
                  refine pu_ 51 140 HT_ (bs 65 4503599627370495) rfl rfl ?_
                  refine pu_ 52 141 HT_ (bs 65 9007199254740991) rfl rfl ?_
                  refine pu_ 53 142 HT_ (bs 65 18014398509481983) rfl rfl ?_
                  refine pu_ 54 143 HT_ (bs 65 36028797018963967) rfl rfl ?_
                  refine pu_ 55 144 HT_ (bs 65 72057594037927935) rfl rfl ?_
                  refine pu_ 56 145 HT_ (bs 65 144115188075855871) rfl rfl ?_
                  refine pu_ 58 147 HT_ (bs 65 432345564227567615) rfl rfl ?_
                  refine pu_ 59 148 HT_ (bs 65 1008806316530991103) rfl rfl ?_
                  refine pu_ 60 149 HT_ (bs 65 2161727821137838079) rfl rfl ?_
                  refine take_ (i := 57) (N := some 146) (v := ?_) (a' := ?_) (bs 65 2305843009213693951) rfl rfl (take_ofW HT_.out HW_.out (by kernel_rfl)) (fun _ _ _ h => h) (Or.inl ⟨by rfl, ?_⟩) hHeld ?_ ?_
                  rotate_left
                  ·rintro w' ⟨s0, s1, s2, s3, s4, s5, s6, s7, s8, s9, s10, s11, s12, s13, s14, s15, s16, s17, s18, s19, s20, s21, s22, s23, s24, s25, s26, s27, s28, s29, s30, s31, s32, s33, s34, s35, s36, s37, s38, s39, s40, s41, s42, s43, s44, s45, s46, s47, s48, s49, s50, s51, s52, s53, s54, s55, s56, s57, s58, s59⟩
                   go_simp
                   with_reducible rfl
                  rotate_left
                  ·simp only [Act.put, sA_, sZ_, sS_, i64_w, i32_w]
                   rfl
                  refine take_ (i := 61) (N := some 150) (v := ?_) (a' := ?_) (bs 65 4611686018427387903) rfl rfl (take_ofW HT_.out HW_.out (by kernel_rfl)) (fun _ _ _ h => h) (Or.inl ⟨by rfl, ?_⟩) hHeld ?_ ?_
                  rotate_left
                  ·rintro w' ⟨s0, s1, s2, s3, s4, s5, s6, s7, s8, s9, s10, s11, s12, s13, s14, s15, s16, s17, s18, s19, s20, s21, s22, s23, s24, s25, s26, s27, s28, s29, s30, s31, s32, s33, s34, s35, s36, s37, s38, s39, s40, s41, s42, s43, s44, s45, s46, s47, s48, s49, s50, s51, s52, s53, s54, s55, s56, s57, s58, s59⟩
                   go_simp
                   with_reducible rfl
                  rotate_left
                  ·simp only [Act.put, sA_, sZ_, sS_, i64_w, i32_w]
                   rfl
                  refine pu_ 62 151 HT_ (bs 65 9223372036854775807) rfl rfl ?_
                  refine pu_ 63 152 HT_ (bs 65 18446744073709551615) rfl rfl ?_
                  refine pu_ 64 153 HT_ (bs 65 36893488147419103231) rfl rfl ?_
                  refine done_ (done_of HT_.out (by kernel_rfl)) ?_
                  try go_wp2
                  go_ret
                  exact ⟨by first | rfl | (simp [errW_none, errW_some] <;> rfl) | (simp only [← hji55]; first | rfl | (simp [errW_none, errW_some] <;> rfl)) | (simp [*, errW_none, errW_some] <;> rfl), bel_ HB.out⟩
                 ·as_aux_lemma =>
                  rw [if_neg c61] at H
                  have c61b0 : (!(((rd_T31 t255 x9_2).f0) == ((rd_T31 t245 x9_2).f0)) || (!(((rd_T31 t255 x9_2).f1) == ((rd_T31 t245 x9_2).f1)) || (!(((rd_T31 t255 x9_2).f2) == ((rd_T31 t245 x9_2).f2)) || (!(((rd_T31 t255 x9_2).f3) == ((rd_T31 t245 x9_2).f3)) || (!(((rd_T31 t255 x9_2).f4) == ((rd_T31 t245 x9_2).f4)) || (!(((rd_T31 t255 x9_2).f5) == ((rd_T31 t245 x9_2).f5)))))))) = false := by simpa using c61
                  clear c61
                  have H' := Aside0.mk H
                  clear H
                  obtain ⟨Ao64, co64, eo64⟩ := Kd.R_slice HO_7.out
                  subst eo64
                  try go_wp2
                  have n0_ := Aside0.mk (Kd.R_drew HO_3.out)
                  have n1_ := Aside0.mk (Kd.R_drew HO_7.out)
                  have n2_ := Aside0.mk (below_drew1 HB.out)
                  clear HO_3
                  clear HO_7
                  clear HB
                  have HO_3 := n0_
                  have HO_7 := n1_
                  have HB := n2_
                  clear n0_ n1_ n2_
                  have p263 : 0 ≤ (x9_2 : Int) := of_decide_eq_true (by first | (with_reducible assumption) | assumption)
                  have q263 : x9_2 < (t255.length : Int) := of_decide_eq_true (by first | (with_reducible assumption) | assumption)
                  obtain ⟨ad263, e263, hx263_0, hx263_1, hx263_2, hx263_3, hx263_4, hx263_5⟩ := at_T31 (Kd.R_reads' HO_7.out).2.2 x9_2 p263 q263
                  cases e263
                  replace p263 := eq_true p263
                  replace q263 := eq_true q263
                  have p264 : 0 ≤ (x9_2 : Int) := of_decide_eq_true (by first | (with_reducible assumption) | assumption)
                  have q264 : x9_2 < (t245.length : Int) := of_decide_eq_true (by first | (with_reducible assumption) | assumption)
                  obtain ⟨ad264, e264, hx264_0, hx264_1, hx264_2, hx264_3, hx264_4, hx264_5⟩ := at_T31 (Kd.R_reads' HO_3.out).2.2 x9_2 p264 q264
                  cases e264
                  replace p264 := eq_true p264
                  replace q264 := eq_true q264
                  have p265 : 0 ≤ (x9_2 : Int) := of_decide_eq_true (by first | (with_reducible assumption) | assumption)
                  have q265 : x9_2 < (t255.length : Int) := of_decide_eq_true (by first | (with_reducible assumption) | assumption)
                  obtain ⟨ad265, e265, hx265_0, hx265_1, hx265_2, hx265_3, hx265_4, hx265_5⟩ := at_T31 (Kd.R_reads' HO_7.out).2.2 x9_2 p265 q265
                  obtain rfl : ad263 = ad265 := (by injection e265)
                  replace p265 := eq_true p265
                  replace q265 := eq_true q265
                  have p266 : 0 ≤ (x9_2 : Int) := of_decide_eq_true (by first | (with_reducible assumption) | assumption)
                  have q266 : x9_2 < (t245.length : Int) := of_decide_eq_true (by first | (with_reducible assumption) | assumption)
                  obtain ⟨ad266, e266, hx266_0, hx266_1, hx266_2, hx266_3, hx266_4, hx266_5⟩ := at_T31 (Kd.R_reads' HO_3.out).2.2 x9_2 p266 q266
                  obtain rfl : ad264 = ad266 := (by injection e266)
                  replace p266 := eq_true p266
                  replace q266 := eq_true q266
                  have p267 : 0 ≤ (x9_2 : Int) := of_decide_eq_true (by first | (with_reducible assumption) | assumption)
                  have q267 : x9_2 < (t255.length : Int) := of_decide_eq_true (by first | (with_reducible assumption) | assumption)
                  obtain ⟨ad267, e267, hx267_0, hx267_1, hx267_2, hx267_3, hx267_4, hx267_5⟩ := at_T31 (Kd.R_reads' HO_7.out).2.2 x9_2 p267 q267
                  obtain rfl : ad263 = ad267 := (by injection e267)
                  replace p267 := eq_true p267
                  replace q267 := eq_true q267
                  have p268 : 0 ≤ (x9_2 : Int) := of_decide_eq_true (by first | (with_reducible assumption) | assumption)
                  have q268 : x9_2 < (t245.length : Int) := of_decide_eq_true (by first | (with_reducible assumption) | assumption)
                  obtain ⟨ad268, e268, hx268_0, hx268_1, hx268_2, hx268_3, hx268_4, hx268_5⟩ := at_T31 (Kd.R_reads' HO_3.out).2.2 x9_2 p268 q268
                  obtain rfl : ad264 = ad268 := (by injection e268)
                  replace p268 := eq_true p268
                  replace q268 := eq_true q268
                  have p271 : 0 ≤ (x9_2 : Int) := of_decide_eq_true (by first | (with_reducible assumption) | assumption)
                  have q271 : x9_2 < (t245.length : Int) := of_decide_eq_true (by first | (with_reducible assumption) | assumption)
                  obtain ⟨ad271, e271, hx271_0, hx271_1, hx271_2, hx271_3, hx271_4, hx271_5⟩ := at_T31 (Kd.R_reads' HO_3.out).2.2 x9_2 p271 q271
                  obtain rfl : ad264 = ad271 := (by injection e271)
                  replace p271 := eq_true p271
                  replace q271 := eq_true q271
                  have p272 : 0 ≤ ((ji55) : Int) := of_decide_eq_true (by first | (with_reducible assumption) | assumption)
                  have q272 : (ji55) < (t245.length : Int) := of_decide_eq_true (by first | (with_reducible assumption) | assumption)
                  obtain ⟨ad272, e272, hx272_0, hx272_1, hx272_2, hx272_3, hx272_4, hx272_5⟩ := at_T31 (Kd.R_reads' HO_3.out).2.2 (ji55) p272 q272
                  obtain rfl : ad264 = ad272 := (by injection e272)
                  replace p272 := eq_true p272
                  replace q272 := eq_true q272
                  have p273 : 0 ≤ (x9_2 : Int) := of_decide_eq_true (by first | (with_reducible assumption) | assumption)
                  have q273 : x9_2 < (t255.length : Int) := of_decide_eq_true (by first | (with_reducible assumption) | assumption)
                  obtain ⟨ad273, e273, hx273_0, hx273_1, hx273_2, hx273_3, hx273_4, hx273_5⟩ := at_T31 (Kd.R_reads' HO_7.out).2.2 x9_2 p273 q273
                  obtain rfl : ad263 = ad273 := (by injection e273)
                  replace p273 := eq_true p273
                  replace q273 := eq_true q273
                  have p274 : 0 ≤ (x9_2 : Int) := of_decide_eq_true (by first | (with_reducible assumption) | assumption)
                  have q274 : x9_2 < (t245.length : Int) := of_decide_eq_true (by first | (with_reducible assumption) | assumption)
                  obtain ⟨ad274, e274, hx274_0, hx274_1, hx274_2, hx274_3, hx274_4, hx274_5⟩ := at_T31 (Kd.R_reads' HO_3.out).2.2 x9_2 p274 q274
                  obtain rfl : ad264 = ad274 := (by injection e274)
                  replace p274 := eq_true p274
                  replace q274 := eq_true q274
                  refine start_ (n := 65) (S := fun w' => w'.cell? (ad263.add ((x9_2).toNat * 6)) = some (.int .i64 ((rd_T31 t255 x9_2).f0)) ∧ w'.cell? ⟨(ad263.add ((x9_2).toNat * 6)).block, (ad263.add ((x9_2).toNat * 6)).off + 1, none⟩ = some (.int .i64 ((rd_T31 t255 x9_2).f1)) ∧ w'.cell? ⟨(ad263.add ((x9_2).toNat * 6)).block, (ad263.add ((x9_2).toNat * 6)).off + 2, none⟩ = some (.int .i64 ((rd_T31 t255 x9_2).f2)) ∧ w'.cell? ⟨(ad263.add ((x9_2).toNat * 6)).block, (ad263.add ((x9_2).toNat * 6)).off + 3, none⟩ = some (.int .i64 ((rd_T31 t255 x9_2).f3)) ∧ w'.cell? ⟨(ad263.add ((x9_2).toNat * 6)).block, (ad263.add ((x9_2).toNat * 6)).off + 4, none⟩ = some (.int .i64 ((rd_T31 t255 x9_2).f4)) ∧ w'.cell? ⟨(ad263.add ((x9_2).toNat * 6)).block, (ad263.add ((x9_2).toNat * 6)).off + 5, none⟩ = some (.int .i64 ((rd_T31 t255 x9_2).f5)) ∧ w'.cell? (ad264.add ((x9_2).toNat * 6)) = some (.int .i64 ((rd_T31 t245 x9_2).f0)) ∧ w'.cell? ⟨(ad264.add ((x9_2).toNat * 6)).block, (ad264.add ((x9_2).toNat * 6)).off + 1, none⟩ = some (.int .i64 ((rd_T31 t245 x9_2).f1)) ∧ w'.cell? ⟨(ad264.add ((x9_2).toNat * 6)).block, (ad264.add ((x9_2).toNat * 6)).off + 2, none⟩ = some (.int .i64 ((rd_T31 t245 x9_2).f2)) ∧ w'.cell? ⟨(ad264.add ((x9_2).toNat * 6)).block, (ad264.add ((x9_2).toNat * 6)).off + 3, none⟩ = some (.int .i64 ((rd_T31 t245 x9_2).f3)) ∧ w'.cell? ⟨(ad264.add ((x9_2).toNat * 6)).block, (ad264.add ((x9_2).toNat * 6)).off + 4, none⟩ = some (.int .i64 ((rd_T31 t245 x9_2).f4)) ∧ w'.cell? ⟨(ad264.add ((x9_2).toNat * 6)).block, (ad264.add ((x9_2).toNat * 6)).off + 5, none⟩ = some (.int .i64 ((rd_T31 t245 x9_2).f5)) ∧ w'.cell? (ad263.add ((x9_2).toNat * 6)) = some (.int .i64 ((rd_T31 t255 x9_2).f0)) ∧ w'.cell? ⟨(ad263.add ((x9_2).toNat * 6)).block, (ad263.add ((x9_2).toNat * 6)).off + 1, none⟩ = some (.int .i64 ((rd_T31 t255 x9_2).f1)) ∧ w'.cell? ⟨(ad263.add ((x9_2).toNat * 6)).block, (ad263.add ((x9_2).toNat * 6)).off + 2, none⟩ = some (.int .i64 ((rd_T31 t255 x9_2).f2)) ∧ w'.cell? ⟨(ad263.add ((x9_2).toNat * 6)).block, (ad263.add ((x9_2).toNat * 6)).off + 3, none⟩ = some (.int .i64 ((rd_T31 t255 x9_2).f3)) ∧ w'.cell? ⟨(ad263.add ((x9_2).toNat * 6)).block, (ad263.add ((x9_2).toNat * 6)).off + 4, none⟩ = some (.int .i64 ((rd_T31 t255 x9_2).f4)) ∧ w'.cell? ⟨(ad263.add ((x9_2).toNat * 6)).block, (ad263.add ((x9_2).toNat * 6)).off + 5, none⟩ = some (.int .i64 ((rd_T31 t255 x9_2).f5)) ∧ w'.cell? (ad264.add ((x9_2).toNat * 6)) = some (.int .i64 ((rd_T31 t245 x9_2).f0)) ∧ w'.cell? ⟨(ad264.add ((x9_2).toNat * 6)).block, (ad264.add ((x9_2).toNat * 6)).off + 1, none⟩ = some (.int .i64 ((rd_T31 t245 x9_2).f1)) ∧ w'.cell? ⟨(ad264.add ((x9_2).toNat * 6)).block, (ad264.add ((x9_2).toNat * 6)).off + 2, none⟩ = some (.int .i64 ((rd_T31 t245 x9_2).f2)) ∧ w'.cell? ⟨(ad264.add ((x9_2).toNat * 6)).block, (ad264.add ((x9_2).toNat * 6)).off + 3, none⟩ = some (.int .i64 ((rd_T31 t245 x9_2).f3)) ∧ w'.cell? ⟨(ad264.add ((x9_2).toNat * 6)).block, (ad264.add ((x9_2).toNat * 6)).off + 4, none⟩ = some (.int .i64 ((rd_T31 t245 x9_2).f4)) ∧ w'.cell? ⟨(ad264.add ((x9_2).toNat * 6)).block, (ad264.add ((x9_2).toNat * 6)).off + 5, none⟩ = some (.int .i64 ((rd_T31 t245 x9_2).f5)) ∧ w'.cell? (ad263.add ((x9_2).toNat * 6)) = some (.int .i64 ((rd_T31 t255 x9_2).f0)) ∧ w'.cell? ⟨(ad263.add ((x9_2).toNat * 6)).block, (ad263.add ((x9_2).toNat * 6)).off + 1, none⟩ = some (.int .i64 ((rd_T31 t255 x9_2).f1)) ∧ w'.cell? ⟨(ad263.add ((x9_2).toNat * 6)).block, (ad263.add ((x9_2).toNat * 6)).off + 2, none⟩ = some (.int .i64 ((rd_T31 t255 x9_2).f2)) ∧ w'.cell? ⟨(ad263.add ((x9_2).toNat * 6)).block, (ad263.add ((x9_2).toNat * 6)).off + 3, none⟩ = some (.int .i64 ((rd_T31 t255 x9_2).f3)) ∧ w'.cell? ⟨(ad263.add ((x9_2).toNat * 6)).block, (ad263.add ((x9_2).toNat * 6)).off + 4, none⟩ = some (.int .i64 ((rd_T31 t255 x9_2).f4)) ∧ w'.cell? ⟨(ad263.add ((x9_2).toNat * 6)).block, (ad263.add ((x9_2).toNat * 6)).off + 5, none⟩ = some (.int .i64 ((rd_T31 t255 x9_2).f5)) ∧ w'.cell? (ad264.add ((x9_2).toNat * 6)) = some (.int .i64 ((rd_T31 t245 x9_2).f0)) ∧ w'.cell? ⟨(ad264.add ((x9_2).toNat * 6)).block, (ad264.add ((x9_2).toNat * 6)).off + 1, none⟩ = some (.int .i64 ((rd_T31 t245 x9_2).f1)) ∧ w'.cell? ⟨(ad264.add ((x9_2).toNat * 6)).block, (ad264.add ((x9_2).toNat * 6)).off + 2, none⟩ = some (.int .i64 ((rd_T31 t245 x9_2).f2)) ∧ w'.cell? ⟨(ad264.add ((x9_2).toNat * 6)).block, (ad264.add ((x9_2).toNat * 6)).off + 3, none⟩ = some (.int .i64 ((rd_T31 t245 x9_2).f3)) ∧ w'.cell? ⟨(ad264.add ((x9_2).toNat * 6)).block, (ad264.add ((x9_2).toNat * 6)).off + 4, none⟩ = some (.int .i64 ((rd_T31 t245 x9_2).f4)) ∧ w'.cell? ⟨(ad264.add ((x9_2).toNat * 6)).block, (ad264.add ((x9_2).toNat * 6)).off + 5, none⟩ = some (.int .i64 ((rd_T31 t245 x9_2).f5)) ∧ w'.cell? (ad264.add ((x9_2).toNat * 6)) = some (.int .i64 ((rd_T31 t245 x9_2).f0)) ∧ w'.cell? ⟨(ad264.add ((x9_2).toNat * 6)).block, (ad264.add ((x9_2).toNat * 6)).off + 1, none⟩ = some (.int .i64 ((rd_T31 t245 x9_2).f1)) ∧ w'.cell? ⟨(ad264.add ((x9_2).toNat * 6)).block, (ad264.add ((x9_2).toNat * 6)).off + 2, none⟩ = some (.int .i64 ((rd_T31 t245 x9_2).f2)) ∧ w'.cell? ⟨(ad264.add ((x9_2).toNat * 6)).block, (ad264.add ((x9_2).toNat * 6)).off + 3, none⟩ = some (.int .i64 ((rd_T31 t245 x9_2).f3)) ∧ w'.cell? ⟨(ad264.add ((x9_2).toNat * 6)).block, (ad264.add ((x9_2).toNat * 6)).off + 4, none⟩ = some (.int .i64 ((rd_T31 t245 x9_2).f4)) ∧ w'.cell? ⟨(ad264.add ((x9_2).toNat * 6)).block, (ad264.add ((x9_2).toNat * 6)).off + 5, none⟩ = some (.int .i64 ((rd_T31 t245 x9_2).f5)) ∧ w'.cell? (ad264.add (((ji55)).toNat * 6)) = some (.int .i64 ((rd_T31 t245 (ji55)).f0)) ∧ w'.cell? ⟨(ad264.add (((ji55)).toNat * 6)).block, (ad264.add (((ji55)).toNat * 6)).off + 1, none⟩ = some (.int .i64 ((rd_T31 t245 (ji55)).f1)) ∧ w'.cell? ⟨(ad264.add (((ji55)).toNat * 6)).block, (ad264.add (((ji55)).toNat * 6)).off + 2, none⟩ = some (.int .i64 ((rd_T31 t245 (ji55)).f2)) ∧ w'.cell? ⟨(ad264.add (((ji55)).toNat * 6)).block, (ad264.add (((ji55)).toNat * 6)).off + 3, none⟩ = some (.int .i64 ((rd_T31 t245 (ji55)).f3)) ∧ w'.cell? ⟨(ad264.add (((ji55)).toNat * 6)).block, (ad264.add (((ji55)).toNat * 6)).off + 4, none⟩ = some (.int .i64 ((rd_T31 t245 (ji55)).f4)) ∧ w'.cell? ⟨(ad264.add (((ji55)).toNat * 6)).block, (ad264.add (((ji55)).toNat * 6)).off + 5, none⟩ = some (.int .i64 ((rd_T31 t245 (ji55)).f5)) ∧ w'.cell? (ad263.add ((x9_2).toNat * 6)) = some (.int .i64 ((rd_T31 t255 x9_2).f0)) ∧ w'.cell? ⟨(ad263.add ((x9_2).toNat * 6)).block, (ad263.add ((x9_2).toNat * 6)).off + 1, none⟩ = some (.int .i64 ((rd_T31 t255 x9_2).f1)) ∧ w'.cell? ⟨(ad263.add ((x9_2).toNat * 6)).block, (ad263.add ((x9_2).toNat * 6)).off + 2, none⟩ = some (.int .i64 ((rd_T31 t255 x9_2).f2)) ∧ w'.cell? ⟨(ad263.add ((x9_2).toNat * 6)).block, (ad263.add ((x9_2).toNat * 6)).off + 3, none⟩ = some (.int .i64 ((rd_T31 t255 x9_2).f3)) ∧ w'.cell? ⟨(ad263.add ((x9_2).toNat * 6)).block, (ad263.add ((x9_2).toNat * 6)).off + 4, none⟩ = some (.int .i64 ((rd_T31 t255 x9_2).f4)) ∧ w'.cell? ⟨(ad263.add ((x9_2).toNat * 6)).block, (ad263.add ((x9_2).toNat * 6)).off + 5, none⟩ = some (.int .i64 ((rd_T31 t255 x9_2).f5)) ∧ w'.cell? (ad264.add ((x9_2).toNat * 6)) = some (.int .i64 ((rd_T31 t245 x9_2).f0)) ∧ w'.cell? ⟨(ad264.add ((x9_2).toNat * 6)).block, (ad264.add ((x9_2).toNat * 6)).off + 1, none⟩ = some (.int .i64 ((rd_T31 t245 x9_2).f1)) ∧ w'.cell? ⟨(ad264.add ((x9_2).toNat * 6)).block, (ad264.add ((x9_2).toNat * 6)).off + 2, none⟩ = some (.int .i64 ((rd_T31 t245 x9_2).f2)) ∧ w'.cell? ⟨(ad264.add ((x9_2).toNat * 6)).block, (ad264.add ((x9_2).toNat * 6)).off + 3, none⟩ = some (.int .i64 ((rd_T31 t245 x9_2).f3)) ∧ w'.cell? ⟨(ad264.add ((x9_2).toNat * 6)).block, (ad264.add ((x9_2).toNat * 6)).off + 4, none⟩ = some (.int .i64 ((rd_T31 t245 x9_2).f4)) ∧ w'.cell? ⟨(ad264.add ((x9_2).toNat * 6)).block, (ad264.add ((x9_2).toNat * 6)).off + 5, none⟩ = some (.int .i64 ((rd_T31 t245 x9_2).f5))) (ds := []) (bs 65 0) (by kernel_rfl) rfl rfl ⟨hx263_0, hx263_1, hx263_2, hx263_3, hx263_4, hx263_5, hx264_0, hx264_1, hx264_2, hx264_3, hx264_4, hx264_5, hx265_0, hx265_1, hx265_2, hx265_3, hx265_4, hx265_5, hx266_0, hx266_1, hx266_2, hx266_3, hx266_4, hx266_5, hx267_0, hx267_1, hx267_2, hx267_3, hx267_4, hx267_5, hx268_0, hx268_1, hx268_2, hx268_3, hx268_4, hx268_5, hx271_0, hx271_1, hx271_2, hx271_3, hx271_4, hx271_5, hx272_0, hx272_1, hx272_2, hx272_3, hx272_4, hx272_5, hx273_0, hx273_1, hx273_2, hx273_3, hx273_4, hx273_5, hx274_0, hx274_1, hx274_2, hx274_3, hx274_4, hx274_5⟩ (fun hHeld => ?_); refine with_tabW laws_FnDelays.tab14 laws_FnDelays.bits14 (fun HT_ HW_ => ?_)
                  generalize wr.drew = w65 at HO_3 HO_7 HB hx263_0 hx263_1 hx263_2 hx263_3 hx263_4 hx263_5 hx264_0 hx264_1 hx264_2 hx264_3 hx264_4 hx264_5 hx265_0 hx265_1 hx265_2 hx265_3 hx265_4 hx265_5 hx266_0 hx266_1 hx266_2 hx266_3 hx266_4 hx266_5 hx267_0 hx267_1 hx267_2 hx267_3 hx267_4 hx267_5 hx268_0 hx268_1 hx268_2 hx268_3 hx268_4 hx268_5 hx271_0 hx271_1 hx271_2 hx271_3 hx271_4 hx271_5 hx272_0 hx272_1 hx272_2 hx272_3 hx272_4 hx272_5 hx273_0 hx273_1 hx273_2 hx273_3 hx273_4 hx273_5 hx274_0 hx274_1 hx274_2 hx274_3 hx274_4 hx274_5 hHeld ⊢
                  refine pu_ 0 89 HT_ (bs 65 1) rfl rfl ?_
                  refine pu_ 1 90 HT_ (bs 65 3) rfl rfl ?_
                  refine pu_ 2 91 HT_ (bs 65 7) rfl rfl ?_
                  refine pu_ 3 92 HT_ (bs 65 15) rfl rfl ?_
                  refine pu_ 5 94 HT_ (bs 65 47) rfl rfl ?_
                  refine pu_ 6 95 HT_ (bs 65 111) rfl rfl ?_
                  refine pu_ 7 96 HT_ (bs 65 239) rfl rfl ?_
                  refine pu_ 8 97 HT_ (bs 65 495) rfl rfl ?_
                  refine take_ (i := 4) (N := some 93) (v := ?_) (a' := ?_) (bs 65 511) rfl rfl (take_ofW HT_.out HW_.out (by kernel_rfl)) (fun _ _ _ h => h) (Or.inl ⟨by rfl, ?_⟩) hHeld ?_ ?_
                  rotate_left
                  ·rintro w' ⟨s0, s1, s2, s3, s4, s5, s6, s7, s8, s9, s10, s11, s12, s13, s14, s15, s16, s17, s18, s19, s20, s21, s22, s23, s24, s25, s26, s27, s28, s29, s30, s31, s32, s33, s34, s35, s36, s37, s38, s39, s40, s41, s42, s43, s44, s45, s46, s47, s48, s49, s50, s51, s52, s53, s54, s55, s56, s57, s58, s59⟩
                   go_simp
                   with_reducible rfl
                  rotate_left
                  ·simp only [Act.put, sA_, sZ_, sS_, i64_w, i32_w]
                   rfl
                  refine take_ (i := 9) (N := some 98) (v := ?_) (a' := ?_) (bs 65 1023) rfl rfl (take_ofW HT_.out HW_.out (by kernel_rfl)) (fun _ _ _ h => h) (Or.inl ⟨by rfl, ?_⟩) hHeld ?_ ?_
                  rotate_left
                  ·rintro w' ⟨s0, s1, s2, s3, s4, s5, s6, s7, s8, s9, s10, s11, s12, s13, s14, s15, s16, s17, s18, s19, s20, s21, s22, s23, s24, s25, s26, s27, s28, s29, s30, s31, s32, s33, s34, s35, s36, s37, s38, s39, s40, s41, s42, s43, s44, s45, s46, s47, s48, s49, s50, s51, s52, s53, s54, s55, s56, s57, s58, s59⟩
                   go_simp
                   with_reducible rfl
                  rotate_left
                  ·simp only [Act.put, sA_, sZ_, sS_, i64_w, i32_w]
                   rfl
                  refine pu_ 10 99 HT_ (bs 65 2047) rfl rfl ?_
                  refine pu_ 11 100 HT_ (bs 65 4095) rfl rfl ?_
                  refine pu_ 12 101 HT_ (bs 65 8191) rfl rfl ?_
                  refine pu_ 13 102 HT_ (bs 65 16383) rfl rfl ?_
                  refine pu_ 14 103 HT_ (bs 65 32767) rfl rfl ?_
                  refine pu_ 15 104 HT_ (bs 65 65535) rfl rfl ?_
                  refine pu_ 17 106 HT_ (bs 65 196607) rfl rfl ?_
                  refine pu_ 18 107 HT_ (bs 65 458751) rfl rfl ?_
                  refine pu_ 19 108 HT_ (bs 65 983039) rfl rfl ?_
                  refine pu_ 20 109 HT_ (bs 65 2031615) rfl rfl ?_
                  refine pu_ 23 112 HT_ (bs 65 10420223) rfl rfl ?_
                  refine pu_ 24 113 HT_ (bs 65 27197439) rfl rfl ?_
                  refine pu_ 25 114 HT_ (bs 65 60751871) rfl rfl ?_
                  refine pu_ 26 115 HT_ (bs 65 127860735) rfl rfl ?_
                  refine pu_ 28 117 HT_ (bs 65 396296191) rfl rfl ?_
                  refine pu_ 29 118 HT_ (bs 65 933167103) rfl rfl ?_
                  refine pu_ 30 119 HT_ (bs 65 2006908927) rfl rfl ?_
                  refine pu_ 31 120 HT_ (bs 65 4154392575) rfl rfl ?_
                  refine take_ (i := 16) (N := some 105) (v := ?_) (a' := ?_) (bs 65 4154458111) rfl rfl (take_ofW HT_.out HW_.out (by kernel_rfl)) (fun _ _ _ h => h) (Or.inl ⟨by rfl, ?_⟩) hHeld ?_ ?_
                  rotate_left
                  ·rintro w' ⟨s0, s1, s2, s3, s4, s5, s6, s7, s8, s9, s10, s11, s12, s13, s14, s15, s16, s17, s18, s19, s20, s21, s22, s23, s24, s25, s26, s27, s28, s29, s30, s31, s32, s33, s34, s35, s36, s37, s38, s39, s40, s41, s42, s43, s44, s45, s46, s47, s48, s49, s50, s51, s52, s53, s54, s55, s56, s57, s58, s59⟩
                   go_simp
                   with_reducible rfl
                  rotate_left
                  ·simp only [Act.put, sA_, sZ_, sS_, i64_w, i32_w]
                   rfl
                  refine take_ (i := 21) (N := some 110) (v := ?_) (a' := ?_) (bs 65 4156555263) rfl rfl (take_ofW HT_.out HW_.out (by kernel_rfl)) (fun _ _ _ h => h) (Or.inl ⟨by rfl, ?_⟩) hHeld ?_ ?_
                  rotate_left
                  ·rintro w' ⟨s0, s1, s2, s3, s4, s5, s6, s7, s8, s9, s10, s11, s12, s13, s14, s15, s16, s17, s18, s19, s20, s21, s22, s23, s24, s25, s26, s27, s28, s29, s30, s31, s32, s33, s34, s35, s36, s37, s38, s39, s40, s41, s42, s43, s44, s45, s46, s47, s48, s49, s50, s51, s52, s53, s54, s55, s56, s57, s58, s59⟩
                   go_simp
                   with_reducible rfl
                  rotate_left
                  ·simp only [Act.put, sA_, sZ_, sS_, i64_w, i32_w]
                   rfl
                  refine pu_ 22 111 HT_ (bs 65 4160749567) rfl rfl ?_
                  refine take_ (i := 27) (N := some 116) (v := ?_) (a' := ?_) (bs 65 4294967295) rfl rfl (take_ofW HT_.out HW_.out (by kernel_rfl)) (fun _ _ _ h => h) (Or.inl ⟨by rfl, ?_⟩) hHeld ?_ ?_
                  rotate_left
                  ·rintro w' ⟨s0, s1, s2, s3, s4, s5, s6, s7, s8, s9, s10, s11, s12, s13, s14, s15, s16, s17, s18, s19, s20, s21, s22, s23, s24, s25, s26, s27, s28, s29, s30, s31, s32, s33, s34, s35, s36, s37, s38, s39, s40, s41, s42, s43, s44, s45, s46, s47, s48, s49, s50, s51, s52, s53, s54, s55, s56, s57, s58, s59⟩
                   go_simp
                   with_reducible rfl
                  rotate_left
                  ·simp only [Act.put, sA_, sZ_, sS_, i64_w, i32_w]
                   rfl
                  refine take_ (i := 32) (N := some 121) (v := ?_) (a' := ?_) (bs 65 8589934591) rfl rfl (take_ofW HT_.out HW_.out (by kernel_rfl)) (fun _ _ _ h => h) (Or.inl ⟨by rfl, ?_⟩) hHeld ?_ ?_
                  rotate_left
                  ·rintro w' ⟨s0, s1, s2, s3, s4, s5, s6, s7, s8, s9, s10, s11, s12, s13, s14, s15, s16, s17, s18, s19, s20, s21, s22, s23, s24, s25, s26, s27, s28, s29, s30, s31, s32, s33, s34, s35, s36, s37, s38, s39, s40, s41, s42, s43, s44, s45, s46, s47, s48, s49, s50, s51, s52, s53, s54, s55, s56, s57, s58, s59⟩
                   go_simp
                   with_reducible rfl
                  rotate_left
                  ·simp only [Act.put, sA_, sZ_, sS_, i64_w, i32_w]
                   rfl
                  refine pu_ 33 122 HT_ (bs 65 17179869183) rfl rfl ?_
                  refine pu_ 34 123 HT_ (bs 65 34359738367) rfl rfl ?_
                  refine pu_ 35 124 HT_ (bs 65 68719476735) rfl rfl ?_
                  refine pu_ 36 125 HT_ (bs 65 137438953471) rfl rfl ?_
                  refine pu_ 37 126 HT_ (bs 65 274877906943) rfl rfl ?_
                  refine pu_ 38 127 HT_ (bs 65 549755813887) rfl rfl ?_
                  refine pu_ 39 128 HT_ (bs 65 1099511627775) rfl rfl ?_
                  refine pu_ 40 129 HT_ (bs 65 2199023255551) rfl rfl ?_
                  refine pu_ 41 130 HT_ (bs 65 4398046511103) rfl rfl ?_
                  refine pu_ 42 131 HT_ (bs 65 8796093022207) rfl rfl ?_
                  refine pu_ 43 132 HT_ (bs 65 17592186044415) rfl rfl ?_
                  refine pu_ 44 133 HT_ (bs 65 35184372088831) rfl rfl ?_
                  refine pu_ 46 135 HT_ (bs 65 105553116266495) rfl rfl ?_
                  refine pu_ 47 136 HT_ (bs 65 246290604621823) rfl rfl ?_
                  refine pu_ 48 137 HT_ (bs 65 527765581332479) rfl rfl ?_
                  refine pu_ 49 138 HT_ (bs 65 1090715534753791) rfl rfl ?_
                  refine take_ (i := 45) (N := some 134) (v := ?_) (a' := ?_) (bs 65 1125899906842623) rfl rfl (take_ofW HT_.out HW_.out (by kernel_rfl)) (fun _ _ _ h => h) (Or.inl ⟨by rfl, ?_⟩) hHeld ?_ ?_
                  rotate_left
                  ·rintro w' ⟨s0, s1, s2, s3, s4, s5, s6, s7, s8, s9, s10, s11, s12, s13, s14, s15, s16, s17, s18, s19, s20, s21, s22, s23, s24, s25, s26, s27, s28, s29, s30, s31, s32, s33, s34, s35, s36, s37, s38, s39, s40, s41, s42, s43, s44, s45, s46, s47, s48, s49, s50, s51, s52, s53, s54, s55, s56, s57, s58, s59⟩
                   go_simp
                   with_reducible rfl
                  rotate_left
                  ·simp only [Act.put, sA_, sZ_, sS_, i64_w, i32_w]
                   rfl
                  refine take_ (i := 50) (N := some 139) (v := ?_) (a' := ?_) (bs 65 2251799813685247) rfl rfl (take_ofW HT_.out HW_.out (by kernel_rfl)) (fun _ _ _ h => h) (Or.inl ⟨by rfl, ?_⟩) hHeld ?_ ?_
                  rotate_left
                  ·rintro w' ⟨s0, s1, s2, s3, s4, s5, s6, s7, s8, s9, s10, s11, s12, s13, s14, s15, s16, s17, s18, s19, s20, s21, s22, s23, s24, s25, s26, s27, s28, s29, s30, s31, s32, s33, s34, s35, s36, s37, s38, s39, s40, s41, s42, s43, s44, s45, s46, s47, s48, s49, s50, s51, s52, s53, s54, s55, s56, s57, s58, s59⟩
                   go_simp
                   with_reducible rfl
                  rotate_left
                  ·simp only [Act.put, sA_, sZ_, sS_, i64_w, i32_w]
                   rfl
                  refine pu_ 51 140 HT_ (bs 65 4503599627370495) rfl rfl ?_
                  refine pu_ 52 141 HT_ (bs 65 9007199254740991) rfl rfl ?_
                  refine pu_ 53 142 HT_ (bs 65 18014398509481983) rfl rfl ?_
                  refine pu_ 54 143 HT_ (bs 65 36028797018963967) rfl rfl ?_
                  refine pu_ 55 144 HT_ (bs 65 72057594037927935) rfl rfl ?_
                  refine pu_ 56 145 HT_ (bs 65 144115188075855871) rfl rfl ?_
                  refine pu_ 58 147 HT_ (bs 65 432345564227567615) rfl rfl ?_
                  refine pu_ 59 148 HT_ (bs 65 1008806316530991103) rfl rfl ?_
                  refine pu_ 60 149 HT_ (bs 65 2161727821137838079) rfl rfl ?_
                  refine take_ (i := 57) (N := some 146) (v := ?_) (a' := ?_) (bs 65 2305843009213693951) rfl rfl (take_ofW HT_.out HW_.out (by kernel_rfl)) (fun _ _ _ h => h) (Or.inl ⟨by rfl, ?_⟩) hHeld ?_ ?_
                  rotate_left
                  ·rintro w' ⟨s0, s1, s2, s3, s4, s5, s6, s7, s8, s9, s10, s11, s12, s13, s14, s15, s16, s17, s18, s19, s20, s21, s22, s23, s24, s25, s26, s27, s28, s29, s30, s31, s32, s33, s34, s35, s36, s37, s38, s39, s40, s41, s42, s43, s44, s45, s46, s47, s48, s49, s50, s51, s52, s53, s54, s55, s56, s57, s58, s59⟩
                   go_simp
                   with_reducible rfl
                  rotate_left
                  ·simp only [Act.put, sA_, sZ_, sS_, i64_w, i32_w]
                   rfl
                  refine take_ (i := 61) (N := some 150) (v := ?_) (a' := ?_) (bs 65 4611686018427387903) rfl rfl (take_ofW HT_.out HW_.out (by kernel_rfl)) (fun _ _ _ h => h) (Or.inl ⟨by rfl, ?_⟩) hHeld ?_ ?_
                  rotate_left
                  ·rintro w' ⟨s0, s1, s2, s3, s4, s5, s6, s7, s8, s9, s10, s11, s12, s13, s14, s15, s16, s17, s18, s19, s20, s21, s22, s23, s24, s25, s26, s27, s28, s29, s30, s31, s32, s33, s34, s35, s36, s37, s38, s39, s40, s41, s42, s43, s44, s45, s46, s47, s48, s49, s50, s51, s52, s53, s54, s55, s56, s57, s58, s59⟩
                   go_simp
                   with_reducible rfl
                  rotate_left
                  ·simp only [Act.put, sA_, sZ_, sS_, i64_w, i32_w]
                   rfl
                  refine pu_ 62 151 HT_ (bs 65 9223372036854775807) rfl rfl ?_
                  refine pu_ 63 152 HT_ (bs 65 18446744073709551615) rfl rfl ?_
                  refine pu_ 64 153 HT_ (bs 65 36893488147419103231) rfl rfl ?_
                  refine done_ (done_of HT_.out (by kernel_rfl)) ?_
                  try go_wp2
                  (first | go_roundg k2 | (simp only [← hji55]; go_roundg k2))
                  case measure => have := HJ18.out; have := HK2.out; omega
                  case rel => exact ⟨(wrap64 (x9_2 + 1)), (by first | rfl | (simp; done) | (simp [*]; done) | (simp [wrap64]; done)), (by first | exact H' | (rw [hji55]; exact H')), ⟨by have := HJ18.out; have := HK2.out; omega⟩, ⟨by (with_reducible repeat (first | apply Kd.R_alloc | apply Kd.R_drewN | apply Kd.R_drew)); exact HO_3.out⟩, ⟨by (with_reducible repeat (first | apply Kd.R_alloc | apply Kd.R_drewN | apply Kd.R_drew)); exact HO_7.out⟩, ⟨bel_ HB.out⟩⟩
               ·rw [if_neg c57] at H
                exact absurd H (by simp)
              ·rw [if_neg c56] at H
               exact absurd H (by simp)
            ·as_aux_lemma =>
             rw [if_neg c48] at H
             have c48b0 : ((wrap64 (((rd_T31 t255 x9_2).f4) - ((rd_T31 t245 x9_2).f4))) == (wrap64 (((rd_T31 t255 x9_2).f3) - ((rd_T31 t245 x9_2).f3)))) = false := beq_eq_false_iff_ne.mpr c48
             have c48b1 : ((wrap64 (((rd_T31 t255 x9_2).f4) - ((rd_T31 t245 x9_2).f4))) != (wrap64 (((rd_T31 t255 x9_2).f3) - ((rd_T31 t245 x9_2).f3)))) = true := bne_iff_ne.mpr c48
             obtain rfl := Option.some.inj H
             obtain ⟨Ao66, co66, eo66⟩ := Kd.R_slice HO_7.out
             subst eo66
             try go_wp2
             have n0_ := Aside0.mk (Kd.R_drew HO_3.out)
             have n1_ := Aside0.mk (Kd.R_drew HO_7.out)
             have n2_ := Aside0.mk (below_drew1 HB.out)
             clear HO_3
             clear HO_7
             clear HB
             have HO_3 := n0_
             have HO_7 := n1_
             have HB := n2_
             clear n0_ n1_ n2_
             have p263 : 0 ≤ (x9_2 : Int) := of_decide_eq_true (by first | (with_reducible assumption) | assumption)
             have q263 : x9_2 < (t255.length : Int) := of_decide_eq_true (by first | (with_reducible assumption) | assumption)
             obtain ⟨ad263, e263, hx263_0, hx263_1, hx263_2, hx263_3, hx263_4, hx263_5⟩ := at_T31 (Kd.R_reads' HO_7.out).2.2 x9_2 p263 q263
             cases e263
             replace p263 := eq_true p263
             replace q263 := eq_true q263
             have p264 : 0 ≤ (x9_2 : Int) := of_decide_eq_true (by first | (with_reducible assumption) | assumption)
             have q264 : x9_2 < (t245.length : Int) := of_decide_eq_true (by first | (with_reducible assumption) | assumption)
             obtain ⟨ad264, e264, hx264_0, hx264_1, hx264_2, hx264_3, hx264_4, hx264_5⟩ := at_T31 (Kd.R_reads' HO_3.out).2.2 x9_2 p264 q264
             cases e264
             replace p264 := eq_true p264
             replace q264 := eq_true q264
             have p265 : 0 ≤ (x9_2 : Int) := of_decide_eq_true (by first | (with_reducible assumption) | assumption)
             have q265 : x9_2 < (t255.length : Int) := of_decide_eq_true (by first | (with_reducible assumption) | assumption)
             obtain ⟨ad265, e265, hx265_0, hx265_1, hx265_2, hx265_3, hx265_4, hx265_5⟩ := at_T31 (Kd.R_reads' HO_7.out).2.2 x9_2 p265 q265
             obtain rfl : ad263 = ad265 := (by injection e265)
             replace p265 := eq_true p265
             replace q265 := eq_true q265
             have p266 : 0 ≤ (x9_2 : Int) := of_decide_eq_true (by first | (with_reducible assumption) | assumption)
             have q266 : x9_2 < (t245.length : Int) := of_decide_eq_true (by first | (with_reducible assumption) | assumption)
             obtain ⟨ad266, e266, hx266_0, hx266_1, hx266_2, hx266_3, hx266_4, hx266_5⟩ := at_T31 (Kd.R_reads' HO_3.out).2.2 x9_2 p266 q266
             obtain rfl : ad264 = ad266 := (by injection e266)
             replace p266 := eq_true p266
             replace q266 := eq_true q266
             have p267 : 0 ≤ (x9_2 : Int) := of_decide_eq_true (by first | (with_reducible assumption) | assumption)
             have q267 : x9_2 < (t255.length : Int) := of_decide_eq_true (by first | (with_reducible assumption) | assumption)
             obtain ⟨ad267, e267, hx267_0, hx267_1, hx267_2, hx267_3, hx267_4, hx267_5⟩ := at_T31 (Kd.R_reads' HO_7.out).2.2 x9_2 p267 q267
             obtain rfl : ad263 = ad267 := (by injection e267)
             replace p267 := eq_true p267
             replace q267 := eq_true q267
             have p268 : 0 ≤ (x9_2 : Int) := of_decide_eq_true (by first | (with_reducible assumption) | assumption)
             have q268 : x9_2 < (t245.length : Int) := of_decide_eq_true (by first | (with_reducible assumption) | assumption)
             obtain ⟨ad268, e268, hx268_0, hx268_1, hx268_2, hx268_3, hx268_4, hx268_5⟩ := at_T31 (Kd.R_reads' HO_3.out).2.2 x9_2 p268 q268
             obtain rfl : ad264 = ad268 := (by injection e268)
             replace p268 := eq_true p268
             replace q268 := eq_true q268
             refine start_ (n := 65) (S := fun w' => w'.cell? (ad263.add ((x9_2).toNat * 6)) = some (.int .i64 ((rd_T31 t255 x9_2).f0)) ∧ w'.cell? ⟨(ad263.add ((x9_2).toNat * 6)).block, (ad263.add ((x9_2).toNat * 6)).off + 1, none⟩ = some (.int .i64 ((rd_T31 t255 x9_2).f1)) ∧ w'.cell? ⟨(ad263.add ((x9_2).toNat * 6)).block, (ad263.add ((x9_2).toNat * 6)).off + 2, none⟩ = some (.int .i64 ((rd_T31 t255 x9_2).f2)) ∧ w'.cell? ⟨(ad263.add ((x9_2).toNat * 6)).block, (ad263.add ((x9_2).toNat * 6)).off + 3, none⟩ = some (.int .i64 ((rd_T31 t255 x9_2).f3)) ∧ w'.cell? ⟨(ad263.add ((x9_2).toNat * 6)).block, (ad263.add ((x9_2).toNat * 6)).off + 4, none⟩ = some (.int .i64 ((rd_T31 t255 x9_2).f4)) ∧ w'.cell? ⟨(ad263.add ((x9_2).toNat * 6)).block, (ad263.add ((x9_2).toNat * 6)).off + 5, none⟩ = some (.int .i64 ((rd_T31 t255 x9_2).f5)) ∧ w'.cell? (ad264.add ((x9_2).toNat * 6)) = some (.int .i64 ((rd_T31 t245 x9_2).f0)) ∧ w'.cell? ⟨(ad264.add ((x9_2).toNat * 6)).block, (ad264.add ((x9_2).toNat * 6)).off + 1, none⟩ = some (.int .i64 ((rd_T31 t245 x9_2).f1)) ∧ w'.cell? ⟨(ad264.add ((x9_2).toNat * 6)).block, (ad264.add ((x9_2).toNat * 6)).off + 2, none⟩ = some (.int .i64 ((rd_T31 t245 x9_2).f2)) ∧ w'.cell? ⟨(ad264.add ((x9_2).toNat * 6)).block, (ad264.add ((x9_2).toNat * 6)).off + 3, none⟩ = some (.int .i64 ((rd_T31 t245 x9_2).f3)) ∧ w'.cell? ⟨(ad264.add ((x9_2).toNat * 6)).block, (ad264.add ((x9_2).toNat * 6)).off + 4, none⟩ = some (.int .i64 ((rd_T31 t245 x9_2).f4)) ∧ w'.cell? ⟨(ad264.add ((x9_2).toNat * 6)).block, (ad264.add ((x9_2).toNat * 6)).off + 5, none⟩ = some (.int .i64 ((rd_T31 t245 x9_2).f5)) ∧ w'.cell? (ad263.add ((x9_2).toNat * 6)) = some (.int .i64 ((rd_T31 t255 x9_2).f0)) ∧ w'.cell? ⟨(ad263.add ((x9_2).toNat * 6)).block, (ad263.add ((x9_2).toNat * 6)).off + 1, none⟩ = some (.int .i64 ((rd_T31 t255 x9_2).f1)) ∧ w'.cell? ⟨(ad263.add ((x9_2).toNat * 6)).block, (ad263.add ((x9_2).toNat * 6)).off + 2, none⟩ = some (.int .i64 ((rd_T31 t255 x9_2).f2)) ∧ w'.cell? ⟨(ad263.add ((x9_2).toNat * 6)).block, (ad263.add ((x9_2).toNat * 6)).off + 3, none⟩ = some (.int .i64 ((rd_T31 t255 x9_2).f3)) ∧ w'.cell? ⟨(ad263.add ((x9_2).toNat * 6)).block, (ad263.add ((x9_2).toNat * 6)).off + 4, none⟩ = some (.int .i64 ((rd_T31 t255 x9_2).f4)) ∧ w'.cell? ⟨(ad263.add ((x9_2).toNat * 6)).block, (ad263.add ((x9_2).toNat * 6)).off + 5, none⟩ = some (.int .i64 ((rd_T31 t255 x9_2).f5)) ∧ w'.cell? (ad264.add ((x9_2).toNat * 6)) = some (.int .i64 ((rd_T31 t245 x9_2).f0)) ∧ w'.cell? ⟨(ad264.add ((x9_2).toNat * 6)).block, (ad264.add ((x9_2).toNat * 6)).off + 1, none⟩ = some (.int .i64 ((rd_T31 t245 x9_2).f1)) ∧ w'.cell? ⟨(ad264.add ((x9_2).toNat * 6)).block, (ad264.add ((x9_2).toNat * 6)).off + 2, none⟩ = some (.int .i64 ((rd_T31 t245 x9_2).f2)) ∧ w'.cell? ⟨(ad264.add ((x9_2).toNat * 6)).block, (ad264.add ((x9_2).toNat * 6)).off + 3, none⟩ = some (.int .i64 ((rd_T31 t245 x9_2).f3)) ∧ w'.cell? ⟨(ad264.add ((x9_2).toNat * 6)).block, (ad264.add ((x9_2).toNat * 6)).off + 4, none⟩ = some (.int .i64 ((rd_T31 t245 x9_2).f4)) ∧ w'.cell? ⟨(ad264.add ((x9_2).toNat * 6)).block, (ad264.add ((x9_2).toNat * 6)).off + 5, none⟩ = some (.int .i64 ((rd_T31 t245 x9_2).f5)) ∧ w'.cell? (ad263.add ((x9_2).toNat * 6)) = some (.int .i64 ((rd_T31 t255 x9_2).f0)) ∧ w'.cell? ⟨(ad263.add ((x9_2).toNat * 6)).block, (ad263.add ((x9_2).toNat * 6)).off + 1, none⟩ = some (.int .i64 ((rd_T31 t255 x9_2).f1)) ∧ w'.cell? ⟨(ad263.add ((x9_2).toNat * 6)).block, (ad263.add ((x9_2).toNat * 6)).off + 2, none⟩ = some (.int .i64 ((rd_T31 t255 x9_2).f2)) ∧ w'.cell? ⟨(ad263.add ((x9_2).toNat * 6)).block, (ad263.add ((x9_2).toNat * 6)).off + 3, none⟩ = some (.int .i64 ((rd_T31 t255 x9_2).f3)) ∧ w'.cell? ⟨(ad263.add ((x9_2).toNat * 6)).block, (ad263.add ((x9_2).toNat * 6)).off + 4, none⟩ = some (.int .i64 ((rd_T31 t255 x9_2).f4)) ∧ w'.cell? ⟨(ad263.add ((x9_2).toNat * 6)).block, (ad263.add ((x9_2).toNat * 6)).off + 5, none⟩ = some (.int .i64 ((rd_T31 t255 x9_2).f5)) ∧ w'.cell? (ad264.add ((x9_2).toNat * 6)) = some (.int .i64 ((rd_T31 t245 x9_2).f0)) ∧ w'.cell? ⟨(ad264.add ((x9_2).toNat * 6)).block, (ad264.add ((x9_2).toNat * 6)).off + 1, none⟩ = some (.int .i64 ((rd_T31 t245 x9_2).f1)) ∧ w'.cell? ⟨(ad264.add ((x9_2).toNat * 6)).block, (ad264.add ((x9_2).toNat * 6)).off + 2, none⟩ = some (.int .i64 ((rd_T31 t245 x9_2).f2)) ∧ w'.cell? ⟨(ad264.add ((x9_2).toNat * 6)).block, (ad264.add ((x9_2).toNat * 6)).off + 3, none⟩ = some (.int .i64 ((rd_T31 t245 x9_2).f3)) ∧ w'.cell? ⟨(ad264.add ((x9_2).toNat * 6)).block, (ad264.add ((x9_2).toNat * 6)).off + 4, none⟩ = some (.int .i64 ((rd_T31 t245 x9_2).f4)) ∧ w'.cell? ⟨(ad264.add ((x9_2).toNat * 6)).block, (ad264.add ((x9_2).toNat * 6)).off + 5, none⟩ = some (.int .i64 ((rd_T31 t245 x9_2).f5))) (ds := []) (bs 65 0) (by kernel_rfl) rfl rfl ⟨hx263_0, hx263_1, hx263_2, hx263_3, hx263_4, hx263_5, hx264_0, hx264_1, hx264_2, hx264_3, hx264_4, hx264_5, hx265_0, hx265_1, hx265_2, hx265_3, hx265_4, hx265_5, hx266_0, hx266_1, hx266_2, hx266_3, hx266_4, hx266_5, hx267_0, hx267_1, hx267_2, hx267_3, hx267_4, hx267_5, hx268_0, hx268_1, hx268_2, hx268_3, hx268_4, hx268_5⟩ (fun hHeld => ?_); refine with_tabW laws_FnDelays.tab14 laws_FnDelays.bits14 (fun HT_ HW_ => ?_)
             generalize wr.drew = w67 at HO_3 HO_7 HB hx263_0 hx263_1 hx263_2 hx263_3 hx263_4 hx263_5 hx264_0 hx264_1 hx264_2 hx264_3 hx264_4 hx264_5 hx265_0 hx265_1 hx265_2 hx265_3 hx265_4 hx265_5 hx266_0 hx266_1 hx266_2 hx266_3 hx266_4 hx266_5 hx267_0 hx267_1 hx267_2 hx267_3 hx267_4 hx267_5 hx268_0 hx268_1 hx268_2 hx268_3 hx268_4 hx268_5 hHeld ⊢
             refine pu_ 0 89 HT_ (bs 65 1) rfl rfl ?_
             refine pu_ 1 90 HT_ (bs 65 3) rfl rfl ?_
             refine pu_ 2 91 HT_ (bs 65 7) rfl rfl ?_
             refine pu_ 3 92 HT_ (bs 65 15) rfl rfl ?_
             refine pu_ 5 94 HT_ (bs 65 47) rfl rfl ?_
             refine pu_ 6 95 HT_ (bs 65 111) rfl rfl ?_
             refine pu_ 7 96 HT_ (bs 65 239) rfl rfl ?_
             refine pu_ 8 97 HT_ (bs 65 495) rfl rfl ?_
             refine take_ (i := 4) (N := some 93) (v := ?_) (a' := ?_) (bs 65 511) rfl rfl (take_ofW HT_.out HW_.out (by kernel_rfl)) (fun _ _ _ h => h) (Or.inl ⟨by rfl, ?_⟩) hHeld ?_ ?_
             rotate_left
             ·rintro w' ⟨s0, s1, s2, s3, s4, s5, s6, s7, s8, s9, s10, s11, s12, s13, s14, s15, s16, s17, s18, s19, s20, s21, s22, s23, s24, s25, s26, s27, s28, s29, s30, s31, s32, s33, s34, s35⟩
              go_simp
              with_reducible rfl
             rotate_left
             ·simp only [Act.put, sA_, sZ_, sS_, i64_w, i32_w]
              rfl
             refine take_ (i := 9) (N := some 98) (v := ?_) (a' := ?_) (bs 65 1023) rfl rfl (take_ofW HT_.out HW_.out (by kernel_rfl)) (fun _ _ _ h => h) (Or.inl ⟨by rfl, ?_⟩) hHeld ?_ ?_
             rotate_left
             ·rintro w' ⟨s0, s1, s2, s3, s4, s5, s6, s7, s8, s9, s10, s11, s12, s13, s14, s15, s16, s17, s18, s19, s20, s21, s22, s23, s24, s25, s26, s27, s28, s29, s30, s31, s32, s33, s34, s35⟩
              go_simp
              with_reducible rfl
             rotate_left
             ·simp only [Act.put, sA_, sZ_, sS_, i64_w, i32_w]
              rfl
             refine pu_ 10 99 HT_ (bs 65 2047) rfl rfl ?_
             refine pu_ 11 100 HT_ (bs 65 4095) rfl rfl ?_
             refine pu_ 12 101 HT_ (bs 65 8191) rfl rfl ?_
             refine pu_ 13 102 HT_ (bs 65 16383) rfl rfl ?_
             refine pu_ 14 103 HT_ (bs 65 32767) rfl rfl ?_
             refine pu_ 15 104 HT_ (bs 65 65535) rfl rfl ?_
             refine pu_ 17 106 HT_ (bs 65 196607) rfl rfl ?_
             refine pu_ 18 107 HT_ (bs 65 458751) rfl rfl ?_
             refine pu_ 19 108 HT_ (bs 65 983039) rfl rfl ?_
             refine pu_ 20 109 HT_ (bs 65 2031615) rfl rfl ?_
             refine pu_ 23 112 HT_ (bs 65 10420223) rfl rfl ?_
             refine pu_ 24 113 HT_ (bs 65 27197439) rfl rfl ?_
             refine pu_ 25 114 HT_ (bs 65 60751871) rfl rfl ?_
             refine pu_ 26 115 HT_ (bs 65 127860735) rfl rfl ?_
             refine pu_ 28 117 HT_ (bs 65 396296191) rfl rfl ?_
             refine pu_ 29 118 HT_ (bs 65 933167103) rfl rfl ?_
             refine pu_ 30 119 HT_ (bs 65 2006908927) rfl rfl ?_
             refine pu_ 31 120 HT_ (bs 65 4154392575) rfl rfl ?_
             refine take_ (i := 16) (N := some 105) (v := ?_) (a' := ?_) (bs 65 4154458111) rfl rfl (take_ofW HT_.out HW_.out (by kernel_rfl)) (fun _ _ _ h => h) (Or.inl ⟨by rfl, ?_⟩) hHeld ?_ ?_
             rotate_left
             ·rintro w' ⟨s0, s1, s2, s3, s4, s5, s6, s7, s8, s9, s10, s11, s12, s13, s14, s15, s16, s17, s18, s19, s20, s21, s22, s23, s24, s25, s26, s27, s28, s29, s30, s31, s32, s33, s34, s35⟩
              go_simp
              with_reducible rfl
             rotate_left
             ·simp only [Act.put, sA_, sZ_, sS_, i64_w, i32_w]
              rfl
             refine take_ (i := 21) (N := some 110) (v := ?_) (a' := ?_) (bs 65 4156555263) rfl rfl (take_ofW HT_.out HW_.out (by kernel_rfl)) (fun _ _ _ h => h) (Or.inl ⟨by rfl, ?_⟩) hHeld ?_ ?_
             rotate_left
             ·rintro w' ⟨s0, s1, s2, s3, s4, s5, s6, s7, s8, s9, s10, s11, s12, s13, s14, s15, s16, s17, s18, s19, s20, s21, s22, s23, s24, s25, s26, s27, s28, s29, s30, s31, s32, s33, s34, s35⟩
              go_simp
              with_reducible rfl
             rotate_left
             ·simp only [Act.put, sA_, sZ_, sS_, i64_w, i32_w]
              rfl
             refine pu_ 22 111 HT_ (bs 65 4160749567) rfl rfl ?_
             refine take_ (i := 27) (N := some 116) (v := ?_) (a' := ?_) (bs 65 4294967295) rfl rfl (take_ofW HT_.out HW_.out (by kernel_rfl)) (fun _ _ _ h => h) (Or.inl ⟨by rfl, ?_⟩) hHeld ?_ ?_
             rotate_left
             ·rintro w' ⟨s0, s1, s2, s3, s4, s5, s6, s7, s8, s9, s10, s11, s12, s13, s14, s15, s16, s17, s18, s19, s20, s21, s22, s23, s24, s25, s26, s27, s28, s29, s30, s31, s32, s33, s34, s35⟩
              go_simp
              with_reducible rfl
             rotate_left
             ·simp only [Act.put, sA_, sZ_, sS_, i64_w, i32_w]
              rfl
             refine take_ (i := 32) (N := some 121) (v := ?_) (a' := ?_) (bs 65 8589934591) rfl rfl (take_ofW HT_.out HW_.out (by kernel_rfl)) (fun _ _ _ h => h) (Or.inl ⟨by rfl, ?_⟩) hHeld ?_ ?_
             rotate_left
             ·rintro w' ⟨s0, s1, s2, s3, s4, s5, s6, s7, s8, s9, s10, s11, s12, s13, s14, s15, s16, s17, s18, s19, s20, s21, s22, s23, s24, s25, s26, s27, s28, s29, s30, s31, s32, s33, s34, s35⟩
              go_simp
              with_reducible rfl
             rotate_left
             ·simp only [Act.put, sA_, sZ_, sS_, i64_w, i32_w]
              rfl
             refine pu_ 33 122 HT_ (bs 65 17179869183) rfl rfl ?_
             refine pu_ 34 123 HT_ (bs 65 34359738367) rfl rfl ?_
             refine pu_ 35 124 HT_ (bs 65 68719476735) rfl rfl ?_
             refine pu_ 36 125 HT_ (bs 65 137438953471) rfl rfl ?_
             refine pn_ 37 126 HT_ (bs 65 274877906943) rfl rfl ?_
             refine pn_ 38 127 HT_ (bs 65 549755813887) rfl rfl ?_
             refine pn_ 39 128 HT_ (bs 65 1099511627775) rfl rfl ?_
             refine pn_ 40 129 HT_ (bs 65 2199023255551) rfl rfl ?_
             refine pn_ 41 130 HT_ (bs 65 4398046511103) rfl rfl ?_
             refine pn_ 42 131 HT_ (bs 65 8796093022207) rfl rfl ?_
             refine pn_ 43 132 HT_ (bs 65 17592186044415) rfl rfl ?_
             refine pn_ 44 133 HT_ (bs 65 35184372088831) rfl rfl ?_
             refine pn_ 45 134 HT_ (bs 65 70368744177663) rfl rfl ?_
             refine pn_ 46 135 HT_ (bs 65 140737488355327) rfl rfl ?_
             refine pn_ 47 136 HT_ (bs 65 281474976710655) rfl rfl ?_
             refine pn_ 48 137 HT_ (bs 65 562949953421311) rfl rfl ?_
             refine pn_ 49 138 HT_ (bs 65 1125899906842623) rfl rfl ?_
             refine pn_ 50 139 HT_ (bs 65 2251799813685247) rfl rfl ?_
             refine pn_ 51 140 HT_ (bs 65 4503599627370495) rfl rfl ?_
             refine pn_ 52 141 HT_ (bs 65 9007199254740991) rfl rfl ?_
             refine pn_ 53 142 HT_ (bs 65 18014398509481983) rfl rfl ?_
             refine pn_ 54 143 HT_ (bs 65 36028797018963967) rfl rfl ?_
             refine pn_ 55 144 HT_ (bs 65 72057594037927935) rfl rfl ?_
             refine pn_ 56 145 HT_ (bs 65 144115188075855871) rfl rfl ?_
             refine pn_ 57 146 HT_ (bs 65 288230376151711743) rfl rfl ?_
             refine pn_ 58 147 HT_ (bs 65 576460752303423487) rfl rfl ?_
             refine pn_ 59 148 HT_ (bs 65 1152921504606846975) rfl rfl ?_
             refine pn_ 60 149 HT_ (bs 65 2305843009213693951) rfl rfl ?_
             refine pn_ 61 150 HT_ (bs 65 4611686018427387903) rfl rfl ?_
             refine pn_ 62 151 HT_ (bs 65 9223372036854775807) rfl rfl ?_
             refine pn_ 63 152 HT_ (bs 65 18446744073709551615) rfl rfl ?_
             refine pu_ 64 153 HT_ (bs 65 36893488147419103231) rfl rfl ?_
             refine done_ (done_of HT_.out (by kernel_rfl)) ?_
             try go_wp2
             go_ret
             exact ⟨by first | rfl | (simp [errW_none, errW_some] <;> rfl) | (simp [*, errW_none, errW_some] <;> rfl), bel_ HB.out⟩
          ·rw [if_neg c44] at H
           exact absurd H (by simp)
         ·rw [if_neg c43] at H
          exact absurd H (by simp)
        ·rw [if_neg c42] at H
         have c42b0 : decide (x9_2 < (t255.length : Int)) = false := decide_eq_false c42
         clear c42
         replace H := Option.bind_eq_some_iff.mp H
         obtain ⟨⟨t275, t276⟩, A680, H⟩ := H
         replace H : ((impl_Missed.f k2 t245 t245 0).bind fun bt279 => (if t276 = true then (if bt279.2 = true then (if (bt279.1.length : Int) = 0 then ((laws_at.f l0 2).bind fun t283 => (if t283 = 0 then ((laws_at.f l0 3).bind fun t284 => (if (Int.tmod t284 20) = 0 then (laws_FnDelays.j2 k2 l0 t245 (Int.tmod t252 (t245.length : Int)) ((t275.length : Int) != 0)) else (laws_FnDelays.j2 k2 l0 t245 (Int.tmod t252 (t245.length : Int)) false))) else (laws_FnDelays.j2 k2 l0 t245 (Int.tmod t252 (t245.length : Int)) false))) else (laws_FnDelays.j2 k2 l0 t245 (Int.tmod t252 (t245.length : Int)) true)) else (laws_FnDelays.j2 k2 l0 t245 (Int.tmod t252 (t245.length : Int)) true)) else (laws_FnDelays.j2 k2 l0 t245 (Int.tmod t252 (t245.length : Int)) true))) = some r := H
         have A68 := Aside0.mk A680
         clear A680
         replace H := Option.bind_eq_some_iff.mp H
         obtain ⟨⟨t279, t280⟩, A690, H⟩ := H
         replace H : (if t276 = true then (if t280 = true then (if (t279.length : Int) = 0 then ((laws_at.f l0 2).bind fun t283 => (if t283 = 0 then ((laws_at.f l0 3).bind fun t284 => (if (Int.tmod t284 20) = 0 then (laws_FnDelays.j2 k2 l0 t245 (Int.tmod t252 (t245.length : Int)) ((t275.length : Int) != 0)) else (laws_FnDelays.j2 k2 l0 t245 (Int.tmod t252 (t245.length : Int)) false))) else (laws_FnDelays.j2 k2 l0 t245 (Int.tmod t252 (t245.length : Int)) false))) else (laws_FnDelays.j2 k2 l0 t245 (Int.tmod t252 (t245.length : Int)) true)) else (laws_FnDelays.j2 k2 l0 t245 (Int.tmod t252 (t245.length : Int)) true)) else (laws_FnDelays.j2 k2 l0 t245 (Int.tmod t252 (t245.length : Int)) true)) = some r := H
         have A69 := Aside0.mk A690
         clear A690
         have HC70 := Aside0.mk H
         clear H
         obtain ⟨Ao71, co71, eo71⟩ := Kd.R_slice HO_7.out
         subst eo71
         go_upto_region 18 with (first | ((with_reducible refine gate_callee (f := 13) rfl ?_); refine goesL_ (some 157) rfl rfl Try.func13 (by kernel_rfl) rfl #[.slice Ao21 t245.length co21, .slice Ao71 t255.length co71, .int .i64 0] rfl ml_ ?_; (with_reducible refine (impl_Missed.calls k2 _ _ t245 _ _ t255 0 t275 t276 _ ?side1 ?side2 ?side3 ?side4 A68.out).mono ?_); (case side1 => exact rc_ (Kd.R_reads' HO_3.out).2.2); (case side2 => exact (Kd.R_reads' HO_3.out).2.1); (case side3 => exact rc_ (Kd.R_reads' HO_7.out).2.2); (case side4 => exact (Kd.R_reads' HO_7.out).2.1); rintro e w72 ⟨v277, rfl, ho0, hb⟩; refine ⟨_, rfl, ?_⟩; have n0_ := Aside0.mk (Kd.R_below (fr_ HO_3.out) hb); have n1_ := Aside0.mk (Kd.R_below (fr_ HO_7.out) hb); have n2_ := Aside0.mk (Kd.R_lower ho0 (below_size (bel_ HB.out))); have n3_ := Aside0.mk (below_step (bel_ HB.out) hb); clear HO_3; clear HO_7; clear HB; have HO_3 := n0_; have HO_7 := n1_; have HO278 := n2_; have HB := n3_; clear n0_ n1_ n2_ n3_; (try clear hb); (try clear hb2); (try clear hk); (try clear hi); (try clear ho0)) | ((with_reducible refine gate_callee (f := 13) rfl ?_); refine goesL_ (some 163) rfl rfl Try.func13 (by kernel_rfl) rfl #[.slice Ao21 t245.length co21, .slice Ao21 t245.length co21, .int .i64 0] rfl ml_ ?_; (with_reducible refine (impl_Missed.calls k2 _ _ t245 _ _ t245 0 t279 t280 _ ?side1 ?side2 ?side3 ?side4 A69.out).mono ?_); (case side1 => exact rc_ (Kd.R_reads' HO_3.out).2.2); (case side2 => exact (Kd.R_reads' HO_3.out).2.1); (case side3 => exact rc_ (Kd.R_reads' HO_3.out).2.2); (case side4 => exact (Kd.R_reads' HO_3.out).2.1); rintro e w73 ⟨v281, rfl, ho0, hb⟩; refine ⟨_, rfl, ?_⟩; have n0_ := Aside0.mk (Kd.R_below (fr_ HO_3.out) hb); have n1_ := Aside0.mk (Kd.R_below (fr_ HO_7.out) hb); have n2_ := Aside0.mk (Kd.R_elder' (fr_ HO278.out) (Kd.R_base ho0) hb); have n3_ := Aside0.mk (Kd.R_lower (Kd.R_new' ho0 (Kd.R_lt (fr_ HO278.out))) (below_size (bel_ HB.out))); have n4_ := Aside0.mk (below_step (bel_ HB.out) hb); clear HO_3; clear HO_7; clear HO278; clear HB; have HO_3 := n0_; have HO_7 := n1_; have HO278 := n2_; have HO282 := n3_; have HB := n4_; clear n0_ n1_ n2_ n3_ n4_; (try clear hb); (try clear hb2); (try clear hk); (try clear hi); (try clear ho0)))
         (try simp only [Act.put, sA_, sZ_, sS_])
         go_cut [192] (fun v192 wc => ∃ (kq : Nat) (x192_69 : Bool), v192 = .bool x192_69 ∧ Aside0 (laws_FnDelays.j2 kq l0 t245 (Int.tmod t252 (t245.length : Int)) x192_69 = some r) ∧ Aside0 (kq ≤ k2) ∧ Aside0 (Kd.R k31 31 wc w.heap.size (fun _ => True) (.slice Ao21 t245.length co21) t245) ∧ Aside0 (Below w.heap.size w wc))
         case first =>
          have H := HC70.out
          clear HC70
          by_cases c74 : t276 = true
          ·as_aux_lemma =>
           subst c74
           have H1 : (if t280 = true then (if (t279.length : Int) = 0 then ((laws_at.f l0 2).bind fun t283 => (if t283 = 0 then ((laws_at.f l0 3).bind fun t284 => (if (Int.tmod t284 20) = 0 then (laws_FnDelays.j2 k2 l0 t245 (Int.tmod t252 (t245.length : Int)) ((t275.length : Int) != 0)) else (laws_FnDelays.j2 k2 l0 t245 (Int.tmod t252 (t245.length : Int)) false))) else (laws_FnDelays.j2 k2 l0 t245 (Int.tmod t252 (t245.length : Int)) false))) else (laws_FnDelays.j2 k2 l0 t245 (Int.tmod t252 (t245.length : Int)) true)) else (laws_FnDelays.j2 k2 l0 t245 (Int.tmod t252 (t245.length : Int)) true)) = some r := by rw [if_pos rfl] at H; exact H
           clear H
           have H := H1
           clear H1
           by_cases c75 : t280 = true
           ·subst c75
            have H1 : (if (t279.length : Int) = 0 then ((laws_at.f l0 2).bind fun t283 => (if t283 = 0 then ((laws_at.f l0 3).bind fun t284 => (if (Int.tmod t284 20) = 0 then (laws_FnDelays.j2 k2 l0 t245 (Int.tmod t252 (t245.length : Int)) ((t275.length : Int) != 0)) else (laws_FnDelays.j2 k2 l0 t245 (Int.tmod t252 (t245.length : Int)) false))) else (laws_FnDelays.j2 k2 l0 t245 (Int.tmod t252 (t245.length : Int)) false))) else (laws_FnDelays.j2 k2 l0 t245 (Int.tmod t252 (t245.length : Int)) true)) = some r := by rw [if_pos rfl] at H; exact H
            clear H
            have H := H1
            clear H1
            by_cases c76 : (t279.length : Int) = 0
            ·rw [if_pos c76] at H
             have c76b0 : ((t279.length : Int) == 0) = true := beq_iff_eq.mpr c76
             have c76b1 : ((t279.length : Int) != 0) = false := bne_eq_false_iff_eq.mpr c76
             clear c76
             (first | rw [c76b0] | (simp only [i64_w, i32_w]; rw [c76b0]) | skip)
             replace H := Option.bind_eq_some_iff.mp H
             obtain ⟨t283, A770, H⟩ := H
             replace H : (if t283 = 0 then ((laws_at.f l0 3).bind fun t284 => (if (Int.tmod t284 20) = 0 then (laws_FnDelays.j2 k2 l0 t245 (Int.tmod t252 (t245.length : Int)) ((t275.length : Int) != 0)) else (laws_FnDelays.j2 k2 l0 t245 (Int.tmod t252 (t245.length : Int)) false))) else (laws_FnDelays.j2 k2 l0 t245 (Int.tmod t252 (t245.length : Int)) false)) = some r := H
             have A77 := Aside0.mk A770
             clear A770
             by_cases c78 : t283 = 0
             ·rw [if_pos c78] at H
              have c78b0 : (t283 == 0) = true := beq_iff_eq.mpr c78
              have c78b1 : (t283 != 0) = false := bne_eq_false_iff_eq.mpr c78
              clear c78
              replace H := Option.bind_eq_some_iff.mp H
              obtain ⟨t284, A790, H⟩ := H
              replace H : (if (Int.tmod t284 20) = 0 then (laws_FnDelays.j2 k2 l0 t245 (Int.tmod t252 (t245.length : Int)) ((t275.length : Int) != 0)) else (laws_FnDelays.j2 k2 l0 t245 (Int.tmod t252 (t245.length : Int)) false)) = some r := H
              have A79 := Aside0.mk A790
              clear A790
              by_cases c80 : (Int.tmod t284 20) = 0
              ·rw [if_pos c80] at H
               have c80b0 : ((Int.tmod t284 20) == 0) = true := beq_iff_eq.mpr c80
               have c80b1 : ((Int.tmod t284 20) != 0) = false := bne_eq_false_iff_eq.mpr c80
               clear c80
               have H' := Aside0.mk H
               clear H
               obtain ⟨Ao81, co81, eo81⟩ := Kd.R_slice HO282.out
               subst eo81
               go_wp2_with (first | (go_at_call 11; (with_reducible refine (laws_at.calls _ _ l0 2 t283 _ ?side1 ?side2 A77.out).mono ?_); (case side1 => repeat (first | exact (Kd.C_below HR0.out HB.out) | (with_reducible refine Kd.C_alloc ?_ _) | (with_reducible refine Kd.C_drewN ?_ _) | (with_reducible refine Kd.C_drew ?_))); (case side2 => exact HC0.out); rintro e w' ⟨rfl, ⟨nd, rfl⟩⟩) | (go_at_call 11; (with_reducible refine (laws_at.calls _ _ l0 3 t284 _ ?side1 ?side2 A79.out).mono ?_); (case side1 => repeat (first | exact (Kd.C_below HR0.out (bel_ HB.out)) | (with_reducible refine Kd.C_alloc ?_ _) | (with_reducible refine Kd.C_drewN ?_ _) | (with_reducible refine Kd.C_drew ?_))); (case side2 => exact HC0.out); rintro e w' ⟨rfl, ⟨nd, rfl⟩⟩; obtain ⟨Ao82, co82, eo82⟩ := Kd.R_slice HO278.out; subst eo82))
               go_meet
               case rel => exact ⟨_, (((t275.length : Int) != 0)), (by first | rfl | (simp; done) | (simp [*]; done) | (simp [wrap64]; done)), H', ⟨by have := HJ18.out; have := HK2.out; first | omega | exact Nat.le_refl _⟩, ⟨by (with_reducible repeat (first | apply Kd.R_alloc | apply Kd.R_drewN | apply Kd.R_drew)); exact Kd.R_mono HO_3.out (fun _ hk => trivial)⟩, ⟨bel_ HB.out⟩⟩
              ·rw [if_neg c80] at H
               have c80b0 : ((Int.tmod t284 20) == 0) = false := beq_eq_false_iff_ne.mpr c80
               have c80b1 : ((Int.tmod t284 20) != 0) = true := bne_iff_ne.mpr c80
               have H' := Aside0.mk H
               clear H
               obtain ⟨Ao83, co83, eo83⟩ := Kd.R_slice HO282.out
               subst eo83
               go_wp2_with (first | (go_at_call 11; (with_reducible refine (laws_at.calls _ _ l0 2 t283 _ ?side1 ?side2 A77.out).mono ?_); (case side1 => repeat (first | exact (Kd.C_below HR0.out HB.out) | (with_reducible refine Kd.C_alloc ?_ _) | (with_reducible refine Kd.C_drewN ?_ _) | (with_reducible refine Kd.C_drew ?_))); (case side2 => exact HC0.out); rintro e w' ⟨rfl, ⟨nd, rfl⟩⟩) | (go_at_call 11; (with_reducible refine (laws_at.calls _ _ l0 3 t284 _ ?side1 ?side2 A79.out).mono ?_); (case side1 => repeat (first | exact (Kd.C_below HR0.out (bel_ HB.out)) | (with_reducible refine Kd.C_alloc ?_ _) | (with_reducible refine Kd.C_drewN ?_ _) | (with_reducible refine Kd.C_drew ?_))); (case side2 => exact HC0.out); rintro e w' ⟨rfl, ⟨nd, rfl⟩⟩))
               go_meet
               case rel => exact ⟨_, (false), (by first | rfl | (simp; done) | (simp [*]; done) | (simp [wrap64]; done)), H', ⟨by have := HJ18.out; have := HK2.out; first | omega | exact Nat.le_refl _⟩, ⟨by (with_reducible repeat (first | apply Kd.R_alloc | apply Kd.R_drewN | apply Kd.R_drew)); exact Kd.R_mono HO_3.out (fun _ hk => trivial)⟩, ⟨bel_ HB.out⟩⟩
             ·rw [if_neg c78] at H
              have c78b0 : (t283 == 0) = false := beq_eq_false_iff_ne.mpr c78
              have c78b1 : (t283 != 0) = true := bne_iff_ne.mpr c78
              have H' := Aside0.mk H
              clear H
              obtain ⟨Ao84, co84, eo84⟩ := Kd.R_slice HO282.out
              subst eo84
              go_wp2_with (first | (go_at_call 11; (with_reducible refine (laws_at.calls _ _ l0 2 t283 _ ?side1 ?side2 A77.out).mono ?_); (case side1 => repeat (first | exact (Kd.C_below HR0.out HB.out) | (with_reducible refine Kd.C_alloc ?_ _) | (with_reducible refine Kd.C_drewN ?_ _) | (with_reducible refine Kd.C_drew ?_))); (case side2 => exact HC0.out); rintro e w' ⟨rfl, ⟨nd, rfl⟩⟩))
              go_meet
              case rel => exact ⟨_, (false), (by first | rfl | (simp; done) | (simp [*]; done) | (simp [wrap64]; done)), H', ⟨by have := HJ18.out; have := HK2.out; first | omega | exact Nat.le_refl _⟩, ⟨by (with_reducible repeat (first | apply Kd.R_alloc | apply Kd.R_drewN | apply Kd.R_drew)); exact Kd.R_mono HO_3.out (fun _ hk => trivial)⟩, ⟨bel_ HB.out⟩⟩
            ·rw [if_neg c76] at H
             have c76b0 : ((t279.length : Int) == 0) = false := beq_eq_false_iff_ne.mpr c76
             have c76b1 : ((t279.length : Int) != 0) = true := bne_iff_ne.mpr c76
             have c76b2 : ¬ (t279 = []) := fun h_ => c76 (by rw [h_]; rfl)
             (first | rw [c76b0] | (simp only [i64_w, i32_w]; rw [c76b0]) | skip)
             have H' := Aside0.mk H
             clear H
             obtain ⟨Ao85, co85, eo85⟩ := Kd.R_slice HO282.out
             subst eo85
             go_wp2
             go_meet
             case rel => exact ⟨_, (true), (by first | rfl | (simp; done) | (simp [*]; done) | (simp [wrap64]; done)), H', ⟨by have := HJ18.out; have := HK2.out; first | omega | exact Nat.le_refl _⟩, ⟨by (with_reducible repeat (first | apply Kd.R_alloc | apply Kd.R_drewN | apply Kd.R_drew)); exact Kd.R_mono HO_3.out (fun _ hk => trivial)⟩, ⟨bel_ HB.out⟩⟩
           ·replace c75 := Bool.eq_false_iff.mpr c75
            subst c75
            have H1 : (laws_FnDelays.j2 k2 l0 t245 (Int.tmod t252 (t245.length : Int)) true) = some r := by rw [if_neg (show ¬ (false = true) by decide)] at H; exact H
            clear H
            have H := H1
            clear H1
            have H' := Aside0.mk H
            clear H
            go_wp2
            go_meet
            case rel => exact ⟨_, (true), (by first | rfl | (simp; done) | (simp [*]; done) | (simp [wrap64]; done)), H', ⟨by have := HJ18.out; have := HK2.out; first | omega | exact Nat.le_refl _⟩, ⟨by (with_reducible repeat (first | apply Kd.R_alloc | apply Kd.R_drewN | apply Kd.R_drew)); exact Kd.R_mono HO_3.out (fun _ hk => trivial)⟩, ⟨bel_ HB.out⟩⟩
          ·replace c74 := Bool.eq_false_iff.mpr c74
           subst c74
           have H1 : (laws_FnDelays.j2 k2 l0 t245 (Int.tmod t252 (t245.length : Int)) true) = some r := by rw [if_neg (show ¬ (false = true) by decide)] at H; exact H
           clear H
           have H := H1
           clear H1
           have H' := Aside0.mk H
           clear H
           go_wp2
           go_meet
           case rel => exact ⟨_, (true), (by first | rfl | (simp; done) | (simp [*]; done) | (simp [wrap64]; done)), H', ⟨by have := HJ18.out; have := HK2.out; first | omega | exact Nat.le_refl _⟩, ⟨by (with_reducible repeat (first | apply Kd.R_alloc | apply Kd.R_drewN | apply Kd.R_drew)); exact Kd.R_mono HO_3.out (fun _ hk => trivial)⟩, ⟨bel_ HB.out⟩⟩
         case rest =>
          clear HC70
          try clear c42
          try clear c42b0
          obtain ⟨kq, x192_69, rfl, HA, HJ69, HO_3, HB⟩ := hcut
          cases kq with
          | zero => exact absurd HA.out (by simp [laws_FnDelays.j2])
          | succ kj69 =>
           have H := HA.out
           clear HA
           simp only [laws_FnDelays.j2] at H
           by_cases c86 : x192_69 = true
           ·subst c86
            have H1 : (some false) = some r := by rw [if_pos rfl] at H; exact H
            clear H
            have H := H1
            clear H1
            obtain rfl := Option.some.inj H
            go_wp2
            go_ret
            exact ⟨by first | rfl | (simp [errW_none, errW_some] <;> rfl) | (simp [*, errW_none, errW_some] <;> rfl), bel_ HB.out⟩
           ·replace c86 := Bool.eq_false_iff.mpr c86
            subst c86
            have H1 : ((laws_at.f l0 4).bind fun t285 => ((impl_Load22.f kj69 t245 (([(Int.tmod t252 (t245.length : Int))] : List Int)) (wrap64 (1 + (Int.tmod t285 10)))).bind fun bt289 => (if 0 ≤ (Int.tmod t252 (t245.length : Int)) then (if (Int.tmod t252 (t245.length : Int)) < (t245.length : Int) then (if ((rd_T31 t245 (Int.tmod t252 (t245.length : Int))).f5) < (wrap64 (1 + (Int.tmod t285 10))) then (if bt289.2 = 3 then (if (Int.tmod t252 (t245.length : Int)) < (bt289.1.length : Int) then (some (((rd_T31 bt289.1 (Int.tmod t252 (t245.length : Int))).f5) == ((rd_T31 t245 (Int.tmod t252 (t245.length : Int))).f5))) else (none)) else (some false)) else (laws_FnDelays.l1 kj69 t245 (Int.tmod t252 (t245.length : Int)) (wrap64 (1 + (Int.tmod t285 10))) bt289.1 bt289.2 0)) else (none)) else (none)))) = some r := by rw [if_neg (show ¬ (false = true) by decide)] at H; exact H
            clear H
            have H := H1
            clear H1
            replace H := Option.bind_eq_some_iff.mp H
            obtain ⟨t285, A870, H⟩ := H
            replace H : ((impl_Load22.f kj69 t245 (([(Int.tmod t252 (t245.length : Int))] : List Int)) (wrap64 (1 + (Int.tmod t285 10)))).bind fun bt289 => (if 0 ≤ (Int.tmod t252 (t245.length : Int)) then (if (Int.tmod t252 (t245.length : Int)) < (t245.length : Int) then (if ((rd_T31 t245 (Int.tmod t252 (t245.length : Int))).f5) < (wrap64 (1 + (Int.tmod t285 10))) then (if bt289.2 = 3 then (if (Int.tmod t252 (t245.length : Int)) < (bt289.1.length : Int) then (some (((rd_T31 bt289.1 (Int.tmod t252 (t245.length : Int))).f5) == ((rd_T31 t245 (Int.tmod t252 (t245.length : Int))).f5))) else (none)) else (some false)) else (laws_FnDelays.l1 kj69 t245 (Int.tmod t252 (t245.length : Int)) (wrap64 (1 + (Int.tmod t285 10))) bt289.1 bt289.2 0)) else (none)) else (none))) = some r := H
            have A87 := Aside0.mk A870
            clear A870
            obtain ⟨y286, hy286⟩ : ∃ y_ : List Int, y_ = (([(Int.tmod t252 (t245.length : Int))] : List Int)) := ⟨_, rfl⟩
            replace H : ((impl_Load22.f kj69 t245 y286 (wrap64 (1 + (Int.tmod t285 10)))).bind fun bt289 => (if 0 ≤ (Int.tmod t252 (t245.length : Int)) then (if (Int.tmod t252 (t245.length : Int)) < (t245.length : Int) then (if ((rd_T31 t245 (Int.tmod t252 (t245.length : Int))).f5) < (wrap64 (1 + (Int.tmod t285 10))) then (if bt289.2 = 3 then (if (Int.tmod t252 (t245.length : Int)) < (bt289.1.length : Int) then (some (((rd_T31 bt289.1 (Int.tmod t252 (t245.length : Int))).f5) == ((rd_T31 t245 (Int.tmod t252 (t245.length : Int))).f5))) else (none)) else (some false)) else (laws_FnDelays.l1 kj69 t245 (Int.tmod t252 (t245.length : Int)) (wrap64 (1 + (Int.tmod t285 10))) bt289.1 bt289.2 0)) else (none)) else (none))) = some r := by first | (rw [hy286]; with_reducible exact H) | (have H2_ := (Option.bind_some _ _).symm.trans H; rw [hy286]; with_reducible exact H2_) | (have H2_ := (Option.bind_some _ _).symm.trans H; with_reducible exact H2_) | with_reducible exact H | (rw [hy286]; exact H) | exact H
            have Ny286 := Aside0.mk hy286
            clear hy286
            replace H := Option.bind_eq_some_iff.mp H
            obtain ⟨⟨t289, t290⟩, A880, H⟩ := H
            replace H : (if 0 ≤ (Int.tmod t252 (t245.length : Int)) then (if (Int.tmod t252 (t245.length : Int)) < (t245.length : Int) then (if ((rd_T31 t245 (Int.tmod t252 (t245.length : Int))).f5) < (wrap64 (1 + (Int.tmod t285 10))) then (if t290 = 3 then (if (Int.tmod t252 (t245.length : Int)) < (t289.length : Int) then (some (((rd_T31 t289 (Int.tmod t252 (t245.length : Int))).f5) == ((rd_T31 t245 (Int.tmod t252 (t245.length : Int))).f5))) else (none)) else (some false)) else (laws_FnDelays.l1 kj69 t245 (Int.tmod t252 (t245.length : Int)) (wrap64 (1 + (Int.tmod t285 10))) t289 t290 0)) else (none)) else (none)) = some r := H
            have A88 := Aside0.mk A880
            clear A880
            obtain ⟨ji89, hji89⟩ : ∃ j_ : Int, (Int.tmod t252 (t245.length : Int)) = j_ := ⟨_, rfl⟩
            replace H : (if 0 ≤ (ji89) then (if (ji89) < (t245.length : Int) then (if ((rd_T31 t245 (ji89)).f5) < (wrap64 (1 + (Int.tmod t285 10))) then (if t290 = 3 then (if (ji89) < (t289.length : Int) then (some (((rd_T31 t289 (ji89)).f5) == ((rd_T31 t245 (ji89)).f5))) else (none)) else (some false)) else (laws_FnDelays.l1 kj69 t245 (ji89) (wrap64 (1 + (Int.tmod t285 10))) t289 t290 0)) else (none)) else (none)) = some r := by first | (rw [hji89] at H; exact H) | (simp only [hji89] at H ⊢; exact H)
            (try rw [hji89] at A87)
            (try rw [hji89] at Ny286)
            (try rw [hji89] at A88)
            by_cases c90 : 0 ≤ (ji89)
            ·rw [if_pos c90] at H
             have c90b0 : decide (0 ≤ (ji89)) = true := decide_eq_true c90
             clear c90
             by_cases c91 : (ji89) < (t245.length : Int)
             ·rw [if_pos c91] at H
              have c91b0 : decide ((ji89) < (t245.length : Int)) = true := decide_eq_true c91
              clear c91
              by_cases c92 : ((rd_T31 t245 (ji89)).f5) < (wrap64 (1 + (Int.tmod t285 10)))
              ·as_aux_lemma =>
               rw [if_pos c92] at H
               have c92b0 : decide (((rd_T31 t245 (ji89)).f5) < (wrap64 (1 + (Int.tmod t285 10)))) = true := decide_eq_true c92
               clear c92
               by_cases c93 : t290 = 3
               ·rw [if_pos c93] at H
                have c93b0 : (t290 == 3) = true := beq_iff_eq.mpr c93
                have c93b1 : (t290 != 3) = false := bne_eq_false_iff_eq.mpr c93
                clear c93
                by_cases c94 : (ji89) < (t289.length : Int)
                ·rw [if_pos c94] at H
                 have c94b0 : decide ((ji89) < (t289.length : Int)) = true := decide_eq_true c94
                 clear c94
                 obtain rfl := Option.some.inj H
                 try go_wp2_with (first | ((with_reducible refine gate_callee (f := 11) rfl ?_); refine goesL_ (some 194) rfl rfl Try.func11 (by kernel_rfl) rfl #[.slice A0 l0.length c0, .int .i64 4] rfl ml_ ?_; (with_reducible refine (laws_at.calls _ _ l0 4 t285 _ ?side1 ?side2 A87.out).mono ?_); (case side1 => repeat (first | exact (Kd.C_below HR0.out HB.out) | (with_reducible refine Kd.C_alloc ?_ _) | (with_reducible refine Kd.C_drewN ?_ _) | (with_reducible refine Kd.C_drew ?_))); (case side2 => exact HC0.out); rintro e w' ⟨rfl, ⟨nd, rfl⟩⟩; refine ⟨_, rfl, ?_⟩) | ((with_reducible refine gate_dst (N := 200) rfl ?_); (try (refine gate_guard (by rfl) ?_; dsimp only)); refine Kd.R_lit (Kd.int .i64) _ 3 ?hg (N := 200) ?hd (xs := ([(ji89)] : List Int)) (inner := [.int .i64 (ji89)]) (ok := fun _ => True) (okp := fun _ => True) ?hr ?hp (fun _ hk => hk) trivial (Below.refl _ _) (Nat.le_refl _) (by simp) ?_; (case hd => rfl); (case hg => rfl); (case hr => first | (go_simp; done) | (go_simp; rfl)); (case hp => exact (Reps.one (show Kd.M (Kd.int .i64) _ _ _ (ji89) [.int .i64 (ji89)] from rfl) (Reps.none _ _))); intro v287 w95 ho96 hb hg_ hnew_; clear hg_ hnew_; (first | rw [← Ny286.out] at ho96 | (simp only [Int.reduceToNat] at ho96; rw [← Ny286.out] at ho96)); have n0_ := Aside0.mk (Kd.R_below (fr_ HO_3.out) hb); have n1_ := Aside0.mk (Kd.R_lower ho96 (below_size (bel_ HB.out))); have n2_ := Aside0.mk (below_step (bel_ HB.out) hb); clear HO_3; clear HB; have HO_3 := n0_; have HO288 := n1_; have HB := n2_; clear n0_ n1_ n2_; clear hb ho96; obtain ⟨Ao97, co97, eo97⟩ := Kd.R_slice HO288.out; subst eo97) | ((with_reducible refine gate_callee (f := 14) rfl ?_); refine goesL_ (some 202) rfl rfl Try.func14 (by kernel_rfl) rfl #[.slice Ao21 t245.length co21, .slice Ao97 y286.length co97, .int .i64 (wrap64 (1 + (Int.tmod t285 10)))] rfl ml_ ?_; (with_reducible refine (impl_Load22.calls kj69 _ _ t245 _ _ y286 (wrap64 (1 + (Int.tmod t285 10))) t289 t290 _ ?side1 ?side2 ?side3 ?side4 A88.out).mono ?_); (case side1 => exact rc_ (Kd.R_reads' HO_3.out).2.2); (case side2 => exact (Kd.R_reads' HO_3.out).2.1); (case side3 => exact rc_ (Kd.R_reads' HO288.out).2.2); (case side4 => exact (Kd.R_reads' HO288.out).2.1); rintro e w98 ⟨v291, rfl, ho0, hb⟩; refine ⟨_, rfl, ?_⟩; have n0_ := Aside0.mk (Kd.R_elder' (fr_ HO_3.out) (Kd.R_base ho0) hb); have n1_ := Aside0.mk (Kd.R_below (fr_ HO288.out) hb); have n2_ := Aside0.mk (Kd.R_lower (Kd.R_new' ho0 (Kd.R_lt (fr_ HO_3.out))) (below_size (bel_ HB.out))); have n3_ := Aside0.mk (below_step (bel_ HB.out) hb); clear HO_3; clear HO288; clear HB; have HO_3 := n0_; have HO288 := n1_; have HO292 := n2_; have HB := n3_; clear n0_ n1_ n2_ n3_; (try clear hb); (try clear hb2); (try clear hk); (try clear hi); (try clear ho0); have p293 : 0 ≤ ((ji89) : Int) := of_decide_eq_true (by first | (with_reducible assumption) | assumption); have q293 : (ji89) < (t245.length : Int) := of_decide_eq_true (by first | (with_reducible assumption) | assumption); obtain ⟨ad293, e293, hx293_0, hx293_1, hx293_2, hx293_3, hx293_4, hx293_5⟩ := at_T31 (Kd.R_reads' HO_3.out).2.2 (ji89) p293 q293; cases e293; replace p293 := eq_true p293; replace q293 := eq_true q293))
                 have n0_ := Aside0.mk (Kd.R_drew HO_3.out)
                 have n1_ := Aside0.mk (Kd.R_drew HO288.out)
                 have n2_ := Aside0.mk (Kd.R_drew HO292.out)
                 have n3_ := Aside0.mk (below_drew1 HB.out)
                 clear HO_3
                 clear HO288
                 clear HO292
                 clear HB
                 have HO_3 := n0_
                 have HO288 := n1_
                 have HO292 := n2_
                 have HB := n3_
                 clear n0_ n1_ n2_ n3_
                 obtain ⟨Ao100, co100, eo100⟩ := Kd.R_slice HO292.out
                 (first | subst eo100 | (injection eo100 with f1_ f2_ f3_; have f4_ := f1_.symm; have f5_ := f3_.symm; clear f1_ f2_ f3_; subst f4_; subst f5_))
                 have p294 : 0 ≤ ((ji89) : Int) := of_decide_eq_true (by first | (with_reducible assumption) | assumption)
                 have q294 : (ji89) < (t289.length : Int) := of_decide_eq_true (by first | (with_reducible assumption) | assumption)
                 obtain ⟨ad294, e294, hx294_0, hx294_1, hx294_2, hx294_3, hx294_4, hx294_5⟩ := at_T31 (Kd.R_reads' HO292.out).2.2 (ji89) p294 q294
                 cases e294
                 replace p294 := eq_true p294
                 replace q294 := eq_true q294
                 have p295 : 0 ≤ ((ji89) : Int) := of_decide_eq_true (by first | (with_reducible assumption) | assumption)
                 have q295 : (ji89) < (t245.length : Int) := of_decide_eq_true (by first | (with_reducible assumption) | assumption)
                 obtain ⟨ad295, e295, hx295_0, hx295_1, hx295_2, hx295_3, hx295_4, hx295_5⟩ := at_T31 (Kd.R_reads' HO_3.out).2.2 (ji89) p295 q295
                 obtain rfl : ad293 = ad295 := (by injection e295)
                 replace p295 := eq_true p295
                 replace q295 := eq_true q295
                 refine start_ (n := 16) (S := fun w' => w'.cell? (ad294.add (((ji89)).toNat * 6)) = some (.int .i64 ((rd_T31 t289 (ji89)).f0)) ∧ w'.cell? ⟨(ad294.add (((ji89)).toNat * 6)).block, (ad294.add (((ji89)).toNat * 6)).off + 1, none⟩ = some (.int .i64 ((rd_T31 t289 (ji89)).f1)) ∧ w'.cell? ⟨(ad294.add (((ji89)).toNat * 6)).block, (ad294.add (((ji89)).toNat * 6)).off + 2, none⟩ = some (.int .i64 ((rd_T31 t289 (ji89)).f2)) ∧ w'.cell? ⟨(ad294.add (((ji89)).toNat * 6)).block, (ad294.add (((ji89)).toNat * 6)).off + 3, none⟩ = some (.int .i64 ((rd_T31 t289 (ji89)).f3)) ∧ w'.cell? ⟨(ad294.add (((ji89)).toNat * 6)).block, (ad294.add (((ji89)).toNat * 6)).off + 4, none⟩ = some (.int .i64 ((rd_T31 t289 (ji89)).f4)) ∧ w'.cell? ⟨(ad294.add (((ji89)).toNat * 6)).block, (ad294.add (((ji89)).toNat * 6)).off + 5, none⟩ = some (.int .i64 ((rd_T31 t289 (ji89)).f5)) ∧ w'.cell? (ad293.add (((ji89)).toNat * 6)) = some (.int .i64 ((rd_T31 t245 (ji89)).f0)) ∧ w'.cell? ⟨(ad293.add (((ji89)).toNat * 6)).block, (ad293.add (((ji89)).toNat * 6)).off + 1, none⟩ = some (.int .i64 ((rd_T31 t245 (ji89)).f1)) ∧ w'.cell? ⟨(ad293.add (((ji89)).toNat * 6)).block, (ad293.add (((ji89)).toNat * 6)).off + 2, none⟩ = some (.int .i64 ((rd_T31 t245 (ji89)).f2)) ∧ w'.cell? ⟨(ad293.add (((ji89)).toNat * 6)).block, (ad293.add (((ji89)).toNat * 6)).off + 3, none⟩ = some (.int .i64 ((rd_T31 t245 (ji89)).f3)) ∧ w'.cell? ⟨(ad293.add (((ji89)).toNat * 6)).block, (ad293.add (((ji89)).toNat * 6)).off + 4, none⟩ = some (.int .i64 ((rd_T31 t245 (ji89)).f4)) ∧ w'.cell? ⟨(ad293.add (((ji89)).toNat * 6)).block, (ad293.add (((ji89)).toNat * 6)).off + 5, none⟩ = some (.int .i64 ((rd_T31 t245 (ji89)).f5))) (ds := []) (bs 16 0) (by kernel_rfl) rfl rfl ⟨hx294_0, hx294_1, hx294_2, hx294_3, hx294_4, hx294_5, hx295_0, hx295_1, hx295_2, hx295_3, hx295_4, hx295_5⟩ (fun hHeld => ?_); refine with_tabW laws_FnDelays.tab23 laws_FnDelays.bits23 (fun HT_ HW_ => ?_)
                 generalize w98.drew = w99 at HO_3 HO288 HO292 HB hx294_0 hx294_1 hx294_2 hx294_3 hx294_4 hx294_5 hx295_0 hx295_1 hx295_2 hx295_3 hx295_4 hx295_5 hHeld ⊢
                 refine pu_ 0 212 HT_ (bs 16 1) rfl rfl ?_
                 refine pu_ 1 213 HT_ (bs 16 3) rfl rfl ?_
                 refine pu_ 2 214 HT_ (bs 16 7) rfl rfl ?_
                 refine pu_ 3 215 HT_ (bs 16 15) rfl rfl ?_
                 refine pu_ 4 216 HT_ (bs 16 31) rfl rfl ?_
                 refine pu_ 5 217 HT_ (bs 16 63) rfl rfl ?_
                 refine pu_ 6 218 HT_ (bs 16 127) rfl rfl ?_
                 refine pu_ 8 220 HT_ (bs 16 383) rfl rfl ?_
                 refine pu_ 9 221 HT_ (bs 16 895) rfl rfl ?_
                 refine pu_ 10 222 HT_ (bs 16 1919) rfl rfl ?_
                 refine pu_ 11 223 HT_ (bs 16 3967) rfl rfl ?_
                 refine take_ (i := 7) (N := some 219) (v := ?_) (a' := ?_) (bs 16 4095) rfl rfl (take_ofW HT_.out HW_.out (by kernel_rfl)) (fun _ _ _ h => h) (Or.inl ⟨by rfl, ?_⟩) hHeld ?_ ?_
                 rotate_left
                 ·rintro w' ⟨s0, s1, s2, s3, s4, s5, s6, s7, s8, s9, s10, s11⟩
                  go_simp
                  with_reducible rfl
                 rotate_left
                 ·simp only [Act.put, sA_, sZ_, sS_, i64_w, i32_w]
                  rfl
                 refine take_ (i := 12) (N := some 224) (v := ?_) (a' := ?_) (bs 16 8191) rfl rfl (take_ofW HT_.out HW_.out (by kernel_rfl)) (fun _ _ _ h => h) (Or.inl ⟨by rfl, ?_⟩) hHeld ?_ ?_
                 rotate_left
                 ·rintro w' ⟨s0, s1, s2, s3, s4, s5, s6, s7, s8, s9, s10, s11⟩
                  go_simp
                  with_reducible rfl
                 rotate_left
                 ·simp only [Act.put, sA_, sZ_, sS_, i64_w, i32_w]
                  rfl
                 refine pu_ 13 225 HT_ (bs 16 16383) rfl rfl ?_
                 refine pu_ 14 226 HT_ (bs 16 32767) rfl rfl ?_
                 refine pu_ 15 2 HT_ (bs 16 65535) rfl rfl ?_
                 refine done_ (done_of HT_.out (by kernel_rfl)) ?_
                 try go_wp2
                 go_ret
                 exact ⟨by first | rfl | (simp [errW_none, errW_some] <;> rfl) | (simp only [← hji89]; first | rfl | (simp [errW_none, errW_some] <;> rfl)) | (simp [*, errW_none, errW_some] <;> rfl), bel_ HB.out⟩
                ·rw [if_neg c94] at H
                 exact absurd H (by simp)
               ·rw [if_neg c93] at H
                have c93b0 : (t290 == 3) = false := beq_eq_false_iff_ne.mpr c93
                have c93b1 : (t290 != 3) = true := bne_iff_ne.mpr c93
                obtain rfl := Option.some.inj H
                try go_wp2_with (first | ((with_reducible refine gate_callee (f := 11) rfl ?_); refine goesL_ (some 194) rfl rfl Try.func11 (by kernel_rfl) rfl #[.slice A0 l0.length c0, .int .i64 4] rfl ml_ ?_; (with_reducible refine (laws_at.calls _ _ l0 4 t285 _ ?side1 ?side2 A87.out).mono ?_); (case side1 => repeat (first | exact (Kd.C_below HR0.out HB.out) | (with_reducible refine Kd.C_alloc ?_ _) | (with_reducible refine Kd.C_drewN ?_ _) | (with_reducible refine Kd.C_drew ?_))); (case side2 => exact HC0.out); rintro e w' ⟨rfl, ⟨nd, rfl⟩⟩; refine ⟨_, rfl, ?_⟩) | ((with_reducible refine gate_dst (N := 200) rfl ?_); (try (refine gate_guard (by rfl) ?_; dsimp only)); refine Kd.R_lit (Kd.int .i64) _ 3 ?hg (N := 200) ?hd (xs := ([(ji89)] : List Int)) (inner := [.int .i64 (ji89)]) (ok := fun _ => True) (okp := fun _ => True) ?hr ?hp (fun _ hk => hk) trivial (Below.refl _ _) (Nat.le_refl _) (by simp) ?_; (case hd => rfl); (case hg => rfl); (case hr => first | (go_simp; done) | (go_simp; rfl)); (case hp => exact (Reps.one (show Kd.M (Kd.int .i64) _ _ _ (ji89) [.int .i64 (ji89)] from rfl) (Reps.none _ _))); intro v287 w101 ho102 hb hg_ hnew_; clear hg_ hnew_; (first | rw [← Ny286.out] at ho102 | (simp only [Int.reduceToNat] at ho102; rw [← Ny286.out] at ho102)); have n0_ := Aside0.mk (Kd.R_below (fr_ HO_3.out) hb); have n1_ := Aside0.mk (Kd.R_lower ho102 (below_size (bel_ HB.out))); have n2_ := Aside0.mk (below_step (bel_ HB.out) hb); clear HO_3; clear HB; have HO_3 := n0_; have HO288 := n1_; have HB := n2_; clear n0_ n1_ n2_; clear hb ho102; obtain ⟨Ao103, co103, eo103⟩ := Kd.R_slice HO288.out; subst eo103) | ((with_reducible refine gate_callee (f := 14) rfl ?_); refine goesL_ (some 202) rfl rfl Try.func14 (by kernel_rfl) rfl #[.slice Ao21 t245.length co21, .slice Ao103 y286.length co103, .int .i64 (wrap64 (1 + (Int.tmod t285 10)))] rfl ml_ ?_; (with_reducible refine (impl_Load22.calls kj69 _ _ t245 _ _ y286 (wrap64 (1 + (Int.tmod t285 10))) t289 t290 _ ?side1 ?side2 ?side3 ?side4 A88.out).mono ?_); (case side1 => exact rc_ (Kd.R_reads' HO_3.out).2.2); (case side2 => exact (Kd.R_reads' HO_3.out).2.1); (case side3 => exact rc_ (Kd.R_reads' HO288.out).2.2); (case side4 => exact (Kd.R_reads' HO288.out).2.1); rintro e w104 ⟨v291, rfl, ho0, hb⟩; refine ⟨_, rfl, ?_⟩; have n0_ := Aside0.mk (Kd.R_elder' (fr_ HO_3.out) (Kd.R_base ho0) hb); have n1_ := Aside0.mk (Kd.R_below (fr_ HO288.out) hb); have n2_ := Aside0.mk (Kd.R_lower (Kd.R_new' ho0 (Kd.R_lt (fr_ HO_3.out))) (below_size (bel_ HB.out))); have n3_ := Aside0.mk (below_step (bel_ HB.out) hb); clear HO_3; clear HO288; clear HB; have HO_3 := n0_; have HO288 := n1_; have HO292 := n2_; have HB := n3_; clear n0_ n1_ n2_ n3_; (try clear hb); (try clear hb2); (try clear hk); (try clear hi); (try clear ho0); have p293 : 0 ≤ ((ji89) : Int) := of_decide_eq_true (by first | (with_reducible assumption) | assumption); have q293 : (ji89) < (t245.length : Int) := of_decide_eq_true (by first | (with_reducible assumption) | assumption); obtain ⟨ad293, e293, hx293_0, hx293_1, hx293_2, hx293_3, hx293_4, hx293_5⟩ := at_T31 (Kd.R_reads' HO_3.out).2.2 (ji89) p293 q293; cases e293; replace p293 := eq_true p293; replace q293 := eq_true q293))
                have n0_ := Aside0.mk (Kd.R_drew HO_3.out)
                have n1_ := Aside0.mk (Kd.R_drew HO288.out)
                have n2_ := Aside0.mk (Kd.R_drew HO292.out)
                have n3_ := Aside0.mk (below_drew1 HB.out)
                clear HO_3
                clear HO288
                clear HO292
                clear HB
                have HO_3 := n0_
                have HO288 := n1_
                have HO292 := n2_
                have HB := n3_
                clear n0_ n1_ n2_ n3_
                refine start_ (n := 16) (S := fun w' => True) (ds := []) (bs 16 0) (by kernel_rfl) rfl rfl trivial (fun hHeld => ?_); refine with_tabW laws_FnDelays.tab23 laws_FnDelays.bits23 (fun HT_ HW_ => ?_)
                generalize w104.drew = w105 at HO_3 HO288 HO292 HB hHeld ⊢
                refine pu_ 0 212 HT_ (bs 16 1) rfl rfl ?_
                refine pu_ 1 213 HT_ (bs 16 3) rfl rfl ?_
                refine pu_ 2 214 HT_ (bs 16 7) rfl rfl ?_
                refine pn_ 3 215 HT_ (bs 16 15) rfl rfl ?_
                refine pn_ 4 216 HT_ (bs 16 31) rfl rfl ?_
                refine pn_ 5 217 HT_ (bs 16 63) rfl rfl ?_
                refine pn_ 6 218 HT_ (bs 16 127) rfl rfl ?_
                refine pn_ 7 219 HT_ (bs 16 255) rfl rfl ?_
                refine pn_ 8 220 HT_ (bs 16 511) rfl rfl ?_
                refine pn_ 9 221 HT_ (bs 16 1023) rfl rfl ?_
                refine pn_ 10 222 HT_ (bs 16 2047) rfl rfl ?_
                refine pn_ 11 223 HT_ (bs 16 4095) rfl rfl ?_
                refine pn_ 12 224 HT_ (bs 16 8191) rfl rfl ?_
                refine pn_ 13 225 HT_ (bs 16 16383) rfl rfl ?_
                refine pu_ 14 226 HT_ (bs 16 32767) rfl rfl ?_
                refine pu_ 15 2 HT_ (bs 16 65535) rfl rfl ?_
                refine done_ (done_of HT_.out (by kernel_rfl)) ?_
                try go_wp2
                go_ret
                exact ⟨by first | rfl | (simp [errW_none, errW_some] <;> rfl) | (simp only [← hji89]; first | rfl | (simp [errW_none, errW_some] <;> rfl)) | (simp [*, errW_none, errW_some] <;> rfl), bel_ HB.out⟩
              ·rw [if_neg c92] at H
               have c92b0 : decide (((rd_T31 t245 (ji89)).f5) < (wrap64 (1 + (Int.tmod t285 10)))) = false := decide_eq_false c92
               clear c92
               have H' := Aside0.mk H
               clear H
               go_wp2_with (first | ((with_reducible refine gate_callee (f := 11) rfl ?_); refine goesL_ (some 194) rfl rfl Try.func11 (by kernel_rfl) rfl #[.slice A0 l0.length c0, .int .i64 4] rfl ml_ ?_; (with_reducible refine (laws_at.calls _ _ l0 4 t285 _ ?side1 ?side2 A87.out).mono ?_); (case side1 => repeat (first | exact (Kd.C_below HR0.out HB.out) | (with_reducible refine Kd.C_alloc ?_ _) | (with_reducible refine Kd.C_drewN ?_ _) | (with_reducible refine Kd.C_drew ?_))); (case side2 => exact HC0.out); rintro e w' ⟨rfl, ⟨nd, rfl⟩⟩; refine ⟨_, rfl, ?_⟩) | ((with_reducible refine gate_dst (N := 200) rfl ?_); (try (refine gate_guard (by rfl) ?_; dsimp only)); refine Kd.R_lit (Kd.int .i64) _ 3 ?hg (N := 200) ?hd (xs := ([(ji89)] : List Int)) (inner := [.int .i64 (ji89)]) (ok := fun _ => True) (okp := fun _ => True) ?hr ?hp (fun _ hk => hk) trivial (Below.refl _ _) (Nat.le_refl _) (by simp) ?_; (case hd => rfl); (case hg => rfl); (case hr => first | (go_simp; done) | (go_simp; rfl)); (case hp => exact (Reps.one (show Kd.M (Kd.int .i64) _ _ _ (ji89) [.int .i64 (ji89)] from rfl) (Reps.none _ _))); intro v287 w106 ho107 hb hg_ hnew_; clear hg_ hnew_; (first | rw [← Ny286.out] at ho107 | (simp only [Int.reduceToNat] at ho107; rw [← Ny286.out] at ho107)); have n0_ := Aside0.mk (Kd.R_below (fr_ HO_3.out) hb); have n1_ := Aside0.mk (Kd.R_lower ho107 (below_size (bel_ HB.out))); have n2_ := Aside0.mk (below_step (bel_ HB.out) hb); clear HO_3; clear HB; have HO_3 := n0_; have HO288 := n1_; have HB := n2_; clear n0_ n1_ n2_; clear hb ho107; obtain ⟨Ao108, co108, eo108⟩ := Kd.R_slice HO288.out; subst eo108) | ((with_reducible refine gate_callee (f := 14) rfl ?_); refine goesL_ (some 202) rfl rfl Try.func14 (by kernel_rfl) rfl #[.slice Ao21 t245.length co21, .slice Ao108 y286.length co108, .int .i64 (wrap64 (1 + (Int.tmod t285 10)))] rfl ml_ ?_; (with_reducible refine (impl_Load22.calls kj69 _ _ t245 _ _ y286 (wrap64 (1 + (Int.tmod t285 10))) t289 t290 _ ?side1 ?side2 ?side3 ?side4 A88.out).mono ?_); (case side1 => exact rc_ (Kd.R_reads' HO_3.out).2.2); (case side2 => exact (Kd.R_reads' HO_3.out).2.1); (case side3 => exact rc_ (Kd.R_reads' HO288.out).2.2); (case side4 => exact (Kd.R_reads' HO288.out).2.1); rintro e w109 ⟨v291, rfl, ho0, hb⟩; refine ⟨_, rfl, ?_⟩; have n0_ := Aside0.mk (Kd.R_elder' (fr_ HO_3.out) (Kd.R_base ho0) hb); have n1_ := Aside0.mk (Kd.R_below (fr_ HO288.out) hb); have n2_ := Aside0.mk (Kd.R_lower (Kd.R_new' ho0 (Kd.R_lt (fr_ HO_3.out))) (below_size (bel_ HB.out))); have n3_ := Aside0.mk (below_step (bel_ HB.out) hb); clear HO_3; clear HO288; clear HB; have HO_3 := n0_; have HO288 := n1_; have HO292 := n2_; have HB := n3_; clear n0_ n1_ n2_ n3_; (try clear hb); (try clear hb2); (try clear hk); (try clear hi); (try clear ho0); have p293 : 0 ≤ ((ji89) : Int) := of_decide_eq_true (by first | (with_reducible assumption) | assumption); have q293 : (ji89) < (t245.length : Int) := of_decide_eq_true (by first | (with_reducible assumption) | assumption); obtain ⟨ad293, e293, hx293_0, hx293_1, hx293_2, hx293_3, hx293_4, hx293_5⟩ := at_T31 (Kd.R_reads' HO_3.out).2.2 (ji89) p293 q293; cases e293; replace p293 := eq_true p293; replace q293 := eq_true q293))
               go_loopg [17] kj69 (fun kq v17 w' => ∃ (x17_4 : Int), v17 = .int .i64 x17_4 ∧ Aside0 (laws_FnDelays.l1 kq t245 (ji89) (wrap64 (1 + (Int.tmod t285 10))) t289 t290 x17_4 = some r) ∧ Aside0 (kq ≤ kj69) ∧ Aside0 (Kd.R k31 31 w' w.heap.size (fun k_ => some k_ ≠ (v291 : Value).ownBlock) (.slice (some ad293) t245.length co21) t245) ∧ Aside0 (Kd.R k31 31 w' w.heap.size (fun k_ => some k_ ≠ ((.slice (some ad293) t245.length co21) : Value).ownBlock) v291 t289) ∧ Aside0 (Below w.heap.size w w'))
               case atStart => exact ⟨(0), (by first | rfl | (simp; done) | (simp [*]; done) | (simp [wrap64]; done)), H', ⟨Nat.le_refl _⟩, ⟨by (with_reducible repeat (first | apply Kd.R_alloc | apply Kd.R_drewN | apply Kd.R_drew)); exact Kd.R_mono HO_3.out (fun _ hk => hk.2)⟩, ⟨by (with_reducible repeat (first | apply Kd.R_alloc | apply Kd.R_drewN | apply Kd.R_drew)); exact Kd.R_mono HO292.out (fun _ hk => hk.2)⟩, ⟨bel_ HB.out⟩⟩
               case round =>
                clear H'
                try clear c42
                try clear c42b0
                try clear c86
                try clear c90
                try clear c90b0
                try clear c91
                try clear c91b0
                try clear c92
                try clear c92b0
                try clear hx293_0
                try clear hx293_1
                try clear hx293_2
                try clear hx293_3
                try clear hx293_4
                try clear hx293_5
                try clear p293
                try clear q293
                obtain ⟨x17_4, rfl, HA, HK4, HO_3, HO_15, HB⟩ := hrel
                cases gk with
                | zero => exact absurd HA.out (by simp [laws_FnDelays.l1])
                | succ k4 =>
                 have H := HA.out
                 clear HA
                 simp only [laws_FnDelays.l1] at H
                 by_cases c110 : x17_4 < (t289.length : Int)
                 ·as_aux_lemma =>
                  rw [if_pos c110] at H
                  have c110b0 : decide (x17_4 < (t289.length : Int)) = true := decide_eq_true c110
                  clear c110
                  by_cases c111 : x17_4 = (ji89)
                  ·rw [if_pos c111] at H
                   have c111b0 : (x17_4 == (ji89)) = true := beq_iff_eq.mpr c111
                   have c111b1 : (x17_4 != (ji89)) = false := bne_eq_false_iff_eq.mpr c111
                   clear c111
                   have H' := Aside0.mk H
                   clear H
                   obtain ⟨Ao112, co112, eo112⟩ := Kd.R_slice HO_15.out
                   subst eo112
                   try go_wp2
                   have n0_ := Aside0.mk (Kd.R_drew HO_3.out)
                   have n1_ := Aside0.mk (Kd.R_drew HO_15.out)
                   have n2_ := Aside0.mk (below_drew1 HB.out)
                   clear HO_3
                   clear HO_15
                   clear HB
                   have HO_3 := n0_
                   have HO_15 := n1_
                   have HB := n2_
                   clear n0_ n1_ n2_
                   refine start_ (n := 14) (S := fun w' => True) (ds := []) (bs 14 0) (by kernel_rfl) rfl rfl trivial (fun hHeld => ?_); refine with_tabW laws_FnDelays.tab27 laws_FnDelays.bits27 (fun HT_ HW_ => ?_)
                   generalize wr.drew = w113 at HO_3 HO_15 HB hHeld ⊢
                   refine pu_ 0 233 HT_ (bs 14 1) rfl rfl ?_
                   refine pu_ 1 234 HT_ (bs 14 3) rfl rfl ?_
                   refine pu_ 2 235 HT_ (bs 14 7) rfl rfl ?_
                   refine pu_ 3 236 HT_ (bs 14 15) rfl rfl ?_
                   refine pn_ 4 237 HT_ (bs 14 31) rfl rfl ?_
                   refine pn_ 5 238 HT_ (bs 14 63) rfl rfl ?_
                   refine pn_ 6 239 HT_ (bs 14 127) rfl rfl ?_
                   refine pn_ 7 240 HT_ (bs 14 255) rfl rfl ?_
                   refine pn_ 8 241 HT_ (bs 14 511) rfl rfl ?_
                   refine pn_ 9 242 HT_ (bs 14 1023) rfl rfl ?_
                   refine pn_ 10 243 HT_ (bs 14 2047) rfl rfl ?_
                   refine pn_ 11 244 HT_ (bs 14 4095) rfl rfl ?_
                   refine pn_ 12 245 HT_ (bs 14 8191) rfl rfl ?_
                   refine pu_ 13 246 HT_ (bs 14 16383) rfl rfl ?_
                   refine done_ (done_of HT_.out (by kernel_rfl)) ?_
                   try go_wp2
                   (first | go_roundg k4 | (simp only [← hji89]; go_roundg k4))
                   case measure => have := HJ18.out; have := HK2.out; have := HJ69.out; have := HK4.out; omega
                   case rel => exact ⟨(wrap64 (x17_4 + 1)), (by first | rfl | (simp; done) | (simp [*]; done) | (simp [wrap64]; done)), H', ⟨by have := HJ18.out; have := HK2.out; have := HJ69.out; have := HK4.out; omega⟩, ⟨by (with_reducible repeat (first | apply Kd.R_alloc | apply Kd.R_drewN | apply Kd.R_drew)); exact HO_3.out⟩, ⟨by (with_reducible repeat (first | apply Kd.R_alloc | apply Kd.R_drewN | apply Kd.R_drew)); exact HO_15.out⟩, ⟨bel_ HB.out⟩⟩
                  ·rw [if_neg c111] at H
                   have c111b0 : (x17_4 == (ji89)) = false := beq_eq_false_iff_ne.mpr c111
                   have c111b1 : (x17_4 != (ji89)) = true := bne_iff_ne.mpr c111
                   by_cases c114 : 0 ≤ x17_4
                   ·rw [if_pos c114] at H
                    have c114b0 : decide (0 ≤ x17_4) = true := decide_eq_true c114
                    clear c114
                    by_cases c115 : x17_4 < (t245.length : Int)
                    ·rw [if_pos c115] at H
                     have c115b0 : decide (x17_4 < (t245.length : Int)) = true := decide_eq_true c115
                     clear c115
                     by_cases c116 : (!(((rd_T31 t289 x17_4).f0) == ((rd_T31 t245 x17_4).f0)) || (!(((rd_T31 t289 x17_4).f1) == ((rd_T31 t245 x17_4).f1)) || (!(((rd_T31 t289 x17_4).f2) == ((rd_T31 t245 x17_4).f2)) || (!(((rd_T31 t289 x17_4).f3) == ((rd_T31 t245 x17_4).f3)) || (!(((rd_T31 t289 x17_4).f4) == ((rd_T31 t245 x17_4).f4)) || (!(((rd_T31 t289 x17_4).f5) == ((rd_T31 t245 x17_4).f5)))))))) = true
                     ·rw [if_pos c116] at H
                      have c116b0 : (!(((rd_T31 t289 x17_4).f0) == ((rd_T31 t245 x17_4).f0)) || (!(((rd_T31 t289 x17_4).f1) == ((rd_T31 t245 x17_4).f1)) || (!(((rd_T31 t289 x17_4).f2) == ((rd_T31 t245 x17_4).f2)) || (!(((rd_T31 t289 x17_4).f3) == ((rd_T31 t245 x17_4).f3)) || (!(((rd_T31 t289 x17_4).f4) == ((rd_T31 t245 x17_4).f4)) || (!(((rd_T31 t289 x17_4).f5) == ((rd_T31 t245 x17_4).f5)))))))) = true := c116
                      clear c116
                      obtain rfl := Option.some.inj H
                      obtain ⟨Ao117, co117, eo117⟩ := Kd.R_slice HO_15.out
                      subst eo117
                      try go_wp2
                      have n0_ := Aside0.mk (Kd.R_drew HO_3.out)
                      have n1_ := Aside0.mk (Kd.R_drew HO_15.out)
                      have n2_ := Aside0.mk (below_drew1 HB.out)
                      clear HO_3
                      clear HO_15
                      clear HB
                      have HO_3 := n0_
                      have HO_15 := n1_
                      have HB := n2_
                      clear n0_ n1_ n2_
                      have p296 : 0 ≤ (x17_4 : Int) := of_decide_eq_true (by first | (with_reducible assumption) | assumption)
                      have q296 : x17_4 < (t289.length : Int) := of_decide_eq_true (by first | (with_reducible assumption) | assumption)
                      obtain ⟨ad296, e296, hx296_0, hx296_1, hx296_2, hx296_3, hx296_4, hx296_5⟩ := at_T31 (Kd.R_reads' HO_15.out).2.2 x17_4 p296 q296
                      cases e296
                      replace p296 := eq_true p296
                      replace q296 := eq_true q296
                      have p297 : 0 ≤ (x17_4 : Int) := of_decide_eq_true (by first | (with_reducible assumption) | assumption)
                      have q297 : x17_4 < (t245.length : Int) := of_decide_eq_true (by first | (with_reducible assumption) | assumption)
                      obtain ⟨ad297, e297, hx297_0, hx297_1, hx297_2, hx297_3, hx297_4, hx297_5⟩ := at_T31 (Kd.R_reads' HO_3.out).2.2 x17_4 p297 q297
                      obtain rfl : ad293 = ad297 := (by injection e297)
                      replace p297 := eq_true p297
                      replace q297 := eq_true q297
                      refine start_ (n := 14) (S := fun w' => w'.cell? (ad296.add ((x17_4).toNat * 6)) = some (.int .i64 ((rd_T31 t289 x17_4).f0)) ∧ w'.cell? ⟨(ad296.add ((x17_4).toNat * 6)).block, (ad296.add ((x17_4).toNat * 6)).off + 1, none⟩ = some (.int .i64 ((rd_T31 t289 x17_4).f1)) ∧ w'.cell? ⟨(ad296.add ((x17_4).toNat * 6)).block, (ad296.add ((x17_4).toNat * 6)).off + 2, none⟩ = some (.int .i64 ((rd_T31 t289 x17_4).f2)) ∧ w'.cell? ⟨(ad296.add ((x17_4).toNat * 6)).block, (ad296.add ((x17_4).toNat * 6)).off + 3, none⟩ = some (.int .i64 ((rd_T31 t289 x17_4).f3)) ∧ w'.cell? ⟨(ad296.add ((x17_4).toNat * 6)).block, (ad296.add ((x17_4).toNat * 6)).off + 4, none⟩ = some (.int .i64 ((rd_T31 t289 x17_4).f4)) ∧ w'.cell? ⟨(ad296.add ((x17_4).toNat * 6)).block, (ad296.add ((x17_4).toNat * 6)).off + 5, none⟩ = some (.int .i64 ((rd_T31 t289 x17_4).f5)) ∧ w'.cell? (ad293.add ((x17_4).toNat * 6)) = some (.int .i64 ((rd_T31 t245 x17_4).f0)) ∧ w'.cell? ⟨(ad293.add ((x17_4).toNat * 6)).block, (ad293.add ((x17_4).toNat * 6)).off + 1, none⟩ = some (.int .i64 ((rd_T31 t245 x17_4).f1)) ∧ w'.cell? ⟨(ad293.add ((x17_4).toNat * 6)).block, (ad293.add ((x17_4).toNat * 6)).off + 2, none⟩ = some (.int .i64 ((rd_T31 t245 x17_4).f2)) ∧ w'.cell? ⟨(ad293.add ((x17_4).toNat * 6)).block, (ad293.add ((x17_4).toNat * 6)).off + 3, none⟩ = some (.int .i64 ((rd_T31 t245 x17_4).f3)) ∧ w'.cell? ⟨(ad293.add ((x17_4).toNat * 6)).block, (ad293.add ((x17_4).toNat * 6)).off + 4, none⟩ = some (.int .i64 ((rd_T31 t245 x17_4).f4)) ∧ w'.cell? ⟨(ad293.add ((x17_4).toNat * 6)).block, (ad293.add ((x17_4).toNat * 6)).off + 5, none⟩ = some (.int .i64 ((rd_T31 t245 x17_4).f5))) (ds := []) (bs 14 0) (by kernel_rfl) rfl rfl ⟨hx296_0, hx296_1, hx296_2, hx296_3, hx296_4, hx296_5, hx297_0, hx297_1, hx297_2, hx297_3, hx297_4, hx297_5⟩ (fun hHeld => ?_); refine with_tabW laws_FnDelays.tab27 laws_FnDelays.bits27 (fun HT_ HW_ => ?_)
                      generalize wr.drew = w118 at HO_3 HO_15 HB hx296_0 hx296_1 hx296_2 hx296_3 hx296_4 hx296_5 hx297_0 hx297_1 hx297_2 hx297_3 hx297_4 hx297_5 hHeld ⊢
                      refine pu_ 0 233 HT_ (bs 14 1) rfl rfl ?_
                      refine pu_ 1 234 HT_ (bs 14 3) rfl rfl ?_
                      refine pu_ 2 235 HT_ (bs 14 7) rfl rfl ?_
                      refine pu_ 3 236 HT_ (bs 14 15) rfl rfl ?_
                      refine pu_ 4 237 HT_ (bs 14 31) rfl rfl ?_
                      refine pu_ 5 238 HT_ (bs 14 63) rfl rfl ?_
                      refine pu_ 6 239 HT_ (bs 14 127) rfl rfl ?_
                      refine pu_ 8 241 HT_ (bs 14 383) rfl rfl ?_
                      refine pu_ 9 242 HT_ (bs 14 895) rfl rfl ?_
                      refine pu_ 10 243 HT_ (bs 14 1919) rfl rfl ?_
                      refine take_ (i := 7) (N := some 240) (v := ?_) (a' := ?_) (bs 14 2047) rfl rfl (take_ofW HT_.out HW_.out (by kernel_rfl)) (fun _ _ _ h => h) (Or.inl ⟨by rfl, ?_⟩) hHeld ?_ ?_
                      rotate_left
                      ·rintro w' ⟨s0, s1, s2, s3, s4, s5, s6, s7, s8, s9, s10, s11⟩
                       go_simp
                       with_reducible rfl
                      rotate_left
                      ·simp only [Act.put, sA_, sZ_, sS_, i64_w, i32_w]
                       rfl
                      refine take_ (i := 11) (N := some 244) (v := ?_) (a' := ?_) (bs 14 4095) rfl rfl (take_ofW HT_.out HW_.out (by kernel_rfl)) (fun _ _ _ h => h) (Or.inl ⟨by rfl, ?_⟩) hHeld ?_ ?_
                      rotate_left
                      ·rintro w' ⟨s0, s1, s2, s3, s4, s5, s6, s7, s8, s9, s10, s11⟩
                       go_simp
                       with_reducible rfl
                      rotate_left
                      ·simp only [Act.put, sA_, sZ_, sS_, i64_w, i32_w]
                       rfl
                      refine pu_ 12 245 HT_ (bs 14 8191) rfl rfl ?_
                      refine pu_ 13 246 HT_ (bs 14 16383) rfl rfl ?_
                      refine done_ (done_of HT_.out (by kernel_rfl)) ?_
                      try go_wp2
                      go_ret
                      exact ⟨by first | rfl | (simp [errW_none, errW_some] <;> rfl) | (simp only [← hji89]; first | rfl | (simp [errW_none, errW_some] <;> rfl)) | (simp [*, errW_none, errW_some] <;> rfl), bel_ HB.out⟩
                     ·rw [if_neg c116] at H
                      have c116b0 : (!(((rd_T31 t289 x17_4).f0) == ((rd_T31 t245 x17_4).f0)) || (!(((rd_T31 t289 x17_4).f1) == ((rd_T31 t245 x17_4).f1)) || (!(((rd_T31 t289 x17_4).f2) == ((rd_T31 t245 x17_4).f2)) || (!(((rd_T31 t289 x17_4).f3) == ((rd_T31 t245 x17_4).f3)) || (!(((rd_T31 t289 x17_4).f4) == ((rd_T31 t245 x17_4).f4)) || (!(((rd_T31 t289 x17_4).f5) == ((rd_T31 t245 x17_4).f5)))))))) = false := by simpa using c116
                      clear c116
                      have H' := Aside0.mk H
                      clear H
                      obtain ⟨Ao119, co119, eo119⟩ := Kd.R_slice HO_15.out
                      subst eo119
                      try go_wp2
                      have n0_ := Aside0.mk (Kd.R_drew HO_3.out)
                      have n1_ := Aside0.mk (Kd.R_drew HO_15.out)
                      have n2_ := Aside0.mk (below_drew1 HB.out)
                      clear HO_3
                      clear HO_15
                      clear HB
                      have HO_3 := n0_
                      have HO_15 := n1_
                      have HB := n2_
                      clear n0_ n1_ n2_
                      have p296 : 0 ≤ (x17_4 : Int) := of_decide_eq_true (by first | (with_reducible assumption) | assumption)
                      have q296 : x17_4 < (t289.length : Int) := of_decide_eq_true (by first | (with_reducible assumption) | assumption)
                      obtain ⟨ad296, e296, hx296_0, hx296_1, hx296_2, hx296_3, hx296_4, hx296_5⟩ := at_T31 (Kd.R_reads' HO_15.out).2.2 x17_4 p296 q296
                      cases e296
                      replace p296 := eq_true p296
                      replace q296 := eq_true q296
                      have p297 : 0 ≤ (x17_4 : Int) := of_decide_eq_true (by first | (with_reducible assumption) | assumption)
                      have q297 : x17_4 < (t245.length : Int) := of_decide_eq_true (by first | (with_reducible assumption) | assumption)
                      obtain ⟨ad297, e297, hx297_0, hx297_1, hx297_2, hx297_3, hx297_4, hx297_5⟩ := at_T31 (Kd.R_reads' HO_3.out).2.2 x17_4 p297 q297
                      obtain rfl : ad293 = ad297 := (by injection e297)
                      replace p297 := eq_true p297
                      replace q297 := eq_true q297
                      refine start_ (n := 14) (S := fun w' => w'.cell? (ad296.add ((x17_4).toNat * 6)) = some (.int .i64 ((rd_T31 t289 x17_4).f0)) ∧ w'.cell? ⟨(ad296.add ((x17_4).toNat * 6)).block, (ad296.add ((x17_4).toNat * 6)).off + 1, none⟩ = some (.int .i64 ((rd_T31 t289 x17_4).f1)) ∧ w'.cell? ⟨(ad296.add ((x17_4).toNat * 6)).block, (ad296.add ((x17_4).toNat * 6)).off + 2, none⟩ = some (.int .i64 ((rd_T31 t289 x17_4).f2)) ∧ w'.cell? ⟨(ad296.add ((x17_4).toNat * 6)).block, (ad296.add ((x17_4).toNat * 6)).off + 3, none⟩ = some (.int .i64 ((rd_T31 t289 x17_4).f3)) ∧ w'.cell? ⟨(ad296.add ((x17_4).toNat * 6)).block, (ad296.add ((x17_4).toNat * 6)).off + 4, none⟩ = some (.int .i64 ((rd_T31 t289 x17_4).f4)) ∧ w'.cell? ⟨(ad296.add ((x17_4).toNat * 6)).block, (ad296.add ((x17_4).toNat * 6)).off + 5, none⟩ = some (.int .i64 ((rd_T31 t289 x17_4).f5)) ∧ w'.cell? (ad293.add ((x17_4).toNat * 6)) = some (.int .i64 ((rd_T31 t245 x17_4).f0)) ∧ w'.cell? ⟨(ad293.add ((x17_4).toNat * 6)).block, (ad293.add ((x17_4).toNat * 6)).off + 1, none⟩ = some (.int .i64 ((rd_T31 t245 x17_4).f1)) ∧ w'.cell? ⟨(ad293.add ((x17_4).toNat * 6)).block, (ad293.add ((x17_4).toNat * 6)).off + 2, none⟩ = some (.int .i64 ((rd_T31 t245 x17_4).f2)) ∧ w'.cell? ⟨(ad293.add ((x17_4).toNat * 6)).block, (ad293.add ((x17_4).toNat * 6)).off + 3, none⟩ = some (.int .i64 ((rd_T31 t245 x17_4).f3)) ∧ w'.cell? ⟨(ad293.add ((x17_4).toNat * 6)).block, (ad293.add ((x17_4).toNat * 6)).off + 4, none⟩ = some (.int .i64 ((rd_T31 t245 x17_4).f4)) ∧ w'.cell? ⟨(ad293.add ((x17_4).toNat * 6)).block, (ad293.add ((x17_4).toNat * 6)).off + 5, none⟩ = some (.int .i64 ((rd_T31 t245 x17_4).f5))) (ds := []) (bs 14 0) (by kernel_rfl) rfl rfl ⟨hx296_0, hx296_1, hx296_2, hx296_3, hx296_4, hx296_5, hx297_0, hx297_1, hx297_2, hx297_3, hx297_4, hx297_5⟩ (fun hHeld => ?_); refine with_tabW laws_FnDelays.tab27 laws_FnDelays.bits27 (fun HT_ HW_ => ?_)
                      generalize wr.drew = w120 at HO_3 HO_15 HB hx296_0 hx296_1 hx296_2 hx296_3 hx296_4 hx296_5 hx297_0 hx297_1 hx297_2 hx297_3 hx297_4 hx297_5 hHeld ⊢
                      refine pu_ 0 233 HT_ (bs 14 1) rfl rfl ?_
                      refine pu_ 1 234 HT_ (bs 14 3) rfl rfl ?_
                      refine pu_ 2 235 HT_ (bs 14 7) rfl rfl ?_
                      refine pu_ 3 236 HT_ (bs 14 15) rfl rfl ?_
                      refine pu_ 4 237 HT_ (bs 14 31) rfl rfl ?_
                      refine pu_ 5 238 HT_ (bs 14 63) rfl rfl ?_
                      refine pu_ 6 239 HT_ (bs 14 127) rfl rfl ?_
                      refine pu_ 8 241 HT_ (bs 14 383) rfl rfl ?_
                      refine pu_ 9 242 HT_ (bs 14 895) rfl rfl ?_
                      refine pu_ 10 243 HT_ (bs 14 1919) rfl rfl ?_
                      refine take_ (i := 7) (N := some 240) (v := ?_) (a' := ?_) (bs 14 2047) rfl rfl (take_ofW HT_.out HW_.out (by kernel_rfl)) (fun _ _ _ h => h) (Or.inl ⟨by rfl, ?_⟩) hHeld ?_ ?_
                      rotate_left
                      ·rintro w' ⟨s0, s1, s2, s3, s4, s5, s6, s7, s8, s9, s10, s11⟩
                       go_simp
                       with_reducible rfl
                      rotate_left
                      ·simp only [Act.put, sA_, sZ_, sS_, i64_w, i32_w]
                       rfl
                      refine take_ (i := 11) (N := some 244) (v := ?_) (a' := ?_) (bs 14 4095) rfl rfl (take_ofW HT_.out HW_.out (by kernel_rfl)) (fun _ _ _ h => h) (Or.inl ⟨by rfl, ?_⟩) hHeld ?_ ?_
                      rotate_left
                      ·rintro w' ⟨s0, s1, s2, s3, s4, s5, s6, s7, s8, s9, s10, s11⟩
                       go_simp
                       with_reducible rfl
                      rotate_left
                      ·simp only [Act.put, sA_, sZ_, sS_, i64_w, i32_w]
                       rfl
                      refine pu_ 12 245 HT_ (bs 14 8191) rfl rfl ?_
                      refine pu_ 13 246 HT_ (bs 14 16383) rfl rfl ?_
                      refine done_ (done_of HT_.out (by kernel_rfl)) ?_
                      try go_wp2
                      (first | go_roundg k4 | (simp only [← hji89]; go_roundg k4))
                      case measure => have := HJ18.out; have := HK2.out; have := HJ69.out; have := HK4.out; omega
                      case rel => exact ⟨(wrap64 (x17_4 + 1)), (by first | rfl | (simp; done) | (simp [*]; done) | (simp [wrap64]; done)), H', ⟨by have := HJ18.out; have := HK2.out; have := HJ69.out; have := HK4.out; omega⟩, ⟨by (with_reducible repeat (first | apply Kd.R_alloc | apply Kd.R_drewN | apply Kd.R_drew)); exact HO_3.out⟩, ⟨by (with_reducible repeat (first | apply Kd.R_alloc | apply Kd.R_drewN | apply Kd.R_drew)); exact HO_15.out⟩, ⟨bel_ HB.out⟩⟩
                    ·rw [if_neg c115] at H
                     exact absurd H (by simp)
                   ·rw [if_neg c114] at H
                    exact absurd H (by simp)
                 ·as_aux_lemma =>
                  rw [if_neg c110] at H
                  have c110b0 : decide (x17_4 < (t289.length : Int)) = false := decide_eq_false c110
                  clear c110
                  by_cases c121 : t290 = 0
                  ·rw [if_pos c121] at H
                   have c121b0 : (t290 == 0) = true := beq_iff_eq.mpr c121
                   have c121b1 : (t290 != 0) = false := bne_eq_false_iff_eq.mpr c121
                   clear c121
                   by_cases c122 : 0 ≤ (ji89)
                   ·rw [if_pos c122] at H
                    have c122b0 : decide (0 ≤ (ji89)) = true := decide_eq_true c122
                    clear c122
                    by_cases c123 : (ji89) < (t289.length : Int)
                    ·rw [if_pos c123] at H
                     have c123b0 : decide ((ji89) < (t289.length : Int)) = true := decide_eq_true c123
                     clear c123
                     by_cases c124 : (ji89) < (t245.length : Int)
                     ·rw [if_pos c124] at H
                      have c124b0 : decide ((ji89) < (t245.length : Int)) = true := decide_eq_true c124
                      clear c124
                      obtain rfl := Option.some.inj H
                      obtain ⟨Ao125, co125, eo125⟩ := Kd.R_slice HO_15.out
                      subst eo125
                      try go_wp2
                      have n0_ := Aside0.mk (Kd.R_drew HO_3.out)
                      have n1_ := Aside0.mk (Kd.R_drew HO_15.out)
                      have n2_ := Aside0.mk (below_drew1 HB.out)
                      clear HO_3
                      clear HO_15
                      clear HB
                      have HO_3 := n0_
                      have HO_15 := n1_
                      have HB := n2_
                      clear n0_ n1_ n2_
                      have p298 : 0 ≤ ((ji89) : Int) := of_decide_eq_true (by first | (with_reducible assumption) | assumption)
                      have q298 : (ji89) < (t289.length : Int) := of_decide_eq_true (by first | (with_reducible assumption) | assumption)
                      obtain ⟨ad298, e298, hx298_0, hx298_1, hx298_2, hx298_3, hx298_4, hx298_5⟩ := at_T31 (Kd.R_reads' HO_15.out).2.2 (ji89) p298 q298
                      cases e298
                      replace p298 := eq_true p298
                      replace q298 := eq_true q298
                      have p299 : 0 ≤ ((ji89) : Int) := of_decide_eq_true (by first | (with_reducible assumption) | assumption)
                      have q299 : (ji89) < (t245.length : Int) := of_decide_eq_true (by first | (with_reducible assumption) | assumption)
                      obtain ⟨ad299, e299, hx299_0, hx299_1, hx299_2, hx299_3, hx299_4, hx299_5⟩ := at_T31 (Kd.R_reads' HO_3.out).2.2 (ji89) p299 q299
                      obtain rfl : ad293 = ad299 := (by injection e299)
                      replace p299 := eq_true p299
                      replace q299 := eq_true q299
                      refine start_ (n := 18) (S := fun w' => w'.cell? (ad298.add (((ji89)).toNat * 6)) = some (.int .i64 ((rd_T31 t289 (ji89)).f0)) ∧ w'.cell? ⟨(ad298.add (((ji89)).toNat * 6)).block, (ad298.add (((ji89)).toNat * 6)).off + 1, none⟩ = some (.int .i64 ((rd_T31 t289 (ji89)).f1)) ∧ w'.cell? ⟨(ad298.add (((ji89)).toNat * 6)).block, (ad298.add (((ji89)).toNat * 6)).off + 2, none⟩ = some (.int .i64 ((rd_T31 t289 (ji89)).f2)) ∧ w'.cell? ⟨(ad298.add (((ji89)).toNat * 6)).block, (ad298.add (((ji89)).toNat * 6)).off + 3, none⟩ = some (.int .i64 ((rd_T31 t289 (ji89)).f3)) ∧ w'.cell? ⟨(ad298.add (((ji89)).toNat * 6)).block, (ad298.add (((ji89)).toNat * 6)).off + 4, none⟩ = some (.int .i64 ((rd_T31 t289 (ji89)).f4)) ∧ w'.cell? ⟨(ad298.add (((ji89)).toNat * 6)).block, (ad298.add (((ji89)).toNat * 6)).off + 5, none⟩ = some (.int .i64 ((rd_T31 t289 (ji89)).f5)) ∧ w'.cell? (ad293.add (((ji89)).toNat * 6)) = some (.int .i64 ((rd_T31 t245 (ji89)).f0)) ∧ w'.cell? ⟨(ad293.add (((ji89)).toNat * 6)).block, (ad293.add (((ji89)).toNat * 6)).off + 1, none⟩ = some (.int .i64 ((rd_T31 t245 (ji89)).f1)) ∧ w'.cell? ⟨(ad293.add (((ji89)).toNat * 6)).block, (ad293.add (((ji89)).toNat * 6)).off + 2, none⟩ = some (.int .i64 ((rd_T31 t245 (ji89)).f2)) ∧ w'.cell? ⟨(ad293.add (((ji89)).toNat * 6)).block, (ad293.add (((ji89)).toNat * 6)).off + 3, none⟩ = some (.int .i64 ((rd_T31 t245 (ji89)).f3)) ∧ w'.cell? ⟨(ad293.add (((ji89)).toNat * 6)).block, (ad293.add (((ji89)).toNat * 6)).off + 4, none⟩ = some (.int .i64 ((rd_T31 t245 (ji89)).f4)) ∧ w'.cell? ⟨(ad293.add (((ji89)).toNat * 6)).block, (ad293.add (((ji89)).toNat * 6)).off + 5, none⟩ = some (.int .i64 ((rd_T31 t245 (ji89)).f5))) (ds := []) (bs 18 0) (by kernel_rfl) rfl rfl ⟨hx298_0, hx298_1, hx298_2, hx298_3, hx298_4, hx298_5, hx299_0, hx299_1, hx299_2, hx299_3, hx299_4, hx299_5⟩ (fun hHeld => ?_); refine with_tabW laws_FnDelays.tab29 laws_FnDelays.bits29 (fun HT_ HW_ => ?_)
                      generalize wr.drew = w126 at HO_3 HO_15 HB hx298_0 hx298_1 hx298_2 hx298_3 hx298_4 hx298_5 hx299_0 hx299_1 hx299_2 hx299_3 hx299_4 hx299_5 hHeld ⊢
                      refine pu_ 0 247 HT_ (bs 18 1) rfl rfl ?_
                      refine pu_ 1 248 HT_ (bs 18 3) rfl rfl ?_
                      refine pu_ 2 249 HT_ (bs 18 7) rfl rfl ?_
                      refine pu_ 3 250 HT_ (bs 18 15) rfl rfl ?_
                      refine pu_ 4 251 HT_ (bs 18 31) rfl rfl ?_
                      refine pu_ 5 252 HT_ (bs 18 63) rfl rfl ?_
                      refine pu_ 6 253 HT_ (bs 18 127) rfl rfl ?_
                      refine pu_ 8 255 HT_ (bs 18 383) rfl rfl ?_
                      refine pu_ 9 256 HT_ (bs 18 895) rfl rfl ?_
                      refine pu_ 10 257 HT_ (bs 18 1919) rfl rfl ?_
                      refine pu_ 11 258 HT_ (bs 18 3967) rfl rfl ?_
                      refine pu_ 13 260 HT_ (bs 18 12159) rfl rfl ?_
                      refine take_ (i := 7) (N := some 254) (v := ?_) (a' := ?_) (bs 18 12287) rfl rfl (take_ofW HT_.out HW_.out (by kernel_rfl)) (fun _ _ _ h => h) (Or.inl ⟨by rfl, ?_⟩) hHeld ?_ ?_
                      rotate_left
                      ·rintro w' ⟨s0, s1, s2, s3, s4, s5, s6, s7, s8, s9, s10, s11⟩
                       go_simp
                       with_reducible rfl
                      rotate_left
                      ·simp only [Act.put, sA_, sZ_, sS_, i64_w, i32_w]
                       rfl
                      refine take_ (i := 12) (N := some 259) (v := ?_) (a' := ?_) (bs 18 16383) rfl rfl (take_ofW HT_.out HW_.out (by kernel_rfl)) (fun _ _ _ h => h) (Or.inl ⟨by rfl, ?_⟩) hHeld ?_ ?_
                      rotate_left
                      ·rintro w' ⟨s0, s1, s2, s3, s4, s5, s6, s7, s8, s9, s10, s11⟩
                       go_simp
                       with_reducible rfl
                      rotate_left
                      ·simp only [Act.put, sA_, sZ_, sS_, i64_w, i32_w]
                       rfl
                      refine pu_ 14 261 HT_ (bs 18 32767) rfl rfl ?_
                      refine pu_ 15 262 HT_ (bs 18 65535) rfl rfl ?_
                      refine pu_ 16 263 HT_ (bs 18 131071) rfl rfl ?_
                      refine pu_ 17 2 HT_ (bs 18 262143) rfl rfl ?_
                      refine done_ (done_of HT_.out (by kernel_rfl)) ?_
                      try go_wp2
                      go_ret
                      exact ⟨by first | rfl | (simp [errW_none, errW_some] <;> rfl) | (simp only [← hji89]; first | rfl | (simp [errW_none, errW_some] <;> rfl)) | (simp [*, errW_none, errW_some] <;> rfl), bel_ HB.out⟩
                     ·rw [if_neg c124] at H
                      exact absurd H (by simp)
                    ·rw [if_neg c123] at H
                     exact absurd H (by simp)
                   ·rw [if_neg c122] at H
                    exact absurd H (by simp)
                  ·rw [if_neg c121] at H
                   have c121b0 : (t290 == 0) = false := beq_eq_false_iff_ne.mpr c121
                   have c121b1 : (t290 != 0) = true := bne_iff_ne.mpr c121
                   obtain rfl := Option.some.inj H
                   obtain ⟨Ao127, co127, eo127⟩ := Kd.R_slice HO_15.out
                   subst eo127
                   try go_wp2
                   have n0_ := Aside0.mk (Kd.R_drew HO_3.out)
                   have n1_ := Aside0.mk (Kd.R_drew HO_15.out)
                   have n2_ := Aside0.mk (below_drew1 HB.out)
                   clear HO_3
                   clear HO_15
                   clear HB
                   have HO_3 := n0_
                   have HO_15 := n1_
                   have HB := n2_
                   clear n0_ n1_ n2_
                   refine start_ (n := 18) (S := fun w' => True) (ds := []) (bs 18 0) (by kernel_rfl) rfl rfl trivial (fun hHeld => ?_); refine with_tabW laws_FnDelays.tab29 laws_FnDelays.bits29 (fun HT_ HW_ => ?_)
                   generalize wr.drew = w128 at HO_3 HO_15 HB hHeld ⊢
                   refine pu_ 0 247 HT_ (bs 18 1) rfl rfl ?_
                   refine pu_ 1 248 HT_ (bs 18 3) rfl rfl ?_
                   refine pu_ 2 249 HT_ (bs 18 7) rfl rfl ?_
                   refine pn_ 3 250 HT_ (bs 18 15) rfl rfl ?_
                   refine pn_ 4 251 HT_ (bs 18 31) rfl rfl ?_
                   refine pn_ 5 252 HT_ (bs 18 63) rfl rfl ?_
                   refine pn_ 6 253 HT_ (bs 18 127) rfl rfl ?_
                   refine pn_ 7 254 HT_ (bs 18 255) rfl rfl ?_
                   refine pn_ 8 255 HT_ (bs 18 511) rfl rfl ?_
                   refine pn_ 9 256 HT_ (bs 18 1023) rfl rfl ?_
                   refine pn_ 10 257 HT_ (bs 18 2047) rfl rfl ?_
                   refine pn_ 11 258 HT_ (bs 18 4095) rfl rfl ?_
                   refine pn_ 12 259 HT_ (bs 18 8191) rfl rfl ?_
                   refine pn_ 13 260 HT_ (bs 18 16383) rfl rfl ?_
                   refine pn_ 14 261 HT_ (bs 18 32767) rfl rfl ?_
                   refine pn_ 15 262 HT_ (bs 18 65535) rfl rfl ?_
                   refine pu_ 16 263 HT_ (bs 18 131071) rfl rfl ?_
                   refine pu_ 17 2 HT_ (bs 18 262143) rfl rfl ?_
                   refine done_ (done_of HT_.out (by kernel_rfl)) ?_
                   try go_wp2
                   go_ret
                   exact ⟨by first | rfl | (simp [errW_none, errW_some] <;> rfl) | (simp only [← hji89]; first | rfl | (simp [errW_none, errW_some] <;> rfl)) | (simp [*, errW_none, errW_some] <;> rfl), bel_ HB.out⟩
             ·rw [if_neg c91] at H
              exact absurd H (by simp)
            ·rw [if_neg c90] at H
             exact absurd H (by simp)

/-- THE ONE PURE STATEMENT of laws_FnDelays: yours. -/
def laws_FnDelays.Pure : Prop := ∀ (l0 : List Int), l0.length ≤ maxLen → l0.length * 1 ≤ 140737488351232 → (∀ x ∈ l0, (Lit.int .u8 x).wf = true) → ∃ k, laws_FnDelays.f k l0 = some true
theorem laws_FnDelays.walk (P : laws_FnDelays.Pure) (a0 : Option Addr) (len0 cap0 : Nat) (z0 : List Int) (w : World) (w0 : (a0 = none ∧ len0 = 0 ∧ cap0 = 0 ∧ z0 = []) ∨ ∃ x, a0 = some x ∧ len0 ≤ cap0 ∧ cap0 ≤ maxLen ∧ z0.length = cap0 ∧ (∀ i, i < z0.length → w.cell? (x.add i) = some (.int .u8 (z0.getD i 0))) ∧ ∀ n ∈ z0, (Lit.int .u8 n).wf = true) (y0 : len0 * 1 ≤ 140737488351232) :
  Calls Try.prog 3 #[.slice a0 len0 cap0] w fun e w' => e = .returned (.bool true) ∧ Below w.heap.size w w' := by
 obtain ⟨l0, rfl, hr0, hm0, hw0, hc0⟩ := ReadsInt.ofRowC w0
 obtain ⟨k, h⟩ := P l0 hm0 y0 hw0
 refine (laws_FnDelays.calls k _ _ l0 true w (Kd.C_of_reads (d := (0 : Int)) (h1 := fun _ => rfl) hr0) hc0 h).mono ?_
 rintro e w' ⟨rfl, hd⟩
 exact ⟨rfl, hd⟩

end Go.Proofs.Ytacekdgajpaomaa.PFnDelays
