/- The Lean side of Go functions of this seat: what each answers, and that its run comes to that answer; written by a program of this work. -/
import Derived.Test.YtpimebjddebdkaaPFnVolumesx0
import Derived.Test.YtpimebjddebdkaaPFnVolumesx1
import Derived.Test.YtpimebjddebdkaaPFnVolumesx2
import Derived.Test.YtpimebjddebdkaaPFnVolumesx3
import Derived.Test.YtpimebjddebdkaaPFnVolumesx4
import Derived.Test.YtpimebjddebdkaaPFnVolumesx5
import Derived.Test.YtpimebjddebdkaaPFnVolumesx6
import Derived.Test.YtpimebjddebdkaaPFnVolumesx7
namespace Go.Proofs.Ytpimebjddebdkaa.PFnVolumes
open Go.RowKit Go.Proofs.YtpimebjddebdkaaW.PrintWords Go.Proofs.YtpimebjddebdkaaW.PrintLast Go.Proofs.YtpimebjddebdkaaW.PrintMore
attribute [local go_sem] max2_int min2_int max_two min_two max_three min_three max_four min_four   -- for this text's walks alone
set_option linter.unusedVariables false
set_option linter.unusedSimpArgs false

/-! ### laws_FnVolumes: function 3 -/
mutual
def laws_FnVolumes.j0 : Nat → Int → Bool → Int → Int → List (List Int) → Int → Int → List (List Int) → Option (Bool)
 | 0, _, _, _, _, _, _, _, _ => none
 | k + 1, x4, x31, x273000, x273001, x273002, x279000, x279001, x279002 => if x31 = true then (some false) else ((impl_Strips2.f k x273000 x273001 x273002 x4).bind fun t286 => (laws_FnVolumes.l0 k x4 0 t286 0 x273000 x273001 x273002 x279000 x279001 x279002))
def laws_FnVolumes.l0 : Nat → Int → Int → List Int → Int → Int → Int → List (List Int) → Int → Int → List (List Int) → Option (Bool)
 | 0, _, _, _, _, _, _, _, _, _, _ => none
 | k + 1, x4, x6, x7, x8, x273000, x273001, x273002, x279000, x279001, x279002 => if x8 < (x7.length : Int) then (if 0 ≤ x8 then (laws_FnVolumes.l0 k x4 (wrap64 (x6 + (rd x7 x8))) x7 (wrap64 (x8 + 1)) x273000 x273001 x273002 x279000 x279001 x279002) else (none)) else (if (x7.length : Int) = (wrap64 ((x273002.length : Int) - 1)) then ((impl_Volume2.f k x273000 x273001 x273002 x4).bind fun t290 => (if x6 = t290 then (if x4 > 0 then ((impl_Volume2.f k x273000 x273001 x273002 (wrap64 (x4 - 1))).bind fun t291 => (laws_FnVolumes.j2 k x4 x6 (decide (x6 < t291)) x273000 x273001 x273002 x279000 x279001 x279002)) else (laws_FnVolumes.j2 k x4 x6 false x273000 x273001 x273002 x279000 x279001 x279002)) else (laws_FnVolumes.j2 k x4 x6 true x273000 x273001 x273002 x279000 x279001 x279002))) else (laws_FnVolumes.j2 k x4 x6 true x273000 x273001 x273002 x279000 x279001 x279002))
def laws_FnVolumes.j2 : Nat → Int → Int → Bool → Int → Int → List (List Int) → Int → Int → List (List Int) → Option (Bool)
 | 0, _, _, _, _, _, _, _, _, _ => none
 | k + 1, x4, x6, x72, x273000, x273001, x273002, x279000, x279001, x279002 => if x72 = true then (some false) else ((impl_Plane.f k x273000 x273001 x273002 x4).bind fun t292 => ((impl_Plane.f k x279000 x279001 x279002 x4).bind fun t293 => (if t292 = t293 then ((impl_Inertia3.f k x273000 x273001 x273002 x4).bind fun t294 => ((impl_Inertia3.f k x279000 x279001 x279002 x4).bind fun t295 => (if t294 = t295 then ((impl_Volume2.f k x279000 x279001 x279002 x4).bind fun t296 => (if t296 = x6 then ((impl_Height4.f k x273000 x273001 x273002 x4).bind fun t297 => ((impl_Height4.f k x279000 x279001 x279002 x4).bind fun t298 => (laws_FnVolumes.j3 k x4 x6 (t297 != t298) x273000 x273001 x273002 x279000 x279001 x279002))) else (laws_FnVolumes.j3 k x4 x6 true x273000 x273001 x273002 x279000 x279001 x279002))) else (laws_FnVolumes.j3 k x4 x6 true x273000 x273001 x273002 x279000 x279001 x279002)))) else (laws_FnVolumes.j3 k x4 x6 true x273000 x273001 x273002 x279000 x279001 x279002))))
def laws_FnVolumes.j3 : Nat → Int → Int → Bool → Int → Int → List (List Int) → Int → Int → List (List Int) → Option (Bool)
 | 0, _, _, _, _, _, _, _, _, _ => none
 | k + 1, x4, x6, x104, x273000, x273001, x273002, x279000, x279001, x279002 => if x104 = true then (some false) else ((impl_Along4.f k x273000 x273001 x273002 x4).bind fun t299 => ((impl_Along4.f k x279000 x279001 x279002 x4).bind fun t300 => (if (wrap64 (t299 + t300)) = (wrap64 ((wrap64 ((wrap64 (x6 * x273000)) * 2)) * (wrap64 ((x273002.length : Int) - 1)))) then ((impl_Plane.f k 2 1 (([(([1, 2] : List Int)), (([3, 4] : List Int))] : List (List Int))) 1).bind fun t310 => (some (t310 == 12))) else (some false))))
end
def laws_FnVolumes.f (k : Nat) (l0 : List Int) : Option (Bool) := (laws_big.f l0).bind fun t265 => (if t265 = true then (some true) else ((spec_DrawRightHull.f k l0).bind fun bt266 => ((impl_Mirror.f k bt266.1 bt266.2.1 bt266.2.2.1).bind fun bt273 => ((impl_HullOk.f k bt266.1 bt266.2.1 bt266.2.2.1).bind fun t279 => (if t279 = true then ((impl_HullOk.f k bt273.1 bt273.2.1 bt273.2.2).bind fun t280 => (if t280 = true then ((impl_Mirror.f k 0 0 ([] : List (List Int))).bind fun bt281 => (laws_FnVolumes.j0 k bt266.2.2.2 (bt281.1 != 0) bt266.1 bt266.2.1 bt266.2.2.1 bt273.1 bt273.2.1 bt273.2.2)) else (laws_FnVolumes.j0 k bt266.2.2.2 true bt266.1 bt266.2.1 bt266.2.2.1 bt273.1 bt273.2.1 bt273.2.2))) else (laws_FnVolumes.j0 k bt266.2.2.2 true bt266.1 bt266.2.1 bt266.2.2.1 bt273.1 bt273.2.1 bt273.2.2))))))
theorem laws_FnVolumes.mono_l : ∀ k, (∀ y0 y1 y2 y3 y4 y5 y6 y7, LeO (laws_FnVolumes.j0 k y0 y1 y2 y3 y4 y5 y6 y7) (laws_FnVolumes.j0 (k + 1) y0 y1 y2 y3 y4 y5 y6 y7)) ∧ (∀ y0 y1 y2 y3 y4 y5 y6 y7 y8 y9, LeO (laws_FnVolumes.l0 k y0 y1 y2 y3 y4 y5 y6 y7 y8 y9) (laws_FnVolumes.l0 (k + 1) y0 y1 y2 y3 y4 y5 y6 y7 y8 y9)) ∧ (∀ y0 y1 y2 y3 y4 y5 y6 y7 y8, LeO (laws_FnVolumes.j2 k y0 y1 y2 y3 y4 y5 y6 y7 y8) (laws_FnVolumes.j2 (k + 1) y0 y1 y2 y3 y4 y5 y6 y7 y8)) ∧ (∀ y0 y1 y2 y3 y4 y5 y6 y7 y8, LeO (laws_FnVolumes.j3 k y0 y1 y2 y3 y4 y5 y6 y7 y8) (laws_FnVolumes.j3 (k + 1) y0 y1 y2 y3 y4 y5 y6 y7 y8))
 | 0 => ⟨fun _ _ _ _ _ _ _ _ r h => by simp [laws_FnVolumes.j0] at h, fun _ _ _ _ _ _ _ _ _ _ r h => by simp [laws_FnVolumes.l0] at h, fun _ _ _ _ _ _ _ _ _ r h => by simp [laws_FnVolumes.j2] at h, fun _ _ _ _ _ _ _ _ _ r h => by simp [laws_FnVolumes.j3] at h⟩
 | k + 1 => by
  obtain ⟨ih0, ih1, ih2, ih3⟩ := laws_FnVolumes.mono_l k
  refine ⟨?_, ?_, ?_, ?_⟩
  ·intro y0 y1 y2 y3 y4 y5 y6 y7
   unfold laws_FnVolumes.j0
   repeat' first
   | (with_reducible exact ih0 _ _ _ _ _ _ _ _)
   | (with_reducible exact ih1 _ _ _ _ _ _ _ _ _ _)
   | (with_reducible exact ih2 _ _ _ _ _ _ _ _ _)
   | (with_reducible exact ih3 _ _ _ _ _ _ _ _ _)
   | (with_reducible exact impl_Along4.mono _ _ _ _ _)
   | (with_reducible exact impl_Height4.mono _ _ _ _ _)
   | (with_reducible exact impl_HullOk.mono _ _ _ _)
   | (with_reducible exact impl_Inertia3.mono _ _ _ _ _)
   | (with_reducible exact impl_Mirror.mono _ _ _ _)
   | (with_reducible exact impl_Plane.mono _ _ _ _ _)
   | (with_reducible exact impl_Strips2.mono _ _ _ _ _)
   | (with_reducible exact impl_Volume2.mono _ _ _ _ _)
   | (with_reducible exact spec_DrawRightHull.mono _ _)
   | (with_reducible exact LeO.refl _)
   | (with_reducible exact LeO.none _)
   | (with_reducible refine LeO.ite ?_ ?_)
   | (with_reducible refine LeO.bind ?_ (fun _ => ?_))
   | exact ih0 _ _ _ _ _ _ _ _
   | exact ih1 _ _ _ _ _ _ _ _ _ _
   | exact ih2 _ _ _ _ _ _ _ _ _
   | exact ih3 _ _ _ _ _ _ _ _ _
   | exact impl_Along4.mono _ _ _ _ _
   | exact impl_Height4.mono _ _ _ _ _
   | exact impl_HullOk.mono _ _ _ _
   | exact impl_Inertia3.mono _ _ _ _ _
   | exact impl_Mirror.mono _ _ _ _
   | exact impl_Plane.mono _ _ _ _ _
   | exact impl_Strips2.mono _ _ _ _ _
   | exact impl_Volume2.mono _ _ _ _ _
   | exact spec_DrawRightHull.mono _ _
   | exact LeO.none _
   | refine LeO.ite ?_ ?_
   | refine LeO.bind ?_ (fun _ => ?_)
  ·intro y0 y1 y2 y3 y4 y5 y6 y7 y8 y9
   unfold laws_FnVolumes.l0
   repeat' first
   | (with_reducible exact ih0 _ _ _ _ _ _ _ _)
   | (with_reducible exact ih1 _ _ _ _ _ _ _ _ _ _)
   | (with_reducible exact ih2 _ _ _ _ _ _ _ _ _)
   | (with_reducible exact ih3 _ _ _ _ _ _ _ _ _)
   | (with_reducible exact impl_Along4.mono _ _ _ _ _)
   | (with_reducible exact impl_Height4.mono _ _ _ _ _)
   | (with_reducible exact impl_HullOk.mono _ _ _ _)
   | (with_reducible exact impl_Inertia3.mono _ _ _ _ _)
   | (with_reducible exact impl_Mirror.mono _ _ _ _)
   | (with_reducible exact impl_Plane.mono _ _ _ _ _)
   | (with_reducible exact impl_Strips2.mono _ _ _ _ _)
   | (with_reducible exact impl_Volume2.mono _ _ _ _ _)
   | (with_reducible exact spec_DrawRightHull.mono _ _)
   | (with_reducible exact LeO.refl _)
   | (with_reducible exact LeO.none _)
   | (with_reducible refine LeO.ite ?_ ?_)
   | (with_reducible refine LeO.bind ?_ (fun _ => ?_))
   | exact ih0 _ _ _ _ _ _ _ _
   | exact ih1 _ _ _ _ _ _ _ _ _ _
   | exact ih2 _ _ _ _ _ _ _ _ _
   | exact ih3 _ _ _ _ _ _ _ _ _
   | exact impl_Along4.mono _ _ _ _ _
   | exact impl_Height4.mono _ _ _ _ _
   | exact impl_HullOk.mono _ _ _ _
   | exact impl_Inertia3.mono _ _ _ _ _
   | exact impl_Mirror.mono _ _ _ _
   | exact impl_Plane.mono _ _ _ _ _
   | exact impl_Strips2.mono _ _ _ _ _
   | exact impl_Volume2.mono _ _ _ _ _
   | exact spec_DrawRightHull.mono _ _
   | exact LeO.none _
   | refine LeO.ite ?_ ?_
   | refine LeO.bind ?_ (fun _ => ?_)
  ·intro y0 y1 y2 y3 y4 y5 y6 y7 y8
   unfold laws_FnVolumes.j2
   repeat' first
   | (with_reducible exact ih0 _ _ _ _ _ _ _ _)
   | (with_reducible exact ih1 _ _ _ _ _ _ _ _ _ _)
   | (with_reducible exact ih2 _ _ _ _ _ _ _ _ _)
   | (with_reducible exact ih3 _ _ _ _ _ _ _ _ _)
   | (with_reducible exact impl_Along4.mono _ _ _ _ _)
   | (with_reducible exact impl_Height4.mono _ _ _ _ _)
   | (with_reducible exact impl_HullOk.mono _ _ _ _)
   | (with_reducible exact impl_Inertia3.mono _ _ _ _ _)
   | (with_reducible exact impl_Mirror.mono _ _ _ _)
   | (with_reducible exact impl_Plane.mono _ _ _ _ _)
   | (with_reducible exact impl_Strips2.mono _ _ _ _ _)
   | (with_reducible exact impl_Volume2.mono _ _ _ _ _)
   | (with_reducible exact spec_DrawRightHull.mono _ _)
   | (with_reducible exact LeO.refl _)
   | (with_reducible exact LeO.none _)
   | (with_reducible refine LeO.ite ?_ ?_)
   | (with_reducible refine LeO.bind ?_ (fun _ => ?_))
   | exact ih0 _ _ _ _ _ _ _ _
   | exact ih1 _ _ _ _ _ _ _ _ _ _
   | exact ih2 _ _ _ _ _ _ _ _ _
   | exact ih3 _ _ _ _ _ _ _ _ _
   | exact impl_Along4.mono _ _ _ _ _
   | exact impl_Height4.mono _ _ _ _ _
   | exact impl_HullOk.mono _ _ _ _
   | exact impl_Inertia3.mono _ _ _ _ _
   | exact impl_Mirror.mono _ _ _ _
   | exact impl_Plane.mono _ _ _ _ _
   | exact impl_Strips2.mono _ _ _ _ _
   | exact impl_Volume2.mono _ _ _ _ _
   | exact spec_DrawRightHull.mono _ _
   | exact LeO.none _
   | refine LeO.ite ?_ ?_
   | refine LeO.bind ?_ (fun _ => ?_)
  ·intro y0 y1 y2 y3 y4 y5 y6 y7 y8
   unfold laws_FnVolumes.j3
   repeat' first
   | (with_reducible exact ih0 _ _ _ _ _ _ _ _)
   | (with_reducible exact ih1 _ _ _ _ _ _ _ _ _ _)
   | (with_reducible exact ih2 _ _ _ _ _ _ _ _ _)
   | (with_reducible exact ih3 _ _ _ _ _ _ _ _ _)
   | (with_reducible exact impl_Along4.mono _ _ _ _ _)
   | (with_reducible exact impl_Height4.mono _ _ _ _ _)
   | (with_reducible exact impl_HullOk.mono _ _ _ _)
   | (with_reducible exact impl_Inertia3.mono _ _ _ _ _)
   | (with_reducible exact impl_Mirror.mono _ _ _ _)
   | (with_reducible exact impl_Plane.mono _ _ _ _ _)
   | (with_reducible exact impl_Strips2.mono _ _ _ _ _)
   | (with_reducible exact impl_Volume2.mono _ _ _ _ _)
   | (with_reducible exact spec_DrawRightHull.mono _ _)
   | (with_reducible exact LeO.refl _)
   | (with_reducible exact LeO.none _)
   | (with_reducible refine LeO.ite ?_ ?_)
   | (with_reducible refine LeO.bind ?_ (fun _ => ?_))
   | exact ih0 _ _ _ _ _ _ _ _
   | exact ih1 _ _ _ _ _ _ _ _ _ _
   | exact ih2 _ _ _ _ _ _ _ _ _
   | exact ih3 _ _ _ _ _ _ _ _ _
   | exact impl_Along4.mono _ _ _ _ _
   | exact impl_Height4.mono _ _ _ _ _
   | exact impl_HullOk.mono _ _ _ _
   | exact impl_Inertia3.mono _ _ _ _ _
   | exact impl_Mirror.mono _ _ _ _
   | exact impl_Plane.mono _ _ _ _ _
   | exact impl_Strips2.mono _ _ _ _ _
   | exact impl_Volume2.mono _ _ _ _ _
   | exact spec_DrawRightHull.mono _ _
   | exact LeO.none _
   | refine LeO.ite ?_ ?_
   | refine LeO.bind ?_ (fun _ => ?_)
theorem laws_FnVolumes.mono : ∀ a0 k, LeO (laws_FnVolumes.f k a0) (laws_FnVolumes.f (k + 1) a0) := by
 intro a0 k
 obtain ⟨ih0, ih1, ih2, ih3⟩ := laws_FnVolumes.mono_l k
 unfold laws_FnVolumes.f
 repeat' first
   | (with_reducible exact ih0 _ _ _ _ _ _ _ _)
   | (with_reducible exact ih1 _ _ _ _ _ _ _ _ _ _)
   | (with_reducible exact ih2 _ _ _ _ _ _ _ _ _)
   | (with_reducible exact ih3 _ _ _ _ _ _ _ _ _)
   | (with_reducible exact impl_Along4.mono _ _ _ _ _)
   | (with_reducible exact impl_Height4.mono _ _ _ _ _)
   | (with_reducible exact impl_HullOk.mono _ _ _ _)
   | (with_reducible exact impl_Inertia3.mono _ _ _ _ _)
   | (with_reducible exact impl_Mirror.mono _ _ _ _)
   | (with_reducible exact impl_Plane.mono _ _ _ _ _)
   | (with_reducible exact impl_Strips2.mono _ _ _ _ _)
   | (with_reducible exact impl_Volume2.mono _ _ _ _ _)
   | (with_reducible exact spec_DrawRightHull.mono _ _)
   | (with_reducible exact LeO.refl _)
   | (with_reducible exact LeO.none _)
   | (with_reducible refine LeO.ite ?_ ?_)
   | (with_reducible refine LeO.bind ?_ (fun _ => ?_))
   | exact ih0 _ _ _ _ _ _ _ _
   | exact ih1 _ _ _ _ _ _ _ _ _ _
   | exact ih2 _ _ _ _ _ _ _ _ _
   | exact ih3 _ _ _ _ _ _ _ _ _
   | exact impl_Along4.mono _ _ _ _ _
   | exact impl_Height4.mono _ _ _ _ _
   | exact impl_HullOk.mono _ _ _ _
   | exact impl_Inertia3.mono _ _ _ _ _
   | exact impl_Mirror.mono _ _ _ _
   | exact impl_Plane.mono _ _ _ _ _
   | exact impl_Strips2.mono _ _ _ _ _
   | exact impl_Volume2.mono _ _ _ _ _
   | exact spec_DrawRightHull.mono _ _
   | exact LeO.none _
   | refine LeO.ite ?_ ?_
   | refine LeO.bind ?_ (fun _ => ?_)
def laws_FnVolumes.T15 : Bool × List (List Nat × List Nat) := (true, [([], []), ([], []), ([0, 1], [0, 1]), ([], []), ([], []), ([3, 4, 2], [3, 4]), ([2, 5], [2, 5]), ([6, 5], [6]), ([7], [7]), ([7], [7]), ([8, 9, 7, 7], [7, 8, 9]), ([7], [7]), ([7], [7]), ([11, 12, 10, 7], [7, 11, 12]), ([10, 13, 7], [7, 10, 13]), ([7, 14], [7, 14]), ([15, 13], [15]), ([16], [16]), ([16], [16]), ([17, 18, 16, 16], [16, 17, 18]), ([16], [16]), ([19, 20, 16], [16, 19, 20]), ([16, 21], [16, 21]), ([22, 19], [22]), ([23], [23]), ([23], [23]), ([24, 25, 23, 23], [23, 24, 25]), ([23], [23]), ([23], [23]), ([27, 28, 26, 23], [23, 27, 28]), ([26, 29, 23], [23, 26, 29]), ([23, 30], [23, 30])])
def laws_FnVolumes.B15 : List Nat := [0, 0, 3, 0, 0, 31, 63, 127, 255, 255, 1023, 255, 255, 8191, 16383, 32767, 65535, 131071, 131071, 524287, 131071, 2097151, 4194303, 8388607, 16777215, 16777215, 67108863, 16777215, 16777215, 536870911, 1073741823, 2147483647]
theorem laws_FnVolumes.tab15 : rtab .any (opsOf Try.f3 15) = laws_FnVolumes.T15 := by kernel_rfl
theorem laws_FnVolumes.bits15 : waitsOk laws_FnVolumes.T15.2 laws_FnVolumes.B15 = true := by kernel_rfl
def laws_FnVolumes.T17 : Bool × List (List Nat × List Nat) := (true, [([], []), ([], []), ([0, 1], [0, 1]), ([], []), ([], []), ([3, 4, 2], [3, 4]), ([2, 5], [2, 5]), ([], []), ([], []), ([8], [8]), ([7, 9], [7, 9]), ([10], [10]), ([], []), ([12], [12]), ([13], [13]), ([14], [14]), ([11, 15], [11, 15]), ([6, 16], [6, 16]), ([17, 5], [17]), ([18], [18]), ([18], [18]), ([19, 20, 18], [18, 19, 20]), ([21, 18], [18, 21]), ([22, 18, 18], [18, 22]), ([23, 18], [18, 23]), ([18, 24], [18, 24]), ([25, 23, 0, 1, 2, 3, 4, 5, 6, 7, 8, 9, 10, 11, 12, 13, 14, 15, 16, 17, 18, 19, 20, 21, 22, 23, 24, 25], [25])])
def laws_FnVolumes.B17 : List Nat := [0, 0, 3, 0, 0, 31, 63, 0, 0, 256, 896, 1920, 0, 4096, 12288, 28672, 65408, 131071, 262143, 524287, 524287, 2097151, 4194303, 8388607, 16777215, 33554431, 67108863]
theorem laws_FnVolumes.tab17 : rtab .any (opsOf Try.f3 17) = laws_FnVolumes.T17 := by kernel_rfl
theorem laws_FnVolumes.bits17 : waitsOk laws_FnVolumes.T17.2 laws_FnVolumes.B17 = true := by kernel_rfl
set_option maxHeartbeats 8000000 in
set_option maxRecDepth 100000 in
theorem laws_FnVolumes.calls (k : Nat) (A0 : Option Addr) (c0 : Nat) (l0 : List Int) (r : Bool) (w : World) (hr0 : Kd.C (Kd.int .u8) w A0 l0.length l0) (hc0 : l0.length ≤ c0) (h : laws_FnVolumes.f k l0 = some r) :
  Calls Try.prog 3 #[.slice A0 l0.length c0] w fun e w' => e = .returned (.bool r) ∧ Below w.heap.size w w' := by
 have hu26 := Try.underlying26
 have HR0 := Aside0.mk hr0
 have HC0 := Aside0.mk hc0
 clear hr0 hc0
 have HB := Aside0.mk (Below.refl w.heap.size w)
 have H : ((laws_big.f l0).bind fun t265 => (if t265 = true then (some true) else ((spec_DrawRightHull.f k l0).bind fun bt266 => ((impl_Mirror.f k bt266.1 bt266.2.1 bt266.2.2.1).bind fun bt273 => ((impl_HullOk.f k bt266.1 bt266.2.1 bt266.2.2.1).bind fun t279 => (if t279 = true then ((impl_HullOk.f k bt273.1 bt273.2.1 bt273.2.2).bind fun t280 => (if t280 = true then ((impl_Mirror.f k 0 0 ([] : List (List Int))).bind fun bt281 => (laws_FnVolumes.j0 k bt266.2.2.2 (bt281.1 != 0) bt266.1 bt266.2.1 bt266.2.2.1 bt273.1 bt273.2.1 bt273.2.2)) else (laws_FnVolumes.j0 k bt266.2.2.2 true bt266.1 bt266.2.1 bt266.2.2.1 bt273.1 bt273.2.1 bt273.2.2))) else (laws_FnVolumes.j0 k bt266.2.2.2 true bt266.1 bt266.2.1 bt266.2.2.1 bt273.1 bt273.2.1 bt273.2.2))))))) = some r := h
 clear h
 replace H := Option.bind_eq_some_iff.mp H
 obtain ⟨t265, A20, H⟩ := H
 replace H : (if t265 = true then (some true) else ((spec_DrawRightHull.f k l0).bind fun bt266 => ((impl_Mirror.f k bt266.1 bt266.2.1 bt266.2.2.1).bind fun bt273 => ((impl_HullOk.f k bt266.1 bt266.2.1 bt266.2.2.1).bind fun t279 => (if t279 = true then ((impl_HullOk.f k bt273.1 bt273.2.1 bt273.2.2).bind fun t280 => (if t280 = true then ((impl_Mirror.f k 0 0 ([] : List (List Int))).bind fun bt281 => (laws_FnVolumes.j0 k bt266.2.2.2 (bt281.1 != 0) bt266.1 bt266.2.1 bt266.2.2.1 bt273.1 bt273.2.1 bt273.2.2)) else (laws_FnVolumes.j0 k bt266.2.2.2 true bt266.1 bt266.2.1 bt266.2.2.1 bt273.1 bt273.2.1 bt273.2.2))) else (laws_FnVolumes.j0 k bt266.2.2.2 true bt266.1 bt266.2.1 bt266.2.2.1 bt273.1 bt273.2.1 bt273.2.2)))))) = some r := H
 have A2 := Aside0.mk A20
 clear A20
 by_cases c3 : t265 = true
 ·subst c3
  have H1 : (some true) = some r := by rw [if_pos rfl] at H; exact H
  clear H
  have H := H1
  clear H1
  obtain rfl := Option.some.inj H
  have hfd26_0 : ∀ (x0 x1 x2 : Value) (w : World), (Instr.field 26 (.agg #[x0, x1, x2]) 0).run Try.prog w = .ok x0 w := fun _ _ _ _ => by kernel_rfl
  go_enter Try.func3, Try.ntmps3
  go_wp2_with (first | ((with_reducible refine gate_callee (f := 6) rfl ?_); refine goesL_ (some 10) rfl rfl Try.func6 (by kernel_rfl) rfl #[.slice A0 l0.length c0] rfl (by (try simp only [List.map_toArray, List.map_cons, List.map_nil]); first | done | rfl | (simp only [List.length_drop, List.length_take]; rfl)) ?_; (with_reducible refine (laws_big.calls _ _ l0 true _ ?side1 ?side2 A2.out).mono ?_); (case side1 => repeat (first | exact HR0.out | (with_reducible refine Kd.C_alloc ?_ _) | (with_reducible refine Kd.C_drewN ?_ _) | (with_reducible refine Kd.C_drew ?_))); (case side2 => exact HC0.out); rintro e w' ⟨rfl, ⟨nd, rfl⟩⟩; refine ⟨_, rfl, ?_⟩))
  go_ret
  exact ⟨by first | rfl | (simp [errW_none, errW_some] <;> rfl) | (simp [*, errW_none, errW_some] <;> rfl), bel_ HB.out⟩
 ·replace c3 := Bool.eq_false_iff.mpr c3
  subst c3
  have H1 : ((spec_DrawRightHull.f k l0).bind fun bt266 => ((impl_Mirror.f k bt266.1 bt266.2.1 bt266.2.2.1).bind fun bt273 => ((impl_HullOk.f k bt266.1 bt266.2.1 bt266.2.2.1).bind fun t279 => (if t279 = true then ((impl_HullOk.f k bt273.1 bt273.2.1 bt273.2.2).bind fun t280 => (if t280 = true then ((impl_Mirror.f k 0 0 ([] : List (List Int))).bind fun bt281 => (laws_FnVolumes.j0 k bt266.2.2.2 (bt281.1 != 0) bt266.1 bt266.2.1 bt266.2.2.1 bt273.1 bt273.2.1 bt273.2.2)) else (laws_FnVolumes.j0 k bt266.2.2.2 true bt266.1 bt266.2.1 bt266.2.2.1 bt273.1 bt273.2.1 bt273.2.2))) else (laws_FnVolumes.j0 k bt266.2.2.2 true bt266.1 bt266.2.1 bt266.2.2.1 bt273.1 bt273.2.1 bt273.2.2))))) = some r := by rw [if_neg (show ¬ (false = true) by decide)] at H; exact H
  clear H
  have H := H1
  clear H1
  replace H := Option.bind_eq_some_iff.mp H
  obtain ⟨⟨t266, t267, t268, t271⟩, A40, H⟩ := H
  replace H : ((impl_Mirror.f k t266 t267 t268).bind fun bt273 => ((impl_HullOk.f k t266 t267 t268).bind fun t279 => (if t279 = true then ((impl_HullOk.f k bt273.1 bt273.2.1 bt273.2.2).bind fun t280 => (if t280 = true then ((impl_Mirror.f k 0 0 ([] : List (List Int))).bind fun bt281 => (laws_FnVolumes.j0 k t271 (bt281.1 != 0) t266 t267 t268 bt273.1 bt273.2.1 bt273.2.2)) else (laws_FnVolumes.j0 k t271 true t266 t267 t268 bt273.1 bt273.2.1 bt273.2.2))) else (laws_FnVolumes.j0 k t271 true t266 t267 t268 bt273.1 bt273.2.1 bt273.2.2)))) = some r := H
  have A4 := Aside0.mk A40
  clear A40
  replace H := Option.bind_eq_some_iff.mp H
  obtain ⟨⟨t273, t274, t275⟩, A50, H⟩ := H
  replace H : ((impl_HullOk.f k t266 t267 t268).bind fun t279 => (if t279 = true then ((impl_HullOk.f k t273 t274 t275).bind fun t280 => (if t280 = true then ((impl_Mirror.f k 0 0 ([] : List (List Int))).bind fun bt281 => (laws_FnVolumes.j0 k t271 (bt281.1 != 0) t266 t267 t268 t273 t274 t275)) else (laws_FnVolumes.j0 k t271 true t266 t267 t268 t273 t274 t275))) else (laws_FnVolumes.j0 k t271 true t266 t267 t268 t273 t274 t275))) = some r := H
  have A5 := Aside0.mk A50
  clear A50
  have HC6 := Aside0.mk H
  clear H
  have hfd26_0 : ∀ (x0 x1 x2 : Value) (w : World), (Instr.field 26 (.agg #[x0, x1, x2]) 0).run Try.prog w = .ok x0 w := fun _ _ _ _ => by kernel_rfl
  go_enter Try.func3, Try.ntmps3
  go_upto_region 5 with (first | ((with_reducible refine gate_callee (f := 6) rfl ?_); refine goesL_ (some 10) rfl rfl Try.func6 (by kernel_rfl) rfl #[.slice A0 l0.length c0] rfl (by (try simp only [List.map_toArray, List.map_cons, List.map_nil]); first | done | rfl | (simp only [List.length_drop, List.length_take]; rfl)) ?_; (with_reducible refine (laws_big.calls _ _ l0 false _ ?side1 ?side2 A2.out).mono ?_); (case side1 => repeat (first | exact HR0.out | (with_reducible refine Kd.C_alloc ?_ _) | (with_reducible refine Kd.C_drewN ?_ _) | (with_reducible refine Kd.C_drew ?_))); (case side2 => exact HC0.out); rintro e w' ⟨rfl, ⟨nd, rfl⟩⟩; refine ⟨_, rfl, ?_⟩) | ((with_reducible refine gate_callee (f := 7) rfl ?_); refine goesL_ (some 13) rfl rfl Try.func7 (by kernel_rfl) rfl #[.slice A0 l0.length c0] rfl (by (try simp only [List.map_toArray, List.map_cons, List.map_nil]); first | done | rfl | (simp only [List.length_drop, List.length_take]; rfl)) ?_; (with_reducible refine (spec_DrawRightHull.calls k _ _ l0 t266 t267 t268 t271 _ ?side1 ?side2 A4.out).mono ?_); (case side1 => repeat (first | exact HR0.out | (with_reducible refine Kd.C_alloc ?_ _) | (with_reducible refine Kd.C_drewN ?_ _) | (with_reducible refine Kd.C_drew ?_))); (case side2 => exact HC0.out); rintro e w7 ⟨v269, rfl, ho0, hb⟩; refine ⟨_, rfl, ?_⟩; have n0_ := Aside0.mk (Kd.N_lower (Kd.N_mono (ok' := fun k_ => True) (Kd.S_N (Kd.S_bound ho0)) (fun k_ hk_ => trivial)) (below_size (bel_ HB.out))); have n1_ := Aside0.mk (below_step (bel_ HB.out) hb); clear HB; have HO270 := n0_; have HB := n1_; clear n0_ n1_; (try clear hb); (try clear hb2); (try clear hk); (try clear hi); (try clear ho0)) | ((with_reducible refine gate_dst (N := 3) rfl ?_); (try (refine gate_guard (by rfl) ?_; dsimp only)); refine box_event ?hg (N := 3) ?hd (cs := #[.int .i64 0, .int .i64 0, .slice none 0 0]) (t := 26) ?hr ?_; (case hd => rfl); (case hg => rfl); (case hr => first | (go_simp; done) | (go_simp; rfl)); intro gb272 hg w8 hbox hb; have n0_ := Aside0.mk (Kd.N_below (Kd.N_elderB (by (with_reducible repeat (first | apply Kd.N_alloc | apply Kd.N_drewN | apply Kd.N_drew)); exact HO270.out) gb272 (Nat.le_of_eq hg.symm)) hb); have n1_ := Aside0.mk (below_step (bel_ HB.out) hb); have n2_ := Aside0.mk (hbox); have n3_ := Aside0.mk ((by rw [hg]; exact (below_size (bel_ HB.out)) : w.heap.size ≤ gb272)); have n4_ := Aside0.mk ((by rw [hg]; exact (below_size (bel_ HB.out)) : w.heap.size ≤ gb272)); clear HO270; clear HB; have HO270 := n0_; have HB := n1_; have BK272 := n2_; have GW272 := n3_; have GE272 := n4_; clear n0_ n1_ n2_ n3_ n4_; clear hb hbox hg; have hcz9_0 : w8.cell? ⟨gb272, 0, none⟩ = some (.int .i64 0) := (blk_cell BK272.out 0).trans rfl; have hcz9_1 : w8.cell? ⟨gb272, 1, none⟩ = some (.int .i64 0) := (blk_cell BK272.out 1).trans rfl; have hcz9_2 : w8.cell? ⟨gb272, 2, none⟩ = some (.slice none 0 0) := (blk_cell BK272.out 2).trans rfl; have hfz9_0 := blk_frozen BK272.out 0; have hfz9_1 := blk_frozen BK272.out 1; have hfz9_2 := blk_frozen BK272.out 2; obtain ⟨Ao10, co10, eo10⟩ := Kd.N_slice HO270.out; subst eo10) | ((with_reducible refine gate_callee (f := 8) rfl ?_); refine goesL_ (some 17) rfl rfl Try.func8 (by kernel_rfl) rfl #[.agg #[.int .i64 t266, .int .i64 t267, .slice Ao10 t268.length co10]] rfl (by (try simp only [List.map_toArray, List.map_cons, List.map_nil]); first | done | rfl | (simp only [List.length_drop, List.length_take]; rfl)) ?_; (with_reducible refine (impl_Mirror.calls k t266 t267 _ _ t268 t273 t274 t275 _ ?side1 ?side2 A5.out).mono ?_); (case side1 => refine (Kd.N_reads' (e := 31) (base := w.heap.size) (ok := fun k_ => (True ∧ k_ ≠ gb272)) (n := t268.length) (c := co10) ?_).2.2; exact (by (with_reducible repeat (first | apply Kd.N_alloc | apply Kd.N_drewN | apply Kd.N_drew)); exact (Kd.N_mono (Kd.N_far (p := ⟨gb272, 2, none⟩) (Kd.N_far (p := ⟨gb272, 1, none⟩) (Kd.N_far (p := ⟨gb272, 0, none⟩) (Kd.N_mono HO270.out (fun k_ hk => (⟨hk, hk.2⟩ : _ ∧ k_ ≠ gb272))) (fun _ hk => hk.2) (.int .i64 t266)) (fun _ hk => hk.2) (.int .i64 t267)) (fun _ hk => hk.2) (.slice Ao10 t268.length co10)) (fun _ h_ => h_.1)))); (case side2 => exact (Kd.N_reads' HO270.out).2.1); rintro e w11 ⟨v276, rfl, ho0, hb⟩; refine ⟨_, rfl, ?_⟩; have n0_ := Aside0.mk (Kd.N_elder' (by (with_reducible repeat (first | apply Kd.N_alloc | apply Kd.N_drewN | apply Kd.N_drew)); exact (Kd.N_mono (Kd.N_far (p := ⟨gb272, 2, none⟩) (Kd.N_far (p := ⟨gb272, 1, none⟩) (Kd.N_far (p := ⟨gb272, 0, none⟩) (Kd.N_mono HO270.out (fun k_ hk => (⟨hk, hk.2⟩ : _ ∧ k_ ≠ gb272))) (fun _ hk => hk.2) (.int .i64 t266)) (fun _ hk => hk.2) (.int .i64 t267)) (fun _ hk => hk.2) (.slice Ao10 t268.length co10)) (fun _ h_ => h_.1))) (Kd.N_base ho0) hb); have n1_ := Aside0.mk (Kd.N_lower (Kd.N_mono (ok' := fun k_ => some k_ ≠ (.slice Ao10 t268.length co10 : Value).ownBlock ∧ k_ ≠ gb272) ho0 (fun k_ hk_ => ⟨(Kd.fresh' (Kd.N_lt (by (with_reducible repeat (first | apply Kd.N_alloc | apply Kd.N_drewN | apply Kd.N_drew)); exact (Kd.N_mono (Kd.N_far (p := ⟨gb272, 2, none⟩) (Kd.N_far (p := ⟨gb272, 1, none⟩) (Kd.N_far (p := ⟨gb272, 0, none⟩) (Kd.N_mono HO270.out (fun k_ hk => (⟨hk, hk.2⟩ : _ ∧ k_ ≠ gb272))) (fun _ hk => hk.2) (.int .i64 t266)) (fun _ hk => hk.2) (.int .i64 t267)) (fun _ hk => hk.2) (.slice Ao10 t268.length co10)) (fun _ h_ => h_.1)))) k_ hk_), (Kd.freshB (g := gb272) (o := .cells #[.int .i64 t266, .int .i64 t267, .slice Ao10 t268.length co10] 26 (0, 0)) (by (with_reducible repeat (first | refine blk_drewN ?_ _ | refine blk_drew ?_ | refine blk_alloc ?_ _)); refine blk_put (cs := #[.int .i64 t266, .int .i64 t267, .slice none 0 0]) ?_ 2 _ rfl; (with_reducible repeat (first | refine blk_drewN ?_ _ | refine blk_drew ?_ | refine blk_alloc ?_ _)); refine blk_put (cs := #[.int .i64 t266, .int .i64 0, .slice none 0 0]) ?_ 1 _ rfl; (with_reducible repeat (first | refine blk_drewN ?_ _ | refine blk_drew ?_ | refine blk_alloc ?_ _)); refine blk_put (cs := #[.int .i64 0, .int .i64 0, .slice none 0 0]) ?_ 0 _ rfl; (with_reducible repeat (first | refine blk_drewN ?_ _ | refine blk_drew ?_ | refine blk_alloc ?_ _)); exact BK272.out) k_ hk_)⟩)) (below_size (bel_ HB.out))); have n2_ := Aside0.mk (blk_below (g := gb272) (o := .cells #[.int .i64 t266, .int .i64 t267, .slice Ao10 t268.length co10] 26 (0, 0)) (by (with_reducible repeat (first | refine blk_drewN ?_ _ | refine blk_drew ?_ | refine blk_alloc ?_ _)); refine blk_put (cs := #[.int .i64 t266, .int .i64 t267, .slice none 0 0]) ?_ 2 _ rfl; (with_reducible repeat (first | refine blk_drewN ?_ _ | refine blk_drew ?_ | refine blk_alloc ?_ _)); refine blk_put (cs := #[.int .i64 t266, .int .i64 0, .slice none 0 0]) ?_ 1 _ rfl; (with_reducible repeat (first | refine blk_drewN ?_ _ | refine blk_drew ?_ | refine blk_alloc ?_ _)); refine blk_put (cs := #[.int .i64 0, .int .i64 0, .slice none 0 0]) ?_ 0 _ rfl; (with_reducible repeat (first | refine blk_drewN ?_ _ | refine blk_drew ?_ | refine blk_alloc ?_ _)); exact BK272.out) hb); have n3_ := Aside0.mk (below_step (bel_ HB.out) hb); clear HO270; clear BK272; clear HB; have HO270 := n0_; have HO277 := n1_; have BK272 := n2_; have HB := n3_; clear n0_ n1_ n2_ n3_; (try clear hb); (try clear hb2); (try clear hk); (try clear hi); (try clear ho0)) | ((with_reducible refine gate_dst (N := 5) rfl ?_); (try (refine gate_guard (by rfl) ?_; dsimp only)); refine box_event ?hg (N := 5) ?hd (cs := #[.int .i64 0, .int .i64 0, .slice none 0 0]) (t := 26) ?hr ?_; (case hd => rfl); (case hg => rfl); (case hr => first | (go_simp; done) | (go_simp; rfl)); intro gb278 hg w12 hbox hb; have n0_ := Aside0.mk (Kd.N_below (Kd.N_elderB (by (with_reducible repeat (first | apply Kd.N_alloc | apply Kd.N_drewN | apply Kd.N_drew)); exact HO270.out) gb278 (Nat.le_of_eq hg.symm)) hb); have n1_ := Aside0.mk (Kd.N_below (Kd.N_elderB (by (with_reducible repeat (first | apply Kd.N_alloc | apply Kd.N_drewN | apply Kd.N_drew)); exact HO277.out) gb278 (Nat.le_of_eq hg.symm)) hb); have n2_ := Aside0.mk (blk_below (g := gb272) (o := .cells #[.int .i64 t266, .int .i64 t267, .slice Ao10 t268.length co10] 26 (0, 0)) (fb_ BK272.out) hb); have n3_ := Aside0.mk (below_step (bel_ HB.out) hb); have n4_ := Aside0.mk (hbox); have n5_ := Aside0.mk ((by rw [hg]; exact (below_size (bel_ HB.out)) : w.heap.size ≤ gb278)); have n6_ := Aside0.mk ((by rw [hg]; exact (below_size (bel_ HB.out)) : w.heap.size ≤ gb278)); have n7_ := Aside0.mk ((by rw [hg]; exact Nat.ne_of_lt (blk_lt (g := gb272) (o := .cells #[.int .i64 t266, .int .i64 t267, .slice Ao10 t268.length co10] 26 (0, 0)) (fb_ BK272.out)) : gb272 ≠ gb278)); have n8_ := Aside0.mk ((by rw [hg]; exact Nat.ne_of_gt (blk_lt (g := gb272) (o := .cells #[.int .i64 t266, .int .i64 t267, .slice Ao10 t268.length co10] 26 (0, 0)) (fb_ BK272.out)) : gb278 ≠ gb272)); clear HO270; clear HO277; clear BK272; clear HB; have HO270 := n0_; have HO277 := n1_; have BK272 := n2_; have HB := n3_; have BK278 := n4_; have GW278 := n5_; have GE278 := n6_; have NB272_278 := n7_; have NB278_272 := n8_; clear n0_ n1_ n2_ n3_ n4_ n5_ n6_ n7_ n8_; clear hb hbox hg; have hnb13 := NB278_272.out; have hnc13 := NB272_278.out; have hcz14_0 : w12.cell? ⟨gb278, 0, none⟩ = some (.int .i64 0) := (blk_cell BK278.out 0).trans rfl; have hcz14_1 : w12.cell? ⟨gb278, 1, none⟩ = some (.int .i64 0) := (blk_cell BK278.out 1).trans rfl; have hcz14_2 : w12.cell? ⟨gb278, 2, none⟩ = some (.slice none 0 0) := (blk_cell BK278.out 2).trans rfl; have hfz14_0 := blk_frozen BK278.out 0; have hfz14_1 := blk_frozen BK278.out 1; have hfz14_2 := blk_frozen BK278.out 2; obtain ⟨Ao15, co15, eo15⟩ := Kd.N_slice HO277.out; subst eo15))
  (try simp only [Act.put, sA_, sZ_, sS_])
  go_cut [31] (fun v31 wc => ∃ (kq : Nat) (x31_5 : Bool), v31 = .bool x31_5 ∧ Aside0 (laws_FnVolumes.j0 kq t271 x31_5 t266 t267 t268 t273 t274 t275 = some r) ∧ Aside0 (kq ≤ k) ∧ Aside0 (Kd.N (Kd.slice 3 (Kd.int .i64)) 31 wc w.heap.size (fun k_ => some k_ ≠ ((.slice Ao15 t275.length co15) : Value).ownBlock ∧ k_ ≠ gb272 ∧ k_ ≠ gb278) (.slice Ao10 t268.length co10) t268) ∧ Aside0 (Kd.N (Kd.slice 3 (Kd.int .i64)) 31 wc w.heap.size (fun k_ => some k_ ≠ ((.slice Ao10 t268.length co10) : Value).ownBlock ∧ k_ ≠ gb272 ∧ k_ ≠ gb278) (.slice Ao15 t275.length co15) t275) ∧ Aside0 (wc.heap[gb272]? = some (.cells #[.int .i64 t266, .int .i64 t267, (.slice Ao10 t268.length co10)] 26 (0, 0))) ∧ Aside0 (wc.heap[gb278]? = some (.cells #[.int .i64 t273, .int .i64 t274, (.slice Ao15 t275.length co15)] 26 (0, 0))) ∧ Aside0 (Below w.heap.size w wc))
  case first =>
   have H := HC6.out
   clear HC6
   replace H := Option.bind_eq_some_iff.mp H
   obtain ⟨t279, A160, H⟩ := H
   replace H : (if t279 = true then ((impl_HullOk.f k t273 t274 t275).bind fun t280 => (if t280 = true then ((impl_Mirror.f k 0 0 ([] : List (List Int))).bind fun bt281 => (laws_FnVolumes.j0 k t271 (bt281.1 != 0) t266 t267 t268 t273 t274 t275)) else (laws_FnVolumes.j0 k t271 true t266 t267 t268 t273 t274 t275))) else (laws_FnVolumes.j0 k t271 true t266 t267 t268 t273 t274 t275)) = some r := H
   have A16 := Aside0.mk A160
   clear A160
   by_cases c17 : t279 = true
   ·subst c17
    have H1 : ((impl_HullOk.f k t273 t274 t275).bind fun t280 => (if t280 = true then ((impl_Mirror.f k 0 0 ([] : List (List Int))).bind fun bt281 => (laws_FnVolumes.j0 k t271 (bt281.1 != 0) t266 t267 t268 t273 t274 t275)) else (laws_FnVolumes.j0 k t271 true t266 t267 t268 t273 t274 t275))) = some r := by rw [if_pos rfl] at H; exact H
    clear H
    have H := H1
    clear H1
    replace H := Option.bind_eq_some_iff.mp H
    obtain ⟨t280, A180, H⟩ := H
    replace H : (if t280 = true then ((impl_Mirror.f k 0 0 ([] : List (List Int))).bind fun bt281 => (laws_FnVolumes.j0 k t271 (bt281.1 != 0) t266 t267 t268 t273 t274 t275)) else (laws_FnVolumes.j0 k t271 true t266 t267 t268 t273 t274 t275)) = some r := H
    have A18 := Aside0.mk A180
    clear A180
    by_cases c19 : t280 = true
    ·subst c19
     have H1 : ((impl_Mirror.f k 0 0 ([] : List (List Int))).bind fun bt281 => (laws_FnVolumes.j0 k t271 (bt281.1 != 0) t266 t267 t268 t273 t274 t275)) = some r := by rw [if_pos rfl] at H; exact H
     clear H
     have H := H1
     clear H1
     replace H := Option.bind_eq_some_iff.mp H
     obtain ⟨⟨t281, t282, t283⟩, A200, H⟩ := H
     replace H : (laws_FnVolumes.j0 k t271 (t281 != 0) t266 t267 t268 t273 t274 t275) = some r := H
     have A20 := Aside0.mk A200
     clear A200
     have H' := Aside0.mk H
     clear H
     have hnb21 := NB272_278.out
     have hnc21 := NB278_272.out
     have hcz22_0 : w12.cell? ⟨gb272, 0, none⟩ = some (.int .i64 t266) := (blk_cell BK272.out 0).trans rfl
     have hcz22_1 : w12.cell? ⟨gb272, 1, none⟩ = some (.int .i64 t267) := (blk_cell BK272.out 1).trans rfl
     have hcz22_2 : w12.cell? ⟨gb272, 2, none⟩ = some (.slice Ao10 t268.length co10) := (blk_cell BK272.out 2).trans rfl
     have hfz22_0 := blk_frozen BK272.out 0
     have hfz22_1 := blk_frozen BK272.out 1
     have hfz22_2 := blk_frozen BK272.out 2
     go_wp2_with (first | ((with_reducible refine gate_callee (f := 9) rfl ?_); refine goesL_ (some 19) rfl rfl Try.func9 (by kernel_rfl) rfl #[.agg #[.int .i64 t266, .int .i64 t267, .slice Ao10 t268.length co10]] rfl (by (try simp only [List.map_toArray, List.map_cons, List.map_nil]); first | done | rfl | (simp only [List.length_drop, List.length_take]; rfl)) ?_; (with_reducible refine (impl_HullOk.calls k t266 t267 _ _ t268 true _ ?side1 ?side2 A16.out).mono ?_); (case side1 => refine (Kd.N_reads' (e := 31) (base := w.heap.size) (ok := fun k_ => (((True ∧ k_ ≠ gb272) ∧ some k_ ≠ (.slice Ao15 t275.length co15 : Value).ownBlock) ∧ k_ ≠ gb278)) (n := t268.length) (c := co10) ?_).2.2; exact (by (with_reducible repeat (first | apply Kd.N_alloc | apply Kd.N_drewN | apply Kd.N_drew)); exact (Kd.N_mono (Kd.N_far (p := ⟨gb278, 2, none⟩) (Kd.N_far (p := ⟨gb278, 1, none⟩) (Kd.N_far (p := ⟨gb278, 0, none⟩) (Kd.N_mono HO270.out (fun k_ hk => (⟨hk, hk.2⟩ : _ ∧ k_ ≠ gb278))) (fun _ hk => hk.2) (.int .i64 t273)) (fun _ hk => hk.2) (.int .i64 t274)) (fun _ hk => hk.2) (.slice Ao15 t275.length co15)) (fun _ h_ => h_.1)))); (case side2 => exact (Kd.N_reads' HO270.out).2.1); rintro e w23 ⟨rfl, hb⟩; refine ⟨_, rfl, ?_⟩; have n0_ := Aside0.mk (Kd.N_below (by (with_reducible repeat (first | apply Kd.N_alloc | apply Kd.N_drewN | apply Kd.N_drew)); exact (Kd.N_mono (Kd.N_far (p := ⟨gb278, 2, none⟩) (Kd.N_far (p := ⟨gb278, 1, none⟩) (Kd.N_far (p := ⟨gb278, 0, none⟩) (Kd.N_mono HO270.out (fun k_ hk => (⟨hk, hk.2⟩ : _ ∧ k_ ≠ gb278))) (fun _ hk => hk.2) (.int .i64 t273)) (fun _ hk => hk.2) (.int .i64 t274)) (fun _ hk => hk.2) (.slice Ao15 t275.length co15)) (fun _ h_ => h_.1))) hb); have n1_ := Aside0.mk (Kd.N_below (by (with_reducible repeat (first | apply Kd.N_alloc | apply Kd.N_drewN | apply Kd.N_drew)); exact (Kd.N_mono (Kd.N_far (p := ⟨gb278, 2, none⟩) (Kd.N_far (p := ⟨gb278, 1, none⟩) (Kd.N_far (p := ⟨gb278, 0, none⟩) (Kd.N_mono HO277.out (fun k_ hk => (⟨hk, hk.2⟩ : _ ∧ k_ ≠ gb278))) (fun _ hk => hk.2) (.int .i64 t273)) (fun _ hk => hk.2) (.int .i64 t274)) (fun _ hk => hk.2) (.slice Ao15 t275.length co15)) (fun _ h_ => h_.1))) hb); have n2_ := Aside0.mk (blk_below (g := gb272) (o := .cells #[.int .i64 t266, .int .i64 t267, .slice Ao10 t268.length co10] 26 (0, 0)) (by (with_reducible repeat (first | refine blk_drewN ?_ _ | refine blk_drew ?_ | refine blk_alloc ?_ _)); refine blk_far ?_ NB272_278.out _; (with_reducible repeat (first | refine blk_drewN ?_ _ | refine blk_drew ?_ | refine blk_alloc ?_ _)); refine blk_far ?_ NB272_278.out _; (with_reducible repeat (first | refine blk_drewN ?_ _ | refine blk_drew ?_ | refine blk_alloc ?_ _)); refine blk_far ?_ NB272_278.out _; (with_reducible repeat (first | refine blk_drewN ?_ _ | refine blk_drew ?_ | refine blk_alloc ?_ _)); exact BK272.out) hb); have n3_ := Aside0.mk (blk_below (g := gb278) (o := .cells #[.int .i64 t273, .int .i64 t274, .slice Ao15 t275.length co15] 26 (0, 0)) (by (with_reducible repeat (first | refine blk_drewN ?_ _ | refine blk_drew ?_ | refine blk_alloc ?_ _)); refine blk_put (cs := #[.int .i64 t273, .int .i64 t274, .slice none 0 0]) ?_ 2 _ rfl; (with_reducible repeat (first | refine blk_drewN ?_ _ | refine blk_drew ?_ | refine blk_alloc ?_ _)); refine blk_put (cs := #[.int .i64 t273, .int .i64 0, .slice none 0 0]) ?_ 1 _ rfl; (with_reducible repeat (first | refine blk_drewN ?_ _ | refine blk_drew ?_ | refine blk_alloc ?_ _)); refine blk_put (cs := #[.int .i64 0, .int .i64 0, .slice none 0 0]) ?_ 0 _ rfl; (with_reducible repeat (first | refine blk_drewN ?_ _ | refine blk_drew ?_ | refine blk_alloc ?_ _)); exact BK278.out) hb); have n4_ := Aside0.mk (below_step (bel_ HB.out) hb); clear HO270; clear HO277; clear BK272; clear BK278; clear HB; have HO270 := n0_; have HO277 := n1_; have BK272 := n2_; have BK278 := n3_; have HB := n4_; clear n0_ n1_ n2_ n3_ n4_; (try clear hb); (try clear hb2); (try clear hk); (try clear hi); have hcz24_0 : w23.cell? ⟨gb278, 0, none⟩ = some (.int .i64 t273) := (blk_cell BK278.out 0).trans rfl; have hcz24_1 : w23.cell? ⟨gb278, 1, none⟩ = some (.int .i64 t274) := (blk_cell BK278.out 1).trans rfl; have hcz24_2 : w23.cell? ⟨gb278, 2, none⟩ = some (.slice Ao15 t275.length co15) := (blk_cell BK278.out 2).trans rfl; have hfz24_0 := blk_frozen BK278.out 0; have hfz24_1 := blk_frozen BK278.out 1; have hfz24_2 := blk_frozen BK278.out 2) | (go_at_call 9; (with_reducible refine (impl_HullOk.calls k t273 t274 _ _ t275 true _ ?side1 ?side2 A18.out).mono ?_); (case side1 => repeat (first | exact (Kd.N_reads' HO277.out).2.2 | (with_reducible refine Kd.C_alloc ?_ _) | (with_reducible refine Kd.C_drewN ?_ _) | (with_reducible refine Kd.C_drew ?_))); (case side2 => exact (Kd.N_reads' HO277.out).2.1); rintro e w25 ⟨rfl, hb⟩; have n0_ := Aside0.mk (Kd.N_below (by (with_reducible repeat (first | apply Kd.N_alloc | apply Kd.N_drewN | apply Kd.N_drew)); exact HO270.out) hb); have n1_ := Aside0.mk (Kd.N_below (by (with_reducible repeat (first | apply Kd.N_alloc | apply Kd.N_drewN | apply Kd.N_drew)); exact HO277.out) hb); have n2_ := Aside0.mk (blk_below (g := gb272) (o := .cells #[.int .i64 t266, .int .i64 t267, .slice Ao10 t268.length co10] 26 (0, 0)) (fb_ BK272.out) hb); have n3_ := Aside0.mk (blk_below (g := gb278) (o := .cells #[.int .i64 t273, .int .i64 t274, .slice Ao15 t275.length co15] 26 (0, 0)) (fb_ BK278.out) hb); have n4_ := Aside0.mk (below_step (bel_ HB.out) hb); clear HO270; clear HO277; clear BK272; clear BK278; clear HB; have HO270 := n0_; have HO277 := n1_; have BK272 := n2_; have BK278 := n3_; have HB := n4_; clear n0_ n1_ n2_ n3_ n4_; (try clear hb); (try clear hb2); (try clear hk); (try clear hi)) | (go_at_call 8; (refine (impl_Mirror.calls k 0 0 _ _ ([] : List (List Int)) t281 t282 t283 _ ?side1 ?side2 A20.out).mono ?_); (case side1 => exact Kd.C_nil _ _); (case side2 => exact Nat.le_refl _); rintro e w26 ⟨v284, rfl, ho0, hb⟩; have n0_ := Aside0.mk (Kd.N_elder' (by (with_reducible repeat (first | apply Kd.N_alloc | apply Kd.N_drewN | apply Kd.N_drew)); exact HO270.out) (Kd.N_base ho0) hb); have n1_ := Aside0.mk (Kd.N_elder' (by (with_reducible repeat (first | apply Kd.N_alloc | apply Kd.N_drewN | apply Kd.N_drew)); exact HO277.out) (Kd.N_base ho0) hb); have n2_ := Aside0.mk (Kd.N_lower (Kd.N_mono (ok' := fun k_ => some k_ ≠ (.slice Ao10 t268.length co10 : Value).ownBlock ∧ some k_ ≠ (.slice Ao15 t275.length co15 : Value).ownBlock ∧ k_ ≠ gb272 ∧ k_ ≠ gb278) ho0 (fun k_ hk_ => ⟨(Kd.fresh' (Kd.N_lt (by (with_reducible repeat (first | apply Kd.N_alloc | apply Kd.N_drewN | apply Kd.N_drew)); exact HO270.out)) k_ hk_), (Kd.fresh' (Kd.N_lt (by (with_reducible repeat (first | apply Kd.N_alloc | apply Kd.N_drewN | apply Kd.N_drew)); exact HO277.out)) k_ hk_), (Kd.freshB (g := gb272) (o := .cells #[.int .i64 t266, .int .i64 t267, .slice Ao10 t268.length co10] 26 (0, 0)) (fb_ BK272.out) k_ hk_), (Kd.freshB (g := gb278) (o := .cells #[.int .i64 t273, .int .i64 t274, .slice Ao15 t275.length co15] 26 (0, 0)) (fb_ BK278.out) k_ hk_)⟩)) (below_size (bel_ HB.out))); have n3_ := Aside0.mk (blk_below (g := gb272) (o := .cells #[.int .i64 t266, .int .i64 t267, .slice Ao10 t268.length co10] 26 (0, 0)) (fb_ BK272.out) hb); have n4_ := Aside0.mk (blk_below (g := gb278) (o := .cells #[.int .i64 t273, .int .i64 t274, .slice Ao15 t275.length co15] 26 (0, 0)) (fb_ BK278.out) hb); have n5_ := Aside0.mk (below_step (bel_ HB.out) hb); clear HO270; clear HO277; clear BK272; clear BK278; clear HB; have HO270 := n0_; have HO277 := n1_; have HO285 := n2_; have BK272 := n3_; have BK278 := n4_; have HB := n5_; clear n0_ n1_ n2_ n3_ n4_ n5_; (try clear hb); (try clear hb2); (try clear hk); (try clear hi); (try clear ho0)))
     go_meet
     case rel => exact ⟨_, ((t281 != 0)), (by first | rfl | (simp; done) | (simp [*]; done) | (simp [wrap64]; done)), H', ⟨by first | omega | exact Nat.le_refl _⟩, ⟨by (with_reducible repeat (first | apply Kd.N_alloc | apply Kd.N_drewN | apply Kd.N_drew)); exact Kd.N_mono HO270.out (fun _ hk => ⟨hk.1.1.2, ⟨hk.1.1.1.2, hk.1.2⟩⟩)⟩, ⟨by (with_reducible repeat (first | apply Kd.N_alloc | apply Kd.N_drewN | apply Kd.N_drew)); exact Kd.N_mono HO277.out (fun _ hk => ⟨hk.1.1.1, ⟨hk.1.1.2, hk.1.2⟩⟩)⟩, ⟨by (with_reducible repeat (first | refine blk_drewN ?_ _ | refine blk_drew ?_ | refine blk_alloc ?_ _)); exact BK272.out⟩, ⟨by (with_reducible repeat (first | refine blk_drewN ?_ _ | refine blk_drew ?_ | refine blk_alloc ?_ _)); exact BK278.out⟩, ⟨bel_ HB.out⟩⟩
    ·replace c19 := Bool.eq_false_iff.mpr c19
     subst c19
     have H1 : (laws_FnVolumes.j0 k t271 true t266 t267 t268 t273 t274 t275) = some r := by rw [if_neg (show ¬ (false = true) by decide)] at H; exact H
     clear H
     have H := H1
     clear H1
     have H' := Aside0.mk H
     clear H
     have hnb27 := NB272_278.out
     have hnc27 := NB278_272.out
     have hcz28_0 : w12.cell? ⟨gb272, 0, none⟩ = some (.int .i64 t266) := (blk_cell BK272.out 0).trans rfl
     have hcz28_1 : w12.cell? ⟨gb272, 1, none⟩ = some (.int .i64 t267) := (blk_cell BK272.out 1).trans rfl
     have hcz28_2 : w12.cell? ⟨gb272, 2, none⟩ = some (.slice Ao10 t268.length co10) := (blk_cell BK272.out 2).trans rfl
     have hfz28_0 := blk_frozen BK272.out 0
     have hfz28_1 := blk_frozen BK272.out 1
     have hfz28_2 := blk_frozen BK272.out 2
     go_wp2_with (first | ((with_reducible refine gate_callee (f := 9) rfl ?_); refine goesL_ (some 19) rfl rfl Try.func9 (by kernel_rfl) rfl #[.agg #[.int .i64 t266, .int .i64 t267, .slice Ao10 t268.length co10]] rfl (by (try simp only [List.map_toArray, List.map_cons, List.map_nil]); first | done | rfl | (simp only [List.length_drop, List.length_take]; rfl)) ?_; (with_reducible refine (impl_HullOk.calls k t266 t267 _ _ t268 true _ ?side1 ?side2 A16.out).mono ?_); (case side1 => refine (Kd.N_reads' (e := 31) (base := w.heap.size) (ok := fun k_ => (((True ∧ k_ ≠ gb272) ∧ some k_ ≠ (.slice Ao15 t275.length co15 : Value).ownBlock) ∧ k_ ≠ gb278)) (n := t268.length) (c := co10) ?_).2.2; exact (by (with_reducible repeat (first | apply Kd.N_alloc | apply Kd.N_drewN | apply Kd.N_drew)); exact (Kd.N_mono (Kd.N_far (p := ⟨gb278, 2, none⟩) (Kd.N_far (p := ⟨gb278, 1, none⟩) (Kd.N_far (p := ⟨gb278, 0, none⟩) (Kd.N_mono HO270.out (fun k_ hk => (⟨hk, hk.2⟩ : _ ∧ k_ ≠ gb278))) (fun _ hk => hk.2) (.int .i64 t273)) (fun _ hk => hk.2) (.int .i64 t274)) (fun _ hk => hk.2) (.slice Ao15 t275.length co15)) (fun _ h_ => h_.1)))); (case side2 => exact (Kd.N_reads' HO270.out).2.1); rintro e w29 ⟨rfl, hb⟩; refine ⟨_, rfl, ?_⟩; have n0_ := Aside0.mk (Kd.N_below (by (with_reducible repeat (first | apply Kd.N_alloc | apply Kd.N_drewN | apply Kd.N_drew)); exact (Kd.N_mono (Kd.N_far (p := ⟨gb278, 2, none⟩) (Kd.N_far (p := ⟨gb278, 1, none⟩) (Kd.N_far (p := ⟨gb278, 0, none⟩) (Kd.N_mono HO270.out (fun k_ hk => (⟨hk, hk.2⟩ : _ ∧ k_ ≠ gb278))) (fun _ hk => hk.2) (.int .i64 t273)) (fun _ hk => hk.2) (.int .i64 t274)) (fun _ hk => hk.2) (.slice Ao15 t275.length co15)) (fun _ h_ => h_.1))) hb); have n1_ := Aside0.mk (Kd.N_below (by (with_reducible repeat (first | apply Kd.N_alloc | apply Kd.N_drewN | apply Kd.N_drew)); exact (Kd.N_mono (Kd.N_far (p := ⟨gb278, 2, none⟩) (Kd.N_far (p := ⟨gb278, 1, none⟩) (Kd.N_far (p := ⟨gb278, 0, none⟩) (Kd.N_mono HO277.out (fun k_ hk => (⟨hk, hk.2⟩ : _ ∧ k_ ≠ gb278))) (fun _ hk => hk.2) (.int .i64 t273)) (fun _ hk => hk.2) (.int .i64 t274)) (fun _ hk => hk.2) (.slice Ao15 t275.length co15)) (fun _ h_ => h_.1))) hb); have n2_ := Aside0.mk (blk_below (g := gb272) (o := .cells #[.int .i64 t266, .int .i64 t267, .slice Ao10 t268.length co10] 26 (0, 0)) (by (with_reducible repeat (first | refine blk_drewN ?_ _ | refine blk_drew ?_ | refine blk_alloc ?_ _)); refine blk_far ?_ NB272_278.out _; (with_reducible repeat (first | refine blk_drewN ?_ _ | refine blk_drew ?_ | refine blk_alloc ?_ _)); refine blk_far ?_ NB272_278.out _; (with_reducible repeat (first | refine blk_drewN ?_ _ | refine blk_drew ?_ | refine blk_alloc ?_ _)); refine blk_far ?_ NB272_278.out _; (with_reducible repeat (first | refine blk_drewN ?_ _ | refine blk_drew ?_ | refine blk_alloc ?_ _)); exact BK272.out) hb); have n3_ := Aside0.mk (blk_below (g := gb278) (o := .cells #[.int .i64 t273, .int .i64 t274, .slice Ao15 t275.length co15] 26 (0, 0)) (by (with_reducible repeat (first | refine blk_drewN ?_ _ | refine blk_drew ?_ | refine blk_alloc ?_ _)); refine blk_put (cs := #[.int .i64 t273, .int .i64 t274, .slice none 0 0]) ?_ 2 _ rfl; (with_reducible repeat (first | refine blk_drewN ?_ _ | refine blk_drew ?_ | refine blk_alloc ?_ _)); refine blk_put (cs := #[.int .i64 t273, .int .i64 0, .slice none 0 0]) ?_ 1 _ rfl; (with_reducible repeat (first | refine blk_drewN ?_ _ | refine blk_drew ?_ | refine blk_alloc ?_ _)); refine blk_put (cs := #[.int .i64 0, .int .i64 0, .slice none 0 0]) ?_ 0 _ rfl; (with_reducible repeat (first | refine blk_drewN ?_ _ | refine blk_drew ?_ | refine blk_alloc ?_ _)); exact BK278.out) hb); have n4_ := Aside0.mk (below_step (bel_ HB.out) hb); clear HO270; clear HO277; clear BK272; clear BK278; clear HB; have HO270 := n0_; have HO277 := n1_; have BK272 := n2_; have BK278 := n3_; have HB := n4_; clear n0_ n1_ n2_ n3_ n4_; (try clear hb); (try clear hb2); (try clear hk); (try clear hi); have hcz30_0 : w29.cell? ⟨gb278, 0, none⟩ = some (.int .i64 t273) := (blk_cell BK278.out 0).trans rfl; have hcz30_1 : w29.cell? ⟨gb278, 1, none⟩ = some (.int .i64 t274) := (blk_cell BK278.out 1).trans rfl; have hcz30_2 : w29.cell? ⟨gb278, 2, none⟩ = some (.slice Ao15 t275.length co15) := (blk_cell BK278.out 2).trans rfl; have hfz30_0 := blk_frozen BK278.out 0; have hfz30_1 := blk_frozen BK278.out 1; have hfz30_2 := blk_frozen BK278.out 2) | (go_at_call 9; (with_reducible refine (impl_HullOk.calls k t273 t274 _ _ t275 false _ ?side1 ?side2 A18.out).mono ?_); (case side1 => repeat (first | exact (Kd.N_reads' HO277.out).2.2 | (with_reducible refine Kd.C_alloc ?_ _) | (with_reducible refine Kd.C_drewN ?_ _) | (with_reducible refine Kd.C_drew ?_))); (case side2 => exact (Kd.N_reads' HO277.out).2.1); rintro e w31 ⟨rfl, hb⟩; have n0_ := Aside0.mk (Kd.N_below (by (with_reducible repeat (first | apply Kd.N_alloc | apply Kd.N_drewN | apply Kd.N_drew)); exact HO270.out) hb); have n1_ := Aside0.mk (Kd.N_below (by (with_reducible repeat (first | apply Kd.N_alloc | apply Kd.N_drewN | apply Kd.N_drew)); exact HO277.out) hb); have n2_ := Aside0.mk (blk_below (g := gb272) (o := .cells #[.int .i64 t266, .int .i64 t267, .slice Ao10 t268.length co10] 26 (0, 0)) (fb_ BK272.out) hb); have n3_ := Aside0.mk (blk_below (g := gb278) (o := .cells #[.int .i64 t273, .int .i64 t274, .slice Ao15 t275.length co15] 26 (0, 0)) (fb_ BK278.out) hb); have n4_ := Aside0.mk (below_step (bel_ HB.out) hb); clear HO270; clear HO277; clear BK272; clear BK278; clear HB; have HO270 := n0_; have HO277 := n1_; have BK272 := n2_; have BK278 := n3_; have HB := n4_; clear n0_ n1_ n2_ n3_ n4_; (try clear hb); (try clear hb2); (try clear hk); (try clear hi)))
     go_meet
     case rel => exact ⟨_, (true), (by first | rfl | (simp; done) | (simp [*]; done) | (simp [wrap64]; done)), H', ⟨by first | omega | exact Nat.le_refl _⟩, ⟨by (with_reducible repeat (first | apply Kd.N_alloc | apply Kd.N_drewN | apply Kd.N_drew)); exact Kd.N_mono HO270.out (fun _ hk => ⟨hk.1.2, ⟨hk.1.1.2, hk.2⟩⟩)⟩, ⟨by (with_reducible repeat (first | apply Kd.N_alloc | apply Kd.N_drewN | apply Kd.N_drew)); exact Kd.N_mono HO277.out (fun _ hk => ⟨hk.1.1, ⟨hk.1.2, hk.2⟩⟩)⟩, ⟨by (with_reducible repeat (first | refine blk_drewN ?_ _ | refine blk_drew ?_ | refine blk_alloc ?_ _)); exact BK272.out⟩, ⟨by (with_reducible repeat (first | refine blk_drewN ?_ _ | refine blk_drew ?_ | refine blk_alloc ?_ _)); exact BK278.out⟩, ⟨bel_ HB.out⟩⟩
   ·replace c17 := Bool.eq_false_iff.mpr c17
    subst c17
    have H1 : (laws_FnVolumes.j0 k t271 true t266 t267 t268 t273 t274 t275) = some r := by rw [if_neg (show ¬ (false = true) by decide)] at H; exact H
    clear H
    have H := H1
    clear H1
    have H' := Aside0.mk H
    clear H
    have hnb32 := NB272_278.out
    have hnc32 := NB278_272.out
    have hcz33_0 : w12.cell? ⟨gb272, 0, none⟩ = some (.int .i64 t266) := (blk_cell BK272.out 0).trans rfl
    have hcz33_1 : w12.cell? ⟨gb272, 1, none⟩ = some (.int .i64 t267) := (blk_cell BK272.out 1).trans rfl
    have hcz33_2 : w12.cell? ⟨gb272, 2, none⟩ = some (.slice Ao10 t268.length co10) := (blk_cell BK272.out 2).trans rfl
    have hfz33_0 := blk_frozen BK272.out 0
    have hfz33_1 := blk_frozen BK272.out 1
    have hfz33_2 := blk_frozen BK272.out 2
    go_wp2_with (first | ((with_reducible refine gate_callee (f := 9) rfl ?_); refine goesL_ (some 19) rfl rfl Try.func9 (by kernel_rfl) rfl #[.agg #[.int .i64 t266, .int .i64 t267, .slice Ao10 t268.length co10]] rfl (by (try simp only [List.map_toArray, List.map_cons, List.map_nil]); first | done | rfl | (simp only [List.length_drop, List.length_take]; rfl)) ?_; (with_reducible refine (impl_HullOk.calls k t266 t267 _ _ t268 false _ ?side1 ?side2 A16.out).mono ?_); (case side1 => refine (Kd.N_reads' (e := 31) (base := w.heap.size) (ok := fun k_ => (((True ∧ k_ ≠ gb272) ∧ some k_ ≠ (.slice Ao15 t275.length co15 : Value).ownBlock) ∧ k_ ≠ gb278)) (n := t268.length) (c := co10) ?_).2.2; exact (by (with_reducible repeat (first | apply Kd.N_alloc | apply Kd.N_drewN | apply Kd.N_drew)); exact (Kd.N_mono (Kd.N_far (p := ⟨gb278, 2, none⟩) (Kd.N_far (p := ⟨gb278, 1, none⟩) (Kd.N_far (p := ⟨gb278, 0, none⟩) (Kd.N_mono HO270.out (fun k_ hk => (⟨hk, hk.2⟩ : _ ∧ k_ ≠ gb278))) (fun _ hk => hk.2) (.int .i64 t273)) (fun _ hk => hk.2) (.int .i64 t274)) (fun _ hk => hk.2) (.slice Ao15 t275.length co15)) (fun _ h_ => h_.1)))); (case side2 => exact (Kd.N_reads' HO270.out).2.1); rintro e w34 ⟨rfl, hb⟩; refine ⟨_, rfl, ?_⟩; have n0_ := Aside0.mk (Kd.N_below (by (with_reducible repeat (first | apply Kd.N_alloc | apply Kd.N_drewN | apply Kd.N_drew)); exact (Kd.N_mono (Kd.N_far (p := ⟨gb278, 2, none⟩) (Kd.N_far (p := ⟨gb278, 1, none⟩) (Kd.N_far (p := ⟨gb278, 0, none⟩) (Kd.N_mono HO270.out (fun k_ hk => (⟨hk, hk.2⟩ : _ ∧ k_ ≠ gb278))) (fun _ hk => hk.2) (.int .i64 t273)) (fun _ hk => hk.2) (.int .i64 t274)) (fun _ hk => hk.2) (.slice Ao15 t275.length co15)) (fun _ h_ => h_.1))) hb); have n1_ := Aside0.mk (Kd.N_below (by (with_reducible repeat (first | apply Kd.N_alloc | apply Kd.N_drewN | apply Kd.N_drew)); exact (Kd.N_mono (Kd.N_far (p := ⟨gb278, 2, none⟩) (Kd.N_far (p := ⟨gb278, 1, none⟩) (Kd.N_far (p := ⟨gb278, 0, none⟩) (Kd.N_mono HO277.out (fun k_ hk => (⟨hk, hk.2⟩ : _ ∧ k_ ≠ gb278))) (fun _ hk => hk.2) (.int .i64 t273)) (fun _ hk => hk.2) (.int .i64 t274)) (fun _ hk => hk.2) (.slice Ao15 t275.length co15)) (fun _ h_ => h_.1))) hb); have n2_ := Aside0.mk (blk_below (g := gb272) (o := .cells #[.int .i64 t266, .int .i64 t267, .slice Ao10 t268.length co10] 26 (0, 0)) (by (with_reducible repeat (first | refine blk_drewN ?_ _ | refine blk_drew ?_ | refine blk_alloc ?_ _)); refine blk_far ?_ NB272_278.out _; (with_reducible repeat (first | refine blk_drewN ?_ _ | refine blk_drew ?_ | refine blk_alloc ?_ _)); refine blk_far ?_ NB272_278.out _; (with_reducible repeat (first | refine blk_drewN ?_ _ | refine blk_drew ?_ | refine blk_alloc ?_ _)); refine blk_far ?_ NB272_278.out _; (with_reducible repeat (first | refine blk_drewN ?_ _ | refine blk_drew ?_ | refine blk_alloc ?_ _)); exact BK272.out) hb); have n3_ := Aside0.mk (blk_below (g := gb278) (o := .cells #[.int .i64 t273, .int .i64 t274, .slice Ao15 t275.length co15] 26 (0, 0)) (by (with_reducible repeat (first | refine blk_drewN ?_ _ | refine blk_drew ?_ | refine blk_alloc ?_ _)); refine blk_put (cs := #[.int .i64 t273, .int .i64 t274, .slice none 0 0]) ?_ 2 _ rfl; (with_reducible repeat (first | refine blk_drewN ?_ _ | refine blk_drew ?_ | refine blk_alloc ?_ _)); refine blk_put (cs := #[.int .i64 t273, .int .i64 0, .slice none 0 0]) ?_ 1 _ rfl; (with_reducible repeat (first | refine blk_drewN ?_ _ | refine blk_drew ?_ | refine blk_alloc ?_ _)); refine blk_put (cs := #[.int .i64 0, .int .i64 0, .slice none 0 0]) ?_ 0 _ rfl; (with_reducible repeat (first | refine blk_drewN ?_ _ | refine blk_drew ?_ | refine blk_alloc ?_ _)); exact BK278.out) hb); have n4_ := Aside0.mk (below_step (bel_ HB.out) hb); clear HO270; clear HO277; clear BK272; clear BK278; clear HB; have HO270 := n0_; have HO277 := n1_; have BK272 := n2_; have BK278 := n3_; have HB := n4_; clear n0_ n1_ n2_ n3_ n4_; (try clear hb); (try clear hb2); (try clear hk); (try clear hi)))
    go_meet
    case rel => exact ⟨_, (true), (by first | rfl | (simp; done) | (simp [*]; done) | (simp [wrap64]; done)), H', ⟨by first | omega | exact Nat.le_refl _⟩, ⟨by (with_reducible repeat (first | apply Kd.N_alloc | apply Kd.N_drewN | apply Kd.N_drew)); exact Kd.N_mono HO270.out (fun _ hk => ⟨hk.1.2, ⟨hk.1.1.2, hk.2⟩⟩)⟩, ⟨by (with_reducible repeat (first | apply Kd.N_alloc | apply Kd.N_drewN | apply Kd.N_drew)); exact Kd.N_mono HO277.out (fun _ hk => ⟨hk.1.1, ⟨hk.1.2, hk.2⟩⟩)⟩, ⟨by (with_reducible repeat (first | refine blk_drewN ?_ _ | refine blk_drew ?_ | refine blk_alloc ?_ _)); exact BK272.out⟩, ⟨by (with_reducible repeat (first | refine blk_drewN ?_ _ | refine blk_drew ?_ | refine blk_alloc ?_ _)); exact BK278.out⟩, ⟨bel_ HB.out⟩⟩
  case rest =>
   clear HC6
   try clear c3
   try clear hcz14_0
   try clear hcz14_1
   try clear hcz14_2
   try clear hcz9_0
   try clear hcz9_1
   try clear hcz9_2
   try clear hfz14_0
   try clear hfz14_1
   try clear hfz14_2
   try clear hfz9_0
   try clear hfz9_1
   try clear hfz9_2
   obtain ⟨kq, x31_5, rfl, HA, HJ5, HO_273002, HO_279002, BK272, BK278, HB⟩ := hcut
   cases kq with
   | zero => exact absurd HA.out (by simp [laws_FnVolumes.j0])
   | succ kj5 =>
    have H := HA.out
    clear HA
    simp only [laws_FnVolumes.j0] at H
    by_cases c35 : x31_5 = true
    ·subst c35
     have H1 : (some false) = some r := by rw [if_pos rfl] at H; exact H
     clear H
     have H := H1
     clear H1
     obtain rfl := Option.some.inj H
     go_wp2
     go_ret
     exact ⟨by first | rfl | (simp [errW_none, errW_some] <;> rfl) | (simp [*, errW_none, errW_some] <;> rfl), bel_ HB.out⟩
    ·replace c35 := Bool.eq_false_iff.mpr c35
     subst c35
     have H1 : ((impl_Strips2.f kj5 t266 t267 t268 t271).bind fun t286 => (laws_FnVolumes.l0 kj5 t271 0 t286 0 t266 t267 t268 t273 t274 t275)) = some r := by rw [if_neg (show ¬ (false = true) by decide)] at H; exact H
     clear H
     have H := H1
     clear H1
     replace H := Option.bind_eq_some_iff.mp H
     obtain ⟨t286, A360, H⟩ := H
     replace H : (laws_FnVolumes.l0 kj5 t271 0 t286 0 t266 t267 t268 t273 t274 t275) = some r := H
     have A36 := Aside0.mk A360
     clear A360
     have H' := Aside0.mk H
     clear H
     have hnb37 := NB272_278.out
     have hnc37 := NB278_272.out
     have hcz38_0 : wc.cell? ⟨gb272, 0, none⟩ = some (.int .i64 t266) := (blk_cell BK272.out 0).trans rfl
     have hcz38_1 : wc.cell? ⟨gb272, 1, none⟩ = some (.int .i64 t267) := (blk_cell BK272.out 1).trans rfl
     have hcz38_2 : wc.cell? ⟨gb272, 2, none⟩ = some (.slice Ao10 t268.length co10) := (blk_cell BK272.out 2).trans rfl
     have hfz38_0 := blk_frozen BK272.out 0
     have hfz38_1 := blk_frozen BK272.out 1
     have hfz38_2 := blk_frozen BK272.out 2
     go_wp2_with (first | ((with_reducible refine gate_callee (f := 10) rfl ?_); refine goesL_ (some 34) rfl rfl Try.func10 (by kernel_rfl) rfl #[.agg #[.int .i64 t266, .int .i64 t267, .slice Ao10 t268.length co10], .int .i64 t271] rfl (by (try simp only [List.map_toArray, List.map_cons, List.map_nil]); first | done | rfl | (simp only [List.length_drop, List.length_take]; rfl)) ?_; (with_reducible refine (impl_Strips2.calls kj5 t266 t267 _ _ t268 t271 t286 _ ?side1 ?side2 A36.out).mono ?_); (case side1 => repeat (first | exact (Kd.N_reads' HO_273002.out).2.2 | (with_reducible refine Kd.C_alloc ?_ _) | (with_reducible refine Kd.C_drewN ?_ _) | (with_reducible refine Kd.C_drew ?_))); (case side2 => exact (Kd.N_reads' HO_273002.out).2.1); rintro e w39 ⟨v287, rfl, ho0, hb⟩; refine ⟨_, rfl, ?_⟩; have n0_ := Aside0.mk (Kd.N_elder' (by (with_reducible repeat (first | apply Kd.N_alloc | apply Kd.N_drewN | apply Kd.N_drew)); exact HO_273002.out) (Kd.R_base ho0) hb); have n1_ := Aside0.mk (Kd.N_elder' (by (with_reducible repeat (first | apply Kd.N_alloc | apply Kd.N_drewN | apply Kd.N_drew)); exact HO_279002.out) (Kd.R_base ho0) hb); have n2_ := Aside0.mk (Kd.R_lower ho0 (below_size (bel_ HB.out))); have n3_ := Aside0.mk (blk_below (g := gb272) (o := .cells #[.int .i64 t266, .int .i64 t267, .slice Ao10 t268.length co10] 26 (0, 0)) (fb_ BK272.out) hb); have n4_ := Aside0.mk (blk_below (g := gb278) (o := .cells #[.int .i64 t273, .int .i64 t274, .slice Ao15 t275.length co15] 26 (0, 0)) (fb_ BK278.out) hb); have n5_ := Aside0.mk (below_step (bel_ HB.out) hb); clear HO_273002; clear HO_279002; clear BK272; clear BK278; clear HB; have HO_273002 := n0_; have HO_279002 := n1_; have HO288 := n2_; have BK272 := n3_; have BK278 := n4_; have HB := n5_; clear n0_ n1_ n2_ n3_ n4_ n5_; (try clear hb); (try clear hb2); (try clear hk); (try clear hi); (try clear ho0)))
     go_loopg [6, 8] kj5 (fun kq v6 v8 w' => ∃ (x6_2 : Int) (x8_2 : Int), v6 = .int .i64 x6_2 ∧ v8 = .int .i64 x8_2 ∧ Aside0 (laws_FnVolumes.l0 kq t271 x6_2 t286 x8_2 t266 t267 t268 t273 t274 t275 = some r) ∧ Aside0 (kq ≤ kj5) ∧ Aside0 (Kd.R (Kd.int .i64) 3 w' w.heap.size (fun _ => True) v287 t286) ∧ Aside0 (Kd.N (Kd.slice 3 (Kd.int .i64)) 31 w' w.heap.size (fun k_ => some k_ ≠ (v287 : Value).ownBlock ∧ some k_ ≠ ((.slice Ao15 t275.length co15) : Value).ownBlock ∧ k_ ≠ gb272 ∧ k_ ≠ gb278) (.slice Ao10 t268.length co10) t268) ∧ Aside0 (Kd.N (Kd.slice 3 (Kd.int .i64)) 31 w' w.heap.size (fun k_ => some k_ ≠ (v287 : Value).ownBlock ∧ some k_ ≠ ((.slice Ao10 t268.length co10) : Value).ownBlock ∧ k_ ≠ gb272 ∧ k_ ≠ gb278) (.slice Ao15 t275.length co15) t275) ∧ Aside0 (w'.heap[gb272]? = some (.cells #[.int .i64 t266, .int .i64 t267, (.slice Ao10 t268.length co10)] 26 (0, 0))) ∧ Aside0 (w'.heap[gb278]? = some (.cells #[.int .i64 t273, .int .i64 t274, (.slice Ao15 t275.length co15)] 26 (0, 0))) ∧ Aside0 (Below w.heap.size w w'))
     case atStart => exact ⟨(0), (0), (by first | rfl | (simp; done) | (simp [*]; done) | (simp [wrap64]; done)), (by first | rfl | (simp; done) | (simp [*]; done) | (simp [wrap64]; done)), H', ⟨Nat.le_refl _⟩, ⟨by (with_reducible repeat (first | apply Kd.R_alloc | apply Kd.R_drewN | apply Kd.R_drew)); exact HO288.out⟩, ⟨by (with_reducible repeat (first | apply Kd.N_alloc | apply Kd.N_drewN | apply Kd.N_drew)); exact Kd.N_mono HO_273002.out (fun _ hk => ⟨hk.2, ⟨hk.1.1, ⟨hk.1.2.1, hk.1.2.2⟩⟩⟩)⟩, ⟨by (with_reducible repeat (first | apply Kd.N_alloc | apply Kd.N_drewN | apply Kd.N_drew)); exact Kd.N_mono HO_279002.out (fun _ hk => ⟨hk.2, ⟨hk.1.1, ⟨hk.1.2.1, hk.1.2.2⟩⟩⟩)⟩, ⟨by (with_reducible repeat (first | refine blk_drewN ?_ _ | refine blk_drew ?_ | refine blk_alloc ?_ _)); exact BK272.out⟩, ⟨by (with_reducible repeat (first | refine blk_drewN ?_ _ | refine blk_drew ?_ | refine blk_alloc ?_ _)); exact BK278.out⟩, ⟨bel_ HB.out⟩⟩
     case round =>
      clear H'
      try clear c3
      try clear c35
      try clear hcz14_0
      try clear hcz14_1
      try clear hcz14_2
      try clear hcz38_0
      try clear hcz38_1
      try clear hcz38_2
      try clear hcz9_0
      try clear hcz9_1
      try clear hcz9_2
      try clear hfz14_0
      try clear hfz14_1
      try clear hfz14_2
      try clear hfz38_0
      try clear hfz38_1
      try clear hfz38_2
      try clear hfz9_0
      try clear hfz9_1
      try clear hfz9_2
      obtain ⟨x6_2, x8_2, rfl, rfl, HA, HK2, HO_7, HO_273002, HO_279002, BK272, BK278, HB⟩ := hrel
      cases gk with
      | zero => exact absurd HA.out (by simp [laws_FnVolumes.l0])
      | succ k2 =>
       have H := HA.out
       clear HA
       simp only [laws_FnVolumes.l0] at H
       by_cases c40 : x8_2 < (t286.length : Int)
       ·rw [if_pos c40] at H
        have c40b0 : decide (x8_2 < (t286.length : Int)) = true := decide_eq_true c40
        clear c40
        by_cases c41 : 0 ≤ x8_2
        ·rw [if_pos c41] at H
         have c41b0 : decide (0 ≤ x8_2) = true := decide_eq_true c41
         clear c41
         have H' := Aside0.mk H
         clear H
         obtain ⟨Ao42, co42, eo42⟩ := Kd.R_slice HO_7.out
         subst eo42
         have p289 : 0 ≤ (x8_2 : Int) := of_decide_eq_true (by first | (with_reducible assumption) | assumption)
         have q289 : x8_2 < (t286.length : Int) := of_decide_eq_true (by first | (with_reducible assumption) | assumption)
         obtain ⟨ad289, e289, hx289_0⟩ := Kd.at_int (Kd.R_reads' HO_7.out).2.2 x8_2 p289 q289
         cases e289
         replace p289 := eq_true p289
         replace q289 := eq_true q289
         go_wp2
         go_roundg k2
         case measure => have := HJ5.out; have := HK2.out; omega
         case rel => exact ⟨(wrap64 (x6_2 + (rd t286 x8_2))), (wrap64 (x8_2 + 1)), (by first | rfl | (simp; done) | (simp [*]; done) | (simp [wrap64]; done)), (by first | rfl | (simp; done) | (simp [*]; done) | (simp [wrap64]; done)), H', ⟨by have := HJ5.out; have := HK2.out; omega⟩, ⟨by (with_reducible repeat (first | apply Kd.R_alloc | apply Kd.R_drewN | apply Kd.R_drew)); exact HO_7.out⟩, ⟨by (with_reducible repeat (first | apply Kd.N_alloc | apply Kd.N_drewN | apply Kd.N_drew)); exact HO_273002.out⟩, ⟨by (with_reducible repeat (first | apply Kd.N_alloc | apply Kd.N_drewN | apply Kd.N_drew)); exact HO_279002.out⟩, ⟨by (with_reducible repeat (first | refine blk_drewN ?_ _ | refine blk_drew ?_ | refine blk_alloc ?_ _)); exact BK272.out⟩, ⟨by (with_reducible repeat (first | refine blk_drewN ?_ _ | refine blk_drew ?_ | refine blk_alloc ?_ _)); exact BK278.out⟩, ⟨bel_ HB.out⟩⟩
        ·rw [if_neg c41] at H
         exact absurd H (by simp)
       ·rw [if_neg c40] at H
        have c40b0 : decide (x8_2 < (t286.length : Int)) = false := decide_eq_false c40
        clear c40
        have HC43 := Aside0.mk H
        clear H
        obtain ⟨Ao44, co44, eo44⟩ := Kd.R_slice HO_7.out
        subst eo44
        go_upto_region 13 with (fail)
        go_cut [72] (fun v72 wc => ∃ (kq : Nat) (x72_42 : Bool), v72 = .bool x72_42 ∧ Aside0 (laws_FnVolumes.j2 kq t271 x6_2 x72_42 t266 t267 t268 t273 t274 t275 = some r) ∧ Aside0 (kq ≤ k2) ∧ Aside0 (Kd.N (Kd.slice 3 (Kd.int .i64)) 31 wc w.heap.size (fun k_ => some k_ ≠ ((.slice Ao15 t275.length co15) : Value).ownBlock ∧ k_ ≠ gb272 ∧ k_ ≠ gb278) (.slice Ao10 t268.length co10) t268) ∧ Aside0 (Kd.N (Kd.slice 3 (Kd.int .i64)) 31 wc w.heap.size (fun k_ => some k_ ≠ ((.slice Ao10 t268.length co10) : Value).ownBlock ∧ k_ ≠ gb272 ∧ k_ ≠ gb278) (.slice Ao15 t275.length co15) t275) ∧ Aside0 (wc.heap[gb272]? = some (.cells #[.int .i64 t266, .int .i64 t267, (.slice Ao10 t268.length co10)] 26 (0, 0))) ∧ Aside0 (wc.heap[gb278]? = some (.cells #[.int .i64 t273, .int .i64 t274, (.slice Ao15 t275.length co15)] 26 (0, 0))) ∧ Aside0 (Below w.heap.size w wc))
        case first =>
         have H := HC43.out
         clear HC43
         by_cases c45 : (t286.length : Int) = (wrap64 ((t268.length : Int) - 1))
         ·rw [if_pos c45] at H
          have c45b0 : ((t286.length : Int) == (wrap64 ((t268.length : Int) - 1))) = true := beq_iff_eq.mpr c45
          have c45b1 : ((t286.length : Int) != (wrap64 ((t268.length : Int) - 1))) = false := bne_eq_false_iff_eq.mpr c45
          clear c45
          (first | rw [c45b0] | (simp only [i64_w, i32_w]; rw [c45b0]) | skip)
          replace H := Option.bind_eq_some_iff.mp H
          obtain ⟨t290, A460, H⟩ := H
          replace H : (if x6_2 = t290 then (if t271 > 0 then ((impl_Volume2.f k2 t266 t267 t268 (wrap64 (t271 - 1))).bind fun t291 => (laws_FnVolumes.j2 k2 t271 x6_2 (decide (x6_2 < t291)) t266 t267 t268 t273 t274 t275)) else (laws_FnVolumes.j2 k2 t271 x6_2 false t266 t267 t268 t273 t274 t275)) else (laws_FnVolumes.j2 k2 t271 x6_2 true t266 t267 t268 t273 t274 t275)) = some r := H
          have A46 := Aside0.mk A460
          clear A460
          by_cases c47 : x6_2 = t290
          ·rw [if_pos c47] at H
           have c47b0 : (x6_2 == t290) = true := beq_iff_eq.mpr c47
           have c47b1 : (x6_2 != t290) = false := bne_eq_false_iff_eq.mpr c47
           clear c47
           by_cases c48 : t271 > 0
           ·rw [if_pos c48] at H
            have c48b0 : decide (0 < t271) = true := decide_eq_true c48
            clear c48
            replace H := Option.bind_eq_some_iff.mp H
            obtain ⟨t291, A490, H⟩ := H
            replace H : (laws_FnVolumes.j2 k2 t271 x6_2 (decide (x6_2 < t291)) t266 t267 t268 t273 t274 t275) = some r := H
            have A49 := Aside0.mk A490
            clear A490
            have H' := Aside0.mk H
            clear H
            have hnb50 := NB272_278.out
            have hnc50 := NB278_272.out
            have hcz51_0 : wr.cell? ⟨gb272, 0, none⟩ = some (.int .i64 t266) := (blk_cell BK272.out 0).trans rfl
            have hcz51_1 : wr.cell? ⟨gb272, 1, none⟩ = some (.int .i64 t267) := (blk_cell BK272.out 1).trans rfl
            have hcz51_2 : wr.cell? ⟨gb272, 2, none⟩ = some (.slice Ao10 t268.length co10) := (blk_cell BK272.out 2).trans rfl
            have hfz51_0 := blk_frozen BK272.out 0
            have hfz51_1 := blk_frozen BK272.out 1
            have hfz51_2 := blk_frozen BK272.out 2
            go_wp2_with (first | (go_at_call 11; (with_reducible refine (impl_Volume2.calls k2 t266 t267 _ _ t268 t271 t290 _ ?side1 ?side2 A46.out).mono ?_); (case side1 => repeat (first | exact (Kd.N_reads' HO_273002.out).2.2 | (with_reducible refine Kd.C_alloc ?_ _) | (with_reducible refine Kd.C_drewN ?_ _) | (with_reducible refine Kd.C_drew ?_))); (case side2 => exact (Kd.N_reads' HO_273002.out).2.1); rintro e w52 ⟨rfl, hb⟩; have n0_ := Aside0.mk (Kd.R_below (fr_ HO_7.out) hb); have n1_ := Aside0.mk (Kd.N_below (by (with_reducible repeat (first | apply Kd.N_alloc | apply Kd.N_drewN | apply Kd.N_drew)); exact HO_273002.out) hb); have n2_ := Aside0.mk (Kd.N_below (by (with_reducible repeat (first | apply Kd.N_alloc | apply Kd.N_drewN | apply Kd.N_drew)); exact HO_279002.out) hb); have n3_ := Aside0.mk (blk_below (g := gb272) (o := .cells #[.int .i64 t266, .int .i64 t267, .slice Ao10 t268.length co10] 26 (0, 0)) (fb_ BK272.out) hb); have n4_ := Aside0.mk (blk_below (g := gb278) (o := .cells #[.int .i64 t273, .int .i64 t274, .slice Ao15 t275.length co15] 26 (0, 0)) (fb_ BK278.out) hb); have n5_ := Aside0.mk (below_step (bel_ HB.out) hb); clear HO_7; clear HO_273002; clear HO_279002; clear BK272; clear BK278; clear HB; have HO_7 := n0_; have HO_273002 := n1_; have HO_279002 := n2_; have BK272 := n3_; have BK278 := n4_; have HB := n5_; clear n0_ n1_ n2_ n3_ n4_ n5_; (try clear hb); (try clear hb2); (try clear hk); (try clear hi); have hcz53_0 : w52.cell? ⟨gb272, 0, none⟩ = some (.int .i64 t266) := (blk_cell BK272.out 0).trans rfl; have hcz53_1 : w52.cell? ⟨gb272, 1, none⟩ = some (.int .i64 t267) := (blk_cell BK272.out 1).trans rfl; have hcz53_2 : w52.cell? ⟨gb272, 2, none⟩ = some (.slice Ao10 t268.length co10) := (blk_cell BK272.out 2).trans rfl; have hfz53_0 := blk_frozen BK272.out 0; have hfz53_1 := blk_frozen BK272.out 1; have hfz53_2 := blk_frozen BK272.out 2) | (go_at_call 11; (with_reducible refine (impl_Volume2.calls k2 t266 t267 _ _ t268 (wrap64 (t271 - 1)) t291 _ ?side1 ?side2 A49.out).mono ?_); (case side1 => repeat (first | exact (Kd.N_reads' HO_273002.out).2.2 | (with_reducible refine Kd.C_alloc ?_ _) | (with_reducible refine Kd.C_drewN ?_ _) | (with_reducible refine Kd.C_drew ?_))); (case side2 => exact (Kd.N_reads' HO_273002.out).2.1); rintro e w54 ⟨rfl, hb⟩; have n0_ := Aside0.mk (Kd.R_below (fr_ HO_7.out) hb); have n1_ := Aside0.mk (Kd.N_below (by (with_reducible repeat (first | apply Kd.N_alloc | apply Kd.N_drewN | apply Kd.N_drew)); exact HO_273002.out) hb); have n2_ := Aside0.mk (Kd.N_below (by (with_reducible repeat (first | apply Kd.N_alloc | apply Kd.N_drewN | apply Kd.N_drew)); exact HO_279002.out) hb); have n3_ := Aside0.mk (blk_below (g := gb272) (o := .cells #[.int .i64 t266, .int .i64 t267, .slice Ao10 t268.length co10] 26 (0, 0)) (fb_ BK272.out) hb); have n4_ := Aside0.mk (blk_below (g := gb278) (o := .cells #[.int .i64 t273, .int .i64 t274, .slice Ao15 t275.length co15] 26 (0, 0)) (fb_ BK278.out) hb); have n5_ := Aside0.mk (below_step (bel_ HB.out) hb); clear HO_7; clear HO_273002; clear HO_279002; clear BK272; clear BK278; clear HB; have HO_7 := n0_; have HO_273002 := n1_; have HO_279002 := n2_; have BK272 := n3_; have BK278 := n4_; have HB := n5_; clear n0_ n1_ n2_ n3_ n4_ n5_; (try clear hb); (try clear hb2); (try clear hk); (try clear hi)))
            go_meet
            case rel => exact ⟨_, (decide (x6_2 < t291)), (by first | rfl | (simp; done) | (simp [*]; done) | (simp [wrap64]; done)), H', ⟨by have := HJ5.out; have := HK2.out; first | omega | exact Nat.le_refl _⟩, ⟨by (with_reducible repeat (first | apply Kd.N_alloc | apply Kd.N_drewN | apply Kd.N_drew)); exact Kd.N_mono HO_273002.out (fun _ hk => ⟨hk.2.1, ⟨hk.2.2.1, hk.2.2.2⟩⟩)⟩, ⟨by (with_reducible repeat (first | apply Kd.N_alloc | apply Kd.N_drewN | apply Kd.N_drew)); exact Kd.N_mono HO_279002.out (fun _ hk => ⟨hk.2.1, ⟨hk.2.2.1, hk.2.2.2⟩⟩)⟩, ⟨by (with_reducible repeat (first | refine blk_drewN ?_ _ | refine blk_drew ?_ | refine blk_alloc ?_ _)); exact BK272.out⟩, ⟨by (with_reducible repeat (first | refine blk_drewN ?_ _ | refine blk_drew ?_ | refine blk_alloc ?_ _)); exact BK278.out⟩, ⟨bel_ HB.out⟩⟩
           ·rw [if_neg c48] at H
            have c48b0 : decide (0 < t271) = false := decide_eq_false c48
            clear c48
            have H' := Aside0.mk H
            clear H
            have hnb55 := NB272_278.out
            have hnc55 := NB278_272.out
            have hcz56_0 : wr.cell? ⟨gb272, 0, none⟩ = some (.int .i64 t266) := (blk_cell BK272.out 0).trans rfl
            have hcz56_1 : wr.cell? ⟨gb272, 1, none⟩ = some (.int .i64 t267) := (blk_cell BK272.out 1).trans rfl
            have hcz56_2 : wr.cell? ⟨gb272, 2, none⟩ = some (.slice Ao10 t268.length co10) := (blk_cell BK272.out 2).trans rfl
            have hfz56_0 := blk_frozen BK272.out 0
            have hfz56_1 := blk_frozen BK272.out 1
            have hfz56_2 := blk_frozen BK272.out 2
            go_wp2_with (first | (go_at_call 11; (with_reducible refine (impl_Volume2.calls k2 t266 t267 _ _ t268 t271 t290 _ ?side1 ?side2 A46.out).mono ?_); (case side1 => repeat (first | exact (Kd.N_reads' HO_273002.out).2.2 | (with_reducible refine Kd.C_alloc ?_ _) | (with_reducible refine Kd.C_drewN ?_ _) | (with_reducible refine Kd.C_drew ?_))); (case side2 => exact (Kd.N_reads' HO_273002.out).2.1); rintro e w57 ⟨rfl, hb⟩; have n0_ := Aside0.mk (Kd.R_below (fr_ HO_7.out) hb); have n1_ := Aside0.mk (Kd.N_below (by (with_reducible repeat (first | apply Kd.N_alloc | apply Kd.N_drewN | apply Kd.N_drew)); exact HO_273002.out) hb); have n2_ := Aside0.mk (Kd.N_below (by (with_reducible repeat (first | apply Kd.N_alloc | apply Kd.N_drewN | apply Kd.N_drew)); exact HO_279002.out) hb); have n3_ := Aside0.mk (blk_below (g := gb272) (o := .cells #[.int .i64 t266, .int .i64 t267, .slice Ao10 t268.length co10] 26 (0, 0)) (fb_ BK272.out) hb); have n4_ := Aside0.mk (blk_below (g := gb278) (o := .cells #[.int .i64 t273, .int .i64 t274, .slice Ao15 t275.length co15] 26 (0, 0)) (fb_ BK278.out) hb); have n5_ := Aside0.mk (below_step (bel_ HB.out) hb); clear HO_7; clear HO_273002; clear HO_279002; clear BK272; clear BK278; clear HB; have HO_7 := n0_; have HO_273002 := n1_; have HO_279002 := n2_; have BK272 := n3_; have BK278 := n4_; have HB := n5_; clear n0_ n1_ n2_ n3_ n4_ n5_; (try clear hb); (try clear hb2); (try clear hk); (try clear hi)))
            go_meet
            case rel => exact ⟨_, (false), (by first | rfl | (simp; done) | (simp [*]; done) | (simp [wrap64]; done)), H', ⟨by have := HJ5.out; have := HK2.out; first | omega | exact Nat.le_refl _⟩, ⟨by (with_reducible repeat (first | apply Kd.N_alloc | apply Kd.N_drewN | apply Kd.N_drew)); exact Kd.N_mono HO_273002.out (fun _ hk => ⟨hk.2.1, ⟨hk.2.2.1, hk.2.2.2⟩⟩)⟩, ⟨by (with_reducible repeat (first | apply Kd.N_alloc | apply Kd.N_drewN | apply Kd.N_drew)); exact Kd.N_mono HO_279002.out (fun _ hk => ⟨hk.2.1, ⟨hk.2.2.1, hk.2.2.2⟩⟩)⟩, ⟨by (with_reducible repeat (first | refine blk_drewN ?_ _ | refine blk_drew ?_ | refine blk_alloc ?_ _)); exact BK272.out⟩, ⟨by (with_reducible repeat (first | refine blk_drewN ?_ _ | refine blk_drew ?_ | refine blk_alloc ?_ _)); exact BK278.out⟩, ⟨bel_ HB.out⟩⟩
          ·rw [if_neg c47] at H
           have c47b0 : (x6_2 == t290) = false := beq_eq_false_iff_ne.mpr c47
           have c47b1 : (x6_2 != t290) = true := bne_iff_ne.mpr c47
           have H' := Aside0.mk H
           clear H
           have hnb58 := NB272_278.out
           have hnc58 := NB278_272.out
           have hcz59_0 : wr.cell? ⟨gb272, 0, none⟩ = some (.int .i64 t266) := (blk_cell BK272.out 0).trans rfl
           have hcz59_1 : wr.cell? ⟨gb272, 1, none⟩ = some (.int .i64 t267) := (blk_cell BK272.out 1).trans rfl
           have hcz59_2 : wr.cell? ⟨gb272, 2, none⟩ = some (.slice Ao10 t268.length co10) := (blk_cell BK272.out 2).trans rfl
           have hfz59_0 := blk_frozen BK272.out 0
           have hfz59_1 := blk_frozen BK272.out 1
           have hfz59_2 := blk_frozen BK272.out 2
           go_wp2_with (first | (go_at_call 11; (with_reducible refine (impl_Volume2.calls k2 t266 t267 _ _ t268 t271 t290 _ ?side1 ?side2 A46.out).mono ?_); (case side1 => repeat (first | exact (Kd.N_reads' HO_273002.out).2.2 | (with_reducible refine Kd.C_alloc ?_ _) | (with_reducible refine Kd.C_drewN ?_ _) | (with_reducible refine Kd.C_drew ?_))); (case side2 => exact (Kd.N_reads' HO_273002.out).2.1); rintro e w60 ⟨rfl, hb⟩; have n0_ := Aside0.mk (Kd.R_below (fr_ HO_7.out) hb); have n1_ := Aside0.mk (Kd.N_below (by (with_reducible repeat (first | apply Kd.N_alloc | apply Kd.N_drewN | apply Kd.N_drew)); exact HO_273002.out) hb); have n2_ := Aside0.mk (Kd.N_below (by (with_reducible repeat (first | apply Kd.N_alloc | apply Kd.N_drewN | apply Kd.N_drew)); exact HO_279002.out) hb); have n3_ := Aside0.mk (blk_below (g := gb272) (o := .cells #[.int .i64 t266, .int .i64 t267, .slice Ao10 t268.length co10] 26 (0, 0)) (fb_ BK272.out) hb); have n4_ := Aside0.mk (blk_below (g := gb278) (o := .cells #[.int .i64 t273, .int .i64 t274, .slice Ao15 t275.length co15] 26 (0, 0)) (fb_ BK278.out) hb); have n5_ := Aside0.mk (below_step (bel_ HB.out) hb); clear HO_7; clear HO_273002; clear HO_279002; clear BK272; clear BK278; clear HB; have HO_7 := n0_; have HO_273002 := n1_; have HO_279002 := n2_; have BK272 := n3_; have BK278 := n4_; have HB := n5_; clear n0_ n1_ n2_ n3_ n4_ n5_; (try clear hb); (try clear hb2); (try clear hk); (try clear hi)))
           go_meet
           case rel => exact ⟨_, (true), (by first | rfl | (simp; done) | (simp [*]; done) | (simp [wrap64]; done)), H', ⟨by have := HJ5.out; have := HK2.out; first | omega | exact Nat.le_refl _⟩, ⟨by (with_reducible repeat (first | apply Kd.N_alloc | apply Kd.N_drewN | apply Kd.N_drew)); exact Kd.N_mono HO_273002.out (fun _ hk => ⟨hk.2.1, ⟨hk.2.2.1, hk.2.2.2⟩⟩)⟩, ⟨by (with_reducible repeat (first | apply Kd.N_alloc | apply Kd.N_drewN | apply Kd.N_drew)); exact Kd.N_mono HO_279002.out (fun _ hk => ⟨hk.2.1, ⟨hk.2.2.1, hk.2.2.2⟩⟩)⟩, ⟨by (with_reducible repeat (first | refine blk_drewN ?_ _ | refine blk_drew ?_ | refine blk_alloc ?_ _)); exact BK272.out⟩, ⟨by (with_reducible repeat (first | refine blk_drewN ?_ _ | refine blk_drew ?_ | refine blk_alloc ?_ _)); exact BK278.out⟩, ⟨bel_ HB.out⟩⟩
         ·rw [if_neg c45] at H
          have c45b0 : ((t286.length : Int) == (wrap64 ((t268.length : Int) - 1))) = false := beq_eq_false_iff_ne.mpr c45
          have c45b1 : ((t286.length : Int) != (wrap64 ((t268.length : Int) - 1))) = true := bne_iff_ne.mpr c45
          (first | rw [c45b0] | (simp only [i64_w, i32_w]; rw [c45b0]) | skip)
          have H' := Aside0.mk H
          clear H
          have hnb61 := NB272_278.out
          have hnc61 := NB278_272.out
          have hcz62_0 : wr.cell? ⟨gb272, 0, none⟩ = some (.int .i64 t266) := (blk_cell BK272.out 0).trans rfl
          have hcz62_1 : wr.cell? ⟨gb272, 1, none⟩ = some (.int .i64 t267) := (blk_cell BK272.out 1).trans rfl
          have hcz62_2 : wr.cell? ⟨gb272, 2, none⟩ = some (.slice Ao10 t268.length co10) := (blk_cell BK272.out 2).trans rfl
          have hfz62_0 := blk_frozen BK272.out 0
          have hfz62_1 := blk_frozen BK272.out 1
          have hfz62_2 := blk_frozen BK272.out 2
          go_wp2
          go_meet
          case rel => exact ⟨_, (true), (by first | rfl | (simp; done) | (simp [*]; done) | (simp [wrap64]; done)), H', ⟨by have := HJ5.out; have := HK2.out; first | omega | exact Nat.le_refl _⟩, ⟨by (with_reducible repeat (first | apply Kd.N_alloc | apply Kd.N_drewN | apply Kd.N_drew)); exact Kd.N_mono HO_273002.out (fun _ hk => ⟨hk.2.1, ⟨hk.2.2.1, hk.2.2.2⟩⟩)⟩, ⟨by (with_reducible repeat (first | apply Kd.N_alloc | apply Kd.N_drewN | apply Kd.N_drew)); exact Kd.N_mono HO_279002.out (fun _ hk => ⟨hk.2.1, ⟨hk.2.2.1, hk.2.2.2⟩⟩)⟩, ⟨by (with_reducible repeat (first | refine blk_drewN ?_ _ | refine blk_drew ?_ | refine blk_alloc ?_ _)); exact BK272.out⟩, ⟨by (with_reducible repeat (first | refine blk_drewN ?_ _ | refine blk_drew ?_ | refine blk_alloc ?_ _)); exact BK278.out⟩, ⟨bel_ HB.out⟩⟩
        case rest =>
         clear HC43
         try clear c3
         try clear c35
         try clear c40
         try clear c40b0
         try clear hcz14_0
         try clear hcz14_1
         try clear hcz14_2
         try clear hcz38_0
         try clear hcz38_1
         try clear hcz38_2
         try clear hcz9_0
         try clear hcz9_1
         try clear hcz9_2
         try clear hfz14_0
         try clear hfz14_1
         try clear hfz14_2
         try clear hfz38_0
         try clear hfz38_1
         try clear hfz38_2
         try clear hfz9_0
         try clear hfz9_1
         try clear hfz9_2
         obtain ⟨kq, x72_42, rfl, HA, HJ42, HO_273002, HO_279002, BK272, BK278, HB⟩ := hcut
         cases kq with
         | zero => exact absurd HA.out (by simp [laws_FnVolumes.j2])
         | succ kj42 =>
          have H := HA.out
          clear HA
          simp only [laws_FnVolumes.j2] at H
          by_cases c63 : x72_42 = true
          ·subst c63
           have H1 : (some false) = some r := by rw [if_pos rfl] at H; exact H
           clear H
           have H := H1
           clear H1
           obtain rfl := Option.some.inj H
           go_wp2
           go_ret
           exact ⟨by first | rfl | (simp [errW_none, errW_some] <;> rfl) | (simp [*, errW_none, errW_some] <;> rfl), bel_ HB.out⟩
          ·replace c63 := Bool.eq_false_iff.mpr c63
           subst c63
           have H1 : ((impl_Plane.f kj42 t266 t267 t268 t271).bind fun t292 => ((impl_Plane.f kj42 t273 t274 t275 t271).bind fun t293 => (if t292 = t293 then ((impl_Inertia3.f kj42 t266 t267 t268 t271).bind fun t294 => ((impl_Inertia3.f kj42 t273 t274 t275 t271).bind fun t295 => (if t294 = t295 then ((impl_Volume2.f kj42 t273 t274 t275 t271).bind fun t296 => (if t296 = x6_2 then ((impl_Height4.f kj42 t266 t267 t268 t271).bind fun t297 => ((impl_Height4.f kj42 t273 t274 t275 t271).bind fun t298 => (laws_FnVolumes.j3 kj42 t271 x6_2 (t297 != t298) t266 t267 t268 t273 t274 t275))) else (laws_FnVolumes.j3 kj42 t271 x6_2 true t266 t267 t268 t273 t274 t275))) else (laws_FnVolumes.j3 kj42 t271 x6_2 true t266 t267 t268 t273 t274 t275)))) else (laws_FnVolumes.j3 kj42 t271 x6_2 true t266 t267 t268 t273 t274 t275)))) = some r := by rw [if_neg (show ¬ (false = true) by decide)] at H; exact H
           clear H
           have H := H1
           clear H1
           have HC64 := Aside0.mk H
           clear H
           go_upto_region 15 with (fail)
           go_cut [104] (fun v104 wc => ∃ (kq : Nat) (x104_63 : Bool), v104 = .bool x104_63 ∧ Aside0 (laws_FnVolumes.j3 kq t271 x6_2 x104_63 t266 t267 t268 t273 t274 t275 = some r) ∧ Aside0 (kq ≤ kj42) ∧ Aside0 (Kd.N (Kd.slice 3 (Kd.int .i64)) 31 wc w.heap.size (fun k_ => some k_ ≠ ((.slice Ao15 t275.length co15) : Value).ownBlock ∧ k_ ≠ gb272 ∧ k_ ≠ gb278) (.slice Ao10 t268.length co10) t268) ∧ Aside0 (Kd.N (Kd.slice 3 (Kd.int .i64)) 31 wc w.heap.size (fun k_ => some k_ ≠ ((.slice Ao10 t268.length co10) : Value).ownBlock ∧ k_ ≠ gb272 ∧ k_ ≠ gb278) (.slice Ao15 t275.length co15) t275) ∧ Aside0 (wc.heap[gb272]? = some (.cells #[.int .i64 t266, .int .i64 t267, (.slice Ao10 t268.length co10)] 26 (0, 0))) ∧ Aside0 (wc.heap[gb278]? = some (.cells #[.int .i64 t273, .int .i64 t274, (.slice Ao15 t275.length co15)] 26 (0, 0))) ∧ Aside0 (Below w.heap.size w wc))
           case first =>
            have H := HC64.out
            clear HC64
            replace H := Option.bind_eq_some_iff.mp H
            obtain ⟨t292, A650, H⟩ := H
            replace H : ((impl_Plane.f kj42 t273 t274 t275 t271).bind fun t293 => (if t292 = t293 then ((impl_Inertia3.f kj42 t266 t267 t268 t271).bind fun t294 => ((impl_Inertia3.f kj42 t273 t274 t275 t271).bind fun t295 => (if t294 = t295 then ((impl_Volume2.f kj42 t273 t274 t275 t271).bind fun t296 => (if t296 = x6_2 then ((impl_Height4.f kj42 t266 t267 t268 t271).bind fun t297 => ((impl_Height4.f kj42 t273 t274 t275 t271).bind fun t298 => (laws_FnVolumes.j3 kj42 t271 x6_2 (t297 != t298) t266 t267 t268 t273 t274 t275))) else (laws_FnVolumes.j3 kj42 t271 x6_2 true t266 t267 t268 t273 t274 t275))) else (laws_FnVolumes.j3 kj42 t271 x6_2 true t266 t267 t268 t273 t274 t275)))) else (laws_FnVolumes.j3 kj42 t271 x6_2 true t266 t267 t268 t273 t274 t275))) = some r := H
            have A65 := Aside0.mk A650
            clear A650
            replace H := Option.bind_eq_some_iff.mp H
            obtain ⟨t293, A660, H⟩ := H
            replace H : (if t292 = t293 then ((impl_Inertia3.f kj42 t266 t267 t268 t271).bind fun t294 => ((impl_Inertia3.f kj42 t273 t274 t275 t271).bind fun t295 => (if t294 = t295 then ((impl_Volume2.f kj42 t273 t274 t275 t271).bind fun t296 => (if t296 = x6_2 then ((impl_Height4.f kj42 t266 t267 t268 t271).bind fun t297 => ((impl_Height4.f kj42 t273 t274 t275 t271).bind fun t298 => (laws_FnVolumes.j3 kj42 t271 x6_2 (t297 != t298) t266 t267 t268 t273 t274 t275))) else (laws_FnVolumes.j3 kj42 t271 x6_2 true t266 t267 t268 t273 t274 t275))) else (laws_FnVolumes.j3 kj42 t271 x6_2 true t266 t267 t268 t273 t274 t275)))) else (laws_FnVolumes.j3 kj42 t271 x6_2 true t266 t267 t268 t273 t274 t275)) = some r := H
            have A66 := Aside0.mk A660
            clear A660
            by_cases c67 : t292 = t293
            ·rw [if_pos c67] at H
             have c67b0 : (t292 == t293) = true := beq_iff_eq.mpr c67
             have c67b1 : (t292 != t293) = false := bne_eq_false_iff_eq.mpr c67
             clear c67
             (first | rw [c67b0] | (simp only [i64_w, i32_w]; rw [c67b0]) | skip)
             replace H := Option.bind_eq_some_iff.mp H
             obtain ⟨t294, A680, H⟩ := H
             replace H : ((impl_Inertia3.f kj42 t273 t274 t275 t271).bind fun t295 => (if t294 = t295 then ((impl_Volume2.f kj42 t273 t274 t275 t271).bind fun t296 => (if t296 = x6_2 then ((impl_Height4.f kj42 t266 t267 t268 t271).bind fun t297 => ((impl_Height4.f kj42 t273 t274 t275 t271).bind fun t298 => (laws_FnVolumes.j3 kj42 t271 x6_2 (t297 != t298) t266 t267 t268 t273 t274 t275))) else (laws_FnVolumes.j3 kj42 t271 x6_2 true t266 t267 t268 t273 t274 t275))) else (laws_FnVolumes.j3 kj42 t271 x6_2 true t266 t267 t268 t273 t274 t275))) = some r := H
             have A68 := Aside0.mk A680
             clear A680
             replace H := Option.bind_eq_some_iff.mp H
             obtain ⟨t295, A690, H⟩ := H
             replace H : (if t294 = t295 then ((impl_Volume2.f kj42 t273 t274 t275 t271).bind fun t296 => (if t296 = x6_2 then ((impl_Height4.f kj42 t266 t267 t268 t271).bind fun t297 => ((impl_Height4.f kj42 t273 t274 t275 t271).bind fun t298 => (laws_FnVolumes.j3 kj42 t271 x6_2 (t297 != t298) t266 t267 t268 t273 t274 t275))) else (laws_FnVolumes.j3 kj42 t271 x6_2 true t266 t267 t268 t273 t274 t275))) else (laws_FnVolumes.j3 kj42 t271 x6_2 true t266 t267 t268 t273 t274 t275)) = some r := H
             have A69 := Aside0.mk A690
             clear A690
             by_cases c70 : t294 = t295
             ·rw [if_pos c70] at H
              have c70b0 : (t294 == t295) = true := beq_iff_eq.mpr c70
              have c70b1 : (t294 != t295) = false := bne_eq_false_iff_eq.mpr c70
              clear c70
              replace H := Option.bind_eq_some_iff.mp H
              obtain ⟨t296, A710, H⟩ := H
              replace H : (if t296 = x6_2 then ((impl_Height4.f kj42 t266 t267 t268 t271).bind fun t297 => ((impl_Height4.f kj42 t273 t274 t275 t271).bind fun t298 => (laws_FnVolumes.j3 kj42 t271 x6_2 (t297 != t298) t266 t267 t268 t273 t274 t275))) else (laws_FnVolumes.j3 kj42 t271 x6_2 true t266 t267 t268 t273 t274 t275)) = some r := H
              have A71 := Aside0.mk A710
              clear A710
              by_cases c72 : t296 = x6_2
              ·rw [if_pos c72] at H
               have c72b0 : (t296 == x6_2) = true := beq_iff_eq.mpr c72
               have c72b1 : (t296 != x6_2) = false := bne_eq_false_iff_eq.mpr c72
               clear c72
               replace H := Option.bind_eq_some_iff.mp H
               obtain ⟨t297, A730, H⟩ := H
               replace H : ((impl_Height4.f kj42 t273 t274 t275 t271).bind fun t298 => (laws_FnVolumes.j3 kj42 t271 x6_2 (t297 != t298) t266 t267 t268 t273 t274 t275)) = some r := H
               have A73 := Aside0.mk A730
               clear A730
               replace H := Option.bind_eq_some_iff.mp H
               obtain ⟨t298, A740, H⟩ := H
               replace H : (laws_FnVolumes.j3 kj42 t271 x6_2 (t297 != t298) t266 t267 t268 t273 t274 t275) = some r := H
               have A74 := Aside0.mk A740
               clear A740
               have H' := Aside0.mk H
               clear H
               try go_wp2
               have n0_ := Aside0.mk (Kd.N_drew HO_273002.out)
               have n1_ := Aside0.mk (Kd.N_drew HO_279002.out)
               have n2_ := Aside0.mk (blk_drew BK272.out)
               have n3_ := Aside0.mk (blk_drew BK278.out)
               have n4_ := Aside0.mk (below_drew1 HB.out)
               clear HO_273002
               clear HO_279002
               clear BK272
               clear BK278
               clear HB
               have HO_273002 := n0_
               have HO_279002 := n1_
               have BK272 := n2_
               have BK278 := n3_
               have HB := n4_
               clear n0_ n1_ n2_ n3_ n4_
               refine start_ (n := 32) (S := fun w' => w'.cell? ⟨gb272, 0, none⟩ = some (.int .i64 t266) ∧ w'.cell? ⟨gb272, 1, none⟩ = some (.int .i64 t267) ∧ w'.cell? ⟨gb272, 2, none⟩ = some (.slice Ao10 t268.length co10) ∧ w'.cell? ⟨gb278, 0, none⟩ = some (.int .i64 t273) ∧ w'.cell? ⟨gb278, 1, none⟩ = some (.int .i64 t274) ∧ w'.cell? ⟨gb278, 2, none⟩ = some (.slice Ao15 t275.length co15)) (ds := []) (bs 32 0) (by kernel_rfl) rfl rfl ⟨(blk_cell BK272.out 0).trans rfl, (blk_cell BK272.out 1).trans rfl, (blk_cell BK272.out 2).trans rfl, (blk_cell BK278.out 0).trans rfl, (blk_cell BK278.out 1).trans rfl, (blk_cell BK278.out 2).trans rfl⟩ (fun hHeld => ?_); refine with_tabW laws_FnVolumes.tab15 laws_FnVolumes.bits15 (fun HT_ HW_ => ?_)
               generalize wc.drew = w75 at HO_273002 HO_279002 BK272 BK278 HB hHeld ⊢
               refine pure_ (i := 1) (N := some 74) (v := ?_) (a' := ?_) (bs 32 2) rfl rfl (any_of HT_.out (by kernel_rfl)) (fun _ _ _ h => h) (Or.inl ⟨by rfl, ?_⟩) ?_ ?_
               rotate_left
               ·intro w'
                go_simp
                with_reducible rfl
               rotate_left
               ·simp only [Act.put, sA_, sZ_, sS_, i64_w, i32_w]
                rfl
               refine pure_ (i := 4) (N := some 77) (v := ?_) (a' := ?_) (bs 32 18) rfl rfl (any_of HT_.out (by kernel_rfl)) (fun _ _ _ h => h) (Or.inl ⟨by rfl, ?_⟩) ?_ ?_
               rotate_left
               ·intro w'
                go_simp
                with_reducible rfl
               rotate_left
               ·simp only [Act.put, sA_, sZ_, sS_, i64_w, i32_w]
                rfl
               refine take_ (i := 0) (N := some 73) (v := ?_) (a' := ?_) (bs 32 19) rfl rfl (take_ofW HT_.out HW_.out (by kernel_rfl)) (fun _ _ _ h => h) (Or.inl ⟨by rfl, ?_⟩) hHeld ?_ ?_
               rotate_left
               ·rintro w' ⟨s0, s1, s2, s3, s4, s5⟩
                go_simp
                with_reducible rfl
               rotate_left
               ·simp only [Act.put, sA_, sZ_, sS_, i64_w, i32_w]
                rfl
               refine take_ (i := 3) (N := some 76) (v := ?_) (a' := ?_) (bs 32 27) rfl rfl (take_ofW HT_.out HW_.out (by kernel_rfl)) (fun _ _ _ h => h) (Or.inl ⟨by rfl, ?_⟩) hHeld ?_ ?_
               rotate_left
               ·rintro w' ⟨s0, s1, s2, s3, s4, s5⟩
                go_simp
                with_reducible rfl
               rotate_left
               ·simp only [Act.put, sA_, sZ_, sS_, i64_w, i32_w]
                rfl
               refine one_ (i := 2) (N := some 75) (bs 32 31) rfl rfl (one_of HT_.out (by kernel_rfl)) (by decide) (fun K hK => ?_)
               refine goes_ Try.func12 (by kernel_rfl) rfl #[.agg #[.int .i64 t266, .int .i64 t267, .slice Ao10 t268.length co10], .int .i64 t271] (by rfl) rfl rfl (by (try simp only [List.map_toArray, List.map_cons, List.map_nil]); first | done | rfl | (simp only [List.length_drop, List.length_take]; rfl)) ?_
               with_reducible refine (impl_Plane.calls kj42 t266 t267 _ _ t268 t271 t292 _ ?side1 ?side2 A65.out).mono ?_
               (case side1 => repeat (first | exact (Kd.N_reads' HO_273002.out).2.2 | (with_reducible refine Kd.C_alloc ?_ _) | (with_reducible refine Kd.C_drewN ?_ _) | (with_reducible refine Kd.C_drew ?_)))
               (case side2 => exact (Kd.N_reads' HO_273002.out).2.1)
               rintro e w76 ⟨rfl, hb⟩
               refine ⟨_, rfl, ?_⟩
               have n0_ := Aside0.mk (Kd.N_below (by (with_reducible repeat (first | apply Kd.N_alloc | apply Kd.N_drewN | apply Kd.N_drew)); exact HO_273002.out) hb)
               have n1_ := Aside0.mk (Kd.N_below (by (with_reducible repeat (first | apply Kd.N_alloc | apply Kd.N_drewN | apply Kd.N_drew)); exact HO_279002.out) hb)
               have n2_ := Aside0.mk (blk_below (g := gb272) (o := .cells #[.int .i64 t266, .int .i64 t267, .slice Ao10 t268.length co10] 26 (0, 0)) (fb_ BK272.out) hb)
               have n3_ := Aside0.mk (blk_below (g := gb278) (o := .cells #[.int .i64 t273, .int .i64 t274, .slice Ao15 t275.length co15] 26 (0, 0)) (fb_ BK278.out) hb)
               have n4_ := Aside0.mk (below_step (bel_ HB.out) hb)
               clear HO_273002
               clear HO_279002
               clear BK272
               clear BK278
               clear HB
               have HO_273002 := n0_
               have HO_279002 := n1_
               have BK272 := n2_
               have BK278 := n3_
               have HB := n4_
               clear n0_ n1_ n2_ n3_ n4_
               (try clear hb)
               (try clear hb2)
               (try clear hk)
               (try clear hi)
               refine hK.out _ _ ⟨(blk_cell BK272.out 0).trans rfl, (blk_cell BK272.out 1).trans rfl, (blk_cell BK272.out 2).trans rfl, (blk_cell BK278.out 0).trans rfl, (blk_cell BK278.out 1).trans rfl, (blk_cell BK278.out 2).trans rfl⟩ (fun hHeld => ?_)
               clear hK K
               refine norm_ (a' := ?_) ?_ ?_
               rotate_left
               ·show Act.put _ (some 75) _ = _
                simp only [Act.put, sA_, sZ_, sS_, i64_w, i32_w]
                rfl
               refine one_ (i := 5) (N := some 78) (bs 32 63) rfl rfl (one_of HT_.out (by kernel_rfl)) (by decide) (fun K hK => ?_)
               refine goes_ Try.func12 (by kernel_rfl) rfl #[.agg #[.int .i64 t273, .int .i64 t274, .slice Ao15 t275.length co15], .int .i64 t271] (by rfl) rfl rfl (by (try simp only [List.map_toArray, List.map_cons, List.map_nil]); first | done | rfl | (simp only [List.length_drop, List.length_take]; rfl)) ?_
               with_reducible refine (impl_Plane.calls kj42 t273 t274 _ _ t275 t271 t293 _ ?side1 ?side2 A66.out).mono ?_
               (case side1 => repeat (first | exact (Kd.N_reads' HO_279002.out).2.2 | (with_reducible refine Kd.C_alloc ?_ _) | (with_reducible refine Kd.C_drewN ?_ _) | (with_reducible refine Kd.C_drew ?_)))
               (case side2 => exact (Kd.N_reads' HO_279002.out).2.1)
               rintro e w77 ⟨rfl, hb⟩
               refine ⟨_, rfl, ?_⟩
               have n0_ := Aside0.mk (Kd.N_below (by (with_reducible repeat (first | apply Kd.N_alloc | apply Kd.N_drewN | apply Kd.N_drew)); exact HO_273002.out) hb)
               have n1_ := Aside0.mk (Kd.N_below (by (with_reducible repeat (first | apply Kd.N_alloc | apply Kd.N_drewN | apply Kd.N_drew)); exact HO_279002.out) hb)
               have n2_ := Aside0.mk (blk_below (g := gb272) (o := .cells #[.int .i64 t266, .int .i64 t267, .slice Ao10 t268.length co10] 26 (0, 0)) (fb_ BK272.out) hb)
               have n3_ := Aside0.mk (blk_below (g := gb278) (o := .cells #[.int .i64 t273, .int .i64 t274, .slice Ao15 t275.length co15] 26 (0, 0)) (fb_ BK278.out) hb)
               have n4_ := Aside0.mk (below_step (bel_ HB.out) hb)
               clear HO_273002
               clear HO_279002
               clear BK272
               clear BK278
               clear HB
               have HO_273002 := n0_
               have HO_279002 := n1_
               have BK272 := n2_
               have BK278 := n3_
               have HB := n4_
               clear n0_ n1_ n2_ n3_ n4_
               (try clear hb)
               (try clear hb2)
               (try clear hk)
               (try clear hi)
               refine hK.out _ _ ⟨(blk_cell BK272.out 0).trans rfl, (blk_cell BK272.out 1).trans rfl, (blk_cell BK272.out 2).trans rfl, (blk_cell BK278.out 0).trans rfl, (blk_cell BK278.out 1).trans rfl, (blk_cell BK278.out 2).trans rfl⟩ (fun hHeld => ?_)
               clear hK K
               refine norm_ (a' := ?_) ?_ ?_
               rotate_left
               ·show Act.put _ (some 78) _ = _
                simp only [Act.put, sA_, sZ_, sS_, i64_w, i32_w]
                rfl
               refine pure_ (i := 6) (N := some 79) (v := ?_) (a' := ?_) (bs 32 127) rfl rfl (any_of HT_.out (by kernel_rfl)) (fun _ _ _ h => h) (Or.inl ⟨by rfl, ?_⟩) ?_ ?_
               rotate_left
               ·intro w'
                go_simp
                with_reducible rfl
               rotate_left
               ·simp only [Act.put, sA_, sZ_, sS_, i64_w, i32_w]
                rfl
               refine pure_ (i := 7) (N := some 80) (v := ?_) (a' := ?_) (bs 32 255) rfl rfl (any_of HT_.out (by kernel_rfl)) (fun _ _ _ h => h) (Or.inl ⟨by rfl, ?_⟩) ?_ ?_
               rotate_left
               ·intro w'
                go_simp
                with_reducible rfl
               rotate_left
               ·simp only [Act.put, sA_, sZ_, sS_, i64_w, i32_w]
                rfl
               refine pure_ (i := 9) (N := some 82) (v := ?_) (a' := ?_) (bs 32 767) rfl rfl (any_of HT_.out (by kernel_rfl)) (fun _ _ _ h => h) (Or.inl ⟨by rfl, ?_⟩) ?_ ?_
               rotate_left
               ·intro w'
                go_simp
                with_reducible rfl
               rotate_left
               ·simp only [Act.put, sA_, sZ_, sS_, i64_w, i32_w]
                rfl
               refine pure_ (i := 12) (N := some 85) (v := ?_) (a' := ?_) (bs 32 4863) rfl rfl (any_of HT_.out (by kernel_rfl)) (fun _ _ _ h => h) (Or.inl ⟨by rfl, ?_⟩) ?_ ?_
               rotate_left
               ·intro w'
                go_simp
                with_reducible rfl
               rotate_left
               ·simp only [Act.put, sA_, sZ_, sS_, i64_w, i32_w]
                rfl
               refine take_ (i := 8) (N := some 81) (v := ?_) (a' := ?_) (bs 32 5119) rfl rfl (take_ofW HT_.out HW_.out (by kernel_rfl)) (fun _ _ _ h => h) (Or.inl ⟨by rfl, ?_⟩) hHeld ?_ ?_
               rotate_left
               ·rintro w' ⟨s0, s1, s2, s3, s4, s5⟩
                go_simp
                with_reducible rfl
               rotate_left
               ·simp only [Act.put, sA_, sZ_, sS_, i64_w, i32_w]
                rfl
               refine take_ (i := 11) (N := some 84) (v := ?_) (a' := ?_) (bs 32 7167) rfl rfl (take_ofW HT_.out HW_.out (by kernel_rfl)) (fun _ _ _ h => h) (Or.inl ⟨by rfl, ?_⟩) hHeld ?_ ?_
               rotate_left
               ·rintro w' ⟨s0, s1, s2, s3, s4, s5⟩
                go_simp
                with_reducible rfl
               rotate_left
               ·simp only [Act.put, sA_, sZ_, sS_, i64_w, i32_w]
                rfl
               refine one_ (i := 10) (N := some 83) (bs 32 8191) rfl rfl (one_of HT_.out (by kernel_rfl)) (by decide) (fun K hK => ?_)
               refine goes_ Try.func13 (by kernel_rfl) rfl #[.agg #[.int .i64 t266, .int .i64 t267, .slice Ao10 t268.length co10], .int .i64 t271] (by rfl) rfl rfl (by (try simp only [List.map_toArray, List.map_cons, List.map_nil]); first | done | rfl | (simp only [List.length_drop, List.length_take]; rfl)) ?_
               with_reducible refine (impl_Inertia3.calls kj42 t266 t267 _ _ t268 t271 t294 _ ?side1 ?side2 A68.out).mono ?_
               (case side1 => repeat (first | exact (Kd.N_reads' HO_273002.out).2.2 | (with_reducible refine Kd.C_alloc ?_ _) | (with_reducible refine Kd.C_drewN ?_ _) | (with_reducible refine Kd.C_drew ?_)))
               (case side2 => exact (Kd.N_reads' HO_273002.out).2.1)
               rintro e w78 ⟨rfl, hb⟩
               refine ⟨_, rfl, ?_⟩
               have n0_ := Aside0.mk (Kd.N_below (by (with_reducible repeat (first | apply Kd.N_alloc | apply Kd.N_drewN | apply Kd.N_drew)); exact HO_273002.out) hb)
               have n1_ := Aside0.mk (Kd.N_below (by (with_reducible repeat (first | apply Kd.N_alloc | apply Kd.N_drewN | apply Kd.N_drew)); exact HO_279002.out) hb)
               have n2_ := Aside0.mk (blk_below (g := gb272) (o := .cells #[.int .i64 t266, .int .i64 t267, .slice Ao10 t268.length co10] 26 (0, 0)) (fb_ BK272.out) hb)
               have n3_ := Aside0.mk (blk_below (g := gb278) (o := .cells #[.int .i64 t273, .int .i64 t274, .slice Ao15 t275.length co15] 26 (0, 0)) (fb_ BK278.out) hb)
               have n4_ := Aside0.mk (below_step (bel_ HB.out) hb)
               clear HO_273002
               clear HO_279002
               clear BK272
               clear BK278
               clear HB
               have HO_273002 := n0_
               have HO_279002 := n1_
               have BK272 := n2_
               have BK278 := n3_
               have HB := n4_
               clear n0_ n1_ n2_ n3_ n4_
               (try clear hb)
               (try clear hb2)
               (try clear hk)
               (try clear hi)
               refine hK.out _ _ ⟨(blk_cell BK272.out 0).trans rfl, (blk_cell BK272.out 1).trans rfl, (blk_cell BK272.out 2).trans rfl, (blk_cell BK278.out 0).trans rfl, (blk_cell BK278.out 1).trans rfl, (blk_cell BK278.out 2).trans rfl⟩ (fun hHeld => ?_)
               clear hK K
               refine norm_ (a' := ?_) ?_ ?_
               rotate_left
               ·show Act.put _ (some 83) _ = _
                simp only [Act.put, sA_, sZ_, sS_, i64_w, i32_w]
                rfl
               refine one_ (i := 13) (N := some 86) (bs 32 16383) rfl rfl (one_of HT_.out (by kernel_rfl)) (by decide) (fun K hK => ?_)
               refine goes_ Try.func13 (by kernel_rfl) rfl #[.agg #[.int .i64 t273, .int .i64 t274, .slice Ao15 t275.length co15], .int .i64 t271] (by rfl) rfl rfl (by (try simp only [List.map_toArray, List.map_cons, List.map_nil]); first | done | rfl | (simp only [List.length_drop, List.length_take]; rfl)) ?_
               with_reducible refine (impl_Inertia3.calls kj42 t273 t274 _ _ t275 t271 t295 _ ?side1 ?side2 A69.out).mono ?_
               (case side1 => repeat (first | exact (Kd.N_reads' HO_279002.out).2.2 | (with_reducible refine Kd.C_alloc ?_ _) | (with_reducible refine Kd.C_drewN ?_ _) | (with_reducible refine Kd.C_drew ?_)))
               (case side2 => exact (Kd.N_reads' HO_279002.out).2.1)
               rintro e w79 ⟨rfl, hb⟩
               refine ⟨_, rfl, ?_⟩
               have n0_ := Aside0.mk (Kd.N_below (by (with_reducible repeat (first | apply Kd.N_alloc | apply Kd.N_drewN | apply Kd.N_drew)); exact HO_273002.out) hb)
               have n1_ := Aside0.mk (Kd.N_below (by (with_reducible repeat (first | apply Kd.N_alloc | apply Kd.N_drewN | apply Kd.N_drew)); exact HO_279002.out) hb)
               have n2_ := Aside0.mk (blk_below (g := gb272) (o := .cells #[.int .i64 t266, .int .i64 t267, .slice Ao10 t268.length co10] 26 (0, 0)) (fb_ BK272.out) hb)
               have n3_ := Aside0.mk (blk_below (g := gb278) (o := .cells #[.int .i64 t273, .int .i64 t274, .slice Ao15 t275.length co15] 26 (0, 0)) (fb_ BK278.out) hb)
               have n4_ := Aside0.mk (below_step (bel_ HB.out) hb)
               clear HO_273002
               clear HO_279002
               clear BK272
               clear BK278
               clear HB
               have HO_273002 := n0_
               have HO_279002 := n1_
               have BK272 := n2_
               have BK278 := n3_
               have HB := n4_
               clear n0_ n1_ n2_ n3_ n4_
               (try clear hb)
               (try clear hb2)
               (try clear hk)
               (try clear hi)
               refine hK.out _ _ ⟨(blk_cell BK272.out 0).trans rfl, (blk_cell BK272.out 1).trans rfl, (blk_cell BK272.out 2).trans rfl, (blk_cell BK278.out 0).trans rfl, (blk_cell BK278.out 1).trans rfl, (blk_cell BK278.out 2).trans rfl⟩ (fun hHeld => ?_)
               clear hK K
               refine norm_ (a' := ?_) ?_ ?_
               rotate_left
               ·show Act.put _ (some 86) _ = _
                simp only [Act.put, sA_, sZ_, sS_, i64_w, i32_w]
                rfl
               refine pure_ (i := 14) (N := some 87) (v := ?_) (a' := ?_) (bs 32 32767) rfl rfl (any_of HT_.out (by kernel_rfl)) (fun _ _ _ h => h) (Or.inl ⟨by rfl, ?_⟩) ?_ ?_
               rotate_left
               ·intro w'
                go_simp
                with_reducible rfl
               rotate_left
               ·simp only [Act.put, sA_, sZ_, sS_, i64_w, i32_w]
                rfl
               refine pure_ (i := 15) (N := some 88) (v := ?_) (a' := ?_) (bs 32 65535) rfl rfl (any_of HT_.out (by kernel_rfl)) (fun _ _ _ h => h) (Or.inl ⟨by rfl, ?_⟩) ?_ ?_
               rotate_left
               ·intro w'
                go_simp
                with_reducible rfl
               rotate_left
               ·simp only [Act.put, sA_, sZ_, sS_, i64_w, i32_w]
                rfl
               refine pure_ (i := 16) (N := some 89) (v := ?_) (a' := ?_) (bs 32 131071) rfl rfl (any_of HT_.out (by kernel_rfl)) (fun _ _ _ h => h) (Or.inl ⟨by rfl, ?_⟩) ?_ ?_
               rotate_left
               ·intro w'
                go_simp
                with_reducible rfl
               rotate_left
               ·simp only [Act.put, sA_, sZ_, sS_, i64_w, i32_w]
                rfl
               refine pure_ (i := 18) (N := some 91) (v := ?_) (a' := ?_) (bs 32 393215) rfl rfl (any_of HT_.out (by kernel_rfl)) (fun _ _ _ h => h) (Or.inl ⟨by rfl, ?_⟩) ?_ ?_
               rotate_left
               ·intro w'
                go_simp
                with_reducible rfl
               rotate_left
               ·simp only [Act.put, sA_, sZ_, sS_, i64_w, i32_w]
                rfl
               refine pure_ (i := 20) (N := some 93) (v := ?_) (a' := ?_) (bs 32 1441791) rfl rfl (any_of HT_.out (by kernel_rfl)) (fun _ _ _ h => h) (Or.inl ⟨by rfl, ?_⟩) ?_ ?_
               rotate_left
               ·intro w'
                go_simp
                with_reducible rfl
               rotate_left
               ·simp only [Act.put, sA_, sZ_, sS_, i64_w, i32_w]
                rfl
               refine take_ (i := 17) (N := some 90) (v := ?_) (a' := ?_) (bs 32 1572863) rfl rfl (take_ofW HT_.out HW_.out (by kernel_rfl)) (fun _ _ _ h => h) (Or.inl ⟨by rfl, ?_⟩) hHeld ?_ ?_
               rotate_left
               ·rintro w' ⟨s0, s1, s2, s3, s4, s5⟩
                go_simp
                with_reducible rfl
               rotate_left
               ·simp only [Act.put, sA_, sZ_, sS_, i64_w, i32_w]
                rfl
               refine one_ (i := 19) (N := some 92) (bs 32 2097151) rfl rfl (one_of HT_.out (by kernel_rfl)) (by decide) (fun K hK => ?_)
               refine goes_ Try.func11 (by kernel_rfl) rfl #[.agg #[.int .i64 t273, .int .i64 t274, .slice Ao15 t275.length co15], .int .i64 t271] (by rfl) rfl rfl (by (try simp only [List.map_toArray, List.map_cons, List.map_nil]); first | done | rfl | (simp only [List.length_drop, List.length_take]; rfl)) ?_
               with_reducible refine (impl_Volume2.calls kj42 t273 t274 _ _ t275 t271 t296 _ ?side1 ?side2 A71.out).mono ?_
               (case side1 => repeat (first | exact (Kd.N_reads' HO_279002.out).2.2 | (with_reducible refine Kd.C_alloc ?_ _) | (with_reducible refine Kd.C_drewN ?_ _) | (with_reducible refine Kd.C_drew ?_)))
               (case side2 => exact (Kd.N_reads' HO_279002.out).2.1)
               rintro e w80 ⟨rfl, hb⟩
               refine ⟨_, rfl, ?_⟩
               have n0_ := Aside0.mk (Kd.N_below (by (with_reducible repeat (first | apply Kd.N_alloc | apply Kd.N_drewN | apply Kd.N_drew)); exact HO_273002.out) hb)
               have n1_ := Aside0.mk (Kd.N_below (by (with_reducible repeat (first | apply Kd.N_alloc | apply Kd.N_drewN | apply Kd.N_drew)); exact HO_279002.out) hb)
               have n2_ := Aside0.mk (blk_below (g := gb272) (o := .cells #[.int .i64 t266, .int .i64 t267, .slice Ao10 t268.length co10] 26 (0, 0)) (fb_ BK272.out) hb)
               have n3_ := Aside0.mk (blk_below (g := gb278) (o := .cells #[.int .i64 t273, .int .i64 t274, .slice Ao15 t275.length co15] 26 (0, 0)) (fb_ BK278.out) hb)
               have n4_ := Aside0.mk (below_step (bel_ HB.out) hb)
               clear HO_273002
               clear HO_279002
               clear BK272
               clear BK278
               clear HB
               have HO_273002 := n0_
               have HO_279002 := n1_
               have BK272 := n2_
               have BK278 := n3_
               have HB := n4_
               clear n0_ n1_ n2_ n3_ n4_
               (try clear hb)
               (try clear hb2)
               (try clear hk)
               (try clear hi)
               refine hK.out _ _ ⟨(blk_cell BK272.out 0).trans rfl, (blk_cell BK272.out 1).trans rfl, (blk_cell BK272.out 2).trans rfl, (blk_cell BK278.out 0).trans rfl, (blk_cell BK278.out 1).trans rfl, (blk_cell BK278.out 2).trans rfl⟩ (fun hHeld => ?_)
               clear hK K
               refine norm_ (a' := ?_) ?_ ?_
               rotate_left
               ·show Act.put _ (some 92) _ = _
                simp only [Act.put, sA_, sZ_, sS_, i64_w, i32_w]
                rfl
               refine pure_ (i := 21) (N := some 94) (v := ?_) (a' := ?_) (bs 32 4194303) rfl rfl (any_of HT_.out (by kernel_rfl)) (fun _ _ _ h => h) (Or.inl ⟨by rfl, ?_⟩) ?_ ?_
               rotate_left
               ·intro w'
                go_simp
                with_reducible rfl
               rotate_left
               ·simp only [Act.put, sA_, sZ_, sS_, i64_w, i32_w]
                rfl
               refine pure_ (i := 22) (N := some 95) (v := ?_) (a' := ?_) (bs 32 8388607) rfl rfl (any_of HT_.out (by kernel_rfl)) (fun _ _ _ h => h) (Or.inl ⟨by rfl, ?_⟩) ?_ ?_
               rotate_left
               ·intro w'
                go_simp
                with_reducible rfl
               rotate_left
               ·simp only [Act.put, sA_, sZ_, sS_, i64_w, i32_w]
                rfl
               refine pure_ (i := 23) (N := some 96) (v := ?_) (a' := ?_) (bs 32 16777215) rfl rfl (any_of HT_.out (by kernel_rfl)) (fun _ _ _ h => h) (Or.inl ⟨by rfl, ?_⟩) ?_ ?_
               rotate_left
               ·intro w'
                go_simp
                with_reducible rfl
               rotate_left
               ·simp only [Act.put, sA_, sZ_, sS_, i64_w, i32_w]
                rfl
               refine pure_ (i := 25) (N := some 98) (v := ?_) (a' := ?_) (bs 32 50331647) rfl rfl (any_of HT_.out (by kernel_rfl)) (fun _ _ _ h => h) (Or.inl ⟨by rfl, ?_⟩) ?_ ?_
               rotate_left
               ·intro w'
                go_simp
                with_reducible rfl
               rotate_left
               ·simp only [Act.put, sA_, sZ_, sS_, i64_w, i32_w]
                rfl
               refine pure_ (i := 28) (N := some 101) (v := ?_) (a' := ?_) (bs 32 318767103) rfl rfl (any_of HT_.out (by kernel_rfl)) (fun _ _ _ h => h) (Or.inl ⟨by rfl, ?_⟩) ?_ ?_
               rotate_left
               ·intro w'
                go_simp
                with_reducible rfl
               rotate_left
               ·simp only [Act.put, sA_, sZ_, sS_, i64_w, i32_w]
                rfl
               refine take_ (i := 24) (N := some 97) (v := ?_) (a' := ?_) (bs 32 335544319) rfl rfl (take_ofW HT_.out HW_.out (by kernel_rfl)) (fun _ _ _ h => h) (Or.inl ⟨by rfl, ?_⟩) hHeld ?_ ?_
               rotate_left
               ·rintro w' ⟨s0, s1, s2, s3, s4, s5⟩
                go_simp
                with_reducible rfl
               rotate_left
               ·simp only [Act.put, sA_, sZ_, sS_, i64_w, i32_w]
                rfl
               refine take_ (i := 27) (N := some 100) (v := ?_) (a' := ?_) (bs 32 469762047) rfl rfl (take_ofW HT_.out HW_.out (by kernel_rfl)) (fun _ _ _ h => h) (Or.inl ⟨by rfl, ?_⟩) hHeld ?_ ?_
               rotate_left
               ·rintro w' ⟨s0, s1, s2, s3, s4, s5⟩
                go_simp
                with_reducible rfl
               rotate_left
               ·simp only [Act.put, sA_, sZ_, sS_, i64_w, i32_w]
                rfl
               refine one_ (i := 26) (N := some 99) (bs 32 536870911) rfl rfl (one_of HT_.out (by kernel_rfl)) (by decide) (fun K hK => ?_)
               refine goes_ Try.func14 (by kernel_rfl) rfl #[.agg #[.int .i64 t266, .int .i64 t267, .slice Ao10 t268.length co10], .int .i64 t271] (by rfl) rfl rfl (by (try simp only [List.map_toArray, List.map_cons, List.map_nil]); first | done | rfl | (simp only [List.length_drop, List.length_take]; rfl)) ?_
               with_reducible refine (impl_Height4.calls kj42 t266 t267 _ _ t268 t271 t297 _ ?side1 ?side2 A73.out).mono ?_
               (case side1 => repeat (first | exact (Kd.N_reads' HO_273002.out).2.2 | (with_reducible refine Kd.C_alloc ?_ _) | (with_reducible refine Kd.C_drewN ?_ _) | (with_reducible refine Kd.C_drew ?_)))
               (case side2 => exact (Kd.N_reads' HO_273002.out).2.1)
               rintro e w81 ⟨rfl, hb⟩
               refine ⟨_, rfl, ?_⟩
               have n0_ := Aside0.mk (Kd.N_below (by (with_reducible repeat (first | apply Kd.N_alloc | apply Kd.N_drewN | apply Kd.N_drew)); exact HO_273002.out) hb)
               have n1_ := Aside0.mk (Kd.N_below (by (with_reducible repeat (first | apply Kd.N_alloc | apply Kd.N_drewN | apply Kd.N_drew)); exact HO_279002.out) hb)
               have n2_ := Aside0.mk (blk_below (g := gb272) (o := .cells #[.int .i64 t266, .int .i64 t267, .slice Ao10 t268.length co10] 26 (0, 0)) (fb_ BK272.out) hb)
               have n3_ := Aside0.mk (blk_below (g := gb278) (o := .cells #[.int .i64 t273, .int .i64 t274, .slice Ao15 t275.length co15] 26 (0, 0)) (fb_ BK278.out) hb)
               have n4_ := Aside0.mk (below_step (bel_ HB.out) hb)
               clear HO_273002
               clear HO_279002
               clear BK272
               clear BK278
               clear HB
               have HO_273002 := n0_
               have HO_279002 := n1_
               have BK272 := n2_
               have BK278 := n3_
               have HB := n4_
               clear n0_ n1_ n2_ n3_ n4_
               (try clear hb)
               (try clear hb2)
               (try clear hk)
               (try clear hi)
               refine hK.out _ _ ⟨(blk_cell BK272.out 0).trans rfl, (blk_cell BK272.out 1).trans rfl, (blk_cell BK272.out 2).trans rfl, (blk_cell BK278.out 0).trans rfl, (blk_cell BK278.out 1).trans rfl, (blk_cell BK278.out 2).trans rfl⟩ (fun hHeld => ?_)
               clear hK K
               refine norm_ (a' := ?_) ?_ ?_
               rotate_left
               ·show Act.put _ (some 99) _ = _
                simp only [Act.put, sA_, sZ_, sS_, i64_w, i32_w]
                rfl
               refine one_ (i := 29) (N := some 102) (bs 32 1073741823) rfl rfl (one_of HT_.out (by kernel_rfl)) (by decide) (fun K hK => ?_)
               refine goes_ Try.func14 (by kernel_rfl) rfl #[.agg #[.int .i64 t273, .int .i64 t274, .slice Ao15 t275.length co15], .int .i64 t271] (by rfl) rfl rfl (by (try simp only [List.map_toArray, List.map_cons, List.map_nil]); first | done | rfl | (simp only [List.length_drop, List.length_take]; rfl)) ?_
               with_reducible refine (impl_Height4.calls kj42 t273 t274 _ _ t275 t271 t298 _ ?side1 ?side2 A74.out).mono ?_
               (case side1 => repeat (first | exact (Kd.N_reads' HO_279002.out).2.2 | (with_reducible refine Kd.C_alloc ?_ _) | (with_reducible refine Kd.C_drewN ?_ _) | (with_reducible refine Kd.C_drew ?_)))
               (case side2 => exact (Kd.N_reads' HO_279002.out).2.1)
               rintro e w82 ⟨rfl, hb⟩
               refine ⟨_, rfl, ?_⟩
               have n0_ := Aside0.mk (Kd.N_below (by (with_reducible repeat (first | apply Kd.N_alloc | apply Kd.N_drewN | apply Kd.N_drew)); exact HO_273002.out) hb)
               have n1_ := Aside0.mk (Kd.N_below (by (with_reducible repeat (first | apply Kd.N_alloc | apply Kd.N_drewN | apply Kd.N_drew)); exact HO_279002.out) hb)
               have n2_ := Aside0.mk (blk_below (g := gb272) (o := .cells #[.int .i64 t266, .int .i64 t267, .slice Ao10 t268.length co10] 26 (0, 0)) (fb_ BK272.out) hb)
               have n3_ := Aside0.mk (blk_below (g := gb278) (o := .cells #[.int .i64 t273, .int .i64 t274, .slice Ao15 t275.length co15] 26 (0, 0)) (fb_ BK278.out) hb)
               have n4_ := Aside0.mk (below_step (bel_ HB.out) hb)
               clear HO_273002
               clear HO_279002
               clear BK272
               clear BK278
               clear HB
               have HO_273002 := n0_
               have HO_279002 := n1_
               have BK272 := n2_
               have BK278 := n3_
               have HB := n4_
               clear n0_ n1_ n2_ n3_ n4_
               (try clear hb)
               (try clear hb2)
               (try clear hk)
               (try clear hi)
               refine hK.out _ _ ⟨(blk_cell BK272.out 0).trans rfl, (blk_cell BK272.out 1).trans rfl, (blk_cell BK272.out 2).trans rfl, (blk_cell BK278.out 0).trans rfl, (blk_cell BK278.out 1).trans rfl, (blk_cell BK278.out 2).trans rfl⟩ (fun hHeld => ?_)
               clear hK K
               refine norm_ (a' := ?_) ?_ ?_
               rotate_left
               ·show Act.put _ (some 102) _ = _
                simp only [Act.put, sA_, sZ_, sS_, i64_w, i32_w]
                rfl
               refine pure_ (i := 30) (N := some 103) (v := ?_) (a' := ?_) (bs 32 2147483647) rfl rfl (any_of HT_.out (by kernel_rfl)) (fun _ _ _ h => h) (Or.inl ⟨by rfl, ?_⟩) ?_ ?_
               rotate_left
               ·intro w'
                go_simp
                with_reducible rfl
               rotate_left
               ·simp only [Act.put, sA_, sZ_, sS_, i64_w, i32_w]
                rfl
               refine pure_ (i := 31) (N := some 104) (v := ?_) (a' := ?_) (bs 32 4294967295) rfl rfl (any_of HT_.out (by kernel_rfl)) (fun _ _ _ h => h) (Or.inl ⟨by rfl, ?_⟩) ?_ ?_
               rotate_left
               ·intro w'
                go_simp
                with_reducible rfl
               rotate_left
               ·simp only [Act.put, sA_, sZ_, sS_, i64_w, i32_w]
                rfl
               refine done_ (done_of HT_.out (by kernel_rfl)) ?_
               try go_wp2
               go_meet
               case rel => exact ⟨_, ((t297 != t298)), (by first | rfl | (simp; done) | (simp [*]; done) | (simp [wrap64]; done)), H', ⟨by have := HJ5.out; have := HK2.out; have := HJ42.out; first | omega | exact Nat.le_refl _⟩, ⟨by (with_reducible repeat (first | apply Kd.N_alloc | apply Kd.N_drewN | apply Kd.N_drew)); exact HO_273002.out⟩, ⟨by (with_reducible repeat (first | apply Kd.N_alloc | apply Kd.N_drewN | apply Kd.N_drew)); exact HO_279002.out⟩, ⟨by (with_reducible repeat (first | refine blk_drewN ?_ _ | refine blk_drew ?_ | refine blk_alloc ?_ _)); exact BK272.out⟩, ⟨by (with_reducible repeat (first | refine blk_drewN ?_ _ | refine blk_drew ?_ | refine blk_alloc ?_ _)); exact BK278.out⟩, ⟨bel_ HB.out⟩⟩
              ·rw [if_neg c72] at H
               have c72b0 : (t296 == x6_2) = false := beq_eq_false_iff_ne.mpr c72
               have c72b1 : (t296 != x6_2) = true := bne_iff_ne.mpr c72
               have H' := Aside0.mk H
               clear H
               try go_wp2
               have n0_ := Aside0.mk (Kd.N_drew HO_273002.out)
               have n1_ := Aside0.mk (Kd.N_drew HO_279002.out)
               have n2_ := Aside0.mk (blk_drew BK272.out)
               have n3_ := Aside0.mk (blk_drew BK278.out)
               have n4_ := Aside0.mk (below_drew1 HB.out)
               clear HO_273002
               clear HO_279002
               clear BK272
               clear BK278
               clear HB
               have HO_273002 := n0_
               have HO_279002 := n1_
               have BK272 := n2_
               have BK278 := n3_
               have HB := n4_
               clear n0_ n1_ n2_ n3_ n4_
               refine start_ (n := 32) (S := fun w' => w'.cell? ⟨gb272, 0, none⟩ = some (.int .i64 t266) ∧ w'.cell? ⟨gb272, 1, none⟩ = some (.int .i64 t267) ∧ w'.cell? ⟨gb272, 2, none⟩ = some (.slice Ao10 t268.length co10) ∧ w'.cell? ⟨gb278, 0, none⟩ = some (.int .i64 t273) ∧ w'.cell? ⟨gb278, 1, none⟩ = some (.int .i64 t274) ∧ w'.cell? ⟨gb278, 2, none⟩ = some (.slice Ao15 t275.length co15)) (ds := []) (bs 32 0) (by kernel_rfl) rfl rfl ⟨(blk_cell BK272.out 0).trans rfl, (blk_cell BK272.out 1).trans rfl, (blk_cell BK272.out 2).trans rfl, (blk_cell BK278.out 0).trans rfl, (blk_cell BK278.out 1).trans rfl, (blk_cell BK278.out 2).trans rfl⟩ (fun hHeld => ?_); refine with_tabW laws_FnVolumes.tab15 laws_FnVolumes.bits15 (fun HT_ HW_ => ?_)
               generalize wc.drew = w83 at HO_273002 HO_279002 BK272 BK278 HB hHeld ⊢
               refine pure_ (i := 1) (N := some 74) (v := ?_) (a' := ?_) (bs 32 2) rfl rfl (any_of HT_.out (by kernel_rfl)) (fun _ _ _ h => h) (Or.inl ⟨by rfl, ?_⟩) ?_ ?_
               rotate_left
               ·intro w'
                go_simp
                with_reducible rfl
               rotate_left
               ·simp only [Act.put, sA_, sZ_, sS_, i64_w, i32_w]
                rfl
               refine pure_ (i := 4) (N := some 77) (v := ?_) (a' := ?_) (bs 32 18) rfl rfl (any_of HT_.out (by kernel_rfl)) (fun _ _ _ h => h) (Or.inl ⟨by rfl, ?_⟩) ?_ ?_
               rotate_left
               ·intro w'
                go_simp
                with_reducible rfl
               rotate_left
               ·simp only [Act.put, sA_, sZ_, sS_, i64_w, i32_w]
                rfl
               refine take_ (i := 0) (N := some 73) (v := ?_) (a' := ?_) (bs 32 19) rfl rfl (take_ofW HT_.out HW_.out (by kernel_rfl)) (fun _ _ _ h => h) (Or.inl ⟨by rfl, ?_⟩) hHeld ?_ ?_
               rotate_left
               ·rintro w' ⟨s0, s1, s2, s3, s4, s5⟩
                go_simp
                with_reducible rfl
               rotate_left
               ·simp only [Act.put, sA_, sZ_, sS_, i64_w, i32_w]
                rfl
               refine take_ (i := 3) (N := some 76) (v := ?_) (a' := ?_) (bs 32 27) rfl rfl (take_ofW HT_.out HW_.out (by kernel_rfl)) (fun _ _ _ h => h) (Or.inl ⟨by rfl, ?_⟩) hHeld ?_ ?_
               rotate_left
               ·rintro w' ⟨s0, s1, s2, s3, s4, s5⟩
                go_simp
                with_reducible rfl
               rotate_left
               ·simp only [Act.put, sA_, sZ_, sS_, i64_w, i32_w]
                rfl
               refine one_ (i := 2) (N := some 75) (bs 32 31) rfl rfl (one_of HT_.out (by kernel_rfl)) (by decide) (fun K hK => ?_)
               refine goes_ Try.func12 (by kernel_rfl) rfl #[.agg #[.int .i64 t266, .int .i64 t267, .slice Ao10 t268.length co10], .int .i64 t271] (by rfl) rfl rfl (by (try simp only [List.map_toArray, List.map_cons, List.map_nil]); first | done | rfl | (simp only [List.length_drop, List.length_take]; rfl)) ?_
               with_reducible refine (impl_Plane.calls kj42 t266 t267 _ _ t268 t271 t292 _ ?side1 ?side2 A65.out).mono ?_
               (case side1 => repeat (first | exact (Kd.N_reads' HO_273002.out).2.2 | (with_reducible refine Kd.C_alloc ?_ _) | (with_reducible refine Kd.C_drewN ?_ _) | (with_reducible refine Kd.C_drew ?_)))
               (case side2 => exact (Kd.N_reads' HO_273002.out).2.1)
               rintro e w84 ⟨rfl, hb⟩
               refine ⟨_, rfl, ?_⟩
               have n0_ := Aside0.mk (Kd.N_below (by (with_reducible repeat (first | apply Kd.N_alloc | apply Kd.N_drewN | apply Kd.N_drew)); exact HO_273002.out) hb)
               have n1_ := Aside0.mk (Kd.N_below (by (with_reducible repeat (first | apply Kd.N_alloc | apply Kd.N_drewN | apply Kd.N_drew)); exact HO_279002.out) hb)
               have n2_ := Aside0.mk (blk_below (g := gb272) (o := .cells #[.int .i64 t266, .int .i64 t267, .slice Ao10 t268.length co10] 26 (0, 0)) (fb_ BK272.out) hb)
               have n3_ := Aside0.mk (blk_below (g := gb278) (o := .cells #[.int .i64 t273, .int .i64 t274, .slice Ao15 t275.length co15] 26 (0, 0)) (fb_ BK278.out) hb)
               have n4_ := Aside0.mk (below_step (bel_ HB.out) hb)
               clear HO_273002
               clear HO_279002
               clear BK272
               clear BK278
               clear HB
               have HO_273002 := n0_
               have HO_279002 := n1_
               have BK272 := n2_
               have BK278 := n3_
               have HB := n4_
               clear n0_ n1_ n2_ n3_ n4_
               (try clear hb)
               (try clear hb2)
               (try clear hk)
               (try clear hi)
               refine hK.out _ _ ⟨(blk_cell BK272.out 0).trans rfl, (blk_cell BK272.out 1).trans rfl, (blk_cell BK272.out 2).trans rfl, (blk_cell BK278.out 0).trans rfl, (blk_cell BK278.out 1).trans rfl, (blk_cell BK278.out 2).trans rfl⟩ (fun hHeld => ?_)
               clear hK K
               refine norm_ (a' := ?_) ?_ ?_
               rotate_left
               ·show Act.put _ (some 75) _ = _
                simp only [Act.put, sA_, sZ_, sS_, i64_w, i32_w]
                rfl
               refine one_ (i := 5) (N := some 78) (bs 32 63) rfl rfl (one_of HT_.out (by kernel_rfl)) (by decide) (fun K hK => ?_)
               refine goes_ Try.func12 (by kernel_rfl) rfl #[.agg #[.int .i64 t273, .int .i64 t274, .slice Ao15 t275.length co15], .int .i64 t271] (by rfl) rfl rfl (by (try simp only [List.map_toArray, List.map_cons, List.map_nil]); first | done | rfl | (simp only [List.length_drop, List.length_take]; rfl)) ?_
               with_reducible refine (impl_Plane.calls kj42 t273 t274 _ _ t275 t271 t293 _ ?side1 ?side2 A66.out).mono ?_
               (case side1 => repeat (first | exact (Kd.N_reads' HO_279002.out).2.2 | (with_reducible refine Kd.C_alloc ?_ _) | (with_reducible refine Kd.C_drewN ?_ _) | (with_reducible refine Kd.C_drew ?_)))
               (case side2 => exact (Kd.N_reads' HO_279002.out).2.1)
               rintro e w85 ⟨rfl, hb⟩
               refine ⟨_, rfl, ?_⟩
               have n0_ := Aside0.mk (Kd.N_below (by (with_reducible repeat (first | apply Kd.N_alloc | apply Kd.N_drewN | apply Kd.N_drew)); exact HO_273002.out) hb)
               have n1_ := Aside0.mk (Kd.N_below (by (with_reducible repeat (first | apply Kd.N_alloc | apply Kd.N_drewN | apply Kd.N_drew)); exact HO_279002.out) hb)
               have n2_ := Aside0.mk (blk_below (g := gb272) (o := .cells #[.int .i64 t266, .int .i64 t267, .slice Ao10 t268.length co10] 26 (0, 0)) (fb_ BK272.out) hb)
               have n3_ := Aside0.mk (blk_below (g := gb278) (o := .cells #[.int .i64 t273, .int .i64 t274, .slice Ao15 t275.length co15] 26 (0, 0)) (fb_ BK278.out) hb)
               have n4_ := Aside0.mk (below_step (bel_ HB.out) hb)
               clear HO_273002
               clear HO_279002
               clear BK272
               clear BK278
               clear HB
               have HO_273002 := n0_
               have HO_279002 := n1_
               have BK272 := n2_
               have BK278 := n3_
               have HB := n4_
               clear n0_ n1_ n2_ n3_ n4_
               (try clear hb)
               (try clear hb2)
               (try clear hk)
               (try clear hi)
               refine hK.out _ _ ⟨(blk_cell BK272.out 0).trans rfl, (blk_cell BK272.out 1).trans rfl, (blk_cell BK272.out 2).trans rfl, (blk_cell BK278.out 0).trans rfl, (blk_cell BK278.out 1).trans rfl, (blk_cell BK278.out 2).trans rfl⟩ (fun hHeld => ?_)
               clear hK K
               refine norm_ (a' := ?_) ?_ ?_
               rotate_left
               ·show Act.put _ (some 78) _ = _
                simp only [Act.put, sA_, sZ_, sS_, i64_w, i32_w]
                rfl
               refine pure_ (i := 6) (N := some 79) (v := ?_) (a' := ?_) (bs 32 127) rfl rfl (any_of HT_.out (by kernel_rfl)) (fun _ _ _ h => h) (Or.inl ⟨by rfl, ?_⟩) ?_ ?_
               rotate_left
               ·intro w'
                go_simp
                with_reducible rfl
               rotate_left
               ·simp only [Act.put, sA_, sZ_, sS_, i64_w, i32_w]
                rfl
               refine pure_ (i := 7) (N := some 80) (v := ?_) (a' := ?_) (bs 32 255) rfl rfl (any_of HT_.out (by kernel_rfl)) (fun _ _ _ h => h) (Or.inl ⟨by rfl, ?_⟩) ?_ ?_
               rotate_left
               ·intro w'
                go_simp
                with_reducible rfl
               rotate_left
               ·simp only [Act.put, sA_, sZ_, sS_, i64_w, i32_w]
                rfl
               refine pure_ (i := 9) (N := some 82) (v := ?_) (a' := ?_) (bs 32 767) rfl rfl (any_of HT_.out (by kernel_rfl)) (fun _ _ _ h => h) (Or.inl ⟨by rfl, ?_⟩) ?_ ?_
               rotate_left
               ·intro w'
                go_simp
                with_reducible rfl
               rotate_left
               ·simp only [Act.put, sA_, sZ_, sS_, i64_w, i32_w]
                rfl
               refine pure_ (i := 12) (N := some 85) (v := ?_) (a' := ?_) (bs 32 4863) rfl rfl (any_of HT_.out (by kernel_rfl)) (fun _ _ _ h => h) (Or.inl ⟨by rfl, ?_⟩) ?_ ?_
               rotate_left
               ·intro w'
                go_simp
                with_reducible rfl
               rotate_left
               ·simp only [Act.put, sA_, sZ_, sS_, i64_w, i32_w]
                rfl
               refine take_ (i := 8) (N := some 81) (v := ?_) (a' := ?_) (bs 32 5119) rfl rfl (take_ofW HT_.out HW_.out (by kernel_rfl)) (fun _ _ _ h => h) (Or.inl ⟨by rfl, ?_⟩) hHeld ?_ ?_
               rotate_left
               ·rintro w' ⟨s0, s1, s2, s3, s4, s5⟩
                go_simp
                with_reducible rfl
               rotate_left
               ·simp only [Act.put, sA_, sZ_, sS_, i64_w, i32_w]
                rfl
               refine take_ (i := 11) (N := some 84) (v := ?_) (a' := ?_) (bs 32 7167) rfl rfl (take_ofW HT_.out HW_.out (by kernel_rfl)) (fun _ _ _ h => h) (Or.inl ⟨by rfl, ?_⟩) hHeld ?_ ?_
               rotate_left
               ·rintro w' ⟨s0, s1, s2, s3, s4, s5⟩
                go_simp
                with_reducible rfl
               rotate_left
               ·simp only [Act.put, sA_, sZ_, sS_, i64_w, i32_w]
                rfl
               refine one_ (i := 10) (N := some 83) (bs 32 8191) rfl rfl (one_of HT_.out (by kernel_rfl)) (by decide) (fun K hK => ?_)
               refine goes_ Try.func13 (by kernel_rfl) rfl #[.agg #[.int .i64 t266, .int .i64 t267, .slice Ao10 t268.length co10], .int .i64 t271] (by rfl) rfl rfl (by (try simp only [List.map_toArray, List.map_cons, List.map_nil]); first | done | rfl | (simp only [List.length_drop, List.length_take]; rfl)) ?_
               with_reducible refine (impl_Inertia3.calls kj42 t266 t267 _ _ t268 t271 t294 _ ?side1 ?side2 A68.out).mono ?_
               (case side1 => repeat (first | exact (Kd.N_reads' HO_273002.out).2.2 | (with_reducible refine Kd.C_alloc ?_ _) | (with_reducible refine Kd.C_drewN ?_ _) | (with_reducible refine Kd.C_drew ?_)))
               (case side2 => exact (Kd.N_reads' HO_273002.out).2.1)
               rintro e w86 ⟨rfl, hb⟩
               refine ⟨_, rfl, ?_⟩
               have n0_ := Aside0.mk (Kd.N_below (by (with_reducible repeat (first | apply Kd.N_alloc | apply Kd.N_drewN | apply Kd.N_drew)); exact HO_273002.out) hb)
               have n1_ := Aside0.mk (Kd.N_below (by (with_reducible repeat (first | apply Kd.N_alloc | apply Kd.N_drewN | apply Kd.N_drew)); exact HO_279002.out) hb)
               have n2_ := Aside0.mk (blk_below (g := gb272) (o := .cells #[.int .i64 t266, .int .i64 t267, .slice Ao10 t268.length co10] 26 (0, 0)) (fb_ BK272.out) hb)
               have n3_ := Aside0.mk (blk_below (g := gb278) (o := .cells #[.int .i64 t273, .int .i64 t274, .slice Ao15 t275.length co15] 26 (0, 0)) (fb_ BK278.out) hb)
               have n4_ := Aside0.mk (below_step (bel_ HB.out) hb)
               clear HO_273002
               clear HO_279002
               clear BK272
               clear BK278
               clear HB
               have HO_273002 := n0_
               have HO_279002 := n1_
               have BK272 := n2_
               have BK278 := n3_
               have HB := n4_
               clear n0_ n1_ n2_ n3_ n4_
               (try clear hb)
               (try clear hb2)
               (try clear hk)
               (try clear hi)
               refine hK.out _ _ ⟨(blk_cell BK272.out 0).trans rfl, (blk_cell BK272.out 1).trans rfl, (blk_cell BK272.out 2).trans rfl, (blk_cell BK278.out 0).trans rfl, (blk_cell BK278.out 1).trans rfl, (blk_cell BK278.out 2).trans rfl⟩ (fun hHeld => ?_)
               clear hK K
               refine norm_ (a' := ?_) ?_ ?_
               rotate_left
               ·show Act.put _ (some 83) _ = _
                simp only [Act.put, sA_, sZ_, sS_, i64_w, i32_w]
                rfl
               refine one_ (i := 13) (N := some 86) (bs 32 16383) rfl rfl (one_of HT_.out (by kernel_rfl)) (by decide) (fun K hK => ?_)
               refine goes_ Try.func13 (by kernel_rfl) rfl #[.agg #[.int .i64 t273, .int .i64 t274, .slice Ao15 t275.length co15], .int .i64 t271] (by rfl) rfl rfl (by (try simp only [List.map_toArray, List.map_cons, List.map_nil]); first | done | rfl | (simp only [List.length_drop, List.length_take]; rfl)) ?_
               with_reducible refine (impl_Inertia3.calls kj42 t273 t274 _ _ t275 t271 t295 _ ?side1 ?side2 A69.out).mono ?_
               (case side1 => repeat (first | exact (Kd.N_reads' HO_279002.out).2.2 | (with_reducible refine Kd.C_alloc ?_ _) | (with_reducible refine Kd.C_drewN ?_ _) | (with_reducible refine Kd.C_drew ?_)))
               (case side2 => exact (Kd.N_reads' HO_279002.out).2.1)
               rintro e w87 ⟨rfl, hb⟩
               refine ⟨_, rfl, ?_⟩
               have n0_ := Aside0.mk (Kd.N_below (by (with_reducible repeat (first | apply Kd.N_alloc | apply Kd.N_drewN | apply Kd.N_drew)); exact HO_273002.out) hb)
               have n1_ := Aside0.mk (Kd.N_below (by (with_reducible repeat (first | apply Kd.N_alloc | apply Kd.N_drewN | apply Kd.N_drew)); exact HO_279002.out) hb)
               have n2_ := Aside0.mk (blk_below (g := gb272) (o := .cells #[.int .i64 t266, .int .i64 t267, .slice Ao10 t268.length co10] 26 (0, 0)) (fb_ BK272.out) hb)
               have n3_ := Aside0.mk (blk_below (g := gb278) (o := .cells #[.int .i64 t273, .int .i64 t274, .slice Ao15 t275.length co15] 26 (0, 0)) (fb_ BK278.out) hb)
               have n4_ := Aside0.mk (below_step (bel_ HB.out) hb)
               clear HO_273002
               clear HO_279002
               clear BK272
               clear BK278
               clear HB
               have HO_273002 := n0_
               have HO_279002 := n1_
               have BK272 := n2_
               have BK278 := n3_
               have HB := n4_
               clear n0_ n1_ n2_ n3_ n4_
               (try clear hb)
               (try clear hb2)
               (try clear hk)
               (try clear hi)
               refine hK.out _ _ ⟨(blk_cell BK272.out 0).trans rfl, (blk_cell BK272.out 1).trans rfl, (blk_cell BK272.out 2).trans rfl, (blk_cell BK278.out 0).trans rfl, (blk_cell BK278.out 1).trans rfl, (blk_cell BK278.out 2).trans rfl⟩ (fun hHeld => ?_)
               clear hK K
               refine norm_ (a' := ?_) ?_ ?_
               rotate_left
               ·show Act.put _ (some 86) _ = _
                simp only [Act.put, sA_, sZ_, sS_, i64_w, i32_w]
                rfl
               refine pure_ (i := 14) (N := some 87) (v := ?_) (a' := ?_) (bs 32 32767) rfl rfl (any_of HT_.out (by kernel_rfl)) (fun _ _ _ h => h) (Or.inl ⟨by rfl, ?_⟩) ?_ ?_
               rotate_left
               ·intro w'
                go_simp
                with_reducible rfl
               rotate_left
               ·simp only [Act.put, sA_, sZ_, sS_, i64_w, i32_w]
                rfl
               refine pure_ (i := 15) (N := some 88) (v := ?_) (a' := ?_) (bs 32 65535) rfl rfl (any_of HT_.out (by kernel_rfl)) (fun _ _ _ h => h) (Or.inl ⟨by rfl, ?_⟩) ?_ ?_
               rotate_left
               ·intro w'
                go_simp
                with_reducible rfl
               rotate_left
               ·simp only [Act.put, sA_, sZ_, sS_, i64_w, i32_w]
                rfl
               refine pure_ (i := 16) (N := some 89) (v := ?_) (a' := ?_) (bs 32 131071) rfl rfl (any_of HT_.out (by kernel_rfl)) (fun _ _ _ h => h) (Or.inl ⟨by rfl, ?_⟩) ?_ ?_
               rotate_left
               ·intro w'
                go_simp
                with_reducible rfl
               rotate_left
               ·simp only [Act.put, sA_, sZ_, sS_, i64_w, i32_w]
                rfl
               refine pure_ (i := 18) (N := some 91) (v := ?_) (a' := ?_) (bs 32 393215) rfl rfl (any_of HT_.out (by kernel_rfl)) (fun _ _ _ h => h) (Or.inl ⟨by rfl, ?_⟩) ?_ ?_
               rotate_left
               ·intro w'
                go_simp
                with_reducible rfl
               rotate_left
               ·simp only [Act.put, sA_, sZ_, sS_, i64_w, i32_w]
                rfl
               refine pure_ (i := 20) (N := some 93) (v := ?_) (a' := ?_) (bs 32 1441791) rfl rfl (any_of HT_.out (by kernel_rfl)) (fun _ _ _ h => h) (Or.inl ⟨by rfl, ?_⟩) ?_ ?_
               rotate_left
               ·intro w'
                go_simp
                with_reducible rfl
               rotate_left
               ·simp only [Act.put, sA_, sZ_, sS_, i64_w, i32_w]
                rfl
               refine take_ (i := 17) (N := some 90) (v := ?_) (a' := ?_) (bs 32 1572863) rfl rfl (take_ofW HT_.out HW_.out (by kernel_rfl)) (fun _ _ _ h => h) (Or.inl ⟨by rfl, ?_⟩) hHeld ?_ ?_
               rotate_left
               ·rintro w' ⟨s0, s1, s2, s3, s4, s5⟩
                go_simp
                with_reducible rfl
               rotate_left
               ·simp only [Act.put, sA_, sZ_, sS_, i64_w, i32_w]
                rfl
               refine one_ (i := 19) (N := some 92) (bs 32 2097151) rfl rfl (one_of HT_.out (by kernel_rfl)) (by decide) (fun K hK => ?_)
               refine goes_ Try.func11 (by kernel_rfl) rfl #[.agg #[.int .i64 t273, .int .i64 t274, .slice Ao15 t275.length co15], .int .i64 t271] (by rfl) rfl rfl (by (try simp only [List.map_toArray, List.map_cons, List.map_nil]); first | done | rfl | (simp only [List.length_drop, List.length_take]; rfl)) ?_
               with_reducible refine (impl_Volume2.calls kj42 t273 t274 _ _ t275 t271 t296 _ ?side1 ?side2 A71.out).mono ?_
               (case side1 => repeat (first | exact (Kd.N_reads' HO_279002.out).2.2 | (with_reducible refine Kd.C_alloc ?_ _) | (with_reducible refine Kd.C_drewN ?_ _) | (with_reducible refine Kd.C_drew ?_)))
               (case side2 => exact (Kd.N_reads' HO_279002.out).2.1)
               rintro e w88 ⟨rfl, hb⟩
               refine ⟨_, rfl, ?_⟩
               have n0_ := Aside0.mk (Kd.N_below (by (with_reducible repeat (first | apply Kd.N_alloc | apply Kd.N_drewN | apply Kd.N_drew)); exact HO_273002.out) hb)
               have n1_ := Aside0.mk (Kd.N_below (by (with_reducible repeat (first | apply Kd.N_alloc | apply Kd.N_drewN | apply Kd.N_drew)); exact HO_279002.out) hb)
               have n2_ := Aside0.mk (blk_below (g := gb272) (o := .cells #[.int .i64 t266, .int .i64 t267, .slice Ao10 t268.length co10] 26 (0, 0)) (fb_ BK272.out) hb)
               have n3_ := Aside0.mk (blk_below (g := gb278) (o := .cells #[.int .i64 t273, .int .i64 t274, .slice Ao15 t275.length co15] 26 (0, 0)) (fb_ BK278.out) hb)
               have n4_ := Aside0.mk (below_step (bel_ HB.out) hb)
               clear HO_273002
               clear HO_279002
               clear BK272
               clear BK278
               clear HB
               have HO_273002 := n0_
               have HO_279002 := n1_
               have BK272 := n2_
               have BK278 := n3_
               have HB := n4_
               clear n0_ n1_ n2_ n3_ n4_
               (try clear hb)
               (try clear hb2)
               (try clear hk)
               (try clear hi)
               refine hK.out _ _ ⟨(blk_cell BK272.out 0).trans rfl, (blk_cell BK272.out 1).trans rfl, (blk_cell BK272.out 2).trans rfl, (blk_cell BK278.out 0).trans rfl, (blk_cell BK278.out 1).trans rfl, (blk_cell BK278.out 2).trans rfl⟩ (fun hHeld => ?_)
               clear hK K
               refine norm_ (a' := ?_) ?_ ?_
               rotate_left
               ·show Act.put _ (some 92) _ = _
                simp only [Act.put, sA_, sZ_, sS_, i64_w, i32_w]
                rfl
               refine pure_ (i := 21) (N := some 94) (v := ?_) (a' := ?_) (bs 32 4194303) rfl rfl (any_of HT_.out (by kernel_rfl)) (fun _ _ _ h => h) (Or.inl ⟨by rfl, ?_⟩) ?_ ?_
               rotate_left
               ·intro w'
                go_simp
                with_reducible rfl
               rotate_left
               ·simp only [Act.put, sA_, sZ_, sS_, i64_w, i32_w]
                rfl
               refine pure_ (i := 22) (N := some 95) (v := ?_) (a' := ?_) (bs 32 8388607) rfl rfl (any_of HT_.out (by kernel_rfl)) (fun _ _ _ h => h) (Or.inl ⟨by rfl, ?_⟩) ?_ ?_
               rotate_left
               ·intro w'
                go_simp
                with_reducible rfl
               rotate_left
               ·simp only [Act.put, sA_, sZ_, sS_, i64_w, i32_w]
                rfl
               refine pure_ (i := 23) (N := some 96) (v := ?_) (a' := ?_) (bs 32 16777215) rfl rfl (any_of HT_.out (by kernel_rfl)) (fun _ _ _ h => h) (Or.inl ⟨by rfl, ?_⟩) ?_ ?_
               rotate_left
               ·intro w'
                go_simp
                with_reducible rfl
               rotate_left
               ·simp only [Act.put, sA_, sZ_, sS_, i64_w, i32_w]
                rfl
               refine pure_ (i := 24) (N := some 97) (v := undef) (a' := ?_) (bs 32 33554431) rfl rfl (any_of HT_.out (by kernel_rfl)) (fun _ _ _ h => h) (Or.inr ⟨by rfl, rfl⟩) ?_ ?_
               rotate_left
               ·simp only [Act.put, sA_, sZ_, sS_, i64_w, i32_w]
                rfl
               refine pure_ (i := 25) (N := some 98) (v := undef) (a' := ?_) (bs 32 67108863) rfl rfl (any_of HT_.out (by kernel_rfl)) (fun _ _ _ h => h) (Or.inr ⟨by rfl, rfl⟩) ?_ ?_
               rotate_left
               ·simp only [Act.put, sA_, sZ_, sS_, i64_w, i32_w]
                rfl
               refine pure_ (i := 26) (N := some 99) (v := undef) (a' := ?_) (bs 32 134217727) rfl rfl (any_of HT_.out (by kernel_rfl)) (fun _ _ _ h => h) (Or.inr ⟨by rfl, rfl⟩) ?_ ?_
               rotate_left
               ·simp only [Act.put, sA_, sZ_, sS_, i64_w, i32_w]
                rfl
               refine pure_ (i := 27) (N := some 100) (v := undef) (a' := ?_) (bs 32 268435455) rfl rfl (any_of HT_.out (by kernel_rfl)) (fun _ _ _ h => h) (Or.inr ⟨by rfl, rfl⟩) ?_ ?_
               rotate_left
               ·simp only [Act.put, sA_, sZ_, sS_, i64_w, i32_w]
                rfl
               refine pure_ (i := 28) (N := some 101) (v := undef) (a' := ?_) (bs 32 536870911) rfl rfl (any_of HT_.out (by kernel_rfl)) (fun _ _ _ h => h) (Or.inr ⟨by rfl, rfl⟩) ?_ ?_
               rotate_left
               ·simp only [Act.put, sA_, sZ_, sS_, i64_w, i32_w]
                rfl
               refine pure_ (i := 29) (N := some 102) (v := undef) (a' := ?_) (bs 32 1073741823) rfl rfl (any_of HT_.out (by kernel_rfl)) (fun _ _ _ h => h) (Or.inr ⟨by rfl, rfl⟩) ?_ ?_
               rotate_left
               ·simp only [Act.put, sA_, sZ_, sS_, i64_w, i32_w]
                rfl
               refine pure_ (i := 30) (N := some 103) (v := undef) (a' := ?_) (bs 32 2147483647) rfl rfl (any_of HT_.out (by kernel_rfl)) (fun _ _ _ h => h) (Or.inr ⟨by rfl, rfl⟩) ?_ ?_
               rotate_left
               ·simp only [Act.put, sA_, sZ_, sS_, i64_w, i32_w]
                rfl
               refine pure_ (i := 31) (N := some 104) (v := ?_) (a' := ?_) (bs 32 4294967295) rfl rfl (any_of HT_.out (by kernel_rfl)) (fun _ _ _ h => h) (Or.inl ⟨by rfl, ?_⟩) ?_ ?_
               rotate_left
               ·intro w'
                go_simp
                with_reducible rfl
               rotate_left
               ·simp only [Act.put, sA_, sZ_, sS_, i64_w, i32_w]
                rfl
               refine done_ (done_of HT_.out (by kernel_rfl)) ?_
               try go_wp2
               go_meet
               case rel => exact ⟨_, (true), (by first | rfl | (simp; done) | (simp [*]; done) | (simp [wrap64]; done)), H', ⟨by have := HJ5.out; have := HK2.out; have := HJ42.out; first | omega | exact Nat.le_refl _⟩, ⟨by (with_reducible repeat (first | apply Kd.N_alloc | apply Kd.N_drewN | apply Kd.N_drew)); exact HO_273002.out⟩, ⟨by (with_reducible repeat (first | apply Kd.N_alloc | apply Kd.N_drewN | apply Kd.N_drew)); exact HO_279002.out⟩, ⟨by (with_reducible repeat (first | refine blk_drewN ?_ _ | refine blk_drew ?_ | refine blk_alloc ?_ _)); exact BK272.out⟩, ⟨by (with_reducible repeat (first | refine blk_drewN ?_ _ | refine blk_drew ?_ | refine blk_alloc ?_ _)); exact BK278.out⟩, ⟨bel_ HB.out⟩⟩
             ·rw [if_neg c70] at H
              have c70b0 : (t294 == t295) = false := beq_eq_false_iff_ne.mpr c70
              have c70b1 : (t294 != t295) = true := bne_iff_ne.mpr c70
              have H' := Aside0.mk H
              clear H
              try go_wp2
              have n0_ := Aside0.mk (Kd.N_drew HO_273002.out)
              have n1_ := Aside0.mk (Kd.N_drew HO_279002.out)
              have n2_ := Aside0.mk (blk_drew BK272.out)
              have n3_ := Aside0.mk (blk_drew BK278.out)
              have n4_ := Aside0.mk (below_drew1 HB.out)
              clear HO_273002
              clear HO_279002
              clear BK272
              clear BK278
              clear HB
              have HO_273002 := n0_
              have HO_279002 := n1_
              have BK272 := n2_
              have BK278 := n3_
              have HB := n4_
              clear n0_ n1_ n2_ n3_ n4_
              refine start_ (n := 32) (S := fun w' => w'.cell? ⟨gb272, 0, none⟩ = some (.int .i64 t266) ∧ w'.cell? ⟨gb272, 1, none⟩ = some (.int .i64 t267) ∧ w'.cell? ⟨gb272, 2, none⟩ = some (.slice Ao10 t268.length co10) ∧ w'.cell? ⟨gb278, 0, none⟩ = some (.int .i64 t273) ∧ w'.cell? ⟨gb278, 1, none⟩ = some (.int .i64 t274) ∧ w'.cell? ⟨gb278, 2, none⟩ = some (.slice Ao15 t275.length co15)) (ds := []) (bs 32 0) (by kernel_rfl) rfl rfl ⟨(blk_cell BK272.out 0).trans rfl, (blk_cell BK272.out 1).trans rfl, (blk_cell BK272.out 2).trans rfl, (blk_cell BK278.out 0).trans rfl, (blk_cell BK278.out 1).trans rfl, (blk_cell BK278.out 2).trans rfl⟩ (fun hHeld => ?_); refine with_tabW laws_FnVolumes.tab15 laws_FnVolumes.bits15 (fun HT_ HW_ => ?_)
              generalize wc.drew = w89 at HO_273002 HO_279002 BK272 BK278 HB hHeld ⊢
              refine pure_ (i := 1) (N := some 74) (v := ?_) (a' := ?_) (bs 32 2) rfl rfl (any_of HT_.out (by kernel_rfl)) (fun _ _ _ h => h) (Or.inl ⟨by rfl, ?_⟩) ?_ ?_
              rotate_left
              ·intro w'
               go_simp
               with_reducible rfl
              rotate_left
              ·simp only [Act.put, sA_, sZ_, sS_, i64_w, i32_w]
               rfl
              refine pure_ (i := 4) (N := some 77) (v := ?_) (a' := ?_) (bs 32 18) rfl rfl (any_of HT_.out (by kernel_rfl)) (fun _ _ _ h => h) (Or.inl ⟨by rfl, ?_⟩) ?_ ?_
              rotate_left
              ·intro w'
               go_simp
               with_reducible rfl
              rotate_left
              ·simp only [Act.put, sA_, sZ_, sS_, i64_w, i32_w]
               rfl
              refine take_ (i := 0) (N := some 73) (v := ?_) (a' := ?_) (bs 32 19) rfl rfl (take_ofW HT_.out HW_.out (by kernel_rfl)) (fun _ _ _ h => h) (Or.inl ⟨by rfl, ?_⟩) hHeld ?_ ?_
              rotate_left
              ·rintro w' ⟨s0, s1, s2, s3, s4, s5⟩
               go_simp
               with_reducible rfl
              rotate_left
              ·simp only [Act.put, sA_, sZ_, sS_, i64_w, i32_w]
               rfl
              refine take_ (i := 3) (N := some 76) (v := ?_) (a' := ?_) (bs 32 27) rfl rfl (take_ofW HT_.out HW_.out (by kernel_rfl)) (fun _ _ _ h => h) (Or.inl ⟨by rfl, ?_⟩) hHeld ?_ ?_
              rotate_left
              ·rintro w' ⟨s0, s1, s2, s3, s4, s5⟩
               go_simp
               with_reducible rfl
              rotate_left
              ·simp only [Act.put, sA_, sZ_, sS_, i64_w, i32_w]
               rfl
              refine one_ (i := 2) (N := some 75) (bs 32 31) rfl rfl (one_of HT_.out (by kernel_rfl)) (by decide) (fun K hK => ?_)
              refine goes_ Try.func12 (by kernel_rfl) rfl #[.agg #[.int .i64 t266, .int .i64 t267, .slice Ao10 t268.length co10], .int .i64 t271] (by rfl) rfl rfl (by (try simp only [List.map_toArray, List.map_cons, List.map_nil]); first | done | rfl | (simp only [List.length_drop, List.length_take]; rfl)) ?_
              with_reducible refine (impl_Plane.calls kj42 t266 t267 _ _ t268 t271 t292 _ ?side1 ?side2 A65.out).mono ?_
              (case side1 => repeat (first | exact (Kd.N_reads' HO_273002.out).2.2 | (with_reducible refine Kd.C_alloc ?_ _) | (with_reducible refine Kd.C_drewN ?_ _) | (with_reducible refine Kd.C_drew ?_)))
              (case side2 => exact (Kd.N_reads' HO_273002.out).2.1)
              rintro e w90 ⟨rfl, hb⟩
              refine ⟨_, rfl, ?_⟩
              have n0_ := Aside0.mk (Kd.N_below (by (with_reducible repeat (first | apply Kd.N_alloc | apply Kd.N_drewN | apply Kd.N_drew)); exact HO_273002.out) hb)
              have n1_ := Aside0.mk (Kd.N_below (by (with_reducible repeat (first | apply Kd.N_alloc | apply Kd.N_drewN | apply Kd.N_drew)); exact HO_279002.out) hb)
              have n2_ := Aside0.mk (blk_below (g := gb272) (o := .cells #[.int .i64 t266, .int .i64 t267, .slice Ao10 t268.length co10] 26 (0, 0)) (fb_ BK272.out) hb)
              have n3_ := Aside0.mk (blk_below (g := gb278) (o := .cells #[.int .i64 t273, .int .i64 t274, .slice Ao15 t275.length co15] 26 (0, 0)) (fb_ BK278.out) hb)
              have n4_ := Aside0.mk (below_step (bel_ HB.out) hb)
              clear HO_273002
              clear HO_279002
              clear BK272
              clear BK278
              clear HB
              have HO_273002 := n0_
              have HO_279002 := n1_
              have BK272 := n2_
              have BK278 := n3_
              have HB := n4_
              clear n0_ n1_ n2_ n3_ n4_
              (try clear hb)
              (try clear hb2)
              (try clear hk)
              (try clear hi)
              refine hK.out _ _ ⟨(blk_cell BK272.out 0).trans rfl, (blk_cell BK272.out 1).trans rfl, (blk_cell BK272.out 2).trans rfl, (blk_cell BK278.out 0).trans rfl, (blk_cell BK278.out 1).trans rfl, (blk_cell BK278.out 2).trans rfl⟩ (fun hHeld => ?_)
              clear hK K
              refine norm_ (a' := ?_) ?_ ?_
              rotate_left
              ·show Act.put _ (some 75) _ = _
               simp only [Act.put, sA_, sZ_, sS_, i64_w, i32_w]
               rfl
              refine one_ (i := 5) (N := some 78) (bs 32 63) rfl rfl (one_of HT_.out (by kernel_rfl)) (by decide) (fun K hK => ?_)
              refine goes_ Try.func12 (by kernel_rfl) rfl #[.agg #[.int .i64 t273, .int .i64 t274, .slice Ao15 t275.length co15], .int .i64 t271] (by rfl) rfl rfl (by (try simp only [List.map_toArray, List.map_cons, List.map_nil]); first | done | rfl | (simp only [List.length_drop, List.length_take]; rfl)) ?_
              with_reducible refine (impl_Plane.calls kj42 t273 t274 _ _ t275 t271 t293 _ ?side1 ?side2 A66.out).mono ?_
              (case side1 => repeat (first | exact (Kd.N_reads' HO_279002.out).2.2 | (with_reducible refine Kd.C_alloc ?_ _) | (with_reducible refine Kd.C_drewN ?_ _) | (with_reducible refine Kd.C_drew ?_)))
              (case side2 => exact (Kd.N_reads' HO_279002.out).2.1)
              rintro e w91 ⟨rfl, hb⟩
              refine ⟨_, rfl, ?_⟩
              have n0_ := Aside0.mk (Kd.N_below (by (with_reducible repeat (first | apply Kd.N_alloc | apply Kd.N_drewN | apply Kd.N_drew)); exact HO_273002.out) hb)
              have n1_ := Aside0.mk (Kd.N_below (by (with_reducible repeat (first | apply Kd.N_alloc | apply Kd.N_drewN | apply Kd.N_drew)); exact HO_279002.out) hb)
              have n2_ := Aside0.mk (blk_below (g := gb272) (o := .cells #[.int .i64 t266, .int .i64 t267, .slice Ao10 t268.length co10] 26 (0, 0)) (fb_ BK272.out) hb)
              have n3_ := Aside0.mk (blk_below (g := gb278) (o := .cells #[.int .i64 t273, .int .i64 t274, .slice Ao15 t275.length co15] 26 (0, 0)) (fb_ BK278.out) hb)
              have n4_ := Aside0.mk (below_step (bel_ HB.out) hb)
              clear HO_273002
              clear HO_279002
              clear BK272
              clear BK278
              clear HB
              have HO_273002 := n0_
              have HO_279002 := n1_
              have BK272 := n2_
              have BK278 := n3_
              have HB := n4_
              clear n0_ n1_ n2_ n3_ n4_
              (try clear hb)
              (try clear hb2)
              (try clear hk)
              (try clear hi)
              refine hK.out _ _ ⟨(blk_cell BK272.out 0).trans rfl, (blk_cell BK272.out 1).trans rfl, (blk_cell BK272.out 2).trans rfl, (blk_cell BK278.out 0).trans rfl, (blk_cell BK278.out 1).trans rfl, (blk_cell BK278.out 2).trans rfl⟩ (fun hHeld => ?_)
              clear hK K
              refine norm_ (a' := ?_) ?_ ?_
              rotate_left
              ·show Act.put _ (some 78) _ = _
               simp only [Act.put, sA_, sZ_, sS_, i64_w, i32_w]
               rfl
              refine pure_ (i := 6) (N := some 79) (v := ?_) (a' := ?_) (bs 32 127) rfl rfl (any_of HT_.out (by kernel_rfl)) (fun _ _ _ h => h) (Or.inl ⟨by rfl, ?_⟩) ?_ ?_
              rotate_left
              ·intro w'
               go_simp
               with_reducible rfl
              rotate_left
              ·simp only [Act.put, sA_, sZ_, sS_, i64_w, i32_w]
               rfl
              refine pure_ (i := 7) (N := some 80) (v := ?_) (a' := ?_) (bs 32 255) rfl rfl (any_of HT_.out (by kernel_rfl)) (fun _ _ _ h => h) (Or.inl ⟨by rfl, ?_⟩) ?_ ?_
              rotate_left
              ·intro w'
               go_simp
               with_reducible rfl
              rotate_left
              ·simp only [Act.put, sA_, sZ_, sS_, i64_w, i32_w]
               rfl
              refine pure_ (i := 9) (N := some 82) (v := ?_) (a' := ?_) (bs 32 767) rfl rfl (any_of HT_.out (by kernel_rfl)) (fun _ _ _ h => h) (Or.inl ⟨by rfl, ?_⟩) ?_ ?_
              rotate_left
              ·intro w'
               go_simp
               with_reducible rfl
              rotate_left
              ·simp only [Act.put, sA_, sZ_, sS_, i64_w, i32_w]
               rfl
              refine pure_ (i := 12) (N := some 85) (v := ?_) (a' := ?_) (bs 32 4863) rfl rfl (any_of HT_.out (by kernel_rfl)) (fun _ _ _ h => h) (Or.inl ⟨by rfl, ?_⟩) ?_ ?_
              rotate_left
              ·intro w'
               go_simp
               with_reducible rfl
              rotate_left
              ·simp only [Act.put, sA_, sZ_, sS_, i64_w, i32_w]
               rfl
              refine take_ (i := 8) (N := some 81) (v := ?_) (a' := ?_) (bs 32 5119) rfl rfl (take_ofW HT_.out HW_.out (by kernel_rfl)) (fun _ _ _ h => h) (Or.inl ⟨by rfl, ?_⟩) hHeld ?_ ?_
              rotate_left
              ·rintro w' ⟨s0, s1, s2, s3, s4, s5⟩
               go_simp
               with_reducible rfl
              rotate_left
              ·simp only [Act.put, sA_, sZ_, sS_, i64_w, i32_w]
               rfl
              refine take_ (i := 11) (N := some 84) (v := ?_) (a' := ?_) (bs 32 7167) rfl rfl (take_ofW HT_.out HW_.out (by kernel_rfl)) (fun _ _ _ h => h) (Or.inl ⟨by rfl, ?_⟩) hHeld ?_ ?_
              rotate_left
              ·rintro w' ⟨s0, s1, s2, s3, s4, s5⟩
               go_simp
               with_reducible rfl
              rotate_left
              ·simp only [Act.put, sA_, sZ_, sS_, i64_w, i32_w]
               rfl
              refine one_ (i := 10) (N := some 83) (bs 32 8191) rfl rfl (one_of HT_.out (by kernel_rfl)) (by decide) (fun K hK => ?_)
              refine goes_ Try.func13 (by kernel_rfl) rfl #[.agg #[.int .i64 t266, .int .i64 t267, .slice Ao10 t268.length co10], .int .i64 t271] (by rfl) rfl rfl (by (try simp only [List.map_toArray, List.map_cons, List.map_nil]); first | done | rfl | (simp only [List.length_drop, List.length_take]; rfl)) ?_
              with_reducible refine (impl_Inertia3.calls kj42 t266 t267 _ _ t268 t271 t294 _ ?side1 ?side2 A68.out).mono ?_
              (case side1 => repeat (first | exact (Kd.N_reads' HO_273002.out).2.2 | (with_reducible refine Kd.C_alloc ?_ _) | (with_reducible refine Kd.C_drewN ?_ _) | (with_reducible refine Kd.C_drew ?_)))
              (case side2 => exact (Kd.N_reads' HO_273002.out).2.1)
              rintro e w92 ⟨rfl, hb⟩
              refine ⟨_, rfl, ?_⟩
              have n0_ := Aside0.mk (Kd.N_below (by (with_reducible repeat (first | apply Kd.N_alloc | apply Kd.N_drewN | apply Kd.N_drew)); exact HO_273002.out) hb)
              have n1_ := Aside0.mk (Kd.N_below (by (with_reducible repeat (first | apply Kd.N_alloc | apply Kd.N_drewN | apply Kd.N_drew)); exact HO_279002.out) hb)
              have n2_ := Aside0.mk (blk_below (g := gb272) (o := .cells #[.int .i64 t266, .int .i64 t267, .slice Ao10 t268.length co10] 26 (0, 0)) (fb_ BK272.out) hb)
              have n3_ := Aside0.mk (blk_below (g := gb278) (o := .cells #[.int .i64 t273, .int .i64 t274, .slice Ao15 t275.length co15] 26 (0, 0)) (fb_ BK278.out) hb)
              have n4_ := Aside0.mk (below_step (bel_ HB.out) hb)
              clear HO_273002
              clear HO_279002
              clear BK272
              clear BK278
              clear HB
              have HO_273002 := n0_
              have HO_279002 := n1_
              have BK272 := n2_
              have BK278 := n3_
              have HB := n4_
              clear n0_ n1_ n2_ n3_ n4_
              (try clear hb)
              (try clear hb2)
              (try clear hk)
              (try clear hi)
              refine hK.out _ _ ⟨(blk_cell BK272.out 0).trans rfl, (blk_cell BK272.out 1).trans rfl, (blk_cell BK272.out 2).trans rfl, (blk_cell BK278.out 0).trans rfl, (blk_cell BK278.out 1).trans rfl, (blk_cell BK278.out 2).trans rfl⟩ (fun hHeld => ?_)
              clear hK K
              refine norm_ (a' := ?_) ?_ ?_
              rotate_left
              ·show Act.put _ (some 83) _ = _
               simp only [Act.put, sA_, sZ_, sS_, i64_w, i32_w]
               rfl
              refine one_ (i := 13) (N := some 86) (bs 32 16383) rfl rfl (one_of HT_.out (by kernel_rfl)) (by decide) (fun K hK => ?_)
              refine goes_ Try.func13 (by kernel_rfl) rfl #[.agg #[.int .i64 t273, .int .i64 t274, .slice Ao15 t275.length co15], .int .i64 t271] (by rfl) rfl rfl (by (try simp only [List.map_toArray, List.map_cons, List.map_nil]); first | done | rfl | (simp only [List.length_drop, List.length_take]; rfl)) ?_
              with_reducible refine (impl_Inertia3.calls kj42 t273 t274 _ _ t275 t271 t295 _ ?side1 ?side2 A69.out).mono ?_
              (case side1 => repeat (first | exact (Kd.N_reads' HO_279002.out).2.2 | (with_reducible refine Kd.C_alloc ?_ _) | (with_reducible refine Kd.C_drewN ?_ _) | (with_reducible refine Kd.C_drew ?_)))
              (case side2 => exact (Kd.N_reads' HO_279002.out).2.1)
              rintro e w93 ⟨rfl, hb⟩
              refine ⟨_, rfl, ?_⟩
              have n0_ := Aside0.mk (Kd.N_below (by (with_reducible repeat (first | apply Kd.N_alloc | apply Kd.N_drewN | apply Kd.N_drew)); exact HO_273002.out) hb)
              have n1_ := Aside0.mk (Kd.N_below (by (with_reducible repeat (first | apply Kd.N_alloc | apply Kd.N_drewN | apply Kd.N_drew)); exact HO_279002.out) hb)
              have n2_ := Aside0.mk (blk_below (g := gb272) (o := .cells #[.int .i64 t266, .int .i64 t267, .slice Ao10 t268.length co10] 26 (0, 0)) (fb_ BK272.out) hb)
              have n3_ := Aside0.mk (blk_below (g := gb278) (o := .cells #[.int .i64 t273, .int .i64 t274, .slice Ao15 t275.length co15] 26 (0, 0)) (fb_ BK278.out) hb)
              have n4_ := Aside0.mk (below_step (bel_ HB.out) hb)
              clear HO_273002
              clear HO_279002
              clear BK272
              clear BK278
              clear HB
              have HO_273002 := n0_
              have HO_279002 := n1_
              have BK272 := n2_
              have BK278 := n3_
              have HB := n4_
              clear n0_ n1_ n2_ n3_ n4_
              (try clear hb)
              (try clear hb2)
              (try clear hk)
              (try clear hi)
              refine hK.out _ _ ⟨(blk_cell BK272.out 0).trans rfl, (blk_cell BK272.out 1).trans rfl, (blk_cell BK272.out 2).trans rfl, (blk_cell BK278.out 0).trans rfl, (blk_cell BK278.out 1).trans rfl, (blk_cell BK278.out 2).trans rfl⟩ (fun hHeld => ?_)
              clear hK K
              refine norm_ (a' := ?_) ?_ ?_
              rotate_left
              ·show Act.put _ (some 86) _ = _
               simp only [Act.put, sA_, sZ_, sS_, i64_w, i32_w]
               rfl
              refine pure_ (i := 14) (N := some 87) (v := ?_) (a' := ?_) (bs 32 32767) rfl rfl (any_of HT_.out (by kernel_rfl)) (fun _ _ _ h => h) (Or.inl ⟨by rfl, ?_⟩) ?_ ?_
              rotate_left
              ·intro w'
               go_simp
               with_reducible rfl
              rotate_left
              ·simp only [Act.put, sA_, sZ_, sS_, i64_w, i32_w]
               rfl
              refine pure_ (i := 15) (N := some 88) (v := ?_) (a' := ?_) (bs 32 65535) rfl rfl (any_of HT_.out (by kernel_rfl)) (fun _ _ _ h => h) (Or.inl ⟨by rfl, ?_⟩) ?_ ?_
              rotate_left
              ·intro w'
               go_simp
               with_reducible rfl
              rotate_left
              ·simp only [Act.put, sA_, sZ_, sS_, i64_w, i32_w]
               rfl
              refine pure_ (i := 16) (N := some 89) (v := ?_) (a' := ?_) (bs 32 131071) rfl rfl (any_of HT_.out (by kernel_rfl)) (fun _ _ _ h => h) (Or.inl ⟨by rfl, ?_⟩) ?_ ?_
              rotate_left
              ·intro w'
               go_simp
               with_reducible rfl
              rotate_left
              ·simp only [Act.put, sA_, sZ_, sS_, i64_w, i32_w]
               rfl
              refine pure_ (i := 17) (N := some 90) (v := undef) (a' := ?_) (bs 32 262143) rfl rfl (any_of HT_.out (by kernel_rfl)) (fun _ _ _ h => h) (Or.inr ⟨by rfl, rfl⟩) ?_ ?_
              rotate_left
              ·simp only [Act.put, sA_, sZ_, sS_, i64_w, i32_w]
               rfl
              refine pure_ (i := 18) (N := some 91) (v := undef) (a' := ?_) (bs 32 524287) rfl rfl (any_of HT_.out (by kernel_rfl)) (fun _ _ _ h => h) (Or.inr ⟨by rfl, rfl⟩) ?_ ?_
              rotate_left
              ·simp only [Act.put, sA_, sZ_, sS_, i64_w, i32_w]
               rfl
              refine pure_ (i := 19) (N := some 92) (v := undef) (a' := ?_) (bs 32 1048575) rfl rfl (any_of HT_.out (by kernel_rfl)) (fun _ _ _ h => h) (Or.inr ⟨by rfl, rfl⟩) ?_ ?_
              rotate_left
              ·simp only [Act.put, sA_, sZ_, sS_, i64_w, i32_w]
               rfl
              refine pure_ (i := 20) (N := some 93) (v := undef) (a' := ?_) (bs 32 2097151) rfl rfl (any_of HT_.out (by kernel_rfl)) (fun _ _ _ h => h) (Or.inr ⟨by rfl, rfl⟩) ?_ ?_
              rotate_left
              ·simp only [Act.put, sA_, sZ_, sS_, i64_w, i32_w]
               rfl
              refine pure_ (i := 21) (N := some 94) (v := undef) (a' := ?_) (bs 32 4194303) rfl rfl (any_of HT_.out (by kernel_rfl)) (fun _ _ _ h => h) (Or.inr ⟨by rfl, rfl⟩) ?_ ?_
              rotate_left
              ·simp only [Act.put, sA_, sZ_, sS_, i64_w, i32_w]
               rfl
              refine pure_ (i := 22) (N := some 95) (v := ?_) (a' := ?_) (bs 32 8388607) rfl rfl (any_of HT_.out (by kernel_rfl)) (fun _ _ _ h => h) (Or.inl ⟨by rfl, ?_⟩) ?_ ?_
              rotate_left
              ·intro w'
               go_simp
               with_reducible rfl
              rotate_left
              ·simp only [Act.put, sA_, sZ_, sS_, i64_w, i32_w]
               rfl
              refine pure_ (i := 23) (N := some 96) (v := ?_) (a' := ?_) (bs 32 16777215) rfl rfl (any_of HT_.out (by kernel_rfl)) (fun _ _ _ h => h) (Or.inl ⟨by rfl, ?_⟩) ?_ ?_
              rotate_left
              ·intro w'
               go_simp
               with_reducible rfl
              rotate_left
              ·simp only [Act.put, sA_, sZ_, sS_, i64_w, i32_w]
               rfl
              refine pure_ (i := 24) (N := some 97) (v := undef) (a' := ?_) (bs 32 33554431) rfl rfl (any_of HT_.out (by kernel_rfl)) (fun _ _ _ h => h) (Or.inr ⟨by rfl, rfl⟩) ?_ ?_
              rotate_left
              ·simp only [Act.put, sA_, sZ_, sS_, i64_w, i32_w]
               rfl
              refine pure_ (i := 25) (N := some 98) (v := undef) (a' := ?_) (bs 32 67108863) rfl rfl (any_of HT_.out (by kernel_rfl)) (fun _ _ _ h => h) (Or.inr ⟨by rfl, rfl⟩) ?_ ?_
              rotate_left
              ·simp only [Act.put, sA_, sZ_, sS_, i64_w, i32_w]
               rfl
              refine pure_ (i := 26) (N := some 99) (v := undef) (a' := ?_) (bs 32 134217727) rfl rfl (any_of HT_.out (by kernel_rfl)) (fun _ _ _ h => h) (Or.inr ⟨by rfl, rfl⟩) ?_ ?_
              rotate_left
              ·simp only [Act.put, sA_, sZ_, sS_, i64_w, i32_w]
               rfl
              refine pure_ (i := 27) (N := some 100) (v := undef) (a' := ?_) (bs 32 268435455) rfl rfl (any_of HT_.out (by kernel_rfl)) (fun _ _ _ h => h) (Or.inr ⟨by rfl, rfl⟩) ?_ ?_
              rotate_left
              ·simp only [Act.put, sA_, sZ_, sS_, i64_w, i32_w]
               rfl
              refine pure_ (i := 28) (N := some 101) (v := undef) (a' := ?_) (bs 32 536870911) rfl rfl (any_of HT_.out (by kernel_rfl)) (fun _ _ _ h => h) (Or.inr ⟨by rfl, rfl⟩) ?_ ?_
              rotate_left
              ·simp only [Act.put, sA_, sZ_, sS_, i64_w, i32_w]
               rfl
              refine pure_ (i := 29) (N := some 102) (v := undef) (a' := ?_) (bs 32 1073741823) rfl rfl (any_of HT_.out (by kernel_rfl)) (fun _ _ _ h => h) (Or.inr ⟨by rfl, rfl⟩) ?_ ?_
              rotate_left
              ·simp only [Act.put, sA_, sZ_, sS_, i64_w, i32_w]
               rfl
              refine pure_ (i := 30) (N := some 103) (v := undef) (a' := ?_) (bs 32 2147483647) rfl rfl (any_of HT_.out (by kernel_rfl)) (fun _ _ _ h => h) (Or.inr ⟨by rfl, rfl⟩) ?_ ?_
              rotate_left
              ·simp only [Act.put, sA_, sZ_, sS_, i64_w, i32_w]
               rfl
              refine pure_ (i := 31) (N := some 104) (v := ?_) (a' := ?_) (bs 32 4294967295) rfl rfl (any_of HT_.out (by kernel_rfl)) (fun _ _ _ h => h) (Or.inl ⟨by rfl, ?_⟩) ?_ ?_
              rotate_left
              ·intro w'
               go_simp
               with_reducible rfl
              rotate_left
              ·simp only [Act.put, sA_, sZ_, sS_, i64_w, i32_w]
               rfl
              refine done_ (done_of HT_.out (by kernel_rfl)) ?_
              try go_wp2
              go_meet
              case rel => exact ⟨_, (true), (by first | rfl | (simp; done) | (simp [*]; done) | (simp [wrap64]; done)), H', ⟨by have := HJ5.out; have := HK2.out; have := HJ42.out; first | omega | exact Nat.le_refl _⟩, ⟨by (with_reducible repeat (first | apply Kd.N_alloc | apply Kd.N_drewN | apply Kd.N_drew)); exact HO_273002.out⟩, ⟨by (with_reducible repeat (first | apply Kd.N_alloc | apply Kd.N_drewN | apply Kd.N_drew)); exact HO_279002.out⟩, ⟨by (with_reducible repeat (first | refine blk_drewN ?_ _ | refine blk_drew ?_ | refine blk_alloc ?_ _)); exact BK272.out⟩, ⟨by (with_reducible repeat (first | refine blk_drewN ?_ _ | refine blk_drew ?_ | refine blk_alloc ?_ _)); exact BK278.out⟩, ⟨bel_ HB.out⟩⟩
            ·rw [if_neg c67] at H
             have c67b0 : (t292 == t293) = false := beq_eq_false_iff_ne.mpr c67
             have c67b1 : (t292 != t293) = true := bne_iff_ne.mpr c67
             (first | rw [c67b0] | (simp only [i64_w, i32_w]; rw [c67b0]) | skip)
             have H' := Aside0.mk H
             clear H
             try go_wp2
             have n0_ := Aside0.mk (Kd.N_drew HO_273002.out)
             have n1_ := Aside0.mk (Kd.N_drew HO_279002.out)
             have n2_ := Aside0.mk (blk_drew BK272.out)
             have n3_ := Aside0.mk (blk_drew BK278.out)
             have n4_ := Aside0.mk (below_drew1 HB.out)
             clear HO_273002
             clear HO_279002
             clear BK272
             clear BK278
             clear HB
             have HO_273002 := n0_
             have HO_279002 := n1_
             have BK272 := n2_
             have BK278 := n3_
             have HB := n4_
             clear n0_ n1_ n2_ n3_ n4_
             refine start_ (n := 32) (S := fun w' => w'.cell? ⟨gb272, 0, none⟩ = some (.int .i64 t266) ∧ w'.cell? ⟨gb272, 1, none⟩ = some (.int .i64 t267) ∧ w'.cell? ⟨gb272, 2, none⟩ = some (.slice Ao10 t268.length co10) ∧ w'.cell? ⟨gb278, 0, none⟩ = some (.int .i64 t273) ∧ w'.cell? ⟨gb278, 1, none⟩ = some (.int .i64 t274) ∧ w'.cell? ⟨gb278, 2, none⟩ = some (.slice Ao15 t275.length co15)) (ds := []) (bs 32 0) (by kernel_rfl) rfl rfl ⟨(blk_cell BK272.out 0).trans rfl, (blk_cell BK272.out 1).trans rfl, (blk_cell BK272.out 2).trans rfl, (blk_cell BK278.out 0).trans rfl, (blk_cell BK278.out 1).trans rfl, (blk_cell BK278.out 2).trans rfl⟩ (fun hHeld => ?_); refine with_tabW laws_FnVolumes.tab15 laws_FnVolumes.bits15 (fun HT_ HW_ => ?_)
             generalize wc.drew = w94 at HO_273002 HO_279002 BK272 BK278 HB hHeld ⊢
             refine pure_ (i := 1) (N := some 74) (v := ?_) (a' := ?_) (bs 32 2) rfl rfl (any_of HT_.out (by kernel_rfl)) (fun _ _ _ h => h) (Or.inl ⟨by rfl, ?_⟩) ?_ ?_
             rotate_left
             ·intro w'
              go_simp
              with_reducible rfl
             rotate_left
             ·simp only [Act.put, sA_, sZ_, sS_, i64_w, i32_w]
              rfl
             refine pure_ (i := 4) (N := some 77) (v := ?_) (a' := ?_) (bs 32 18) rfl rfl (any_of HT_.out (by kernel_rfl)) (fun _ _ _ h => h) (Or.inl ⟨by rfl, ?_⟩) ?_ ?_
             rotate_left
             ·intro w'
              go_simp
              with_reducible rfl
             rotate_left
             ·simp only [Act.put, sA_, sZ_, sS_, i64_w, i32_w]
              rfl
             refine take_ (i := 0) (N := some 73) (v := ?_) (a' := ?_) (bs 32 19) rfl rfl (take_ofW HT_.out HW_.out (by kernel_rfl)) (fun _ _ _ h => h) (Or.inl ⟨by rfl, ?_⟩) hHeld ?_ ?_
             rotate_left
             ·rintro w' ⟨s0, s1, s2, s3, s4, s5⟩
              go_simp
              with_reducible rfl
             rotate_left
             ·simp only [Act.put, sA_, sZ_, sS_, i64_w, i32_w]
              rfl
             refine take_ (i := 3) (N := some 76) (v := ?_) (a' := ?_) (bs 32 27) rfl rfl (take_ofW HT_.out HW_.out (by kernel_rfl)) (fun _ _ _ h => h) (Or.inl ⟨by rfl, ?_⟩) hHeld ?_ ?_
             rotate_left
             ·rintro w' ⟨s0, s1, s2, s3, s4, s5⟩
              go_simp
              with_reducible rfl
             rotate_left
             ·simp only [Act.put, sA_, sZ_, sS_, i64_w, i32_w]
              rfl
             refine one_ (i := 2) (N := some 75) (bs 32 31) rfl rfl (one_of HT_.out (by kernel_rfl)) (by decide) (fun K hK => ?_)
             refine goes_ Try.func12 (by kernel_rfl) rfl #[.agg #[.int .i64 t266, .int .i64 t267, .slice Ao10 t268.length co10], .int .i64 t271] (by rfl) rfl rfl (by (try simp only [List.map_toArray, List.map_cons, List.map_nil]); first | done | rfl | (simp only [List.length_drop, List.length_take]; rfl)) ?_
             with_reducible refine (impl_Plane.calls kj42 t266 t267 _ _ t268 t271 t292 _ ?side1 ?side2 A65.out).mono ?_
             (case side1 => repeat (first | exact (Kd.N_reads' HO_273002.out).2.2 | (with_reducible refine Kd.C_alloc ?_ _) | (with_reducible refine Kd.C_drewN ?_ _) | (with_reducible refine Kd.C_drew ?_)))
             (case side2 => exact (Kd.N_reads' HO_273002.out).2.1)
             rintro e w95 ⟨rfl, hb⟩
             refine ⟨_, rfl, ?_⟩
             have n0_ := Aside0.mk (Kd.N_below (by (with_reducible repeat (first | apply Kd.N_alloc | apply Kd.N_drewN | apply Kd.N_drew)); exact HO_273002.out) hb)
             have n1_ := Aside0.mk (Kd.N_below (by (with_reducible repeat (first | apply Kd.N_alloc | apply Kd.N_drewN | apply Kd.N_drew)); exact HO_279002.out) hb)
             have n2_ := Aside0.mk (blk_below (g := gb272) (o := .cells #[.int .i64 t266, .int .i64 t267, .slice Ao10 t268.length co10] 26 (0, 0)) (fb_ BK272.out) hb)
             have n3_ := Aside0.mk (blk_below (g := gb278) (o := .cells #[.int .i64 t273, .int .i64 t274, .slice Ao15 t275.length co15] 26 (0, 0)) (fb_ BK278.out) hb)
             have n4_ := Aside0.mk (below_step (bel_ HB.out) hb)
             clear HO_273002
             clear HO_279002
             clear BK272
             clear BK278
             clear HB
             have HO_273002 := n0_
             have HO_279002 := n1_
             have BK272 := n2_
             have BK278 := n3_
             have HB := n4_
             clear n0_ n1_ n2_ n3_ n4_
             (try clear hb)
             (try clear hb2)
             (try clear hk)
             (try clear hi)
             refine hK.out _ _ ⟨(blk_cell BK272.out 0).trans rfl, (blk_cell BK272.out 1).trans rfl, (blk_cell BK272.out 2).trans rfl, (blk_cell BK278.out 0).trans rfl, (blk_cell BK278.out 1).trans rfl, (blk_cell BK278.out 2).trans rfl⟩ (fun hHeld => ?_)
             clear hK K
             refine norm_ (a' := ?_) ?_ ?_
             rotate_left
             ·show Act.put _ (some 75) _ = _
              simp only [Act.put, sA_, sZ_, sS_, i64_w, i32_w]
              rfl
             refine one_ (i := 5) (N := some 78) (bs 32 63) rfl rfl (one_of HT_.out (by kernel_rfl)) (by decide) (fun K hK => ?_)
             refine goes_ Try.func12 (by kernel_rfl) rfl #[.agg #[.int .i64 t273, .int .i64 t274, .slice Ao15 t275.length co15], .int .i64 t271] (by rfl) rfl rfl (by (try simp only [List.map_toArray, List.map_cons, List.map_nil]); first | done | rfl | (simp only [List.length_drop, List.length_take]; rfl)) ?_
             with_reducible refine (impl_Plane.calls kj42 t273 t274 _ _ t275 t271 t293 _ ?side1 ?side2 A66.out).mono ?_
             (case side1 => repeat (first | exact (Kd.N_reads' HO_279002.out).2.2 | (with_reducible refine Kd.C_alloc ?_ _) | (with_reducible refine Kd.C_drewN ?_ _) | (with_reducible refine Kd.C_drew ?_)))
             (case side2 => exact (Kd.N_reads' HO_279002.out).2.1)
             rintro e w96 ⟨rfl, hb⟩
             refine ⟨_, rfl, ?_⟩
             have n0_ := Aside0.mk (Kd.N_below (by (with_reducible repeat (first | apply Kd.N_alloc | apply Kd.N_drewN | apply Kd.N_drew)); exact HO_273002.out) hb)
             have n1_ := Aside0.mk (Kd.N_below (by (with_reducible repeat (first | apply Kd.N_alloc | apply Kd.N_drewN | apply Kd.N_drew)); exact HO_279002.out) hb)
             have n2_ := Aside0.mk (blk_below (g := gb272) (o := .cells #[.int .i64 t266, .int .i64 t267, .slice Ao10 t268.length co10] 26 (0, 0)) (fb_ BK272.out) hb)
             have n3_ := Aside0.mk (blk_below (g := gb278) (o := .cells #[.int .i64 t273, .int .i64 t274, .slice Ao15 t275.length co15] 26 (0, 0)) (fb_ BK278.out) hb)
             have n4_ := Aside0.mk (below_step (bel_ HB.out) hb)
             clear HO_273002
             clear HO_279002
             clear BK272
             clear BK278
             clear HB
             have HO_273002 := n0_
             have HO_279002 := n1_
             have BK272 := n2_
             have BK278 := n3_
             have HB := n4_
             clear n0_ n1_ n2_ n3_ n4_
             (try clear hb)
             (try clear hb2)
             (try clear hk)
             (try clear hi)
             refine hK.out _ _ ⟨(blk_cell BK272.out 0).trans rfl, (blk_cell BK272.out 1).trans rfl, (blk_cell BK272.out 2).trans rfl, (blk_cell BK278.out 0).trans rfl, (blk_cell BK278.out 1).trans rfl, (blk_cell BK278.out 2).trans rfl⟩ (fun hHeld => ?_)
             clear hK K
             refine norm_ (a' := ?_) ?_ ?_
             rotate_left
             ·show Act.put _ (some 78) _ = _
              simp only [Act.put, sA_, sZ_, sS_, i64_w, i32_w]
              rfl
             refine pure_ (i := 6) (N := some 79) (v := ?_) (a' := ?_) (bs 32 127) rfl rfl (any_of HT_.out (by kernel_rfl)) (fun _ _ _ h => h) (Or.inl ⟨by rfl, ?_⟩) ?_ ?_
             rotate_left
             ·intro w'
              go_simp
              with_reducible rfl
             rotate_left
             ·simp only [Act.put, sA_, sZ_, sS_, i64_w, i32_w]
              rfl
             refine pure_ (i := 7) (N := some 80) (v := ?_) (a' := ?_) (bs 32 255) rfl rfl (any_of HT_.out (by kernel_rfl)) (fun _ _ _ h => h) (Or.inl ⟨by rfl, ?_⟩) ?_ ?_
             rotate_left
             ·intro w'
              go_simp
              with_reducible rfl
             rotate_left
             ·simp only [Act.put, sA_, sZ_, sS_, i64_w, i32_w]
              rfl
             refine pure_ (i := 8) (N := some 81) (v := undef) (a' := ?_) (bs 32 511) rfl rfl (any_of HT_.out (by kernel_rfl)) (fun _ _ _ h => h) (Or.inr ⟨by rfl, rfl⟩) ?_ ?_
             rotate_left
             ·simp only [Act.put, sA_, sZ_, sS_, i64_w, i32_w]
              rfl
             refine pure_ (i := 9) (N := some 82) (v := undef) (a' := ?_) (bs 32 1023) rfl rfl (any_of HT_.out (by kernel_rfl)) (fun _ _ _ h => h) (Or.inr ⟨by rfl, rfl⟩) ?_ ?_
             rotate_left
             ·simp only [Act.put, sA_, sZ_, sS_, i64_w, i32_w]
              rfl
             refine pure_ (i := 10) (N := some 83) (v := undef) (a' := ?_) (bs 32 2047) rfl rfl (any_of HT_.out (by kernel_rfl)) (fun _ _ _ h => h) (Or.inr ⟨by rfl, rfl⟩) ?_ ?_
             rotate_left
             ·simp only [Act.put, sA_, sZ_, sS_, i64_w, i32_w]
              rfl
             refine pure_ (i := 11) (N := some 84) (v := undef) (a' := ?_) (bs 32 4095) rfl rfl (any_of HT_.out (by kernel_rfl)) (fun _ _ _ h => h) (Or.inr ⟨by rfl, rfl⟩) ?_ ?_
             rotate_left
             ·simp only [Act.put, sA_, sZ_, sS_, i64_w, i32_w]
              rfl
             refine pure_ (i := 12) (N := some 85) (v := undef) (a' := ?_) (bs 32 8191) rfl rfl (any_of HT_.out (by kernel_rfl)) (fun _ _ _ h => h) (Or.inr ⟨by rfl, rfl⟩) ?_ ?_
             rotate_left
             ·simp only [Act.put, sA_, sZ_, sS_, i64_w, i32_w]
              rfl
             refine pure_ (i := 13) (N := some 86) (v := undef) (a' := ?_) (bs 32 16383) rfl rfl (any_of HT_.out (by kernel_rfl)) (fun _ _ _ h => h) (Or.inr ⟨by rfl, rfl⟩) ?_ ?_
             rotate_left
             ·simp only [Act.put, sA_, sZ_, sS_, i64_w, i32_w]
              rfl
             refine pure_ (i := 14) (N := some 87) (v := undef) (a' := ?_) (bs 32 32767) rfl rfl (any_of HT_.out (by kernel_rfl)) (fun _ _ _ h => h) (Or.inr ⟨by rfl, rfl⟩) ?_ ?_
             rotate_left
             ·simp only [Act.put, sA_, sZ_, sS_, i64_w, i32_w]
              rfl
             refine pure_ (i := 15) (N := some 88) (v := ?_) (a' := ?_) (bs 32 65535) rfl rfl (any_of HT_.out (by kernel_rfl)) (fun _ _ _ h => h) (Or.inl ⟨by rfl, ?_⟩) ?_ ?_
             rotate_left
             ·intro w'
              go_simp
              with_reducible rfl
             rotate_left
             ·simp only [Act.put, sA_, sZ_, sS_, i64_w, i32_w]
              rfl
             refine pure_ (i := 16) (N := some 89) (v := ?_) (a' := ?_) (bs 32 131071) rfl rfl (any_of HT_.out (by kernel_rfl)) (fun _ _ _ h => h) (Or.inl ⟨by rfl, ?_⟩) ?_ ?_
             rotate_left
             ·intro w'
              go_simp
              with_reducible rfl
             rotate_left
             ·simp only [Act.put, sA_, sZ_, sS_, i64_w, i32_w]
              rfl
             refine pure_ (i := 17) (N := some 90) (v := undef) (a' := ?_) (bs 32 262143) rfl rfl (any_of HT_.out (by kernel_rfl)) (fun _ _ _ h => h) (Or.inr ⟨by rfl, rfl⟩) ?_ ?_
             rotate_left
             ·simp only [Act.put, sA_, sZ_, sS_, i64_w, i32_w]
              rfl
             refine pure_ (i := 18) (N := some 91) (v := undef) (a' := ?_) (bs 32 524287) rfl rfl (any_of HT_.out (by kernel_rfl)) (fun _ _ _ h => h) (Or.inr ⟨by rfl, rfl⟩) ?_ ?_
             rotate_left
             ·simp only [Act.put, sA_, sZ_, sS_, i64_w, i32_w]
              rfl
             refine pure_ (i := 19) (N := some 92) (v := undef) (a' := ?_) (bs 32 1048575) rfl rfl (any_of HT_.out (by kernel_rfl)) (fun _ _ _ h => h) (Or.inr ⟨by rfl, rfl⟩) ?_ ?_
             rotate_left
             ·simp only [Act.put, sA_, sZ_, sS_, i64_w, i32_w]
              rfl
             refine pure_ (i := 20) (N := some 93) (v := undef) (a' := ?_) (bs 32 2097151) rfl rfl (any_of HT_.out (by kernel_rfl)) (fun _ _ _ h => h) (Or.inr ⟨by rfl, rfl⟩) ?_ ?_
             rotate_left
             ·simp only [Act.put, sA_, sZ_, sS_, i64_w, i32_w]
              rfl
             refine pure_ (i := 21) (N := some 94) (v := undef) (a' := ?_) (bs 32 4194303) rfl rfl (any_of HT_.out (by kernel_rfl)) (fun _ _ _ h => h) (Or.inr ⟨by rfl, rfl⟩) ?_ ?_
             rotate_left
             ·simp only [Act.put, sA_, sZ_, sS_, i64_w, i32_w]
              rfl
             refine pure_ (i := 22) (N := some 95) (v := ?_) (a' := ?_) (bs 32 8388607) rfl rfl (any_of HT_.out (by kernel_rfl)) (fun _ _ _ h => h) (Or.inl ⟨by rfl, ?_⟩) ?_ ?_
             rotate_left
             ·intro w'
              go_simp
              with_reducible rfl
             rotate_left
             ·simp only [Act.put, sA_, sZ_, sS_, i64_w, i32_w]
              rfl
             refine pure_ (i := 23) (N := some 96) (v := ?_) (a' := ?_) (bs 32 16777215) rfl rfl (any_of HT_.out (by kernel_rfl)) (fun _ _ _ h => h) (Or.inl ⟨by rfl, ?_⟩) ?_ ?_
             rotate_left
             ·intro w'
              go_simp
              with_reducible rfl
             rotate_left
             ·simp only [Act.put, sA_, sZ_, sS_, i64_w, i32_w]
              rfl
             refine pure_ (i := 24) (N := some 97) (v := undef) (a' := ?_) (bs 32 33554431) rfl rfl (any_of HT_.out (by kernel_rfl)) (fun _ _ _ h => h) (Or.inr ⟨by rfl, rfl⟩) ?_ ?_
             rotate_left
             ·simp only [Act.put, sA_, sZ_, sS_, i64_w, i32_w]
              rfl
             refine pure_ (i := 25) (N := some 98) (v := undef) (a' := ?_) (bs 32 67108863) rfl rfl (any_of HT_.out (by kernel_rfl)) (fun _ _ _ h => h) (Or.inr ⟨by rfl, rfl⟩) ?_ ?_
             rotate_left
             ·simp only [Act.put, sA_, sZ_, sS_, i64_w, i32_w]
              rfl
             refine pure_ (i := 26) (N := some 99) (v := undef) (a' := ?_) (bs 32 134217727) rfl rfl (any_of HT_.out (by kernel_rfl)) (fun _ _ _ h => h) (Or.inr ⟨by rfl, rfl⟩) ?_ ?_
             rotate_left
             ·simp only [Act.put, sA_, sZ_, sS_, i64_w, i32_w]
              rfl
             refine pure_ (i := 27) (N := some 100) (v := undef) (a' := ?_) (bs 32 268435455) rfl rfl (any_of HT_.out (by kernel_rfl)) (fun _ _ _ h => h) (Or.inr ⟨by rfl, rfl⟩) ?_ ?_
             rotate_left
             ·simp only [Act.put, sA_, sZ_, sS_, i64_w, i32_w]
              rfl
             refine pure_ (i := 28) (N := some 101) (v := undef) (a' := ?_) (bs 32 536870911) rfl rfl (any_of HT_.out (by kernel_rfl)) (fun _ _ _ h => h) (Or.inr ⟨by rfl, rfl⟩) ?_ ?_
             rotate_left
             ·simp only [Act.put, sA_, sZ_, sS_, i64_w, i32_w]
              rfl
             refine pure_ (i := 29) (N := some 102) (v := undef) (a' := ?_) (bs 32 1073741823) rfl rfl (any_of HT_.out (by kernel_rfl)) (fun _ _ _ h => h) (Or.inr ⟨by rfl, rfl⟩) ?_ ?_
             rotate_left
             ·simp only [Act.put, sA_, sZ_, sS_, i64_w, i32_w]
              rfl
             refine pure_ (i := 30) (N := some 103) (v := undef) (a' := ?_) (bs 32 2147483647) rfl rfl (any_of HT_.out (by kernel_rfl)) (fun _ _ _ h => h) (Or.inr ⟨by rfl, rfl⟩) ?_ ?_
             rotate_left
             ·simp only [Act.put, sA_, sZ_, sS_, i64_w, i32_w]
              rfl
             refine pure_ (i := 31) (N := some 104) (v := ?_) (a' := ?_) (bs 32 4294967295) rfl rfl (any_of HT_.out (by kernel_rfl)) (fun _ _ _ h => h) (Or.inl ⟨by rfl, ?_⟩) ?_ ?_
             rotate_left
             ·intro w'
              go_simp
              with_reducible rfl
             rotate_left
             ·simp only [Act.put, sA_, sZ_, sS_, i64_w, i32_w]
              rfl
             refine done_ (done_of HT_.out (by kernel_rfl)) ?_
             try go_wp2
             go_meet
             case rel => exact ⟨_, (true), (by first | rfl | (simp; done) | (simp [*]; done) | (simp [wrap64]; done)), H', ⟨by have := HJ5.out; have := HK2.out; have := HJ42.out; first | omega | exact Nat.le_refl _⟩, ⟨by (with_reducible repeat (first | apply Kd.N_alloc | apply Kd.N_drewN | apply Kd.N_drew)); exact HO_273002.out⟩, ⟨by (with_reducible repeat (first | apply Kd.N_alloc | apply Kd.N_drewN | apply Kd.N_drew)); exact HO_279002.out⟩, ⟨by (with_reducible repeat (first | refine blk_drewN ?_ _ | refine blk_drew ?_ | refine blk_alloc ?_ _)); exact BK272.out⟩, ⟨by (with_reducible repeat (first | refine blk_drewN ?_ _ | refine blk_drew ?_ | refine blk_alloc ?_ _)); exact BK278.out⟩, ⟨bel_ HB.out⟩⟩
           case rest =>
            clear HC64
            obtain ⟨kq, x104_63, rfl, HA, HJ63, HO_273002, HO_279002, BK272, BK278, HB⟩ := hcut
            cases kq with
            | zero => exact absurd HA.out (by simp [laws_FnVolumes.j3])
            | succ kj63 =>
             have H := HA.out
             clear HA
             simp only [laws_FnVolumes.j3] at H
             by_cases c97 : x104_63 = true
             ·subst c97
              have H1 : (some false) = some r := by rw [if_pos rfl] at H; exact H
              clear H
              have H := H1
              clear H1
              obtain rfl := Option.some.inj H
              go_wp2
              go_ret
              exact ⟨by first | rfl | (simp [errW_none, errW_some] <;> rfl) | (simp [*, errW_none, errW_some] <;> rfl), bel_ HB.out⟩
             ·replace c97 := Bool.eq_false_iff.mpr c97
              subst c97
              have H1 : ((impl_Along4.f kj63 t266 t267 t268 t271).bind fun t299 => ((impl_Along4.f kj63 t273 t274 t275 t271).bind fun t300 => (if (wrap64 (t299 + t300)) = (wrap64 ((wrap64 ((wrap64 (x6_2 * t266)) * 2)) * (wrap64 ((t268.length : Int) - 1)))) then ((impl_Plane.f kj63 2 1 (([(([1, 2] : List Int)), (([3, 4] : List Int))] : List (List Int))) 1).bind fun t310 => (some (t310 == 12))) else (some false)))) = some r := by rw [if_neg (show ¬ (false = true) by decide)] at H; exact H
              clear H
              have H := H1
              clear H1
              replace H := Option.bind_eq_some_iff.mp H
              obtain ⟨t299, A980, H⟩ := H
              replace H : ((impl_Along4.f kj63 t273 t274 t275 t271).bind fun t300 => (if (wrap64 (t299 + t300)) = (wrap64 ((wrap64 ((wrap64 (x6_2 * t266)) * 2)) * (wrap64 ((t268.length : Int) - 1)))) then ((impl_Plane.f kj63 2 1 (([(([1, 2] : List Int)), (([3, 4] : List Int))] : List (List Int))) 1).bind fun t310 => (some (t310 == 12))) else (some false))) = some r := H
              have A98 := Aside0.mk A980
              clear A980
              replace H := Option.bind_eq_some_iff.mp H
              obtain ⟨t300, A990, H⟩ := H
              replace H : (if (wrap64 (t299 + t300)) = (wrap64 ((wrap64 ((wrap64 (x6_2 * t266)) * 2)) * (wrap64 ((t268.length : Int) - 1)))) then ((impl_Plane.f kj63 2 1 (([(([1, 2] : List Int)), (([3, 4] : List Int))] : List (List Int))) 1).bind fun t310 => (some (t310 == 12))) else (some false)) = some r := H
              have A99 := Aside0.mk A990
              clear A990
              by_cases c100 : (wrap64 (t299 + t300)) = (wrap64 ((wrap64 ((wrap64 (x6_2 * t266)) * 2)) * (wrap64 ((t268.length : Int) - 1))))
              ·rw [if_pos c100] at H
               have c100b0 : ((wrap64 (t299 + t300)) == (wrap64 ((wrap64 ((wrap64 (x6_2 * t266)) * 2)) * (wrap64 ((t268.length : Int) - 1))))) = true := beq_iff_eq.mpr c100
               have c100b1 : ((wrap64 (t299 + t300)) != (wrap64 ((wrap64 ((wrap64 (x6_2 * t266)) * 2)) * (wrap64 ((t268.length : Int) - 1))))) = false := bne_eq_false_iff_eq.mpr c100
               clear c100
               obtain ⟨y301, hy301⟩ : ∃ y_ : List Int, y_ = (([1, 2] : List Int)) := ⟨_, rfl⟩
               replace H : ((impl_Plane.f kj63 2 1 (([y301, (([3, 4] : List Int))] : List (List Int))) 1).bind fun t310 => (some (t310 == 12))) = some r := by first | (rw [hy301]; with_reducible exact H) | (have H2_ := (Option.bind_some _ _).symm.trans H; rw [hy301]; with_reducible exact H2_) | (have H2_ := (Option.bind_some _ _).symm.trans H; with_reducible exact H2_) | with_reducible exact H | (rw [hy301]; exact H) | exact H
               have Ny301 := Aside0.mk hy301
               clear hy301
               obtain ⟨y304, hy304⟩ : ∃ y_ : List Int, y_ = (([3, 4] : List Int)) := ⟨_, rfl⟩
               replace H : ((impl_Plane.f kj63 2 1 (([y301, y304] : List (List Int))) 1).bind fun t310 => (some (t310 == 12))) = some r := by first | (rw [hy304]; with_reducible exact H) | (have H2_ := (Option.bind_some _ _).symm.trans H; rw [hy304]; with_reducible exact H2_) | (have H2_ := (Option.bind_some _ _).symm.trans H; with_reducible exact H2_) | with_reducible exact H | (rw [hy304]; exact H) | exact H
               have Ny304 := Aside0.mk hy304
               clear hy304
               obtain ⟨y307, hy307⟩ : ∃ y_ : List (List Int), y_ = (([y301, y304] : List (List Int))) := ⟨_, rfl⟩
               replace H : ((impl_Plane.f kj63 2 1 y307 1).bind fun t310 => (some (t310 == 12))) = some r := by first | (rw [hy307]; with_reducible exact H) | (have H2_ := (Option.bind_some _ _).symm.trans H; rw [hy307]; with_reducible exact H2_) | (have H2_ := (Option.bind_some _ _).symm.trans H; with_reducible exact H2_) | with_reducible exact H | (rw [hy307]; exact H) | exact H
               have Ny307 := Aside0.mk hy307
               clear hy307
               replace H := Option.bind_eq_some_iff.mp H
               obtain ⟨t310, A1010, H⟩ := H
               replace H : (some (t310 == 12)) = some r := H
               have A101 := Aside0.mk A1010
               clear A1010
               obtain rfl := Option.some.inj H
               try go_wp2
               have n0_ := Aside0.mk (Kd.N_drew HO_273002.out)
               have n1_ := Aside0.mk (Kd.N_drew HO_279002.out)
               have n2_ := Aside0.mk (blk_drew BK272.out)
               have n3_ := Aside0.mk (blk_drew BK278.out)
               have n4_ := Aside0.mk (below_drew1 HB.out)
               clear HO_273002
               clear HO_279002
               clear BK272
               clear BK278
               clear HB
               have HO_273002 := n0_
               have HO_279002 := n1_
               have BK272 := n2_
               have BK278 := n3_
               have HB := n4_
               clear n0_ n1_ n2_ n3_ n4_
               refine start_ (n := 27) (S := fun w' => w'.cell? ⟨gb272, 0, none⟩ = some (.int .i64 t266) ∧ w'.cell? ⟨gb272, 1, none⟩ = some (.int .i64 t267) ∧ w'.cell? ⟨gb272, 2, none⟩ = some (.slice Ao10 t268.length co10) ∧ w'.cell? ⟨gb278, 0, none⟩ = some (.int .i64 t273) ∧ w'.cell? ⟨gb278, 1, none⟩ = some (.int .i64 t274) ∧ w'.cell? ⟨gb278, 2, none⟩ = some (.slice Ao15 t275.length co15)) (ds := []) (bs 27 0) (by kernel_rfl) rfl rfl ⟨(blk_cell BK272.out 0).trans rfl, (blk_cell BK272.out 1).trans rfl, (blk_cell BK272.out 2).trans rfl, (blk_cell BK278.out 0).trans rfl, (blk_cell BK278.out 1).trans rfl, (blk_cell BK278.out 2).trans rfl⟩ (fun hHeld => ?_); refine with_tabW laws_FnVolumes.tab17 laws_FnVolumes.bits17 (fun HT_ HW_ => ?_)
               generalize wc.drew = w102 at HO_273002 HO_279002 BK272 BK278 HB hHeld ⊢
               refine pure_ (i := 1) (N := some 106) (v := ?_) (a' := ?_) (bs 27 2) rfl rfl (any_of HT_.out (by kernel_rfl)) (fun _ _ _ h => h) (Or.inl ⟨by rfl, ?_⟩) ?_ ?_
               rotate_left
               ·intro w'
                go_simp
                with_reducible rfl
               rotate_left
               ·simp only [Act.put, sA_, sZ_, sS_, i64_w, i32_w]
                rfl
               refine pure_ (i := 4) (N := some 109) (v := ?_) (a' := ?_) (bs 27 18) rfl rfl (any_of HT_.out (by kernel_rfl)) (fun _ _ _ h => h) (Or.inl ⟨by rfl, ?_⟩) ?_ ?_
               rotate_left
               ·intro w'
                go_simp
                with_reducible rfl
               rotate_left
               ·simp only [Act.put, sA_, sZ_, sS_, i64_w, i32_w]
                rfl
               refine pure_ (i := 7) (N := some 112) (v := ?_) (a' := ?_) (bs 27 146) rfl rfl (any_of HT_.out (by kernel_rfl)) (fun _ _ _ h => h) (Or.inl ⟨by rfl, ?_⟩) ?_ ?_
               rotate_left
               ·intro w'
                go_simp
                with_reducible rfl
               rotate_left
               ·simp only [Act.put, sA_, sZ_, sS_, i64_w, i32_w]
                rfl
               refine pure_ (i := 8) (N := some 113) (v := ?_) (a' := ?_) (bs 27 402) rfl rfl (any_of HT_.out (by kernel_rfl)) (fun _ _ _ h => h) (Or.inl ⟨by rfl, ?_⟩) ?_ ?_
               rotate_left
               ·intro w'
                go_simp
                with_reducible rfl
               rotate_left
               ·simp only [Act.put, sA_, sZ_, sS_, i64_w, i32_w]
                rfl
               refine pure_ (i := 12) (N := some 117) (v := ?_) (a' := ?_) (bs 27 4498) rfl rfl (any_of HT_.out (by kernel_rfl)) (fun _ _ _ h => h) (Or.inl ⟨by rfl, ?_⟩) ?_ ?_
               rotate_left
               ·intro w'
                go_simp
                with_reducible rfl
               rotate_left
               ·simp only [Act.put, sA_, sZ_, sS_, i64_w, i32_w]
                rfl
               refine take_ (i := 0) (N := some 105) (v := ?_) (a' := ?_) (bs 27 4499) rfl rfl (take_ofW HT_.out HW_.out (by kernel_rfl)) (fun _ _ _ h => h) (Or.inl ⟨by rfl, ?_⟩) hHeld ?_ ?_
               rotate_left
               ·rintro w' ⟨s0, s1, s2, s3, s4, s5⟩
                go_simp
                with_reducible rfl
               rotate_left
               ·simp only [Act.put, sA_, sZ_, sS_, i64_w, i32_w]
                rfl
               refine take_ (i := 3) (N := some 108) (v := ?_) (a' := ?_) (bs 27 4507) rfl rfl (take_ofW HT_.out HW_.out (by kernel_rfl)) (fun _ _ _ h => h) (Or.inl ⟨by rfl, ?_⟩) hHeld ?_ ?_
               rotate_left
               ·rintro w' ⟨s0, s1, s2, s3, s4, s5⟩
                go_simp
                with_reducible rfl
               rotate_left
               ·simp only [Act.put, sA_, sZ_, sS_, i64_w, i32_w]
                rfl
               refine take_ (i := 9) (N := some 114) (v := ?_) (a' := ?_) (bs 27 5019) rfl rfl (take_ofW HT_.out HW_.out (by kernel_rfl)) (fun _ _ _ h => h) (Or.inl ⟨by rfl, ?_⟩) hHeld ?_ ?_
               rotate_left
               ·rintro w' ⟨s0, s1, s2, s3, s4, s5⟩
                go_simp
                with_reducible rfl
               rotate_left
               ·simp only [Act.put, sA_, sZ_, sS_, i64_w, i32_w]
                rfl
               refine pure_ (i := 10) (N := some 115) (v := ?_) (a' := ?_) (bs 27 6043) rfl rfl (any_of HT_.out (by kernel_rfl)) (fun _ _ _ h => h) (Or.inl ⟨by rfl, ?_⟩) ?_ ?_
               rotate_left
               ·intro w'
                go_simp
                with_reducible rfl
               rotate_left
               ·simp only [Act.put, sA_, sZ_, sS_, i64_w, i32_w]
                rfl
               refine pure_ (i := 11) (N := some 116) (v := ?_) (a' := ?_) (bs 27 8091) rfl rfl (any_of HT_.out (by kernel_rfl)) (fun _ _ _ h => h) (Or.inl ⟨by rfl, ?_⟩) ?_ ?_
               rotate_left
               ·intro w'
                go_simp
                with_reducible rfl
               rotate_left
               ·simp only [Act.put, sA_, sZ_, sS_, i64_w, i32_w]
                rfl
               refine take_ (i := 13) (N := some 118) (v := ?_) (a' := ?_) (bs 27 16283) rfl rfl (take_ofW HT_.out HW_.out (by kernel_rfl)) (fun _ _ _ h => h) (Or.inl ⟨by rfl, ?_⟩) hHeld ?_ ?_
               rotate_left
               ·rintro w' ⟨s0, s1, s2, s3, s4, s5⟩
                go_simp
                with_reducible rfl
               rotate_left
               ·simp only [Act.put, sA_, sZ_, sS_, i64_w, i32_w]
                rfl
               refine pure_ (i := 14) (N := some 119) (v := ?_) (a' := ?_) (bs 27 32667) rfl rfl (any_of HT_.out (by kernel_rfl)) (fun _ _ _ h => h) (Or.inl ⟨by rfl, ?_⟩) ?_ ?_
               rotate_left
               ·intro w'
                go_simp
                with_reducible rfl
               rotate_left
               ·simp only [Act.put, sA_, sZ_, sS_, i64_w, i32_w]
                rfl
               refine pure_ (i := 15) (N := some 120) (v := ?_) (a' := ?_) (bs 27 65435) rfl rfl (any_of HT_.out (by kernel_rfl)) (fun _ _ _ h => h) (Or.inl ⟨by rfl, ?_⟩) ?_ ?_
               rotate_left
               ·intro w'
                go_simp
                with_reducible rfl
               rotate_left
               ·simp only [Act.put, sA_, sZ_, sS_, i64_w, i32_w]
                rfl
               refine pure_ (i := 16) (N := some 121) (v := ?_) (a' := ?_) (bs 27 130971) rfl rfl (any_of HT_.out (by kernel_rfl)) (fun _ _ _ h => h) (Or.inl ⟨by rfl, ?_⟩) ?_ ?_
               rotate_left
               ·intro w'
                go_simp
                with_reducible rfl
               rotate_left
               ·simp only [Act.put, sA_, sZ_, sS_, i64_w, i32_w]
                rfl
               refine one_ (i := 2) (N := some 107) (bs 27 130975) rfl rfl (one_of HT_.out (by kernel_rfl)) (by decide) (fun K hK => ?_)
               refine goes_ Try.func15 (by kernel_rfl) rfl #[.agg #[.int .i64 t266, .int .i64 t267, .slice Ao10 t268.length co10], .int .i64 t271] (by rfl) rfl rfl (by (try simp only [List.map_toArray, List.map_cons, List.map_nil]); first | done | rfl | (simp only [List.length_drop, List.length_take]; rfl)) ?_
               with_reducible refine (impl_Along4.calls kj63 t266 t267 _ _ t268 t271 t299 _ ?side1 ?side2 A98.out).mono ?_
               (case side1 => repeat (first | exact (Kd.N_reads' HO_273002.out).2.2 | (with_reducible refine Kd.C_alloc ?_ _) | (with_reducible refine Kd.C_drewN ?_ _) | (with_reducible refine Kd.C_drew ?_)))
               (case side2 => exact (Kd.N_reads' HO_273002.out).2.1)
               rintro e w103 ⟨rfl, hb⟩
               refine ⟨_, rfl, ?_⟩
               have n0_ := Aside0.mk (Kd.N_below (by (with_reducible repeat (first | apply Kd.N_alloc | apply Kd.N_drewN | apply Kd.N_drew)); exact HO_273002.out) hb)
               have n1_ := Aside0.mk (Kd.N_below (by (with_reducible repeat (first | apply Kd.N_alloc | apply Kd.N_drewN | apply Kd.N_drew)); exact HO_279002.out) hb)
               have n2_ := Aside0.mk (blk_below (g := gb272) (o := .cells #[.int .i64 t266, .int .i64 t267, .slice Ao10 t268.length co10] 26 (0, 0)) (fb_ BK272.out) hb)
               have n3_ := Aside0.mk (blk_below (g := gb278) (o := .cells #[.int .i64 t273, .int .i64 t274, .slice Ao15 t275.length co15] 26 (0, 0)) (fb_ BK278.out) hb)
               have n4_ := Aside0.mk (below_step (bel_ HB.out) hb)
               clear HO_273002
               clear HO_279002
               clear BK272
               clear BK278
               clear HB
               have HO_273002 := n0_
               have HO_279002 := n1_
               have BK272 := n2_
               have BK278 := n3_
               have HB := n4_
               clear n0_ n1_ n2_ n3_ n4_
               (try clear hb)
               (try clear hb2)
               (try clear hk)
               (try clear hi)
               refine hK.out _ _ ⟨(blk_cell BK272.out 0).trans rfl, (blk_cell BK272.out 1).trans rfl, (blk_cell BK272.out 2).trans rfl, (blk_cell BK278.out 0).trans rfl, (blk_cell BK278.out 1).trans rfl, (blk_cell BK278.out 2).trans rfl⟩ (fun hHeld => ?_)
               clear hK K
               refine norm_ (a' := ?_) ?_ ?_
               rotate_left
               ·show Act.put _ (some 107) _ = _
                simp only [Act.put, sA_, sZ_, sS_, i64_w, i32_w]
                rfl
               refine one_ (i := 5) (N := some 110) (bs 27 131007) rfl rfl (one_of HT_.out (by kernel_rfl)) (by decide) (fun K hK => ?_)
               refine goes_ Try.func15 (by kernel_rfl) rfl #[.agg #[.int .i64 t273, .int .i64 t274, .slice Ao15 t275.length co15], .int .i64 t271] (by rfl) rfl rfl (by (try simp only [List.map_toArray, List.map_cons, List.map_nil]); first | done | rfl | (simp only [List.length_drop, List.length_take]; rfl)) ?_
               with_reducible refine (impl_Along4.calls kj63 t273 t274 _ _ t275 t271 t300 _ ?side1 ?side2 A99.out).mono ?_
               (case side1 => repeat (first | exact (Kd.N_reads' HO_279002.out).2.2 | (with_reducible refine Kd.C_alloc ?_ _) | (with_reducible refine Kd.C_drewN ?_ _) | (with_reducible refine Kd.C_drew ?_)))
               (case side2 => exact (Kd.N_reads' HO_279002.out).2.1)
               rintro e w104 ⟨rfl, hb⟩
               refine ⟨_, rfl, ?_⟩
               have n0_ := Aside0.mk (Kd.N_below (by (with_reducible repeat (first | apply Kd.N_alloc | apply Kd.N_drewN | apply Kd.N_drew)); exact HO_273002.out) hb)
               have n1_ := Aside0.mk (Kd.N_below (by (with_reducible repeat (first | apply Kd.N_alloc | apply Kd.N_drewN | apply Kd.N_drew)); exact HO_279002.out) hb)
               have n2_ := Aside0.mk (blk_below (g := gb272) (o := .cells #[.int .i64 t266, .int .i64 t267, .slice Ao10 t268.length co10] 26 (0, 0)) (fb_ BK272.out) hb)
               have n3_ := Aside0.mk (blk_below (g := gb278) (o := .cells #[.int .i64 t273, .int .i64 t274, .slice Ao15 t275.length co15] 26 (0, 0)) (fb_ BK278.out) hb)
               have n4_ := Aside0.mk (below_step (bel_ HB.out) hb)
               clear HO_273002
               clear HO_279002
               clear BK272
               clear BK278
               clear HB
               have HO_273002 := n0_
               have HO_279002 := n1_
               have BK272 := n2_
               have BK278 := n3_
               have HB := n4_
               clear n0_ n1_ n2_ n3_ n4_
               (try clear hb)
               (try clear hb2)
               (try clear hk)
               (try clear hi)
               refine hK.out _ _ ⟨(blk_cell BK272.out 0).trans rfl, (blk_cell BK272.out 1).trans rfl, (blk_cell BK272.out 2).trans rfl, (blk_cell BK278.out 0).trans rfl, (blk_cell BK278.out 1).trans rfl, (blk_cell BK278.out 2).trans rfl⟩ (fun hHeld => ?_)
               clear hK K
               refine norm_ (a' := ?_) ?_ ?_
               rotate_left
               ·show Act.put _ (some 110) _ = _
                simp only [Act.put, sA_, sZ_, sS_, i64_w, i32_w]
                rfl
               refine pure_ (i := 6) (N := some 111) (v := ?_) (a' := ?_) (bs 27 131071) rfl rfl (any_of HT_.out (by kernel_rfl)) (fun _ _ _ h => h) (Or.inl ⟨by rfl, ?_⟩) ?_ ?_
               rotate_left
               ·intro w'
                go_simp
                with_reducible rfl
               rotate_left
               ·simp only [Act.put, sA_, sZ_, sS_, i64_w, i32_w]
                rfl
               refine pure_ (i := 17) (N := some 122) (v := ?_) (a' := ?_) (bs 27 262143) rfl rfl (any_of HT_.out (by kernel_rfl)) (fun _ _ _ h => h) (Or.inl ⟨by rfl, ?_⟩) ?_ ?_
               rotate_left
               ·intro w'
                go_simp
                with_reducible rfl
               rotate_left
               ·simp only [Act.put, sA_, sZ_, sS_, i64_w, i32_w]
                rfl
               refine pure_ (i := 18) (N := some 123) (v := ?_) (a' := ?_) (bs 27 524287) rfl rfl (any_of HT_.out (by kernel_rfl)) (fun _ _ _ h => h) (Or.inl ⟨by rfl, ?_⟩) ?_ ?_
               rotate_left
               ·intro w'
                go_simp
                with_reducible rfl
               rotate_left
               ·simp only [Act.put, sA_, sZ_, sS_, i64_w, i32_w]
                rfl
               refine join_ (σ := Value × Value) 6 (bs 27 2097151) (fun s_ => [(124, s_.1), (125, s_.2)]) (fun s_ w' => (w'.cell? ⟨gb272, 0, none⟩ = some (.int .i64 t266) ∧ w'.cell? ⟨gb272, 1, none⟩ = some (.int .i64 t267) ∧ w'.cell? ⟨gb272, 2, none⟩ = some (.slice Ao10 t268.length co10) ∧ w'.cell? ⟨gb278, 0, none⟩ = some (.int .i64 t273) ∧ w'.cell? ⟨gb278, 1, none⟩ = some (.int .i64 t274) ∧ w'.cell? ⟨gb278, 2, none⟩ = some (.slice Ao15 t275.length co15)) ∧ (Kd.R (Kd.int .i64) 3 w' w.heap.size (fun k_ => some k_ ≠ (s_.2 : Value).ownBlock) s_.1 y301) ∧ (Kd.R (Kd.int .i64) 3 w' w.heap.size (fun k_ => some k_ ≠ (s_.1 : Value).ownBlock) s_.2 y304) ∧ (Kd.N (Kd.slice 3 (Kd.int .i64)) 31 w' w.heap.size (fun k_ => some k_ ≠ (s_.1 : Value).ownBlock ∧ some k_ ≠ (s_.2 : Value).ownBlock ∧ some k_ ≠ (.slice Ao15 t275.length co15 : Value).ownBlock ∧ k_ ≠ gb272 ∧ k_ ≠ gb278) (.slice Ao10 t268.length co10) t268) ∧ (Kd.N (Kd.slice 3 (Kd.int .i64)) 31 w' w.heap.size (fun k_ => some k_ ≠ (s_.1 : Value).ownBlock ∧ some k_ ≠ (s_.2 : Value).ownBlock ∧ some k_ ≠ (.slice Ao10 t268.length co10 : Value).ownBlock ∧ k_ ≠ gb272 ∧ k_ ≠ gb278) (.slice Ao15 t275.length co15) t275) ∧ (w'.heap[gb272]? = some (.cells #[.int .i64 t266, .int .i64 t267, .slice Ao10 t268.length co10] 26 (0, 0))) ∧ (w'.heap[gb278]? = some (.cells #[.int .i64 t273, .int .i64 t274, .slice Ao15 t275.length co15] 26 (0, 0))) ∧ (Below w.heap.size w w')) ?_ ?_
               rotate_left
               ·intro hCont
                refine two_ (i := 19) (j := 20) (Ni := some 124) (Nj := some 125) (bs 27 1048575) (bs 27 1572863) rfl rfl rfl rfl (two_of HT_.out (by kernel_rfl)) (by decide) (by decide) (fun K hK => ?_) (fun K hK => ?_)
                ·skip
                 refine Kd.R_lit_step (Kd.int .i64) _ 3 ?hg (N := 124) ?hd (xs := ([1, 2] : List Int)) (inner := [.int .i64 1, .int .i64 2]) (ok := fun _ => True) (okp := fun _ => True) ?hr ?hp (fun _ hk => hk) trivial (Below.refl _ _) (Nat.le_refl _) (by simp) ?_; (case hd => rfl); (case hg => rfl); (case hr => first | (go_simp; done) | (go_simp; rfl)); (case hp => exact (Reps.one (show Kd.M (Kd.int .i64) _ _ _ 1 [.int .i64 1] from rfl) (Reps.one (show Kd.M (Kd.int .i64) _ _ _ 2 [.int .i64 2] from rfl) (Reps.none _ _))))
                 intro v302 w105 ho106 hb hg_ hnew_
                 clear hg_ hnew_
                 (first | rw [← Ny301.out] at ho106 | (simp only [Int.reduceToNat] at ho106; rw [← Ny301.out] at ho106))
                 have n0_ := Aside0.mk (Kd.N_elder' (by (with_reducible repeat (first | apply Kd.N_alloc | apply Kd.N_drewN | apply Kd.N_drew)); exact HO_273002.out) (Kd.R_base ho106) hb)
                 have n1_ := Aside0.mk (Kd.N_elder' (by (with_reducible repeat (first | apply Kd.N_alloc | apply Kd.N_drewN | apply Kd.N_drew)); exact HO_279002.out) (Kd.R_base ho106) hb)
                 have n2_ := Aside0.mk (Kd.R_lower ho106 (below_size (bel_ HB.out)))
                 have n3_ := Aside0.mk (blk_below (g := gb272) (o := .cells #[.int .i64 t266, .int .i64 t267, .slice Ao10 t268.length co10] 26 (0, 0)) (fb_ BK272.out) hb)
                 have n4_ := Aside0.mk (blk_below (g := gb278) (o := .cells #[.int .i64 t273, .int .i64 t274, .slice Ao15 t275.length co15] 26 (0, 0)) (fb_ BK278.out) hb)
                 have n5_ := Aside0.mk (below_step (bel_ HB.out) hb)
                 clear HO_273002
                 clear HO_279002
                 clear BK272
                 clear BK278
                 clear HB
                 have HO_273002 := n0_
                 have HO_279002 := n1_
                 have HO303 := n2_
                 have BK272 := n3_
                 have BK278 := n4_
                 have HB := n5_
                 clear n0_ n1_ n2_ n3_ n4_ n5_
                 clear hb ho106
                 refine hK.out _ _ ⟨(blk_cell BK272.out 0).trans rfl, (blk_cell BK272.out 1).trans rfl, (blk_cell BK272.out 2).trans rfl, (blk_cell BK278.out 0).trans rfl, (blk_cell BK278.out 1).trans rfl, (blk_cell BK278.out 2).trans rfl⟩ (fun hHeld => ?_)
                 clear hK K
                 refine norm_ (a' := ?_) ?_ ?_
                 rotate_left
                 ·show Act.put _ (some 124) _ = _
                  simp only [Act.put, sA_, sZ_, sS_, i64_w, i32_w]
                  rfl
                 refine one_ (i := 20) (N := some 125) (bs 27 2097151) rfl rfl (one_of HT_.out (by kernel_rfl)) (by decide) (fun K hK => ?_)
                 refine Kd.R_lit_step (Kd.int .i64) _ 3 ?hg (N := 125) ?hd (xs := ([3, 4] : List Int)) (inner := [.int .i64 3, .int .i64 4]) (ok := fun _ => True) (okp := fun _ => True) ?hr ?hp (fun _ hk => hk) trivial (Below.refl _ _) (Nat.le_refl _) (by simp) ?_; (case hd => rfl); (case hg => rfl); (case hr => first | (go_simp; done) | (go_simp; rfl)); (case hp => exact (Reps.one (show Kd.M (Kd.int .i64) _ _ _ 3 [.int .i64 3] from rfl) (Reps.one (show Kd.M (Kd.int .i64) _ _ _ 4 [.int .i64 4] from rfl) (Reps.none _ _))))
                 intro v305 w107 ho108 hb hg_ hnew_
                 clear hg_ hnew_
                 (first | rw [← Ny304.out] at ho108 | (simp only [Int.reduceToNat] at ho108; rw [← Ny304.out] at ho108))
                 have n0_ := Aside0.mk (Kd.N_elder' (by (with_reducible repeat (first | apply Kd.N_alloc | apply Kd.N_drewN | apply Kd.N_drew)); exact HO_273002.out) (Kd.R_base ho108) hb)
                 have n1_ := Aside0.mk (Kd.N_elder' (by (with_reducible repeat (first | apply Kd.N_alloc | apply Kd.N_drewN | apply Kd.N_drew)); exact HO_279002.out) (Kd.R_base ho108) hb)
                 have n2_ := Aside0.mk (Kd.R_elder' (fr_ HO303.out) (Kd.R_base ho108) hb)
                 have n3_ := Aside0.mk (Kd.R_lower (Kd.R_new' ho108 (Kd.R_lt (fr_ HO303.out))) (below_size (bel_ HB.out)))
                 have n4_ := Aside0.mk (blk_below (g := gb272) (o := .cells #[.int .i64 t266, .int .i64 t267, .slice Ao10 t268.length co10] 26 (0, 0)) (fb_ BK272.out) hb)
                 have n5_ := Aside0.mk (blk_below (g := gb278) (o := .cells #[.int .i64 t273, .int .i64 t274, .slice Ao15 t275.length co15] 26 (0, 0)) (fb_ BK278.out) hb)
                 have n6_ := Aside0.mk (below_step (bel_ HB.out) hb)
                 clear HO_273002
                 clear HO_279002
                 clear HO303
                 clear BK272
                 clear BK278
                 clear HB
                 have HO_273002 := n0_
                 have HO_279002 := n1_
                 have HO303 := n2_
                 have HO306 := n3_
                 have BK272 := n4_
                 have BK278 := n5_
                 have HB := n6_
                 clear n0_ n1_ n2_ n3_ n4_ n5_ n6_
                 clear hb ho108
                 refine hK.out _ _ ⟨(blk_cell BK272.out 0).trans rfl, (blk_cell BK272.out 1).trans rfl, (blk_cell BK272.out 2).trans rfl, (blk_cell BK278.out 0).trans rfl, (blk_cell BK278.out 1).trans rfl, (blk_cell BK278.out 2).trans rfl⟩ (fun hHeld => ?_)
                 clear hK K
                 refine norm_ (a' := ?_) ?_ ?_
                 rotate_left
                 ·show Act.put _ (some 125) _ = _
                  simp only [Act.put, sA_, sZ_, sS_, i64_w, i32_w]
                  rfl
                 exact norm_ (by simp only [putAll, Act.put, sA_, sZ_, sS_]) (hCont (v302, v305) _ ⟨hHeld, (by (with_reducible repeat (first | apply Kd.R_alloc | apply Kd.R_drewN | apply Kd.R_drew)); exact Kd.R_mono HO303.out (fun _ hk => hk.2)), (by (with_reducible repeat (first | apply Kd.R_alloc | apply Kd.R_drewN | apply Kd.R_drew)); exact Kd.R_mono HO306.out (fun _ hk => hk.2)), (by (with_reducible repeat (first | apply Kd.N_alloc | apply Kd.N_drewN | apply Kd.N_drew)); exact Kd.N_mono HO_273002.out (fun _ hk => ⟨hk.1.2, ⟨hk.2, ⟨hk.1.1.1, ⟨hk.1.1.2.1, hk.1.1.2.2⟩⟩⟩⟩)), (by (with_reducible repeat (first | apply Kd.N_alloc | apply Kd.N_drewN | apply Kd.N_drew)); exact Kd.N_mono HO_279002.out (fun _ hk => ⟨hk.1.2, ⟨hk.2, ⟨hk.1.1.1, ⟨hk.1.1.2.1, hk.1.1.2.2⟩⟩⟩⟩)), (fb_ BK272.out), (fb_ BK278.out), (bel_ HB.out)⟩)
                ·skip
                 refine Kd.R_lit_step (Kd.int .i64) _ 3 ?hg (N := 125) ?hd (xs := ([3, 4] : List Int)) (inner := [.int .i64 3, .int .i64 4]) (ok := fun _ => True) (okp := fun _ => True) ?hr ?hp (fun _ hk => hk) trivial (Below.refl _ _) (Nat.le_refl _) (by simp) ?_; (case hd => rfl); (case hg => rfl); (case hr => first | (go_simp; done) | (go_simp; rfl)); (case hp => exact (Reps.one (show Kd.M (Kd.int .i64) _ _ _ 3 [.int .i64 3] from rfl) (Reps.one (show Kd.M (Kd.int .i64) _ _ _ 4 [.int .i64 4] from rfl) (Reps.none _ _))))
                 intro v305 w105 ho106 hb hg_ hnew_
                 clear hg_ hnew_
                 (first | rw [← Ny304.out] at ho106 | (simp only [Int.reduceToNat] at ho106; rw [← Ny304.out] at ho106))
                 have n0_ := Aside0.mk (Kd.N_elder' (by (with_reducible repeat (first | apply Kd.N_alloc | apply Kd.N_drewN | apply Kd.N_drew)); exact HO_273002.out) (Kd.R_base ho106) hb)
                 have n1_ := Aside0.mk (Kd.N_elder' (by (with_reducible repeat (first | apply Kd.N_alloc | apply Kd.N_drewN | apply Kd.N_drew)); exact HO_279002.out) (Kd.R_base ho106) hb)
                 have n2_ := Aside0.mk (Kd.R_lower ho106 (below_size (bel_ HB.out)))
                 have n3_ := Aside0.mk (blk_below (g := gb272) (o := .cells #[.int .i64 t266, .int .i64 t267, .slice Ao10 t268.length co10] 26 (0, 0)) (fb_ BK272.out) hb)
                 have n4_ := Aside0.mk (blk_below (g := gb278) (o := .cells #[.int .i64 t273, .int .i64 t274, .slice Ao15 t275.length co15] 26 (0, 0)) (fb_ BK278.out) hb)
                 have n5_ := Aside0.mk (below_step (bel_ HB.out) hb)
                 clear HO_273002
                 clear HO_279002
                 clear BK272
                 clear BK278
                 clear HB
                 have HO_273002 := n0_
                 have HO_279002 := n1_
                 have HO306 := n2_
                 have BK272 := n3_
                 have BK278 := n4_
                 have HB := n5_
                 clear n0_ n1_ n2_ n3_ n4_ n5_
                 clear hb ho106
                 refine hK.out _ _ ⟨(blk_cell BK272.out 0).trans rfl, (blk_cell BK272.out 1).trans rfl, (blk_cell BK272.out 2).trans rfl, (blk_cell BK278.out 0).trans rfl, (blk_cell BK278.out 1).trans rfl, (blk_cell BK278.out 2).trans rfl⟩ (fun hHeld => ?_)
                 clear hK K
                 refine norm_ (a' := ?_) ?_ ?_
                 rotate_left
                 ·show Act.put _ (some 125) _ = _
                  simp only [Act.put, sA_, sZ_, sS_, i64_w, i32_w]
                  rfl
                 refine one_ (i := 19) (N := some 124) (bs 27 2097151) rfl rfl (one_of HT_.out (by kernel_rfl)) (by decide) (fun K hK => ?_)
                 refine Kd.R_lit_step (Kd.int .i64) _ 3 ?hg (N := 124) ?hd (xs := ([1, 2] : List Int)) (inner := [.int .i64 1, .int .i64 2]) (ok := fun _ => True) (okp := fun _ => True) ?hr ?hp (fun _ hk => hk) trivial (Below.refl _ _) (Nat.le_refl _) (by simp) ?_; (case hd => rfl); (case hg => rfl); (case hr => first | (go_simp; done) | (go_simp; rfl)); (case hp => exact (Reps.one (show Kd.M (Kd.int .i64) _ _ _ 1 [.int .i64 1] from rfl) (Reps.one (show Kd.M (Kd.int .i64) _ _ _ 2 [.int .i64 2] from rfl) (Reps.none _ _))))
                 intro v302 w107 ho108 hb hg_ hnew_
                 clear hg_ hnew_
                 (first | rw [← Ny301.out] at ho108 | (simp only [Int.reduceToNat] at ho108; rw [← Ny301.out] at ho108))
                 have n0_ := Aside0.mk (Kd.N_elder' (by (with_reducible repeat (first | apply Kd.N_alloc | apply Kd.N_drewN | apply Kd.N_drew)); exact HO_273002.out) (Kd.R_base ho108) hb)
                 have n1_ := Aside0.mk (Kd.N_elder' (by (with_reducible repeat (first | apply Kd.N_alloc | apply Kd.N_drewN | apply Kd.N_drew)); exact HO_279002.out) (Kd.R_base ho108) hb)
                 have n2_ := Aside0.mk (Kd.R_elder' (fr_ HO306.out) (Kd.R_base ho108) hb)
                 have n3_ := Aside0.mk (Kd.R_lower (Kd.R_new' ho108 (Kd.R_lt (fr_ HO306.out))) (below_size (bel_ HB.out)))
                 have n4_ := Aside0.mk (blk_below (g := gb272) (o := .cells #[.int .i64 t266, .int .i64 t267, .slice Ao10 t268.length co10] 26 (0, 0)) (fb_ BK272.out) hb)
                 have n5_ := Aside0.mk (blk_below (g := gb278) (o := .cells #[.int .i64 t273, .int .i64 t274, .slice Ao15 t275.length co15] 26 (0, 0)) (fb_ BK278.out) hb)
                 have n6_ := Aside0.mk (below_step (bel_ HB.out) hb)
                 clear HO_273002
                 clear HO_279002
                 clear HO306
                 clear BK272
                 clear BK278
                 clear HB
                 have HO_273002 := n0_
                 have HO_279002 := n1_
                 have HO306 := n2_
                 have HO303 := n3_
                 have BK272 := n4_
                 have BK278 := n5_
                 have HB := n6_
                 clear n0_ n1_ n2_ n3_ n4_ n5_ n6_
                 clear hb ho108
                 refine hK.out _ _ ⟨(blk_cell BK272.out 0).trans rfl, (blk_cell BK272.out 1).trans rfl, (blk_cell BK272.out 2).trans rfl, (blk_cell BK278.out 0).trans rfl, (blk_cell BK278.out 1).trans rfl, (blk_cell BK278.out 2).trans rfl⟩ (fun hHeld => ?_)
                 clear hK K
                 refine norm_ (a' := ?_) ?_ ?_
                 rotate_left
                 ·show Act.put _ (some 124) _ = _
                  simp only [Act.put, sA_, sZ_, sS_, i64_w, i32_w]
                  rfl
                 exact norm_ (by simp only [putAll, Act.put, sA_, sZ_, sS_]) (hCont (v302, v305) _ ⟨hHeld, (by (with_reducible repeat (first | apply Kd.R_alloc | apply Kd.R_drewN | apply Kd.R_drew)); exact Kd.R_mono HO303.out (fun _ hk => hk.2)), (by (with_reducible repeat (first | apply Kd.R_alloc | apply Kd.R_drewN | apply Kd.R_drew)); exact Kd.R_mono HO306.out (fun _ hk => hk.2)), (by (with_reducible repeat (first | apply Kd.N_alloc | apply Kd.N_drewN | apply Kd.N_drew)); exact Kd.N_mono HO_273002.out (fun _ hk => ⟨hk.2, ⟨hk.1.2, ⟨hk.1.1.1, ⟨hk.1.1.2.1, hk.1.1.2.2⟩⟩⟩⟩)), (by (with_reducible repeat (first | apply Kd.N_alloc | apply Kd.N_drewN | apply Kd.N_drew)); exact Kd.N_mono HO_279002.out (fun _ hk => ⟨hk.2, ⟨hk.1.2, ⟨hk.1.1.1, ⟨hk.1.1.2.1, hk.1.1.2.2⟩⟩⟩⟩)), (fb_ BK272.out), (fb_ BK278.out), (bel_ HB.out)⟩)
               rintro ⟨v302, v305⟩ w109 ⟨hS_, h0_, h1_, h2_, h3_, h4_, h5_, h6_⟩
               have n0_ : Aside0 (Kd.R (Kd.int .i64) 3 w109 w.heap.size (fun k_ => some k_ ≠ (v305 : Value).ownBlock) v302 y301) := ⟨h0_⟩
               have n1_ : Aside0 (Kd.R (Kd.int .i64) 3 w109 w.heap.size (fun k_ => some k_ ≠ (v302 : Value).ownBlock) v305 y304) := ⟨h1_⟩
               have n2_ : Aside0 (Kd.N (Kd.slice 3 (Kd.int .i64)) 31 w109 w.heap.size (fun k_ => some k_ ≠ (v302 : Value).ownBlock ∧ some k_ ≠ (v305 : Value).ownBlock ∧ some k_ ≠ (.slice Ao15 t275.length co15 : Value).ownBlock ∧ k_ ≠ gb272 ∧ k_ ≠ gb278) (.slice Ao10 t268.length co10) t268) := ⟨h2_⟩
               have n3_ : Aside0 (Kd.N (Kd.slice 3 (Kd.int .i64)) 31 w109 w.heap.size (fun k_ => some k_ ≠ (v302 : Value).ownBlock ∧ some k_ ≠ (v305 : Value).ownBlock ∧ some k_ ≠ (.slice Ao10 t268.length co10 : Value).ownBlock ∧ k_ ≠ gb272 ∧ k_ ≠ gb278) (.slice Ao15 t275.length co15) t275) := ⟨h3_⟩
               have n4_ : Aside0 (w109.heap[gb272]? = some (.cells #[.int .i64 t266, .int .i64 t267, .slice Ao10 t268.length co10] 26 (0, 0))) := ⟨h4_⟩
               have n5_ : Aside0 (w109.heap[gb278]? = some (.cells #[.int .i64 t273, .int .i64 t274, .slice Ao15 t275.length co15] 26 (0, 0))) := ⟨h5_⟩
               have n6_ : Aside0 (Below w.heap.size w w109) := ⟨h6_⟩
               clear HO_273002
               clear HO_279002
               clear BK272
               clear BK278
               clear HB
               clear h0_ h1_ h2_ h3_ h4_ h5_ h6_
               have HO303 := n0_
               have HO306 := n1_
               have HO_273002 := n2_
               have HO_279002 := n3_
               have BK272 := n4_
               have BK278 := n5_
               have HB := n6_
               clear n0_ n1_ n2_ n3_ n4_ n5_ n6_
               have hHeld : w109.cell? ⟨gb272, 0, none⟩ = some (.int .i64 t266) ∧ w109.cell? ⟨gb272, 1, none⟩ = some (.int .i64 t267) ∧ w109.cell? ⟨gb272, 2, none⟩ = some (.slice Ao10 t268.length co10) ∧ w109.cell? ⟨gb278, 0, none⟩ = some (.int .i64 t273) ∧ w109.cell? ⟨gb278, 1, none⟩ = some (.int .i64 t274) ∧ w109.cell? ⟨gb278, 2, none⟩ = some (.slice Ao15 t275.length co15) := hS_
               obtain ⟨Ao110, co110, eo110⟩ := Kd.R_slice HO303.out
               (first | subst eo110 | (injection eo110 with f1_ f2_ f3_; have f4_ := f1_.symm; have f5_ := f3_.symm; clear f1_ f2_ f3_; subst f4_; subst f5_))
               obtain ⟨Ao111, co111, eo111⟩ := Kd.R_slice HO306.out
               (first | subst eo111 | (injection eo111 with f1_ f2_ f3_; have f4_ := f1_.symm; have f5_ := f3_.symm; clear f1_ f2_ f3_; subst f4_; subst f5_))
               refine norm_ (a' := ?_) ?_ ?_
               rotate_left
               ·simp only [putAll, Act.put, sA_, sZ_, sS_]
                rfl
               refine one_ (i := 21) (N := some 126) (bs 27 4194303) rfl rfl (one_of HT_.out (by kernel_rfl)) (by decide) (fun K hK => ?_)
               refine Kd.N_lit_step (Kd.slice 3 (Kd.int .i64)) _ 31 ?hg (N' := 126) ?hd (xs := ([y301, y304] : List (List Int))) (inner := [.slice Ao110 y301.length co110, .slice Ao111 y304.length co111]) (ok := (fun k_ => some k_ ≠ (.slice Ao10 t268.length co10 : Value).ownBlock ∧ some k_ ≠ (.slice Ao15 t275.length co15 : Value).ownBlock ∧ k_ ≠ gb272 ∧ k_ ≠ gb278)) (okp := (fun k_ => some k_ ≠ (.slice Ao10 t268.length co10 : Value).ownBlock ∧ some k_ ≠ (.slice Ao15 t275.length co15 : Value).ownBlock ∧ k_ ≠ gb272 ∧ k_ ≠ gb278)) ?hr ?hp (fun _ hk => hk) ((show ∀ k_, w109.heap.size ≤ k_ → (fun k_ => some k_ ≠ (.slice Ao10 t268.length co10 : Value).ownBlock ∧ some k_ ≠ (.slice Ao15 t275.length co15 : Value).ownBlock ∧ k_ ≠ gb272 ∧ k_ ≠ gb278) k_ from fun k_ hk => ⟨Kd.fresh' (Kd.N_lt (by (with_reducible repeat (first | apply Kd.N_alloc | apply Kd.N_drewN | apply Kd.N_drew)); exact HO_273002.out)) k_ hk, Kd.fresh' (Kd.N_lt (by (with_reducible repeat (first | apply Kd.N_alloc | apply Kd.N_drewN | apply Kd.N_drew)); exact HO_279002.out)) k_ hk, Kd.freshB (g := gb272) (o := .cells #[.int .i64 t266, .int .i64 t267, .slice Ao10 t268.length co10] 26 (0, 0)) (fb_ BK272.out) k_ hk, Kd.freshB (g := gb278) (o := .cells #[.int .i64 t273, .int .i64 t274, .slice Ao15 t275.length co15] 26 (0, 0)) (fb_ BK278.out) k_ hk⟩) _ (Nat.le_refl _)) (Below.refl _ _) (Nat.le_refl _) (by simp) ?_; (case hd => rfl); (case hg => rfl); (case hr => first | (go_simp; done) | (go_simp; rfl)); (case hp => exact (Reps.one (show Kd.FK (Kd.slice 3 (Kd.int .i64)) _ _ y301 [.slice Ao110 y301.length co110] from (Kd.FK_slice_mk (Kd.R_reads' (Kd.R_mono (ok' := (fun k_ => some k_ ≠ (.slice Ao10 t268.length co10 : Value).ownBlock ∧ some k_ ≠ (.slice Ao15 t275.length co15 : Value).ownBlock ∧ k_ ≠ gb272 ∧ k_ ≠ gb278)) (Kd.R_types (Kd.R_types (Kd.R_apart' (Kd.R_apart' (HO303.out) (Kd.N_typed HO_273002.out) (by decide)) (Kd.N_typed HO_279002.out) (by decide)) BK272.out (by decide)) BK278.out (by decide)) (fun k_ hk => ⟨hk.1.1.1.2, ⟨hk.1.1.2, ⟨hk.1.2, hk.2⟩⟩⟩))).2.1 (Kd.R_F (Kd.R_mono (ok' := (fun k_ => some k_ ≠ (.slice Ao10 t268.length co10 : Value).ownBlock ∧ some k_ ≠ (.slice Ao15 t275.length co15 : Value).ownBlock ∧ k_ ≠ gb272 ∧ k_ ≠ gb278)) (Kd.R_types (Kd.R_types (Kd.R_apart' (Kd.R_apart' (HO303.out) (Kd.N_typed HO_273002.out) (by decide)) (Kd.N_typed HO_279002.out) (by decide)) BK272.out (by decide)) BK278.out (by decide)) (fun k_ hk => ⟨hk.1.1.1.2, ⟨hk.1.1.2, ⟨hk.1.2, hk.2⟩⟩⟩))))) (Reps.one (show Kd.FK (Kd.slice 3 (Kd.int .i64)) _ _ y304 [.slice Ao111 y304.length co111] from (Kd.FK_slice_mk (Kd.R_reads' (Kd.R_mono (ok' := (fun k_ => some k_ ≠ (.slice Ao10 t268.length co10 : Value).ownBlock ∧ some k_ ≠ (.slice Ao15 t275.length co15 : Value).ownBlock ∧ k_ ≠ gb272 ∧ k_ ≠ gb278)) (Kd.R_types (Kd.R_types (Kd.R_apart' (Kd.R_apart' (HO306.out) (Kd.N_typed HO_273002.out) (by decide)) (Kd.N_typed HO_279002.out) (by decide)) BK272.out (by decide)) BK278.out (by decide)) (fun k_ hk => ⟨hk.1.1.1.2, ⟨hk.1.1.2, ⟨hk.1.2, hk.2⟩⟩⟩))).2.1 (Kd.R_F (Kd.R_mono (ok' := (fun k_ => some k_ ≠ (.slice Ao10 t268.length co10 : Value).ownBlock ∧ some k_ ≠ (.slice Ao15 t275.length co15 : Value).ownBlock ∧ k_ ≠ gb272 ∧ k_ ≠ gb278)) (Kd.R_types (Kd.R_types (Kd.R_apart' (Kd.R_apart' (HO306.out) (Kd.N_typed HO_273002.out) (by decide)) (Kd.N_typed HO_279002.out) (by decide)) BK272.out (by decide)) BK278.out (by decide)) (fun k_ hk => ⟨hk.1.1.1.2, ⟨hk.1.1.2, ⟨hk.1.2, hk.2⟩⟩⟩))))) (Reps.none _ _))))
               intro v308 w112 ho113 hb hg_ hnew_
               clear hg_ hnew_
               (first | rw [← Ny307.out] at ho113 | (simp only [Int.reduceToNat] at ho113; rw [← Ny307.out] at ho113))
               have n0_ := Aside0.mk (Kd.N_elder' (by (with_reducible repeat (first | apply Kd.N_alloc | apply Kd.N_drewN | apply Kd.N_drew)); exact HO_273002.out) (Kd.N_base ho113) hb)
               have n1_ := Aside0.mk (Kd.N_elder' (by (with_reducible repeat (first | apply Kd.N_alloc | apply Kd.N_drewN | apply Kd.N_drew)); exact HO_279002.out) (Kd.N_base ho113) hb)
               have n2_ := Aside0.mk (Kd.N_lower ho113 (below_size (bel_ HB.out)))
               have n3_ := Aside0.mk (blk_below (g := gb272) (o := .cells #[.int .i64 t266, .int .i64 t267, .slice Ao10 t268.length co10] 26 (0, 0)) (fb_ BK272.out) hb)
               have n4_ := Aside0.mk (blk_below (g := gb278) (o := .cells #[.int .i64 t273, .int .i64 t274, .slice Ao15 t275.length co15] 26 (0, 0)) (fb_ BK278.out) hb)
               have n5_ := Aside0.mk (below_step (bel_ HB.out) hb)
               clear HO_273002
               clear HO_279002
               clear BK272
               clear BK278
               clear HB
               clear HO303
               clear HO306
               have HO_273002 := n0_
               have HO_279002 := n1_
               have HO309 := n2_
               have BK272 := n3_
               have BK278 := n4_
               have HB := n5_
               clear n0_ n1_ n2_ n3_ n4_ n5_
               clear hb ho113
               obtain ⟨Ao114, co114, eo114⟩ := Kd.N_slice HO309.out
               (first | subst eo114 | (injection eo114 with f1_ f2_ f3_; have f4_ := f1_.symm; have f5_ := f3_.symm; clear f1_ f2_ f3_; subst f4_; subst f5_))
               refine hK.out _ _ ⟨(blk_cell BK272.out 0).trans rfl, (blk_cell BK272.out 1).trans rfl, (blk_cell BK272.out 2).trans rfl, (blk_cell BK278.out 0).trans rfl, (blk_cell BK278.out 1).trans rfl, (blk_cell BK278.out 2).trans rfl⟩ (fun hHeld => ?_)
               clear hK K
               refine norm_ (a' := ?_) ?_ ?_
               rotate_left
               ·show Act.put _ (some 126) _ = _
                simp only [Act.put, sA_, sZ_, sS_, i64_w, i32_w]
                rfl
               refine pure_ (i := 22) (N := some 127) (v := ?_) (a' := ?_) (bs 27 8388607) rfl rfl (any_of HT_.out (by kernel_rfl)) (fun _ _ _ h => h) (Or.inl ⟨by rfl, ?_⟩) ?_ ?_
               rotate_left
               ·intro w'
                go_simp
                with_reducible rfl
               rotate_left
               ·simp only [Act.put, sA_, sZ_, sS_, i64_w, i32_w]
                rfl
               refine one_ (i := 23) (N := some 128) (bs 27 16777215) rfl rfl (one_of HT_.out (by kernel_rfl)) (by decide) (fun K hK => ?_)
               refine goes_ Try.func12 (by kernel_rfl) rfl #[.agg #[.int .i64 2, .int .i64 1, .slice Ao114 y307.length co114], .int .i64 1] (by rfl) rfl rfl (by (try simp only [List.map_toArray, List.map_cons, List.map_nil]); first | done | rfl | (simp only [List.length_drop, List.length_take]; rfl)) ?_
               with_reducible refine (impl_Plane.calls kj63 2 1 _ _ y307 1 t310 _ ?side1 ?side2 A101.out).mono ?_
               (case side1 => repeat (first | exact (Kd.N_reads' HO309.out).2.2 | (with_reducible refine Kd.C_alloc ?_ _) | (with_reducible refine Kd.C_drewN ?_ _) | (with_reducible refine Kd.C_drew ?_)))
               (case side2 => exact (Kd.N_reads' HO309.out).2.1)
               rintro e w115 ⟨rfl, hb⟩
               refine ⟨_, rfl, ?_⟩
               have n0_ := Aside0.mk (Kd.N_below (by (with_reducible repeat (first | apply Kd.N_alloc | apply Kd.N_drewN | apply Kd.N_drew)); exact HO_273002.out) hb)
               have n1_ := Aside0.mk (Kd.N_below (by (with_reducible repeat (first | apply Kd.N_alloc | apply Kd.N_drewN | apply Kd.N_drew)); exact HO_279002.out) hb)
               have n2_ := Aside0.mk (Kd.N_below (by (with_reducible repeat (first | apply Kd.N_alloc | apply Kd.N_drewN | apply Kd.N_drew)); exact HO309.out) hb)
               have n3_ := Aside0.mk (blk_below (g := gb272) (o := .cells #[.int .i64 t266, .int .i64 t267, .slice Ao10 t268.length co10] 26 (0, 0)) (fb_ BK272.out) hb)
               have n4_ := Aside0.mk (blk_below (g := gb278) (o := .cells #[.int .i64 t273, .int .i64 t274, .slice Ao15 t275.length co15] 26 (0, 0)) (fb_ BK278.out) hb)
               have n5_ := Aside0.mk (below_step (bel_ HB.out) hb)
               clear HO_273002
               clear HO_279002
               clear HO309
               clear BK272
               clear BK278
               clear HB
               have HO_273002 := n0_
               have HO_279002 := n1_
               have HO309 := n2_
               have BK272 := n3_
               have BK278 := n4_
               have HB := n5_
               clear n0_ n1_ n2_ n3_ n4_ n5_
               (try clear hb)
               (try clear hb2)
               (try clear hk)
               (try clear hi)
               refine hK.out _ _ ⟨(blk_cell BK272.out 0).trans rfl, (blk_cell BK272.out 1).trans rfl, (blk_cell BK272.out 2).trans rfl, (blk_cell BK278.out 0).trans rfl, (blk_cell BK278.out 1).trans rfl, (blk_cell BK278.out 2).trans rfl⟩ (fun hHeld => ?_)
               clear hK K
               refine norm_ (a' := ?_) ?_ ?_
               rotate_left
               ·show Act.put _ (some 128) _ = _
                simp only [Act.put, sA_, sZ_, sS_, i64_w, i32_w]
                rfl
               refine pure_ (i := 24) (N := some 129) (v := ?_) (a' := ?_) (bs 27 33554431) rfl rfl (any_of HT_.out (by kernel_rfl)) (fun _ _ _ h => h) (Or.inl ⟨by rfl, ?_⟩) ?_ ?_
               rotate_left
               ·intro w'
                go_simp
                with_reducible rfl
               rotate_left
               ·simp only [Act.put, sA_, sZ_, sS_, i64_w, i32_w]
                rfl
               refine pure_ (i := 25) (N := some 130) (v := ?_) (a' := ?_) (bs 27 67108863) rfl rfl (any_of HT_.out (by kernel_rfl)) (fun _ _ _ h => h) (Or.inl ⟨by rfl, ?_⟩) ?_ ?_
               rotate_left
               ·intro w'
                go_simp
                with_reducible rfl
               rotate_left
               ·simp only [Act.put, sA_, sZ_, sS_, i64_w, i32_w]
                rfl
               refine pure_ (i := 26) (N := some 2) (v := ?_) (a' := ?_) (bs 27 134217727) rfl rfl (any_of HT_.out (by kernel_rfl)) (fun _ _ _ h => h) (Or.inl ⟨by rfl, ?_⟩) ?_ ?_
               rotate_left
               ·intro w'
                go_simp
                with_reducible rfl
               rotate_left
               ·simp only [Act.put, sA_, sZ_, sS_, i64_w, i32_w]
                rfl
               refine done_ (done_of HT_.out (by kernel_rfl)) ?_
               try go_wp2
               go_ret
               exact ⟨by first | rfl | (simp [errW_none, errW_some] <;> rfl) | (simp [*, errW_none, errW_some] <;> rfl), bel_ HB.out⟩
              ·rw [if_neg c100] at H
               have c100b0 : ((wrap64 (t299 + t300)) == (wrap64 ((wrap64 ((wrap64 (x6_2 * t266)) * 2)) * (wrap64 ((t268.length : Int) - 1))))) = false := beq_eq_false_iff_ne.mpr c100
               have c100b1 : ((wrap64 (t299 + t300)) != (wrap64 ((wrap64 ((wrap64 (x6_2 * t266)) * 2)) * (wrap64 ((t268.length : Int) - 1))))) = true := bne_iff_ne.mpr c100
               obtain rfl := Option.some.inj H
               try go_wp2
               have n0_ := Aside0.mk (Kd.N_drew HO_273002.out)
               have n1_ := Aside0.mk (Kd.N_drew HO_279002.out)
               have n2_ := Aside0.mk (blk_drew BK272.out)
               have n3_ := Aside0.mk (blk_drew BK278.out)
               have n4_ := Aside0.mk (below_drew1 HB.out)
               clear HO_273002
               clear HO_279002
               clear BK272
               clear BK278
               clear HB
               have HO_273002 := n0_
               have HO_279002 := n1_
               have BK272 := n2_
               have BK278 := n3_
               have HB := n4_
               clear n0_ n1_ n2_ n3_ n4_
               refine start_ (n := 27) (S := fun w' => w'.cell? ⟨gb272, 0, none⟩ = some (.int .i64 t266) ∧ w'.cell? ⟨gb272, 1, none⟩ = some (.int .i64 t267) ∧ w'.cell? ⟨gb272, 2, none⟩ = some (.slice Ao10 t268.length co10) ∧ w'.cell? ⟨gb278, 0, none⟩ = some (.int .i64 t273) ∧ w'.cell? ⟨gb278, 1, none⟩ = some (.int .i64 t274) ∧ w'.cell? ⟨gb278, 2, none⟩ = some (.slice Ao15 t275.length co15)) (ds := []) (bs 27 0) (by kernel_rfl) rfl rfl ⟨(blk_cell BK272.out 0).trans rfl, (blk_cell BK272.out 1).trans rfl, (blk_cell BK272.out 2).trans rfl, (blk_cell BK278.out 0).trans rfl, (blk_cell BK278.out 1).trans rfl, (blk_cell BK278.out 2).trans rfl⟩ (fun hHeld => ?_); refine with_tabW laws_FnVolumes.tab17 laws_FnVolumes.bits17 (fun HT_ HW_ => ?_)
               generalize wc.drew = w116 at HO_273002 HO_279002 BK272 BK278 HB hHeld ⊢
               refine pure_ (i := 1) (N := some 106) (v := ?_) (a' := ?_) (bs 27 2) rfl rfl (any_of HT_.out (by kernel_rfl)) (fun _ _ _ h => h) (Or.inl ⟨by rfl, ?_⟩) ?_ ?_
               rotate_left
               ·intro w'
                go_simp
                with_reducible rfl
               rotate_left
               ·simp only [Act.put, sA_, sZ_, sS_, i64_w, i32_w]
                rfl
               refine pure_ (i := 4) (N := some 109) (v := ?_) (a' := ?_) (bs 27 18) rfl rfl (any_of HT_.out (by kernel_rfl)) (fun _ _ _ h => h) (Or.inl ⟨by rfl, ?_⟩) ?_ ?_
               rotate_left
               ·intro w'
                go_simp
                with_reducible rfl
               rotate_left
               ·simp only [Act.put, sA_, sZ_, sS_, i64_w, i32_w]
                rfl
               refine pure_ (i := 7) (N := some 112) (v := ?_) (a' := ?_) (bs 27 146) rfl rfl (any_of HT_.out (by kernel_rfl)) (fun _ _ _ h => h) (Or.inl ⟨by rfl, ?_⟩) ?_ ?_
               rotate_left
               ·intro w'
                go_simp
                with_reducible rfl
               rotate_left
               ·simp only [Act.put, sA_, sZ_, sS_, i64_w, i32_w]
                rfl
               refine pure_ (i := 8) (N := some 113) (v := ?_) (a' := ?_) (bs 27 402) rfl rfl (any_of HT_.out (by kernel_rfl)) (fun _ _ _ h => h) (Or.inl ⟨by rfl, ?_⟩) ?_ ?_
               rotate_left
               ·intro w'
                go_simp
                with_reducible rfl
               rotate_left
               ·simp only [Act.put, sA_, sZ_, sS_, i64_w, i32_w]
                rfl
               refine pure_ (i := 12) (N := some 117) (v := ?_) (a' := ?_) (bs 27 4498) rfl rfl (any_of HT_.out (by kernel_rfl)) (fun _ _ _ h => h) (Or.inl ⟨by rfl, ?_⟩) ?_ ?_
               rotate_left
               ·intro w'
                go_simp
                with_reducible rfl
               rotate_left
               ·simp only [Act.put, sA_, sZ_, sS_, i64_w, i32_w]
                rfl
               refine take_ (i := 0) (N := some 105) (v := ?_) (a' := ?_) (bs 27 4499) rfl rfl (take_ofW HT_.out HW_.out (by kernel_rfl)) (fun _ _ _ h => h) (Or.inl ⟨by rfl, ?_⟩) hHeld ?_ ?_
               rotate_left
               ·rintro w' ⟨s0, s1, s2, s3, s4, s5⟩
                go_simp
                with_reducible rfl
               rotate_left
               ·simp only [Act.put, sA_, sZ_, sS_, i64_w, i32_w]
                rfl
               refine take_ (i := 3) (N := some 108) (v := ?_) (a' := ?_) (bs 27 4507) rfl rfl (take_ofW HT_.out HW_.out (by kernel_rfl)) (fun _ _ _ h => h) (Or.inl ⟨by rfl, ?_⟩) hHeld ?_ ?_
               rotate_left
               ·rintro w' ⟨s0, s1, s2, s3, s4, s5⟩
                go_simp
                with_reducible rfl
               rotate_left
               ·simp only [Act.put, sA_, sZ_, sS_, i64_w, i32_w]
                rfl
               refine take_ (i := 9) (N := some 114) (v := ?_) (a' := ?_) (bs 27 5019) rfl rfl (take_ofW HT_.out HW_.out (by kernel_rfl)) (fun _ _ _ h => h) (Or.inl ⟨by rfl, ?_⟩) hHeld ?_ ?_
               rotate_left
               ·rintro w' ⟨s0, s1, s2, s3, s4, s5⟩
                go_simp
                with_reducible rfl
               rotate_left
               ·simp only [Act.put, sA_, sZ_, sS_, i64_w, i32_w]
                rfl
               refine pure_ (i := 10) (N := some 115) (v := ?_) (a' := ?_) (bs 27 6043) rfl rfl (any_of HT_.out (by kernel_rfl)) (fun _ _ _ h => h) (Or.inl ⟨by rfl, ?_⟩) ?_ ?_
               rotate_left
               ·intro w'
                go_simp
                with_reducible rfl
               rotate_left
               ·simp only [Act.put, sA_, sZ_, sS_, i64_w, i32_w]
                rfl
               refine pure_ (i := 11) (N := some 116) (v := ?_) (a' := ?_) (bs 27 8091) rfl rfl (any_of HT_.out (by kernel_rfl)) (fun _ _ _ h => h) (Or.inl ⟨by rfl, ?_⟩) ?_ ?_
               rotate_left
               ·intro w'
                go_simp
                with_reducible rfl
               rotate_left
               ·simp only [Act.put, sA_, sZ_, sS_, i64_w, i32_w]
                rfl
               refine take_ (i := 13) (N := some 118) (v := ?_) (a' := ?_) (bs 27 16283) rfl rfl (take_ofW HT_.out HW_.out (by kernel_rfl)) (fun _ _ _ h => h) (Or.inl ⟨by rfl, ?_⟩) hHeld ?_ ?_
               rotate_left
               ·rintro w' ⟨s0, s1, s2, s3, s4, s5⟩
                go_simp
                with_reducible rfl
               rotate_left
               ·simp only [Act.put, sA_, sZ_, sS_, i64_w, i32_w]
                rfl
               refine pure_ (i := 14) (N := some 119) (v := ?_) (a' := ?_) (bs 27 32667) rfl rfl (any_of HT_.out (by kernel_rfl)) (fun _ _ _ h => h) (Or.inl ⟨by rfl, ?_⟩) ?_ ?_
               rotate_left
               ·intro w'
                go_simp
                with_reducible rfl
               rotate_left
               ·simp only [Act.put, sA_, sZ_, sS_, i64_w, i32_w]
                rfl
               refine pure_ (i := 15) (N := some 120) (v := ?_) (a' := ?_) (bs 27 65435) rfl rfl (any_of HT_.out (by kernel_rfl)) (fun _ _ _ h => h) (Or.inl ⟨by rfl, ?_⟩) ?_ ?_
               rotate_left
               ·intro w'
                go_simp
                with_reducible rfl
               rotate_left
               ·simp only [Act.put, sA_, sZ_, sS_, i64_w, i32_w]
                rfl
               refine pure_ (i := 16) (N := some 121) (v := ?_) (a' := ?_) (bs 27 130971) rfl rfl (any_of HT_.out (by kernel_rfl)) (fun _ _ _ h => h) (Or.inl ⟨by rfl, ?_⟩) ?_ ?_
               rotate_left
               ·intro w'
                go_simp
                with_reducible rfl
               rotate_left
               ·simp only [Act.put, sA_, sZ_, sS_, i64_w, i32_w]
                rfl
               refine one_ (i := 2) (N := some 107) (bs 27 130975) rfl rfl (one_of HT_.out (by kernel_rfl)) (by decide) (fun K hK => ?_)
               refine goes_ Try.func15 (by kernel_rfl) rfl #[.agg #[.int .i64 t266, .int .i64 t267, .slice Ao10 t268.length co10], .int .i64 t271] (by rfl) rfl rfl (by (try simp only [List.map_toArray, List.map_cons, List.map_nil]); first | done | rfl | (simp only [List.length_drop, List.length_take]; rfl)) ?_
               with_reducible refine (impl_Along4.calls kj63 t266 t267 _ _ t268 t271 t299 _ ?side1 ?side2 A98.out).mono ?_
               (case side1 => repeat (first | exact (Kd.N_reads' HO_273002.out).2.2 | (with_reducible refine Kd.C_alloc ?_ _) | (with_reducible refine Kd.C_drewN ?_ _) | (with_reducible refine Kd.C_drew ?_)))
               (case side2 => exact (Kd.N_reads' HO_273002.out).2.1)
               rintro e w117 ⟨rfl, hb⟩
               refine ⟨_, rfl, ?_⟩
               have n0_ := Aside0.mk (Kd.N_below (by (with_reducible repeat (first | apply Kd.N_alloc | apply Kd.N_drewN | apply Kd.N_drew)); exact HO_273002.out) hb)
               have n1_ := Aside0.mk (Kd.N_below (by (with_reducible repeat (first | apply Kd.N_alloc | apply Kd.N_drewN | apply Kd.N_drew)); exact HO_279002.out) hb)
               have n2_ := Aside0.mk (blk_below (g := gb272) (o := .cells #[.int .i64 t266, .int .i64 t267, .slice Ao10 t268.length co10] 26 (0, 0)) (fb_ BK272.out) hb)
               have n3_ := Aside0.mk (blk_below (g := gb278) (o := .cells #[.int .i64 t273, .int .i64 t274, .slice Ao15 t275.length co15] 26 (0, 0)) (fb_ BK278.out) hb)
               have n4_ := Aside0.mk (below_step (bel_ HB.out) hb)
               clear HO_273002
               clear HO_279002
               clear BK272
               clear BK278
               clear HB
               have HO_273002 := n0_
               have HO_279002 := n1_
               have BK272 := n2_
               have BK278 := n3_
               have HB := n4_
               clear n0_ n1_ n2_ n3_ n4_
               (try clear hb)
               (try clear hb2)
               (try clear hk)
               (try clear hi)
               refine hK.out _ _ ⟨(blk_cell BK272.out 0).trans rfl, (blk_cell BK272.out 1).trans rfl, (blk_cell BK272.out 2).trans rfl, (blk_cell BK278.out 0).trans rfl, (blk_cell BK278.out 1).trans rfl, (blk_cell BK278.out 2).trans rfl⟩ (fun hHeld => ?_)
               clear hK K
               refine norm_ (a' := ?_) ?_ ?_
               rotate_left
               ·show Act.put _ (some 107) _ = _
                simp only [Act.put, sA_, sZ_, sS_, i64_w, i32_w]
                rfl
               refine one_ (i := 5) (N := some 110) (bs 27 131007) rfl rfl (one_of HT_.out (by kernel_rfl)) (by decide) (fun K hK => ?_)
               refine goes_ Try.func15 (by kernel_rfl) rfl #[.agg #[.int .i64 t273, .int .i64 t274, .slice Ao15 t275.length co15], .int .i64 t271] (by rfl) rfl rfl (by (try simp only [List.map_toArray, List.map_cons, List.map_nil]); first | done | rfl | (simp only [List.length_drop, List.length_take]; rfl)) ?_
               with_reducible refine (impl_Along4.calls kj63 t273 t274 _ _ t275 t271 t300 _ ?side1 ?side2 A99.out).mono ?_
               (case side1 => repeat (first | exact (Kd.N_reads' HO_279002.out).2.2 | (with_reducible refine Kd.C_alloc ?_ _) | (with_reducible refine Kd.C_drewN ?_ _) | (with_reducible refine Kd.C_drew ?_)))
               (case side2 => exact (Kd.N_reads' HO_279002.out).2.1)
               rintro e w118 ⟨rfl, hb⟩
               refine ⟨_, rfl, ?_⟩
               have n0_ := Aside0.mk (Kd.N_below (by (with_reducible repeat (first | apply Kd.N_alloc | apply Kd.N_drewN | apply Kd.N_drew)); exact HO_273002.out) hb)
               have n1_ := Aside0.mk (Kd.N_below (by (with_reducible repeat (first | apply Kd.N_alloc | apply Kd.N_drewN | apply Kd.N_drew)); exact HO_279002.out) hb)
               have n2_ := Aside0.mk (blk_below (g := gb272) (o := .cells #[.int .i64 t266, .int .i64 t267, .slice Ao10 t268.length co10] 26 (0, 0)) (fb_ BK272.out) hb)
               have n3_ := Aside0.mk (blk_below (g := gb278) (o := .cells #[.int .i64 t273, .int .i64 t274, .slice Ao15 t275.length co15] 26 (0, 0)) (fb_ BK278.out) hb)
               have n4_ := Aside0.mk (below_step (bel_ HB.out) hb)
               clear HO_273002
               clear HO_279002
               clear BK272
               clear BK278
               clear HB
               have HO_273002 := n0_
               have HO_279002 := n1_
               have BK272 := n2_
               have BK278 := n3_
               have HB := n4_
               clear n0_ n1_ n2_ n3_ n4_
               (try clear hb)
               (try clear hb2)
               (try clear hk)
               (try clear hi)
               refine hK.out _ _ ⟨(blk_cell BK272.out 0).trans rfl, (blk_cell BK272.out 1).trans rfl, (blk_cell BK272.out 2).trans rfl, (blk_cell BK278.out 0).trans rfl, (blk_cell BK278.out 1).trans rfl, (blk_cell BK278.out 2).trans rfl⟩ (fun hHeld => ?_)
               clear hK K
               refine norm_ (a' := ?_) ?_ ?_
               rotate_left
               ·show Act.put _ (some 110) _ = _
                simp only [Act.put, sA_, sZ_, sS_, i64_w, i32_w]
                rfl
               refine pure_ (i := 6) (N := some 111) (v := ?_) (a' := ?_) (bs 27 131071) rfl rfl (any_of HT_.out (by kernel_rfl)) (fun _ _ _ h => h) (Or.inl ⟨by rfl, ?_⟩) ?_ ?_
               rotate_left
               ·intro w'
                go_simp
                with_reducible rfl
               rotate_left
               ·simp only [Act.put, sA_, sZ_, sS_, i64_w, i32_w]
                rfl
               refine pure_ (i := 17) (N := some 122) (v := ?_) (a' := ?_) (bs 27 262143) rfl rfl (any_of HT_.out (by kernel_rfl)) (fun _ _ _ h => h) (Or.inl ⟨by rfl, ?_⟩) ?_ ?_
               rotate_left
               ·intro w'
                go_simp
                with_reducible rfl
               rotate_left
               ·simp only [Act.put, sA_, sZ_, sS_, i64_w, i32_w]
                rfl
               refine pure_ (i := 18) (N := some 123) (v := ?_) (a' := ?_) (bs 27 524287) rfl rfl (any_of HT_.out (by kernel_rfl)) (fun _ _ _ h => h) (Or.inl ⟨by rfl, ?_⟩) ?_ ?_
               rotate_left
               ·intro w'
                go_simp
                with_reducible rfl
               rotate_left
               ·simp only [Act.put, sA_, sZ_, sS_, i64_w, i32_w]
                rfl
               refine pure_ (i := 19) (N := some 124) (v := undef) (a' := ?_) (bs 27 1048575) rfl rfl (any_of HT_.out (by kernel_rfl)) (fun _ _ _ h => h) (Or.inr ⟨by rfl, rfl⟩) ?_ ?_
               rotate_left
               ·simp only [Act.put, sA_, sZ_, sS_, i64_w, i32_w]
                rfl
               refine pure_ (i := 20) (N := some 125) (v := undef) (a' := ?_) (bs 27 2097151) rfl rfl (any_of HT_.out (by kernel_rfl)) (fun _ _ _ h => h) (Or.inr ⟨by rfl, rfl⟩) ?_ ?_
               rotate_left
               ·simp only [Act.put, sA_, sZ_, sS_, i64_w, i32_w]
                rfl
               refine pure_ (i := 21) (N := some 126) (v := undef) (a' := ?_) (bs 27 4194303) rfl rfl (any_of HT_.out (by kernel_rfl)) (fun _ _ _ h => h) (Or.inr ⟨by rfl, rfl⟩) ?_ ?_
               rotate_left
               ·simp only [Act.put, sA_, sZ_, sS_, i64_w, i32_w]
                rfl
               refine pure_ (i := 22) (N := some 127) (v := undef) (a' := ?_) (bs 27 8388607) rfl rfl (any_of HT_.out (by kernel_rfl)) (fun _ _ _ h => h) (Or.inr ⟨by rfl, rfl⟩) ?_ ?_
               rotate_left
               ·simp only [Act.put, sA_, sZ_, sS_, i64_w, i32_w]
                rfl
               refine pure_ (i := 23) (N := some 128) (v := undef) (a' := ?_) (bs 27 16777215) rfl rfl (any_of HT_.out (by kernel_rfl)) (fun _ _ _ h => h) (Or.inr ⟨by rfl, rfl⟩) ?_ ?_
               rotate_left
               ·simp only [Act.put, sA_, sZ_, sS_, i64_w, i32_w]
                rfl
               refine pure_ (i := 24) (N := some 129) (v := undef) (a' := ?_) (bs 27 33554431) rfl rfl (any_of HT_.out (by kernel_rfl)) (fun _ _ _ h => h) (Or.inr ⟨by rfl, rfl⟩) ?_ ?_
               rotate_left
               ·simp only [Act.put, sA_, sZ_, sS_, i64_w, i32_w]
                rfl
               refine pure_ (i := 25) (N := some 130) (v := ?_) (a' := ?_) (bs 27 67108863) rfl rfl (any_of HT_.out (by kernel_rfl)) (fun _ _ _ h => h) (Or.inl ⟨by rfl, ?_⟩) ?_ ?_
               rotate_left
               ·intro w'
                go_simp
                with_reducible rfl
               rotate_left
               ·simp only [Act.put, sA_, sZ_, sS_, i64_w, i32_w]
                rfl
               refine pure_ (i := 26) (N := some 2) (v := ?_) (a' := ?_) (bs 27 134217727) rfl rfl (any_of HT_.out (by kernel_rfl)) (fun _ _ _ h => h) (Or.inl ⟨by rfl, ?_⟩) ?_ ?_
               rotate_left
               ·intro w'
                go_simp
                with_reducible rfl
               rotate_left
               ·simp only [Act.put, sA_, sZ_, sS_, i64_w, i32_w]
                rfl
               refine done_ (done_of HT_.out (by kernel_rfl)) ?_
               try go_wp2
               go_ret
               exact ⟨by first | rfl | (simp [errW_none, errW_some] <;> rfl) | (simp [*, errW_none, errW_some] <;> rfl), bel_ HB.out⟩

/-- THE ONE PURE STATEMENT of laws_FnVolumes: yours. -/
def laws_FnVolumes.Pure : Prop := ∀ (l0 : List Int), l0.length ≤ maxLen → l0.length * 1 ≤ 140737488351232 → (∀ x ∈ l0, (Lit.int .u8 x).wf = true) → ∃ k, laws_FnVolumes.f k l0 = some true
theorem laws_FnVolumes.walk (P : laws_FnVolumes.Pure) (a0 : Option Addr) (len0 cap0 : Nat) (z0 : List Int) (w : World) (w0 : (a0 = none ∧ len0 = 0 ∧ cap0 = 0 ∧ z0 = []) ∨ ∃ x, a0 = some x ∧ len0 ≤ cap0 ∧ cap0 ≤ maxLen ∧ z0.length = cap0 ∧ (∀ i, i < z0.length → w.cell? (x.add i) = some (.int .u8 (z0.getD i 0))) ∧ ∀ n ∈ z0, (Lit.int .u8 n).wf = true) (y0 : len0 * 1 ≤ 140737488351232) :
  Calls Try.prog 3 #[.slice a0 len0 cap0] w fun e w' => e = .returned (.bool true) ∧ Below w.heap.size w w' := by
 obtain ⟨l0, rfl, hr0, hm0, hw0, hc0⟩ := ReadsInt.ofRowC w0
 obtain ⟨k, h⟩ := P l0 hm0 y0 hw0
 refine (laws_FnVolumes.calls k _ _ l0 true w (Kd.C_of_reads (d := (0 : Int)) (h1 := fun _ => rfl) hr0) hc0 h).mono ?_
 rintro e w' ⟨rfl, hd⟩
 exact ⟨rfl, hd⟩

end Go.Proofs.Ytpimebjddebdkaa.PFnVolumes
