/- The Lean side of Go functions of this seat: what each answers, and that its run comes to that answer; written by a program of this work. -/
import Derived.Test.YtpkhhoecfpjnjaaPFnHoistsx0
import Derived.Test.YtpkhhoecfpjnjaaPFnHoistsx1
import Derived.Test.YtpkhhoecfpjnjaaPFnHoistsx2
import Derived.Test.YtpkhhoecfpjnjaaPFnHoistsx5
import Derived.Test.YtpkhhoecfpjnjaaPFnHoistsx6
import Derived.Test.YtpkhhoecfpjnjaaPFnHoistsx7
namespace Go.Proofs.Ytpkhhoecfpjnjaa.PFnHoists
open Go.RowKit Go.Proofs.YtpkhhoecfpjnjaaW.PrintWords Go.Proofs.YtpkhhoecfpjnjaaW.PrintLast Go.Proofs.YtpkhhoecfpjnjaaW.PrintMore
attribute [local go_sem] max2_int min2_int max_two min_two max_three min_three max_four min_four   -- for this text's walks alone
set_option linter.unusedVariables false
set_option linter.unusedSimpArgs false

attribute [local go_sem high] eqA49
/-! ### laws_FnHoists: function 8 -/
mutual
def laws_FnHoists.l0 : Nat → List (S56) → Int → Int → Int → Int → Int → Int → Int → Int → Option (Bool)
 | 0, _, _, _, _, _, _, _, _, _ => none
 | k + 1, x4, x5, x295000, x295001, x295002, x295003, x295004, x295005, x295006 => if x5 < (x4.length : Int) then (if 0 ≤ x5 then ((impl_DoSignal.f k x295000 x295001 x295002 x295003 x295004 x295005 x295006 ((rd_T56 x4 x5).f0) ((rd_T56 x4 x5).f1)).bind fun bt314 => ((impl_HoistOk.f bt314.1 bt314.2.1 bt314.2.2.1 bt314.2.2.2.1 bt314.2.2.2.2.1 bt314.2.2.2.2.2.1 bt314.2.2.2.2.2.2.1).bind fun t323 => (if t323 = true then (if bt314.2.2.2.2.2.2.2 = true then (if bt314.1 = 1 then (laws_FnHoists.j1 k x4 x5 (decide (bt314.2.1 > bt314.2.2.2.2.2.1)) x295000 x295001 x295002 x295003 x295004 x295005 x295006 bt314.1 bt314.2.1 bt314.2.2.1 bt314.2.2.2.1 bt314.2.2.2.2.1 bt314.2.2.2.2.2.1 bt314.2.2.2.2.2.2.1) else (laws_FnHoists.j1 k x4 x5 false x295000 x295001 x295002 x295003 x295004 x295005 x295006 bt314.1 bt314.2.1 bt314.2.2.1 bt314.2.2.2.1 bt314.2.2.2.2.1 bt314.2.2.2.2.2.1 bt314.2.2.2.2.2.2.1)) else (if (!(bt314.1 == x295000) || (!(bt314.2.1 == x295001) || (!(bt314.2.2.1 == x295002) || (!(bt314.2.2.2.1 == x295003) || (!(bt314.2.2.2.2.1 == x295004) || (!(bt314.2.2.2.2.2.1 == x295005) || (!(bt314.2.2.2.2.2.2.1 == x295006)))))))) = true then (laws_FnHoists.j1 k x4 x5 true x295000 x295001 x295002 x295003 x295004 x295005 x295006 bt314.1 bt314.2.1 bt314.2.2.1 bt314.2.2.2.1 bt314.2.2.2.2.1 bt314.2.2.2.2.2.1 bt314.2.2.2.2.2.2.1) else (if bt314.1 = 1 then (laws_FnHoists.j1 k x4 x5 (decide (bt314.2.1 > bt314.2.2.2.2.2.1)) x295000 x295001 x295002 x295003 x295004 x295005 x295006 bt314.1 bt314.2.1 bt314.2.2.1 bt314.2.2.2.1 bt314.2.2.2.2.1 bt314.2.2.2.2.2.1 bt314.2.2.2.2.2.2.1) else (laws_FnHoists.j1 k x4 x5 false x295000 x295001 x295002 x295003 x295004 x295005 x295006 bt314.1 bt314.2.1 bt314.2.2.1 bt314.2.2.2.1 bt314.2.2.2.2.1 bt314.2.2.2.2.2.1 bt314.2.2.2.2.2.2.1)))) else (laws_FnHoists.j1 k x4 x5 true x295000 x295001 x295002 x295003 x295004 x295005 x295006 bt314.1 bt314.2.1 bt314.2.2.1 bt314.2.2.2.1 bt314.2.2.2.2.1 bt314.2.2.2.2.2.1 bt314.2.2.2.2.2.2.1)))) else (none)) else ((impl_RunSignals.f k x295000 x295001 x295002 x295003 x295004 x295005 x295006 (([(⟨4, 0⟩ : S56), (⟨1, 0⟩ : S56), (⟨5, 0⟩ : S56), (⟨3, 0⟩ : S56)] : List (S56)))).bind fun bt298 => (if (bt298.2.2.2.2.2.2.2.length : Int) = 4 then (if 0 < (bt298.2.2.2.2.2.2.2.length : Int) then (if rdOf false bt298.2.2.2.2.2.2.2 0 = true then (if 1 < (bt298.2.2.2.2.2.2.2.length : Int) then (if rdOf false bt298.2.2.2.2.2.2.2 1 = true then (some false) else (if 2 < (bt298.2.2.2.2.2.2.2.length : Int) then (if rdOf false bt298.2.2.2.2.2.2.2 2 = true then (if 3 < (bt298.2.2.2.2.2.2.2.length : Int) then (if rdOf false bt298.2.2.2.2.2.2.2 3 = true then (some (bt298.1 == 0)) else (some false)) else (none)) else (some false)) else (none))) else (none)) else (some false)) else (none)) else (some false)))
def laws_FnHoists.j1 : Nat → List (S56) → Int → Bool → Int → Int → Int → Int → Int → Int → Int → Int → Int → Int → Int → Int → Int → Int → Option (Bool)
 | 0, _, _, _, _, _, _, _, _, _, _, _, _, _, _, _, _, _ => none
 | k + 1, x4, x5, x55, x295000, x295001, x295002, x295003, x295004, x295005, x295006, x323000, x323001, x323002, x323003, x323004, x323005, x323006 => if x55 = true then (some false) else (if x323002 = x295002 then (laws_FnHoists.j2 k x4 x5 false x295000 x295001 x295002 x295003 x295004 x295005 x295006 x323000 x323001 x323002 x323003 x323004 x323005 x323006) else (if 0 ≤ x5 then (if x5 < (x4.length : Int) then (if ((rd_T56 x4 x5).f0) = 7 then (if x295000 = 1 then (laws_FnHoists.j2 k x4 x5 false x295000 x295001 x295002 x295003 x295004 x295005 x295006 x323000 x323001 x323002 x323003 x323004 x323005 x323006) else (laws_FnHoists.j2 k x4 x5 (x295000 != 2) x295000 x295001 x295002 x295003 x295004 x295005 x295006 x323000 x323001 x323002 x323003 x323004 x323005 x323006)) else (laws_FnHoists.j2 k x4 x5 true x295000 x295001 x295002 x295003 x295004 x295005 x295006 x323000 x323001 x323002 x323003 x323004 x323005 x323006)) else (none)) else (none)))
def laws_FnHoists.j2 : Nat → List (S56) → Int → Bool → Int → Int → Int → Int → Int → Int → Int → Int → Int → Int → Int → Int → Int → Int → Option (Bool)
 | 0, _, _, _, _, _, _, _, _, _, _, _, _, _, _, _, _, _ => none
 | k + 1, x4, x5, x78, x295000, x295001, x295002, x295003, x295004, x295005, x295006, x323000, x323001, x323002, x323003, x323004, x323005, x323006 => if x78 = true then (some false) else (if x295000 = 3 then (if x323000 = 3 then (laws_FnHoists.j3 k x4 x5 false x323000 x323001 x323002 x323003 x323004 x323005 x323006) else (if 0 ≤ x5 then (if x5 < (x4.length : Int) then (if ((rd_T56 x4 x5).f0) = 3 then (laws_FnHoists.j3 k x4 x5 (x295006 != 1) x323000 x323001 x323002 x323003 x323004 x323005 x323006) else (laws_FnHoists.j3 k x4 x5 true x323000 x323001 x323002 x323003 x323004 x323005 x323006)) else (none)) else (none))) else (laws_FnHoists.j3 k x4 x5 false x323000 x323001 x323002 x323003 x323004 x323005 x323006))
def laws_FnHoists.j3 : Nat → List (S56) → Int → Bool → Int → Int → Int → Int → Int → Int → Int → Option (Bool)
 | 0, _, _, _, _, _, _, _, _, _, _ => none
 | k + 1, x4, x5, x99, x323000, x323001, x323002, x323003, x323004, x323005, x323006 => if x99 = true then (some false) else (if 0 ≤ x5 then (if x5 < (x4.length : Int) then (if ((rd_T56 x4 x5).f0) = 4 then (if x323000 = 3 then (laws_FnHoists.l0 k x4 (wrap64 (x5 + 1)) x323000 x323001 x323002 x323003 x323004 x323005 x323006) else (some false)) else (laws_FnHoists.l0 k x4 (wrap64 (x5 + 1)) x323000 x323001 x323002 x323003 x323004 x323005 x323006)) else (none)) else (none))
end
def laws_FnHoists.f (k : Nat) (l0 : List Int) : Option (Bool) := (laws_big.f l0).bind fun t283 => (if t283 = true then (some true) else ((spec_DrawHoist.f k l0).bind fun bt284 => (laws_FnHoists.l0 k bt284.2.2.2.2.2.2.2 0 bt284.1 bt284.2.1 bt284.2.2.1 bt284.2.2.2.1 bt284.2.2.2.2.1 bt284.2.2.2.2.2.1 bt284.2.2.2.2.2.2.1)))
theorem laws_FnHoists.mono_l : ∀ k, (∀ y0 y1 y2 y3 y4 y5 y6 y7 y8, LeO (laws_FnHoists.l0 k y0 y1 y2 y3 y4 y5 y6 y7 y8) (laws_FnHoists.l0 (k + 1) y0 y1 y2 y3 y4 y5 y6 y7 y8)) ∧ (∀ y0 y1 y2 y3 y4 y5 y6 y7 y8 y9 y10 y11 y12 y13 y14 y15 y16, LeO (laws_FnHoists.j1 k y0 y1 y2 y3 y4 y5 y6 y7 y8 y9 y10 y11 y12 y13 y14 y15 y16) (laws_FnHoists.j1 (k + 1) y0 y1 y2 y3 y4 y5 y6 y7 y8 y9 y10 y11 y12 y13 y14 y15 y16)) ∧ (∀ y0 y1 y2 y3 y4 y5 y6 y7 y8 y9 y10 y11 y12 y13 y14 y15 y16, LeO (laws_FnHoists.j2 k y0 y1 y2 y3 y4 y5 y6 y7 y8 y9 y10 y11 y12 y13 y14 y15 y16) (laws_FnHoists.j2 (k + 1) y0 y1 y2 y3 y4 y5 y6 y7 y8 y9 y10 y11 y12 y13 y14 y15 y16)) ∧ (∀ y0 y1 y2 y3 y4 y5 y6 y7 y8 y9, LeO (laws_FnHoists.j3 k y0 y1 y2 y3 y4 y5 y6 y7 y8 y9) (laws_FnHoists.j3 (k + 1) y0 y1 y2 y3 y4 y5 y6 y7 y8 y9))
 | 0 => ⟨fun _ _ _ _ _ _ _ _ _ r h => by simp [laws_FnHoists.l0] at h, fun _ _ _ _ _ _ _ _ _ _ _ _ _ _ _ _ _ r h => by simp [laws_FnHoists.j1] at h, fun _ _ _ _ _ _ _ _ _ _ _ _ _ _ _ _ _ r h => by simp [laws_FnHoists.j2] at h, fun _ _ _ _ _ _ _ _ _ _ r h => by simp [laws_FnHoists.j3] at h⟩
 | k + 1 => by
  obtain ⟨ih0, ih1, ih2, ih3⟩ := laws_FnHoists.mono_l k
  refine ⟨?_, ?_, ?_, ?_⟩
  ·intro y0 y1 y2 y3 y4 y5 y6 y7 y8
   unfold laws_FnHoists.l0
   repeat' first
   | (with_reducible exact ih0 _ _ _ _ _ _ _ _ _)
   | (with_reducible exact ih1 _ _ _ _ _ _ _ _ _ _ _ _ _ _ _ _ _)
   | (with_reducible exact ih2 _ _ _ _ _ _ _ _ _ _ _ _ _ _ _ _ _)
   | (with_reducible exact ih3 _ _ _ _ _ _ _ _ _ _)
   | (with_reducible exact impl_DoSignal.mono _ _ _ _ _ _ _ _ _ _)
   | (with_reducible exact impl_RunSignals.mono _ _ _ _ _ _ _ _ _)
   | (with_reducible exact spec_DrawHoist.mono _ _)
   | (with_reducible exact LeO.refl _)
   | (with_reducible exact LeO.none _)
   | (with_reducible refine LeO.ite ?_ ?_)
   | (with_reducible refine LeO.bind ?_ (fun _ => ?_))
   | exact ih0 _ _ _ _ _ _ _ _ _
   | exact ih1 _ _ _ _ _ _ _ _ _ _ _ _ _ _ _ _ _
   | exact ih2 _ _ _ _ _ _ _ _ _ _ _ _ _ _ _ _ _
   | exact ih3 _ _ _ _ _ _ _ _ _ _
   | exact impl_DoSignal.mono _ _ _ _ _ _ _ _ _ _
   | exact impl_RunSignals.mono _ _ _ _ _ _ _ _ _
   | exact spec_DrawHoist.mono _ _
   | exact LeO.none _
   | refine LeO.ite ?_ ?_
   | refine LeO.bind ?_ (fun _ => ?_)
  ·intro y0 y1 y2 y3 y4 y5 y6 y7 y8 y9 y10 y11 y12 y13 y14 y15 y16
   unfold laws_FnHoists.j1
   repeat' first
   | (with_reducible exact ih0 _ _ _ _ _ _ _ _ _)
   | (with_reducible exact ih1 _ _ _ _ _ _ _ _ _ _ _ _ _ _ _ _ _)
   | (with_reducible exact ih2 _ _ _ _ _ _ _ _ _ _ _ _ _ _ _ _ _)
   | (with_reducible exact ih3 _ _ _ _ _ _ _ _ _ _)
   | (with_reducible exact impl_DoSignal.mono _ _ _ _ _ _ _ _ _ _)
   | (with_reducible exact impl_RunSignals.mono _ _ _ _ _ _ _ _ _)
   | (with_reducible exact spec_DrawHoist.mono _ _)
   | (with_reducible exact LeO.refl _)
   | (with_reducible exact LeO.none _)
   | (with_reducible refine LeO.ite ?_ ?_)
   | (with_reducible refine LeO.bind ?_ (fun _ => ?_))
   | exact ih0 _ _ _ _ _ _ _ _ _
   | exact ih1 _ _ _ _ _ _ _ _ _ _ _ _ _ _ _ _ _
   | exact ih2 _ _ _ _ _ _ _ _ _ _ _ _ _ _ _ _ _
   | exact ih3 _ _ _ _ _ _ _ _ _ _
   | exact impl_DoSignal.mono _ _ _ _ _ _ _ _ _ _
   | exact impl_RunSignals.mono _ _ _ _ _ _ _ _ _
   | exact spec_DrawHoist.mono _ _
   | exact LeO.none _
   | refine LeO.ite ?_ ?_
   | refine LeO.bind ?_ (fun _ => ?_)
  ·intro y0 y1 y2 y3 y4 y5 y6 y7 y8 y9 y10 y11 y12 y13 y14 y15 y16
   unfold laws_FnHoists.j2
   repeat' first
   | (with_reducible exact ih0 _ _ _ _ _ _ _ _ _)
   | (with_reducible exact ih1 _ _ _ _ _ _ _ _ _ _ _ _ _ _ _ _ _)
   | (with_reducible exact ih2 _ _ _ _ _ _ _ _ _ _ _ _ _ _ _ _ _)
   | (with_reducible exact ih3 _ _ _ _ _ _ _ _ _ _)
   | (with_reducible exact impl_DoSignal.mono _ _ _ _ _ _ _ _ _ _)
   | (with_reducible exact impl_RunSignals.mono _ _ _ _ _ _ _ _ _)
   | (with_reducible exact spec_DrawHoist.mono _ _)
   | (with_reducible exact LeO.refl _)
   | (with_reducible exact LeO.none _)
   | (with_reducible refine LeO.ite ?_ ?_)
   | (with_reducible refine LeO.bind ?_ (fun _ => ?_))
   | exact ih0 _ _ _ _ _ _ _ _ _
   | exact ih1 _ _ _ _ _ _ _ _ _ _ _ _ _ _ _ _ _
   | exact ih2 _ _ _ _ _ _ _ _ _ _ _ _ _ _ _ _ _
   | exact ih3 _ _ _ _ _ _ _ _ _ _
   | exact impl_DoSignal.mono _ _ _ _ _ _ _ _ _ _
   | exact impl_RunSignals.mono _ _ _ _ _ _ _ _ _
   | exact spec_DrawHoist.mono _ _
   | exact LeO.none _
   | refine LeO.ite ?_ ?_
   | refine LeO.bind ?_ (fun _ => ?_)
  ·intro y0 y1 y2 y3 y4 y5 y6 y7 y8 y9
   unfold laws_FnHoists.j3
   repeat' first
   | (with_reducible exact ih0 _ _ _ _ _ _ _ _ _)
   | (with_reducible exact ih1 _ _ _ _ _ _ _ _ _ _ _ _ _ _ _ _ _)
   | (with_reducible exact ih2 _ _ _ _ _ _ _ _ _ _ _ _ _ _ _ _ _)
   | (with_reducible exact ih3 _ _ _ _ _ _ _ _ _ _)
   | (with_reducible exact impl_DoSignal.mono _ _ _ _ _ _ _ _ _ _)
   | (with_reducible exact impl_RunSignals.mono _ _ _ _ _ _ _ _ _)
   | (with_reducible exact spec_DrawHoist.mono _ _)
   | (with_reducible exact LeO.refl _)
   | (with_reducible exact LeO.none _)
   | (with_reducible refine LeO.ite ?_ ?_)
   | (with_reducible refine LeO.bind ?_ (fun _ => ?_))
   | exact ih0 _ _ _ _ _ _ _ _ _
   | exact ih1 _ _ _ _ _ _ _ _ _ _ _ _ _ _ _ _ _
   | exact ih2 _ _ _ _ _ _ _ _ _ _ _ _ _ _ _ _ _
   | exact ih3 _ _ _ _ _ _ _ _ _ _
   | exact impl_DoSignal.mono _ _ _ _ _ _ _ _ _ _
   | exact impl_RunSignals.mono _ _ _ _ _ _ _ _ _
   | exact spec_DrawHoist.mono _ _
   | exact LeO.none _
   | refine LeO.ite ?_ ?_
   | refine LeO.bind ?_ (fun _ => ?_)
theorem laws_FnHoists.mono : ∀ a0 k, LeO (laws_FnHoists.f k a0) (laws_FnHoists.f (k + 1) a0) := by
 intro a0 k
 obtain ⟨ih0, ih1, ih2, ih3⟩ := laws_FnHoists.mono_l k
 unfold laws_FnHoists.f
 repeat' first
   | (with_reducible exact ih0 _ _ _ _ _ _ _ _ _)
   | (with_reducible exact ih1 _ _ _ _ _ _ _ _ _ _ _ _ _ _ _ _ _)
   | (with_reducible exact ih2 _ _ _ _ _ _ _ _ _ _ _ _ _ _ _ _ _)
   | (with_reducible exact ih3 _ _ _ _ _ _ _ _ _ _)
   | (with_reducible exact impl_DoSignal.mono _ _ _ _ _ _ _ _ _ _)
   | (with_reducible exact impl_RunSignals.mono _ _ _ _ _ _ _ _ _)
   | (with_reducible exact spec_DrawHoist.mono _ _)
   | (with_reducible exact LeO.refl _)
   | (with_reducible exact LeO.none _)
   | (with_reducible refine LeO.ite ?_ ?_)
   | (with_reducible refine LeO.bind ?_ (fun _ => ?_))
   | exact ih0 _ _ _ _ _ _ _ _ _
   | exact ih1 _ _ _ _ _ _ _ _ _ _ _ _ _ _ _ _ _
   | exact ih2 _ _ _ _ _ _ _ _ _ _ _ _ _ _ _ _ _
   | exact ih3 _ _ _ _ _ _ _ _ _ _
   | exact impl_DoSignal.mono _ _ _ _ _ _ _ _ _ _
   | exact impl_RunSignals.mono _ _ _ _ _ _ _ _ _
   | exact spec_DrawHoist.mono _ _
   | exact LeO.none _
   | refine LeO.ite ?_ ?_
   | refine LeO.bind ?_ (fun _ => ?_)
def laws_FnHoists.T7 : Bool × List (List Nat × List Nat) := (true, [([], []), ([], []), ([], []), ([1, 2], [1, 2]), ([3], [3]), ([0, 4], [0, 4]), ([5], [5]), ([6], [6]), ([6], [6]), ([], []), ([9, 7, 5, 0, 1, 2, 3, 4, 5, 6, 7, 9], [7, 9]), ([8, 10, 0, 1, 2, 3, 4, 5, 6, 7, 8, 9, 10], [8])])
def laws_FnHoists.B7 : List Nat := [0, 0, 0, 6, 14, 31, 63, 127, 127, 0, 767, 2047]
theorem laws_FnHoists.tab7 : rtab .any (opsOf Try.f8 7) = laws_FnHoists.T7 := by kernel_rfl
theorem laws_FnHoists.bits7 : waitsOk laws_FnHoists.T7.2 laws_FnHoists.B7 = true := by kernel_rfl
set_option maxHeartbeats 8000000 in
set_option maxRecDepth 100000 in
theorem laws_FnHoists.calls (k : Nat) (A0 : Option Addr) (c0 : Nat) (l0 : List Int) (r : Bool) (w : World) (hr0 : Kd.C (Kd.int .u8) w A0 l0.length l0) (hc0 : l0.length ≤ c0) (h : laws_FnHoists.f k l0 = some r) :
  Calls Try.prog 8 #[.slice A0 l0.length c0] w fun e w' => e = .returned (.bool r) ∧ Below w.heap.size w w' := by
 have hu49 := Try.underlying49
 have hu56 := Try.underlying56
 have HR0 := Aside0.mk hr0
 have HC0 := Aside0.mk hc0
 clear hr0 hc0
 have HB := Aside0.mk (Below.refl w.heap.size w)
 have H : ((laws_big.f l0).bind fun t283 => (if t283 = true then (some true) else ((spec_DrawHoist.f k l0).bind fun bt284 => (laws_FnHoists.l0 k bt284.2.2.2.2.2.2.2 0 bt284.1 bt284.2.1 bt284.2.2.1 bt284.2.2.2.1 bt284.2.2.2.2.1 bt284.2.2.2.2.2.1 bt284.2.2.2.2.2.2.1)))) = some r := h
 clear h
 replace H := Option.bind_eq_some_iff.mp H
 obtain ⟨t283, A20, H⟩ := H
 replace H : (if t283 = true then (some true) else ((spec_DrawHoist.f k l0).bind fun bt284 => (laws_FnHoists.l0 k bt284.2.2.2.2.2.2.2 0 bt284.1 bt284.2.1 bt284.2.2.1 bt284.2.2.2.1 bt284.2.2.2.2.1 bt284.2.2.2.2.2.1 bt284.2.2.2.2.2.2.1))) = some r := H
 have A2 := Aside0.mk A20
 clear A20
 by_cases c3 : t283 = true
 ·subst c3
  have H1 : (some true) = some r := by rw [if_pos rfl] at H; exact H
  clear H
  have H := H1
  clear H1
  obtain rfl := Option.some.inj H
  go_enter Try.func8, Try.ntmps8
  go_wp2_with (first | ((with_reducible refine gate_callee (f := 9) rfl ?_); refine goesL_ (some 11) rfl rfl Try.func9 (by kernel_rfl) rfl #[.slice A0 l0.length c0] rfl (by (try simp only [List.map_toArray, List.map_cons, List.map_nil]); first | done | rfl | (simp only [List.length_drop, List.length_take]; rfl)) ?_; (with_reducible refine (laws_big.calls _ _ l0 true _ ?side1 ?side2 A2.out).mono ?_); (case side1 => repeat (first | exact HR0.out | (with_reducible refine Kd.C_alloc ?_ _) | (with_reducible refine Kd.C_drewN ?_ _) | (with_reducible refine Kd.C_drew ?_))); (case side2 => exact HC0.out); rintro e w' ⟨rfl, ⟨nd, rfl⟩⟩; refine ⟨_, rfl, ?_⟩))
  go_ret
  exact ⟨by first | rfl | (simp [errW_none, errW_some] <;> rfl) | (simp [*, errW_none, errW_some] <;> rfl), bel_ HB.out⟩
 ·replace c3 := Bool.eq_false_iff.mpr c3
  subst c3
  have H1 : ((spec_DrawHoist.f k l0).bind fun bt284 => (laws_FnHoists.l0 k bt284.2.2.2.2.2.2.2 0 bt284.1 bt284.2.1 bt284.2.2.1 bt284.2.2.2.1 bt284.2.2.2.2.1 bt284.2.2.2.2.2.1 bt284.2.2.2.2.2.2.1)) = some r := by rw [if_neg (show ¬ (false = true) by decide)] at H; exact H
  clear H
  have H := H1
  clear H1
  replace H := Option.bind_eq_some_iff.mp H
  obtain ⟨⟨t284, t285, t286, t287, t288, t289, t290, t291⟩, A40, H⟩ := H
  replace H : (laws_FnHoists.l0 k t291 0 t284 t285 t286 t287 t288 t289 t290) = some r := H
  have A4 := Aside0.mk A40
  clear A40
  have H' := Aside0.mk H
  clear H
  go_enter Try.func8, Try.ntmps8
  go_wp2_with (first | ((with_reducible refine gate_callee (f := 9) rfl ?_); refine goesL_ (some 11) rfl rfl Try.func9 (by kernel_rfl) rfl #[.slice A0 l0.length c0] rfl (by (try simp only [List.map_toArray, List.map_cons, List.map_nil]); first | done | rfl | (simp only [List.length_drop, List.length_take]; rfl)) ?_; (with_reducible refine (laws_big.calls _ _ l0 false _ ?side1 ?side2 A2.out).mono ?_); (case side1 => repeat (first | exact HR0.out | (with_reducible refine Kd.C_alloc ?_ _) | (with_reducible refine Kd.C_drewN ?_ _) | (with_reducible refine Kd.C_drew ?_))); (case side2 => exact HC0.out); rintro e w' ⟨rfl, ⟨nd, rfl⟩⟩; refine ⟨_, rfl, ?_⟩) | ((with_reducible refine gate_callee (f := 25) rfl ?_); refine goesL_ (some 14) rfl rfl Try.func25 (by kernel_rfl) rfl #[.slice A0 l0.length c0] rfl (by (try simp only [List.map_toArray, List.map_cons, List.map_nil]); first | done | rfl | (simp only [List.length_drop, List.length_take]; rfl)) ?_; (with_reducible refine (spec_DrawHoist.calls k _ _ l0 t284 t285 t286 t287 t288 t289 t290 t291 _ ?side1 ?side2 A4.out).mono ?_); (case side1 => repeat (first | exact HR0.out | (with_reducible refine Kd.C_alloc ?_ _) | (with_reducible refine Kd.C_drewN ?_ _) | (with_reducible refine Kd.C_drew ?_))); (case side2 => exact HC0.out); rintro e w5 ⟨v292, rfl, ho0, hb⟩; refine ⟨_, rfl, ?_⟩; have n0_ := Aside0.mk (Kd.R_lower ho0 (below_size (bel_ HB.out))); have n1_ := Aside0.mk (below_step (bel_ HB.out) hb); clear HB; have HO293 := n0_; have HB := n1_; clear n0_ n1_; (try clear hb); (try clear hb2); (try clear hk); (try clear hi); (try clear ho0)) | ((with_reducible refine gate_dst (N := 3) rfl ?_); refine box_event ?hg (N := 3) ?hd (cs := #[.int .i64 0, .int .i64 0, .int .i64 0, .int .i64 0, .int .i64 0, .int .i64 0, .int .i64 0]) (t := 49) ?hr ?_; (case hd => rfl); (case hg => rfl); (case hr => first | (go_simp; done) | (go_simp; rfl)); intro gb294 hg w6 hbox hb; have n0_ := Aside0.mk (Kd.R_below (fr_ HO293.out) hb); have n1_ := Aside0.mk (below_step (bel_ HB.out) hb); have n2_ := Aside0.mk (hbox); have n3_ := Aside0.mk ((by rw [hg]; exact (below_size (bel_ HB.out)) : w.heap.size ≤ gb294)); have n4_ := Aside0.mk ((by rw [hg]; exact (below_size (bel_ HB.out)) : w.heap.size ≤ gb294)); clear HO293; clear HB; have HO293 := n0_; have HB := n1_; have BK294 := n2_; have GW294 := n3_; have GE294 := n4_; clear n0_ n1_ n2_ n3_ n4_; clear hb hbox hg; have hcz7_0 : w6.cell? ⟨gb294, 0, none⟩ = some (.int .i64 0) := (blk_cell BK294.out 0).trans rfl; have hcz7_1 : w6.cell? ⟨gb294, 1, none⟩ = some (.int .i64 0) := (blk_cell BK294.out 1).trans rfl; have hcz7_2 : w6.cell? ⟨gb294, 2, none⟩ = some (.int .i64 0) := (blk_cell BK294.out 2).trans rfl; have hcz7_3 : w6.cell? ⟨gb294, 3, none⟩ = some (.int .i64 0) := (blk_cell BK294.out 3).trans rfl; have hcz7_4 : w6.cell? ⟨gb294, 4, none⟩ = some (.int .i64 0) := (blk_cell BK294.out 4).trans rfl; have hcz7_5 : w6.cell? ⟨gb294, 5, none⟩ = some (.int .i64 0) := (blk_cell BK294.out 5).trans rfl; have hcz7_6 : w6.cell? ⟨gb294, 6, none⟩ = some (.int .i64 0) := (blk_cell BK294.out 6).trans rfl; have hfz7_0 := blk_frozen BK294.out 0; have hfz7_1 := blk_frozen BK294.out 1; have hfz7_2 := blk_frozen BK294.out 2; have hfz7_3 := blk_frozen BK294.out 3; have hfz7_4 := blk_frozen BK294.out 4; have hfz7_5 := blk_frozen BK294.out 5; have hfz7_6 := blk_frozen BK294.out 6))
  go_loopg [5] k (fun kq v5 w' => ∃ (x5_1 : Int) (x295000_1 : Int) (x295001_1 : Int) (x295002_1 : Int) (x295003_1 : Int) (x295004_1 : Int) (x295005_1 : Int) (x295006_1 : Int), v5 = .int .i64 x5_1 ∧ Aside0 (laws_FnHoists.l0 kq t291 x5_1 x295000_1 x295001_1 x295002_1 x295003_1 x295004_1 x295005_1 x295006_1 = some r) ∧ Aside0 (kq ≤ k) ∧ Aside0 (Kd.R k56 56 w' w.heap.size (fun _ => True) v292 t291) ∧ Aside0 (w'.heap[gb294]? = some (.cells #[.int .i64 x295000_1, .int .i64 x295001_1, .int .i64 x295002_1, .int .i64 x295003_1, .int .i64 x295004_1, .int .i64 x295005_1, .int .i64 x295006_1] 49 (0, 0))) ∧ Aside0 (Below w.heap.size w w'))
  case atStart => exact ⟨(0), (t284), (t285), (t286), (t287), (t288), (t289), (t290), (by first | rfl | (simp; done) | (simp [*]; done) | (simp [wrap64]; done)), H', ⟨Nat.le_refl _⟩, ⟨by (with_reducible repeat (first | apply Kd.R_alloc | apply Kd.R_drewN | apply Kd.R_drew)); exact Kd.R_mono (Kd.R_far (p := ⟨gb294, 6, none⟩) (Kd.R_far (p := ⟨gb294, 5, none⟩) (Kd.R_far (p := ⟨gb294, 4, none⟩) (Kd.R_far (p := ⟨gb294, 3, none⟩) (Kd.R_far (p := ⟨gb294, 2, none⟩) (Kd.R_far (p := ⟨gb294, 1, none⟩) (Kd.R_far (p := ⟨gb294, 0, none⟩) (Kd.R_types HO293.out BK294.out (by decide)) (fun _ hk => hk.2) (.int .i64 t284)) (fun _ hk => hk.2) (.int .i64 t285)) (fun _ hk => hk.2) (.int .i64 t286)) (fun _ hk => hk.2) (.int .i64 t287)) (fun _ hk => hk.2) (.int .i64 t288)) (fun _ hk => hk.2) (.int .i64 t289)) (fun _ hk => hk.2) (.int .i64 t290)) (fun _ hk => trivial)⟩, ⟨by (with_reducible repeat (first | refine blk_drewN ?_ _ | refine blk_drew ?_ | refine blk_alloc ?_ _)); refine blk_put (cs := #[.int .i64 t284, .int .i64 t285, .int .i64 t286, .int .i64 t287, .int .i64 t288, .int .i64 t289, .int .i64 0]) ?_ 6 _ rfl; (with_reducible repeat (first | refine blk_drewN ?_ _ | refine blk_drew ?_ | refine blk_alloc ?_ _)); refine blk_put (cs := #[.int .i64 t284, .int .i64 t285, .int .i64 t286, .int .i64 t287, .int .i64 t288, .int .i64 0, .int .i64 0]) ?_ 5 _ rfl; (with_reducible repeat (first | refine blk_drewN ?_ _ | refine blk_drew ?_ | refine blk_alloc ?_ _)); refine blk_put (cs := #[.int .i64 t284, .int .i64 t285, .int .i64 t286, .int .i64 t287, .int .i64 0, .int .i64 0, .int .i64 0]) ?_ 4 _ rfl; (with_reducible repeat (first | refine blk_drewN ?_ _ | refine blk_drew ?_ | refine blk_alloc ?_ _)); refine blk_put (cs := #[.int .i64 t284, .int .i64 t285, .int .i64 t286, .int .i64 0, .int .i64 0, .int .i64 0, .int .i64 0]) ?_ 3 _ rfl; (with_reducible repeat (first | refine blk_drewN ?_ _ | refine blk_drew ?_ | refine blk_alloc ?_ _)); refine blk_put (cs := #[.int .i64 t284, .int .i64 t285, .int .i64 0, .int .i64 0, .int .i64 0, .int .i64 0, .int .i64 0]) ?_ 2 _ rfl; (with_reducible repeat (first | refine blk_drewN ?_ _ | refine blk_drew ?_ | refine blk_alloc ?_ _)); refine blk_put (cs := #[.int .i64 t284, .int .i64 0, .int .i64 0, .int .i64 0, .int .i64 0, .int .i64 0, .int .i64 0]) ?_ 1 _ rfl; (with_reducible repeat (first | refine blk_drewN ?_ _ | refine blk_drew ?_ | refine blk_alloc ?_ _)); refine blk_put (cs := #[.int .i64 0, .int .i64 0, .int .i64 0, .int .i64 0, .int .i64 0, .int .i64 0, .int .i64 0]) ?_ 0 _ rfl; (with_reducible repeat (first | refine blk_drewN ?_ _ | refine blk_drew ?_ | refine blk_alloc ?_ _)); exact BK294.out⟩, ⟨bel_ HB.out⟩⟩
  case round =>
   clear H'
   try clear c3
   try clear hcz7_0
   try clear hcz7_1
   try clear hcz7_2
   try clear hcz7_3
   try clear hcz7_4
   try clear hcz7_5
   try clear hcz7_6
   try clear hfz7_0
   try clear hfz7_1
   try clear hfz7_2
   try clear hfz7_3
   try clear hfz7_4
   try clear hfz7_5
   try clear hfz7_6
   obtain ⟨x5_1, x295000_1, x295001_1, x295002_1, x295003_1, x295004_1, x295005_1, x295006_1, rfl, HA, HK1, HO_4, BK294, HB⟩ := hrel
   cases gk with
   | zero => exact absurd HA.out (by simp [laws_FnHoists.l0])
   | succ k1 =>
    have H := HA.out
    clear HA
    simp only [laws_FnHoists.l0] at H
    by_cases c8 : x5_1 < (t291.length : Int)
    ·rw [if_pos c8] at H
     have c8b0 : decide (x5_1 < (t291.length : Int)) = true := decide_eq_true c8
     clear c8
     by_cases c9 : 0 ≤ x5_1
     ·rw [if_pos c9] at H
      have c9b0 : decide (0 ≤ x5_1) = true := decide_eq_true c9
      clear c9
      replace H := Option.bind_eq_some_iff.mp H
      obtain ⟨⟨t314, t315, t316, t317, t318, t319, t320, t321⟩, A100, H⟩ := H
      replace H : ((impl_HoistOk.f t314 t315 t316 t317 t318 t319 t320).bind fun t323 => (if t323 = true then (if t321 = true then (if t314 = 1 then (laws_FnHoists.j1 k1 t291 x5_1 (decide (t315 > t319)) x295000_1 x295001_1 x295002_1 x295003_1 x295004_1 x295005_1 x295006_1 t314 t315 t316 t317 t318 t319 t320) else (laws_FnHoists.j1 k1 t291 x5_1 false x295000_1 x295001_1 x295002_1 x295003_1 x295004_1 x295005_1 x295006_1 t314 t315 t316 t317 t318 t319 t320)) else (if (!(t314 == x295000_1) || (!(t315 == x295001_1) || (!(t316 == x295002_1) || (!(t317 == x295003_1) || (!(t318 == x295004_1) || (!(t319 == x295005_1) || (!(t320 == x295006_1)))))))) = true then (laws_FnHoists.j1 k1 t291 x5_1 true x295000_1 x295001_1 x295002_1 x295003_1 x295004_1 x295005_1 x295006_1 t314 t315 t316 t317 t318 t319 t320) else (if t314 = 1 then (laws_FnHoists.j1 k1 t291 x5_1 (decide (t315 > t319)) x295000_1 x295001_1 x295002_1 x295003_1 x295004_1 x295005_1 x295006_1 t314 t315 t316 t317 t318 t319 t320) else (laws_FnHoists.j1 k1 t291 x5_1 false x295000_1 x295001_1 x295002_1 x295003_1 x295004_1 x295005_1 x295006_1 t314 t315 t316 t317 t318 t319 t320)))) else (laws_FnHoists.j1 k1 t291 x5_1 true x295000_1 x295001_1 x295002_1 x295003_1 x295004_1 x295005_1 x295006_1 t314 t315 t316 t317 t318 t319 t320))) = some r := H
      have A10 := Aside0.mk A100
      clear A100
      have HC11 := Aside0.mk H
      clear H
      obtain ⟨Ao12, co12, eo12⟩ := Kd.R_slice HO_4.out
      subst eo12
      try go_wp2
      have n0_ := Aside0.mk (Kd.R_drew HO_4.out)
      have n1_ := Aside0.mk (blk_drew BK294.out)
      have n2_ := Aside0.mk (below_drew1 HB.out)
      clear HO_4
      clear BK294
      clear HB
      have HO_4 := n0_
      have BK294 := n1_
      have HB := n2_
      clear n0_ n1_ n2_
      have p313 : 0 ≤ (x5_1 : Int) := of_decide_eq_true (by first | (with_reducible assumption) | assumption)
      have q313 : x5_1 < (t291.length : Int) := of_decide_eq_true (by first | (with_reducible assumption) | assumption)
      obtain ⟨ad313, e313, hx313_0, hx313_1⟩ := at_T56 (Kd.R_reads' HO_4.out).2.2 x5_1 p313 q313
      cases e313
      replace p313 := eq_true p313
      replace q313 := eq_true q313
      refine start_ (n := 12) (S := fun w' => w'.cell? ⟨gb294, 0, none⟩ = some (.int .i64 x295000_1) ∧ w'.cell? ⟨gb294, 1, none⟩ = some (.int .i64 x295001_1) ∧ w'.cell? ⟨gb294, 2, none⟩ = some (.int .i64 x295002_1) ∧ w'.cell? ⟨gb294, 3, none⟩ = some (.int .i64 x295003_1) ∧ w'.cell? ⟨gb294, 4, none⟩ = some (.int .i64 x295004_1) ∧ w'.cell? ⟨gb294, 5, none⟩ = some (.int .i64 x295005_1) ∧ w'.cell? ⟨gb294, 6, none⟩ = some (.int .i64 x295006_1) ∧ w'.cell? (ad313.add ((x5_1).toNat * 2)) = some (.int .i64 ((rd_T56 t291 x5_1).f0)) ∧ w'.cell? ⟨(ad313.add ((x5_1).toNat * 2)).block, (ad313.add ((x5_1).toNat * 2)).off + 1, none⟩ = some (.int .i64 ((rd_T56 t291 x5_1).f1))) (ds := []) (bs 12 0) (by kernel_rfl) rfl rfl ⟨(blk_cell BK294.out 0).trans rfl, (blk_cell BK294.out 1).trans rfl, (blk_cell BK294.out 2).trans rfl, (blk_cell BK294.out 3).trans rfl, (blk_cell BK294.out 4).trans rfl, (blk_cell BK294.out 5).trans rfl, (blk_cell BK294.out 6).trans rfl, hx313_0, hx313_1⟩ (fun hHeld => ?_); refine with_tabW laws_FnHoists.tab7 laws_FnHoists.bits7 (fun HT_ HW_ => ?_)
      generalize wr.drew = w13 at HO_4 BK294 HB hx313_0 hx313_1 hHeld ⊢
      refine pure_ (i := 1) (N := some 25) (v := ?_) (a' := ?_) (bs 12 2) rfl rfl (any_of HT_.out (by kernel_rfl)) (fun _ _ _ h => h) (Or.inl ⟨by rfl, ?_⟩) ?_ ?_
      rotate_left
      ·intro w'
       go_simp
       with_reducible rfl
      rotate_left
      ·simp only [Act.put, sA_, sZ_, sS_, i64_w, i32_w]
       rfl
      refine pure_ (i := 2) (N := some 26) (v := ?_) (a' := ?_) (bs 12 6) rfl rfl (any_of HT_.out (by kernel_rfl)) (fun _ _ _ h => h) (Or.inl ⟨by rfl, ?_⟩) ?_ ?_
      rotate_left
      ·intro w'
       go_simp
       with_reducible rfl
      rotate_left
      ·simp only [Act.put, sA_, sZ_, sS_, i64_w, i32_w]
       rfl
      refine pure_ (i := 3) (N := some 27) (v := ?_) (a' := ?_) (bs 12 14) rfl rfl (any_of HT_.out (by kernel_rfl)) (fun _ _ _ h => h) (Or.inl ⟨by rfl, ?_⟩) ?_ ?_
      rotate_left
      ·intro w'
       go_simp
       with_reducible rfl
      rotate_left
      ·simp only [Act.put, sA_, sZ_, sS_, i64_w, i32_w]
       rfl
      refine take_ (i := 0) (N := some 24) (v := ?_) (a' := ?_) (bs 12 15) rfl rfl (take_ofW HT_.out HW_.out (by kernel_rfl)) (fun _ _ _ h => h) (Or.inl ⟨by rfl, ?_⟩) hHeld ?_ ?_
      rotate_left
      ·rintro w' ⟨s0, s1, s2, s3, s4, s5, s6, s7, s8⟩
       go_simp
       with_reducible rfl
      rotate_left
      ·simp only [Act.put, sA_, sZ_, sS_, i64_w, i32_w]
       rfl
      refine take_ (i := 4) (N := some 28) (v := ?_) (a' := ?_) (bs 12 31) rfl rfl (take_ofW HT_.out HW_.out (by kernel_rfl)) (fun _ _ _ h => h) (Or.inl ⟨by rfl, ?_⟩) hHeld ?_ ?_
      rotate_left
      ·rintro w' ⟨s0, s1, s2, s3, s4, s5, s6, s7, s8⟩
       go_simp
       with_reducible rfl
      rotate_left
      ·simp only [Act.put, sA_, sZ_, sS_, i64_w, i32_w]
       rfl
      refine join_ (σ := Nat) 2 (bs 12 1023) (fun s_ => [(29, .tuple #[.agg #[.int .i64 t314, .int .i64 t315, .int .i64 t316, .int .i64 t317, .int .i64 t318, .int .i64 t319, .int .i64 t320], .bool t321]), (6, .pointer (some ⟨s_, 0, none⟩)), (23, .tuple #[.agg #[.int .i64 t314, .int .i64 t315, .int .i64 t316, .int .i64 t317, .int .i64 t318, .int .i64 t319, .int .i64 t320], .bool t321]), (30, .agg #[.int .i64 t314, .int .i64 t315, .int .i64 t316, .int .i64 t317, .int .i64 t318, .int .i64 t319, .int .i64 t320]), (31, .bool t321)]) (fun s_ w' => (w'.cell? ⟨gb294, 0, none⟩ = some (.int .i64 x295000_1) ∧ w'.cell? ⟨gb294, 1, none⟩ = some (.int .i64 x295001_1) ∧ w'.cell? ⟨gb294, 2, none⟩ = some (.int .i64 x295002_1) ∧ w'.cell? ⟨gb294, 3, none⟩ = some (.int .i64 x295003_1) ∧ w'.cell? ⟨gb294, 4, none⟩ = some (.int .i64 x295004_1) ∧ w'.cell? ⟨gb294, 5, none⟩ = some (.int .i64 x295005_1) ∧ w'.cell? ⟨gb294, 6, none⟩ = some (.int .i64 x295006_1) ∧ w'.cell? (ad313.add ((x5_1).toNat * 2)) = some (.int .i64 ((rd_T56 t291 x5_1).f0)) ∧ w'.cell? ⟨(ad313.add ((x5_1).toNat * 2)).block, (ad313.add ((x5_1).toNat * 2)).off + 1, none⟩ = some (.int .i64 ((rd_T56 t291 x5_1).f1))) ∧ (Kd.R k56 56 w' w.heap.size (fun _ => True) (.slice (some ad313) t291.length co12) t291) ∧ (w'.heap[gb294]? = some (.cells #[.int .i64 x295000_1, .int .i64 x295001_1, .int .i64 x295002_1, .int .i64 x295003_1, .int .i64 x295004_1, .int .i64 x295005_1, .int .i64 x295006_1] 49 (0, 0))) ∧ (w'.heap[s_]? = some (.cells #[.int .i64 0, .int .i64 0, .int .i64 0, .int .i64 0, .int .i64 0, .int .i64 0, .int .i64 0] 49 (0, 0))) ∧ (w.heap.size ≤ s_) ∧ (w.heap.size ≤ s_) ∧ (gb294 ≠ s_) ∧ (s_ ≠ gb294) ∧ (Below w.heap.size w w')) ?_ ?_
      rotate_left
      ·intro hCont
       refine two_ (i := 5) (j := 9) (Ni := some 29) (Nj := some 6) (bs 12 63) (bs 12 543) rfl rfl rfl rfl (two_of HT_.out (by kernel_rfl)) (by decide) (by decide) (fun K hK => ?_) (fun K hK => ?_)
       ·skip
        refine goes_ Try.func26 (by kernel_rfl) rfl #[.agg #[.int .i64 x295000_1, .int .i64 x295001_1, .int .i64 x295002_1, .int .i64 x295003_1, .int .i64 x295004_1, .int .i64 x295005_1, .int .i64 x295006_1], .agg #[.int .i64 ((rd_T56 t291 x5_1).f0), .int .i64 ((rd_T56 t291 x5_1).f1)]] (by rfl) rfl rfl (by (try simp only [List.map_toArray, List.map_cons, List.map_nil]); first | done | rfl | (simp only [List.length_drop, List.length_take]; rfl)) ?_
        with_reducible refine (impl_DoSignal.calls k1 x295000_1 x295001_1 x295002_1 x295003_1 x295004_1 x295005_1 x295006_1 ((rd_T56 t291 x5_1).f0) ((rd_T56 t291 x5_1).f1) t314 t315 t316 t317 t318 t319 t320 t321 _ A10.out).mono ?_
        rintro e w14 ⟨rfl, hb⟩
        have HS7_ := (hb.cell (World.block_lt_of_cell? _ _ (hHeld.2.2.2.2.2.2.2.1))).trans (hHeld.2.2.2.2.2.2.2.1)
        have HS8_ := (hb.cell (World.block_lt_of_cell? _ _ (hHeld.2.2.2.2.2.2.2.2))).trans (hHeld.2.2.2.2.2.2.2.2)
        refine ⟨_, rfl, ?_⟩
        have n0_ := Aside0.mk (Kd.R_below (fr_ HO_4.out) hb)
        have n1_ := Aside0.mk (blk_below (g := gb294) (o := .cells #[.int .i64 x295000_1, .int .i64 x295001_1, .int .i64 x295002_1, .int .i64 x295003_1, .int .i64 x295004_1, .int .i64 x295005_1, .int .i64 x295006_1] 49 (0, 0)) (fb_ BK294.out) hb)
        have n2_ := Aside0.mk (below_step (bel_ HB.out) hb)
        clear HO_4
        clear BK294
        clear HB
        have HO_4 := n0_
        have BK294 := n1_
        have HB := n2_
        clear n0_ n1_ n2_
        (try clear hb)
        (try clear hb2)
        (try clear hk)
        (try clear hi)
        refine hK.out _ _ ⟨(blk_cell BK294.out 0).trans rfl, (blk_cell BK294.out 1).trans rfl, (blk_cell BK294.out 2).trans rfl, (blk_cell BK294.out 3).trans rfl, (blk_cell BK294.out 4).trans rfl, (blk_cell BK294.out 5).trans rfl, (blk_cell BK294.out 6).trans rfl, HS7_, HS8_⟩ (fun hHeld => ?_)
        clear hK K
        refine norm_ (a' := ?_) ?_ ?_
        rotate_left
        ·show Act.put _ (some 29) _ = _
         simp only [Act.put, sA_, sZ_, sS_, i64_w, i32_w]
         rfl
        refine pure_ (i := 6) (N := some 23) (v := ?_) (a' := ?_) (bs 12 127) rfl rfl (any_of HT_.out (by kernel_rfl)) (fun _ _ _ h => h) (Or.inl ⟨by rfl, ?_⟩) ?_ ?_
        rotate_left
        ·intro w'
         go_simp
         with_reducible rfl
        rotate_left
        ·simp only [Act.put, sA_, sZ_, sS_, i64_w, i32_w]
         rfl
        refine pure_ (i := 7) (N := some 30) (v := ?_) (a' := ?_) (bs 12 255) rfl rfl (any_of HT_.out (by kernel_rfl)) (fun _ _ _ h => h) (Or.inl ⟨by rfl, ?_⟩) ?_ ?_
        rotate_left
        ·intro w'
         go_simp
         with_reducible rfl
        rotate_left
        ·simp only [Act.put, sA_, sZ_, sS_, i64_w, i32_w]
         rfl
        refine pure_ (i := 8) (N := some 31) (v := ?_) (a' := ?_) (bs 12 511) rfl rfl (any_of HT_.out (by kernel_rfl)) (fun _ _ _ h => h) (Or.inl ⟨by rfl, ?_⟩) ?_ ?_
        rotate_left
        ·intro w'
         go_simp
         with_reducible rfl
        rotate_left
        ·simp only [Act.put, sA_, sZ_, sS_, i64_w, i32_w]
         rfl
        refine one_ (i := 9) (N := some 6) (bs 12 1023) rfl rfl (one_of HT_.out (by kernel_rfl)) (by decide) (fun K hK => ?_)
        refine box_step ?hg (N := 6) ?hd (cs := #[.int .i64 0, .int .i64 0, .int .i64 0, .int .i64 0, .int .i64 0, .int .i64 0, .int .i64 0]) (t := 49) ?hr ?_; (case hd => rfl); (case hg => rfl); (case hr => first | (go_simp; done) | (go_simp; rfl))
        intro gb322 hg w15 hbox hb
        have HS7_ := (hb.cell (World.block_lt_of_cell? _ _ (hHeld.2.2.2.2.2.2.2.1))).trans (hHeld.2.2.2.2.2.2.2.1)
        have HS8_ := (hb.cell (World.block_lt_of_cell? _ _ (hHeld.2.2.2.2.2.2.2.2))).trans (hHeld.2.2.2.2.2.2.2.2)
        have n0_ := Aside0.mk (Kd.R_below (fr_ HO_4.out) hb)
        have n1_ := Aside0.mk (blk_below (g := gb294) (o := .cells #[.int .i64 x295000_1, .int .i64 x295001_1, .int .i64 x295002_1, .int .i64 x295003_1, .int .i64 x295004_1, .int .i64 x295005_1, .int .i64 x295006_1] 49 (0, 0)) (fb_ BK294.out) hb)
        have n2_ := Aside0.mk (below_step (bel_ HB.out) hb)
        have n3_ := Aside0.mk (hbox)
        have n4_ := Aside0.mk ((by rw [hg]; exact (below_size (bel_ HB.out)) : w.heap.size ≤ gb322))
        have n5_ := Aside0.mk ((by rw [hg]; exact (below_size (bel_ HB.out)) : w.heap.size ≤ gb322))
        have n6_ := Aside0.mk ((by rw [hg]; exact Nat.ne_of_lt (blk_lt (g := gb294) (o := .cells #[.int .i64 x295000_1, .int .i64 x295001_1, .int .i64 x295002_1, .int .i64 x295003_1, .int .i64 x295004_1, .int .i64 x295005_1, .int .i64 x295006_1] 49 (0, 0)) (fb_ BK294.out)) : gb294 ≠ gb322))
        have n7_ := Aside0.mk ((by rw [hg]; exact Nat.ne_of_gt (blk_lt (g := gb294) (o := .cells #[.int .i64 x295000_1, .int .i64 x295001_1, .int .i64 x295002_1, .int .i64 x295003_1, .int .i64 x295004_1, .int .i64 x295005_1, .int .i64 x295006_1] 49 (0, 0)) (fb_ BK294.out)) : gb322 ≠ gb294))
        clear HO_4
        clear BK294
        clear HB
        have HO_4 := n0_
        have BK294 := n1_
        have HB := n2_
        have BK322 := n3_
        have GW322 := n4_
        have GE322 := n5_
        have NB294_322 := n6_
        have NB322_294 := n7_
        clear n0_ n1_ n2_ n3_ n4_ n5_ n6_ n7_
        clear hb hbox hg
        refine hK.out _ _ ⟨(blk_cell BK294.out 0).trans rfl, (blk_cell BK294.out 1).trans rfl, (blk_cell BK294.out 2).trans rfl, (blk_cell BK294.out 3).trans rfl, (blk_cell BK294.out 4).trans rfl, (blk_cell BK294.out 5).trans rfl, (blk_cell BK294.out 6).trans rfl, HS7_, HS8_⟩ (fun hHeld => ?_)
        clear hK K
        refine norm_ (a' := ?_) ?_ ?_
        rotate_left
        ·show Act.put _ (some 6) _ = _
         simp only [Act.put, sA_, sZ_, sS_, i64_w, i32_w]
         rfl
        exact norm_ (by simp only [putAll, Act.put, sA_, sZ_, sS_]) (hCont (gb322) _ ⟨hHeld, (fr_ HO_4.out), (fb_ BK294.out), (fb_ BK322.out), GW322.out, GE322.out, NB294_322.out, NB322_294.out, (bel_ HB.out)⟩)
       ·skip
        refine box_step ?hg (N := 6) ?hd (cs := #[.int .i64 0, .int .i64 0, .int .i64 0, .int .i64 0, .int .i64 0, .int .i64 0, .int .i64 0]) (t := 49) ?hr ?_; (case hd => rfl); (case hg => rfl); (case hr => first | (go_simp; done) | (go_simp; rfl))
        intro gb322 hg w14 hbox hb
        have HS7_ := (hb.cell (World.block_lt_of_cell? _ _ (hHeld.2.2.2.2.2.2.2.1))).trans (hHeld.2.2.2.2.2.2.2.1)
        have HS8_ := (hb.cell (World.block_lt_of_cell? _ _ (hHeld.2.2.2.2.2.2.2.2))).trans (hHeld.2.2.2.2.2.2.2.2)
        have n0_ := Aside0.mk (Kd.R_below (fr_ HO_4.out) hb)
        have n1_ := Aside0.mk (blk_below (g := gb294) (o := .cells #[.int .i64 x295000_1, .int .i64 x295001_1, .int .i64 x295002_1, .int .i64 x295003_1, .int .i64 x295004_1, .int .i64 x295005_1, .int .i64 x295006_1] 49 (0, 0)) (fb_ BK294.out) hb)
        have n2_ := Aside0.mk (below_step (bel_ HB.out) hb)
        have n3_ := Aside0.mk (hbox)
        have n4_ := Aside0.mk ((by rw [hg]; exact (below_size (bel_ HB.out)) : w.heap.size ≤ gb322))
        have n5_ := Aside0.mk ((by rw [hg]; exact (below_size (bel_ HB.out)) : w.heap.size ≤ gb322))
        have n6_ := Aside0.mk ((by rw [hg]; exact Nat.ne_of_lt (blk_lt (g := gb294) (o := .cells #[.int .i64 x295000_1, .int .i64 x295001_1, .int .i64 x295002_1, .int .i64 x295003_1, .int .i64 x295004_1, .int .i64 x295005_1, .int .i64 x295006_1] 49 (0, 0)) (fb_ BK294.out)) : gb294 ≠ gb322))
        have n7_ := Aside0.mk ((by rw [hg]; exact Nat.ne_of_gt (blk_lt (g := gb294) (o := .cells #[.int .i64 x295000_1, .int .i64 x295001_1, .int .i64 x295002_1, .int .i64 x295003_1, .int .i64 x295004_1, .int .i64 x295005_1, .int .i64 x295006_1] 49 (0, 0)) (fb_ BK294.out)) : gb322 ≠ gb294))
        clear HO_4
        clear BK294
        clear HB
        have HO_4 := n0_
        have BK294 := n1_
        have HB := n2_
        have BK322 := n3_
        have GW322 := n4_
        have GE322 := n5_
        have NB294_322 := n6_
        have NB322_294 := n7_
        clear n0_ n1_ n2_ n3_ n4_ n5_ n6_ n7_
        clear hb hbox hg
        refine hK.out _ _ ⟨(blk_cell BK294.out 0).trans rfl, (blk_cell BK294.out 1).trans rfl, (blk_cell BK294.out 2).trans rfl, (blk_cell BK294.out 3).trans rfl, (blk_cell BK294.out 4).trans rfl, (blk_cell BK294.out 5).trans rfl, (blk_cell BK294.out 6).trans rfl, HS7_, HS8_⟩ (fun hHeld => ?_)
        clear hK K
        refine norm_ (a' := ?_) ?_ ?_
        rotate_left
        ·show Act.put _ (some 6) _ = _
         simp only [Act.put, sA_, sZ_, sS_, i64_w, i32_w]
         rfl
        refine one_ (i := 5) (N := some 29) (bs 12 575) rfl rfl (one_of HT_.out (by kernel_rfl)) (by decide) (fun K hK => ?_)
        refine goes_ Try.func26 (by kernel_rfl) rfl #[.agg #[.int .i64 x295000_1, .int .i64 x295001_1, .int .i64 x295002_1, .int .i64 x295003_1, .int .i64 x295004_1, .int .i64 x295005_1, .int .i64 x295006_1], .agg #[.int .i64 ((rd_T56 t291 x5_1).f0), .int .i64 ((rd_T56 t291 x5_1).f1)]] (by rfl) rfl rfl (by (try simp only [List.map_toArray, List.map_cons, List.map_nil]); first | done | rfl | (simp only [List.length_drop, List.length_take]; rfl)) ?_
        with_reducible refine (impl_DoSignal.calls k1 x295000_1 x295001_1 x295002_1 x295003_1 x295004_1 x295005_1 x295006_1 ((rd_T56 t291 x5_1).f0) ((rd_T56 t291 x5_1).f1) t314 t315 t316 t317 t318 t319 t320 t321 _ A10.out).mono ?_
        rintro e w15 ⟨rfl, hb⟩
        have HS7_ := (hb.cell (World.block_lt_of_cell? _ _ (hHeld.2.2.2.2.2.2.2.1))).trans (hHeld.2.2.2.2.2.2.2.1)
        have HS8_ := (hb.cell (World.block_lt_of_cell? _ _ (hHeld.2.2.2.2.2.2.2.2))).trans (hHeld.2.2.2.2.2.2.2.2)
        refine ⟨_, rfl, ?_⟩
        have n0_ := Aside0.mk (Kd.R_below (fr_ HO_4.out) hb)
        have n1_ := Aside0.mk (blk_below (g := gb294) (o := .cells #[.int .i64 x295000_1, .int .i64 x295001_1, .int .i64 x295002_1, .int .i64 x295003_1, .int .i64 x295004_1, .int .i64 x295005_1, .int .i64 x295006_1] 49 (0, 0)) (fb_ BK294.out) hb)
        have n2_ := Aside0.mk (blk_below (g := gb322) (o := .cells #[.int .i64 0, .int .i64 0, .int .i64 0, .int .i64 0, .int .i64 0, .int .i64 0, .int .i64 0] 49 (0, 0)) (fb_ BK322.out) hb)
        have n3_ := Aside0.mk (below_step (bel_ HB.out) hb)
        clear HO_4
        clear BK294
        clear BK322
        clear HB
        have HO_4 := n0_
        have BK294 := n1_
        have BK322 := n2_
        have HB := n3_
        clear n0_ n1_ n2_ n3_
        (try clear hb)
        (try clear hb2)
        (try clear hk)
        (try clear hi)
        refine hK.out _ _ ⟨(blk_cell BK294.out 0).trans rfl, (blk_cell BK294.out 1).trans rfl, (blk_cell BK294.out 2).trans rfl, (blk_cell BK294.out 3).trans rfl, (blk_cell BK294.out 4).trans rfl, (blk_cell BK294.out 5).trans rfl, (blk_cell BK294.out 6).trans rfl, HS7_, HS8_⟩ (fun hHeld => ?_)
        clear hK K
        refine norm_ (a' := ?_) ?_ ?_
        rotate_left
        ·show Act.put _ (some 29) _ = _
         simp only [Act.put, sA_, sZ_, sS_, i64_w, i32_w]
         rfl
        refine pure_ (i := 6) (N := some 23) (v := ?_) (a' := ?_) (bs 12 639) rfl rfl (any_of HT_.out (by kernel_rfl)) (fun _ _ _ h => h) (Or.inl ⟨by rfl, ?_⟩) ?_ ?_
        rotate_left
        ·intro w'
         go_simp
         with_reducible rfl
        rotate_left
        ·simp only [Act.put, sA_, sZ_, sS_, i64_w, i32_w]
         rfl
        refine pure_ (i := 7) (N := some 30) (v := ?_) (a' := ?_) (bs 12 767) rfl rfl (any_of HT_.out (by kernel_rfl)) (fun _ _ _ h => h) (Or.inl ⟨by rfl, ?_⟩) ?_ ?_
        rotate_left
        ·intro w'
         go_simp
         with_reducible rfl
        rotate_left
        ·simp only [Act.put, sA_, sZ_, sS_, i64_w, i32_w]
         rfl
        refine pure_ (i := 8) (N := some 31) (v := ?_) (a' := ?_) (bs 12 1023) rfl rfl (any_of HT_.out (by kernel_rfl)) (fun _ _ _ h => h) (Or.inl ⟨by rfl, ?_⟩) ?_ ?_
        rotate_left
        ·intro w'
         go_simp
         with_reducible rfl
        rotate_left
        ·simp only [Act.put, sA_, sZ_, sS_, i64_w, i32_w]
         rfl
        exact norm_ (by simp only [putAll, Act.put, sA_, sZ_, sS_]) (hCont (gb322) _ ⟨hHeld, (fr_ HO_4.out), (fb_ BK294.out), (fb_ BK322.out), GW322.out, GE322.out, NB294_322.out, NB322_294.out, (bel_ HB.out)⟩)
      rintro gb322 w16 ⟨hS_, h0_, h1_, h2_, h3_, h4_, h5_, h6_, h7_⟩
      have n0_ : Aside0 (Kd.R k56 56 w16 w.heap.size (fun _ => True) (.slice (some ad313) t291.length co12) t291) := ⟨h0_⟩
      have n1_ : Aside0 (w16.heap[gb294]? = some (.cells #[.int .i64 x295000_1, .int .i64 x295001_1, .int .i64 x295002_1, .int .i64 x295003_1, .int .i64 x295004_1, .int .i64 x295005_1, .int .i64 x295006_1] 49 (0, 0))) := ⟨h1_⟩
      have n2_ : Aside0 (w16.heap[gb322]? = some (.cells #[.int .i64 0, .int .i64 0, .int .i64 0, .int .i64 0, .int .i64 0, .int .i64 0, .int .i64 0] 49 (0, 0))) := ⟨h2_⟩
      have n3_ : Aside0 (w.heap.size ≤ gb322) := ⟨h3_⟩
      have n4_ : Aside0 (w.heap.size ≤ gb322) := ⟨h4_⟩
      have n5_ : Aside0 (gb294 ≠ gb322) := ⟨h5_⟩
      have n6_ : Aside0 (gb322 ≠ gb294) := ⟨h6_⟩
      have n7_ : Aside0 (Below w.heap.size w w16) := ⟨h7_⟩
      clear HO_4
      clear BK294
      clear HB
      clear h0_ h1_ h2_ h3_ h4_ h5_ h6_ h7_
      have HO_4 := n0_
      have BK294 := n1_
      have BK322 := n2_
      have GW322 := n3_
      have GE322 := n4_
      have NB294_322 := n5_
      have NB322_294 := n6_
      have HB := n7_
      clear n0_ n1_ n2_ n3_ n4_ n5_ n6_ n7_
      have hHeld : w16.cell? ⟨gb294, 0, none⟩ = some (.int .i64 x295000_1) ∧ w16.cell? ⟨gb294, 1, none⟩ = some (.int .i64 x295001_1) ∧ w16.cell? ⟨gb294, 2, none⟩ = some (.int .i64 x295002_1) ∧ w16.cell? ⟨gb294, 3, none⟩ = some (.int .i64 x295003_1) ∧ w16.cell? ⟨gb294, 4, none⟩ = some (.int .i64 x295004_1) ∧ w16.cell? ⟨gb294, 5, none⟩ = some (.int .i64 x295005_1) ∧ w16.cell? ⟨gb294, 6, none⟩ = some (.int .i64 x295006_1) ∧ w16.cell? (ad313.add ((x5_1).toNat * 2)) = some (.int .i64 ((rd_T56 t291 x5_1).f0)) ∧ w16.cell? ⟨(ad313.add ((x5_1).toNat * 2)).block, (ad313.add ((x5_1).toNat * 2)).off + 1, none⟩ = some (.int .i64 ((rd_T56 t291 x5_1).f1)) := hS_
      refine norm_ (a' := ?_) ?_ ?_
      rotate_left
      ·simp only [putAll, Act.put, sA_, sZ_, sS_]
       rfl
      refine one_ (i := 10) (N := none) (bs 12 2047) rfl rfl (one_of HT_.out (by kernel_rfl)) (by decide) (fun K hK => ?_)
      have hs17 : w16.cell? ⟨gb322, 0, none⟩ = some (.int .i64 0) := (blk_cell BK322.out 0).trans rfl
      have hfs17 := blk_frozen BK322.out 0
      have hns17_0 := NB294_322.out
      have hms17_0 := NB322_294.out
      have hs18 : w16.cell? ⟨gb322, 1, none⟩ = some (.int .i64 0) := (blk_cell BK322.out 1).trans rfl
      have hfs18 := blk_frozen BK322.out 1
      have hns18_0 := NB294_322.out
      have hms18_0 := NB322_294.out
      have hs19 : w16.cell? ⟨gb322, 2, none⟩ = some (.int .i64 0) := (blk_cell BK322.out 2).trans rfl
      have hfs19 := blk_frozen BK322.out 2
      have hns19_0 := NB294_322.out
      have hms19_0 := NB322_294.out
      have hs20 : w16.cell? ⟨gb322, 3, none⟩ = some (.int .i64 0) := (blk_cell BK322.out 3).trans rfl
      have hfs20 := blk_frozen BK322.out 3
      have hns20_0 := NB294_322.out
      have hms20_0 := NB322_294.out
      have hs21 : w16.cell? ⟨gb322, 4, none⟩ = some (.int .i64 0) := (blk_cell BK322.out 4).trans rfl
      have hfs21 := blk_frozen BK322.out 4
      have hns21_0 := NB294_322.out
      have hms21_0 := NB322_294.out
      have hs22 : w16.cell? ⟨gb322, 5, none⟩ = some (.int .i64 0) := (blk_cell BK322.out 5).trans rfl
      have hfs22 := blk_frozen BK322.out 5
      have hns22_0 := NB294_322.out
      have hms22_0 := NB322_294.out
      have hs23 : w16.cell? ⟨gb322, 6, none⟩ = some (.int .i64 0) := (blk_cell BK322.out 6).trans rfl
      have hfs23 := blk_frozen BK322.out 6
      have hns23_0 := NB294_322.out
      have hms23_0 := NB322_294.out
      refine skip_ (w1 := ?_) (by rfl) rfl ?_ ?_
      rotate_left
      ·go_simp
       rfl
      refine hK.out _ _ ⟨((cell_far (p := ⟨gb322, _, none⟩) NB294_322.out _).trans (((cell_far (p := ⟨gb322, _, none⟩) NB294_322.out _).trans (((cell_far (p := ⟨gb322, _, none⟩) NB294_322.out _).trans (((cell_far (p := ⟨gb322, _, none⟩) NB294_322.out _).trans (((cell_far (p := ⟨gb322, _, none⟩) NB294_322.out _).trans (((cell_far (p := ⟨gb322, _, none⟩) NB294_322.out _).trans (((cell_far (p := ⟨gb322, _, none⟩) NB294_322.out _).trans (hHeld.1)))))))))))))), ((cell_far (p := ⟨gb322, _, none⟩) NB294_322.out _).trans (((cell_far (p := ⟨gb322, _, none⟩) NB294_322.out _).trans (((cell_far (p := ⟨gb322, _, none⟩) NB294_322.out _).trans (((cell_far (p := ⟨gb322, _, none⟩) NB294_322.out _).trans (((cell_far (p := ⟨gb322, _, none⟩) NB294_322.out _).trans (((cell_far (p := ⟨gb322, _, none⟩) NB294_322.out _).trans (((cell_far (p := ⟨gb322, _, none⟩) NB294_322.out _).trans (hHeld.2.1)))))))))))))), ((cell_far (p := ⟨gb322, _, none⟩) NB294_322.out _).trans (((cell_far (p := ⟨gb322, _, none⟩) NB294_322.out _).trans (((cell_far (p := ⟨gb322, _, none⟩) NB294_322.out _).trans (((cell_far (p := ⟨gb322, _, none⟩) NB294_322.out _).trans (((cell_far (p := ⟨gb322, _, none⟩) NB294_322.out _).trans (((cell_far (p := ⟨gb322, _, none⟩) NB294_322.out _).trans (((cell_far (p := ⟨gb322, _, none⟩) NB294_322.out _).trans (hHeld.2.2.1)))))))))))))), ((cell_far (p := ⟨gb322, _, none⟩) NB294_322.out _).trans (((cell_far (p := ⟨gb322, _, none⟩) NB294_322.out _).trans (((cell_far (p := ⟨gb322, _, none⟩) NB294_322.out _).trans (((cell_far (p := ⟨gb322, _, none⟩) NB294_322.out _).trans (((cell_far (p := ⟨gb322, _, none⟩) NB294_322.out _).trans (((cell_far (p := ⟨gb322, _, none⟩) NB294_322.out _).trans (((cell_far (p := ⟨gb322, _, none⟩) NB294_322.out _).trans (hHeld.2.2.2.1)))))))))))))), ((cell_far (p := ⟨gb322, _, none⟩) NB294_322.out _).trans (((cell_far (p := ⟨gb322, _, none⟩) NB294_322.out _).trans (((cell_far (p := ⟨gb322, _, none⟩) NB294_322.out _).trans (((cell_far (p := ⟨gb322, _, none⟩) NB294_322.out _).trans (((cell_far (p := ⟨gb322, _, none⟩) NB294_322.out _).trans (((cell_far (p := ⟨gb322, _, none⟩) NB294_322.out _).trans (((cell_far (p := ⟨gb322, _, none⟩) NB294_322.out _).trans (hHeld.2.2.2.2.1)))))))))))))), ((cell_far (p := ⟨gb322, _, none⟩) NB294_322.out _).trans (((cell_far (p := ⟨gb322, _, none⟩) NB294_322.out _).trans (((cell_far (p := ⟨gb322, _, none⟩) NB294_322.out _).trans (((cell_far (p := ⟨gb322, _, none⟩) NB294_322.out _).trans (((cell_far (p := ⟨gb322, _, none⟩) NB294_322.out _).trans (((cell_far (p := ⟨gb322, _, none⟩) NB294_322.out _).trans (((cell_far (p := ⟨gb322, _, none⟩) NB294_322.out _).trans (hHeld.2.2.2.2.2.1)))))))))))))), ((cell_far (p := ⟨gb322, _, none⟩) NB294_322.out _).trans (((cell_far (p := ⟨gb322, _, none⟩) NB294_322.out _).trans (((cell_far (p := ⟨gb322, _, none⟩) NB294_322.out _).trans (((cell_far (p := ⟨gb322, _, none⟩) NB294_322.out _).trans (((cell_far (p := ⟨gb322, _, none⟩) NB294_322.out _).trans (((cell_far (p := ⟨gb322, _, none⟩) NB294_322.out _).trans (((cell_far (p := ⟨gb322, _, none⟩) NB294_322.out _).trans (hHeld.2.2.2.2.2.2.1)))))))))))))), ((cell_far (p := ⟨gb322, _, none⟩) (by first | exact Kd.own_blk (Kd.R_ne HO_4.out BK322.out (by decide)) | (rw [add_block]; exact Kd.own_blk (Kd.R_ne HO_4.out BK322.out (by decide))) | (show (Addr.add _ _).block ≠ _; rw [add_block]; exact Kd.own_blk (Kd.R_ne HO_4.out BK322.out (by decide))) | (dsimp only; exact Kd.own_blk (Kd.R_ne HO_4.out BK322.out (by decide)))) _).trans (((cell_far (p := ⟨gb322, _, none⟩) (by first | exact Kd.own_blk (Kd.R_ne HO_4.out BK322.out (by decide)) | (rw [add_block]; exact Kd.own_blk (Kd.R_ne HO_4.out BK322.out (by decide))) | (show (Addr.add _ _).block ≠ _; rw [add_block]; exact Kd.own_blk (Kd.R_ne HO_4.out BK322.out (by decide))) | (dsimp only; exact Kd.own_blk (Kd.R_ne HO_4.out BK322.out (by decide)))) _).trans (((cell_far (p := ⟨gb322, _, none⟩) (by first | exact Kd.own_blk (Kd.R_ne HO_4.out BK322.out (by decide)) | (rw [add_block]; exact Kd.own_blk (Kd.R_ne HO_4.out BK322.out (by decide))) | (show (Addr.add _ _).block ≠ _; rw [add_block]; exact Kd.own_blk (Kd.R_ne HO_4.out BK322.out (by decide))) | (dsimp only; exact Kd.own_blk (Kd.R_ne HO_4.out BK322.out (by decide)))) _).trans (((cell_far (p := ⟨gb322, _, none⟩) (by first | exact Kd.own_blk (Kd.R_ne HO_4.out BK322.out (by decide)) | (rw [add_block]; exact Kd.own_blk (Kd.R_ne HO_4.out BK322.out (by decide))) | (show (Addr.add _ _).block ≠ _; rw [add_block]; exact Kd.own_blk (Kd.R_ne HO_4.out BK322.out (by decide))) | (dsimp only; exact Kd.own_blk (Kd.R_ne HO_4.out BK322.out (by decide)))) _).trans (((cell_far (p := ⟨gb322, _, none⟩) (by first | exact Kd.own_blk (Kd.R_ne HO_4.out BK322.out (by decide)) | (rw [add_block]; exact Kd.own_blk (Kd.R_ne HO_4.out BK322.out (by decide))) | (show (Addr.add _ _).block ≠ _; rw [add_block]; exact Kd.own_blk (Kd.R_ne HO_4.out BK322.out (by decide))) | (dsimp only; exact Kd.own_blk (Kd.R_ne HO_4.out BK322.out (by decide)))) _).trans (((cell_far (p := ⟨gb322, _, none⟩) (by first | exact Kd.own_blk (Kd.R_ne HO_4.out BK322.out (by decide)) | (rw [add_block]; exact Kd.own_blk (Kd.R_ne HO_4.out BK322.out (by decide))) | (show (Addr.add _ _).block ≠ _; rw [add_block]; exact Kd.own_blk (Kd.R_ne HO_4.out BK322.out (by decide))) | (dsimp only; exact Kd.own_blk (Kd.R_ne HO_4.out BK322.out (by decide)))) _).trans (((cell_far (p := ⟨gb322, _, none⟩) (by first | exact Kd.own_blk (Kd.R_ne HO_4.out BK322.out (by decide)) | (rw [add_block]; exact Kd.own_blk (Kd.R_ne HO_4.out BK322.out (by decide))) | (show (Addr.add _ _).block ≠ _; rw [add_block]; exact Kd.own_blk (Kd.R_ne HO_4.out BK322.out (by decide))) | (dsimp only; exact Kd.own_blk (Kd.R_ne HO_4.out BK322.out (by decide)))) _).trans (hHeld.2.2.2.2.2.2.2.1)))))))))))))), ((cell_far (p := ⟨gb322, _, none⟩) (by first | exact Kd.own_blk (Kd.R_ne HO_4.out BK322.out (by decide)) | (rw [add_block]; exact Kd.own_blk (Kd.R_ne HO_4.out BK322.out (by decide))) | (show (Addr.add _ _).block ≠ _; rw [add_block]; exact Kd.own_blk (Kd.R_ne HO_4.out BK322.out (by decide))) | (dsimp only; exact Kd.own_blk (Kd.R_ne HO_4.out BK322.out (by decide)))) _).trans (((cell_far (p := ⟨gb322, _, none⟩) (by first | exact Kd.own_blk (Kd.R_ne HO_4.out BK322.out (by decide)) | (rw [add_block]; exact Kd.own_blk (Kd.R_ne HO_4.out BK322.out (by decide))) | (show (Addr.add _ _).block ≠ _; rw [add_block]; exact Kd.own_blk (Kd.R_ne HO_4.out BK322.out (by decide))) | (dsimp only; exact Kd.own_blk (Kd.R_ne HO_4.out BK322.out (by decide)))) _).trans (((cell_far (p := ⟨gb322, _, none⟩) (by first | exact Kd.own_blk (Kd.R_ne HO_4.out BK322.out (by decide)) | (rw [add_block]; exact Kd.own_blk (Kd.R_ne HO_4.out BK322.out (by decide))) | (show (Addr.add _ _).block ≠ _; rw [add_block]; exact Kd.own_blk (Kd.R_ne HO_4.out BK322.out (by decide))) | (dsimp only; exact Kd.own_blk (Kd.R_ne HO_4.out BK322.out (by decide)))) _).trans (((cell_far (p := ⟨gb322, _, none⟩) (by first | exact Kd.own_blk (Kd.R_ne HO_4.out BK322.out (by decide)) | (rw [add_block]; exact Kd.own_blk (Kd.R_ne HO_4.out BK322.out (by decide))) | (show (Addr.add _ _).block ≠ _; rw [add_block]; exact Kd.own_blk (Kd.R_ne HO_4.out BK322.out (by decide))) | (dsimp only; exact Kd.own_blk (Kd.R_ne HO_4.out BK322.out (by decide)))) _).trans (((cell_far (p := ⟨gb322, _, none⟩) (by first | exact Kd.own_blk (Kd.R_ne HO_4.out BK322.out (by decide)) | (rw [add_block]; exact Kd.own_blk (Kd.R_ne HO_4.out BK322.out (by decide))) | (show (Addr.add _ _).block ≠ _; rw [add_block]; exact Kd.own_blk (Kd.R_ne HO_4.out BK322.out (by decide))) | (dsimp only; exact Kd.own_blk (Kd.R_ne HO_4.out BK322.out (by decide)))) _).trans (((cell_far (p := ⟨gb322, _, none⟩) (by first | exact Kd.own_blk (Kd.R_ne HO_4.out BK322.out (by decide)) | (rw [add_block]; exact Kd.own_blk (Kd.R_ne HO_4.out BK322.out (by decide))) | (show (Addr.add _ _).block ≠ _; rw [add_block]; exact Kd.own_blk (Kd.R_ne HO_4.out BK322.out (by decide))) | (dsimp only; exact Kd.own_blk (Kd.R_ne HO_4.out BK322.out (by decide)))) _).trans (((cell_far (p := ⟨gb322, _, none⟩) (by first | exact Kd.own_blk (Kd.R_ne HO_4.out BK322.out (by decide)) | (rw [add_block]; exact Kd.own_blk (Kd.R_ne HO_4.out BK322.out (by decide))) | (show (Addr.add _ _).block ≠ _; rw [add_block]; exact Kd.own_blk (Kd.R_ne HO_4.out BK322.out (by decide))) | (dsimp only; exact Kd.own_blk (Kd.R_ne HO_4.out BK322.out (by decide)))) _).trans (hHeld.2.2.2.2.2.2.2.2))))))))))))))⟩ (fun hHeld => ?_)
      clear hK K
      refine pure_ (i := 11) (N := some 7) (v := ?_) (a' := ?_) (bs 12 4095) rfl rfl (any_of HT_.out (by kernel_rfl)) (fun _ _ _ h => h) (Or.inl ⟨by rfl, ?_⟩) ?_ ?_
      rotate_left
      ·intro w'
       go_simp
       with_reducible rfl
      rotate_left
      ·simp only [Act.put, sA_, sZ_, sS_, i64_w, i32_w]
       rfl
      refine done_ (done_of HT_.out (by kernel_rfl)) ?_
      go_upto_region 8 with (fail)
      go_cut [55] (fun v55 wc => ∃ (kq : Nat) (x55_10 : Bool), v55 = .bool x55_10 ∧ Aside0 (laws_FnHoists.j1 kq t291 x5_1 x55_10 x295000_1 x295001_1 x295002_1 x295003_1 x295004_1 x295005_1 x295006_1 t314 t315 t316 t317 t318 t319 t320 = some r) ∧ Aside0 (kq ≤ k1) ∧ Aside0 (Kd.R k56 56 wc w.heap.size (fun _ => True) (.slice (some ad313) t291.length co12) t291) ∧ Aside0 (wc.heap[gb294]? = some (.cells #[.int .i64 x295000_1, .int .i64 x295001_1, .int .i64 x295002_1, .int .i64 x295003_1, .int .i64 x295004_1, .int .i64 x295005_1, .int .i64 x295006_1] 49 (0, 0))) ∧ Aside0 (wc.heap[gb322]? = some (.cells #[.int .i64 t314, .int .i64 t315, .int .i64 t316, .int .i64 t317, .int .i64 t318, .int .i64 t319, .int .i64 t320] 49 (0, 0))) ∧ Aside0 (Below w.heap.size w wc))
      case first =>
       have H := HC11.out
       clear HC11
       replace H := Option.bind_eq_some_iff.mp H
       obtain ⟨t323, A240, H⟩ := H
       replace H : (if t323 = true then (if t321 = true then (if t314 = 1 then (laws_FnHoists.j1 k1 t291 x5_1 (decide (t315 > t319)) x295000_1 x295001_1 x295002_1 x295003_1 x295004_1 x295005_1 x295006_1 t314 t315 t316 t317 t318 t319 t320) else (laws_FnHoists.j1 k1 t291 x5_1 false x295000_1 x295001_1 x295002_1 x295003_1 x295004_1 x295005_1 x295006_1 t314 t315 t316 t317 t318 t319 t320)) else (if (!(t314 == x295000_1) || (!(t315 == x295001_1) || (!(t316 == x295002_1) || (!(t317 == x295003_1) || (!(t318 == x295004_1) || (!(t319 == x295005_1) || (!(t320 == x295006_1)))))))) = true then (laws_FnHoists.j1 k1 t291 x5_1 true x295000_1 x295001_1 x295002_1 x295003_1 x295004_1 x295005_1 x295006_1 t314 t315 t316 t317 t318 t319 t320) else (if t314 = 1 then (laws_FnHoists.j1 k1 t291 x5_1 (decide (t315 > t319)) x295000_1 x295001_1 x295002_1 x295003_1 x295004_1 x295005_1 x295006_1 t314 t315 t316 t317 t318 t319 t320) else (laws_FnHoists.j1 k1 t291 x5_1 false x295000_1 x295001_1 x295002_1 x295003_1 x295004_1 x295005_1 x295006_1 t314 t315 t316 t317 t318 t319 t320)))) else (laws_FnHoists.j1 k1 t291 x5_1 true x295000_1 x295001_1 x295002_1 x295003_1 x295004_1 x295005_1 x295006_1 t314 t315 t316 t317 t318 t319 t320)) = some r := H
       have A24 := Aside0.mk A240
       clear A240
       by_cases c25 : t323 = true
       ·subst c25
        have H1 : (if t321 = true then (if t314 = 1 then (laws_FnHoists.j1 k1 t291 x5_1 (decide (t315 > t319)) x295000_1 x295001_1 x295002_1 x295003_1 x295004_1 x295005_1 x295006_1 t314 t315 t316 t317 t318 t319 t320) else (laws_FnHoists.j1 k1 t291 x5_1 false x295000_1 x295001_1 x295002_1 x295003_1 x295004_1 x295005_1 x295006_1 t314 t315 t316 t317 t318 t319 t320)) else (if (!(t314 == x295000_1) || (!(t315 == x295001_1) || (!(t316 == x295002_1) || (!(t317 == x295003_1) || (!(t318 == x295004_1) || (!(t319 == x295005_1) || (!(t320 == x295006_1)))))))) = true then (laws_FnHoists.j1 k1 t291 x5_1 true x295000_1 x295001_1 x295002_1 x295003_1 x295004_1 x295005_1 x295006_1 t314 t315 t316 t317 t318 t319 t320) else (if t314 = 1 then (laws_FnHoists.j1 k1 t291 x5_1 (decide (t315 > t319)) x295000_1 x295001_1 x295002_1 x295003_1 x295004_1 x295005_1 x295006_1 t314 t315 t316 t317 t318 t319 t320) else (laws_FnHoists.j1 k1 t291 x5_1 false x295000_1 x295001_1 x295002_1 x295003_1 x295004_1 x295005_1 x295006_1 t314 t315 t316 t317 t318 t319 t320)))) = some r := by rw [if_pos rfl] at H; exact H
        clear H
        have H := H1
        clear H1
        by_cases c26 : t321 = true
        ·subst c26
         have H1 : (if t314 = 1 then (laws_FnHoists.j1 k1 t291 x5_1 (decide (t315 > t319)) x295000_1 x295001_1 x295002_1 x295003_1 x295004_1 x295005_1 x295006_1 t314 t315 t316 t317 t318 t319 t320) else (laws_FnHoists.j1 k1 t291 x5_1 false x295000_1 x295001_1 x295002_1 x295003_1 x295004_1 x295005_1 x295006_1 t314 t315 t316 t317 t318 t319 t320)) = some r := by rw [if_pos rfl] at H; exact H
         clear H
         have H := H1
         clear H1
         by_cases c27 : t314 = 1
         ·rw [if_pos c27] at H
          have c27b0 : (t314 == 1) = true := beq_iff_eq.mpr c27
          have c27b1 : (t314 != 1) = false := bne_eq_false_iff_eq.mpr c27
          clear c27
          (first | rw [c27b0] | (simp only [i64_w, i32_w]; rw [c27b0]) | skip)
          have H' := Aside0.mk H
          clear H
          have hnb28 := NB322_294.out
          have hnc28 := NB294_322.out
          have hcz29_0 : w16.cell? ⟨gb322, 0, none⟩ = some (.int .i64 0) := (blk_cell BK322.out 0).trans rfl
          have hcz29_1 : w16.cell? ⟨gb322, 1, none⟩ = some (.int .i64 0) := (blk_cell BK322.out 1).trans rfl
          have hcz29_2 : w16.cell? ⟨gb322, 2, none⟩ = some (.int .i64 0) := (blk_cell BK322.out 2).trans rfl
          have hcz29_3 : w16.cell? ⟨gb322, 3, none⟩ = some (.int .i64 0) := (blk_cell BK322.out 3).trans rfl
          have hcz29_4 : w16.cell? ⟨gb322, 4, none⟩ = some (.int .i64 0) := (blk_cell BK322.out 4).trans rfl
          have hcz29_5 : w16.cell? ⟨gb322, 5, none⟩ = some (.int .i64 0) := (blk_cell BK322.out 5).trans rfl
          have hcz29_6 : w16.cell? ⟨gb322, 6, none⟩ = some (.int .i64 0) := (blk_cell BK322.out 6).trans rfl
          have hfz29_0 := blk_frozen BK322.out 0
          have hfz29_1 := blk_frozen BK322.out 1
          have hfz29_2 := blk_frozen BK322.out 2
          have hfz29_3 := blk_frozen BK322.out 3
          have hfz29_4 := blk_frozen BK322.out 4
          have hfz29_5 := blk_frozen BK322.out 5
          have hfz29_6 := blk_frozen BK322.out 6
          go_wp2_with (first | ((with_reducible refine gate_callee (f := 27) rfl ?_); refine goesL_ (some 33) rfl rfl Try.func27 (by kernel_rfl) rfl #[.agg #[.int .i64 t314, .int .i64 t315, .int .i64 t316, .int .i64 t317, .int .i64 t318, .int .i64 t319, .int .i64 t320]] rfl (by (try simp only [List.map_toArray, List.map_cons, List.map_nil]); first | done | rfl | (simp only [List.length_drop, List.length_take]; rfl)) ?_; (with_reducible refine (impl_HoistOk.calls t314 t315 t316 t317 t318 t319 t320 true _ A24.out).mono ?_); rintro e w30 ⟨rfl, hb⟩; refine ⟨_, rfl, ?_⟩; have n0_ := Aside0.mk (Kd.R_below (by (with_reducible repeat (first | apply Kd.R_alloc | apply Kd.R_drewN | apply Kd.R_drew)); exact (Kd.R_mono (Kd.R_far (p := ⟨gb322, 6, none⟩) (Kd.R_far (p := ⟨gb322, 5, none⟩) (Kd.R_far (p := ⟨gb322, 4, none⟩) (Kd.R_far (p := ⟨gb322, 3, none⟩) (Kd.R_far (p := ⟨gb322, 2, none⟩) (Kd.R_far (p := ⟨gb322, 1, none⟩) (Kd.R_far (p := ⟨gb322, 0, none⟩) (Kd.R_types HO_4.out BK322.out (by decide)) (fun _ hk => hk.2) (.int .i64 t314)) (fun _ hk => hk.2) (.int .i64 t315)) (fun _ hk => hk.2) (.int .i64 t316)) (fun _ hk => hk.2) (.int .i64 t317)) (fun _ hk => hk.2) (.int .i64 t318)) (fun _ hk => hk.2) (.int .i64 t319)) (fun _ hk => hk.2) (.int .i64 t320)) (fun _ h_ => h_.1))) hb); have n1_ := Aside0.mk (blk_below (g := gb294) (o := .cells #[.int .i64 x295000_1, .int .i64 x295001_1, .int .i64 x295002_1, .int .i64 x295003_1, .int .i64 x295004_1, .int .i64 x295005_1, .int .i64 x295006_1] 49 (0, 0)) (by (with_reducible repeat (first | refine blk_drewN ?_ _ | refine blk_drew ?_ | refine blk_alloc ?_ _)); refine blk_far ?_ NB294_322.out _; (with_reducible repeat (first | refine blk_drewN ?_ _ | refine blk_drew ?_ | refine blk_alloc ?_ _)); refine blk_far ?_ NB294_322.out _; (with_reducible repeat (first | refine blk_drewN ?_ _ | refine blk_drew ?_ | refine blk_alloc ?_ _)); refine blk_far ?_ NB294_322.out _; (with_reducible repeat (first | refine blk_drewN ?_ _ | refine blk_drew ?_ | refine blk_alloc ?_ _)); refine blk_far ?_ NB294_322.out _; (with_reducible repeat (first | refine blk_drewN ?_ _ | refine blk_drew ?_ | refine blk_alloc ?_ _)); refine blk_far ?_ NB294_322.out _; (with_reducible repeat (first | refine blk_drewN ?_ _ | refine blk_drew ?_ | refine blk_alloc ?_ _)); refine blk_far ?_ NB294_322.out _; (with_reducible repeat (first | refine blk_drewN ?_ _ | refine blk_drew ?_ | refine blk_alloc ?_ _)); refine blk_far ?_ NB294_322.out _; (with_reducible repeat (first | refine blk_drewN ?_ _ | refine blk_drew ?_ | refine blk_alloc ?_ _)); exact BK294.out) hb); have n2_ := Aside0.mk (blk_below (g := gb322) (o := .cells #[.int .i64 t314, .int .i64 t315, .int .i64 t316, .int .i64 t317, .int .i64 t318, .int .i64 t319, .int .i64 t320] 49 (0, 0)) (by (with_reducible repeat (first | refine blk_drewN ?_ _ | refine blk_drew ?_ | refine blk_alloc ?_ _)); refine blk_put (cs := #[.int .i64 t314, .int .i64 t315, .int .i64 t316, .int .i64 t317, .int .i64 t318, .int .i64 t319, .int .i64 0]) ?_ 6 _ rfl; (with_reducible repeat (first | refine blk_drewN ?_ _ | refine blk_drew ?_ | refine blk_alloc ?_ _)); refine blk_put (cs := #[.int .i64 t314, .int .i64 t315, .int .i64 t316, .int .i64 t317, .int .i64 t318, .int .i64 0, .int .i64 0]) ?_ 5 _ rfl; (with_reducible repeat (first | refine blk_drewN ?_ _ | refine blk_drew ?_ | refine blk_alloc ?_ _)); refine blk_put (cs := #[.int .i64 t314, .int .i64 t315, .int .i64 t316, .int .i64 t317, .int .i64 0, .int .i64 0, .int .i64 0]) ?_ 4 _ rfl; (with_reducible repeat (first | refine blk_drewN ?_ _ | refine blk_drew ?_ | refine blk_alloc ?_ _)); refine blk_put (cs := #[.int .i64 t314, .int .i64 t315, .int .i64 t316, .int .i64 0, .int .i64 0, .int .i64 0, .int .i64 0]) ?_ 3 _ rfl; (with_reducible repeat (first | refine blk_drewN ?_ _ | refine blk_drew ?_ | refine blk_alloc ?_ _)); refine blk_put (cs := #[.int .i64 t314, .int .i64 t315, .int .i64 0, .int .i64 0, .int .i64 0, .int .i64 0, .int .i64 0]) ?_ 2 _ rfl; (with_reducible repeat (first | refine blk_drewN ?_ _ | refine blk_drew ?_ | refine blk_alloc ?_ _)); refine blk_put (cs := #[.int .i64 t314, .int .i64 0, .int .i64 0, .int .i64 0, .int .i64 0, .int .i64 0, .int .i64 0]) ?_ 1 _ rfl; (with_reducible repeat (first | refine blk_drewN ?_ _ | refine blk_drew ?_ | refine blk_alloc ?_ _)); refine blk_put (cs := #[.int .i64 0, .int .i64 0, .int .i64 0, .int .i64 0, .int .i64 0, .int .i64 0, .int .i64 0]) ?_ 0 _ rfl; (with_reducible repeat (first | refine blk_drewN ?_ _ | refine blk_drew ?_ | refine blk_alloc ?_ _)); exact BK322.out) hb); have n3_ := Aside0.mk (below_step (bel_ HB.out) hb); clear HO_4; clear BK294; clear BK322; clear HB; have HO_4 := n0_; have BK294 := n1_; have BK322 := n2_; have HB := n3_; clear n0_ n1_ n2_ n3_; (try clear hb); (try clear hb2); (try clear hk); (try clear hi); have hcz31_0 : w30.cell? ⟨gb322, 0, none⟩ = some (.int .i64 t314) := (blk_cell BK322.out 0).trans rfl; have hcz31_1 : w30.cell? ⟨gb322, 1, none⟩ = some (.int .i64 t315) := (blk_cell BK322.out 1).trans rfl; have hcz31_2 : w30.cell? ⟨gb322, 2, none⟩ = some (.int .i64 t316) := (blk_cell BK322.out 2).trans rfl; have hcz31_3 : w30.cell? ⟨gb322, 3, none⟩ = some (.int .i64 t317) := (blk_cell BK322.out 3).trans rfl; have hcz31_4 : w30.cell? ⟨gb322, 4, none⟩ = some (.int .i64 t318) := (blk_cell BK322.out 4).trans rfl; have hcz31_5 : w30.cell? ⟨gb322, 5, none⟩ = some (.int .i64 t319) := (blk_cell BK322.out 5).trans rfl; have hcz31_6 : w30.cell? ⟨gb322, 6, none⟩ = some (.int .i64 t320) := (blk_cell BK322.out 6).trans rfl; have hfz31_0 := blk_frozen BK322.out 0; have hfz31_1 := blk_frozen BK322.out 1; have hfz31_2 := blk_frozen BK322.out 2; have hfz31_3 := blk_frozen BK322.out 3; have hfz31_4 := blk_frozen BK322.out 4; have hfz31_5 := blk_frozen BK322.out 5; have hfz31_6 := blk_frozen BK322.out 6))
          go_meet
          case rel => exact ⟨_, (decide (t315 > t319)), (by first | rfl | (simp; done) | (simp [*]; done) | (simp [wrap64]; done)), H', ⟨by have := HK1.out; first | omega | exact Nat.le_refl _⟩, ⟨by (with_reducible repeat (first | apply Kd.R_alloc | apply Kd.R_drewN | apply Kd.R_drew)); exact HO_4.out⟩, ⟨by (with_reducible repeat (first | refine blk_drewN ?_ _ | refine blk_drew ?_ | refine blk_alloc ?_ _)); exact BK294.out⟩, ⟨by (with_reducible repeat (first | refine blk_drewN ?_ _ | refine blk_drew ?_ | refine blk_alloc ?_ _)); exact BK322.out⟩, ⟨bel_ HB.out⟩⟩
         ·rw [if_neg c27] at H
          have c27b0 : (t314 == 1) = false := beq_eq_false_iff_ne.mpr c27
          have c27b1 : (t314 != 1) = true := bne_iff_ne.mpr c27
          (first | rw [c27b0] | (simp only [i64_w, i32_w]; rw [c27b0]) | skip)
          have H' := Aside0.mk H
          clear H
          have hnb32 := NB322_294.out
          have hnc32 := NB294_322.out
          have hcz33_0 : w16.cell? ⟨gb322, 0, none⟩ = some (.int .i64 0) := (blk_cell BK322.out 0).trans rfl
          have hcz33_1 : w16.cell? ⟨gb322, 1, none⟩ = some (.int .i64 0) := (blk_cell BK322.out 1).trans rfl
          have hcz33_2 : w16.cell? ⟨gb322, 2, none⟩ = some (.int .i64 0) := (blk_cell BK322.out 2).trans rfl
          have hcz33_3 : w16.cell? ⟨gb322, 3, none⟩ = some (.int .i64 0) := (blk_cell BK322.out 3).trans rfl
          have hcz33_4 : w16.cell? ⟨gb322, 4, none⟩ = some (.int .i64 0) := (blk_cell BK322.out 4).trans rfl
          have hcz33_5 : w16.cell? ⟨gb322, 5, none⟩ = some (.int .i64 0) := (blk_cell BK322.out 5).trans rfl
          have hcz33_6 : w16.cell? ⟨gb322, 6, none⟩ = some (.int .i64 0) := (blk_cell BK322.out 6).trans rfl
          have hfz33_0 := blk_frozen BK322.out 0
          have hfz33_1 := blk_frozen BK322.out 1
          have hfz33_2 := blk_frozen BK322.out 2
          have hfz33_3 := blk_frozen BK322.out 3
          have hfz33_4 := blk_frozen BK322.out 4
          have hfz33_5 := blk_frozen BK322.out 5
          have hfz33_6 := blk_frozen BK322.out 6
          go_wp2_with (first | ((with_reducible refine gate_callee (f := 27) rfl ?_); refine goesL_ (some 33) rfl rfl Try.func27 (by kernel_rfl) rfl #[.agg #[.int .i64 t314, .int .i64 t315, .int .i64 t316, .int .i64 t317, .int .i64 t318, .int .i64 t319, .int .i64 t320]] rfl (by (try simp only [List.map_toArray, List.map_cons, List.map_nil]); first | done | rfl | (simp only [List.length_drop, List.length_take]; rfl)) ?_; (with_reducible refine (impl_HoistOk.calls t314 t315 t316 t317 t318 t319 t320 true _ A24.out).mono ?_); rintro e w34 ⟨rfl, hb⟩; refine ⟨_, rfl, ?_⟩; have n0_ := Aside0.mk (Kd.R_below (by (with_reducible repeat (first | apply Kd.R_alloc | apply Kd.R_drewN | apply Kd.R_drew)); exact (Kd.R_mono (Kd.R_far (p := ⟨gb322, 6, none⟩) (Kd.R_far (p := ⟨gb322, 5, none⟩) (Kd.R_far (p := ⟨gb322, 4, none⟩) (Kd.R_far (p := ⟨gb322, 3, none⟩) (Kd.R_far (p := ⟨gb322, 2, none⟩) (Kd.R_far (p := ⟨gb322, 1, none⟩) (Kd.R_far (p := ⟨gb322, 0, none⟩) (Kd.R_types HO_4.out BK322.out (by decide)) (fun _ hk => hk.2) (.int .i64 t314)) (fun _ hk => hk.2) (.int .i64 t315)) (fun _ hk => hk.2) (.int .i64 t316)) (fun _ hk => hk.2) (.int .i64 t317)) (fun _ hk => hk.2) (.int .i64 t318)) (fun _ hk => hk.2) (.int .i64 t319)) (fun _ hk => hk.2) (.int .i64 t320)) (fun _ h_ => h_.1))) hb); have n1_ := Aside0.mk (blk_below (g := gb294) (o := .cells #[.int .i64 x295000_1, .int .i64 x295001_1, .int .i64 x295002_1, .int .i64 x295003_1, .int .i64 x295004_1, .int .i64 x295005_1, .int .i64 x295006_1] 49 (0, 0)) (by (with_reducible repeat (first | refine blk_drewN ?_ _ | refine blk_drew ?_ | refine blk_alloc ?_ _)); refine blk_far ?_ NB294_322.out _; (with_reducible repeat (first | refine blk_drewN ?_ _ | refine blk_drew ?_ | refine blk_alloc ?_ _)); refine blk_far ?_ NB294_322.out _; (with_reducible repeat (first | refine blk_drewN ?_ _ | refine blk_drew ?_ | refine blk_alloc ?_ _)); refine blk_far ?_ NB294_322.out _; (with_reducible repeat (first | refine blk_drewN ?_ _ | refine blk_drew ?_ | refine blk_alloc ?_ _)); refine blk_far ?_ NB294_322.out _; (with_reducible repeat (first | refine blk_drewN ?_ _ | refine blk_drew ?_ | refine blk_alloc ?_ _)); refine blk_far ?_ NB294_322.out _; (with_reducible repeat (first | refine blk_drewN ?_ _ | refine blk_drew ?_ | refine blk_alloc ?_ _)); refine blk_far ?_ NB294_322.out _; (with_reducible repeat (first | refine blk_drewN ?_ _ | refine blk_drew ?_ | refine blk_alloc ?_ _)); refine blk_far ?_ NB294_322.out _; (with_reducible repeat (first | refine blk_drewN ?_ _ | refine blk_drew ?_ | refine blk_alloc ?_ _)); exact BK294.out) hb); have n2_ := Aside0.mk (blk_below (g := gb322) (o := .cells #[.int .i64 t314, .int .i64 t315, .int .i64 t316, .int .i64 t317, .int .i64 t318, .int .i64 t319, .int .i64 t320] 49 (0, 0)) (by (with_reducible repeat (first | refine blk_drewN ?_ _ | refine blk_drew ?_ | refine blk_alloc ?_ _)); refine blk_put (cs := #[.int .i64 t314, .int .i64 t315, .int .i64 t316, .int .i64 t317, .int .i64 t318, .int .i64 t319, .int .i64 0]) ?_ 6 _ rfl; (with_reducible repeat (first | refine blk_drewN ?_ _ | refine blk_drew ?_ | refine blk_alloc ?_ _)); refine blk_put (cs := #[.int .i64 t314, .int .i64 t315, .int .i64 t316, .int .i64 t317, .int .i64 t318, .int .i64 0, .int .i64 0]) ?_ 5 _ rfl; (with_reducible repeat (first | refine blk_drewN ?_ _ | refine blk_drew ?_ | refine blk_alloc ?_ _)); refine blk_put (cs := #[.int .i64 t314, .int .i64 t315, .int .i64 t316, .int .i64 t317, .int .i64 0, .int .i64 0, .int .i64 0]) ?_ 4 _ rfl; (with_reducible repeat (first | refine blk_drewN ?_ _ | refine blk_drew ?_ | refine blk_alloc ?_ _)); refine blk_put (cs := #[.int .i64 t314, .int .i64 t315, .int .i64 t316, .int .i64 0, .int .i64 0, .int .i64 0, .int .i64 0]) ?_ 3 _ rfl; (with_reducible repeat (first | refine blk_drewN ?_ _ | refine blk_drew ?_ | refine blk_alloc ?_ _)); refine blk_put (cs := #[.int .i64 t314, .int .i64 t315, .int .i64 0, .int .i64 0, .int .i64 0, .int .i64 0, .int .i64 0]) ?_ 2 _ rfl; (with_reducible repeat (first | refine blk_drewN ?_ _ | refine blk_drew ?_ | refine blk_alloc ?_ _)); refine blk_put (cs := #[.int .i64 t314, .int .i64 0, .int .i64 0, .int .i64 0, .int .i64 0, .int .i64 0, .int .i64 0]) ?_ 1 _ rfl; (with_reducible repeat (first | refine blk_drewN ?_ _ | refine blk_drew ?_ | refine blk_alloc ?_ _)); refine blk_put (cs := #[.int .i64 0, .int .i64 0, .int .i64 0, .int .i64 0, .int .i64 0, .int .i64 0, .int .i64 0]) ?_ 0 _ rfl; (with_reducible repeat (first | refine blk_drewN ?_ _ | refine blk_drew ?_ | refine blk_alloc ?_ _)); exact BK322.out) hb); have n3_ := Aside0.mk (below_step (bel_ HB.out) hb); clear HO_4; clear BK294; clear BK322; clear HB; have HO_4 := n0_; have BK294 := n1_; have BK322 := n2_; have HB := n3_; clear n0_ n1_ n2_ n3_; (try clear hb); (try clear hb2); (try clear hk); (try clear hi); have hcz35_0 : w34.cell? ⟨gb322, 0, none⟩ = some (.int .i64 t314) := (blk_cell BK322.out 0).trans rfl; have hcz35_1 : w34.cell? ⟨gb322, 1, none⟩ = some (.int .i64 t315) := (blk_cell BK322.out 1).trans rfl; have hcz35_2 : w34.cell? ⟨gb322, 2, none⟩ = some (.int .i64 t316) := (blk_cell BK322.out 2).trans rfl; have hcz35_3 : w34.cell? ⟨gb322, 3, none⟩ = some (.int .i64 t317) := (blk_cell BK322.out 3).trans rfl; have hcz35_4 : w34.cell? ⟨gb322, 4, none⟩ = some (.int .i64 t318) := (blk_cell BK322.out 4).trans rfl; have hcz35_5 : w34.cell? ⟨gb322, 5, none⟩ = some (.int .i64 t319) := (blk_cell BK322.out 5).trans rfl; have hcz35_6 : w34.cell? ⟨gb322, 6, none⟩ = some (.int .i64 t320) := (blk_cell BK322.out 6).trans rfl; have hfz35_0 := blk_frozen BK322.out 0; have hfz35_1 := blk_frozen BK322.out 1; have hfz35_2 := blk_frozen BK322.out 2; have hfz35_3 := blk_frozen BK322.out 3; have hfz35_4 := blk_frozen BK322.out 4; have hfz35_5 := blk_frozen BK322.out 5; have hfz35_6 := blk_frozen BK322.out 6))
          go_meet
          case rel => exact ⟨_, (false), (by first | rfl | (simp; done) | (simp [*]; done) | (simp [wrap64]; done)), H', ⟨by have := HK1.out; first | omega | exact Nat.le_refl _⟩, ⟨by (with_reducible repeat (first | apply Kd.R_alloc | apply Kd.R_drewN | apply Kd.R_drew)); exact HO_4.out⟩, ⟨by (with_reducible repeat (first | refine blk_drewN ?_ _ | refine blk_drew ?_ | refine blk_alloc ?_ _)); exact BK294.out⟩, ⟨by (with_reducible repeat (first | refine blk_drewN ?_ _ | refine blk_drew ?_ | refine blk_alloc ?_ _)); exact BK322.out⟩, ⟨bel_ HB.out⟩⟩
        ·replace c26 := Bool.eq_false_iff.mpr c26
         subst c26
         have H1 : (if (!(t314 == x295000_1) || (!(t315 == x295001_1) || (!(t316 == x295002_1) || (!(t317 == x295003_1) || (!(t318 == x295004_1) || (!(t319 == x295005_1) || (!(t320 == x295006_1)))))))) = true then (laws_FnHoists.j1 k1 t291 x5_1 true x295000_1 x295001_1 x295002_1 x295003_1 x295004_1 x295005_1 x295006_1 t314 t315 t316 t317 t318 t319 t320) else (if t314 = 1 then (laws_FnHoists.j1 k1 t291 x5_1 (decide (t315 > t319)) x295000_1 x295001_1 x295002_1 x295003_1 x295004_1 x295005_1 x295006_1 t314 t315 t316 t317 t318 t319 t320) else (laws_FnHoists.j1 k1 t291 x5_1 false x295000_1 x295001_1 x295002_1 x295003_1 x295004_1 x295005_1 x295006_1 t314 t315 t316 t317 t318 t319 t320))) = some r := by rw [if_neg (show ¬ (false = true) by decide)] at H; exact H
         clear H
         have H := H1
         clear H1
         by_cases c36 : (!(t314 == x295000_1) || (!(t315 == x295001_1) || (!(t316 == x295002_1) || (!(t317 == x295003_1) || (!(t318 == x295004_1) || (!(t319 == x295005_1) || (!(t320 == x295006_1)))))))) = true
         ·rw [if_pos c36] at H
          have c36b0 : (!(t314 == x295000_1) || (!(t315 == x295001_1) || (!(t316 == x295002_1) || (!(t317 == x295003_1) || (!(t318 == x295004_1) || (!(t319 == x295005_1) || (!(t320 == x295006_1)))))))) = true := c36
          clear c36
          have H' := Aside0.mk H
          clear H
          have hnb37 := NB322_294.out
          have hnc37 := NB294_322.out
          have hcz38_0 : w16.cell? ⟨gb322, 0, none⟩ = some (.int .i64 0) := (blk_cell BK322.out 0).trans rfl
          have hcz38_1 : w16.cell? ⟨gb322, 1, none⟩ = some (.int .i64 0) := (blk_cell BK322.out 1).trans rfl
          have hcz38_2 : w16.cell? ⟨gb322, 2, none⟩ = some (.int .i64 0) := (blk_cell BK322.out 2).trans rfl
          have hcz38_3 : w16.cell? ⟨gb322, 3, none⟩ = some (.int .i64 0) := (blk_cell BK322.out 3).trans rfl
          have hcz38_4 : w16.cell? ⟨gb322, 4, none⟩ = some (.int .i64 0) := (blk_cell BK322.out 4).trans rfl
          have hcz38_5 : w16.cell? ⟨gb322, 5, none⟩ = some (.int .i64 0) := (blk_cell BK322.out 5).trans rfl
          have hcz38_6 : w16.cell? ⟨gb322, 6, none⟩ = some (.int .i64 0) := (blk_cell BK322.out 6).trans rfl
          have hfz38_0 := blk_frozen BK322.out 0
          have hfz38_1 := blk_frozen BK322.out 1
          have hfz38_2 := blk_frozen BK322.out 2
          have hfz38_3 := blk_frozen BK322.out 3
          have hfz38_4 := blk_frozen BK322.out 4
          have hfz38_5 := blk_frozen BK322.out 5
          have hfz38_6 := blk_frozen BK322.out 6
          go_wp2_with (first | ((with_reducible refine gate_callee (f := 27) rfl ?_); refine goesL_ (some 33) rfl rfl Try.func27 (by kernel_rfl) rfl #[.agg #[.int .i64 t314, .int .i64 t315, .int .i64 t316, .int .i64 t317, .int .i64 t318, .int .i64 t319, .int .i64 t320]] rfl (by (try simp only [List.map_toArray, List.map_cons, List.map_nil]); first | done | rfl | (simp only [List.length_drop, List.length_take]; rfl)) ?_; (with_reducible refine (impl_HoistOk.calls t314 t315 t316 t317 t318 t319 t320 true _ A24.out).mono ?_); rintro e w39 ⟨rfl, hb⟩; refine ⟨_, rfl, ?_⟩; have n0_ := Aside0.mk (Kd.R_below (by (with_reducible repeat (first | apply Kd.R_alloc | apply Kd.R_drewN | apply Kd.R_drew)); exact (Kd.R_mono (Kd.R_far (p := ⟨gb322, 6, none⟩) (Kd.R_far (p := ⟨gb322, 5, none⟩) (Kd.R_far (p := ⟨gb322, 4, none⟩) (Kd.R_far (p := ⟨gb322, 3, none⟩) (Kd.R_far (p := ⟨gb322, 2, none⟩) (Kd.R_far (p := ⟨gb322, 1, none⟩) (Kd.R_far (p := ⟨gb322, 0, none⟩) (Kd.R_types HO_4.out BK322.out (by decide)) (fun _ hk => hk.2) (.int .i64 t314)) (fun _ hk => hk.2) (.int .i64 t315)) (fun _ hk => hk.2) (.int .i64 t316)) (fun _ hk => hk.2) (.int .i64 t317)) (fun _ hk => hk.2) (.int .i64 t318)) (fun _ hk => hk.2) (.int .i64 t319)) (fun _ hk => hk.2) (.int .i64 t320)) (fun _ h_ => h_.1))) hb); have n1_ := Aside0.mk (blk_below (g := gb294) (o := .cells #[.int .i64 x295000_1, .int .i64 x295001_1, .int .i64 x295002_1, .int .i64 x295003_1, .int .i64 x295004_1, .int .i64 x295005_1, .int .i64 x295006_1] 49 (0, 0)) (by (with_reducible repeat (first | refine blk_drewN ?_ _ | refine blk_drew ?_ | refine blk_alloc ?_ _)); refine blk_far ?_ NB294_322.out _; (with_reducible repeat (first | refine blk_drewN ?_ _ | refine blk_drew ?_ | refine blk_alloc ?_ _)); refine blk_far ?_ NB294_322.out _; (with_reducible repeat (first | refine blk_drewN ?_ _ | refine blk_drew ?_ | refine blk_alloc ?_ _)); refine blk_far ?_ NB294_322.out _; (with_reducible repeat (first | refine blk_drewN ?_ _ | refine blk_drew ?_ | refine blk_alloc ?_ _)); refine blk_far ?_ NB294_322.out _; (with_reducible repeat (first | refine blk_drewN ?_ _ | refine blk_drew ?_ | refine blk_alloc ?_ _)); refine blk_far ?_ NB294_322.out _; (with_reducible repeat (first | refine blk_drewN ?_ _ | refine blk_drew ?_ | refine blk_alloc ?_ _)); refine blk_far ?_ NB294_322.out _; (with_reducible repeat (first | refine blk_drewN ?_ _ | refine blk_drew ?_ | refine blk_alloc ?_ _)); refine blk_far ?_ NB294_322.out _; (with_reducible repeat (first | refine blk_drewN ?_ _ | refine blk_drew ?_ | refine blk_alloc ?_ _)); exact BK294.out) hb); have n2_ := Aside0.mk (blk_below (g := gb322) (o := .cells #[.int .i64 t314, .int .i64 t315, .int .i64 t316, .int .i64 t317, .int .i64 t318, .int .i64 t319, .int .i64 t320] 49 (0, 0)) (by (with_reducible repeat (first | refine blk_drewN ?_ _ | refine blk_drew ?_ | refine blk_alloc ?_ _)); refine blk_put (cs := #[.int .i64 t314, .int .i64 t315, .int .i64 t316, .int .i64 t317, .int .i64 t318, .int .i64 t319, .int .i64 0]) ?_ 6 _ rfl; (with_reducible repeat (first | refine blk_drewN ?_ _ | refine blk_drew ?_ | refine blk_alloc ?_ _)); refine blk_put (cs := #[.int .i64 t314, .int .i64 t315, .int .i64 t316, .int .i64 t317, .int .i64 t318, .int .i64 0, .int .i64 0]) ?_ 5 _ rfl; (with_reducible repeat (first | refine blk_drewN ?_ _ | refine blk_drew ?_ | refine blk_alloc ?_ _)); refine blk_put (cs := #[.int .i64 t314, .int .i64 t315, .int .i64 t316, .int .i64 t317, .int .i64 0, .int .i64 0, .int .i64 0]) ?_ 4 _ rfl; (with_reducible repeat (first | refine blk_drewN ?_ _ | refine blk_drew ?_ | refine blk_alloc ?_ _)); refine blk_put (cs := #[.int .i64 t314, .int .i64 t315, .int .i64 t316, .int .i64 0, .int .i64 0, .int .i64 0, .int .i64 0]) ?_ 3 _ rfl; (with_reducible repeat (first | refine blk_drewN ?_ _ | refine blk_drew ?_ | refine blk_alloc ?_ _)); refine blk_put (cs := #[.int .i64 t314, .int .i64 t315, .int .i64 0, .int .i64 0, .int .i64 0, .int .i64 0, .int .i64 0]) ?_ 2 _ rfl; (with_reducible repeat (first | refine blk_drewN ?_ _ | refine blk_drew ?_ | refine blk_alloc ?_ _)); refine blk_put (cs := #[.int .i64 t314, .int .i64 0, .int .i64 0, .int .i64 0, .int .i64 0, .int .i64 0, .int .i64 0]) ?_ 1 _ rfl; (with_reducible repeat (first | refine blk_drewN ?_ _ | refine blk_drew ?_ | refine blk_alloc ?_ _)); refine blk_put (cs := #[.int .i64 0, .int .i64 0, .int .i64 0, .int .i64 0, .int .i64 0, .int .i64 0, .int .i64 0]) ?_ 0 _ rfl; (with_reducible repeat (first | refine blk_drewN ?_ _ | refine blk_drew ?_ | refine blk_alloc ?_ _)); exact BK322.out) hb); have n3_ := Aside0.mk (below_step (bel_ HB.out) hb); clear HO_4; clear BK294; clear BK322; clear HB; have HO_4 := n0_; have BK294 := n1_; have BK322 := n2_; have HB := n3_; clear n0_ n1_ n2_ n3_; (try clear hb); (try clear hb2); (try clear hk); (try clear hi); have hcz40_0 : w39.cell? ⟨gb322, 0, none⟩ = some (.int .i64 t314) := (blk_cell BK322.out 0).trans rfl; have hcz40_1 : w39.cell? ⟨gb322, 1, none⟩ = some (.int .i64 t315) := (blk_cell BK322.out 1).trans rfl; have hcz40_2 : w39.cell? ⟨gb322, 2, none⟩ = some (.int .i64 t316) := (blk_cell BK322.out 2).trans rfl; have hcz40_3 : w39.cell? ⟨gb322, 3, none⟩ = some (.int .i64 t317) := (blk_cell BK322.out 3).trans rfl; have hcz40_4 : w39.cell? ⟨gb322, 4, none⟩ = some (.int .i64 t318) := (blk_cell BK322.out 4).trans rfl; have hcz40_5 : w39.cell? ⟨gb322, 5, none⟩ = some (.int .i64 t319) := (blk_cell BK322.out 5).trans rfl; have hcz40_6 : w39.cell? ⟨gb322, 6, none⟩ = some (.int .i64 t320) := (blk_cell BK322.out 6).trans rfl; have hfz40_0 := blk_frozen BK322.out 0; have hfz40_1 := blk_frozen BK322.out 1; have hfz40_2 := blk_frozen BK322.out 2; have hfz40_3 := blk_frozen BK322.out 3; have hfz40_4 := blk_frozen BK322.out 4; have hfz40_5 := blk_frozen BK322.out 5; have hfz40_6 := blk_frozen BK322.out 6; have hcz41_0 : w39.cell? ⟨gb294, 0, none⟩ = some (.int .i64 x295000_1) := (blk_cell BK294.out 0).trans rfl; have hcz41_1 : w39.cell? ⟨gb294, 1, none⟩ = some (.int .i64 x295001_1) := (blk_cell BK294.out 1).trans rfl; have hcz41_2 : w39.cell? ⟨gb294, 2, none⟩ = some (.int .i64 x295002_1) := (blk_cell BK294.out 2).trans rfl; have hcz41_3 : w39.cell? ⟨gb294, 3, none⟩ = some (.int .i64 x295003_1) := (blk_cell BK294.out 3).trans rfl; have hcz41_4 : w39.cell? ⟨gb294, 4, none⟩ = some (.int .i64 x295004_1) := (blk_cell BK294.out 4).trans rfl; have hcz41_5 : w39.cell? ⟨gb294, 5, none⟩ = some (.int .i64 x295005_1) := (blk_cell BK294.out 5).trans rfl; have hcz41_6 : w39.cell? ⟨gb294, 6, none⟩ = some (.int .i64 x295006_1) := (blk_cell BK294.out 6).trans rfl; have hfz41_0 := blk_frozen BK294.out 0; have hfz41_1 := blk_frozen BK294.out 1; have hfz41_2 := blk_frozen BK294.out 2; have hfz41_3 := blk_frozen BK294.out 3; have hfz41_4 := blk_frozen BK294.out 4; have hfz41_5 := blk_frozen BK294.out 5; have hfz41_6 := blk_frozen BK294.out 6))
          go_meet
          case rel => exact ⟨_, (true), (by first | rfl | (simp; done) | (simp [*]; done) | (simp [wrap64]; done)), H', ⟨by have := HK1.out; first | omega | exact Nat.le_refl _⟩, ⟨by (with_reducible repeat (first | apply Kd.R_alloc | apply Kd.R_drewN | apply Kd.R_drew)); exact HO_4.out⟩, ⟨by (with_reducible repeat (first | refine blk_drewN ?_ _ | refine blk_drew ?_ | refine blk_alloc ?_ _)); exact BK294.out⟩, ⟨by (with_reducible repeat (first | refine blk_drewN ?_ _ | refine blk_drew ?_ | refine blk_alloc ?_ _)); exact BK322.out⟩, ⟨bel_ HB.out⟩⟩
         ·rw [if_neg c36] at H
          have c36b0 : (!(t314 == x295000_1) || (!(t315 == x295001_1) || (!(t316 == x295002_1) || (!(t317 == x295003_1) || (!(t318 == x295004_1) || (!(t319 == x295005_1) || (!(t320 == x295006_1)))))))) = false := by simpa using c36
          clear c36
          by_cases c42 : t314 = 1
          ·rw [if_pos c42] at H
           have c42b0 : (t314 == 1) = true := beq_iff_eq.mpr c42
           have c42b1 : (t314 != 1) = false := bne_eq_false_iff_eq.mpr c42
           clear c42
           have H' := Aside0.mk H
           clear H
           have hnb43 := NB322_294.out
           have hnc43 := NB294_322.out
           have hcz44_0 : w16.cell? ⟨gb322, 0, none⟩ = some (.int .i64 0) := (blk_cell BK322.out 0).trans rfl
           have hcz44_1 : w16.cell? ⟨gb322, 1, none⟩ = some (.int .i64 0) := (blk_cell BK322.out 1).trans rfl
           have hcz44_2 : w16.cell? ⟨gb322, 2, none⟩ = some (.int .i64 0) := (blk_cell BK322.out 2).trans rfl
           have hcz44_3 : w16.cell? ⟨gb322, 3, none⟩ = some (.int .i64 0) := (blk_cell BK322.out 3).trans rfl
           have hcz44_4 : w16.cell? ⟨gb322, 4, none⟩ = some (.int .i64 0) := (blk_cell BK322.out 4).trans rfl
           have hcz44_5 : w16.cell? ⟨gb322, 5, none⟩ = some (.int .i64 0) := (blk_cell BK322.out 5).trans rfl
           have hcz44_6 : w16.cell? ⟨gb322, 6, none⟩ = some (.int .i64 0) := (blk_cell BK322.out 6).trans rfl
           have hfz44_0 := blk_frozen BK322.out 0
           have hfz44_1 := blk_frozen BK322.out 1
           have hfz44_2 := blk_frozen BK322.out 2
           have hfz44_3 := blk_frozen BK322.out 3
           have hfz44_4 := blk_frozen BK322.out 4
           have hfz44_5 := blk_frozen BK322.out 5
           have hfz44_6 := blk_frozen BK322.out 6
           go_wp2_with (first | ((with_reducible refine gate_callee (f := 27) rfl ?_); refine goesL_ (some 33) rfl rfl Try.func27 (by kernel_rfl) rfl #[.agg #[.int .i64 t314, .int .i64 t315, .int .i64 t316, .int .i64 t317, .int .i64 t318, .int .i64 t319, .int .i64 t320]] rfl (by (try simp only [List.map_toArray, List.map_cons, List.map_nil]); first | done | rfl | (simp only [List.length_drop, List.length_take]; rfl)) ?_; (with_reducible refine (impl_HoistOk.calls t314 t315 t316 t317 t318 t319 t320 true _ A24.out).mono ?_); rintro e w45 ⟨rfl, hb⟩; refine ⟨_, rfl, ?_⟩; have n0_ := Aside0.mk (Kd.R_below (by (with_reducible repeat (first | apply Kd.R_alloc | apply Kd.R_drewN | apply Kd.R_drew)); exact (Kd.R_mono (Kd.R_far (p := ⟨gb322, 6, none⟩) (Kd.R_far (p := ⟨gb322, 5, none⟩) (Kd.R_far (p := ⟨gb322, 4, none⟩) (Kd.R_far (p := ⟨gb322, 3, none⟩) (Kd.R_far (p := ⟨gb322, 2, none⟩) (Kd.R_far (p := ⟨gb322, 1, none⟩) (Kd.R_far (p := ⟨gb322, 0, none⟩) (Kd.R_types HO_4.out BK322.out (by decide)) (fun _ hk => hk.2) (.int .i64 t314)) (fun _ hk => hk.2) (.int .i64 t315)) (fun _ hk => hk.2) (.int .i64 t316)) (fun _ hk => hk.2) (.int .i64 t317)) (fun _ hk => hk.2) (.int .i64 t318)) (fun _ hk => hk.2) (.int .i64 t319)) (fun _ hk => hk.2) (.int .i64 t320)) (fun _ h_ => h_.1))) hb); have n1_ := Aside0.mk (blk_below (g := gb294) (o := .cells #[.int .i64 x295000_1, .int .i64 x295001_1, .int .i64 x295002_1, .int .i64 x295003_1, .int .i64 x295004_1, .int .i64 x295005_1, .int .i64 x295006_1] 49 (0, 0)) (by (with_reducible repeat (first | refine blk_drewN ?_ _ | refine blk_drew ?_ | refine blk_alloc ?_ _)); refine blk_far ?_ NB294_322.out _; (with_reducible repeat (first | refine blk_drewN ?_ _ | refine blk_drew ?_ | refine blk_alloc ?_ _)); refine blk_far ?_ NB294_322.out _; (with_reducible repeat (first | refine blk_drewN ?_ _ | refine blk_drew ?_ | refine blk_alloc ?_ _)); refine blk_far ?_ NB294_322.out _; (with_reducible repeat (first | refine blk_drewN ?_ _ | refine blk_drew ?_ | refine blk_alloc ?_ _)); refine blk_far ?_ NB294_322.out _; (with_reducible repeat (first | refine blk_drewN ?_ _ | refine blk_drew ?_ | refine blk_alloc ?_ _)); refine blk_far ?_ NB294_322.out _; (with_reducible repeat (first | refine blk_drewN ?_ _ | refine blk_drew ?_ | refine blk_alloc ?_ _)); refine blk_far ?_ NB294_322.out _; (with_reducible repeat (first | refine blk_drewN ?_ _ | refine blk_drew ?_ | refine blk_alloc ?_ _)); refine blk_far ?_ NB294_322.out _; (with_reducible repeat (first | refine blk_drewN ?_ _ | refine blk_drew ?_ | refine blk_alloc ?_ _)); exact BK294.out) hb); have n2_ := Aside0.mk (blk_below (g := gb322) (o := .cells #[.int .i64 t314, .int .i64 t315, .int .i64 t316, .int .i64 t317, .int .i64 t318, .int .i64 t319, .int .i64 t320] 49 (0, 0)) (by (with_reducible repeat (first | refine blk_drewN ?_ _ | refine blk_drew ?_ | refine blk_alloc ?_ _)); refine blk_put (cs := #[.int .i64 t314, .int .i64 t315, .int .i64 t316, .int .i64 t317, .int .i64 t318, .int .i64 t319, .int .i64 0]) ?_ 6 _ rfl; (with_reducible repeat (first | refine blk_drewN ?_ _ | refine blk_drew ?_ | refine blk_alloc ?_ _)); refine blk_put (cs := #[.int .i64 t314, .int .i64 t315, .int .i64 t316, .int .i64 t317, .int .i64 t318, .int .i64 0, .int .i64 0]) ?_ 5 _ rfl; (with_reducible repeat (first | refine blk_drewN ?_ _ | refine blk_drew ?_ | refine blk_alloc ?_ _)); refine blk_put (cs := #[.int .i64 t314, .int .i64 t315, .int .i64 t316, .int .i64 t317, .int .i64 0, .int .i64 0, .int .i64 0]) ?_ 4 _ rfl; (with_reducible repeat (first | refine blk_drewN ?_ _ | refine blk_drew ?_ | refine blk_alloc ?_ _)); refine blk_put (cs := #[.int .i64 t314, .int .i64 t315, .int .i64 t316, .int .i64 0, .int .i64 0, .int .i64 0, .int .i64 0]) ?_ 3 _ rfl; (with_reducible repeat (first | refine blk_drewN ?_ _ | refine blk_drew ?_ | refine blk_alloc ?_ _)); refine blk_put (cs := #[.int .i64 t314, .int .i64 t315, .int .i64 0, .int .i64 0, .int .i64 0, .int .i64 0, .int .i64 0]) ?_ 2 _ rfl; (with_reducible repeat (first | refine blk_drewN ?_ _ | refine blk_drew ?_ | refine blk_alloc ?_ _)); refine blk_put (cs := #[.int .i64 t314, .int .i64 0, .int .i64 0, .int .i64 0, .int .i64 0, .int .i64 0, .int .i64 0]) ?_ 1 _ rfl; (with_reducible repeat (first | refine blk_drewN ?_ _ | refine blk_drew ?_ | refine blk_alloc ?_ _)); refine blk_put (cs := #[.int .i64 0, .int .i64 0, .int .i64 0, .int .i64 0, .int .i64 0, .int .i64 0, .int .i64 0]) ?_ 0 _ rfl; (with_reducible repeat (first | refine blk_drewN ?_ _ | refine blk_drew ?_ | refine blk_alloc ?_ _)); exact BK322.out) hb); have n3_ := Aside0.mk (below_step (bel_ HB.out) hb); clear HO_4; clear BK294; clear BK322; clear HB; have HO_4 := n0_; have BK294 := n1_; have BK322 := n2_; have HB := n3_; clear n0_ n1_ n2_ n3_; (try clear hb); (try clear hb2); (try clear hk); (try clear hi); have hcz46_0 : w45.cell? ⟨gb322, 0, none⟩ = some (.int .i64 t314) := (blk_cell BK322.out 0).trans rfl; have hcz46_1 : w45.cell? ⟨gb322, 1, none⟩ = some (.int .i64 t315) := (blk_cell BK322.out 1).trans rfl; have hcz46_2 : w45.cell? ⟨gb322, 2, none⟩ = some (.int .i64 t316) := (blk_cell BK322.out 2).trans rfl; have hcz46_3 : w45.cell? ⟨gb322, 3, none⟩ = some (.int .i64 t317) := (blk_cell BK322.out 3).trans rfl; have hcz46_4 : w45.cell? ⟨gb322, 4, none⟩ = some (.int .i64 t318) := (blk_cell BK322.out 4).trans rfl; have hcz46_5 : w45.cell? ⟨gb322, 5, none⟩ = some (.int .i64 t319) := (blk_cell BK322.out 5).trans rfl; have hcz46_6 : w45.cell? ⟨gb322, 6, none⟩ = some (.int .i64 t320) := (blk_cell BK322.out 6).trans rfl; have hfz46_0 := blk_frozen BK322.out 0; have hfz46_1 := blk_frozen BK322.out 1; have hfz46_2 := blk_frozen BK322.out 2; have hfz46_3 := blk_frozen BK322.out 3; have hfz46_4 := blk_frozen BK322.out 4; have hfz46_5 := blk_frozen BK322.out 5; have hfz46_6 := blk_frozen BK322.out 6; have hcz47_0 : w45.cell? ⟨gb294, 0, none⟩ = some (.int .i64 x295000_1) := (blk_cell BK294.out 0).trans rfl; have hcz47_1 : w45.cell? ⟨gb294, 1, none⟩ = some (.int .i64 x295001_1) := (blk_cell BK294.out 1).trans rfl; have hcz47_2 : w45.cell? ⟨gb294, 2, none⟩ = some (.int .i64 x295002_1) := (blk_cell BK294.out 2).trans rfl; have hcz47_3 : w45.cell? ⟨gb294, 3, none⟩ = some (.int .i64 x295003_1) := (blk_cell BK294.out 3).trans rfl; have hcz47_4 : w45.cell? ⟨gb294, 4, none⟩ = some (.int .i64 x295004_1) := (blk_cell BK294.out 4).trans rfl; have hcz47_5 : w45.cell? ⟨gb294, 5, none⟩ = some (.int .i64 x295005_1) := (blk_cell BK294.out 5).trans rfl; have hcz47_6 : w45.cell? ⟨gb294, 6, none⟩ = some (.int .i64 x295006_1) := (blk_cell BK294.out 6).trans rfl; have hfz47_0 := blk_frozen BK294.out 0; have hfz47_1 := blk_frozen BK294.out 1; have hfz47_2 := blk_frozen BK294.out 2; have hfz47_3 := blk_frozen BK294.out 3; have hfz47_4 := blk_frozen BK294.out 4; have hfz47_5 := blk_frozen BK294.out 5; have hfz47_6 := blk_frozen BK294.out 6))
           go_meet
           case rel => exact ⟨_, (decide (t315 > t319)), (by first | rfl | (simp; done) | (simp [*]; done) | (simp [wrap64]; done)), H', ⟨by have := HK1.out; first | omega | exact Nat.le_refl _⟩, ⟨by (with_reducible repeat (first | apply Kd.R_alloc | apply Kd.R_drewN | apply Kd.R_drew)); exact HO_4.out⟩, ⟨by (with_reducible repeat (first | refine blk_drewN ?_ _ | refine blk_drew ?_ | refine blk_alloc ?_ _)); exact BK294.out⟩, ⟨by (with_reducible repeat (first | refine blk_drewN ?_ _ | refine blk_drew ?_ | refine blk_alloc ?_ _)); exact BK322.out⟩, ⟨bel_ HB.out⟩⟩
          ·rw [if_neg c42] at H
           have c42b0 : (t314 == 1) = false := beq_eq_false_iff_ne.mpr c42
           have c42b1 : (t314 != 1) = true := bne_iff_ne.mpr c42
           have H' := Aside0.mk H
           clear H
           have hnb48 := NB322_294.out
           have hnc48 := NB294_322.out
           have hcz49_0 : w16.cell? ⟨gb322, 0, none⟩ = some (.int .i64 0) := (blk_cell BK322.out 0).trans rfl
           have hcz49_1 : w16.cell? ⟨gb322, 1, none⟩ = some (.int .i64 0) := (blk_cell BK322.out 1).trans rfl
           have hcz49_2 : w16.cell? ⟨gb322, 2, none⟩ = some (.int .i64 0) := (blk_cell BK322.out 2).trans rfl
           have hcz49_3 : w16.cell? ⟨gb322, 3, none⟩ = some (.int .i64 0) := (blk_cell BK322.out 3).trans rfl
           have hcz49_4 : w16.cell? ⟨gb322, 4, none⟩ = some (.int .i64 0) := (blk_cell BK322.out 4).trans rfl
           have hcz49_5 : w16.cell? ⟨gb322, 5, none⟩ = some (.int .i64 0) := (blk_cell BK322.out 5).trans rfl
           have hcz49_6 : w16.cell? ⟨gb322, 6, none⟩ = some (.int .i64 0) := (blk_cell BK322.out 6).trans rfl
           have hfz49_0 := blk_frozen BK322.out 0
           have hfz49_1 := blk_frozen BK322.out 1
           have hfz49_2 := blk_frozen BK322.out 2
           have hfz49_3 := blk_frozen BK322.out 3
           have hfz49_4 := blk_frozen BK322.out 4
           have hfz49_5 := blk_frozen BK322.out 5
           have hfz49_6 := blk_frozen BK322.out 6
           go_wp2_with (first | ((with_reducible refine gate_callee (f := 27) rfl ?_); refine goesL_ (some 33) rfl rfl Try.func27 (by kernel_rfl) rfl #[.agg #[.int .i64 t314, .int .i64 t315, .int .i64 t316, .int .i64 t317, .int .i64 t318, .int .i64 t319, .int .i64 t320]] rfl (by (try simp only [List.map_toArray, List.map_cons, List.map_nil]); first | done | rfl | (simp only [List.length_drop, List.length_take]; rfl)) ?_; (with_reducible refine (impl_HoistOk.calls t314 t315 t316 t317 t318 t319 t320 true _ A24.out).mono ?_); rintro e w50 ⟨rfl, hb⟩; refine ⟨_, rfl, ?_⟩; have n0_ := Aside0.mk (Kd.R_below (by (with_reducible repeat (first | apply Kd.R_alloc | apply Kd.R_drewN | apply Kd.R_drew)); exact (Kd.R_mono (Kd.R_far (p := ⟨gb322, 6, none⟩) (Kd.R_far (p := ⟨gb322, 5, none⟩) (Kd.R_far (p := ⟨gb322, 4, none⟩) (Kd.R_far (p := ⟨gb322, 3, none⟩) (Kd.R_far (p := ⟨gb322, 2, none⟩) (Kd.R_far (p := ⟨gb322, 1, none⟩) (Kd.R_far (p := ⟨gb322, 0, none⟩) (Kd.R_types HO_4.out BK322.out (by decide)) (fun _ hk => hk.2) (.int .i64 t314)) (fun _ hk => hk.2) (.int .i64 t315)) (fun _ hk => hk.2) (.int .i64 t316)) (fun _ hk => hk.2) (.int .i64 t317)) (fun _ hk => hk.2) (.int .i64 t318)) (fun _ hk => hk.2) (.int .i64 t319)) (fun _ hk => hk.2) (.int .i64 t320)) (fun _ h_ => h_.1))) hb); have n1_ := Aside0.mk (blk_below (g := gb294) (o := .cells #[.int .i64 x295000_1, .int .i64 x295001_1, .int .i64 x295002_1, .int .i64 x295003_1, .int .i64 x295004_1, .int .i64 x295005_1, .int .i64 x295006_1] 49 (0, 0)) (by (with_reducible repeat (first | refine blk_drewN ?_ _ | refine blk_drew ?_ | refine blk_alloc ?_ _)); refine blk_far ?_ NB294_322.out _; (with_reducible repeat (first | refine blk_drewN ?_ _ | refine blk_drew ?_ | refine blk_alloc ?_ _)); refine blk_far ?_ NB294_322.out _; (with_reducible repeat (first | refine blk_drewN ?_ _ | refine blk_drew ?_ | refine blk_alloc ?_ _)); refine blk_far ?_ NB294_322.out _; (with_reducible repeat (first | refine blk_drewN ?_ _ | refine blk_drew ?_ | refine blk_alloc ?_ _)); refine blk_far ?_ NB294_322.out _; (with_reducible repeat (first | refine blk_drewN ?_ _ | refine blk_drew ?_ | refine blk_alloc ?_ _)); refine blk_far ?_ NB294_322.out _; (with_reducible repeat (first | refine blk_drewN ?_ _ | refine blk_drew ?_ | refine blk_alloc ?_ _)); refine blk_far ?_ NB294_322.out _; (with_reducible repeat (first | refine blk_drewN ?_ _ | refine blk_drew ?_ | refine blk_alloc ?_ _)); refine blk_far ?_ NB294_322.out _; (with_reducible repeat (first | refine blk_drewN ?_ _ | refine blk_drew ?_ | refine blk_alloc ?_ _)); exact BK294.out) hb); have n2_ := Aside0.mk (blk_below (g := gb322) (o := .cells #[.int .i64 t314, .int .i64 t315, .int .i64 t316, .int .i64 t317, .int .i64 t318, .int .i64 t319, .int .i64 t320] 49 (0, 0)) (by (with_reducible repeat (first | refine blk_drewN ?_ _ | refine blk_drew ?_ | refine blk_alloc ?_ _)); refine blk_put (cs := #[.int .i64 t314, .int .i64 t315, .int .i64 t316, .int .i64 t317, .int .i64 t318, .int .i64 t319, .int .i64 0]) ?_ 6 _ rfl; (with_reducible repeat (first | refine blk_drewN ?_ _ | refine blk_drew ?_ | refine blk_alloc ?_ _)); refine blk_put (cs := #[.int .i64 t314, .int .i64 t315, .int .i64 t316, .int .i64 t317, .int .i64 t318, .int .i64 0, .int .i64 0]) ?_ 5 _ rfl; (with_reducible repeat (first | refine blk_drewN ?_ _ | refine blk_drew ?_ | refine blk_alloc ?_ _)); refine blk_put (cs := #[.int .i64 t314, .int .i64 t315, .int .i64 t316, .int .i64 t317, .int .i64 0, .int .i64 0, .int .i64 0]) ?_ 4 _ rfl; (with_reducible repeat (first | refine blk_drewN ?_ _ | refine blk_drew ?_ | refine blk_alloc ?_ _)); refine blk_put (cs := #[.int .i64 t314, .int .i64 t315, .int .i64 t316, .int .i64 0, .int .i64 0, .int .i64 0, .int .i64 0]) ?_ 3 _ rfl; (with_reducible repeat (first | refine blk_drewN ?_ _ | refine blk_drew ?_ | refine blk_alloc ?_ _)); refine blk_put (cs := #[.int .i64 t314, .int .i64 t315, .int .i64 0, .int .i64 0, .int .i64 0, .int .i64 0, .int .i64 0]) ?_ 2 _ rfl; (with_reducible repeat (first | refine blk_drewN ?_ _ | refine blk_drew ?_ | refine blk_alloc ?_ _)); refine blk_put (cs := #[.int .i64 t314, .int .i64 0, .int .i64 0, .int .i64 0, .int .i64 0, .int .i64 0, .int .i64 0]) ?_ 1 _ rfl; (with_reducible repeat (first | refine blk_drewN ?_ _ | refine blk_drew ?_ | refine blk_alloc ?_ _)); refine blk_put (cs := #[.int .i64 0, .int .i64 0, .int .i64 0, .int .i64 0, .int .i64 0, .int .i64 0, .int .i64 0]) ?_ 0 _ rfl; (with_reducible repeat (first | refine blk_drewN ?_ _ | refine blk_drew ?_ | refine blk_alloc ?_ _)); exact BK322.out) hb); have n3_ := Aside0.mk (below_step (bel_ HB.out) hb); clear HO_4; clear BK294; clear BK322; clear HB; have HO_4 := n0_; have BK294 := n1_; have BK322 := n2_; have HB := n3_; clear n0_ n1_ n2_ n3_; (try clear hb); (try clear hb2); (try clear hk); (try clear hi); have hcz51_0 : w50.cell? ⟨gb322, 0, none⟩ = some (.int .i64 t314) := (blk_cell BK322.out 0).trans rfl; have hcz51_1 : w50.cell? ⟨gb322, 1, none⟩ = some (.int .i64 t315) := (blk_cell BK322.out 1).trans rfl; have hcz51_2 : w50.cell? ⟨gb322, 2, none⟩ = some (.int .i64 t316) := (blk_cell BK322.out 2).trans rfl; have hcz51_3 : w50.cell? ⟨gb322, 3, none⟩ = some (.int .i64 t317) := (blk_cell BK322.out 3).trans rfl; have hcz51_4 : w50.cell? ⟨gb322, 4, none⟩ = some (.int .i64 t318) := (blk_cell BK322.out 4).trans rfl; have hcz51_5 : w50.cell? ⟨gb322, 5, none⟩ = some (.int .i64 t319) := (blk_cell BK322.out 5).trans rfl; have hcz51_6 : w50.cell? ⟨gb322, 6, none⟩ = some (.int .i64 t320) := (blk_cell BK322.out 6).trans rfl; have hfz51_0 := blk_frozen BK322.out 0; have hfz51_1 := blk_frozen BK322.out 1; have hfz51_2 := blk_frozen BK322.out 2; have hfz51_3 := blk_frozen BK322.out 3; have hfz51_4 := blk_frozen BK322.out 4; have hfz51_5 := blk_frozen BK322.out 5; have hfz51_6 := blk_frozen BK322.out 6; have hcz52_0 : w50.cell? ⟨gb294, 0, none⟩ = some (.int .i64 x295000_1) := (blk_cell BK294.out 0).trans rfl; have hcz52_1 : w50.cell? ⟨gb294, 1, none⟩ = some (.int .i64 x295001_1) := (blk_cell BK294.out 1).trans rfl; have hcz52_2 : w50.cell? ⟨gb294, 2, none⟩ = some (.int .i64 x295002_1) := (blk_cell BK294.out 2).trans rfl; have hcz52_3 : w50.cell? ⟨gb294, 3, none⟩ = some (.int .i64 x295003_1) := (blk_cell BK294.out 3).trans rfl; have hcz52_4 : w50.cell? ⟨gb294, 4, none⟩ = some (.int .i64 x295004_1) := (blk_cell BK294.out 4).trans rfl; have hcz52_5 : w50.cell? ⟨gb294, 5, none⟩ = some (.int .i64 x295005_1) := (blk_cell BK294.out 5).trans rfl; have hcz52_6 : w50.cell? ⟨gb294, 6, none⟩ = some (.int .i64 x295006_1) := (blk_cell BK294.out 6).trans rfl; have hfz52_0 := blk_frozen BK294.out 0; have hfz52_1 := blk_frozen BK294.out 1; have hfz52_2 := blk_frozen BK294.out 2; have hfz52_3 := blk_frozen BK294.out 3; have hfz52_4 := blk_frozen BK294.out 4; have hfz52_5 := blk_frozen BK294.out 5; have hfz52_6 := blk_frozen BK294.out 6))
           go_meet
           case rel => exact ⟨_, (false), (by first | rfl | (simp; done) | (simp [*]; done) | (simp [wrap64]; done)), H', ⟨by have := HK1.out; first | omega | exact Nat.le_refl _⟩, ⟨by (with_reducible repeat (first | apply Kd.R_alloc | apply Kd.R_drewN | apply Kd.R_drew)); exact HO_4.out⟩, ⟨by (with_reducible repeat (first | refine blk_drewN ?_ _ | refine blk_drew ?_ | refine blk_alloc ?_ _)); exact BK294.out⟩, ⟨by (with_reducible repeat (first | refine blk_drewN ?_ _ | refine blk_drew ?_ | refine blk_alloc ?_ _)); exact BK322.out⟩, ⟨bel_ HB.out⟩⟩
       ·replace c25 := Bool.eq_false_iff.mpr c25
        subst c25
        have H1 : (laws_FnHoists.j1 k1 t291 x5_1 true x295000_1 x295001_1 x295002_1 x295003_1 x295004_1 x295005_1 x295006_1 t314 t315 t316 t317 t318 t319 t320) = some r := by rw [if_neg (show ¬ (false = true) by decide)] at H; exact H
        clear H
        have H := H1
        clear H1
        have H' := Aside0.mk H
        clear H
        have hnb53 := NB322_294.out
        have hnc53 := NB294_322.out
        have hcz54_0 : w16.cell? ⟨gb322, 0, none⟩ = some (.int .i64 0) := (blk_cell BK322.out 0).trans rfl
        have hcz54_1 : w16.cell? ⟨gb322, 1, none⟩ = some (.int .i64 0) := (blk_cell BK322.out 1).trans rfl
        have hcz54_2 : w16.cell? ⟨gb322, 2, none⟩ = some (.int .i64 0) := (blk_cell BK322.out 2).trans rfl
        have hcz54_3 : w16.cell? ⟨gb322, 3, none⟩ = some (.int .i64 0) := (blk_cell BK322.out 3).trans rfl
        have hcz54_4 : w16.cell? ⟨gb322, 4, none⟩ = some (.int .i64 0) := (blk_cell BK322.out 4).trans rfl
        have hcz54_5 : w16.cell? ⟨gb322, 5, none⟩ = some (.int .i64 0) := (blk_cell BK322.out 5).trans rfl
        have hcz54_6 : w16.cell? ⟨gb322, 6, none⟩ = some (.int .i64 0) := (blk_cell BK322.out 6).trans rfl
        have hfz54_0 := blk_frozen BK322.out 0
        have hfz54_1 := blk_frozen BK322.out 1
        have hfz54_2 := blk_frozen BK322.out 2
        have hfz54_3 := blk_frozen BK322.out 3
        have hfz54_4 := blk_frozen BK322.out 4
        have hfz54_5 := blk_frozen BK322.out 5
        have hfz54_6 := blk_frozen BK322.out 6
        go_wp2_with (first | ((with_reducible refine gate_callee (f := 27) rfl ?_); refine goesL_ (some 33) rfl rfl Try.func27 (by kernel_rfl) rfl #[.agg #[.int .i64 t314, .int .i64 t315, .int .i64 t316, .int .i64 t317, .int .i64 t318, .int .i64 t319, .int .i64 t320]] rfl (by (try simp only [List.map_toArray, List.map_cons, List.map_nil]); first | done | rfl | (simp only [List.length_drop, List.length_take]; rfl)) ?_; (with_reducible refine (impl_HoistOk.calls t314 t315 t316 t317 t318 t319 t320 false _ A24.out).mono ?_); rintro e w55 ⟨rfl, hb⟩; refine ⟨_, rfl, ?_⟩; have n0_ := Aside0.mk (Kd.R_below (by (with_reducible repeat (first | apply Kd.R_alloc | apply Kd.R_drewN | apply Kd.R_drew)); exact (Kd.R_mono (Kd.R_far (p := ⟨gb322, 6, none⟩) (Kd.R_far (p := ⟨gb322, 5, none⟩) (Kd.R_far (p := ⟨gb322, 4, none⟩) (Kd.R_far (p := ⟨gb322, 3, none⟩) (Kd.R_far (p := ⟨gb322, 2, none⟩) (Kd.R_far (p := ⟨gb322, 1, none⟩) (Kd.R_far (p := ⟨gb322, 0, none⟩) (Kd.R_types HO_4.out BK322.out (by decide)) (fun _ hk => hk.2) (.int .i64 t314)) (fun _ hk => hk.2) (.int .i64 t315)) (fun _ hk => hk.2) (.int .i64 t316)) (fun _ hk => hk.2) (.int .i64 t317)) (fun _ hk => hk.2) (.int .i64 t318)) (fun _ hk => hk.2) (.int .i64 t319)) (fun _ hk => hk.2) (.int .i64 t320)) (fun _ h_ => h_.1))) hb); have n1_ := Aside0.mk (blk_below (g := gb294) (o := .cells #[.int .i64 x295000_1, .int .i64 x295001_1, .int .i64 x295002_1, .int .i64 x295003_1, .int .i64 x295004_1, .int .i64 x295005_1, .int .i64 x295006_1] 49 (0, 0)) (by (with_reducible repeat (first | refine blk_drewN ?_ _ | refine blk_drew ?_ | refine blk_alloc ?_ _)); refine blk_far ?_ NB294_322.out _; (with_reducible repeat (first | refine blk_drewN ?_ _ | refine blk_drew ?_ | refine blk_alloc ?_ _)); refine blk_far ?_ NB294_322.out _; (with_reducible repeat (first | refine blk_drewN ?_ _ | refine blk_drew ?_ | refine blk_alloc ?_ _)); refine blk_far ?_ NB294_322.out _; (with_reducible repeat (first | refine blk_drewN ?_ _ | refine blk_drew ?_ | refine blk_alloc ?_ _)); refine blk_far ?_ NB294_322.out _; (with_reducible repeat (first | refine blk_drewN ?_ _ | refine blk_drew ?_ | refine blk_alloc ?_ _)); refine blk_far ?_ NB294_322.out _; (with_reducible repeat (first | refine blk_drewN ?_ _ | refine blk_drew ?_ | refine blk_alloc ?_ _)); refine blk_far ?_ NB294_322.out _; (with_reducible repeat (first | refine blk_drewN ?_ _ | refine blk_drew ?_ | refine blk_alloc ?_ _)); refine blk_far ?_ NB294_322.out _; (with_reducible repeat (first | refine blk_drewN ?_ _ | refine blk_drew ?_ | refine blk_alloc ?_ _)); exact BK294.out) hb); have n2_ := Aside0.mk (blk_below (g := gb322) (o := .cells #[.int .i64 t314, .int .i64 t315, .int .i64 t316, .int .i64 t317, .int .i64 t318, .int .i64 t319, .int .i64 t320] 49 (0, 0)) (by (with_reducible repeat (first | refine blk_drewN ?_ _ | refine blk_drew ?_ | refine blk_alloc ?_ _)); refine blk_put (cs := #[.int .i64 t314, .int .i64 t315, .int .i64 t316, .int .i64 t317, .int .i64 t318, .int .i64 t319, .int .i64 0]) ?_ 6 _ rfl; (with_reducible repeat (first | refine blk_drewN ?_ _ | refine blk_drew ?_ | refine blk_alloc ?_ _)); refine blk_put (cs := #[.int .i64 t314, .int .i64 t315, .int .i64 t316, .int .i64 t317, .int .i64 t318, .int .i64 0, .int .i64 0]) ?_ 5 _ rfl; (with_reducible repeat (first | refine blk_drewN ?_ _ | refine blk_drew ?_ | refine blk_alloc ?_ _)); refine blk_put (cs := #[.int .i64 t314, .int .i64 t315, .int .i64 t316, .int .i64 t317, .int .i64 0, .int .i64 0, .int .i64 0]) ?_ 4 _ rfl; (with_reducible repeat (first | refine blk_drewN ?_ _ | refine blk_drew ?_ | refine blk_alloc ?_ _)); refine blk_put (cs := #[.int .i64 t314, .int .i64 t315, .int .i64 t316, .int .i64 0, .int .i64 0, .int .i64 0, .int .i64 0]) ?_ 3 _ rfl; (with_reducible repeat (first | refine blk_drewN ?_ _ | refine blk_drew ?_ | refine blk_alloc ?_ _)); refine blk_put (cs := #[.int .i64 t314, .int .i64 t315, .int .i64 0, .int .i64 0, .int .i64 0, .int .i64 0, .int .i64 0]) ?_ 2 _ rfl; (with_reducible repeat (first | refine blk_drewN ?_ _ | refine blk_drew ?_ | refine blk_alloc ?_ _)); refine blk_put (cs := #[.int .i64 t314, .int .i64 0, .int .i64 0, .int .i64 0, .int .i64 0, .int .i64 0, .int .i64 0]) ?_ 1 _ rfl; (with_reducible repeat (first | refine blk_drewN ?_ _ | refine blk_drew ?_ | refine blk_alloc ?_ _)); refine blk_put (cs := #[.int .i64 0, .int .i64 0, .int .i64 0, .int .i64 0, .int .i64 0, .int .i64 0, .int .i64 0]) ?_ 0 _ rfl; (with_reducible repeat (first | refine blk_drewN ?_ _ | refine blk_drew ?_ | refine blk_alloc ?_ _)); exact BK322.out) hb); have n3_ := Aside0.mk (below_step (bel_ HB.out) hb); clear HO_4; clear BK294; clear BK322; clear HB; have HO_4 := n0_; have BK294 := n1_; have BK322 := n2_; have HB := n3_; clear n0_ n1_ n2_ n3_; (try clear hb); (try clear hb2); (try clear hk); (try clear hi)))
        go_meet
        case rel => exact ⟨_, (true), (by first | rfl | (simp; done) | (simp [*]; done) | (simp [wrap64]; done)), H', ⟨by have := HK1.out; first | omega | exact Nat.le_refl _⟩, ⟨by (with_reducible repeat (first | apply Kd.R_alloc | apply Kd.R_drewN | apply Kd.R_drew)); exact HO_4.out⟩, ⟨by (with_reducible repeat (first | refine blk_drewN ?_ _ | refine blk_drew ?_ | refine blk_alloc ?_ _)); exact BK294.out⟩, ⟨by (with_reducible repeat (first | refine blk_drewN ?_ _ | refine blk_drew ?_ | refine blk_alloc ?_ _)); exact BK322.out⟩, ⟨bel_ HB.out⟩⟩
      case rest =>
       clear HC11
       try clear c3
       try clear c8
       try clear c8b0
       try clear c9
       try clear c9b0
       try clear hcz7_0
       try clear hcz7_1
       try clear hcz7_2
       try clear hcz7_3
       try clear hcz7_4
       try clear hcz7_5
       try clear hcz7_6
       try clear hfz7_0
       try clear hfz7_1
       try clear hfz7_2
       try clear hfz7_3
       try clear hfz7_4
       try clear hfz7_5
       try clear hfz7_6
       try clear hx313_0
       try clear hx313_1
       try clear p313
       try clear q313
       obtain ⟨kq, x55_10, rfl, HA, HJ10, HO_4, BK294, BK322, HB⟩ := hcut
       cases kq with
       | zero => exact absurd HA.out (by simp [laws_FnHoists.j1])
       | succ kj10 =>
        have H := HA.out
        clear HA
        simp only [laws_FnHoists.j1] at H
        by_cases c56 : x55_10 = true
        ·subst c56
         have H1 : (some false) = some r := by rw [if_pos rfl] at H; exact H
         clear H
         have H := H1
         clear H1
         obtain rfl := Option.some.inj H
         go_wp2
         go_ret
         exact ⟨by first | rfl | (simp [errW_none, errW_some] <;> rfl) | (simp [*, errW_none, errW_some] <;> rfl), bel_ HB.out⟩
        ·replace c56 := Bool.eq_false_iff.mpr c56
         subst c56
         have H1 : (if t316 = x295002_1 then (laws_FnHoists.j2 kj10 t291 x5_1 false x295000_1 x295001_1 x295002_1 x295003_1 x295004_1 x295005_1 x295006_1 t314 t315 t316 t317 t318 t319 t320) else (if 0 ≤ x5_1 then (if x5_1 < (t291.length : Int) then (if ((rd_T56 t291 x5_1).f0) = 7 then (if x295000_1 = 1 then (laws_FnHoists.j2 kj10 t291 x5_1 false x295000_1 x295001_1 x295002_1 x295003_1 x295004_1 x295005_1 x295006_1 t314 t315 t316 t317 t318 t319 t320) else (laws_FnHoists.j2 kj10 t291 x5_1 (x295000_1 != 2) x295000_1 x295001_1 x295002_1 x295003_1 x295004_1 x295005_1 x295006_1 t314 t315 t316 t317 t318 t319 t320)) else (laws_FnHoists.j2 kj10 t291 x5_1 true x295000_1 x295001_1 x295002_1 x295003_1 x295004_1 x295005_1 x295006_1 t314 t315 t316 t317 t318 t319 t320)) else (none)) else (none))) = some r := by rw [if_neg (show ¬ (false = true) by decide)] at H; exact H
         clear H
         have H := H1
         clear H1
         have HC57 := Aside0.mk H
         clear H
         go_upto_region 10 with (fail)
         go_cut [78] (fun v78 wc => ∃ (kq : Nat) (x78_56 : Bool), v78 = .bool x78_56 ∧ Aside0 (laws_FnHoists.j2 kq t291 x5_1 x78_56 x295000_1 x295001_1 x295002_1 x295003_1 x295004_1 x295005_1 x295006_1 t314 t315 t316 t317 t318 t319 t320 = some r) ∧ Aside0 (kq ≤ kj10) ∧ Aside0 (Kd.R k56 56 wc w.heap.size (fun _ => True) (.slice (some ad313) t291.length co12) t291) ∧ Aside0 (wc.heap[gb294]? = some (.cells #[.int .i64 x295000_1, .int .i64 x295001_1, .int .i64 x295002_1, .int .i64 x295003_1, .int .i64 x295004_1, .int .i64 x295005_1, .int .i64 x295006_1] 49 (0, 0))) ∧ Aside0 (wc.heap[gb322]? = some (.cells #[.int .i64 t314, .int .i64 t315, .int .i64 t316, .int .i64 t317, .int .i64 t318, .int .i64 t319, .int .i64 t320] 49 (0, 0))) ∧ Aside0 (Below w.heap.size w wc))
         case first =>
          have H := HC57.out
          clear HC57
          by_cases c58 : t316 = x295002_1
          ·rw [if_pos c58] at H
           have c58b0 : (t316 == x295002_1) = true := beq_iff_eq.mpr c58
           have c58b1 : (t316 != x295002_1) = false := bne_eq_false_iff_eq.mpr c58
           clear c58
           (first | rw [c58b0] | (simp only [i64_w, i32_w]; rw [c58b0]) | skip)
           have H' := Aside0.mk H
           clear H
           have hnb59 := NB322_294.out
           have hnc59 := NB294_322.out
           have hcz60_0 : wc.cell? ⟨gb322, 0, none⟩ = some (.int .i64 t314) := (blk_cell BK322.out 0).trans rfl
           have hcz60_1 : wc.cell? ⟨gb322, 1, none⟩ = some (.int .i64 t315) := (blk_cell BK322.out 1).trans rfl
           have hcz60_2 : wc.cell? ⟨gb322, 2, none⟩ = some (.int .i64 t316) := (blk_cell BK322.out 2).trans rfl
           have hcz60_3 : wc.cell? ⟨gb322, 3, none⟩ = some (.int .i64 t317) := (blk_cell BK322.out 3).trans rfl
           have hcz60_4 : wc.cell? ⟨gb322, 4, none⟩ = some (.int .i64 t318) := (blk_cell BK322.out 4).trans rfl
           have hcz60_5 : wc.cell? ⟨gb322, 5, none⟩ = some (.int .i64 t319) := (blk_cell BK322.out 5).trans rfl
           have hcz60_6 : wc.cell? ⟨gb322, 6, none⟩ = some (.int .i64 t320) := (blk_cell BK322.out 6).trans rfl
           have hfz60_0 := blk_frozen BK322.out 0
           have hfz60_1 := blk_frozen BK322.out 1
           have hfz60_2 := blk_frozen BK322.out 2
           have hfz60_3 := blk_frozen BK322.out 3
           have hfz60_4 := blk_frozen BK322.out 4
           have hfz60_5 := blk_frozen BK322.out 5
           have hfz60_6 := blk_frozen BK322.out 6
           have hcz61_0 : wc.cell? ⟨gb294, 0, none⟩ = some (.int .i64 x295000_1) := (blk_cell BK294.out 0).trans rfl
           have hcz61_1 : wc.cell? ⟨gb294, 1, none⟩ = some (.int .i64 x295001_1) := (blk_cell BK294.out 1).trans rfl
           have hcz61_2 : wc.cell? ⟨gb294, 2, none⟩ = some (.int .i64 x295002_1) := (blk_cell BK294.out 2).trans rfl
           have hcz61_3 : wc.cell? ⟨gb294, 3, none⟩ = some (.int .i64 x295003_1) := (blk_cell BK294.out 3).trans rfl
           have hcz61_4 : wc.cell? ⟨gb294, 4, none⟩ = some (.int .i64 x295004_1) := (blk_cell BK294.out 4).trans rfl
           have hcz61_5 : wc.cell? ⟨gb294, 5, none⟩ = some (.int .i64 x295005_1) := (blk_cell BK294.out 5).trans rfl
           have hcz61_6 : wc.cell? ⟨gb294, 6, none⟩ = some (.int .i64 x295006_1) := (blk_cell BK294.out 6).trans rfl
           have hfz61_0 := blk_frozen BK294.out 0
           have hfz61_1 := blk_frozen BK294.out 1
           have hfz61_2 := blk_frozen BK294.out 2
           have hfz61_3 := blk_frozen BK294.out 3
           have hfz61_4 := blk_frozen BK294.out 4
           have hfz61_5 := blk_frozen BK294.out 5
           have hfz61_6 := blk_frozen BK294.out 6
           go_wp2
           go_meet
           case rel => exact ⟨_, (false), (by first | rfl | (simp; done) | (simp [*]; done) | (simp [wrap64]; done)), H', ⟨by have := HK1.out; have := HJ10.out; first | omega | exact Nat.le_refl _⟩, ⟨by (with_reducible repeat (first | apply Kd.R_alloc | apply Kd.R_drewN | apply Kd.R_drew)); exact HO_4.out⟩, ⟨by (with_reducible repeat (first | refine blk_drewN ?_ _ | refine blk_drew ?_ | refine blk_alloc ?_ _)); exact BK294.out⟩, ⟨by (with_reducible repeat (first | refine blk_drewN ?_ _ | refine blk_drew ?_ | refine blk_alloc ?_ _)); exact BK322.out⟩, ⟨bel_ HB.out⟩⟩
          ·rw [if_neg c58] at H
           have c58b0 : (t316 == x295002_1) = false := beq_eq_false_iff_ne.mpr c58
           have c58b1 : (t316 != x295002_1) = true := bne_iff_ne.mpr c58
           (first | rw [c58b0] | (simp only [i64_w, i32_w]; rw [c58b0]) | skip)
           by_cases c62 : 0 ≤ x5_1
           ·rw [if_pos c62] at H
            have c62b0 : decide (0 ≤ x5_1) = true := decide_eq_true c62
            clear c62
            by_cases c63 : x5_1 < (t291.length : Int)
            ·rw [if_pos c63] at H
             have c63b0 : decide (x5_1 < (t291.length : Int)) = true := decide_eq_true c63
             clear c63
             by_cases c64 : ((rd_T56 t291 x5_1).f0) = 7
             ·rw [if_pos c64] at H
              have c64b0 : (((rd_T56 t291 x5_1).f0) == 7) = true := beq_iff_eq.mpr c64
              have c64b1 : (((rd_T56 t291 x5_1).f0) != 7) = false := bne_eq_false_iff_eq.mpr c64
              clear c64
              by_cases c65 : x295000_1 = 1
              ·rw [if_pos c65] at H
               have c65b0 : (x295000_1 == 1) = true := beq_iff_eq.mpr c65
               have c65b1 : (x295000_1 != 1) = false := bne_eq_false_iff_eq.mpr c65
               clear c65
               have H' := Aside0.mk H
               clear H
               have hnb66 := NB322_294.out
               have hnc66 := NB294_322.out
               have hcz67_0 : wc.cell? ⟨gb322, 0, none⟩ = some (.int .i64 t314) := (blk_cell BK322.out 0).trans rfl
               have hcz67_1 : wc.cell? ⟨gb322, 1, none⟩ = some (.int .i64 t315) := (blk_cell BK322.out 1).trans rfl
               have hcz67_2 : wc.cell? ⟨gb322, 2, none⟩ = some (.int .i64 t316) := (blk_cell BK322.out 2).trans rfl
               have hcz67_3 : wc.cell? ⟨gb322, 3, none⟩ = some (.int .i64 t317) := (blk_cell BK322.out 3).trans rfl
               have hcz67_4 : wc.cell? ⟨gb322, 4, none⟩ = some (.int .i64 t318) := (blk_cell BK322.out 4).trans rfl
               have hcz67_5 : wc.cell? ⟨gb322, 5, none⟩ = some (.int .i64 t319) := (blk_cell BK322.out 5).trans rfl
               have hcz67_6 : wc.cell? ⟨gb322, 6, none⟩ = some (.int .i64 t320) := (blk_cell BK322.out 6).trans rfl
               have hfz67_0 := blk_frozen BK322.out 0
               have hfz67_1 := blk_frozen BK322.out 1
               have hfz67_2 := blk_frozen BK322.out 2
               have hfz67_3 := blk_frozen BK322.out 3
               have hfz67_4 := blk_frozen BK322.out 4
               have hfz67_5 := blk_frozen BK322.out 5
               have hfz67_6 := blk_frozen BK322.out 6
               have hcz68_0 : wc.cell? ⟨gb294, 0, none⟩ = some (.int .i64 x295000_1) := (blk_cell BK294.out 0).trans rfl
               have hcz68_1 : wc.cell? ⟨gb294, 1, none⟩ = some (.int .i64 x295001_1) := (blk_cell BK294.out 1).trans rfl
               have hcz68_2 : wc.cell? ⟨gb294, 2, none⟩ = some (.int .i64 x295002_1) := (blk_cell BK294.out 2).trans rfl
               have hcz68_3 : wc.cell? ⟨gb294, 3, none⟩ = some (.int .i64 x295003_1) := (blk_cell BK294.out 3).trans rfl
               have hcz68_4 : wc.cell? ⟨gb294, 4, none⟩ = some (.int .i64 x295004_1) := (blk_cell BK294.out 4).trans rfl
               have hcz68_5 : wc.cell? ⟨gb294, 5, none⟩ = some (.int .i64 x295005_1) := (blk_cell BK294.out 5).trans rfl
               have hcz68_6 : wc.cell? ⟨gb294, 6, none⟩ = some (.int .i64 x295006_1) := (blk_cell BK294.out 6).trans rfl
               have hfz68_0 := blk_frozen BK294.out 0
               have hfz68_1 := blk_frozen BK294.out 1
               have hfz68_2 := blk_frozen BK294.out 2
               have hfz68_3 := blk_frozen BK294.out 3
               have hfz68_4 := blk_frozen BK294.out 4
               have hfz68_5 := blk_frozen BK294.out 5
               have hfz68_6 := blk_frozen BK294.out 6
               have p324 : 0 ≤ (x5_1 : Int) := of_decide_eq_true (by first | (with_reducible assumption) | assumption)
               have q324 : x5_1 < (t291.length : Int) := of_decide_eq_true (by first | (with_reducible assumption) | assumption)
               obtain ⟨ad324, e324, hx324_0, hx324_1⟩ := at_T56 (Kd.R_reads' HO_4.out).2.2 x5_1 p324 q324
               obtain rfl : ad313 = ad324 := (by injection e324)
               replace p324 := eq_true p324
               replace q324 := eq_true q324
               go_wp2
               go_meet
               case rel => exact ⟨_, (false), (by first | rfl | (simp; done) | (simp [*]; done) | (simp [wrap64]; done)), H', ⟨by have := HK1.out; have := HJ10.out; first | omega | exact Nat.le_refl _⟩, ⟨by (with_reducible repeat (first | apply Kd.R_alloc | apply Kd.R_drewN | apply Kd.R_drew)); exact HO_4.out⟩, ⟨by (with_reducible repeat (first | refine blk_drewN ?_ _ | refine blk_drew ?_ | refine blk_alloc ?_ _)); exact BK294.out⟩, ⟨by (with_reducible repeat (first | refine blk_drewN ?_ _ | refine blk_drew ?_ | refine blk_alloc ?_ _)); exact BK322.out⟩, ⟨bel_ HB.out⟩⟩
              ·rw [if_neg c65] at H
               have c65b0 : (x295000_1 == 1) = false := beq_eq_false_iff_ne.mpr c65
               have c65b1 : (x295000_1 != 1) = true := bne_iff_ne.mpr c65
               have H' := Aside0.mk H
               clear H
               have hnb69 := NB322_294.out
               have hnc69 := NB294_322.out
               have hcz70_0 : wc.cell? ⟨gb322, 0, none⟩ = some (.int .i64 t314) := (blk_cell BK322.out 0).trans rfl
               have hcz70_1 : wc.cell? ⟨gb322, 1, none⟩ = some (.int .i64 t315) := (blk_cell BK322.out 1).trans rfl
               have hcz70_2 : wc.cell? ⟨gb322, 2, none⟩ = some (.int .i64 t316) := (blk_cell BK322.out 2).trans rfl
               have hcz70_3 : wc.cell? ⟨gb322, 3, none⟩ = some (.int .i64 t317) := (blk_cell BK322.out 3).trans rfl
               have hcz70_4 : wc.cell? ⟨gb322, 4, none⟩ = some (.int .i64 t318) := (blk_cell BK322.out 4).trans rfl
               have hcz70_5 : wc.cell? ⟨gb322, 5, none⟩ = some (.int .i64 t319) := (blk_cell BK322.out 5).trans rfl
               have hcz70_6 : wc.cell? ⟨gb322, 6, none⟩ = some (.int .i64 t320) := (blk_cell BK322.out 6).trans rfl
               have hfz70_0 := blk_frozen BK322.out 0
               have hfz70_1 := blk_frozen BK322.out 1
               have hfz70_2 := blk_frozen BK322.out 2
               have hfz70_3 := blk_frozen BK322.out 3
               have hfz70_4 := blk_frozen BK322.out 4
               have hfz70_5 := blk_frozen BK322.out 5
               have hfz70_6 := blk_frozen BK322.out 6
               have hcz71_0 : wc.cell? ⟨gb294, 0, none⟩ = some (.int .i64 x295000_1) := (blk_cell BK294.out 0).trans rfl
               have hcz71_1 : wc.cell? ⟨gb294, 1, none⟩ = some (.int .i64 x295001_1) := (blk_cell BK294.out 1).trans rfl
               have hcz71_2 : wc.cell? ⟨gb294, 2, none⟩ = some (.int .i64 x295002_1) := (blk_cell BK294.out 2).trans rfl
               have hcz71_3 : wc.cell? ⟨gb294, 3, none⟩ = some (.int .i64 x295003_1) := (blk_cell BK294.out 3).trans rfl
               have hcz71_4 : wc.cell? ⟨gb294, 4, none⟩ = some (.int .i64 x295004_1) := (blk_cell BK294.out 4).trans rfl
               have hcz71_5 : wc.cell? ⟨gb294, 5, none⟩ = some (.int .i64 x295005_1) := (blk_cell BK294.out 5).trans rfl
               have hcz71_6 : wc.cell? ⟨gb294, 6, none⟩ = some (.int .i64 x295006_1) := (blk_cell BK294.out 6).trans rfl
               have hfz71_0 := blk_frozen BK294.out 0
               have hfz71_1 := blk_frozen BK294.out 1
               have hfz71_2 := blk_frozen BK294.out 2
               have hfz71_3 := blk_frozen BK294.out 3
               have hfz71_4 := blk_frozen BK294.out 4
               have hfz71_5 := blk_frozen BK294.out 5
               have hfz71_6 := blk_frozen BK294.out 6
               have p324 : 0 ≤ (x5_1 : Int) := of_decide_eq_true (by first | (with_reducible assumption) | assumption)
               have q324 : x5_1 < (t291.length : Int) := of_decide_eq_true (by first | (with_reducible assumption) | assumption)
               obtain ⟨ad324, e324, hx324_0, hx324_1⟩ := at_T56 (Kd.R_reads' HO_4.out).2.2 x5_1 p324 q324
               obtain rfl : ad313 = ad324 := (by injection e324)
               replace p324 := eq_true p324
               replace q324 := eq_true q324
               go_wp2
               go_meet
               case rel => exact ⟨_, ((x295000_1 != 2)), (by first | rfl | (simp; done) | (simp [*]; done) | (simp [wrap64]; done)), H', ⟨by have := HK1.out; have := HJ10.out; first | omega | exact Nat.le_refl _⟩, ⟨by (with_reducible repeat (first | apply Kd.R_alloc | apply Kd.R_drewN | apply Kd.R_drew)); exact HO_4.out⟩, ⟨by (with_reducible repeat (first | refine blk_drewN ?_ _ | refine blk_drew ?_ | refine blk_alloc ?_ _)); exact BK294.out⟩, ⟨by (with_reducible repeat (first | refine blk_drewN ?_ _ | refine blk_drew ?_ | refine blk_alloc ?_ _)); exact BK322.out⟩, ⟨bel_ HB.out⟩⟩
             ·rw [if_neg c64] at H
              have c64b0 : (((rd_T56 t291 x5_1).f0) == 7) = false := beq_eq_false_iff_ne.mpr c64
              have c64b1 : (((rd_T56 t291 x5_1).f0) != 7) = true := bne_iff_ne.mpr c64
              have H' := Aside0.mk H
              clear H
              have hnb72 := NB322_294.out
              have hnc72 := NB294_322.out
              have hcz73_0 : wc.cell? ⟨gb322, 0, none⟩ = some (.int .i64 t314) := (blk_cell BK322.out 0).trans rfl
              have hcz73_1 : wc.cell? ⟨gb322, 1, none⟩ = some (.int .i64 t315) := (blk_cell BK322.out 1).trans rfl
              have hcz73_2 : wc.cell? ⟨gb322, 2, none⟩ = some (.int .i64 t316) := (blk_cell BK322.out 2).trans rfl
              have hcz73_3 : wc.cell? ⟨gb322, 3, none⟩ = some (.int .i64 t317) := (blk_cell BK322.out 3).trans rfl
              have hcz73_4 : wc.cell? ⟨gb322, 4, none⟩ = some (.int .i64 t318) := (blk_cell BK322.out 4).trans rfl
              have hcz73_5 : wc.cell? ⟨gb322, 5, none⟩ = some (.int .i64 t319) := (blk_cell BK322.out 5).trans rfl
              have hcz73_6 : wc.cell? ⟨gb322, 6, none⟩ = some (.int .i64 t320) := (blk_cell BK322.out 6).trans rfl
              have hfz73_0 := blk_frozen BK322.out 0
              have hfz73_1 := blk_frozen BK322.out 1
              have hfz73_2 := blk_frozen BK322.out 2
              have hfz73_3 := blk_frozen BK322.out 3
              have hfz73_4 := blk_frozen BK322.out 4
              have hfz73_5 := blk_frozen BK322.out 5
              have hfz73_6 := blk_frozen BK322.out 6
              have hcz74_0 : wc.cell? ⟨gb294, 0, none⟩ = some (.int .i64 x295000_1) := (blk_cell BK294.out 0).trans rfl
              have hcz74_1 : wc.cell? ⟨gb294, 1, none⟩ = some (.int .i64 x295001_1) := (blk_cell BK294.out 1).trans rfl
              have hcz74_2 : wc.cell? ⟨gb294, 2, none⟩ = some (.int .i64 x295002_1) := (blk_cell BK294.out 2).trans rfl
              have hcz74_3 : wc.cell? ⟨gb294, 3, none⟩ = some (.int .i64 x295003_1) := (blk_cell BK294.out 3).trans rfl
              have hcz74_4 : wc.cell? ⟨gb294, 4, none⟩ = some (.int .i64 x295004_1) := (blk_cell BK294.out 4).trans rfl
              have hcz74_5 : wc.cell? ⟨gb294, 5, none⟩ = some (.int .i64 x295005_1) := (blk_cell BK294.out 5).trans rfl
              have hcz74_6 : wc.cell? ⟨gb294, 6, none⟩ = some (.int .i64 x295006_1) := (blk_cell BK294.out 6).trans rfl
              have hfz74_0 := blk_frozen BK294.out 0
              have hfz74_1 := blk_frozen BK294.out 1
              have hfz74_2 := blk_frozen BK294.out 2
              have hfz74_3 := blk_frozen BK294.out 3
              have hfz74_4 := blk_frozen BK294.out 4
              have hfz74_5 := blk_frozen BK294.out 5
              have hfz74_6 := blk_frozen BK294.out 6
              have p324 : 0 ≤ (x5_1 : Int) := of_decide_eq_true (by first | (with_reducible assumption) | assumption)
              have q324 : x5_1 < (t291.length : Int) := of_decide_eq_true (by first | (with_reducible assumption) | assumption)
              obtain ⟨ad324, e324, hx324_0, hx324_1⟩ := at_T56 (Kd.R_reads' HO_4.out).2.2 x5_1 p324 q324
              obtain rfl : ad313 = ad324 := (by injection e324)
              replace p324 := eq_true p324
              replace q324 := eq_true q324
              go_wp2
              go_meet
              case rel => exact ⟨_, (true), (by first | rfl | (simp; done) | (simp [*]; done) | (simp [wrap64]; done)), H', ⟨by have := HK1.out; have := HJ10.out; first | omega | exact Nat.le_refl _⟩, ⟨by (with_reducible repeat (first | apply Kd.R_alloc | apply Kd.R_drewN | apply Kd.R_drew)); exact HO_4.out⟩, ⟨by (with_reducible repeat (first | refine blk_drewN ?_ _ | refine blk_drew ?_ | refine blk_alloc ?_ _)); exact BK294.out⟩, ⟨by (with_reducible repeat (first | refine blk_drewN ?_ _ | refine blk_drew ?_ | refine blk_alloc ?_ _)); exact BK322.out⟩, ⟨bel_ HB.out⟩⟩
            ·rw [if_neg c63] at H
             exact absurd H (by simp)
           ·rw [if_neg c62] at H
            exact absurd H (by simp)
         case rest =>
          clear HC57
          try clear c3
          try clear c8
          try clear c8b0
          try clear c9
          try clear c9b0
          try clear c56
          try clear hcz7_0
          try clear hcz7_1
          try clear hcz7_2
          try clear hcz7_3
          try clear hcz7_4
          try clear hcz7_5
          try clear hcz7_6
          try clear hfz7_0
          try clear hfz7_1
          try clear hfz7_2
          try clear hfz7_3
          try clear hfz7_4
          try clear hfz7_5
          try clear hfz7_6
          try clear hx313_0
          try clear hx313_1
          try clear p313
          try clear q313
          obtain ⟨kq, x78_56, rfl, HA, HJ56, HO_4, BK294, BK322, HB⟩ := hcut
          cases kq with
          | zero => exact absurd HA.out (by simp [laws_FnHoists.j2])
          | succ kj56 =>
           have H := HA.out
           clear HA
           simp only [laws_FnHoists.j2] at H
           by_cases c75 : x78_56 = true
           ·subst c75
            have H1 : (some false) = some r := by rw [if_pos rfl] at H; exact H
            clear H
            have H := H1
            clear H1
            obtain rfl := Option.some.inj H
            go_wp2
            go_ret
            exact ⟨by first | rfl | (simp [errW_none, errW_some] <;> rfl) | (simp [*, errW_none, errW_some] <;> rfl), bel_ HB.out⟩
           ·replace c75 := Bool.eq_false_iff.mpr c75
            subst c75
            have H1 : (if x295000_1 = 3 then (if t314 = 3 then (laws_FnHoists.j3 kj56 t291 x5_1 false t314 t315 t316 t317 t318 t319 t320) else (if 0 ≤ x5_1 then (if x5_1 < (t291.length : Int) then (if ((rd_T56 t291 x5_1).f0) = 3 then (laws_FnHoists.j3 kj56 t291 x5_1 (x295006_1 != 1) t314 t315 t316 t317 t318 t319 t320) else (laws_FnHoists.j3 kj56 t291 x5_1 true t314 t315 t316 t317 t318 t319 t320)) else (none)) else (none))) else (laws_FnHoists.j3 kj56 t291 x5_1 false t314 t315 t316 t317 t318 t319 t320)) = some r := by rw [if_neg (show ¬ (false = true) by decide)] at H; exact H
            clear H
            have H := H1
            clear H1
            have HC76 := Aside0.mk H
            clear H
            go_upto_region 12 with (fail)
            go_cut [99] (fun v99 wc => ∃ (kq : Nat) (x99_75 : Bool), v99 = .bool x99_75 ∧ Aside0 (laws_FnHoists.j3 kq t291 x5_1 x99_75 t314 t315 t316 t317 t318 t319 t320 = some r) ∧ Aside0 (kq ≤ kj56) ∧ Aside0 (Kd.R k56 56 wc w.heap.size (fun _ => True) (.slice (some ad313) t291.length co12) t291) ∧ Aside0 (wc.heap[gb294]? = some (.cells #[.int .i64 x295000_1, .int .i64 x295001_1, .int .i64 x295002_1, .int .i64 x295003_1, .int .i64 x295004_1, .int .i64 x295005_1, .int .i64 x295006_1] 49 (0, 0))) ∧ Aside0 (wc.heap[gb322]? = some (.cells #[.int .i64 t314, .int .i64 t315, .int .i64 t316, .int .i64 t317, .int .i64 t318, .int .i64 t319, .int .i64 t320] 49 (0, 0))) ∧ Aside0 (Below w.heap.size w wc))
            case first =>
             have H := HC76.out
             clear HC76
             by_cases c77 : x295000_1 = 3
             ·rw [if_pos c77] at H
              have c77b0 : (x295000_1 == 3) = true := beq_iff_eq.mpr c77
              have c77b1 : (x295000_1 != 3) = false := bne_eq_false_iff_eq.mpr c77
              clear c77
              (first | rw [c77b0] | (simp only [i64_w, i32_w]; rw [c77b0]) | skip)
              by_cases c78 : t314 = 3
              ·rw [if_pos c78] at H
               have c78b0 : (t314 == 3) = true := beq_iff_eq.mpr c78
               have c78b1 : (t314 != 3) = false := bne_eq_false_iff_eq.mpr c78
               clear c78
               have H' := Aside0.mk H
               clear H
               have hnb79 := NB294_322.out
               have hnc79 := NB322_294.out
               have hcz80_0 : wc.cell? ⟨gb294, 0, none⟩ = some (.int .i64 x295000_1) := (blk_cell BK294.out 0).trans rfl
               have hcz80_1 : wc.cell? ⟨gb294, 1, none⟩ = some (.int .i64 x295001_1) := (blk_cell BK294.out 1).trans rfl
               have hcz80_2 : wc.cell? ⟨gb294, 2, none⟩ = some (.int .i64 x295002_1) := (blk_cell BK294.out 2).trans rfl
               have hcz80_3 : wc.cell? ⟨gb294, 3, none⟩ = some (.int .i64 x295003_1) := (blk_cell BK294.out 3).trans rfl
               have hcz80_4 : wc.cell? ⟨gb294, 4, none⟩ = some (.int .i64 x295004_1) := (blk_cell BK294.out 4).trans rfl
               have hcz80_5 : wc.cell? ⟨gb294, 5, none⟩ = some (.int .i64 x295005_1) := (blk_cell BK294.out 5).trans rfl
               have hcz80_6 : wc.cell? ⟨gb294, 6, none⟩ = some (.int .i64 x295006_1) := (blk_cell BK294.out 6).trans rfl
               have hfz80_0 := blk_frozen BK294.out 0
               have hfz80_1 := blk_frozen BK294.out 1
               have hfz80_2 := blk_frozen BK294.out 2
               have hfz80_3 := blk_frozen BK294.out 3
               have hfz80_4 := blk_frozen BK294.out 4
               have hfz80_5 := blk_frozen BK294.out 5
               have hfz80_6 := blk_frozen BK294.out 6
               have hcz81_0 : wc.cell? ⟨gb322, 0, none⟩ = some (.int .i64 t314) := (blk_cell BK322.out 0).trans rfl
               have hcz81_1 : wc.cell? ⟨gb322, 1, none⟩ = some (.int .i64 t315) := (blk_cell BK322.out 1).trans rfl
               have hcz81_2 : wc.cell? ⟨gb322, 2, none⟩ = some (.int .i64 t316) := (blk_cell BK322.out 2).trans rfl
               have hcz81_3 : wc.cell? ⟨gb322, 3, none⟩ = some (.int .i64 t317) := (blk_cell BK322.out 3).trans rfl
               have hcz81_4 : wc.cell? ⟨gb322, 4, none⟩ = some (.int .i64 t318) := (blk_cell BK322.out 4).trans rfl
               have hcz81_5 : wc.cell? ⟨gb322, 5, none⟩ = some (.int .i64 t319) := (blk_cell BK322.out 5).trans rfl
               have hcz81_6 : wc.cell? ⟨gb322, 6, none⟩ = some (.int .i64 t320) := (blk_cell BK322.out 6).trans rfl
               have hfz81_0 := blk_frozen BK322.out 0
               have hfz81_1 := blk_frozen BK322.out 1
               have hfz81_2 := blk_frozen BK322.out 2
               have hfz81_3 := blk_frozen BK322.out 3
               have hfz81_4 := blk_frozen BK322.out 4
               have hfz81_5 := blk_frozen BK322.out 5
               have hfz81_6 := blk_frozen BK322.out 6
               go_wp2
               go_meet
               case rel => exact ⟨_, (false), (by first | rfl | (simp; done) | (simp [*]; done) | (simp [wrap64]; done)), H', ⟨by have := HK1.out; have := HJ10.out; have := HJ56.out; first | omega | exact Nat.le_refl _⟩, ⟨by (with_reducible repeat (first | apply Kd.R_alloc | apply Kd.R_drewN | apply Kd.R_drew)); exact HO_4.out⟩, ⟨by (with_reducible repeat (first | refine blk_drewN ?_ _ | refine blk_drew ?_ | refine blk_alloc ?_ _)); exact BK294.out⟩, ⟨by (with_reducible repeat (first | refine blk_drewN ?_ _ | refine blk_drew ?_ | refine blk_alloc ?_ _)); exact BK322.out⟩, ⟨bel_ HB.out⟩⟩
              ·rw [if_neg c78] at H
               have c78b0 : (t314 == 3) = false := beq_eq_false_iff_ne.mpr c78
               have c78b1 : (t314 != 3) = true := bne_iff_ne.mpr c78
               by_cases c82 : 0 ≤ x5_1
               ·rw [if_pos c82] at H
                have c82b0 : decide (0 ≤ x5_1) = true := decide_eq_true c82
                clear c82
                by_cases c83 : x5_1 < (t291.length : Int)
                ·rw [if_pos c83] at H
                 have c83b0 : decide (x5_1 < (t291.length : Int)) = true := decide_eq_true c83
                 clear c83
                 by_cases c84 : ((rd_T56 t291 x5_1).f0) = 3
                 ·rw [if_pos c84] at H
                  have c84b0 : (((rd_T56 t291 x5_1).f0) == 3) = true := beq_iff_eq.mpr c84
                  have c84b1 : (((rd_T56 t291 x5_1).f0) != 3) = false := bne_eq_false_iff_eq.mpr c84
                  clear c84
                  have H' := Aside0.mk H
                  clear H
                  have hnb85 := NB294_322.out
                  have hnc85 := NB322_294.out
                  have hcz86_0 : wc.cell? ⟨gb294, 0, none⟩ = some (.int .i64 x295000_1) := (blk_cell BK294.out 0).trans rfl
                  have hcz86_1 : wc.cell? ⟨gb294, 1, none⟩ = some (.int .i64 x295001_1) := (blk_cell BK294.out 1).trans rfl
                  have hcz86_2 : wc.cell? ⟨gb294, 2, none⟩ = some (.int .i64 x295002_1) := (blk_cell BK294.out 2).trans rfl
                  have hcz86_3 : wc.cell? ⟨gb294, 3, none⟩ = some (.int .i64 x295003_1) := (blk_cell BK294.out 3).trans rfl
                  have hcz86_4 : wc.cell? ⟨gb294, 4, none⟩ = some (.int .i64 x295004_1) := (blk_cell BK294.out 4).trans rfl
                  have hcz86_5 : wc.cell? ⟨gb294, 5, none⟩ = some (.int .i64 x295005_1) := (blk_cell BK294.out 5).trans rfl
                  have hcz86_6 : wc.cell? ⟨gb294, 6, none⟩ = some (.int .i64 x295006_1) := (blk_cell BK294.out 6).trans rfl
                  have hfz86_0 := blk_frozen BK294.out 0
                  have hfz86_1 := blk_frozen BK294.out 1
                  have hfz86_2 := blk_frozen BK294.out 2
                  have hfz86_3 := blk_frozen BK294.out 3
                  have hfz86_4 := blk_frozen BK294.out 4
                  have hfz86_5 := blk_frozen BK294.out 5
                  have hfz86_6 := blk_frozen BK294.out 6
                  have hcz87_0 : wc.cell? ⟨gb322, 0, none⟩ = some (.int .i64 t314) := (blk_cell BK322.out 0).trans rfl
                  have hcz87_1 : wc.cell? ⟨gb322, 1, none⟩ = some (.int .i64 t315) := (blk_cell BK322.out 1).trans rfl
                  have hcz87_2 : wc.cell? ⟨gb322, 2, none⟩ = some (.int .i64 t316) := (blk_cell BK322.out 2).trans rfl
                  have hcz87_3 : wc.cell? ⟨gb322, 3, none⟩ = some (.int .i64 t317) := (blk_cell BK322.out 3).trans rfl
                  have hcz87_4 : wc.cell? ⟨gb322, 4, none⟩ = some (.int .i64 t318) := (blk_cell BK322.out 4).trans rfl
                  have hcz87_5 : wc.cell? ⟨gb322, 5, none⟩ = some (.int .i64 t319) := (blk_cell BK322.out 5).trans rfl
                  have hcz87_6 : wc.cell? ⟨gb322, 6, none⟩ = some (.int .i64 t320) := (blk_cell BK322.out 6).trans rfl
                  have hfz87_0 := blk_frozen BK322.out 0
                  have hfz87_1 := blk_frozen BK322.out 1
                  have hfz87_2 := blk_frozen BK322.out 2
                  have hfz87_3 := blk_frozen BK322.out 3
                  have hfz87_4 := blk_frozen BK322.out 4
                  have hfz87_5 := blk_frozen BK322.out 5
                  have hfz87_6 := blk_frozen BK322.out 6
                  have p325 : 0 ≤ (x5_1 : Int) := of_decide_eq_true (by first | (with_reducible assumption) | assumption)
                  have q325 : x5_1 < (t291.length : Int) := of_decide_eq_true (by first | (with_reducible assumption) | assumption)
                  obtain ⟨ad325, e325, hx325_0, hx325_1⟩ := at_T56 (Kd.R_reads' HO_4.out).2.2 x5_1 p325 q325
                  obtain rfl : ad313 = ad325 := (by injection e325)
                  replace p325 := eq_true p325
                  replace q325 := eq_true q325
                  go_wp2
                  go_meet
                  case rel => exact ⟨_, ((x295006_1 != 1)), (by first | rfl | (simp; done) | (simp [*]; done) | (simp [wrap64]; done)), H', ⟨by have := HK1.out; have := HJ10.out; have := HJ56.out; first | omega | exact Nat.le_refl _⟩, ⟨by (with_reducible repeat (first | apply Kd.R_alloc | apply Kd.R_drewN | apply Kd.R_drew)); exact HO_4.out⟩, ⟨by (with_reducible repeat (first | refine blk_drewN ?_ _ | refine blk_drew ?_ | refine blk_alloc ?_ _)); exact BK294.out⟩, ⟨by (with_reducible repeat (first | refine blk_drewN ?_ _ | refine blk_drew ?_ | refine blk_alloc ?_ _)); exact BK322.out⟩, ⟨bel_ HB.out⟩⟩
                 ·rw [if_neg c84] at H
                  have c84b0 : (((rd_T56 t291 x5_1).f0) == 3) = false := beq_eq_false_iff_ne.mpr c84
                  have c84b1 : (((rd_T56 t291 x5_1).f0) != 3) = true := bne_iff_ne.mpr c84
                  have H' := Aside0.mk H
                  clear H
                  have hnb88 := NB294_322.out
                  have hnc88 := NB322_294.out
                  have hcz89_0 : wc.cell? ⟨gb294, 0, none⟩ = some (.int .i64 x295000_1) := (blk_cell BK294.out 0).trans rfl
                  have hcz89_1 : wc.cell? ⟨gb294, 1, none⟩ = some (.int .i64 x295001_1) := (blk_cell BK294.out 1).trans rfl
                  have hcz89_2 : wc.cell? ⟨gb294, 2, none⟩ = some (.int .i64 x295002_1) := (blk_cell BK294.out 2).trans rfl
                  have hcz89_3 : wc.cell? ⟨gb294, 3, none⟩ = some (.int .i64 x295003_1) := (blk_cell BK294.out 3).trans rfl
                  have hcz89_4 : wc.cell? ⟨gb294, 4, none⟩ = some (.int .i64 x295004_1) := (blk_cell BK294.out 4).trans rfl
                  have hcz89_5 : wc.cell? ⟨gb294, 5, none⟩ = some (.int .i64 x295005_1) := (blk_cell BK294.out 5).trans rfl
                  have hcz89_6 : wc.cell? ⟨gb294, 6, none⟩ = some (.int .i64 x295006_1) := (blk_cell BK294.out 6).trans rfl
                  have hfz89_0 := blk_frozen BK294.out 0
                  have hfz89_1 := blk_frozen BK294.out 1
                  have hfz89_2 := blk_frozen BK294.out 2
                  have hfz89_3 := blk_frozen BK294.out 3
                  have hfz89_4 := blk_frozen BK294.out 4
                  have hfz89_5 := blk_frozen BK294.out 5
                  have hfz89_6 := blk_frozen BK294.out 6
                  have hcz90_0 : wc.cell? ⟨gb322, 0, none⟩ = some (.int .i64 t314) := (blk_cell BK322.out 0).trans rfl
                  have hcz90_1 : wc.cell? ⟨gb322, 1, none⟩ = some (.int .i64 t315) := (blk_cell BK322.out 1).trans rfl
                  have hcz90_2 : wc.cell? ⟨gb322, 2, none⟩ = some (.int .i64 t316) := (blk_cell BK322.out 2).trans rfl
                  have hcz90_3 : wc.cell? ⟨gb322, 3, none⟩ = some (.int .i64 t317) := (blk_cell BK322.out 3).trans rfl
                  have hcz90_4 : wc.cell? ⟨gb322, 4, none⟩ = some (.int .i64 t318) := (blk_cell BK322.out 4).trans rfl
                  have hcz90_5 : wc.cell? ⟨gb322, 5, none⟩ = some (.int .i64 t319) := (blk_cell BK322.out 5).trans rfl
                  have hcz90_6 : wc.cell? ⟨gb322, 6, none⟩ = some (.int .i64 t320) := (blk_cell BK322.out 6).trans rfl
                  have hfz90_0 := blk_frozen BK322.out 0
                  have hfz90_1 := blk_frozen BK322.out 1
                  have hfz90_2 := blk_frozen BK322.out 2
                  have hfz90_3 := blk_frozen BK322.out 3
                  have hfz90_4 := blk_frozen BK322.out 4
                  have hfz90_5 := blk_frozen BK322.out 5
                  have hfz90_6 := blk_frozen BK322.out 6
                  have p325 : 0 ≤ (x5_1 : Int) := of_decide_eq_true (by first | (with_reducible assumption) | assumption)
                  have q325 : x5_1 < (t291.length : Int) := of_decide_eq_true (by first | (with_reducible assumption) | assumption)
                  obtain ⟨ad325, e325, hx325_0, hx325_1⟩ := at_T56 (Kd.R_reads' HO_4.out).2.2 x5_1 p325 q325
                  obtain rfl : ad313 = ad325 := (by injection e325)
                  replace p325 := eq_true p325
                  replace q325 := eq_true q325
                  go_wp2
                  go_meet
                  case rel => exact ⟨_, (true), (by first | rfl | (simp; done) | (simp [*]; done) | (simp [wrap64]; done)), H', ⟨by have := HK1.out; have := HJ10.out; have := HJ56.out; first | omega | exact Nat.le_refl _⟩, ⟨by (with_reducible repeat (first | apply Kd.R_alloc | apply Kd.R_drewN | apply Kd.R_drew)); exact HO_4.out⟩, ⟨by (with_reducible repeat (first | refine blk_drewN ?_ _ | refine blk_drew ?_ | refine blk_alloc ?_ _)); exact BK294.out⟩, ⟨by (with_reducible repeat (first | refine blk_drewN ?_ _ | refine blk_drew ?_ | refine blk_alloc ?_ _)); exact BK322.out⟩, ⟨bel_ HB.out⟩⟩
                ·rw [if_neg c83] at H
                 exact absurd H (by simp)
               ·rw [if_neg c82] at H
                exact absurd H (by simp)
             ·rw [if_neg c77] at H
              have c77b0 : (x295000_1 == 3) = false := beq_eq_false_iff_ne.mpr c77
              have c77b1 : (x295000_1 != 3) = true := bne_iff_ne.mpr c77
              (first | rw [c77b0] | (simp only [i64_w, i32_w]; rw [c77b0]) | skip)
              have H' := Aside0.mk H
              clear H
              have hnb91 := NB294_322.out
              have hnc91 := NB322_294.out
              have hcz92_0 : wc.cell? ⟨gb294, 0, none⟩ = some (.int .i64 x295000_1) := (blk_cell BK294.out 0).trans rfl
              have hcz92_1 : wc.cell? ⟨gb294, 1, none⟩ = some (.int .i64 x295001_1) := (blk_cell BK294.out 1).trans rfl
              have hcz92_2 : wc.cell? ⟨gb294, 2, none⟩ = some (.int .i64 x295002_1) := (blk_cell BK294.out 2).trans rfl
              have hcz92_3 : wc.cell? ⟨gb294, 3, none⟩ = some (.int .i64 x295003_1) := (blk_cell BK294.out 3).trans rfl
              have hcz92_4 : wc.cell? ⟨gb294, 4, none⟩ = some (.int .i64 x295004_1) := (blk_cell BK294.out 4).trans rfl
              have hcz92_5 : wc.cell? ⟨gb294, 5, none⟩ = some (.int .i64 x295005_1) := (blk_cell BK294.out 5).trans rfl
              have hcz92_6 : wc.cell? ⟨gb294, 6, none⟩ = some (.int .i64 x295006_1) := (blk_cell BK294.out 6).trans rfl
              have hfz92_0 := blk_frozen BK294.out 0
              have hfz92_1 := blk_frozen BK294.out 1
              have hfz92_2 := blk_frozen BK294.out 2
              have hfz92_3 := blk_frozen BK294.out 3
              have hfz92_4 := blk_frozen BK294.out 4
              have hfz92_5 := blk_frozen BK294.out 5
              have hfz92_6 := blk_frozen BK294.out 6
              go_wp2
              go_meet
              case rel => exact ⟨_, (false), (by first | rfl | (simp; done) | (simp [*]; done) | (simp [wrap64]; done)), H', ⟨by have := HK1.out; have := HJ10.out; have := HJ56.out; first | omega | exact Nat.le_refl _⟩, ⟨by (with_reducible repeat (first | apply Kd.R_alloc | apply Kd.R_drewN | apply Kd.R_drew)); exact HO_4.out⟩, ⟨by (with_reducible repeat (first | refine blk_drewN ?_ _ | refine blk_drew ?_ | refine blk_alloc ?_ _)); exact BK294.out⟩, ⟨by (with_reducible repeat (first | refine blk_drewN ?_ _ | refine blk_drew ?_ | refine blk_alloc ?_ _)); exact BK322.out⟩, ⟨bel_ HB.out⟩⟩
            case rest =>
             clear HC76
             try clear c3
             try clear c8
             try clear c8b0
             try clear c9
             try clear c9b0
             try clear c56
             try clear c75
             try clear hcz7_0
             try clear hcz7_1
             try clear hcz7_2
             try clear hcz7_3
             try clear hcz7_4
             try clear hcz7_5
             try clear hcz7_6
             try clear hfz7_0
             try clear hfz7_1
             try clear hfz7_2
             try clear hfz7_3
             try clear hfz7_4
             try clear hfz7_5
             try clear hfz7_6
             try clear hx313_0
             try clear hx313_1
             try clear p313
             try clear q313
             obtain ⟨kq, x99_75, rfl, HA, HJ75, HO_4, BK294, BK322, HB⟩ := hcut
             cases kq with
             | zero => exact absurd HA.out (by simp [laws_FnHoists.j3])
             | succ kj75 =>
              have H := HA.out
              clear HA
              simp only [laws_FnHoists.j3] at H
              by_cases c93 : x99_75 = true
              ·subst c93
               have H1 : (some false) = some r := by rw [if_pos rfl] at H; exact H
               clear H
               have H := H1
               clear H1
               obtain rfl := Option.some.inj H
               go_wp2
               go_ret
               exact ⟨by first | rfl | (simp [errW_none, errW_some] <;> rfl) | (simp [*, errW_none, errW_some] <;> rfl), bel_ HB.out⟩
              ·replace c93 := Bool.eq_false_iff.mpr c93
               subst c93
               have H1 : (if 0 ≤ x5_1 then (if x5_1 < (t291.length : Int) then (if ((rd_T56 t291 x5_1).f0) = 4 then (if t314 = 3 then (laws_FnHoists.l0 kj75 t291 (wrap64 (x5_1 + 1)) t314 t315 t316 t317 t318 t319 t320) else (some false)) else (laws_FnHoists.l0 kj75 t291 (wrap64 (x5_1 + 1)) t314 t315 t316 t317 t318 t319 t320)) else (none)) else (none)) = some r := by rw [if_neg (show ¬ (false = true) by decide)] at H; exact H
               clear H
               have H := H1
               clear H1
               by_cases c94 : 0 ≤ x5_1
               ·rw [if_pos c94] at H
                have c94b0 : decide (0 ≤ x5_1) = true := decide_eq_true c94
                clear c94
                by_cases c95 : x5_1 < (t291.length : Int)
                ·rw [if_pos c95] at H
                 have c95b0 : decide (x5_1 < (t291.length : Int)) = true := decide_eq_true c95
                 clear c95
                 by_cases c96 : ((rd_T56 t291 x5_1).f0) = 4
                 ·rw [if_pos c96] at H
                  have c96b0 : (((rd_T56 t291 x5_1).f0) == 4) = true := beq_iff_eq.mpr c96
                  have c96b1 : (((rd_T56 t291 x5_1).f0) != 4) = false := bne_eq_false_iff_eq.mpr c96
                  clear c96
                  by_cases c97 : t314 = 3
                  ·rw [if_pos c97] at H
                   have c97b0 : (t314 == 3) = true := beq_iff_eq.mpr c97
                   have c97b1 : (t314 != 3) = false := bne_eq_false_iff_eq.mpr c97
                   clear c97
                   have H' := Aside0.mk H
                   clear H
                   have p326 : 0 ≤ (x5_1 : Int) := of_decide_eq_true (by first | (with_reducible assumption) | assumption)
                   have q326 : x5_1 < (t291.length : Int) := of_decide_eq_true (by first | (with_reducible assumption) | assumption)
                   obtain ⟨ad326, e326, hx326_0, hx326_1⟩ := at_T56 (Kd.R_reads' HO_4.out).2.2 x5_1 p326 q326
                   obtain rfl : ad313 = ad326 := (by injection e326)
                   replace p326 := eq_true p326
                   replace q326 := eq_true q326
                   have hnb98 := NB322_294.out
                   have hnc98 := NB294_322.out
                   have hcz99_0 : wc.cell? ⟨gb322, 0, none⟩ = some (.int .i64 t314) := (blk_cell BK322.out 0).trans rfl
                   have hcz99_1 : wc.cell? ⟨gb322, 1, none⟩ = some (.int .i64 t315) := (blk_cell BK322.out 1).trans rfl
                   have hcz99_2 : wc.cell? ⟨gb322, 2, none⟩ = some (.int .i64 t316) := (blk_cell BK322.out 2).trans rfl
                   have hcz99_3 : wc.cell? ⟨gb322, 3, none⟩ = some (.int .i64 t317) := (blk_cell BK322.out 3).trans rfl
                   have hcz99_4 : wc.cell? ⟨gb322, 4, none⟩ = some (.int .i64 t318) := (blk_cell BK322.out 4).trans rfl
                   have hcz99_5 : wc.cell? ⟨gb322, 5, none⟩ = some (.int .i64 t319) := (blk_cell BK322.out 5).trans rfl
                   have hcz99_6 : wc.cell? ⟨gb322, 6, none⟩ = some (.int .i64 t320) := (blk_cell BK322.out 6).trans rfl
                   have hfz99_0 := blk_frozen BK322.out 0
                   have hfz99_1 := blk_frozen BK322.out 1
                   have hfz99_2 := blk_frozen BK322.out 2
                   have hfz99_3 := blk_frozen BK322.out 3
                   have hfz99_4 := blk_frozen BK322.out 4
                   have hfz99_5 := blk_frozen BK322.out 5
                   have hfz99_6 := blk_frozen BK322.out 6
                   have hcz100_0 : wc.cell? ⟨gb294, 0, none⟩ = some (.int .i64 x295000_1) := (blk_cell BK294.out 0).trans rfl
                   have hcz100_1 : wc.cell? ⟨gb294, 1, none⟩ = some (.int .i64 x295001_1) := (blk_cell BK294.out 1).trans rfl
                   have hcz100_2 : wc.cell? ⟨gb294, 2, none⟩ = some (.int .i64 x295002_1) := (blk_cell BK294.out 2).trans rfl
                   have hcz100_3 : wc.cell? ⟨gb294, 3, none⟩ = some (.int .i64 x295003_1) := (blk_cell BK294.out 3).trans rfl
                   have hcz100_4 : wc.cell? ⟨gb294, 4, none⟩ = some (.int .i64 x295004_1) := (blk_cell BK294.out 4).trans rfl
                   have hcz100_5 : wc.cell? ⟨gb294, 5, none⟩ = some (.int .i64 x295005_1) := (blk_cell BK294.out 5).trans rfl
                   have hcz100_6 : wc.cell? ⟨gb294, 6, none⟩ = some (.int .i64 x295006_1) := (blk_cell BK294.out 6).trans rfl
                   have hfz100_0 := blk_frozen BK294.out 0
                   have hfz100_1 := blk_frozen BK294.out 1
                   have hfz100_2 := blk_frozen BK294.out 2
                   have hfz100_3 := blk_frozen BK294.out 3
                   have hfz100_4 := blk_frozen BK294.out 4
                   have hfz100_5 := blk_frozen BK294.out 5
                   have hfz100_6 := blk_frozen BK294.out 6
                   go_wp2
                   go_roundg kj75
                   case measure => have := HK1.out; have := HJ10.out; have := HJ56.out; have := HJ75.out; omega
                   case rel => exact ⟨(wrap64 (x5_1 + 1)), (t314), (t315), (t316), (t317), (t318), (t319), (t320), (by first | rfl | (simp; done) | (simp [*]; done) | (simp [wrap64]; done)), H', ⟨by have := HK1.out; have := HJ10.out; have := HJ56.out; have := HJ75.out; omega⟩, ⟨by (with_reducible repeat (first | apply Kd.R_alloc | apply Kd.R_drewN | apply Kd.R_drew)); exact Kd.R_mono (Kd.R_far (p := ⟨gb294, 6, none⟩) (Kd.R_far (p := ⟨gb294, 5, none⟩) (Kd.R_far (p := ⟨gb294, 4, none⟩) (Kd.R_far (p := ⟨gb294, 3, none⟩) (Kd.R_far (p := ⟨gb294, 2, none⟩) (Kd.R_far (p := ⟨gb294, 1, none⟩) (Kd.R_far (p := ⟨gb294, 0, none⟩) (Kd.R_types HO_4.out BK294.out (by decide)) (fun _ hk => hk.2) (.int .i64 t314)) (fun _ hk => hk.2) (.int .i64 t315)) (fun _ hk => hk.2) (.int .i64 t316)) (fun _ hk => hk.2) (.int .i64 t317)) (fun _ hk => hk.2) (.int .i64 t318)) (fun _ hk => hk.2) (.int .i64 t319)) (fun _ hk => hk.2) (.int .i64 t320)) (fun _ hk => trivial)⟩, ⟨by (with_reducible repeat (first | refine blk_drewN ?_ _ | refine blk_drew ?_ | refine blk_alloc ?_ _)); refine blk_put (cs := #[.int .i64 t314, .int .i64 t315, .int .i64 t316, .int .i64 t317, .int .i64 t318, .int .i64 t319, .int .i64 x295006_1]) ?_ 6 _ rfl; (with_reducible repeat (first | refine blk_drewN ?_ _ | refine blk_drew ?_ | refine blk_alloc ?_ _)); refine blk_put (cs := #[.int .i64 t314, .int .i64 t315, .int .i64 t316, .int .i64 t317, .int .i64 t318, .int .i64 x295005_1, .int .i64 x295006_1]) ?_ 5 _ rfl; (with_reducible repeat (first | refine blk_drewN ?_ _ | refine blk_drew ?_ | refine blk_alloc ?_ _)); refine blk_put (cs := #[.int .i64 t314, .int .i64 t315, .int .i64 t316, .int .i64 t317, .int .i64 x295004_1, .int .i64 x295005_1, .int .i64 x295006_1]) ?_ 4 _ rfl; (with_reducible repeat (first | refine blk_drewN ?_ _ | refine blk_drew ?_ | refine blk_alloc ?_ _)); refine blk_put (cs := #[.int .i64 t314, .int .i64 t315, .int .i64 t316, .int .i64 x295003_1, .int .i64 x295004_1, .int .i64 x295005_1, .int .i64 x295006_1]) ?_ 3 _ rfl; (with_reducible repeat (first | refine blk_drewN ?_ _ | refine blk_drew ?_ | refine blk_alloc ?_ _)); refine blk_put (cs := #[.int .i64 t314, .int .i64 t315, .int .i64 x295002_1, .int .i64 x295003_1, .int .i64 x295004_1, .int .i64 x295005_1, .int .i64 x295006_1]) ?_ 2 _ rfl; (with_reducible repeat (first | refine blk_drewN ?_ _ | refine blk_drew ?_ | refine blk_alloc ?_ _)); refine blk_put (cs := #[.int .i64 t314, .int .i64 x295001_1, .int .i64 x295002_1, .int .i64 x295003_1, .int .i64 x295004_1, .int .i64 x295005_1, .int .i64 x295006_1]) ?_ 1 _ rfl; (with_reducible repeat (first | refine blk_drewN ?_ _ | refine blk_drew ?_ | refine blk_alloc ?_ _)); refine blk_put (cs := #[.int .i64 x295000_1, .int .i64 x295001_1, .int .i64 x295002_1, .int .i64 x295003_1, .int .i64 x295004_1, .int .i64 x295005_1, .int .i64 x295006_1]) ?_ 0 _ rfl; (with_reducible repeat (first | refine blk_drewN ?_ _ | refine blk_drew ?_ | refine blk_alloc ?_ _)); exact BK294.out⟩, ⟨bel_ HB.out⟩⟩
                  ·rw [if_neg c97] at H
                   have c97b0 : (t314 == 3) = false := beq_eq_false_iff_ne.mpr c97
                   have c97b1 : (t314 != 3) = true := bne_iff_ne.mpr c97
                   obtain rfl := Option.some.inj H
                   have p326 : 0 ≤ (x5_1 : Int) := of_decide_eq_true (by first | (with_reducible assumption) | assumption)
                   have q326 : x5_1 < (t291.length : Int) := of_decide_eq_true (by first | (with_reducible assumption) | assumption)
                   obtain ⟨ad326, e326, hx326_0, hx326_1⟩ := at_T56 (Kd.R_reads' HO_4.out).2.2 x5_1 p326 q326
                   obtain rfl : ad313 = ad326 := (by injection e326)
                   replace p326 := eq_true p326
                   replace q326 := eq_true q326
                   have hnb101 := NB322_294.out
                   have hnc101 := NB294_322.out
                   have hcz102_0 : wc.cell? ⟨gb322, 0, none⟩ = some (.int .i64 t314) := (blk_cell BK322.out 0).trans rfl
                   have hcz102_1 : wc.cell? ⟨gb322, 1, none⟩ = some (.int .i64 t315) := (blk_cell BK322.out 1).trans rfl
                   have hcz102_2 : wc.cell? ⟨gb322, 2, none⟩ = some (.int .i64 t316) := (blk_cell BK322.out 2).trans rfl
                   have hcz102_3 : wc.cell? ⟨gb322, 3, none⟩ = some (.int .i64 t317) := (blk_cell BK322.out 3).trans rfl
                   have hcz102_4 : wc.cell? ⟨gb322, 4, none⟩ = some (.int .i64 t318) := (blk_cell BK322.out 4).trans rfl
                   have hcz102_5 : wc.cell? ⟨gb322, 5, none⟩ = some (.int .i64 t319) := (blk_cell BK322.out 5).trans rfl
                   have hcz102_6 : wc.cell? ⟨gb322, 6, none⟩ = some (.int .i64 t320) := (blk_cell BK322.out 6).trans rfl
                   have hfz102_0 := blk_frozen BK322.out 0
                   have hfz102_1 := blk_frozen BK322.out 1
                   have hfz102_2 := blk_frozen BK322.out 2
                   have hfz102_3 := blk_frozen BK322.out 3
                   have hfz102_4 := blk_frozen BK322.out 4
                   have hfz102_5 := blk_frozen BK322.out 5
                   have hfz102_6 := blk_frozen BK322.out 6
                   go_wp2
                   go_ret
                   exact ⟨by first | rfl | (simp [errW_none, errW_some] <;> rfl) | (simp [*, errW_none, errW_some] <;> rfl), bel_ HB.out⟩
                 ·rw [if_neg c96] at H
                  have c96b0 : (((rd_T56 t291 x5_1).f0) == 4) = false := beq_eq_false_iff_ne.mpr c96
                  have c96b1 : (((rd_T56 t291 x5_1).f0) != 4) = true := bne_iff_ne.mpr c96
                  have H' := Aside0.mk H
                  clear H
                  have p326 : 0 ≤ (x5_1 : Int) := of_decide_eq_true (by first | (with_reducible assumption) | assumption)
                  have q326 : x5_1 < (t291.length : Int) := of_decide_eq_true (by first | (with_reducible assumption) | assumption)
                  obtain ⟨ad326, e326, hx326_0, hx326_1⟩ := at_T56 (Kd.R_reads' HO_4.out).2.2 x5_1 p326 q326
                  obtain rfl : ad313 = ad326 := (by injection e326)
                  replace p326 := eq_true p326
                  replace q326 := eq_true q326
                  have hnb103 := NB322_294.out
                  have hnc103 := NB294_322.out
                  have hcz104_0 : wc.cell? ⟨gb322, 0, none⟩ = some (.int .i64 t314) := (blk_cell BK322.out 0).trans rfl
                  have hcz104_1 : wc.cell? ⟨gb322, 1, none⟩ = some (.int .i64 t315) := (blk_cell BK322.out 1).trans rfl
                  have hcz104_2 : wc.cell? ⟨gb322, 2, none⟩ = some (.int .i64 t316) := (blk_cell BK322.out 2).trans rfl
                  have hcz104_3 : wc.cell? ⟨gb322, 3, none⟩ = some (.int .i64 t317) := (blk_cell BK322.out 3).trans rfl
                  have hcz104_4 : wc.cell? ⟨gb322, 4, none⟩ = some (.int .i64 t318) := (blk_cell BK322.out 4).trans rfl
                  have hcz104_5 : wc.cell? ⟨gb322, 5, none⟩ = some (.int .i64 t319) := (blk_cell BK322.out 5).trans rfl
                  have hcz104_6 : wc.cell? ⟨gb322, 6, none⟩ = some (.int .i64 t320) := (blk_cell BK322.out 6).trans rfl
                  have hfz104_0 := blk_frozen BK322.out 0
                  have hfz104_1 := blk_frozen BK322.out 1
                  have hfz104_2 := blk_frozen BK322.out 2
                  have hfz104_3 := blk_frozen BK322.out 3
                  have hfz104_4 := blk_frozen BK322.out 4
                  have hfz104_5 := blk_frozen BK322.out 5
                  have hfz104_6 := blk_frozen BK322.out 6
                  have hcz105_0 : wc.cell? ⟨gb294, 0, none⟩ = some (.int .i64 x295000_1) := (blk_cell BK294.out 0).trans rfl
                  have hcz105_1 : wc.cell? ⟨gb294, 1, none⟩ = some (.int .i64 x295001_1) := (blk_cell BK294.out 1).trans rfl
                  have hcz105_2 : wc.cell? ⟨gb294, 2, none⟩ = some (.int .i64 x295002_1) := (blk_cell BK294.out 2).trans rfl
                  have hcz105_3 : wc.cell? ⟨gb294, 3, none⟩ = some (.int .i64 x295003_1) := (blk_cell BK294.out 3).trans rfl
                  have hcz105_4 : wc.cell? ⟨gb294, 4, none⟩ = some (.int .i64 x295004_1) := (blk_cell BK294.out 4).trans rfl
                  have hcz105_5 : wc.cell? ⟨gb294, 5, none⟩ = some (.int .i64 x295005_1) := (blk_cell BK294.out 5).trans rfl
                  have hcz105_6 : wc.cell? ⟨gb294, 6, none⟩ = some (.int .i64 x295006_1) := (blk_cell BK294.out 6).trans rfl
                  have hfz105_0 := blk_frozen BK294.out 0
                  have hfz105_1 := blk_frozen BK294.out 1
                  have hfz105_2 := blk_frozen BK294.out 2
                  have hfz105_3 := blk_frozen BK294.out 3
                  have hfz105_4 := blk_frozen BK294.out 4
                  have hfz105_5 := blk_frozen BK294.out 5
                  have hfz105_6 := blk_frozen BK294.out 6
                  go_wp2
                  go_roundg kj75
                  case measure => have := HK1.out; have := HJ10.out; have := HJ56.out; have := HJ75.out; omega
                  case rel => exact ⟨(wrap64 (x5_1 + 1)), (t314), (t315), (t316), (t317), (t318), (t319), (t320), (by first | rfl | (simp; done) | (simp [*]; done) | (simp [wrap64]; done)), H', ⟨by have := HK1.out; have := HJ10.out; have := HJ56.out; have := HJ75.out; omega⟩, ⟨by (with_reducible repeat (first | apply Kd.R_alloc | apply Kd.R_drewN | apply Kd.R_drew)); exact Kd.R_mono (Kd.R_far (p := ⟨gb294, 6, none⟩) (Kd.R_far (p := ⟨gb294, 5, none⟩) (Kd.R_far (p := ⟨gb294, 4, none⟩) (Kd.R_far (p := ⟨gb294, 3, none⟩) (Kd.R_far (p := ⟨gb294, 2, none⟩) (Kd.R_far (p := ⟨gb294, 1, none⟩) (Kd.R_far (p := ⟨gb294, 0, none⟩) (Kd.R_types HO_4.out BK294.out (by decide)) (fun _ hk => hk.2) (.int .i64 t314)) (fun _ hk => hk.2) (.int .i64 t315)) (fun _ hk => hk.2) (.int .i64 t316)) (fun _ hk => hk.2) (.int .i64 t317)) (fun _ hk => hk.2) (.int .i64 t318)) (fun _ hk => hk.2) (.int .i64 t319)) (fun _ hk => hk.2) (.int .i64 t320)) (fun _ hk => trivial)⟩, ⟨by (with_reducible repeat (first | refine blk_drewN ?_ _ | refine blk_drew ?_ | refine blk_alloc ?_ _)); refine blk_put (cs := #[.int .i64 t314, .int .i64 t315, .int .i64 t316, .int .i64 t317, .int .i64 t318, .int .i64 t319, .int .i64 x295006_1]) ?_ 6 _ rfl; (with_reducible repeat (first | refine blk_drewN ?_ _ | refine blk_drew ?_ | refine blk_alloc ?_ _)); refine blk_put (cs := #[.int .i64 t314, .int .i64 t315, .int .i64 t316, .int .i64 t317, .int .i64 t318, .int .i64 x295005_1, .int .i64 x295006_1]) ?_ 5 _ rfl; (with_reducible repeat (first | refine blk_drewN ?_ _ | refine blk_drew ?_ | refine blk_alloc ?_ _)); refine blk_put (cs := #[.int .i64 t314, .int .i64 t315, .int .i64 t316, .int .i64 t317, .int .i64 x295004_1, .int .i64 x295005_1, .int .i64 x295006_1]) ?_ 4 _ rfl; (with_reducible repeat (first | refine blk_drewN ?_ _ | refine blk_drew ?_ | refine blk_alloc ?_ _)); refine blk_put (cs := #[.int .i64 t314, .int .i64 t315, .int .i64 t316, .int .i64 x295003_1, .int .i64 x295004_1, .int .i64 x295005_1, .int .i64 x295006_1]) ?_ 3 _ rfl; (with_reducible repeat (first | refine blk_drewN ?_ _ | refine blk_drew ?_ | refine blk_alloc ?_ _)); refine blk_put (cs := #[.int .i64 t314, .int .i64 t315, .int .i64 x295002_1, .int .i64 x295003_1, .int .i64 x295004_1, .int .i64 x295005_1, .int .i64 x295006_1]) ?_ 2 _ rfl; (with_reducible repeat (first | refine blk_drewN ?_ _ | refine blk_drew ?_ | refine blk_alloc ?_ _)); refine blk_put (cs := #[.int .i64 t314, .int .i64 x295001_1, .int .i64 x295002_1, .int .i64 x295003_1, .int .i64 x295004_1, .int .i64 x295005_1, .int .i64 x295006_1]) ?_ 1 _ rfl; (with_reducible repeat (first | refine blk_drewN ?_ _ | refine blk_drew ?_ | refine blk_alloc ?_ _)); refine blk_put (cs := #[.int .i64 x295000_1, .int .i64 x295001_1, .int .i64 x295002_1, .int .i64 x295003_1, .int .i64 x295004_1, .int .i64 x295005_1, .int .i64 x295006_1]) ?_ 0 _ rfl; (with_reducible repeat (first | refine blk_drewN ?_ _ | refine blk_drew ?_ | refine blk_alloc ?_ _)); exact BK294.out⟩, ⟨bel_ HB.out⟩⟩
                ·rw [if_neg c95] at H
                 exact absurd H (by simp)
               ·rw [if_neg c94] at H
                exact absurd H (by simp)
     ·rw [if_neg c9] at H
      exact absurd H (by simp)
    ·rw [if_neg c8] at H
     have c8b0 : decide (x5_1 < (t291.length : Int)) = false := decide_eq_false c8
     clear c8
     obtain ⟨y295, hy295⟩ : ∃ y_ : List (S56), y_ = (([(⟨4, 0⟩ : S56), (⟨1, 0⟩ : S56), (⟨5, 0⟩ : S56), (⟨3, 0⟩ : S56)] : List (S56))) := ⟨_, rfl⟩
     replace H : ((impl_RunSignals.f k1 x295000_1 x295001_1 x295002_1 x295003_1 x295004_1 x295005_1 x295006_1 y295).bind fun bt298 => (if (bt298.2.2.2.2.2.2.2.length : Int) = 4 then (if 0 < (bt298.2.2.2.2.2.2.2.length : Int) then (if rdOf false bt298.2.2.2.2.2.2.2 0 = true then (if 1 < (bt298.2.2.2.2.2.2.2.length : Int) then (if rdOf false bt298.2.2.2.2.2.2.2 1 = true then (some false) else (if 2 < (bt298.2.2.2.2.2.2.2.length : Int) then (if rdOf false bt298.2.2.2.2.2.2.2 2 = true then (if 3 < (bt298.2.2.2.2.2.2.2.length : Int) then (if rdOf false bt298.2.2.2.2.2.2.2 3 = true then (some (bt298.1 == 0)) else (some false)) else (none)) else (some false)) else (none))) else (none)) else (some false)) else (none)) else (some false))) = some r := by first | (rw [hy295]; with_reducible exact H) | (have H2_ := (Option.bind_some _ _).symm.trans H; rw [hy295]; with_reducible exact H2_) | (have H2_ := (Option.bind_some _ _).symm.trans H; with_reducible exact H2_) | with_reducible exact H | (rw [hy295]; exact H) | exact H
     have Ny295 := Aside0.mk hy295
     clear hy295
     replace H := Option.bind_eq_some_iff.mp H
     obtain ⟨⟨t298, t299, t300, t301, t302, t303, t304, t305⟩, A1060, H⟩ := H
     replace H : (if (t305.length : Int) = 4 then (if 0 < (t305.length : Int) then (if rdOf false t305 0 = true then (if 1 < (t305.length : Int) then (if rdOf false t305 1 = true then (some false) else (if 2 < (t305.length : Int) then (if rdOf false t305 2 = true then (if 3 < (t305.length : Int) then (if rdOf false t305 3 = true then (some (t298 == 0)) else (some false)) else (none)) else (some false)) else (none))) else (none)) else (some false)) else (none)) else (some false)) = some r := H
     have A106 := Aside0.mk A1060
     clear A1060
     by_cases c107 : (t305.length : Int) = 4
     ·rw [if_pos c107] at H
      have c107b0 : ((t305.length : Int) == 4) = true := beq_iff_eq.mpr c107
      have c107b1 : ((t305.length : Int) != 4) = false := bne_eq_false_iff_eq.mpr c107
      clear c107
      by_cases c108 : 0 < (t305.length : Int)
      ·rw [if_pos c108] at H
       have c108b0 : decide (0 < (t305.length : Int)) = true := decide_eq_true c108
       have c108b1 : decide (0 < t305.length) = true := decide_eq_true (by omega)
       clear c108
       obtain ⟨bq109, hbq109⟩ : ∃ b_ : Bool, b_ = (rdOf false t305 0) := ⟨_, rfl⟩
       replace H : (if bq109 = true then (if 1 < (t305.length : Int) then (if rdOf false t305 1 = true then (some false) else (if 2 < (t305.length : Int) then (if rdOf false t305 2 = true then (if 3 < (t305.length : Int) then (if rdOf false t305 3 = true then (some (t298 == 0)) else (some false)) else (none)) else (some false)) else (none))) else (none)) else (some false)) = some r := by rw [← hbq109] at H; exact H
       have Nbq109 := Aside0.mk hbq109
       clear hbq109
       by_cases c110 : bq109 = true
       ·subst c110
        have H1 : (if 1 < (t305.length : Int) then (if rdOf false t305 1 = true then (some false) else (if 2 < (t305.length : Int) then (if rdOf false t305 2 = true then (if 3 < (t305.length : Int) then (if rdOf false t305 3 = true then (some (t298 == 0)) else (some false)) else (none)) else (some false)) else (none))) else (none)) = some r := by rw [if_pos rfl] at H; exact H
        clear H
        have H := H1
        clear H1
        by_cases c111 : 1 < (t305.length : Int)
        ·rw [if_pos c111] at H
         have c111b0 : decide (1 < (t305.length : Int)) = true := decide_eq_true c111
         have c111b1 : decide (1 < t305.length) = true := decide_eq_true (by omega)
         clear c111
         obtain ⟨bq112, hbq112⟩ : ∃ b_ : Bool, b_ = (rdOf false t305 1) := ⟨_, rfl⟩
         replace H : (if bq112 = true then (some false) else (if 2 < (t305.length : Int) then (if rdOf false t305 2 = true then (if 3 < (t305.length : Int) then (if rdOf false t305 3 = true then (some (t298 == 0)) else (some false)) else (none)) else (some false)) else (none))) = some r := by rw [← hbq112] at H; exact H
         have Nbq112 := Aside0.mk hbq112
         clear hbq112
         by_cases c113 : bq112 = true
         ·subst c113
          have H1 : (some false) = some r := by rw [if_pos rfl] at H; exact H
          clear H
          have H := H1
          clear H1
          obtain rfl := Option.some.inj H
          obtain ⟨Ao114, co114, eo114⟩ := Kd.R_slice HO_4.out
          subst eo114
          have hcz115_0 : wr.cell? ⟨gb294, 0, none⟩ = some (.int .i64 x295000_1) := (blk_cell BK294.out 0).trans rfl
          have hcz115_1 : wr.cell? ⟨gb294, 1, none⟩ = some (.int .i64 x295001_1) := (blk_cell BK294.out 1).trans rfl
          have hcz115_2 : wr.cell? ⟨gb294, 2, none⟩ = some (.int .i64 x295002_1) := (blk_cell BK294.out 2).trans rfl
          have hcz115_3 : wr.cell? ⟨gb294, 3, none⟩ = some (.int .i64 x295003_1) := (blk_cell BK294.out 3).trans rfl
          have hcz115_4 : wr.cell? ⟨gb294, 4, none⟩ = some (.int .i64 x295004_1) := (blk_cell BK294.out 4).trans rfl
          have hcz115_5 : wr.cell? ⟨gb294, 5, none⟩ = some (.int .i64 x295005_1) := (blk_cell BK294.out 5).trans rfl
          have hcz115_6 : wr.cell? ⟨gb294, 6, none⟩ = some (.int .i64 x295006_1) := (blk_cell BK294.out 6).trans rfl
          have hfz115_0 := blk_frozen BK294.out 0
          have hfz115_1 := blk_frozen BK294.out 1
          have hfz115_2 := blk_frozen BK294.out 2
          have hfz115_3 := blk_frozen BK294.out 3
          have hfz115_4 := blk_frozen BK294.out 4
          have hfz115_5 := blk_frozen BK294.out 5
          have hfz115_6 := blk_frozen BK294.out 6
          go_wp2_with (first | ((with_reducible refine gate_dst (N := 118) rfl ?_); refine Kd.R_lit k56 _ 56 ?hg (N := 118) ?hd (xs := ([(⟨4, 0⟩ : S56), (⟨1, 0⟩ : S56), (⟨5, 0⟩ : S56), (⟨3, 0⟩ : S56)] : List (S56))) (inner := [.int .i64 4, .int .i64 0, .int .i64 1, .int .i64 0, .int .i64 5, .int .i64 0, .int .i64 3, .int .i64 0]) (ok := fun _ => True) (okp := fun _ => True) ?hr ?hp (fun _ hk => hk) trivial (Below.refl _ _) (Nat.le_refl _) (by simp) ?_; (case hd => rfl); (case hg => rfl); (case hr => first | (go_simp; done) | (go_simp; rfl)); (case hp => exact (Reps.c2 (show Kd.M k56 _ _ _ (⟨4, 0⟩ : S56) [.int .i64 4, .int .i64 0] from (k56_mkM _ _ _ (⟨4, 0⟩ : S56) )) (Reps.c2 (show Kd.M k56 _ _ _ (⟨1, 0⟩ : S56) [.int .i64 1, .int .i64 0] from (k56_mkM _ _ _ (⟨1, 0⟩ : S56) )) (Reps.c2 (show Kd.M k56 _ _ _ (⟨5, 0⟩ : S56) [.int .i64 5, .int .i64 0] from (k56_mkM _ _ _ (⟨5, 0⟩ : S56) )) (Reps.c2 (show Kd.M k56 _ _ _ (⟨3, 0⟩ : S56) [.int .i64 3, .int .i64 0] from (k56_mkM _ _ _ (⟨3, 0⟩ : S56) )) (Reps.none _ _)))))); intro v296 w116 ho117 hb hg_ hnew_; clear hg_ hnew_; (first | rw [← Ny295.out] at ho117 | (simp only [Int.reduceToNat] at ho117; rw [← Ny295.out] at ho117)); have n0_ := Aside0.mk (Kd.R_elder' (fr_ HO_4.out) (Kd.R_base ho117) hb); have n1_ := Aside0.mk (Kd.R_lower (Kd.R_new' ho117 (Kd.R_lt (fr_ HO_4.out))) (below_size (bel_ HB.out))); have n2_ := Aside0.mk (blk_below (g := gb294) (o := .cells #[.int .i64 x295000_1, .int .i64 x295001_1, .int .i64 x295002_1, .int .i64 x295003_1, .int .i64 x295004_1, .int .i64 x295005_1, .int .i64 x295006_1] 49 (0, 0)) (fb_ BK294.out) hb); have n3_ := Aside0.mk (below_step (bel_ HB.out) hb); clear HO_4; clear BK294; clear HB; have HO_4 := n0_; have HO297 := n1_; have BK294 := n2_; have HB := n3_; clear n0_ n1_ n2_ n3_; clear hb ho117; obtain ⟨Ao118, co118, eo118⟩ := Kd.R_slice HO297.out; subst eo118) | ((with_reducible refine gate_callee (f := 28) rfl ?_); refine goesL_ (some 119) rfl rfl Try.func28 (by kernel_rfl) rfl #[.agg #[.int .i64 x295000_1, .int .i64 x295001_1, .int .i64 x295002_1, .int .i64 x295003_1, .int .i64 x295004_1, .int .i64 x295005_1, .int .i64 x295006_1], .slice Ao118 y295.length co118] rfl (by (try simp only [List.map_toArray, List.map_cons, List.map_nil]); first | done | rfl | (simp only [List.length_drop, List.length_take]; rfl)) ?_; (with_reducible refine (impl_RunSignals.calls k1 x295000_1 x295001_1 x295002_1 x295003_1 x295004_1 x295005_1 x295006_1 _ _ y295 t298 t299 t300 t301 t302 t303 t304 t305 _ ?side1 ?side2 A106.out).mono ?_); (case side1 => repeat (first | exact (Kd.R_reads' HO297.out).2.2 | (with_reducible refine Kd.C_alloc ?_ _) | (with_reducible refine Kd.C_drewN ?_ _) | (with_reducible refine Kd.C_drew ?_))); (case side2 => exact (Kd.R_reads' HO297.out).2.1); rintro e w119 ⟨v306, rfl, ho0, hb⟩; refine ⟨_, rfl, ?_⟩; have n0_ := Aside0.mk (Kd.R_below (fr_ HO_4.out) hb); have n1_ := Aside0.mk (Kd.R_below (fr_ HO297.out) hb); have n2_ := Aside0.mk (Kd.R_lower ho0 (below_size (bel_ HB.out))); have n3_ := Aside0.mk (blk_below (g := gb294) (o := .cells #[.int .i64 x295000_1, .int .i64 x295001_1, .int .i64 x295002_1, .int .i64 x295003_1, .int .i64 x295004_1, .int .i64 x295005_1, .int .i64 x295006_1] 49 (0, 0)) (fb_ BK294.out) hb); have n4_ := Aside0.mk (below_step (bel_ HB.out) hb); clear HO_4; clear HO297; clear BK294; clear HB; have HO_4 := n0_; have HO297 := n1_; have HO307 := n2_; have BK294 := n3_; have HB := n4_; clear n0_ n1_ n2_ n3_ n4_; (try clear hb); (try clear hb2); (try clear hk); (try clear hi); (try clear ho0)) | ((with_reducible refine gate_dst (N := 8) rfl ?_); refine box_event ?hg (N := 8) ?hd (cs := #[.int .i64 0, .int .i64 0, .int .i64 0, .int .i64 0, .int .i64 0, .int .i64 0, .int .i64 0]) (t := 49) ?hr ?_; (case hd => rfl); (case hg => rfl); (case hr => first | (go_simp; done) | (go_simp; rfl)); intro gb308 hg w120 hbox hb; have n0_ := Aside0.mk (Kd.R_below (fr_ HO_4.out) hb); have n1_ := Aside0.mk (Kd.R_below (fr_ HO297.out) hb); have n2_ := Aside0.mk (Kd.R_below (fr_ HO307.out) hb); have n3_ := Aside0.mk (blk_below (g := gb294) (o := .cells #[.int .i64 x295000_1, .int .i64 x295001_1, .int .i64 x295002_1, .int .i64 x295003_1, .int .i64 x295004_1, .int .i64 x295005_1, .int .i64 x295006_1] 49 (0, 0)) (fb_ BK294.out) hb); have n4_ := Aside0.mk (below_step (bel_ HB.out) hb); have n5_ := Aside0.mk (hbox); have n6_ := Aside0.mk ((by rw [hg]; exact (below_size (bel_ HB.out)) : w.heap.size ≤ gb308)); have n7_ := Aside0.mk ((by rw [hg]; exact (below_size (bel_ HB.out)) : w.heap.size ≤ gb308)); have n8_ := Aside0.mk ((by rw [hg]; exact Nat.ne_of_lt (blk_lt (g := gb294) (o := .cells #[.int .i64 x295000_1, .int .i64 x295001_1, .int .i64 x295002_1, .int .i64 x295003_1, .int .i64 x295004_1, .int .i64 x295005_1, .int .i64 x295006_1] 49 (0, 0)) (fb_ BK294.out)) : gb294 ≠ gb308)); have n9_ := Aside0.mk ((by rw [hg]; exact Nat.ne_of_gt (blk_lt (g := gb294) (o := .cells #[.int .i64 x295000_1, .int .i64 x295001_1, .int .i64 x295002_1, .int .i64 x295003_1, .int .i64 x295004_1, .int .i64 x295005_1, .int .i64 x295006_1] 49 (0, 0)) (fb_ BK294.out)) : gb308 ≠ gb294)); clear HO_4; clear HO297; clear HO307; clear BK294; clear HB; have HO_4 := n0_; have HO297 := n1_; have HO307 := n2_; have BK294 := n3_; have HB := n4_; have BK308 := n5_; have GW308 := n6_; have GE308 := n7_; have NB294_308 := n8_; have NB308_294 := n9_; clear n0_ n1_ n2_ n3_ n4_ n5_ n6_ n7_ n8_ n9_; clear hb hbox hg; have hnb121 := NB308_294.out; have hnc121 := NB294_308.out; have hcz122_0 : w120.cell? ⟨gb308, 0, none⟩ = some (.int .i64 0) := (blk_cell BK308.out 0).trans rfl; have hcz122_1 : w120.cell? ⟨gb308, 1, none⟩ = some (.int .i64 0) := (blk_cell BK308.out 1).trans rfl; have hcz122_2 : w120.cell? ⟨gb308, 2, none⟩ = some (.int .i64 0) := (blk_cell BK308.out 2).trans rfl; have hcz122_3 : w120.cell? ⟨gb308, 3, none⟩ = some (.int .i64 0) := (blk_cell BK308.out 3).trans rfl; have hcz122_4 : w120.cell? ⟨gb308, 4, none⟩ = some (.int .i64 0) := (blk_cell BK308.out 4).trans rfl; have hcz122_5 : w120.cell? ⟨gb308, 5, none⟩ = some (.int .i64 0) := (blk_cell BK308.out 5).trans rfl; have hcz122_6 : w120.cell? ⟨gb308, 6, none⟩ = some (.int .i64 0) := (blk_cell BK308.out 6).trans rfl; have hfz122_0 := blk_frozen BK308.out 0; have hfz122_1 := blk_frozen BK308.out 1; have hfz122_2 := blk_frozen BK308.out 2; have hfz122_3 := blk_frozen BK308.out 3; have hfz122_4 := blk_frozen BK308.out 4; have hfz122_5 := blk_frozen BK308.out 5; have hfz122_6 := blk_frozen BK308.out 6; obtain ⟨Ao123, co123, eo123⟩ := Kd.R_slice HO307.out; subst eo123; have p309 : 0 ≤ (0 : Int) := (by omega); have q309 : 0 < (t305.length : Int) := of_decide_eq_true (by first | (with_reducible assumption) | assumption); obtain ⟨ad309, e309, hx309_0⟩ := Kd.at_bool (Kd.R_reads' HO307.out).2.2 0 p309 q309; (try rw [← Nbq109.out] at hx309_0); (try rw [← Nbq112.out] at hx309_0); cases e309; have qi309 : (0 < t305.length) = True := eq_true (by omega); (try rw [show ((0 : Int)).toNat = 0 from rfl] at hx309_0); (try rw [Addr.add_zero'] at hx309_0); have hn309_0 : ad309.block ≠ gb308 := Kd.own_blk (Kd.R_ne HO307.out BK308.out (by decide)); have hn309_1 : ad309.block ≠ gb308 := Kd.own_blk (Kd.R_ne HO307.out BK308.out (by decide)); have hn309_2 : ad309.block ≠ gb308 := Kd.own_blk (Kd.R_ne HO307.out BK308.out (by decide)); have hn309_3 : ad309.block ≠ gb308 := Kd.own_blk (Kd.R_ne HO307.out BK308.out (by decide)); have hn309_4 : ad309.block ≠ gb308 := Kd.own_blk (Kd.R_ne HO307.out BK308.out (by decide)); have hn309_5 : ad309.block ≠ gb308 := Kd.own_blk (Kd.R_ne HO307.out BK308.out (by decide)); have hn309_6 : ad309.block ≠ gb308 := Kd.own_blk (Kd.R_ne HO307.out BK308.out (by decide)); replace hx309_0 := (cell_far (p := ⟨gb308, 0, none⟩) (by first | (rw [add_block]; exact hn309_0) | (show (Addr.add _ _).block ≠ _; rw [add_block]; exact hn309_0) | exact hn309_0) (.int .i64 t298)).trans hx309_0; replace hx309_0 := (cell_far (p := ⟨gb308, 1, none⟩) (by first | (rw [add_block]; exact hn309_1) | (show (Addr.add _ _).block ≠ _; rw [add_block]; exact hn309_1) | exact hn309_1) (.int .i64 t299)).trans hx309_0; replace hx309_0 := (cell_far (p := ⟨gb308, 2, none⟩) (by first | (rw [add_block]; exact hn309_2) | (show (Addr.add _ _).block ≠ _; rw [add_block]; exact hn309_2) | exact hn309_2) (.int .i64 t300)).trans hx309_0; replace hx309_0 := (cell_far (p := ⟨gb308, 3, none⟩) (by first | (rw [add_block]; exact hn309_3) | (show (Addr.add _ _).block ≠ _; rw [add_block]; exact hn309_3) | exact hn309_3) (.int .i64 t301)).trans hx309_0; replace hx309_0 := (cell_far (p := ⟨gb308, 4, none⟩) (by first | (rw [add_block]; exact hn309_4) | (show (Addr.add _ _).block ≠ _; rw [add_block]; exact hn309_4) | exact hn309_4) (.int .i64 t302)).trans hx309_0; replace hx309_0 := (cell_far (p := ⟨gb308, 5, none⟩) (by first | (rw [add_block]; exact hn309_5) | (show (Addr.add _ _).block ≠ _; rw [add_block]; exact hn309_5) | exact hn309_5) (.int .i64 t303)).trans hx309_0; replace hx309_0 := (cell_far (p := ⟨gb308, 6, none⟩) (by first | (rw [add_block]; exact hn309_6) | (show (Addr.add _ _).block ≠ _; rw [add_block]; exact hn309_6) | exact hn309_6) (.int .i64 t304)).trans hx309_0; clear hn309_0; clear hn309_1; clear hn309_2; clear hn309_3; clear hn309_4; clear hn309_5; clear hn309_6; replace p309 := eq_true p309; replace q309 := eq_true q309; have p310 : 0 ≤ (1 : Int) := (by omega); have q310 : 1 < (t305.length : Int) := of_decide_eq_true (by first | (with_reducible assumption) | assumption); obtain ⟨ad310, e310, hx310_0⟩ := Kd.at_bool (Kd.R_reads' HO307.out).2.2 1 p310 q310; (try rw [← Nbq109.out] at hx310_0); (try rw [← Nbq112.out] at hx310_0); obtain rfl : ad309 = ad310 := (by injection e310); (try simp only [show (1 : Int).toNat = 1 from rfl, Nat.reduceMul, Nat.reduceEqDiff, Go.Addr.add, ↓reduceIte] at hx310_0); have qi310 : (1 < t305.length) = True := eq_true (by omega); (try rw [show ((1 : Int)).toNat = 1 from rfl] at hx310_0); have hn310_0 : ad309.block ≠ gb308 := Kd.own_blk (Kd.R_ne HO307.out BK308.out (by decide)); have hn310_1 : ad309.block ≠ gb308 := Kd.own_blk (Kd.R_ne HO307.out BK308.out (by decide)); have hn310_2 : ad309.block ≠ gb308 := Kd.own_blk (Kd.R_ne HO307.out BK308.out (by decide)); have hn310_3 : ad309.block ≠ gb308 := Kd.own_blk (Kd.R_ne HO307.out BK308.out (by decide)); have hn310_4 : ad309.block ≠ gb308 := Kd.own_blk (Kd.R_ne HO307.out BK308.out (by decide)); have hn310_5 : ad309.block ≠ gb308 := Kd.own_blk (Kd.R_ne HO307.out BK308.out (by decide)); have hn310_6 : ad309.block ≠ gb308 := Kd.own_blk (Kd.R_ne HO307.out BK308.out (by decide)); replace hx310_0 := (cell_far (p := ⟨gb308, 0, none⟩) (by first | (rw [add_block]; exact hn310_0) | (show (Addr.add _ _).block ≠ _; rw [add_block]; exact hn310_0) | exact hn310_0) (.int .i64 t298)).trans hx310_0; replace hx310_0 := (cell_far (p := ⟨gb308, 1, none⟩) (by first | (rw [add_block]; exact hn310_1) | (show (Addr.add _ _).block ≠ _; rw [add_block]; exact hn310_1) | exact hn310_1) (.int .i64 t299)).trans hx310_0; replace hx310_0 := (cell_far (p := ⟨gb308, 2, none⟩) (by first | (rw [add_block]; exact hn310_2) | (show (Addr.add _ _).block ≠ _; rw [add_block]; exact hn310_2) | exact hn310_2) (.int .i64 t300)).trans hx310_0; replace hx310_0 := (cell_far (p := ⟨gb308, 3, none⟩) (by first | (rw [add_block]; exact hn310_3) | (show (Addr.add _ _).block ≠ _; rw [add_block]; exact hn310_3) | exact hn310_3) (.int .i64 t301)).trans hx310_0; replace hx310_0 := (cell_far (p := ⟨gb308, 4, none⟩) (by first | (rw [add_block]; exact hn310_4) | (show (Addr.add _ _).block ≠ _; rw [add_block]; exact hn310_4) | exact hn310_4) (.int .i64 t302)).trans hx310_0; replace hx310_0 := (cell_far (p := ⟨gb308, 5, none⟩) (by first | (rw [add_block]; exact hn310_5) | (show (Addr.add _ _).block ≠ _; rw [add_block]; exact hn310_5) | exact hn310_5) (.int .i64 t303)).trans hx310_0; replace hx310_0 := (cell_far (p := ⟨gb308, 6, none⟩) (by first | (rw [add_block]; exact hn310_6) | (show (Addr.add _ _).block ≠ _; rw [add_block]; exact hn310_6) | exact hn310_6) (.int .i64 t304)).trans hx310_0; clear hn310_0; clear hn310_1; clear hn310_2; clear hn310_3; clear hn310_4; clear hn310_5; clear hn310_6; replace p310 := eq_true p310; replace q310 := eq_true q310))
          go_ret
          exact ⟨by first | rfl | (simp [errW_none, errW_some] <;> rfl) | (simp [*, errW_none, errW_some] <;> rfl), bel_ HB.out⟩
         ·replace c113 := Bool.eq_false_iff.mpr c113
          subst c113
          have H1 : (if 2 < (t305.length : Int) then (if rdOf false t305 2 = true then (if 3 < (t305.length : Int) then (if rdOf false t305 3 = true then (some (t298 == 0)) else (some false)) else (none)) else (some false)) else (none)) = some r := by rw [if_neg (show ¬ (false = true) by decide)] at H; exact H
          clear H
          have H := H1
          clear H1
          by_cases c124 : 2 < (t305.length : Int)
          ·rw [if_pos c124] at H
           have c124b0 : decide (2 < (t305.length : Int)) = true := decide_eq_true c124
           have c124b1 : decide (2 < t305.length) = true := decide_eq_true (by omega)
           clear c124
           obtain ⟨bq125, hbq125⟩ : ∃ b_ : Bool, b_ = (rdOf false t305 2) := ⟨_, rfl⟩
           replace H : (if bq125 = true then (if 3 < (t305.length : Int) then (if rdOf false t305 3 = true then (some (t298 == 0)) else (some false)) else (none)) else (some false)) = some r := by rw [← hbq125] at H; exact H
           have Nbq125 := Aside0.mk hbq125
           clear hbq125
           by_cases c126 : bq125 = true
           ·subst c126
            have H1 : (if 3 < (t305.length : Int) then (if rdOf false t305 3 = true then (some (t298 == 0)) else (some false)) else (none)) = some r := by rw [if_pos rfl] at H; exact H
            clear H
            have H := H1
            clear H1
            by_cases c127 : 3 < (t305.length : Int)
            ·rw [if_pos c127] at H
             have c127b0 : decide (3 < (t305.length : Int)) = true := decide_eq_true c127
             have c127b1 : decide (3 < t305.length) = true := decide_eq_true (by omega)
             clear c127
             obtain ⟨bq128, hbq128⟩ : ∃ b_ : Bool, b_ = (rdOf false t305 3) := ⟨_, rfl⟩
             replace H : (if bq128 = true then (some (t298 == 0)) else (some false)) = some r := by rw [← hbq128] at H; exact H
             have Nbq128 := Aside0.mk hbq128
             clear hbq128
             by_cases c129 : bq128 = true
             ·subst c129
              have H1 : (some (t298 == 0)) = some r := by rw [if_pos rfl] at H; exact H
              clear H
              have H := H1
              clear H1
              obtain rfl := Option.some.inj H
              obtain ⟨Ao130, co130, eo130⟩ := Kd.R_slice HO_4.out
              subst eo130
              have hcz131_0 : wr.cell? ⟨gb294, 0, none⟩ = some (.int .i64 x295000_1) := (blk_cell BK294.out 0).trans rfl
              have hcz131_1 : wr.cell? ⟨gb294, 1, none⟩ = some (.int .i64 x295001_1) := (blk_cell BK294.out 1).trans rfl
              have hcz131_2 : wr.cell? ⟨gb294, 2, none⟩ = some (.int .i64 x295002_1) := (blk_cell BK294.out 2).trans rfl
              have hcz131_3 : wr.cell? ⟨gb294, 3, none⟩ = some (.int .i64 x295003_1) := (blk_cell BK294.out 3).trans rfl
              have hcz131_4 : wr.cell? ⟨gb294, 4, none⟩ = some (.int .i64 x295004_1) := (blk_cell BK294.out 4).trans rfl
              have hcz131_5 : wr.cell? ⟨gb294, 5, none⟩ = some (.int .i64 x295005_1) := (blk_cell BK294.out 5).trans rfl
              have hcz131_6 : wr.cell? ⟨gb294, 6, none⟩ = some (.int .i64 x295006_1) := (blk_cell BK294.out 6).trans rfl
              have hfz131_0 := blk_frozen BK294.out 0
              have hfz131_1 := blk_frozen BK294.out 1
              have hfz131_2 := blk_frozen BK294.out 2
              have hfz131_3 := blk_frozen BK294.out 3
              have hfz131_4 := blk_frozen BK294.out 4
              have hfz131_5 := blk_frozen BK294.out 5
              have hfz131_6 := blk_frozen BK294.out 6
              go_wp2_with (first | ((with_reducible refine gate_dst (N := 118) rfl ?_); refine Kd.R_lit k56 _ 56 ?hg (N := 118) ?hd (xs := ([(⟨4, 0⟩ : S56), (⟨1, 0⟩ : S56), (⟨5, 0⟩ : S56), (⟨3, 0⟩ : S56)] : List (S56))) (inner := [.int .i64 4, .int .i64 0, .int .i64 1, .int .i64 0, .int .i64 5, .int .i64 0, .int .i64 3, .int .i64 0]) (ok := fun _ => True) (okp := fun _ => True) ?hr ?hp (fun _ hk => hk) trivial (Below.refl _ _) (Nat.le_refl _) (by simp) ?_; (case hd => rfl); (case hg => rfl); (case hr => first | (go_simp; done) | (go_simp; rfl)); (case hp => exact (Reps.c2 (show Kd.M k56 _ _ _ (⟨4, 0⟩ : S56) [.int .i64 4, .int .i64 0] from (k56_mkM _ _ _ (⟨4, 0⟩ : S56) )) (Reps.c2 (show Kd.M k56 _ _ _ (⟨1, 0⟩ : S56) [.int .i64 1, .int .i64 0] from (k56_mkM _ _ _ (⟨1, 0⟩ : S56) )) (Reps.c2 (show Kd.M k56 _ _ _ (⟨5, 0⟩ : S56) [.int .i64 5, .int .i64 0] from (k56_mkM _ _ _ (⟨5, 0⟩ : S56) )) (Reps.c2 (show Kd.M k56 _ _ _ (⟨3, 0⟩ : S56) [.int .i64 3, .int .i64 0] from (k56_mkM _ _ _ (⟨3, 0⟩ : S56) )) (Reps.none _ _)))))); intro v296 w132 ho133 hb hg_ hnew_; clear hg_ hnew_; (first | rw [← Ny295.out] at ho133 | (simp only [Int.reduceToNat] at ho133; rw [← Ny295.out] at ho133)); have n0_ := Aside0.mk (Kd.R_elder' (fr_ HO_4.out) (Kd.R_base ho133) hb); have n1_ := Aside0.mk (Kd.R_lower (Kd.R_new' ho133 (Kd.R_lt (fr_ HO_4.out))) (below_size (bel_ HB.out))); have n2_ := Aside0.mk (blk_below (g := gb294) (o := .cells #[.int .i64 x295000_1, .int .i64 x295001_1, .int .i64 x295002_1, .int .i64 x295003_1, .int .i64 x295004_1, .int .i64 x295005_1, .int .i64 x295006_1] 49 (0, 0)) (fb_ BK294.out) hb); have n3_ := Aside0.mk (below_step (bel_ HB.out) hb); clear HO_4; clear BK294; clear HB; have HO_4 := n0_; have HO297 := n1_; have BK294 := n2_; have HB := n3_; clear n0_ n1_ n2_ n3_; clear hb ho133; obtain ⟨Ao134, co134, eo134⟩ := Kd.R_slice HO297.out; subst eo134) | ((with_reducible refine gate_callee (f := 28) rfl ?_); refine goesL_ (some 119) rfl rfl Try.func28 (by kernel_rfl) rfl #[.agg #[.int .i64 x295000_1, .int .i64 x295001_1, .int .i64 x295002_1, .int .i64 x295003_1, .int .i64 x295004_1, .int .i64 x295005_1, .int .i64 x295006_1], .slice Ao134 y295.length co134] rfl (by (try simp only [List.map_toArray, List.map_cons, List.map_nil]); first | done | rfl | (simp only [List.length_drop, List.length_take]; rfl)) ?_; (with_reducible refine (impl_RunSignals.calls k1 x295000_1 x295001_1 x295002_1 x295003_1 x295004_1 x295005_1 x295006_1 _ _ y295 t298 t299 t300 t301 t302 t303 t304 t305 _ ?side1 ?side2 A106.out).mono ?_); (case side1 => repeat (first | exact (Kd.R_reads' HO297.out).2.2 | (with_reducible refine Kd.C_alloc ?_ _) | (with_reducible refine Kd.C_drewN ?_ _) | (with_reducible refine Kd.C_drew ?_))); (case side2 => exact (Kd.R_reads' HO297.out).2.1); rintro e w135 ⟨v306, rfl, ho0, hb⟩; refine ⟨_, rfl, ?_⟩; have n0_ := Aside0.mk (Kd.R_below (fr_ HO_4.out) hb); have n1_ := Aside0.mk (Kd.R_below (fr_ HO297.out) hb); have n2_ := Aside0.mk (Kd.R_lower ho0 (below_size (bel_ HB.out))); have n3_ := Aside0.mk (blk_below (g := gb294) (o := .cells #[.int .i64 x295000_1, .int .i64 x295001_1, .int .i64 x295002_1, .int .i64 x295003_1, .int .i64 x295004_1, .int .i64 x295005_1, .int .i64 x295006_1] 49 (0, 0)) (fb_ BK294.out) hb); have n4_ := Aside0.mk (below_step (bel_ HB.out) hb); clear HO_4; clear HO297; clear BK294; clear HB; have HO_4 := n0_; have HO297 := n1_; have HO307 := n2_; have BK294 := n3_; have HB := n4_; clear n0_ n1_ n2_ n3_ n4_; (try clear hb); (try clear hb2); (try clear hk); (try clear hi); (try clear ho0)) | ((with_reducible refine gate_dst (N := 8) rfl ?_); refine box_event ?hg (N := 8) ?hd (cs := #[.int .i64 0, .int .i64 0, .int .i64 0, .int .i64 0, .int .i64 0, .int .i64 0, .int .i64 0]) (t := 49) ?hr ?_; (case hd => rfl); (case hg => rfl); (case hr => first | (go_simp; done) | (go_simp; rfl)); intro gb308 hg w136 hbox hb; have n0_ := Aside0.mk (Kd.R_below (fr_ HO_4.out) hb); have n1_ := Aside0.mk (Kd.R_below (fr_ HO297.out) hb); have n2_ := Aside0.mk (Kd.R_below (fr_ HO307.out) hb); have n3_ := Aside0.mk (blk_below (g := gb294) (o := .cells #[.int .i64 x295000_1, .int .i64 x295001_1, .int .i64 x295002_1, .int .i64 x295003_1, .int .i64 x295004_1, .int .i64 x295005_1, .int .i64 x295006_1] 49 (0, 0)) (fb_ BK294.out) hb); have n4_ := Aside0.mk (below_step (bel_ HB.out) hb); have n5_ := Aside0.mk (hbox); have n6_ := Aside0.mk ((by rw [hg]; exact (below_size (bel_ HB.out)) : w.heap.size ≤ gb308)); have n7_ := Aside0.mk ((by rw [hg]; exact (below_size (bel_ HB.out)) : w.heap.size ≤ gb308)); have n8_ := Aside0.mk ((by rw [hg]; exact Nat.ne_of_lt (blk_lt (g := gb294) (o := .cells #[.int .i64 x295000_1, .int .i64 x295001_1, .int .i64 x295002_1, .int .i64 x295003_1, .int .i64 x295004_1, .int .i64 x295005_1, .int .i64 x295006_1] 49 (0, 0)) (fb_ BK294.out)) : gb294 ≠ gb308)); have n9_ := Aside0.mk ((by rw [hg]; exact Nat.ne_of_gt (blk_lt (g := gb294) (o := .cells #[.int .i64 x295000_1, .int .i64 x295001_1, .int .i64 x295002_1, .int .i64 x295003_1, .int .i64 x295004_1, .int .i64 x295005_1, .int .i64 x295006_1] 49 (0, 0)) (fb_ BK294.out)) : gb308 ≠ gb294)); clear HO_4; clear HO297; clear HO307; clear BK294; clear HB; have HO_4 := n0_; have HO297 := n1_; have HO307 := n2_; have BK294 := n3_; have HB := n4_; have BK308 := n5_; have GW308 := n6_; have GE308 := n7_; have NB294_308 := n8_; have NB308_294 := n9_; clear n0_ n1_ n2_ n3_ n4_ n5_ n6_ n7_ n8_ n9_; clear hb hbox hg; have hnb137 := NB308_294.out; have hnc137 := NB294_308.out; have hcz138_0 : w136.cell? ⟨gb308, 0, none⟩ = some (.int .i64 0) := (blk_cell BK308.out 0).trans rfl; have hcz138_1 : w136.cell? ⟨gb308, 1, none⟩ = some (.int .i64 0) := (blk_cell BK308.out 1).trans rfl; have hcz138_2 : w136.cell? ⟨gb308, 2, none⟩ = some (.int .i64 0) := (blk_cell BK308.out 2).trans rfl; have hcz138_3 : w136.cell? ⟨gb308, 3, none⟩ = some (.int .i64 0) := (blk_cell BK308.out 3).trans rfl; have hcz138_4 : w136.cell? ⟨gb308, 4, none⟩ = some (.int .i64 0) := (blk_cell BK308.out 4).trans rfl; have hcz138_5 : w136.cell? ⟨gb308, 5, none⟩ = some (.int .i64 0) := (blk_cell BK308.out 5).trans rfl; have hcz138_6 : w136.cell? ⟨gb308, 6, none⟩ = some (.int .i64 0) := (blk_cell BK308.out 6).trans rfl; have hfz138_0 := blk_frozen BK308.out 0; have hfz138_1 := blk_frozen BK308.out 1; have hfz138_2 := blk_frozen BK308.out 2; have hfz138_3 := blk_frozen BK308.out 3; have hfz138_4 := blk_frozen BK308.out 4; have hfz138_5 := blk_frozen BK308.out 5; have hfz138_6 := blk_frozen BK308.out 6; obtain ⟨Ao139, co139, eo139⟩ := Kd.R_slice HO307.out; subst eo139; have p309 : 0 ≤ (0 : Int) := (by omega); have q309 : 0 < (t305.length : Int) := of_decide_eq_true (by first | (with_reducible assumption) | assumption); obtain ⟨ad309, e309, hx309_0⟩ := Kd.at_bool (Kd.R_reads' HO307.out).2.2 0 p309 q309; (try rw [← Nbq109.out] at hx309_0); (try rw [← Nbq112.out] at hx309_0); (try rw [← Nbq125.out] at hx309_0); (try rw [← Nbq128.out] at hx309_0); cases e309; have qi309 : (0 < t305.length) = True := eq_true (by omega); (try rw [show ((0 : Int)).toNat = 0 from rfl] at hx309_0); (try rw [Addr.add_zero'] at hx309_0); have hn309_0 : ad309.block ≠ gb308 := Kd.own_blk (Kd.R_ne HO307.out BK308.out (by decide)); have hn309_1 : ad309.block ≠ gb308 := Kd.own_blk (Kd.R_ne HO307.out BK308.out (by decide)); have hn309_2 : ad309.block ≠ gb308 := Kd.own_blk (Kd.R_ne HO307.out BK308.out (by decide)); have hn309_3 : ad309.block ≠ gb308 := Kd.own_blk (Kd.R_ne HO307.out BK308.out (by decide)); have hn309_4 : ad309.block ≠ gb308 := Kd.own_blk (Kd.R_ne HO307.out BK308.out (by decide)); have hn309_5 : ad309.block ≠ gb308 := Kd.own_blk (Kd.R_ne HO307.out BK308.out (by decide)); have hn309_6 : ad309.block ≠ gb308 := Kd.own_blk (Kd.R_ne HO307.out BK308.out (by decide)); replace hx309_0 := (cell_far (p := ⟨gb308, 0, none⟩) (by first | (rw [add_block]; exact hn309_0) | (show (Addr.add _ _).block ≠ _; rw [add_block]; exact hn309_0) | exact hn309_0) (.int .i64 t298)).trans hx309_0; replace hx309_0 := (cell_far (p := ⟨gb308, 1, none⟩) (by first | (rw [add_block]; exact hn309_1) | (show (Addr.add _ _).block ≠ _; rw [add_block]; exact hn309_1) | exact hn309_1) (.int .i64 t299)).trans hx309_0; replace hx309_0 := (cell_far (p := ⟨gb308, 2, none⟩) (by first | (rw [add_block]; exact hn309_2) | (show (Addr.add _ _).block ≠ _; rw [add_block]; exact hn309_2) | exact hn309_2) (.int .i64 t300)).trans hx309_0; replace hx309_0 := (cell_far (p := ⟨gb308, 3, none⟩) (by first | (rw [add_block]; exact hn309_3) | (show (Addr.add _ _).block ≠ _; rw [add_block]; exact hn309_3) | exact hn309_3) (.int .i64 t301)).trans hx309_0; replace hx309_0 := (cell_far (p := ⟨gb308, 4, none⟩) (by first | (rw [add_block]; exact hn309_4) | (show (Addr.add _ _).block ≠ _; rw [add_block]; exact hn309_4) | exact hn309_4) (.int .i64 t302)).trans hx309_0; replace hx309_0 := (cell_far (p := ⟨gb308, 5, none⟩) (by first | (rw [add_block]; exact hn309_5) | (show (Addr.add _ _).block ≠ _; rw [add_block]; exact hn309_5) | exact hn309_5) (.int .i64 t303)).trans hx309_0; replace hx309_0 := (cell_far (p := ⟨gb308, 6, none⟩) (by first | (rw [add_block]; exact hn309_6) | (show (Addr.add _ _).block ≠ _; rw [add_block]; exact hn309_6) | exact hn309_6) (.int .i64 t304)).trans hx309_0; clear hn309_0; clear hn309_1; clear hn309_2; clear hn309_3; clear hn309_4; clear hn309_5; clear hn309_6; replace p309 := eq_true p309; replace q309 := eq_true q309; have p310 : 0 ≤ (1 : Int) := (by omega); have q310 : 1 < (t305.length : Int) := of_decide_eq_true (by first | (with_reducible assumption) | assumption); obtain ⟨ad310, e310, hx310_0⟩ := Kd.at_bool (Kd.R_reads' HO307.out).2.2 1 p310 q310; (try rw [← Nbq109.out] at hx310_0); (try rw [← Nbq112.out] at hx310_0); (try rw [← Nbq125.out] at hx310_0); (try rw [← Nbq128.out] at hx310_0); obtain rfl : ad309 = ad310 := (by injection e310); (try simp only [show (1 : Int).toNat = 1 from rfl, Nat.reduceMul, Nat.reduceEqDiff, Go.Addr.add, ↓reduceIte] at hx310_0); have qi310 : (1 < t305.length) = True := eq_true (by omega); (try rw [show ((1 : Int)).toNat = 1 from rfl] at hx310_0); have hn310_0 : ad309.block ≠ gb308 := Kd.own_blk (Kd.R_ne HO307.out BK308.out (by decide)); have hn310_1 : ad309.block ≠ gb308 := Kd.own_blk (Kd.R_ne HO307.out BK308.out (by decide)); have hn310_2 : ad309.block ≠ gb308 := Kd.own_blk (Kd.R_ne HO307.out BK308.out (by decide)); have hn310_3 : ad309.block ≠ gb308 := Kd.own_blk (Kd.R_ne HO307.out BK308.out (by decide)); have hn310_4 : ad309.block ≠ gb308 := Kd.own_blk (Kd.R_ne HO307.out BK308.out (by decide)); have hn310_5 : ad309.block ≠ gb308 := Kd.own_blk (Kd.R_ne HO307.out BK308.out (by decide)); have hn310_6 : ad309.block ≠ gb308 := Kd.own_blk (Kd.R_ne HO307.out BK308.out (by decide)); replace hx310_0 := (cell_far (p := ⟨gb308, 0, none⟩) (by first | (rw [add_block]; exact hn310_0) | (show (Addr.add _ _).block ≠ _; rw [add_block]; exact hn310_0) | exact hn310_0) (.int .i64 t298)).trans hx310_0; replace hx310_0 := (cell_far (p := ⟨gb308, 1, none⟩) (by first | (rw [add_block]; exact hn310_1) | (show (Addr.add _ _).block ≠ _; rw [add_block]; exact hn310_1) | exact hn310_1) (.int .i64 t299)).trans hx310_0; replace hx310_0 := (cell_far (p := ⟨gb308, 2, none⟩) (by first | (rw [add_block]; exact hn310_2) | (show (Addr.add _ _).block ≠ _; rw [add_block]; exact hn310_2) | exact hn310_2) (.int .i64 t300)).trans hx310_0; replace hx310_0 := (cell_far (p := ⟨gb308, 3, none⟩) (by first | (rw [add_block]; exact hn310_3) | (show (Addr.add _ _).block ≠ _; rw [add_block]; exact hn310_3) | exact hn310_3) (.int .i64 t301)).trans hx310_0; replace hx310_0 := (cell_far (p := ⟨gb308, 4, none⟩) (by first | (rw [add_block]; exact hn310_4) | (show (Addr.add _ _).block ≠ _; rw [add_block]; exact hn310_4) | exact hn310_4) (.int .i64 t302)).trans hx310_0; replace hx310_0 := (cell_far (p := ⟨gb308, 5, none⟩) (by first | (rw [add_block]; exact hn310_5) | (show (Addr.add _ _).block ≠ _; rw [add_block]; exact hn310_5) | exact hn310_5) (.int .i64 t303)).trans hx310_0; replace hx310_0 := (cell_far (p := ⟨gb308, 6, none⟩) (by first | (rw [add_block]; exact hn310_6) | (show (Addr.add _ _).block ≠ _; rw [add_block]; exact hn310_6) | exact hn310_6) (.int .i64 t304)).trans hx310_0; clear hn310_0; clear hn310_1; clear hn310_2; clear hn310_3; clear hn310_4; clear hn310_5; clear hn310_6; replace p310 := eq_true p310; replace q310 := eq_true q310; have p311 : 0 ≤ (2 : Int) := (by omega); have q311 : 2 < (t305.length : Int) := of_decide_eq_true (by first | (with_reducible assumption) | assumption); obtain ⟨ad311, e311, hx311_0⟩ := Kd.at_bool (Kd.R_reads' HO307.out).2.2 2 p311 q311; (try rw [← Nbq109.out] at hx311_0); (try rw [← Nbq112.out] at hx311_0); (try rw [← Nbq125.out] at hx311_0); (try rw [← Nbq128.out] at hx311_0); obtain rfl : ad309 = ad311 := (by injection e311); (try simp only [show (2 : Int).toNat = 2 from rfl, Nat.reduceMul, Nat.reduceEqDiff, Go.Addr.add, ↓reduceIte] at hx311_0); have qi311 : (2 < t305.length) = True := eq_true (by omega); (try rw [show ((2 : Int)).toNat = 2 from rfl] at hx311_0); have hn311_0 : ad309.block ≠ gb308 := Kd.own_blk (Kd.R_ne HO307.out BK308.out (by decide)); have hn311_1 : ad309.block ≠ gb308 := Kd.own_blk (Kd.R_ne HO307.out BK308.out (by decide)); have hn311_2 : ad309.block ≠ gb308 := Kd.own_blk (Kd.R_ne HO307.out BK308.out (by decide)); have hn311_3 : ad309.block ≠ gb308 := Kd.own_blk (Kd.R_ne HO307.out BK308.out (by decide)); have hn311_4 : ad309.block ≠ gb308 := Kd.own_blk (Kd.R_ne HO307.out BK308.out (by decide)); have hn311_5 : ad309.block ≠ gb308 := Kd.own_blk (Kd.R_ne HO307.out BK308.out (by decide)); have hn311_6 : ad309.block ≠ gb308 := Kd.own_blk (Kd.R_ne HO307.out BK308.out (by decide)); replace hx311_0 := (cell_far (p := ⟨gb308, 0, none⟩) (by first | (rw [add_block]; exact hn311_0) | (show (Addr.add _ _).block ≠ _; rw [add_block]; exact hn311_0) | exact hn311_0) (.int .i64 t298)).trans hx311_0; replace hx311_0 := (cell_far (p := ⟨gb308, 1, none⟩) (by first | (rw [add_block]; exact hn311_1) | (show (Addr.add _ _).block ≠ _; rw [add_block]; exact hn311_1) | exact hn311_1) (.int .i64 t299)).trans hx311_0; replace hx311_0 := (cell_far (p := ⟨gb308, 2, none⟩) (by first | (rw [add_block]; exact hn311_2) | (show (Addr.add _ _).block ≠ _; rw [add_block]; exact hn311_2) | exact hn311_2) (.int .i64 t300)).trans hx311_0; replace hx311_0 := (cell_far (p := ⟨gb308, 3, none⟩) (by first | (rw [add_block]; exact hn311_3) | (show (Addr.add _ _).block ≠ _; rw [add_block]; exact hn311_3) | exact hn311_3) (.int .i64 t301)).trans hx311_0; replace hx311_0 := (cell_far (p := ⟨gb308, 4, none⟩) (by first | (rw [add_block]; exact hn311_4) | (show (Addr.add _ _).block ≠ _; rw [add_block]; exact hn311_4) | exact hn311_4) (.int .i64 t302)).trans hx311_0; replace hx311_0 := (cell_far (p := ⟨gb308, 5, none⟩) (by first | (rw [add_block]; exact hn311_5) | (show (Addr.add _ _).block ≠ _; rw [add_block]; exact hn311_5) | exact hn311_5) (.int .i64 t303)).trans hx311_0; replace hx311_0 := (cell_far (p := ⟨gb308, 6, none⟩) (by first | (rw [add_block]; exact hn311_6) | (show (Addr.add _ _).block ≠ _; rw [add_block]; exact hn311_6) | exact hn311_6) (.int .i64 t304)).trans hx311_0; clear hn311_0; clear hn311_1; clear hn311_2; clear hn311_3; clear hn311_4; clear hn311_5; clear hn311_6; replace p311 := eq_true p311; replace q311 := eq_true q311; have p312 : 0 ≤ (3 : Int) := (by omega); have q312 : 3 < (t305.length : Int) := of_decide_eq_true (by first | (with_reducible assumption) | assumption); obtain ⟨ad312, e312, hx312_0⟩ := Kd.at_bool (Kd.R_reads' HO307.out).2.2 3 p312 q312; (try rw [← Nbq109.out] at hx312_0); (try rw [← Nbq112.out] at hx312_0); (try rw [← Nbq125.out] at hx312_0); (try rw [← Nbq128.out] at hx312_0); obtain rfl : ad309 = ad312 := (by injection e312); (try simp only [show (3 : Int).toNat = 3 from rfl, Nat.reduceMul, Nat.reduceEqDiff, Go.Addr.add, ↓reduceIte] at hx312_0); have qi312 : (3 < t305.length) = True := eq_true (by omega); (try rw [show ((3 : Int)).toNat = 3 from rfl] at hx312_0); have hn312_0 : ad309.block ≠ gb308 := Kd.own_blk (Kd.R_ne HO307.out BK308.out (by decide)); have hn312_1 : ad309.block ≠ gb308 := Kd.own_blk (Kd.R_ne HO307.out BK308.out (by decide)); have hn312_2 : ad309.block ≠ gb308 := Kd.own_blk (Kd.R_ne HO307.out BK308.out (by decide)); have hn312_3 : ad309.block ≠ gb308 := Kd.own_blk (Kd.R_ne HO307.out BK308.out (by decide)); have hn312_4 : ad309.block ≠ gb308 := Kd.own_blk (Kd.R_ne HO307.out BK308.out (by decide)); have hn312_5 : ad309.block ≠ gb308 := Kd.own_blk (Kd.R_ne HO307.out BK308.out (by decide)); have hn312_6 : ad309.block ≠ gb308 := Kd.own_blk (Kd.R_ne HO307.out BK308.out (by decide)); replace hx312_0 := (cell_far (p := ⟨gb308, 0, none⟩) (by first | (rw [add_block]; exact hn312_0) | (show (Addr.add _ _).block ≠ _; rw [add_block]; exact hn312_0) | exact hn312_0) (.int .i64 t298)).trans hx312_0; replace hx312_0 := (cell_far (p := ⟨gb308, 1, none⟩) (by first | (rw [add_block]; exact hn312_1) | (show (Addr.add _ _).block ≠ _; rw [add_block]; exact hn312_1) | exact hn312_1) (.int .i64 t299)).trans hx312_0; replace hx312_0 := (cell_far (p := ⟨gb308, 2, none⟩) (by first | (rw [add_block]; exact hn312_2) | (show (Addr.add _ _).block ≠ _; rw [add_block]; exact hn312_2) | exact hn312_2) (.int .i64 t300)).trans hx312_0; replace hx312_0 := (cell_far (p := ⟨gb308, 3, none⟩) (by first | (rw [add_block]; exact hn312_3) | (show (Addr.add _ _).block ≠ _; rw [add_block]; exact hn312_3) | exact hn312_3) (.int .i64 t301)).trans hx312_0; replace hx312_0 := (cell_far (p := ⟨gb308, 4, none⟩) (by first | (rw [add_block]; exact hn312_4) | (show (Addr.add _ _).block ≠ _; rw [add_block]; exact hn312_4) | exact hn312_4) (.int .i64 t302)).trans hx312_0; replace hx312_0 := (cell_far (p := ⟨gb308, 5, none⟩) (by first | (rw [add_block]; exact hn312_5) | (show (Addr.add _ _).block ≠ _; rw [add_block]; exact hn312_5) | exact hn312_5) (.int .i64 t303)).trans hx312_0; replace hx312_0 := (cell_far (p := ⟨gb308, 6, none⟩) (by first | (rw [add_block]; exact hn312_6) | (show (Addr.add _ _).block ≠ _; rw [add_block]; exact hn312_6) | exact hn312_6) (.int .i64 t304)).trans hx312_0; clear hn312_0; clear hn312_1; clear hn312_2; clear hn312_3; clear hn312_4; clear hn312_5; clear hn312_6; replace p312 := eq_true p312; replace q312 := eq_true q312))
              go_ret
              exact ⟨by first | rfl | (simp [errW_none, errW_some] <;> rfl) | (simp [*, errW_none, errW_some] <;> rfl), bel_ HB.out⟩
             ·replace c129 := Bool.eq_false_iff.mpr c129
              subst c129
              have H1 : (some false) = some r := by rw [if_neg (show ¬ (false = true) by decide)] at H; exact H
              clear H
              have H := H1
              clear H1
              obtain rfl := Option.some.inj H
              obtain ⟨Ao140, co140, eo140⟩ := Kd.R_slice HO_4.out
              subst eo140
              have hcz141_0 : wr.cell? ⟨gb294, 0, none⟩ = some (.int .i64 x295000_1) := (blk_cell BK294.out 0).trans rfl
              have hcz141_1 : wr.cell? ⟨gb294, 1, none⟩ = some (.int .i64 x295001_1) := (blk_cell BK294.out 1).trans rfl
              have hcz141_2 : wr.cell? ⟨gb294, 2, none⟩ = some (.int .i64 x295002_1) := (blk_cell BK294.out 2).trans rfl
              have hcz141_3 : wr.cell? ⟨gb294, 3, none⟩ = some (.int .i64 x295003_1) := (blk_cell BK294.out 3).trans rfl
              have hcz141_4 : wr.cell? ⟨gb294, 4, none⟩ = some (.int .i64 x295004_1) := (blk_cell BK294.out 4).trans rfl
              have hcz141_5 : wr.cell? ⟨gb294, 5, none⟩ = some (.int .i64 x295005_1) := (blk_cell BK294.out 5).trans rfl
              have hcz141_6 : wr.cell? ⟨gb294, 6, none⟩ = some (.int .i64 x295006_1) := (blk_cell BK294.out 6).trans rfl
              have hfz141_0 := blk_frozen BK294.out 0
              have hfz141_1 := blk_frozen BK294.out 1
              have hfz141_2 := blk_frozen BK294.out 2
              have hfz141_3 := blk_frozen BK294.out 3
              have hfz141_4 := blk_frozen BK294.out 4
              have hfz141_5 := blk_frozen BK294.out 5
              have hfz141_6 := blk_frozen BK294.out 6
              go_wp2_with (first | ((with_reducible refine gate_dst (N := 118) rfl ?_); refine Kd.R_lit k56 _ 56 ?hg (N := 118) ?hd (xs := ([(⟨4, 0⟩ : S56), (⟨1, 0⟩ : S56), (⟨5, 0⟩ : S56), (⟨3, 0⟩ : S56)] : List (S56))) (inner := [.int .i64 4, .int .i64 0, .int .i64 1, .int .i64 0, .int .i64 5, .int .i64 0, .int .i64 3, .int .i64 0]) (ok := fun _ => True) (okp := fun _ => True) ?hr ?hp (fun _ hk => hk) trivial (Below.refl _ _) (Nat.le_refl _) (by simp) ?_; (case hd => rfl); (case hg => rfl); (case hr => first | (go_simp; done) | (go_simp; rfl)); (case hp => exact (Reps.c2 (show Kd.M k56 _ _ _ (⟨4, 0⟩ : S56) [.int .i64 4, .int .i64 0] from (k56_mkM _ _ _ (⟨4, 0⟩ : S56) )) (Reps.c2 (show Kd.M k56 _ _ _ (⟨1, 0⟩ : S56) [.int .i64 1, .int .i64 0] from (k56_mkM _ _ _ (⟨1, 0⟩ : S56) )) (Reps.c2 (show Kd.M k56 _ _ _ (⟨5, 0⟩ : S56) [.int .i64 5, .int .i64 0] from (k56_mkM _ _ _ (⟨5, 0⟩ : S56) )) (Reps.c2 (show Kd.M k56 _ _ _ (⟨3, 0⟩ : S56) [.int .i64 3, .int .i64 0] from (k56_mkM _ _ _ (⟨3, 0⟩ : S56) )) (Reps.none _ _)))))); intro v296 w142 ho143 hb hg_ hnew_; clear hg_ hnew_; (first | rw [← Ny295.out] at ho143 | (simp only [Int.reduceToNat] at ho143; rw [← Ny295.out] at ho143)); have n0_ := Aside0.mk (Kd.R_elder' (fr_ HO_4.out) (Kd.R_base ho143) hb); have n1_ := Aside0.mk (Kd.R_lower (Kd.R_new' ho143 (Kd.R_lt (fr_ HO_4.out))) (below_size (bel_ HB.out))); have n2_ := Aside0.mk (blk_below (g := gb294) (o := .cells #[.int .i64 x295000_1, .int .i64 x295001_1, .int .i64 x295002_1, .int .i64 x295003_1, .int .i64 x295004_1, .int .i64 x295005_1, .int .i64 x295006_1] 49 (0, 0)) (fb_ BK294.out) hb); have n3_ := Aside0.mk (below_step (bel_ HB.out) hb); clear HO_4; clear BK294; clear HB; have HO_4 := n0_; have HO297 := n1_; have BK294 := n2_; have HB := n3_; clear n0_ n1_ n2_ n3_; clear hb ho143; obtain ⟨Ao144, co144, eo144⟩ := Kd.R_slice HO297.out; subst eo144) | ((with_reducible refine gate_callee (f := 28) rfl ?_); refine goesL_ (some 119) rfl rfl Try.func28 (by kernel_rfl) rfl #[.agg #[.int .i64 x295000_1, .int .i64 x295001_1, .int .i64 x295002_1, .int .i64 x295003_1, .int .i64 x295004_1, .int .i64 x295005_1, .int .i64 x295006_1], .slice Ao144 y295.length co144] rfl (by (try simp only [List.map_toArray, List.map_cons, List.map_nil]); first | done | rfl | (simp only [List.length_drop, List.length_take]; rfl)) ?_; (with_reducible refine (impl_RunSignals.calls k1 x295000_1 x295001_1 x295002_1 x295003_1 x295004_1 x295005_1 x295006_1 _ _ y295 t298 t299 t300 t301 t302 t303 t304 t305 _ ?side1 ?side2 A106.out).mono ?_); (case side1 => repeat (first | exact (Kd.R_reads' HO297.out).2.2 | (with_reducible refine Kd.C_alloc ?_ _) | (with_reducible refine Kd.C_drewN ?_ _) | (with_reducible refine Kd.C_drew ?_))); (case side2 => exact (Kd.R_reads' HO297.out).2.1); rintro e w145 ⟨v306, rfl, ho0, hb⟩; refine ⟨_, rfl, ?_⟩; have n0_ := Aside0.mk (Kd.R_below (fr_ HO_4.out) hb); have n1_ := Aside0.mk (Kd.R_below (fr_ HO297.out) hb); have n2_ := Aside0.mk (Kd.R_lower ho0 (below_size (bel_ HB.out))); have n3_ := Aside0.mk (blk_below (g := gb294) (o := .cells #[.int .i64 x295000_1, .int .i64 x295001_1, .int .i64 x295002_1, .int .i64 x295003_1, .int .i64 x295004_1, .int .i64 x295005_1, .int .i64 x295006_1] 49 (0, 0)) (fb_ BK294.out) hb); have n4_ := Aside0.mk (below_step (bel_ HB.out) hb); clear HO_4; clear HO297; clear BK294; clear HB; have HO_4 := n0_; have HO297 := n1_; have HO307 := n2_; have BK294 := n3_; have HB := n4_; clear n0_ n1_ n2_ n3_ n4_; (try clear hb); (try clear hb2); (try clear hk); (try clear hi); (try clear ho0)) | ((with_reducible refine gate_dst (N := 8) rfl ?_); refine box_event ?hg (N := 8) ?hd (cs := #[.int .i64 0, .int .i64 0, .int .i64 0, .int .i64 0, .int .i64 0, .int .i64 0, .int .i64 0]) (t := 49) ?hr ?_; (case hd => rfl); (case hg => rfl); (case hr => first | (go_simp; done) | (go_simp; rfl)); intro gb308 hg w146 hbox hb; have n0_ := Aside0.mk (Kd.R_below (fr_ HO_4.out) hb); have n1_ := Aside0.mk (Kd.R_below (fr_ HO297.out) hb); have n2_ := Aside0.mk (Kd.R_below (fr_ HO307.out) hb); have n3_ := Aside0.mk (blk_below (g := gb294) (o := .cells #[.int .i64 x295000_1, .int .i64 x295001_1, .int .i64 x295002_1, .int .i64 x295003_1, .int .i64 x295004_1, .int .i64 x295005_1, .int .i64 x295006_1] 49 (0, 0)) (fb_ BK294.out) hb); have n4_ := Aside0.mk (below_step (bel_ HB.out) hb); have n5_ := Aside0.mk (hbox); have n6_ := Aside0.mk ((by rw [hg]; exact (below_size (bel_ HB.out)) : w.heap.size ≤ gb308)); have n7_ := Aside0.mk ((by rw [hg]; exact (below_size (bel_ HB.out)) : w.heap.size ≤ gb308)); have n8_ := Aside0.mk ((by rw [hg]; exact Nat.ne_of_lt (blk_lt (g := gb294) (o := .cells #[.int .i64 x295000_1, .int .i64 x295001_1, .int .i64 x295002_1, .int .i64 x295003_1, .int .i64 x295004_1, .int .i64 x295005_1, .int .i64 x295006_1] 49 (0, 0)) (fb_ BK294.out)) : gb294 ≠ gb308)); have n9_ := Aside0.mk ((by rw [hg]; exact Nat.ne_of_gt (blk_lt (g := gb294) (o := .cells #[.int .i64 x295000_1, .int .i64 x295001_1, .int .i64 x295002_1, .int .i64 x295003_1, .int .i64 x295004_1, .int .i64 x295005_1, .int .i64 x295006_1] 49 (0, 0)) (fb_ BK294.out)) : gb308 ≠ gb294)); clear HO_4; clear HO297; clear HO307; clear BK294; clear HB; have HO_4 := n0_; have HO297 := n1_; have HO307 := n2_; have BK294 := n3_; have HB := n4_; have BK308 := n5_; have GW308 := n6_; have GE308 := n7_; have NB294_308 := n8_; have NB308_294 := n9_; clear n0_ n1_ n2_ n3_ n4_ n5_ n6_ n7_ n8_ n9_; clear hb hbox hg; have hnb147 := NB308_294.out; have hnc147 := NB294_308.out; have hcz148_0 : w146.cell? ⟨gb308, 0, none⟩ = some (.int .i64 0) := (blk_cell BK308.out 0).trans rfl; have hcz148_1 : w146.cell? ⟨gb308, 1, none⟩ = some (.int .i64 0) := (blk_cell BK308.out 1).trans rfl; have hcz148_2 : w146.cell? ⟨gb308, 2, none⟩ = some (.int .i64 0) := (blk_cell BK308.out 2).trans rfl; have hcz148_3 : w146.cell? ⟨gb308, 3, none⟩ = some (.int .i64 0) := (blk_cell BK308.out 3).trans rfl; have hcz148_4 : w146.cell? ⟨gb308, 4, none⟩ = some (.int .i64 0) := (blk_cell BK308.out 4).trans rfl; have hcz148_5 : w146.cell? ⟨gb308, 5, none⟩ = some (.int .i64 0) := (blk_cell BK308.out 5).trans rfl; have hcz148_6 : w146.cell? ⟨gb308, 6, none⟩ = some (.int .i64 0) := (blk_cell BK308.out 6).trans rfl; have hfz148_0 := blk_frozen BK308.out 0; have hfz148_1 := blk_frozen BK308.out 1; have hfz148_2 := blk_frozen BK308.out 2; have hfz148_3 := blk_frozen BK308.out 3; have hfz148_4 := blk_frozen BK308.out 4; have hfz148_5 := blk_frozen BK308.out 5; have hfz148_6 := blk_frozen BK308.out 6; obtain ⟨Ao149, co149, eo149⟩ := Kd.R_slice HO307.out; subst eo149; have p309 : 0 ≤ (0 : Int) := (by omega); have q309 : 0 < (t305.length : Int) := of_decide_eq_true (by first | (with_reducible assumption) | assumption); obtain ⟨ad309, e309, hx309_0⟩ := Kd.at_bool (Kd.R_reads' HO307.out).2.2 0 p309 q309; (try rw [← Nbq109.out] at hx309_0); (try rw [← Nbq112.out] at hx309_0); (try rw [← Nbq125.out] at hx309_0); (try rw [← Nbq128.out] at hx309_0); cases e309; have qi309 : (0 < t305.length) = True := eq_true (by omega); (try rw [show ((0 : Int)).toNat = 0 from rfl] at hx309_0); (try rw [Addr.add_zero'] at hx309_0); have hn309_0 : ad309.block ≠ gb308 := Kd.own_blk (Kd.R_ne HO307.out BK308.out (by decide)); have hn309_1 : ad309.block ≠ gb308 := Kd.own_blk (Kd.R_ne HO307.out BK308.out (by decide)); have hn309_2 : ad309.block ≠ gb308 := Kd.own_blk (Kd.R_ne HO307.out BK308.out (by decide)); have hn309_3 : ad309.block ≠ gb308 := Kd.own_blk (Kd.R_ne HO307.out BK308.out (by decide)); have hn309_4 : ad309.block ≠ gb308 := Kd.own_blk (Kd.R_ne HO307.out BK308.out (by decide)); have hn309_5 : ad309.block ≠ gb308 := Kd.own_blk (Kd.R_ne HO307.out BK308.out (by decide)); have hn309_6 : ad309.block ≠ gb308 := Kd.own_blk (Kd.R_ne HO307.out BK308.out (by decide)); replace hx309_0 := (cell_far (p := ⟨gb308, 0, none⟩) (by first | (rw [add_block]; exact hn309_0) | (show (Addr.add _ _).block ≠ _; rw [add_block]; exact hn309_0) | exact hn309_0) (.int .i64 t298)).trans hx309_0; replace hx309_0 := (cell_far (p := ⟨gb308, 1, none⟩) (by first | (rw [add_block]; exact hn309_1) | (show (Addr.add _ _).block ≠ _; rw [add_block]; exact hn309_1) | exact hn309_1) (.int .i64 t299)).trans hx309_0; replace hx309_0 := (cell_far (p := ⟨gb308, 2, none⟩) (by first | (rw [add_block]; exact hn309_2) | (show (Addr.add _ _).block ≠ _; rw [add_block]; exact hn309_2) | exact hn309_2) (.int .i64 t300)).trans hx309_0; replace hx309_0 := (cell_far (p := ⟨gb308, 3, none⟩) (by first | (rw [add_block]; exact hn309_3) | (show (Addr.add _ _).block ≠ _; rw [add_block]; exact hn309_3) | exact hn309_3) (.int .i64 t301)).trans hx309_0; replace hx309_0 := (cell_far (p := ⟨gb308, 4, none⟩) (by first | (rw [add_block]; exact hn309_4) | (show (Addr.add _ _).block ≠ _; rw [add_block]; exact hn309_4) | exact hn309_4) (.int .i64 t302)).trans hx309_0; replace hx309_0 := (cell_far (p := ⟨gb308, 5, none⟩) (by first | (rw [add_block]; exact hn309_5) | (show (Addr.add _ _).block ≠ _; rw [add_block]; exact hn309_5) | exact hn309_5) (.int .i64 t303)).trans hx309_0; replace hx309_0 := (cell_far (p := ⟨gb308, 6, none⟩) (by first | (rw [add_block]; exact hn309_6) | (show (Addr.add _ _).block ≠ _; rw [add_block]; exact hn309_6) | exact hn309_6) (.int .i64 t304)).trans hx309_0; clear hn309_0; clear hn309_1; clear hn309_2; clear hn309_3; clear hn309_4; clear hn309_5; clear hn309_6; replace p309 := eq_true p309; replace q309 := eq_true q309; have p310 : 0 ≤ (1 : Int) := (by omega); have q310 : 1 < (t305.length : Int) := of_decide_eq_true (by first | (with_reducible assumption) | assumption); obtain ⟨ad310, e310, hx310_0⟩ := Kd.at_bool (Kd.R_reads' HO307.out).2.2 1 p310 q310; (try rw [← Nbq109.out] at hx310_0); (try rw [← Nbq112.out] at hx310_0); (try rw [← Nbq125.out] at hx310_0); (try rw [← Nbq128.out] at hx310_0); obtain rfl : ad309 = ad310 := (by injection e310); (try simp only [show (1 : Int).toNat = 1 from rfl, Nat.reduceMul, Nat.reduceEqDiff, Go.Addr.add, ↓reduceIte] at hx310_0); have qi310 : (1 < t305.length) = True := eq_true (by omega); (try rw [show ((1 : Int)).toNat = 1 from rfl] at hx310_0); have hn310_0 : ad309.block ≠ gb308 := Kd.own_blk (Kd.R_ne HO307.out BK308.out (by decide)); have hn310_1 : ad309.block ≠ gb308 := Kd.own_blk (Kd.R_ne HO307.out BK308.out (by decide)); have hn310_2 : ad309.block ≠ gb308 := Kd.own_blk (Kd.R_ne HO307.out BK308.out (by decide)); have hn310_3 : ad309.block ≠ gb308 := Kd.own_blk (Kd.R_ne HO307.out BK308.out (by decide)); have hn310_4 : ad309.block ≠ gb308 := Kd.own_blk (Kd.R_ne HO307.out BK308.out (by decide)); have hn310_5 : ad309.block ≠ gb308 := Kd.own_blk (Kd.R_ne HO307.out BK308.out (by decide)); have hn310_6 : ad309.block ≠ gb308 := Kd.own_blk (Kd.R_ne HO307.out BK308.out (by decide)); replace hx310_0 := (cell_far (p := ⟨gb308, 0, none⟩) (by first | (rw [add_block]; exact hn310_0) | (show (Addr.add _ _).block ≠ _; rw [add_block]; exact hn310_0) | exact hn310_0) (.int .i64 t298)).trans hx310_0; replace hx310_0 := (cell_far (p := ⟨gb308, 1, none⟩) (by first | (rw [add_block]; exact hn310_1) | (show (Addr.add _ _).block ≠ _; rw [add_block]; exact hn310_1) | exact hn310_1) (.int .i64 t299)).trans hx310_0; replace hx310_0 := (cell_far (p := ⟨gb308, 2, none⟩) (by first | (rw [add_block]; exact hn310_2) | (show (Addr.add _ _).block ≠ _; rw [add_block]; exact hn310_2) | exact hn310_2) (.int .i64 t300)).trans hx310_0; replace hx310_0 := (cell_far (p := ⟨gb308, 3, none⟩) (by first | (rw [add_block]; exact hn310_3) | (show (Addr.add _ _).block ≠ _; rw [add_block]; exact hn310_3) | exact hn310_3) (.int .i64 t301)).trans hx310_0; replace hx310_0 := (cell_far (p := ⟨gb308, 4, none⟩) (by first | (rw [add_block]; exact hn310_4) | (show (Addr.add _ _).block ≠ _; rw [add_block]; exact hn310_4) | exact hn310_4) (.int .i64 t302)).trans hx310_0; replace hx310_0 := (cell_far (p := ⟨gb308, 5, none⟩) (by first | (rw [add_block]; exact hn310_5) | (show (Addr.add _ _).block ≠ _; rw [add_block]; exact hn310_5) | exact hn310_5) (.int .i64 t303)).trans hx310_0; replace hx310_0 := (cell_far (p := ⟨gb308, 6, none⟩) (by first | (rw [add_block]; exact hn310_6) | (show (Addr.add _ _).block ≠ _; rw [add_block]; exact hn310_6) | exact hn310_6) (.int .i64 t304)).trans hx310_0; clear hn310_0; clear hn310_1; clear hn310_2; clear hn310_3; clear hn310_4; clear hn310_5; clear hn310_6; replace p310 := eq_true p310; replace q310 := eq_true q310; have p311 : 0 ≤ (2 : Int) := (by omega); have q311 : 2 < (t305.length : Int) := of_decide_eq_true (by first | (with_reducible assumption) | assumption); obtain ⟨ad311, e311, hx311_0⟩ := Kd.at_bool (Kd.R_reads' HO307.out).2.2 2 p311 q311; (try rw [← Nbq109.out] at hx311_0); (try rw [← Nbq112.out] at hx311_0); (try rw [← Nbq125.out] at hx311_0); (try rw [← Nbq128.out] at hx311_0); obtain rfl : ad309 = ad311 := (by injection e311); (try simp only [show (2 : Int).toNat = 2 from rfl, Nat.reduceMul, Nat.reduceEqDiff, Go.Addr.add, ↓reduceIte] at hx311_0); have qi311 : (2 < t305.length) = True := eq_true (by omega); (try rw [show ((2 : Int)).toNat = 2 from rfl] at hx311_0); have hn311_0 : ad309.block ≠ gb308 := Kd.own_blk (Kd.R_ne HO307.out BK308.out (by decide)); have hn311_1 : ad309.block ≠ gb308 := Kd.own_blk (Kd.R_ne HO307.out BK308.out (by decide)); have hn311_2 : ad309.block ≠ gb308 := Kd.own_blk (Kd.R_ne HO307.out BK308.out (by decide)); have hn311_3 : ad309.block ≠ gb308 := Kd.own_blk (Kd.R_ne HO307.out BK308.out (by decide)); have hn311_4 : ad309.block ≠ gb308 := Kd.own_blk (Kd.R_ne HO307.out BK308.out (by decide)); have hn311_5 : ad309.block ≠ gb308 := Kd.own_blk (Kd.R_ne HO307.out BK308.out (by decide)); have hn311_6 : ad309.block ≠ gb308 := Kd.own_blk (Kd.R_ne HO307.out BK308.out (by decide)); replace hx311_0 := (cell_far (p := ⟨gb308, 0, none⟩) (by first | (rw [add_block]; exact hn311_0) | (show (Addr.add _ _).block ≠ _; rw [add_block]; exact hn311_0) | exact hn311_0) (.int .i64 t298)).trans hx311_0; replace hx311_0 := (cell_far (p := ⟨gb308, 1, none⟩) (by first | (rw [add_block]; exact hn311_1) | (show (Addr.add _ _).block ≠ _; rw [add_block]; exact hn311_1) | exact hn311_1) (.int .i64 t299)).trans hx311_0; replace hx311_0 := (cell_far (p := ⟨gb308, 2, none⟩) (by first | (rw [add_block]; exact hn311_2) | (show (Addr.add _ _).block ≠ _; rw [add_block]; exact hn311_2) | exact hn311_2) (.int .i64 t300)).trans hx311_0; replace hx311_0 := (cell_far (p := ⟨gb308, 3, none⟩) (by first | (rw [add_block]; exact hn311_3) | (show (Addr.add _ _).block ≠ _; rw [add_block]; exact hn311_3) | exact hn311_3) (.int .i64 t301)).trans hx311_0; replace hx311_0 := (cell_far (p := ⟨gb308, 4, none⟩) (by first | (rw [add_block]; exact hn311_4) | (show (Addr.add _ _).block ≠ _; rw [add_block]; exact hn311_4) | exact hn311_4) (.int .i64 t302)).trans hx311_0; replace hx311_0 := (cell_far (p := ⟨gb308, 5, none⟩) (by first | (rw [add_block]; exact hn311_5) | (show (Addr.add _ _).block ≠ _; rw [add_block]; exact hn311_5) | exact hn311_5) (.int .i64 t303)).trans hx311_0; replace hx311_0 := (cell_far (p := ⟨gb308, 6, none⟩) (by first | (rw [add_block]; exact hn311_6) | (show (Addr.add _ _).block ≠ _; rw [add_block]; exact hn311_6) | exact hn311_6) (.int .i64 t304)).trans hx311_0; clear hn311_0; clear hn311_1; clear hn311_2; clear hn311_3; clear hn311_4; clear hn311_5; clear hn311_6; replace p311 := eq_true p311; replace q311 := eq_true q311; have p312 : 0 ≤ (3 : Int) := (by omega); have q312 : 3 < (t305.length : Int) := of_decide_eq_true (by first | (with_reducible assumption) | assumption); obtain ⟨ad312, e312, hx312_0⟩ := Kd.at_bool (Kd.R_reads' HO307.out).2.2 3 p312 q312; (try rw [← Nbq109.out] at hx312_0); (try rw [← Nbq112.out] at hx312_0); (try rw [← Nbq125.out] at hx312_0); (try rw [← Nbq128.out] at hx312_0); obtain rfl : ad309 = ad312 := (by injection e312); (try simp only [show (3 : Int).toNat = 3 from rfl, Nat.reduceMul, Nat.reduceEqDiff, Go.Addr.add, ↓reduceIte] at hx312_0); have qi312 : (3 < t305.length) = True := eq_true (by omega); (try rw [show ((3 : Int)).toNat = 3 from rfl] at hx312_0); have hn312_0 : ad309.block ≠ gb308 := Kd.own_blk (Kd.R_ne HO307.out BK308.out (by decide)); have hn312_1 : ad309.block ≠ gb308 := Kd.own_blk (Kd.R_ne HO307.out BK308.out (by decide)); have hn312_2 : ad309.block ≠ gb308 := Kd.own_blk (Kd.R_ne HO307.out BK308.out (by decide)); have hn312_3 : ad309.block ≠ gb308 := Kd.own_blk (Kd.R_ne HO307.out BK308.out (by decide)); have hn312_4 : ad309.block ≠ gb308 := Kd.own_blk (Kd.R_ne HO307.out BK308.out (by decide)); have hn312_5 : ad309.block ≠ gb308 := Kd.own_blk (Kd.R_ne HO307.out BK308.out (by decide)); have hn312_6 : ad309.block ≠ gb308 := Kd.own_blk (Kd.R_ne HO307.out BK308.out (by decide)); replace hx312_0 := (cell_far (p := ⟨gb308, 0, none⟩) (by first | (rw [add_block]; exact hn312_0) | (show (Addr.add _ _).block ≠ _; rw [add_block]; exact hn312_0) | exact hn312_0) (.int .i64 t298)).trans hx312_0; replace hx312_0 := (cell_far (p := ⟨gb308, 1, none⟩) (by first | (rw [add_block]; exact hn312_1) | (show (Addr.add _ _).block ≠ _; rw [add_block]; exact hn312_1) | exact hn312_1) (.int .i64 t299)).trans hx312_0; replace hx312_0 := (cell_far (p := ⟨gb308, 2, none⟩) (by first | (rw [add_block]; exact hn312_2) | (show (Addr.add _ _).block ≠ _; rw [add_block]; exact hn312_2) | exact hn312_2) (.int .i64 t300)).trans hx312_0; replace hx312_0 := (cell_far (p := ⟨gb308, 3, none⟩) (by first | (rw [add_block]; exact hn312_3) | (show (Addr.add _ _).block ≠ _; rw [add_block]; exact hn312_3) | exact hn312_3) (.int .i64 t301)).trans hx312_0; replace hx312_0 := (cell_far (p := ⟨gb308, 4, none⟩) (by first | (rw [add_block]; exact hn312_4) | (show (Addr.add _ _).block ≠ _; rw [add_block]; exact hn312_4) | exact hn312_4) (.int .i64 t302)).trans hx312_0; replace hx312_0 := (cell_far (p := ⟨gb308, 5, none⟩) (by first | (rw [add_block]; exact hn312_5) | (show (Addr.add _ _).block ≠ _; rw [add_block]; exact hn312_5) | exact hn312_5) (.int .i64 t303)).trans hx312_0; replace hx312_0 := (cell_far (p := ⟨gb308, 6, none⟩) (by first | (rw [add_block]; exact hn312_6) | (show (Addr.add _ _).block ≠ _; rw [add_block]; exact hn312_6) | exact hn312_6) (.int .i64 t304)).trans hx312_0; clear hn312_0; clear hn312_1; clear hn312_2; clear hn312_3; clear hn312_4; clear hn312_5; clear hn312_6; replace p312 := eq_true p312; replace q312 := eq_true q312))
              go_ret
              exact ⟨by first | rfl | (simp [errW_none, errW_some] <;> rfl) | (simp [*, errW_none, errW_some] <;> rfl), bel_ HB.out⟩
            ·rw [if_neg c127] at H
             exact absurd H (by simp)
           ·replace c126 := Bool.eq_false_iff.mpr c126
            subst c126
            have H1 : (some false) = some r := by rw [if_neg (show ¬ (false = true) by decide)] at H; exact H
            clear H
            have H := H1
            clear H1
            obtain rfl := Option.some.inj H
            obtain ⟨Ao150, co150, eo150⟩ := Kd.R_slice HO_4.out
            subst eo150
            have hcz151_0 : wr.cell? ⟨gb294, 0, none⟩ = some (.int .i64 x295000_1) := (blk_cell BK294.out 0).trans rfl
            have hcz151_1 : wr.cell? ⟨gb294, 1, none⟩ = some (.int .i64 x295001_1) := (blk_cell BK294.out 1).trans rfl
            have hcz151_2 : wr.cell? ⟨gb294, 2, none⟩ = some (.int .i64 x295002_1) := (blk_cell BK294.out 2).trans rfl
            have hcz151_3 : wr.cell? ⟨gb294, 3, none⟩ = some (.int .i64 x295003_1) := (blk_cell BK294.out 3).trans rfl
            have hcz151_4 : wr.cell? ⟨gb294, 4, none⟩ = some (.int .i64 x295004_1) := (blk_cell BK294.out 4).trans rfl
            have hcz151_5 : wr.cell? ⟨gb294, 5, none⟩ = some (.int .i64 x295005_1) := (blk_cell BK294.out 5).trans rfl
            have hcz151_6 : wr.cell? ⟨gb294, 6, none⟩ = some (.int .i64 x295006_1) := (blk_cell BK294.out 6).trans rfl
            have hfz151_0 := blk_frozen BK294.out 0
            have hfz151_1 := blk_frozen BK294.out 1
            have hfz151_2 := blk_frozen BK294.out 2
            have hfz151_3 := blk_frozen BK294.out 3
            have hfz151_4 := blk_frozen BK294.out 4
            have hfz151_5 := blk_frozen BK294.out 5
            have hfz151_6 := blk_frozen BK294.out 6
            go_wp2_with (first | ((with_reducible refine gate_dst (N := 118) rfl ?_); refine Kd.R_lit k56 _ 56 ?hg (N := 118) ?hd (xs := ([(⟨4, 0⟩ : S56), (⟨1, 0⟩ : S56), (⟨5, 0⟩ : S56), (⟨3, 0⟩ : S56)] : List (S56))) (inner := [.int .i64 4, .int .i64 0, .int .i64 1, .int .i64 0, .int .i64 5, .int .i64 0, .int .i64 3, .int .i64 0]) (ok := fun _ => True) (okp := fun _ => True) ?hr ?hp (fun _ hk => hk) trivial (Below.refl _ _) (Nat.le_refl _) (by simp) ?_; (case hd => rfl); (case hg => rfl); (case hr => first | (go_simp; done) | (go_simp; rfl)); (case hp => exact (Reps.c2 (show Kd.M k56 _ _ _ (⟨4, 0⟩ : S56) [.int .i64 4, .int .i64 0] from (k56_mkM _ _ _ (⟨4, 0⟩ : S56) )) (Reps.c2 (show Kd.M k56 _ _ _ (⟨1, 0⟩ : S56) [.int .i64 1, .int .i64 0] from (k56_mkM _ _ _ (⟨1, 0⟩ : S56) )) (Reps.c2 (show Kd.M k56 _ _ _ (⟨5, 0⟩ : S56) [.int .i64 5, .int .i64 0] from (k56_mkM _ _ _ (⟨5, 0⟩ : S56) )) (Reps.c2 (show Kd.M k56 _ _ _ (⟨3, 0⟩ : S56) [.int .i64 3, .int .i64 0] from (k56_mkM _ _ _ (⟨3, 0⟩ : S56) )) (Reps.none _ _)))))); intro v296 w152 ho153 hb hg_ hnew_; clear hg_ hnew_; (first | rw [← Ny295.out] at ho153 | (simp only [Int.reduceToNat] at ho153; rw [← Ny295.out] at ho153)); have n0_ := Aside0.mk (Kd.R_elder' (fr_ HO_4.out) (Kd.R_base ho153) hb); have n1_ := Aside0.mk (Kd.R_lower (Kd.R_new' ho153 (Kd.R_lt (fr_ HO_4.out))) (below_size (bel_ HB.out))); have n2_ := Aside0.mk (blk_below (g := gb294) (o := .cells #[.int .i64 x295000_1, .int .i64 x295001_1, .int .i64 x295002_1, .int .i64 x295003_1, .int .i64 x295004_1, .int .i64 x295005_1, .int .i64 x295006_1] 49 (0, 0)) (fb_ BK294.out) hb); have n3_ := Aside0.mk (below_step (bel_ HB.out) hb); clear HO_4; clear BK294; clear HB; have HO_4 := n0_; have HO297 := n1_; have BK294 := n2_; have HB := n3_; clear n0_ n1_ n2_ n3_; clear hb ho153; obtain ⟨Ao154, co154, eo154⟩ := Kd.R_slice HO297.out; subst eo154) | ((with_reducible refine gate_callee (f := 28) rfl ?_); refine goesL_ (some 119) rfl rfl Try.func28 (by kernel_rfl) rfl #[.agg #[.int .i64 x295000_1, .int .i64 x295001_1, .int .i64 x295002_1, .int .i64 x295003_1, .int .i64 x295004_1, .int .i64 x295005_1, .int .i64 x295006_1], .slice Ao154 y295.length co154] rfl (by (try simp only [List.map_toArray, List.map_cons, List.map_nil]); first | done | rfl | (simp only [List.length_drop, List.length_take]; rfl)) ?_; (with_reducible refine (impl_RunSignals.calls k1 x295000_1 x295001_1 x295002_1 x295003_1 x295004_1 x295005_1 x295006_1 _ _ y295 t298 t299 t300 t301 t302 t303 t304 t305 _ ?side1 ?side2 A106.out).mono ?_); (case side1 => repeat (first | exact (Kd.R_reads' HO297.out).2.2 | (with_reducible refine Kd.C_alloc ?_ _) | (with_reducible refine Kd.C_drewN ?_ _) | (with_reducible refine Kd.C_drew ?_))); (case side2 => exact (Kd.R_reads' HO297.out).2.1); rintro e w155 ⟨v306, rfl, ho0, hb⟩; refine ⟨_, rfl, ?_⟩; have n0_ := Aside0.mk (Kd.R_below (fr_ HO_4.out) hb); have n1_ := Aside0.mk (Kd.R_below (fr_ HO297.out) hb); have n2_ := Aside0.mk (Kd.R_lower ho0 (below_size (bel_ HB.out))); have n3_ := Aside0.mk (blk_below (g := gb294) (o := .cells #[.int .i64 x295000_1, .int .i64 x295001_1, .int .i64 x295002_1, .int .i64 x295003_1, .int .i64 x295004_1, .int .i64 x295005_1, .int .i64 x295006_1] 49 (0, 0)) (fb_ BK294.out) hb); have n4_ := Aside0.mk (below_step (bel_ HB.out) hb); clear HO_4; clear HO297; clear BK294; clear HB; have HO_4 := n0_; have HO297 := n1_; have HO307 := n2_; have BK294 := n3_; have HB := n4_; clear n0_ n1_ n2_ n3_ n4_; (try clear hb); (try clear hb2); (try clear hk); (try clear hi); (try clear ho0)) | ((with_reducible refine gate_dst (N := 8) rfl ?_); refine box_event ?hg (N := 8) ?hd (cs := #[.int .i64 0, .int .i64 0, .int .i64 0, .int .i64 0, .int .i64 0, .int .i64 0, .int .i64 0]) (t := 49) ?hr ?_; (case hd => rfl); (case hg => rfl); (case hr => first | (go_simp; done) | (go_simp; rfl)); intro gb308 hg w156 hbox hb; have n0_ := Aside0.mk (Kd.R_below (fr_ HO_4.out) hb); have n1_ := Aside0.mk (Kd.R_below (fr_ HO297.out) hb); have n2_ := Aside0.mk (Kd.R_below (fr_ HO307.out) hb); have n3_ := Aside0.mk (blk_below (g := gb294) (o := .cells #[.int .i64 x295000_1, .int .i64 x295001_1, .int .i64 x295002_1, .int .i64 x295003_1, .int .i64 x295004_1, .int .i64 x295005_1, .int .i64 x295006_1] 49 (0, 0)) (fb_ BK294.out) hb); have n4_ := Aside0.mk (below_step (bel_ HB.out) hb); have n5_ := Aside0.mk (hbox); have n6_ := Aside0.mk ((by rw [hg]; exact (below_size (bel_ HB.out)) : w.heap.size ≤ gb308)); have n7_ := Aside0.mk ((by rw [hg]; exact (below_size (bel_ HB.out)) : w.heap.size ≤ gb308)); have n8_ := Aside0.mk ((by rw [hg]; exact Nat.ne_of_lt (blk_lt (g := gb294) (o := .cells #[.int .i64 x295000_1, .int .i64 x295001_1, .int .i64 x295002_1, .int .i64 x295003_1, .int .i64 x295004_1, .int .i64 x295005_1, .int .i64 x295006_1] 49 (0, 0)) (fb_ BK294.out)) : gb294 ≠ gb308)); have n9_ := Aside0.mk ((by rw [hg]; exact Nat.ne_of_gt (blk_lt (g := gb294) (o := .cells #[.int .i64 x295000_1, .int .i64 x295001_1, .int .i64 x295002_1, .int .i64 x295003_1, .int .i64 x295004_1, .int .i64 x295005_1, .int .i64 x295006_1] 49 (0, 0)) (fb_ BK294.out)) : gb308 ≠ gb294)); clear HO_4; clear HO297; clear HO307; clear BK294; clear HB; have HO_4 := n0_; have HO297 := n1_; have HO307 := n2_; have BK294 := n3_; have HB := n4_; have BK308 := n5_; have GW308 := n6_; have GE308 := n7_; have NB294_308 := n8_; have NB308_294 := n9_; clear n0_ n1_ n2_ n3_ n4_ n5_ n6_ n7_ n8_ n9_; clear hb hbox hg; have hnb157 := NB308_294.out; have hnc157 := NB294_308.out; have hcz158_0 : w156.cell? ⟨gb308, 0, none⟩ = some (.int .i64 0) := (blk_cell BK308.out 0).trans rfl; have hcz158_1 : w156.cell? ⟨gb308, 1, none⟩ = some (.int .i64 0) := (blk_cell BK308.out 1).trans rfl; have hcz158_2 : w156.cell? ⟨gb308, 2, none⟩ = some (.int .i64 0) := (blk_cell BK308.out 2).trans rfl; have hcz158_3 : w156.cell? ⟨gb308, 3, none⟩ = some (.int .i64 0) := (blk_cell BK308.out 3).trans rfl; have hcz158_4 : w156.cell? ⟨gb308, 4, none⟩ = some (.int .i64 0) := (blk_cell BK308.out 4).trans rfl; have hcz158_5 : w156.cell? ⟨gb308, 5, none⟩ = some (.int .i64 0) := (blk_cell BK308.out 5).trans rfl; have hcz158_6 : w156.cell? ⟨gb308, 6, none⟩ = some (.int .i64 0) := (blk_cell BK308.out 6).trans rfl; have hfz158_0 := blk_frozen BK308.out 0; have hfz158_1 := blk_frozen BK308.out 1; have hfz158_2 := blk_frozen BK308.out 2; have hfz158_3 := blk_frozen BK308.out 3; have hfz158_4 := blk_frozen BK308.out 4; have hfz158_5 := blk_frozen BK308.out 5; have hfz158_6 := blk_frozen BK308.out 6; obtain ⟨Ao159, co159, eo159⟩ := Kd.R_slice HO307.out; subst eo159; have p309 : 0 ≤ (0 : Int) := (by omega); have q309 : 0 < (t305.length : Int) := of_decide_eq_true (by first | (with_reducible assumption) | assumption); obtain ⟨ad309, e309, hx309_0⟩ := Kd.at_bool (Kd.R_reads' HO307.out).2.2 0 p309 q309; (try rw [← Nbq109.out] at hx309_0); (try rw [← Nbq112.out] at hx309_0); (try rw [← Nbq125.out] at hx309_0); cases e309; have qi309 : (0 < t305.length) = True := eq_true (by omega); (try rw [show ((0 : Int)).toNat = 0 from rfl] at hx309_0); (try rw [Addr.add_zero'] at hx309_0); have hn309_0 : ad309.block ≠ gb308 := Kd.own_blk (Kd.R_ne HO307.out BK308.out (by decide)); have hn309_1 : ad309.block ≠ gb308 := Kd.own_blk (Kd.R_ne HO307.out BK308.out (by decide)); have hn309_2 : ad309.block ≠ gb308 := Kd.own_blk (Kd.R_ne HO307.out BK308.out (by decide)); have hn309_3 : ad309.block ≠ gb308 := Kd.own_blk (Kd.R_ne HO307.out BK308.out (by decide)); have hn309_4 : ad309.block ≠ gb308 := Kd.own_blk (Kd.R_ne HO307.out BK308.out (by decide)); have hn309_5 : ad309.block ≠ gb308 := Kd.own_blk (Kd.R_ne HO307.out BK308.out (by decide)); have hn309_6 : ad309.block ≠ gb308 := Kd.own_blk (Kd.R_ne HO307.out BK308.out (by decide)); replace hx309_0 := (cell_far (p := ⟨gb308, 0, none⟩) (by first | (rw [add_block]; exact hn309_0) | (show (Addr.add _ _).block ≠ _; rw [add_block]; exact hn309_0) | exact hn309_0) (.int .i64 t298)).trans hx309_0; replace hx309_0 := (cell_far (p := ⟨gb308, 1, none⟩) (by first | (rw [add_block]; exact hn309_1) | (show (Addr.add _ _).block ≠ _; rw [add_block]; exact hn309_1) | exact hn309_1) (.int .i64 t299)).trans hx309_0; replace hx309_0 := (cell_far (p := ⟨gb308, 2, none⟩) (by first | (rw [add_block]; exact hn309_2) | (show (Addr.add _ _).block ≠ _; rw [add_block]; exact hn309_2) | exact hn309_2) (.int .i64 t300)).trans hx309_0; replace hx309_0 := (cell_far (p := ⟨gb308, 3, none⟩) (by first | (rw [add_block]; exact hn309_3) | (show (Addr.add _ _).block ≠ _; rw [add_block]; exact hn309_3) | exact hn309_3) (.int .i64 t301)).trans hx309_0; replace hx309_0 := (cell_far (p := ⟨gb308, 4, none⟩) (by first | (rw [add_block]; exact hn309_4) | (show (Addr.add _ _).block ≠ _; rw [add_block]; exact hn309_4) | exact hn309_4) (.int .i64 t302)).trans hx309_0; replace hx309_0 := (cell_far (p := ⟨gb308, 5, none⟩) (by first | (rw [add_block]; exact hn309_5) | (show (Addr.add _ _).block ≠ _; rw [add_block]; exact hn309_5) | exact hn309_5) (.int .i64 t303)).trans hx309_0; replace hx309_0 := (cell_far (p := ⟨gb308, 6, none⟩) (by first | (rw [add_block]; exact hn309_6) | (show (Addr.add _ _).block ≠ _; rw [add_block]; exact hn309_6) | exact hn309_6) (.int .i64 t304)).trans hx309_0; clear hn309_0; clear hn309_1; clear hn309_2; clear hn309_3; clear hn309_4; clear hn309_5; clear hn309_6; replace p309 := eq_true p309; replace q309 := eq_true q309; have p310 : 0 ≤ (1 : Int) := (by omega); have q310 : 1 < (t305.length : Int) := of_decide_eq_true (by first | (with_reducible assumption) | assumption); obtain ⟨ad310, e310, hx310_0⟩ := Kd.at_bool (Kd.R_reads' HO307.out).2.2 1 p310 q310; (try rw [← Nbq109.out] at hx310_0); (try rw [← Nbq112.out] at hx310_0); (try rw [← Nbq125.out] at hx310_0); obtain rfl : ad309 = ad310 := (by injection e310); (try simp only [show (1 : Int).toNat = 1 from rfl, Nat.reduceMul, Nat.reduceEqDiff, Go.Addr.add, ↓reduceIte] at hx310_0); have qi310 : (1 < t305.length) = True := eq_true (by omega); (try rw [show ((1 : Int)).toNat = 1 from rfl] at hx310_0); have hn310_0 : ad309.block ≠ gb308 := Kd.own_blk (Kd.R_ne HO307.out BK308.out (by decide)); have hn310_1 : ad309.block ≠ gb308 := Kd.own_blk (Kd.R_ne HO307.out BK308.out (by decide)); have hn310_2 : ad309.block ≠ gb308 := Kd.own_blk (Kd.R_ne HO307.out BK308.out (by decide)); have hn310_3 : ad309.block ≠ gb308 := Kd.own_blk (Kd.R_ne HO307.out BK308.out (by decide)); have hn310_4 : ad309.block ≠ gb308 := Kd.own_blk (Kd.R_ne HO307.out BK308.out (by decide)); have hn310_5 : ad309.block ≠ gb308 := Kd.own_blk (Kd.R_ne HO307.out BK308.out (by decide)); have hn310_6 : ad309.block ≠ gb308 := Kd.own_blk (Kd.R_ne HO307.out BK308.out (by decide)); replace hx310_0 := (cell_far (p := ⟨gb308, 0, none⟩) (by first | (rw [add_block]; exact hn310_0) | (show (Addr.add _ _).block ≠ _; rw [add_block]; exact hn310_0) | exact hn310_0) (.int .i64 t298)).trans hx310_0; replace hx310_0 := (cell_far (p := ⟨gb308, 1, none⟩) (by first | (rw [add_block]; exact hn310_1) | (show (Addr.add _ _).block ≠ _; rw [add_block]; exact hn310_1) | exact hn310_1) (.int .i64 t299)).trans hx310_0; replace hx310_0 := (cell_far (p := ⟨gb308, 2, none⟩) (by first | (rw [add_block]; exact hn310_2) | (show (Addr.add _ _).block ≠ _; rw [add_block]; exact hn310_2) | exact hn310_2) (.int .i64 t300)).trans hx310_0; replace hx310_0 := (cell_far (p := ⟨gb308, 3, none⟩) (by first | (rw [add_block]; exact hn310_3) | (show (Addr.add _ _).block ≠ _; rw [add_block]; exact hn310_3) | exact hn310_3) (.int .i64 t301)).trans hx310_0; replace hx310_0 := (cell_far (p := ⟨gb308, 4, none⟩) (by first | (rw [add_block]; exact hn310_4) | (show (Addr.add _ _).block ≠ _; rw [add_block]; exact hn310_4) | exact hn310_4) (.int .i64 t302)).trans hx310_0; replace hx310_0 := (cell_far (p := ⟨gb308, 5, none⟩) (by first | (rw [add_block]; exact hn310_5) | (show (Addr.add _ _).block ≠ _; rw [add_block]; exact hn310_5) | exact hn310_5) (.int .i64 t303)).trans hx310_0; replace hx310_0 := (cell_far (p := ⟨gb308, 6, none⟩) (by first | (rw [add_block]; exact hn310_6) | (show (Addr.add _ _).block ≠ _; rw [add_block]; exact hn310_6) | exact hn310_6) (.int .i64 t304)).trans hx310_0; clear hn310_0; clear hn310_1; clear hn310_2; clear hn310_3; clear hn310_4; clear hn310_5; clear hn310_6; replace p310 := eq_true p310; replace q310 := eq_true q310; have p311 : 0 ≤ (2 : Int) := (by omega); have q311 : 2 < (t305.length : Int) := of_decide_eq_true (by first | (with_reducible assumption) | assumption); obtain ⟨ad311, e311, hx311_0⟩ := Kd.at_bool (Kd.R_reads' HO307.out).2.2 2 p311 q311; (try rw [← Nbq109.out] at hx311_0); (try rw [← Nbq112.out] at hx311_0); (try rw [← Nbq125.out] at hx311_0); obtain rfl : ad309 = ad311 := (by injection e311); (try simp only [show (2 : Int).toNat = 2 from rfl, Nat.reduceMul, Nat.reduceEqDiff, Go.Addr.add, ↓reduceIte] at hx311_0); have qi311 : (2 < t305.length) = True := eq_true (by omega); (try rw [show ((2 : Int)).toNat = 2 from rfl] at hx311_0); have hn311_0 : ad309.block ≠ gb308 := Kd.own_blk (Kd.R_ne HO307.out BK308.out (by decide)); have hn311_1 : ad309.block ≠ gb308 := Kd.own_blk (Kd.R_ne HO307.out BK308.out (by decide)); have hn311_2 : ad309.block ≠ gb308 := Kd.own_blk (Kd.R_ne HO307.out BK308.out (by decide)); have hn311_3 : ad309.block ≠ gb308 := Kd.own_blk (Kd.R_ne HO307.out BK308.out (by decide)); have hn311_4 : ad309.block ≠ gb308 := Kd.own_blk (Kd.R_ne HO307.out BK308.out (by decide)); have hn311_5 : ad309.block ≠ gb308 := Kd.own_blk (Kd.R_ne HO307.out BK308.out (by decide)); have hn311_6 : ad309.block ≠ gb308 := Kd.own_blk (Kd.R_ne HO307.out BK308.out (by decide)); replace hx311_0 := (cell_far (p := ⟨gb308, 0, none⟩) (by first | (rw [add_block]; exact hn311_0) | (show (Addr.add _ _).block ≠ _; rw [add_block]; exact hn311_0) | exact hn311_0) (.int .i64 t298)).trans hx311_0; replace hx311_0 := (cell_far (p := ⟨gb308, 1, none⟩) (by first | (rw [add_block]; exact hn311_1) | (show (Addr.add _ _).block ≠ _; rw [add_block]; exact hn311_1) | exact hn311_1) (.int .i64 t299)).trans hx311_0; replace hx311_0 := (cell_far (p := ⟨gb308, 2, none⟩) (by first | (rw [add_block]; exact hn311_2) | (show (Addr.add _ _).block ≠ _; rw [add_block]; exact hn311_2) | exact hn311_2) (.int .i64 t300)).trans hx311_0; replace hx311_0 := (cell_far (p := ⟨gb308, 3, none⟩) (by first | (rw [add_block]; exact hn311_3) | (show (Addr.add _ _).block ≠ _; rw [add_block]; exact hn311_3) | exact hn311_3) (.int .i64 t301)).trans hx311_0; replace hx311_0 := (cell_far (p := ⟨gb308, 4, none⟩) (by first | (rw [add_block]; exact hn311_4) | (show (Addr.add _ _).block ≠ _; rw [add_block]; exact hn311_4) | exact hn311_4) (.int .i64 t302)).trans hx311_0; replace hx311_0 := (cell_far (p := ⟨gb308, 5, none⟩) (by first | (rw [add_block]; exact hn311_5) | (show (Addr.add _ _).block ≠ _; rw [add_block]; exact hn311_5) | exact hn311_5) (.int .i64 t303)).trans hx311_0; replace hx311_0 := (cell_far (p := ⟨gb308, 6, none⟩) (by first | (rw [add_block]; exact hn311_6) | (show (Addr.add _ _).block ≠ _; rw [add_block]; exact hn311_6) | exact hn311_6) (.int .i64 t304)).trans hx311_0; clear hn311_0; clear hn311_1; clear hn311_2; clear hn311_3; clear hn311_4; clear hn311_5; clear hn311_6; replace p311 := eq_true p311; replace q311 := eq_true q311))
            go_ret
            exact ⟨by first | rfl | (simp [errW_none, errW_some] <;> rfl) | (simp [*, errW_none, errW_some] <;> rfl), bel_ HB.out⟩
          ·rw [if_neg c124] at H
           exact absurd H (by simp)
        ·rw [if_neg c111] at H
         exact absurd H (by simp)
       ·replace c110 := Bool.eq_false_iff.mpr c110
        subst c110
        have H1 : (some false) = some r := by rw [if_neg (show ¬ (false = true) by decide)] at H; exact H
        clear H
        have H := H1
        clear H1
        obtain rfl := Option.some.inj H
        obtain ⟨Ao160, co160, eo160⟩ := Kd.R_slice HO_4.out
        subst eo160
        have hcz161_0 : wr.cell? ⟨gb294, 0, none⟩ = some (.int .i64 x295000_1) := (blk_cell BK294.out 0).trans rfl
        have hcz161_1 : wr.cell? ⟨gb294, 1, none⟩ = some (.int .i64 x295001_1) := (blk_cell BK294.out 1).trans rfl
        have hcz161_2 : wr.cell? ⟨gb294, 2, none⟩ = some (.int .i64 x295002_1) := (blk_cell BK294.out 2).trans rfl
        have hcz161_3 : wr.cell? ⟨gb294, 3, none⟩ = some (.int .i64 x295003_1) := (blk_cell BK294.out 3).trans rfl
        have hcz161_4 : wr.cell? ⟨gb294, 4, none⟩ = some (.int .i64 x295004_1) := (blk_cell BK294.out 4).trans rfl
        have hcz161_5 : wr.cell? ⟨gb294, 5, none⟩ = some (.int .i64 x295005_1) := (blk_cell BK294.out 5).trans rfl
        have hcz161_6 : wr.cell? ⟨gb294, 6, none⟩ = some (.int .i64 x295006_1) := (blk_cell BK294.out 6).trans rfl
        have hfz161_0 := blk_frozen BK294.out 0
        have hfz161_1 := blk_frozen BK294.out 1
        have hfz161_2 := blk_frozen BK294.out 2
        have hfz161_3 := blk_frozen BK294.out 3
        have hfz161_4 := blk_frozen BK294.out 4
        have hfz161_5 := blk_frozen BK294.out 5
        have hfz161_6 := blk_frozen BK294.out 6
        go_wp2_with (first | ((with_reducible refine gate_dst (N := 118) rfl ?_); refine Kd.R_lit k56 _ 56 ?hg (N := 118) ?hd (xs := ([(⟨4, 0⟩ : S56), (⟨1, 0⟩ : S56), (⟨5, 0⟩ : S56), (⟨3, 0⟩ : S56)] : List (S56))) (inner := [.int .i64 4, .int .i64 0, .int .i64 1, .int .i64 0, .int .i64 5, .int .i64 0, .int .i64 3, .int .i64 0]) (ok := fun _ => True) (okp := fun _ => True) ?hr ?hp (fun _ hk => hk) trivial (Below.refl _ _) (Nat.le_refl _) (by simp) ?_; (case hd => rfl); (case hg => rfl); (case hr => first | (go_simp; done) | (go_simp; rfl)); (case hp => exact (Reps.c2 (show Kd.M k56 _ _ _ (⟨4, 0⟩ : S56) [.int .i64 4, .int .i64 0] from (k56_mkM _ _ _ (⟨4, 0⟩ : S56) )) (Reps.c2 (show Kd.M k56 _ _ _ (⟨1, 0⟩ : S56) [.int .i64 1, .int .i64 0] from (k56_mkM _ _ _ (⟨1, 0⟩ : S56) )) (Reps.c2 (show Kd.M k56 _ _ _ (⟨5, 0⟩ : S56) [.int .i64 5, .int .i64 0] from (k56_mkM _ _ _ (⟨5, 0⟩ : S56) )) (Reps.c2 (show Kd.M k56 _ _ _ (⟨3, 0⟩ : S56) [.int .i64 3, .int .i64 0] from (k56_mkM _ _ _ (⟨3, 0⟩ : S56) )) (Reps.none _ _)))))); intro v296 w162 ho163 hb hg_ hnew_; clear hg_ hnew_; (first | rw [← Ny295.out] at ho163 | (simp only [Int.reduceToNat] at ho163; rw [← Ny295.out] at ho163)); have n0_ := Aside0.mk (Kd.R_elder' (fr_ HO_4.out) (Kd.R_base ho163) hb); have n1_ := Aside0.mk (Kd.R_lower (Kd.R_new' ho163 (Kd.R_lt (fr_ HO_4.out))) (below_size (bel_ HB.out))); have n2_ := Aside0.mk (blk_below (g := gb294) (o := .cells #[.int .i64 x295000_1, .int .i64 x295001_1, .int .i64 x295002_1, .int .i64 x295003_1, .int .i64 x295004_1, .int .i64 x295005_1, .int .i64 x295006_1] 49 (0, 0)) (fb_ BK294.out) hb); have n3_ := Aside0.mk (below_step (bel_ HB.out) hb); clear HO_4; clear BK294; clear HB; have HO_4 := n0_; have HO297 := n1_; have BK294 := n2_; have HB := n3_; clear n0_ n1_ n2_ n3_; clear hb ho163; obtain ⟨Ao164, co164, eo164⟩ := Kd.R_slice HO297.out; subst eo164) | ((with_reducible refine gate_callee (f := 28) rfl ?_); refine goesL_ (some 119) rfl rfl Try.func28 (by kernel_rfl) rfl #[.agg #[.int .i64 x295000_1, .int .i64 x295001_1, .int .i64 x295002_1, .int .i64 x295003_1, .int .i64 x295004_1, .int .i64 x295005_1, .int .i64 x295006_1], .slice Ao164 y295.length co164] rfl (by (try simp only [List.map_toArray, List.map_cons, List.map_nil]); first | done | rfl | (simp only [List.length_drop, List.length_take]; rfl)) ?_; (with_reducible refine (impl_RunSignals.calls k1 x295000_1 x295001_1 x295002_1 x295003_1 x295004_1 x295005_1 x295006_1 _ _ y295 t298 t299 t300 t301 t302 t303 t304 t305 _ ?side1 ?side2 A106.out).mono ?_); (case side1 => repeat (first | exact (Kd.R_reads' HO297.out).2.2 | (with_reducible refine Kd.C_alloc ?_ _) | (with_reducible refine Kd.C_drewN ?_ _) | (with_reducible refine Kd.C_drew ?_))); (case side2 => exact (Kd.R_reads' HO297.out).2.1); rintro e w165 ⟨v306, rfl, ho0, hb⟩; refine ⟨_, rfl, ?_⟩; have n0_ := Aside0.mk (Kd.R_below (fr_ HO_4.out) hb); have n1_ := Aside0.mk (Kd.R_below (fr_ HO297.out) hb); have n2_ := Aside0.mk (Kd.R_lower ho0 (below_size (bel_ HB.out))); have n3_ := Aside0.mk (blk_below (g := gb294) (o := .cells #[.int .i64 x295000_1, .int .i64 x295001_1, .int .i64 x295002_1, .int .i64 x295003_1, .int .i64 x295004_1, .int .i64 x295005_1, .int .i64 x295006_1] 49 (0, 0)) (fb_ BK294.out) hb); have n4_ := Aside0.mk (below_step (bel_ HB.out) hb); clear HO_4; clear HO297; clear BK294; clear HB; have HO_4 := n0_; have HO297 := n1_; have HO307 := n2_; have BK294 := n3_; have HB := n4_; clear n0_ n1_ n2_ n3_ n4_; (try clear hb); (try clear hb2); (try clear hk); (try clear hi); (try clear ho0)) | ((with_reducible refine gate_dst (N := 8) rfl ?_); refine box_event ?hg (N := 8) ?hd (cs := #[.int .i64 0, .int .i64 0, .int .i64 0, .int .i64 0, .int .i64 0, .int .i64 0, .int .i64 0]) (t := 49) ?hr ?_; (case hd => rfl); (case hg => rfl); (case hr => first | (go_simp; done) | (go_simp; rfl)); intro gb308 hg w166 hbox hb; have n0_ := Aside0.mk (Kd.R_below (fr_ HO_4.out) hb); have n1_ := Aside0.mk (Kd.R_below (fr_ HO297.out) hb); have n2_ := Aside0.mk (Kd.R_below (fr_ HO307.out) hb); have n3_ := Aside0.mk (blk_below (g := gb294) (o := .cells #[.int .i64 x295000_1, .int .i64 x295001_1, .int .i64 x295002_1, .int .i64 x295003_1, .int .i64 x295004_1, .int .i64 x295005_1, .int .i64 x295006_1] 49 (0, 0)) (fb_ BK294.out) hb); have n4_ := Aside0.mk (below_step (bel_ HB.out) hb); have n5_ := Aside0.mk (hbox); have n6_ := Aside0.mk ((by rw [hg]; exact (below_size (bel_ HB.out)) : w.heap.size ≤ gb308)); have n7_ := Aside0.mk ((by rw [hg]; exact (below_size (bel_ HB.out)) : w.heap.size ≤ gb308)); have n8_ := Aside0.mk ((by rw [hg]; exact Nat.ne_of_lt (blk_lt (g := gb294) (o := .cells #[.int .i64 x295000_1, .int .i64 x295001_1, .int .i64 x295002_1, .int .i64 x295003_1, .int .i64 x295004_1, .int .i64 x295005_1, .int .i64 x295006_1] 49 (0, 0)) (fb_ BK294.out)) : gb294 ≠ gb308)); have n9_ := Aside0.mk ((by rw [hg]; exact Nat.ne_of_gt (blk_lt (g := gb294) (o := .cells #[.int .i64 x295000_1, .int .i64 x295001_1, .int .i64 x295002_1, .int .i64 x295003_1, .int .i64 x295004_1, .int .i64 x295005_1, .int .i64 x295006_1] 49 (0, 0)) (fb_ BK294.out)) : gb308 ≠ gb294)); clear HO_4; clear HO297; clear HO307; clear BK294; clear HB; have HO_4 := n0_; have HO297 := n1_; have HO307 := n2_; have BK294 := n3_; have HB := n4_; have BK308 := n5_; have GW308 := n6_; have GE308 := n7_; have NB294_308 := n8_; have NB308_294 := n9_; clear n0_ n1_ n2_ n3_ n4_ n5_ n6_ n7_ n8_ n9_; clear hb hbox hg; have hnb167 := NB308_294.out; have hnc167 := NB294_308.out; have hcz168_0 : w166.cell? ⟨gb308, 0, none⟩ = some (.int .i64 0) := (blk_cell BK308.out 0).trans rfl; have hcz168_1 : w166.cell? ⟨gb308, 1, none⟩ = some (.int .i64 0) := (blk_cell BK308.out 1).trans rfl; have hcz168_2 : w166.cell? ⟨gb308, 2, none⟩ = some (.int .i64 0) := (blk_cell BK308.out 2).trans rfl; have hcz168_3 : w166.cell? ⟨gb308, 3, none⟩ = some (.int .i64 0) := (blk_cell BK308.out 3).trans rfl; have hcz168_4 : w166.cell? ⟨gb308, 4, none⟩ = some (.int .i64 0) := (blk_cell BK308.out 4).trans rfl; have hcz168_5 : w166.cell? ⟨gb308, 5, none⟩ = some (.int .i64 0) := (blk_cell BK308.out 5).trans rfl; have hcz168_6 : w166.cell? ⟨gb308, 6, none⟩ = some (.int .i64 0) := (blk_cell BK308.out 6).trans rfl; have hfz168_0 := blk_frozen BK308.out 0; have hfz168_1 := blk_frozen BK308.out 1; have hfz168_2 := blk_frozen BK308.out 2; have hfz168_3 := blk_frozen BK308.out 3; have hfz168_4 := blk_frozen BK308.out 4; have hfz168_5 := blk_frozen BK308.out 5; have hfz168_6 := blk_frozen BK308.out 6; obtain ⟨Ao169, co169, eo169⟩ := Kd.R_slice HO307.out; subst eo169; have p309 : 0 ≤ (0 : Int) := (by omega); have q309 : 0 < (t305.length : Int) := of_decide_eq_true (by first | (with_reducible assumption) | assumption); obtain ⟨ad309, e309, hx309_0⟩ := Kd.at_bool (Kd.R_reads' HO307.out).2.2 0 p309 q309; (try rw [← Nbq109.out] at hx309_0); cases e309; have qi309 : (0 < t305.length) = True := eq_true (by omega); (try rw [show ((0 : Int)).toNat = 0 from rfl] at hx309_0); (try rw [Addr.add_zero'] at hx309_0); have hn309_0 : ad309.block ≠ gb308 := Kd.own_blk (Kd.R_ne HO307.out BK308.out (by decide)); have hn309_1 : ad309.block ≠ gb308 := Kd.own_blk (Kd.R_ne HO307.out BK308.out (by decide)); have hn309_2 : ad309.block ≠ gb308 := Kd.own_blk (Kd.R_ne HO307.out BK308.out (by decide)); have hn309_3 : ad309.block ≠ gb308 := Kd.own_blk (Kd.R_ne HO307.out BK308.out (by decide)); have hn309_4 : ad309.block ≠ gb308 := Kd.own_blk (Kd.R_ne HO307.out BK308.out (by decide)); have hn309_5 : ad309.block ≠ gb308 := Kd.own_blk (Kd.R_ne HO307.out BK308.out (by decide)); have hn309_6 : ad309.block ≠ gb308 := Kd.own_blk (Kd.R_ne HO307.out BK308.out (by decide)); replace hx309_0 := (cell_far (p := ⟨gb308, 0, none⟩) (by first | (rw [add_block]; exact hn309_0) | (show (Addr.add _ _).block ≠ _; rw [add_block]; exact hn309_0) | exact hn309_0) (.int .i64 t298)).trans hx309_0; replace hx309_0 := (cell_far (p := ⟨gb308, 1, none⟩) (by first | (rw [add_block]; exact hn309_1) | (show (Addr.add _ _).block ≠ _; rw [add_block]; exact hn309_1) | exact hn309_1) (.int .i64 t299)).trans hx309_0; replace hx309_0 := (cell_far (p := ⟨gb308, 2, none⟩) (by first | (rw [add_block]; exact hn309_2) | (show (Addr.add _ _).block ≠ _; rw [add_block]; exact hn309_2) | exact hn309_2) (.int .i64 t300)).trans hx309_0; replace hx309_0 := (cell_far (p := ⟨gb308, 3, none⟩) (by first | (rw [add_block]; exact hn309_3) | (show (Addr.add _ _).block ≠ _; rw [add_block]; exact hn309_3) | exact hn309_3) (.int .i64 t301)).trans hx309_0; replace hx309_0 := (cell_far (p := ⟨gb308, 4, none⟩) (by first | (rw [add_block]; exact hn309_4) | (show (Addr.add _ _).block ≠ _; rw [add_block]; exact hn309_4) | exact hn309_4) (.int .i64 t302)).trans hx309_0; replace hx309_0 := (cell_far (p := ⟨gb308, 5, none⟩) (by first | (rw [add_block]; exact hn309_5) | (show (Addr.add _ _).block ≠ _; rw [add_block]; exact hn309_5) | exact hn309_5) (.int .i64 t303)).trans hx309_0; replace hx309_0 := (cell_far (p := ⟨gb308, 6, none⟩) (by first | (rw [add_block]; exact hn309_6) | (show (Addr.add _ _).block ≠ _; rw [add_block]; exact hn309_6) | exact hn309_6) (.int .i64 t304)).trans hx309_0; clear hn309_0; clear hn309_1; clear hn309_2; clear hn309_3; clear hn309_4; clear hn309_5; clear hn309_6; replace p309 := eq_true p309; replace q309 := eq_true q309))
        go_ret
        exact ⟨by first | rfl | (simp [errW_none, errW_some] <;> rfl) | (simp [*, errW_none, errW_some] <;> rfl), bel_ HB.out⟩
      ·rw [if_neg c108] at H
       exact absurd H (by simp)
     ·rw [if_neg c107] at H
      have c107b0 : ((t305.length : Int) == 4) = false := beq_eq_false_iff_ne.mpr c107
      have c107b1 : ((t305.length : Int) != 4) = true := bne_iff_ne.mpr c107
      obtain rfl := Option.some.inj H
      obtain ⟨Ao170, co170, eo170⟩ := Kd.R_slice HO_4.out
      subst eo170
      have hcz171_0 : wr.cell? ⟨gb294, 0, none⟩ = some (.int .i64 x295000_1) := (blk_cell BK294.out 0).trans rfl
      have hcz171_1 : wr.cell? ⟨gb294, 1, none⟩ = some (.int .i64 x295001_1) := (blk_cell BK294.out 1).trans rfl
      have hcz171_2 : wr.cell? ⟨gb294, 2, none⟩ = some (.int .i64 x295002_1) := (blk_cell BK294.out 2).trans rfl
      have hcz171_3 : wr.cell? ⟨gb294, 3, none⟩ = some (.int .i64 x295003_1) := (blk_cell BK294.out 3).trans rfl
      have hcz171_4 : wr.cell? ⟨gb294, 4, none⟩ = some (.int .i64 x295004_1) := (blk_cell BK294.out 4).trans rfl
      have hcz171_5 : wr.cell? ⟨gb294, 5, none⟩ = some (.int .i64 x295005_1) := (blk_cell BK294.out 5).trans rfl
      have hcz171_6 : wr.cell? ⟨gb294, 6, none⟩ = some (.int .i64 x295006_1) := (blk_cell BK294.out 6).trans rfl
      have hfz171_0 := blk_frozen BK294.out 0
      have hfz171_1 := blk_frozen BK294.out 1
      have hfz171_2 := blk_frozen BK294.out 2
      have hfz171_3 := blk_frozen BK294.out 3
      have hfz171_4 := blk_frozen BK294.out 4
      have hfz171_5 := blk_frozen BK294.out 5
      have hfz171_6 := blk_frozen BK294.out 6
      go_wp2_with (first | ((with_reducible refine gate_dst (N := 118) rfl ?_); refine Kd.R_lit k56 _ 56 ?hg (N := 118) ?hd (xs := ([(⟨4, 0⟩ : S56), (⟨1, 0⟩ : S56), (⟨5, 0⟩ : S56), (⟨3, 0⟩ : S56)] : List (S56))) (inner := [.int .i64 4, .int .i64 0, .int .i64 1, .int .i64 0, .int .i64 5, .int .i64 0, .int .i64 3, .int .i64 0]) (ok := fun _ => True) (okp := fun _ => True) ?hr ?hp (fun _ hk => hk) trivial (Below.refl _ _) (Nat.le_refl _) (by simp) ?_; (case hd => rfl); (case hg => rfl); (case hr => first | (go_simp; done) | (go_simp; rfl)); (case hp => exact (Reps.c2 (show Kd.M k56 _ _ _ (⟨4, 0⟩ : S56) [.int .i64 4, .int .i64 0] from (k56_mkM _ _ _ (⟨4, 0⟩ : S56) )) (Reps.c2 (show Kd.M k56 _ _ _ (⟨1, 0⟩ : S56) [.int .i64 1, .int .i64 0] from (k56_mkM _ _ _ (⟨1, 0⟩ : S56) )) (Reps.c2 (show Kd.M k56 _ _ _ (⟨5, 0⟩ : S56) [.int .i64 5, .int .i64 0] from (k56_mkM _ _ _ (⟨5, 0⟩ : S56) )) (Reps.c2 (show Kd.M k56 _ _ _ (⟨3, 0⟩ : S56) [.int .i64 3, .int .i64 0] from (k56_mkM _ _ _ (⟨3, 0⟩ : S56) )) (Reps.none _ _)))))); intro v296 w172 ho173 hb hg_ hnew_; clear hg_ hnew_; (first | rw [← Ny295.out] at ho173 | (simp only [Int.reduceToNat] at ho173; rw [← Ny295.out] at ho173)); have n0_ := Aside0.mk (Kd.R_elder' (fr_ HO_4.out) (Kd.R_base ho173) hb); have n1_ := Aside0.mk (Kd.R_lower (Kd.R_new' ho173 (Kd.R_lt (fr_ HO_4.out))) (below_size (bel_ HB.out))); have n2_ := Aside0.mk (blk_below (g := gb294) (o := .cells #[.int .i64 x295000_1, .int .i64 x295001_1, .int .i64 x295002_1, .int .i64 x295003_1, .int .i64 x295004_1, .int .i64 x295005_1, .int .i64 x295006_1] 49 (0, 0)) (fb_ BK294.out) hb); have n3_ := Aside0.mk (below_step (bel_ HB.out) hb); clear HO_4; clear BK294; clear HB; have HO_4 := n0_; have HO297 := n1_; have BK294 := n2_; have HB := n3_; clear n0_ n1_ n2_ n3_; clear hb ho173; obtain ⟨Ao174, co174, eo174⟩ := Kd.R_slice HO297.out; subst eo174) | ((with_reducible refine gate_callee (f := 28) rfl ?_); refine goesL_ (some 119) rfl rfl Try.func28 (by kernel_rfl) rfl #[.agg #[.int .i64 x295000_1, .int .i64 x295001_1, .int .i64 x295002_1, .int .i64 x295003_1, .int .i64 x295004_1, .int .i64 x295005_1, .int .i64 x295006_1], .slice Ao174 y295.length co174] rfl (by (try simp only [List.map_toArray, List.map_cons, List.map_nil]); first | done | rfl | (simp only [List.length_drop, List.length_take]; rfl)) ?_; (with_reducible refine (impl_RunSignals.calls k1 x295000_1 x295001_1 x295002_1 x295003_1 x295004_1 x295005_1 x295006_1 _ _ y295 t298 t299 t300 t301 t302 t303 t304 t305 _ ?side1 ?side2 A106.out).mono ?_); (case side1 => repeat (first | exact (Kd.R_reads' HO297.out).2.2 | (with_reducible refine Kd.C_alloc ?_ _) | (with_reducible refine Kd.C_drewN ?_ _) | (with_reducible refine Kd.C_drew ?_))); (case side2 => exact (Kd.R_reads' HO297.out).2.1); rintro e w175 ⟨v306, rfl, ho0, hb⟩; refine ⟨_, rfl, ?_⟩; have n0_ := Aside0.mk (Kd.R_below (fr_ HO_4.out) hb); have n1_ := Aside0.mk (Kd.R_below (fr_ HO297.out) hb); have n2_ := Aside0.mk (Kd.R_lower ho0 (below_size (bel_ HB.out))); have n3_ := Aside0.mk (blk_below (g := gb294) (o := .cells #[.int .i64 x295000_1, .int .i64 x295001_1, .int .i64 x295002_1, .int .i64 x295003_1, .int .i64 x295004_1, .int .i64 x295005_1, .int .i64 x295006_1] 49 (0, 0)) (fb_ BK294.out) hb); have n4_ := Aside0.mk (below_step (bel_ HB.out) hb); clear HO_4; clear HO297; clear BK294; clear HB; have HO_4 := n0_; have HO297 := n1_; have HO307 := n2_; have BK294 := n3_; have HB := n4_; clear n0_ n1_ n2_ n3_ n4_; (try clear hb); (try clear hb2); (try clear hk); (try clear hi); (try clear ho0)) | ((with_reducible refine gate_dst (N := 8) rfl ?_); refine box_event ?hg (N := 8) ?hd (cs := #[.int .i64 0, .int .i64 0, .int .i64 0, .int .i64 0, .int .i64 0, .int .i64 0, .int .i64 0]) (t := 49) ?hr ?_; (case hd => rfl); (case hg => rfl); (case hr => first | (go_simp; done) | (go_simp; rfl)); intro gb308 hg w176 hbox hb; have n0_ := Aside0.mk (Kd.R_below (fr_ HO_4.out) hb); have n1_ := Aside0.mk (Kd.R_below (fr_ HO297.out) hb); have n2_ := Aside0.mk (Kd.R_below (fr_ HO307.out) hb); have n3_ := Aside0.mk (blk_below (g := gb294) (o := .cells #[.int .i64 x295000_1, .int .i64 x295001_1, .int .i64 x295002_1, .int .i64 x295003_1, .int .i64 x295004_1, .int .i64 x295005_1, .int .i64 x295006_1] 49 (0, 0)) (fb_ BK294.out) hb); have n4_ := Aside0.mk (below_step (bel_ HB.out) hb); have n5_ := Aside0.mk (hbox); have n6_ := Aside0.mk ((by rw [hg]; exact (below_size (bel_ HB.out)) : w.heap.size ≤ gb308)); have n7_ := Aside0.mk ((by rw [hg]; exact (below_size (bel_ HB.out)) : w.heap.size ≤ gb308)); have n8_ := Aside0.mk ((by rw [hg]; exact Nat.ne_of_lt (blk_lt (g := gb294) (o := .cells #[.int .i64 x295000_1, .int .i64 x295001_1, .int .i64 x295002_1, .int .i64 x295003_1, .int .i64 x295004_1, .int .i64 x295005_1, .int .i64 x295006_1] 49 (0, 0)) (fb_ BK294.out)) : gb294 ≠ gb308)); have n9_ := Aside0.mk ((by rw [hg]; exact Nat.ne_of_gt (blk_lt (g := gb294) (o := .cells #[.int .i64 x295000_1, .int .i64 x295001_1, .int .i64 x295002_1, .int .i64 x295003_1, .int .i64 x295004_1, .int .i64 x295005_1, .int .i64 x295006_1] 49 (0, 0)) (fb_ BK294.out)) : gb308 ≠ gb294)); clear HO_4; clear HO297; clear HO307; clear BK294; clear HB; have HO_4 := n0_; have HO297 := n1_; have HO307 := n2_; have BK294 := n3_; have HB := n4_; have BK308 := n5_; have GW308 := n6_; have GE308 := n7_; have NB294_308 := n8_; have NB308_294 := n9_; clear n0_ n1_ n2_ n3_ n4_ n5_ n6_ n7_ n8_ n9_; clear hb hbox hg; have hnb177 := NB308_294.out; have hnc177 := NB294_308.out; have hcz178_0 : w176.cell? ⟨gb308, 0, none⟩ = some (.int .i64 0) := (blk_cell BK308.out 0).trans rfl; have hcz178_1 : w176.cell? ⟨gb308, 1, none⟩ = some (.int .i64 0) := (blk_cell BK308.out 1).trans rfl; have hcz178_2 : w176.cell? ⟨gb308, 2, none⟩ = some (.int .i64 0) := (blk_cell BK308.out 2).trans rfl; have hcz178_3 : w176.cell? ⟨gb308, 3, none⟩ = some (.int .i64 0) := (blk_cell BK308.out 3).trans rfl; have hcz178_4 : w176.cell? ⟨gb308, 4, none⟩ = some (.int .i64 0) := (blk_cell BK308.out 4).trans rfl; have hcz178_5 : w176.cell? ⟨gb308, 5, none⟩ = some (.int .i64 0) := (blk_cell BK308.out 5).trans rfl; have hcz178_6 : w176.cell? ⟨gb308, 6, none⟩ = some (.int .i64 0) := (blk_cell BK308.out 6).trans rfl; have hfz178_0 := blk_frozen BK308.out 0; have hfz178_1 := blk_frozen BK308.out 1; have hfz178_2 := blk_frozen BK308.out 2; have hfz178_3 := blk_frozen BK308.out 3; have hfz178_4 := blk_frozen BK308.out 4; have hfz178_5 := blk_frozen BK308.out 5; have hfz178_6 := blk_frozen BK308.out 6; obtain ⟨Ao179, co179, eo179⟩ := Kd.R_slice HO307.out; subst eo179))
      go_ret
      exact ⟨by first | rfl | (simp [errW_none, errW_some] <;> rfl) | (simp [*, errW_none, errW_some] <;> rfl), bel_ HB.out⟩

/-- THE ONE PURE STATEMENT of laws_FnHoists: yours. -/
def laws_FnHoists.Pure : Prop := ∀ (l0 : List Int), l0.length ≤ maxLen → l0.length * 1 ≤ 140737488351232 → (∀ x ∈ l0, (Lit.int .u8 x).wf = true) → ∃ k, laws_FnHoists.f k l0 = some true
theorem laws_FnHoists.walk (P : laws_FnHoists.Pure) (a0 : Option Addr) (len0 cap0 : Nat) (z0 : List Int) (w : World) (w0 : (a0 = none ∧ len0 = 0 ∧ cap0 = 0 ∧ z0 = []) ∨ ∃ x, a0 = some x ∧ len0 ≤ cap0 ∧ cap0 ≤ maxLen ∧ z0.length = cap0 ∧ (∀ i, i < z0.length → w.cell? (x.add i) = some (.int .u8 (z0.getD i 0))) ∧ ∀ n ∈ z0, (Lit.int .u8 n).wf = true) (y0 : len0 * 1 ≤ 140737488351232) :
  Calls Try.prog 8 #[.slice a0 len0 cap0] w fun e w' => e = .returned (.bool true) ∧ Below w.heap.size w w' := by
 obtain ⟨l0, rfl, hr0, hm0, hw0, hc0⟩ := ReadsInt.ofRowC w0
 obtain ⟨k, h⟩ := P l0 hm0 y0 hw0
 refine (laws_FnHoists.calls k _ _ l0 true w (Kd.C_of_reads (d := (0 : Int)) (h1 := fun _ => rfl) hr0) hc0 h).mono ?_
 rintro e w' ⟨rfl, hd⟩
 exact ⟨rfl, hd⟩

end Go.Proofs.Ytpkhhoecfpjnjaa.PFnHoists
