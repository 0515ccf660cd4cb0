/- The Lean side of Go functions of this seat: what each answers, and that its run comes to that answer; written by a program of this work. -/
import Derived.Test.YtbhdnhpkpbhilaaPFnSettledx0
import Derived.Test.YtbhdnhpkpbhilaaPFnSettledx1
import Derived.Test.YtbhdnhpkpbhilaaPFnSettledx2
import Derived.Test.YtbhdnhpkpbhilaaPFnSettledx3
import Derived.Test.YtbhdnhpkpbhilaaPFnSettledx4
import Derived.Test.YtbhdnhpkpbhilaaPFnSettledx5
import Derived.Test.YtbhdnhpkpbhilaaPFnSettledx6
import Derived.Test.YtbhdnhpkpbhilaaPFnSettledx7
namespace Go.Proofs.Ytbhdnhpkpbhilaa.PFnSettled
open Go.RowKit Go.Proofs.YtbhdnhpkpbhilaaW.PrintWords Go.Proofs.YtbhdnhpkpbhilaaW.PrintLast Go.Proofs.YtbhdnhpkpbhilaaW.PrintMore
attribute [local go_sem] max2_int min2_int max_two min_two max_three min_three max_four min_four   -- for this text's walks alone
set_option linter.unusedVariables false
set_option linter.unusedSimpArgs false

/-! ### laws_FnSettled: function 7 -/
mutual
def laws_FnSettled.j0 : Nat → List Int → List (S58) → List Int → List (S58) → Bool → Option (Bool)
 | 0, _, _, _, _, _ => none
 | k + 1, x0, x3, x5, x6, x63 => if x63 = true then (some false) else ((impl_Relay.f k x3 0).bind fun bt328 => (if bt328.2 = true then (if (bt328.1.length : Int) = (x3.length : Int) then (if 0 < (bt328.1.length : Int) then (laws_FnSettled.j1 k x0 x3 x5 x6 bt328.1 ((rd bt328.1 0) != 0)) else (none)) else (laws_FnSettled.j1 k x0 x3 x5 x6 bt328.1 true)) else (laws_FnSettled.j1 k x0 x3 x5 x6 bt328.1 true)))
def laws_FnSettled.j1 : Nat → List Int → List (S58) → List Int → List (S58) → List Int → Bool → Option (Bool)
 | 0, _, _, _, _, _, _ => none
 | k + 1, x0, x3, x5, x6, x9, x83 => if x83 = true then (some false) else (laws_FnSettled.l0 k x0 x3 x5 x6 x9 0)
def laws_FnSettled.l0 : Nat → List Int → List (S58) → List Int → List (S58) → List Int → Int → Option (Bool)
 | 0, _, _, _, _, _, _ => none
 | k + 1, x0, x3, x5, x6, x9, x11 => if x11 < (x6.length : Int) then ((laws_within.f k x5 x11).bind fun t336 => (if t336 = true then (if 0 ≤ x11 then (if x11 < (x3.length : Int) then (laws_FnSettled.j3 k x0 x3 x5 x6 x9 x11 (((rd_T58 x6 x11).f0) != ((rd_T58 x3 x11).f0))) else (none)) else (none)) else (if 0 ≤ x11 then (if x11 < (x3.length : Int) then (if ((rd_T58 x6 x11).f1) = ((rd_T58 x3 x11).f1) then (laws_FnSettled.j3 k x0 x3 x5 x6 x9 x11 (((rd_T58 x6 x11).f0) != ((rd_T58 x3 x11).f0))) else (laws_FnSettled.j3 k x0 x3 x5 x6 x9 x11 true)) else (none)) else (none)))) else ((laws_at.f x0 4).bind fun t333 => ((impl_Choose.f k x3 0 t333).bind fun bt334 => (if bt334.2 = true then (if bt334.1 ≥ 0 then (some (decide (bt334.1 < 20))) else (some false)) else (some false))))
def laws_FnSettled.j3 : Nat → List Int → List (S58) → List Int → List (S58) → List Int → Int → Bool → Option (Bool)
 | 0, _, _, _, _, _, _, _ => none
 | k + 1, x0, x3, x5, x6, x9, x11, x119 => if x119 = true then (some false) else (laws_FnSettled.l1 k x0 x3 x5 x6 x9 x11 0)
def laws_FnSettled.l1 : Nat → List Int → List (S58) → List Int → List (S58) → List Int → Int → Int → Option (Bool)
 | 0, _, _, _, _, _, _, _ => none
 | k + 1, x0, x3, x5, x6, x9, x11, x12 => if 0 ≤ x11 then (if x11 < (x3.length : Int) then (if x12 < (((rd_T58 x3 x11).f2).length : Int) then (if 0 ≤ x12 then (if 0 ≤ (rd ((rd_T58 x3 x11).f2) x12) then (if (rd ((rd_T58 x3 x11).f2) x12) < (x6.length : Int) then (if x11 < (x6.length : Int) then (if ((rd_T58 x6 (rd ((rd_T58 x3 x11).f2) x12)).f1) = ((rd_T58 x6 x11).f1) then (some false) else (if x11 < (x9.length : Int) then (if (rd ((rd_T58 x3 x11).f2) x12) < (x9.length : Int) then (if ((decide ((rd x9 x11) < 0)) != (decide ((rd x9 (rd ((rd_T58 x3 x11).f2) x12)) < 0))) = true then (some false) else ((laws_size.f (wrap64 ((rd x9 x11) - (rd x9 (rd ((rd_T58 x3 x11).f2) x12))))).bind fun t352 => (if t352 > 1 then (some false) else (laws_FnSettled.l1 k x0 x3 x5 x6 x9 x11 (wrap64 (x12 + 1)))))) else (none)) else (none))) else (none)) else (none)) else (none)) else (none)) else (laws_FnSettled.l0 k x0 x3 x5 x6 x9 (wrap64 (x11 + 1)))) else (none)) else (none)
end
def laws_FnSettled.f (k : Nat) (l0 : List Int) : Option (Bool) := (laws_big.f l0).bind fun t309 => (if t309 = true then (some true) else ((spec_DrawQuiet.f k l0).bind fun bt310 => ((impl_Clashes.f k bt310.1).bind fun t316 => ((impl_Settle.f k bt310.1 bt310.2).bind fun bt319 => ((impl_RadiosOk.f k bt310.1).bind fun t324 => (if t324 = true then (if bt319.2.2 = true then (if (bt319.1.length : Int) = (bt310.1.length : Int) then (if bt319.2.1 > (t316.length : Int) then (laws_FnSettled.j0 k l0 bt310.1 t316 bt319.1 true) else (if bt319.2.1 > (bt310.2.length : Int) then (laws_FnSettled.j0 k l0 bt310.1 t316 bt319.1 true) else ((impl_Clashes.f k bt319.1).bind fun t325 => (laws_FnSettled.j0 k l0 bt310.1 t316 bt319.1 ((t325.length : Int) != 0))))) else (laws_FnSettled.j0 k l0 bt310.1 t316 bt319.1 true)) else (laws_FnSettled.j0 k l0 bt310.1 t316 bt319.1 true)) else (laws_FnSettled.j0 k l0 bt310.1 t316 bt319.1 true)))))))
theorem laws_FnSettled.mono_l : ∀ k, (∀ y0 y1 y2 y3 y4, LeO (laws_FnSettled.j0 k y0 y1 y2 y3 y4) (laws_FnSettled.j0 (k + 1) y0 y1 y2 y3 y4)) ∧ (∀ y0 y1 y2 y3 y4 y5, LeO (laws_FnSettled.j1 k y0 y1 y2 y3 y4 y5) (laws_FnSettled.j1 (k + 1) y0 y1 y2 y3 y4 y5)) ∧ (∀ y0 y1 y2 y3 y4 y5, LeO (laws_FnSettled.l0 k y0 y1 y2 y3 y4 y5) (laws_FnSettled.l0 (k + 1) y0 y1 y2 y3 y4 y5)) ∧ (∀ y0 y1 y2 y3 y4 y5 y6, LeO (laws_FnSettled.j3 k y0 y1 y2 y3 y4 y5 y6) (laws_FnSettled.j3 (k + 1) y0 y1 y2 y3 y4 y5 y6)) ∧ (∀ y0 y1 y2 y3 y4 y5 y6, LeO (laws_FnSettled.l1 k y0 y1 y2 y3 y4 y5 y6) (laws_FnSettled.l1 (k + 1) y0 y1 y2 y3 y4 y5 y6))
 | 0 => ⟨fun _ _ _ _ _ r h => by simp [laws_FnSettled.j0] at h, fun _ _ _ _ _ _ r h => by simp [laws_FnSettled.j1] at h, fun _ _ _ _ _ _ r h => by simp [laws_FnSettled.l0] at h, fun _ _ _ _ _ _ _ r h => by simp [laws_FnSettled.j3] at h, fun _ _ _ _ _ _ _ r h => by simp [laws_FnSettled.l1] at h⟩
 | k + 1 => by
  obtain ⟨ih0, ih1, ih2, ih3, ih4⟩ := laws_FnSettled.mono_l k
  refine ⟨?_, ?_, ?_, ?_, ?_⟩
  ·intro y0 y1 y2 y3 y4
   unfold laws_FnSettled.j0
   repeat' first
   | (with_reducible exact ih0 _ _ _ _ _)
   | (with_reducible exact ih1 _ _ _ _ _ _)
   | (with_reducible exact ih2 _ _ _ _ _ _)
   | (with_reducible exact ih3 _ _ _ _ _ _ _)
   | (with_reducible exact ih4 _ _ _ _ _ _ _)
   | (with_reducible exact impl_Choose.mono _ _ _ _)
   | (with_reducible exact impl_Clashes.mono _ _)
   | (with_reducible exact impl_RadiosOk.mono _ _)
   | (with_reducible exact impl_Relay.mono _ _ _)
   | (with_reducible exact impl_Settle.mono _ _ _)
   | (with_reducible exact laws_within.mono _ _ _)
   | (with_reducible exact spec_DrawQuiet.mono _ _)
   | (with_reducible exact LeO.refl _)
   | (with_reducible exact LeO.none _)
   | (with_reducible refine LeO.ite ?_ ?_)
   | (with_reducible refine LeO.bind ?_ (fun _ => ?_))
   | exact ih0 _ _ _ _ _
   | exact ih1 _ _ _ _ _ _
   | exact ih2 _ _ _ _ _ _
   | exact ih3 _ _ _ _ _ _ _
   | exact ih4 _ _ _ _ _ _ _
   | exact impl_Choose.mono _ _ _ _
   | exact impl_Clashes.mono _ _
   | exact impl_RadiosOk.mono _ _
   | exact impl_Relay.mono _ _ _
   | exact impl_Settle.mono _ _ _
   | exact laws_within.mono _ _ _
   | exact spec_DrawQuiet.mono _ _
   | exact LeO.none _
   | refine LeO.ite ?_ ?_
   | refine LeO.bind ?_ (fun _ => ?_)
  ·intro y0 y1 y2 y3 y4 y5
   unfold laws_FnSettled.j1
   repeat' first
   | (with_reducible exact ih0 _ _ _ _ _)
   | (with_reducible exact ih1 _ _ _ _ _ _)
   | (with_reducible exact ih2 _ _ _ _ _ _)
   | (with_reducible exact ih3 _ _ _ _ _ _ _)
   | (with_reducible exact ih4 _ _ _ _ _ _ _)
   | (with_reducible exact impl_Choose.mono _ _ _ _)
   | (with_reducible exact impl_Clashes.mono _ _)
   | (with_reducible exact impl_RadiosOk.mono _ _)
   | (with_reducible exact impl_Relay.mono _ _ _)
   | (with_reducible exact impl_Settle.mono _ _ _)
   | (with_reducible exact laws_within.mono _ _ _)
   | (with_reducible exact spec_DrawQuiet.mono _ _)
   | (with_reducible exact LeO.refl _)
   | (with_reducible exact LeO.none _)
   | (with_reducible refine LeO.ite ?_ ?_)
   | (with_reducible refine LeO.bind ?_ (fun _ => ?_))
   | exact ih0 _ _ _ _ _
   | exact ih1 _ _ _ _ _ _
   | exact ih2 _ _ _ _ _ _
   | exact ih3 _ _ _ _ _ _ _
   | exact ih4 _ _ _ _ _ _ _
   | exact impl_Choose.mono _ _ _ _
   | exact impl_Clashes.mono _ _
   | exact impl_RadiosOk.mono _ _
   | exact impl_Relay.mono _ _ _
   | exact impl_Settle.mono _ _ _
   | exact laws_within.mono _ _ _
   | exact spec_DrawQuiet.mono _ _
   | exact LeO.none _
   | refine LeO.ite ?_ ?_
   | refine LeO.bind ?_ (fun _ => ?_)
  ·intro y0 y1 y2 y3 y4 y5
   unfold laws_FnSettled.l0
   repeat' first
   | (with_reducible exact ih0 _ _ _ _ _)
   | (with_reducible exact ih1 _ _ _ _ _ _)
   | (with_reducible exact ih2 _ _ _ _ _ _)
   | (with_reducible exact ih3 _ _ _ _ _ _ _)
   | (with_reducible exact ih4 _ _ _ _ _ _ _)
   | (with_reducible exact impl_Choose.mono _ _ _ _)
   | (with_reducible exact impl_Clashes.mono _ _)
   | (with_reducible exact impl_RadiosOk.mono _ _)
   | (with_reducible exact impl_Relay.mono _ _ _)
   | (with_reducible exact impl_Settle.mono _ _ _)
   | (with_reducible exact laws_within.mono _ _ _)
   | (with_reducible exact spec_DrawQuiet.mono _ _)
   | (with_reducible exact LeO.refl _)
   | (with_reducible exact LeO.none _)
   | (with_reducible refine LeO.ite ?_ ?_)
   | (with_reducible refine LeO.bind ?_ (fun _ => ?_))
   | exact ih0 _ _ _ _ _
   | exact ih1 _ _ _ _ _ _
   | exact ih2 _ _ _ _ _ _
   | exact ih3 _ _ _ _ _ _ _
   | exact ih4 _ _ _ _ _ _ _
   | exact impl_Choose.mono _ _ _ _
   | exact impl_Clashes.mono _ _
   | exact impl_RadiosOk.mono _ _
   | exact impl_Relay.mono _ _ _
   | exact impl_Settle.mono _ _ _
   | exact laws_within.mono _ _ _
   | exact spec_DrawQuiet.mono _ _
   | exact LeO.none _
   | refine LeO.ite ?_ ?_
   | refine LeO.bind ?_ (fun _ => ?_)
  ·intro y0 y1 y2 y3 y4 y5 y6
   unfold laws_FnSettled.j3
   repeat' first
   | (with_reducible exact ih0 _ _ _ _ _)
   | (with_reducible exact ih1 _ _ _ _ _ _)
   | (with_reducible exact ih2 _ _ _ _ _ _)
   | (with_reducible exact ih3 _ _ _ _ _ _ _)
   | (with_reducible exact ih4 _ _ _ _ _ _ _)
   | (with_reducible exact impl_Choose.mono _ _ _ _)
   | (with_reducible exact impl_Clashes.mono _ _)
   | (with_reducible exact impl_RadiosOk.mono _ _)
   | (with_reducible exact impl_Relay.mono _ _ _)
   | (with_reducible exact impl_Settle.mono _ _ _)
   | (with_reducible exact laws_within.mono _ _ _)
   | (with_reducible exact spec_DrawQuiet.mono _ _)
   | (with_reducible exact LeO.refl _)
   | (with_reducible exact LeO.none _)
   | (with_reducible refine LeO.ite ?_ ?_)
   | (with_reducible refine LeO.bind ?_ (fun _ => ?_))
   | exact ih0 _ _ _ _ _
   | exact ih1 _ _ _ _ _ _
   | exact ih2 _ _ _ _ _ _
   | exact ih3 _ _ _ _ _ _ _
   | exact ih4 _ _ _ _ _ _ _
   | exact impl_Choose.mono _ _ _ _
   | exact impl_Clashes.mono _ _
   | exact impl_RadiosOk.mono _ _
   | exact impl_Relay.mono _ _ _
   | exact impl_Settle.mono _ _ _
   | exact laws_within.mono _ _ _
   | exact spec_DrawQuiet.mono _ _
   | exact LeO.none _
   | refine LeO.ite ?_ ?_
   | refine LeO.bind ?_ (fun _ => ?_)
  ·intro y0 y1 y2 y3 y4 y5 y6
   unfold laws_FnSettled.l1
   repeat' first
   | (with_reducible exact ih0 _ _ _ _ _)
   | (with_reducible exact ih1 _ _ _ _ _ _)
   | (with_reducible exact ih2 _ _ _ _ _ _)
   | (with_reducible exact ih3 _ _ _ _ _ _ _)
   | (with_reducible exact ih4 _ _ _ _ _ _ _)
   | (with_reducible exact impl_Choose.mono _ _ _ _)
   | (with_reducible exact impl_Clashes.mono _ _)
   | (with_reducible exact impl_RadiosOk.mono _ _)
   | (with_reducible exact impl_Relay.mono _ _ _)
   | (with_reducible exact impl_Settle.mono _ _ _)
   | (with_reducible exact laws_within.mono _ _ _)
   | (with_reducible exact spec_DrawQuiet.mono _ _)
   | (with_reducible exact LeO.refl _)
   | (with_reducible exact LeO.none _)
   | (with_reducible refine LeO.ite ?_ ?_)
   | (with_reducible refine LeO.bind ?_ (fun _ => ?_))
   | exact ih0 _ _ _ _ _
   | exact ih1 _ _ _ _ _ _
   | exact ih2 _ _ _ _ _ _
   | exact ih3 _ _ _ _ _ _ _
   | exact ih4 _ _ _ _ _ _ _
   | exact impl_Choose.mono _ _ _ _
   | exact impl_Clashes.mono _ _
   | exact impl_RadiosOk.mono _ _
   | exact impl_Relay.mono _ _ _
   | exact impl_Settle.mono _ _ _
   | exact laws_within.mono _ _ _
   | exact spec_DrawQuiet.mono _ _
   | exact LeO.none _
   | refine LeO.ite ?_ ?_
   | refine LeO.bind ?_ (fun _ => ?_)
theorem laws_FnSettled.mono : ∀ a0 k, LeO (laws_FnSettled.f k a0) (laws_FnSettled.f (k + 1) a0) := by
 intro a0 k
 obtain ⟨ih0, ih1, ih2, ih3, ih4⟩ := laws_FnSettled.mono_l k
 unfold laws_FnSettled.f
 repeat' first
   | (with_reducible exact ih0 _ _ _ _ _)
   | (with_reducible exact ih1 _ _ _ _ _ _)
   | (with_reducible exact ih2 _ _ _ _ _ _)
   | (with_reducible exact ih3 _ _ _ _ _ _ _)
   | (with_reducible exact ih4 _ _ _ _ _ _ _)
   | (with_reducible exact impl_Choose.mono _ _ _ _)
   | (with_reducible exact impl_Clashes.mono _ _)
   | (with_reducible exact impl_RadiosOk.mono _ _)
   | (with_reducible exact impl_Relay.mono _ _ _)
   | (with_reducible exact impl_Settle.mono _ _ _)
   | (with_reducible exact laws_within.mono _ _ _)
   | (with_reducible exact spec_DrawQuiet.mono _ _)
   | (with_reducible exact LeO.refl _)
   | (with_reducible exact LeO.none _)
   | (with_reducible refine LeO.ite ?_ ?_)
   | (with_reducible refine LeO.bind ?_ (fun _ => ?_))
   | exact ih0 _ _ _ _ _
   | exact ih1 _ _ _ _ _ _
   | exact ih2 _ _ _ _ _ _
   | exact ih3 _ _ _ _ _ _ _
   | exact ih4 _ _ _ _ _ _ _
   | exact impl_Choose.mono _ _ _ _
   | exact impl_Clashes.mono _ _
   | exact impl_RadiosOk.mono _ _
   | exact impl_Relay.mono _ _ _
   | exact impl_Settle.mono _ _ _
   | exact laws_within.mono _ _ _
   | exact spec_DrawQuiet.mono _ _
   | exact LeO.none _
   | refine LeO.ite ?_ ?_
   | refine LeO.bind ?_ (fun _ => ?_)
def laws_FnSettled.T14 : Bool × List (List Nat × List Nat) := (true, [([], []), ([], []), ([0, 1], [0, 1]), ([2], [2]), ([3, 2], [3]), ([4], [4]), ([4], [4]), ([5, 6, 4], [4, 5, 6]), ([7, 4], [4, 7]), ([8, 4], [4, 8]), ([4], [4]), ([4], [4]), ([10, 11, 4], [4, 10, 11]), ([12, 4], [4, 12]), ([13, 4], [4, 13]), ([9, 14, 4], [4, 9, 14]), ([4, 15], [4, 15]), ([16, 4], [16]), ([17], [17]), ([17], [17]), ([18, 19, 17], [17, 18, 19]), ([20, 17], [17, 20]), ([21, 17], [17, 21]), ([17], [17]), ([17], [17]), ([23, 24, 17], [17, 23, 24]), ([25, 17], [17, 25]), ([26, 17], [17, 26]), ([22, 27, 17], [17, 22, 27]), ([17, 28], [17, 28])])
def laws_FnSettled.B14 : List Nat := [0, 0, 3, 7, 15, 31, 31, 127, 255, 511, 31, 31, 3103, 7199, 15391, 32767, 65535, 131071, 262143, 262143, 1048575, 2097151, 4194303, 262143, 262143, 25427967, 58982399, 126091263, 268435455, 536870911]
theorem laws_FnSettled.tab14 : rtab .any (opsOf Try.f7 14) = laws_FnSettled.T14 := by kernel_rfl
theorem laws_FnSettled.bits14 : waitsOk laws_FnSettled.T14.2 laws_FnSettled.B14 = true := by kernel_rfl
def laws_FnSettled.T20 : Bool × List (List Nat × List Nat) := (true, [([], []), ([], []), ([0, 1], [0, 1]), ([2], [2]), ([3], [3]), ([], []), ([], []), ([5, 6], [5, 6]), ([7], [7]), ([8], [8]), ([4, 9], [4, 9]), ([10], [10]), ([11], [11]), ([11], [11]), ([12, 13, 11], [11, 12, 13]), ([14, 11], [11, 14]), ([15, 11], [11, 15]), ([11], [11]), ([11], [11]), ([17, 18, 11], [11, 17, 18]), ([19, 11], [11, 19]), ([20, 11], [11, 20]), ([16, 21, 11], [11, 16, 21]), ([11, 22], [11, 22]), ([23, 11], [23]), ([24], [24]), ([24], [24]), ([25, 26, 24], [24, 25, 26]), ([27, 24], [24, 27]), ([24], [24]), ([24], [24]), ([29, 30, 24], [24, 29, 30]), ([31, 24], [24, 31]), ([28, 32, 24], [24, 28, 32]), ([33, 24, 24], [24, 33]), ([34, 24], [24, 34]), ([24, 35], [24, 35])])
def laws_FnSettled.B20 : List Nat := [0, 0, 3, 7, 15, 0, 0, 96, 224, 480, 1023, 2047, 4095, 4095, 16383, 32767, 65535, 4095, 4095, 397311, 921599, 1970175, 4194303, 8388607, 16777215, 33554431, 33554431, 134217727, 268435455, 33554431, 33554431, 1644167167, 3791650815, 8589934591, 17179869183, 34359738367, 68719476735]
theorem laws_FnSettled.tab20 : rtab .any (opsOf Try.f7 20) = laws_FnSettled.T20 := by kernel_rfl
theorem laws_FnSettled.bits20 : waitsOk laws_FnSettled.T20.2 laws_FnSettled.B20 = true := by kernel_rfl
set_option maxHeartbeats 8000000 in
set_option maxRecDepth 100000 in
theorem laws_FnSettled.calls (k : Nat) (A0 : Option Addr) (c0 : Nat) (l0 : List Int) (r : Bool) (w : World) (hr0 : Kd.C (Kd.int .u8) w A0 l0.length l0) (hc0 : l0.length ≤ c0) (h : laws_FnSettled.f k l0 = some r) :
  Calls Try.prog 7 #[.slice A0 l0.length c0] w fun e w' => e = .returned (.bool r) ∧ Below w.heap.size w w' := by
 have HR0 := Aside0.mk hr0
 have HC0 := Aside0.mk hc0
 clear hr0 hc0
 have HB := Aside0.mk (Below.refl w.heap.size w)
 have H : ((laws_big.f l0).bind fun t309 => (if t309 = true then (some true) else ((spec_DrawQuiet.f k l0).bind fun bt310 => ((impl_Clashes.f k bt310.1).bind fun t316 => ((impl_Settle.f k bt310.1 bt310.2).bind fun bt319 => ((impl_RadiosOk.f k bt310.1).bind fun t324 => (if t324 = true then (if bt319.2.2 = true then (if (bt319.1.length : Int) = (bt310.1.length : Int) then (if bt319.2.1 > (t316.length : Int) then (laws_FnSettled.j0 k l0 bt310.1 t316 bt319.1 true) else (if bt319.2.1 > (bt310.2.length : Int) then (laws_FnSettled.j0 k l0 bt310.1 t316 bt319.1 true) else ((impl_Clashes.f k bt319.1).bind fun t325 => (laws_FnSettled.j0 k l0 bt310.1 t316 bt319.1 ((t325.length : Int) != 0))))) else (laws_FnSettled.j0 k l0 bt310.1 t316 bt319.1 true)) else (laws_FnSettled.j0 k l0 bt310.1 t316 bt319.1 true)) else (laws_FnSettled.j0 k l0 bt310.1 t316 bt319.1 true)))))))) = some r := h
 clear h
 replace H := Option.bind_eq_some_iff.mp H
 obtain ⟨t309, A20, H⟩ := H
 replace H : (if t309 = true then (some true) else ((spec_DrawQuiet.f k l0).bind fun bt310 => ((impl_Clashes.f k bt310.1).bind fun t316 => ((impl_Settle.f k bt310.1 bt310.2).bind fun bt319 => ((impl_RadiosOk.f k bt310.1).bind fun t324 => (if t324 = true then (if bt319.2.2 = true then (if (bt319.1.length : Int) = (bt310.1.length : Int) then (if bt319.2.1 > (t316.length : Int) then (laws_FnSettled.j0 k l0 bt310.1 t316 bt319.1 true) else (if bt319.2.1 > (bt310.2.length : Int) then (laws_FnSettled.j0 k l0 bt310.1 t316 bt319.1 true) else ((impl_Clashes.f k bt319.1).bind fun t325 => (laws_FnSettled.j0 k l0 bt310.1 t316 bt319.1 ((t325.length : Int) != 0))))) else (laws_FnSettled.j0 k l0 bt310.1 t316 bt319.1 true)) else (laws_FnSettled.j0 k l0 bt310.1 t316 bt319.1 true)) else (laws_FnSettled.j0 k l0 bt310.1 t316 bt319.1 true))))))) = some r := H
 have A2 := Aside0.mk A20
 clear A20
 by_cases c3 : t309 = true
 ·subst c3
  have H1 : (some true) = some r := by rw [if_pos rfl] at H; exact H
  clear H
  have H := H1
  clear H1
  obtain rfl := Option.some.inj H
  go_enter Try.func7, Try.ntmps7
  go_wp2_with (first | ((with_reducible refine gate_callee (f := 9) rfl ?_); refine goesL_ (some 17) rfl rfl Try.func9 (by kernel_rfl) rfl #[.slice A0 l0.length c0] rfl ml_ ?_; (with_reducible refine (laws_big.calls _ _ l0 true _ ?side1 ?side2 A2.out).mono ?_); (case side1 => repeat (first | exact HR0.out | (with_reducible refine Kd.C_alloc ?_ _) | (with_reducible refine Kd.C_drewN ?_ _) | (with_reducible refine Kd.C_drew ?_))); (case side2 => exact HC0.out); rintro e w' ⟨rfl, ⟨nd, rfl⟩⟩; refine ⟨_, rfl, ?_⟩))
  go_ret
  exact ⟨by first | rfl | (simp [errW_none, errW_some] <;> rfl) | (simp [*, errW_none, errW_some] <;> rfl), bel_ HB.out⟩
 ·replace c3 := Bool.eq_false_iff.mpr c3
  subst c3
  have H1 : ((spec_DrawQuiet.f k l0).bind fun bt310 => ((impl_Clashes.f k bt310.1).bind fun t316 => ((impl_Settle.f k bt310.1 bt310.2).bind fun bt319 => ((impl_RadiosOk.f k bt310.1).bind fun t324 => (if t324 = true then (if bt319.2.2 = true then (if (bt319.1.length : Int) = (bt310.1.length : Int) then (if bt319.2.1 > (t316.length : Int) then (laws_FnSettled.j0 k l0 bt310.1 t316 bt319.1 true) else (if bt319.2.1 > (bt310.2.length : Int) then (laws_FnSettled.j0 k l0 bt310.1 t316 bt319.1 true) else ((impl_Clashes.f k bt319.1).bind fun t325 => (laws_FnSettled.j0 k l0 bt310.1 t316 bt319.1 ((t325.length : Int) != 0))))) else (laws_FnSettled.j0 k l0 bt310.1 t316 bt319.1 true)) else (laws_FnSettled.j0 k l0 bt310.1 t316 bt319.1 true)) else (laws_FnSettled.j0 k l0 bt310.1 t316 bt319.1 true)))))) = some r := by rw [if_neg (show ¬ (false = true) by decide)] at H; exact H
  clear H
  have H := H1
  clear H1
  replace H := Option.bind_eq_some_iff.mp H
  obtain ⟨⟨t310, t311⟩, A40, H⟩ := H
  replace H : ((impl_Clashes.f k t310).bind fun t316 => ((impl_Settle.f k t310 t311).bind fun bt319 => ((impl_RadiosOk.f k t310).bind fun t324 => (if t324 = true then (if bt319.2.2 = true then (if (bt319.1.length : Int) = (t310.length : Int) then (if bt319.2.1 > (t316.length : Int) then (laws_FnSettled.j0 k l0 t310 t316 bt319.1 true) else (if bt319.2.1 > (t311.length : Int) then (laws_FnSettled.j0 k l0 t310 t316 bt319.1 true) else ((impl_Clashes.f k bt319.1).bind fun t325 => (laws_FnSettled.j0 k l0 t310 t316 bt319.1 ((t325.length : Int) != 0))))) else (laws_FnSettled.j0 k l0 t310 t316 bt319.1 true)) else (laws_FnSettled.j0 k l0 t310 t316 bt319.1 true)) else (laws_FnSettled.j0 k l0 t310 t316 bt319.1 true))))) = some r := H
  have A4 := Aside0.mk A40
  clear A40
  replace H := Option.bind_eq_some_iff.mp H
  obtain ⟨t316, A50, H⟩ := H
  replace H : ((impl_Settle.f k t310 t311).bind fun bt319 => ((impl_RadiosOk.f k t310).bind fun t324 => (if t324 = true then (if bt319.2.2 = true then (if (bt319.1.length : Int) = (t310.length : Int) then (if bt319.2.1 > (t316.length : Int) then (laws_FnSettled.j0 k l0 t310 t316 bt319.1 true) else (if bt319.2.1 > (t311.length : Int) then (laws_FnSettled.j0 k l0 t310 t316 bt319.1 true) else ((impl_Clashes.f k bt319.1).bind fun t325 => (laws_FnSettled.j0 k l0 t310 t316 bt319.1 ((t325.length : Int) != 0))))) else (laws_FnSettled.j0 k l0 t310 t316 bt319.1 true)) else (laws_FnSettled.j0 k l0 t310 t316 bt319.1 true)) else (laws_FnSettled.j0 k l0 t310 t316 bt319.1 true)))) = some r := H
  have A5 := Aside0.mk A50
  clear A50
  replace H := Option.bind_eq_some_iff.mp H
  obtain ⟨⟨t319, t322, t323⟩, A60, H⟩ := H
  replace H : ((impl_RadiosOk.f k t310).bind fun t324 => (if t324 = true then (if t323 = true then (if (t319.length : Int) = (t310.length : Int) then (if t322 > (t316.length : Int) then (laws_FnSettled.j0 k l0 t310 t316 t319 true) else (if t322 > (t311.length : Int) then (laws_FnSettled.j0 k l0 t310 t316 t319 true) else ((impl_Clashes.f k t319).bind fun t325 => (laws_FnSettled.j0 k l0 t310 t316 t319 ((t325.length : Int) != 0))))) else (laws_FnSettled.j0 k l0 t310 t316 t319 true)) else (laws_FnSettled.j0 k l0 t310 t316 t319 true)) else (laws_FnSettled.j0 k l0 t310 t316 t319 true))) = some r := H
  have A6 := Aside0.mk A60
  clear A60
  have HC7 := Aside0.mk H
  clear H
  go_enter Try.func7, Try.ntmps7
  go_upto_region 6 with (first | ((with_reducible refine gate_callee (f := 9) rfl ?_); refine goesL_ (some 17) rfl rfl Try.func9 (by kernel_rfl) rfl #[.slice A0 l0.length c0] rfl ml_ ?_; (with_reducible refine (laws_big.calls _ _ l0 false _ ?side1 ?side2 A2.out).mono ?_); (case side1 => repeat (first | exact HR0.out | (with_reducible refine Kd.C_alloc ?_ _) | (with_reducible refine Kd.C_drewN ?_ _) | (with_reducible refine Kd.C_drew ?_))); (case side2 => exact HC0.out); rintro e w' ⟨rfl, ⟨nd, rfl⟩⟩; refine ⟨_, rfl, ?_⟩) | ((with_reducible refine gate_callee (f := 27) rfl ?_); refine goesL_ (some 20) rfl rfl Try.func27 (by kernel_rfl) rfl #[.slice A0 l0.length c0] rfl ml_ ?_; (with_reducible refine (spec_DrawQuiet.calls k _ _ l0 t310 t311 _ ?side1 ?side2 A4.out).mono ?_); (case side1 => repeat (first | exact HR0.out | (with_reducible refine Kd.C_alloc ?_ _) | (with_reducible refine Kd.C_drewN ?_ _) | (with_reducible refine Kd.C_drew ?_))); (case side2 => exact HC0.out); rintro e w8 ⟨v312, v314, rfl, ho0, ho1, hb⟩; refine ⟨_, rfl, ?_⟩; have n0_ := Aside0.mk (Kd.N_lower (Kd.N_mono (ok' := fun k_ => some k_ ≠ (v314 : Value).ownBlock) (Kd.S_N (Kd.S_bound ho0)) (fun k_ hk_ => hk_.1)) (below_size (bel_ HB.out))); have n1_ := Aside0.mk (Kd.R_lower ho1 (below_size (bel_ HB.out))); have n2_ := Aside0.mk (below_step (bel_ HB.out) hb); clear HB; have HO313 := n0_; have HO315 := n1_; have HB := n2_; clear n0_ n1_ n2_; (try clear hb); (try clear hb2); (try clear hk); (try clear hi); (try clear ho0); (try clear ho1); obtain ⟨Ao9, co9, eo9⟩ := Kd.N_slice HO313.out; subst eo9) | ((with_reducible refine gate_callee (f := 28) rfl ?_); refine goesL_ (some 24) rfl rfl Try.func28 (by kernel_rfl) rfl #[.slice Ao9 t310.length co9] rfl ml_ ?_; (with_reducible refine (impl_Clashes.calls k _ _ t310 t316 _ ?side1 ?side2 A5.out).mono ?_); (case side1 => repeat (first | exact (Kd.N_reads' HO313.out).2.2 | (with_reducible refine Kd.C_alloc ?_ _) | (with_reducible refine Kd.C_drewN ?_ _) | (with_reducible refine Kd.C_drew ?_))); (case side2 => exact (Kd.N_reads' HO313.out).2.1); rintro e w10 ⟨v317, rfl, ho0, hb⟩; refine ⟨_, rfl, ?_⟩; have n0_ := Aside0.mk (Kd.N_elder' (by (with_reducible repeat (first | apply Kd.N_alloc | apply Kd.N_drewN | apply Kd.N_drew)); exact HO313.out) (Kd.R_base ho0) hb); have n1_ := Aside0.mk (Kd.R_elder' (fr_ HO315.out) (Kd.R_base ho0) hb); have n2_ := Aside0.mk (Kd.R_lower (Kd.R_new' ho0 (Kd.R_lt (fr_ HO315.out))) (below_size (bel_ HB.out))); have n3_ := Aside0.mk (below_step (bel_ HB.out) hb); clear HO313; clear HO315; clear HB; have HO313 := n0_; have HO315 := n1_; have HO318 := n2_; have HB := n3_; clear n0_ n1_ n2_ n3_; (try clear hb); (try clear hb2); (try clear hk); (try clear hi); (try clear ho0); obtain ⟨Ao11, co11, eo11⟩ := Kd.R_slice HO315.out; subst eo11) | ((with_reducible refine gate_callee (f := 29) rfl ?_); refine goesL_ (some 28) rfl rfl Try.func29 (by kernel_rfl) rfl #[.slice Ao9 t310.length co9, .slice Ao11 t311.length co11] rfl ml_ ?_; (with_reducible refine (impl_Settle.calls k (fun k_ => (some k_ ≠ (.slice Ao11 t311.length co11 : Value).ownBlock ∧ some k_ ≠ (v317 : Value).ownBlock)) _ _ t310 _ _ t311 t319 t322 t323 _ ?side1 ?side2 ?side3 A6.out).mono ?_); (case side1 => exact Kd.N_V (HO313.out)); (case side2 => exact rc_ (Kd.R_reads' HO315.out).2.2); (case side3 => exact (Kd.R_reads' HO315.out).2.1); rintro e w12 ⟨v320, rfl, ho0, hb⟩; refine ⟨_, rfl, ?_⟩; have n0_ := Aside0.mk (Kd.N_elder' (by (with_reducible repeat (first | apply Kd.N_alloc | apply Kd.N_drewN | apply Kd.N_drew)); exact HO313.out) (Kd.N_base ho0) hb); have n1_ := Aside0.mk (Kd.R_below (fr_ HO315.out) hb); have n2_ := Aside0.mk (Kd.R_below (fr_ HO318.out) hb); have n3_ := Aside0.mk (Kd.N_lower (Kd.N_mono (ok' := fun k_ => some k_ ≠ (.slice Ao11 t311.length co11 : Value).ownBlock ∧ some k_ ≠ (v317 : Value).ownBlock) ho0 (fun k_ hk_ => ⟨Or.elim hk_ (fun hs_ => hs_.1) (fun hn_ => (Kd.fresh' (Kd.R_lt (fr_ HO315.out)) k_ hn_)), Or.elim hk_ (fun hs_ => hs_.2) (fun hn_ => (Kd.fresh' (Kd.R_lt (fr_ HO318.out)) k_ hn_))⟩)) (below_size (bel_ HB.out))); have n4_ := Aside0.mk (below_step (bel_ HB.out) hb); clear HO313; clear HO315; clear HO318; clear HB; have HO313 := n0_; have HO315 := n1_; have HO318 := n2_; have HO321 := n3_; have HB := n4_; clear n0_ n1_ n2_ n3_ n4_; (try clear hb); (try clear hb2); (try clear hk); (try clear hi); (try clear ho0)))
  (try simp only [Act.put, sA_, sZ_, sS_])
  go_cut [63] (fun v63 wc => ∃ (kq : Nat) (x63_6 : Bool), v63 = .bool x63_6 ∧ Aside0 (laws_FnSettled.j0 kq l0 t310 t316 t319 x63_6 = some r) ∧ Aside0 (kq ≤ k) ∧ Aside0 (Kd.N k58 58 wc w.heap.size (fun k_ => some k_ ≠ (v317 : Value).ownBlock ∧ some k_ ≠ (v320 : Value).ownBlock) (.slice Ao9 t310.length co9) t310) ∧ Aside0 (Kd.R (Kd.int .i64) 3 wc w.heap.size (fun _ => True) v317 t316) ∧ Aside0 (Kd.N k58 58 wc w.heap.size (fun k_ => some k_ ≠ (v317 : Value).ownBlock) v320 t319) ∧ Aside0 (Below w.heap.size w wc))
  case first =>
   have H := HC7.out
   clear HC7
   replace H := Option.bind_eq_some_iff.mp H
   obtain ⟨t324, A130, H⟩ := H
   replace H : (if t324 = true then (if t323 = true then (if (t319.length : Int) = (t310.length : Int) then (if t322 > (t316.length : Int) then (laws_FnSettled.j0 k l0 t310 t316 t319 true) else (if t322 > (t311.length : Int) then (laws_FnSettled.j0 k l0 t310 t316 t319 true) else ((impl_Clashes.f k t319).bind fun t325 => (laws_FnSettled.j0 k l0 t310 t316 t319 ((t325.length : Int) != 0))))) else (laws_FnSettled.j0 k l0 t310 t316 t319 true)) else (laws_FnSettled.j0 k l0 t310 t316 t319 true)) else (laws_FnSettled.j0 k l0 t310 t316 t319 true)) = some r := H
   have A13 := Aside0.mk A130
   clear A130
   by_cases c14 : t324 = true
   ·as_aux_lemma =>
    subst c14
    have H1 : (if t323 = true then (if (t319.length : Int) = (t310.length : Int) then (if t322 > (t316.length : Int) then (laws_FnSettled.j0 k l0 t310 t316 t319 true) else (if t322 > (t311.length : Int) then (laws_FnSettled.j0 k l0 t310 t316 t319 true) else ((impl_Clashes.f k t319).bind fun t325 => (laws_FnSettled.j0 k l0 t310 t316 t319 ((t325.length : Int) != 0))))) else (laws_FnSettled.j0 k l0 t310 t316 t319 true)) else (laws_FnSettled.j0 k l0 t310 t316 t319 true)) = some r := by rw [if_pos rfl] at H; exact H
    clear H
    have H := H1
    clear H1
    by_cases c15 : t323 = true
    ·subst c15
     have H1 : (if (t319.length : Int) = (t310.length : Int) then (if t322 > (t316.length : Int) then (laws_FnSettled.j0 k l0 t310 t316 t319 true) else (if t322 > (t311.length : Int) then (laws_FnSettled.j0 k l0 t310 t316 t319 true) else ((impl_Clashes.f k t319).bind fun t325 => (laws_FnSettled.j0 k l0 t310 t316 t319 ((t325.length : Int) != 0))))) else (laws_FnSettled.j0 k l0 t310 t316 t319 true)) = some r := by rw [if_pos rfl] at H; exact H
     clear H
     have H := H1
     clear H1
     by_cases c16 : (t319.length : Int) = (t310.length : Int)
     ·rw [if_pos c16] at H
      have c16b0 : ((t319.length : Int) == (t310.length : Int)) = true := beq_iff_eq.mpr c16
      have c16b1 : ((t319.length : Int) != (t310.length : Int)) = false := bne_eq_false_iff_eq.mpr c16
      have c16b2 : (t319.length == t310.length) = true := by first | simpa using c16 | (simp at c16 ⊢; omega)
      clear c16
      (first | rw [c16b0] | (simp only [i64_w, i32_w]; rw [c16b0]) | skip)
      by_cases c17 : t322 > (t316.length : Int)
      ·rw [if_pos c17] at H
       have c17b0 : decide ((t316.length : Int) < t322) = true := decide_eq_true c17
       clear c17
       have H' := Aside0.mk H
       clear H
       go_wp2_with (first | ((with_reducible refine gate_callee (f := 30) rfl ?_); refine goesL_ (some 33) rfl rfl Try.func30 (by kernel_rfl) rfl #[.slice Ao9 t310.length co9] rfl ml_ ?_; (with_reducible refine (impl_RadiosOk.calls k _ _ t310 true _ ?side1 ?side2 A13.out).mono ?_); (case side1 => repeat (first | exact (Kd.N_reads' HO313.out).2.2 | (with_reducible refine Kd.C_alloc ?_ _) | (with_reducible refine Kd.C_drewN ?_ _) | (with_reducible refine Kd.C_drew ?_))); (case side2 => exact (Kd.N_reads' HO313.out).2.1); rintro e w18 ⟨rfl, hb⟩; refine ⟨_, rfl, ?_⟩; have n0_ := Aside0.mk (Kd.N_below (by (with_reducible repeat (first | apply Kd.N_alloc | apply Kd.N_drewN | apply Kd.N_drew)); exact HO313.out) hb); have n1_ := Aside0.mk (Kd.R_below (fr_ HO315.out) hb); have n2_ := Aside0.mk (Kd.R_below (fr_ HO318.out) hb); have n3_ := Aside0.mk (Kd.N_below (by (with_reducible repeat (first | apply Kd.N_alloc | apply Kd.N_drewN | apply Kd.N_drew)); exact HO321.out) hb); have n4_ := Aside0.mk (below_step (bel_ HB.out) hb); clear HO313; clear HO315; clear HO318; clear HO321; clear HB; have HO313 := n0_; have HO315 := n1_; have HO318 := n2_; have HO321 := n3_; have HB := n4_; clear n0_ n1_ n2_ n3_ n4_; (try clear hb); (try clear hb2); (try clear hk); (try clear hi); obtain ⟨Ao19, co19, eo19⟩ := Kd.N_slice HO321.out; subst eo19; obtain ⟨Ao20, co20, eo20⟩ := Kd.R_slice HO318.out; subst eo20))
       go_meet
       case rel => exact ⟨_, (true), (by first | rfl | (simp; done) | (simp [*]; done) | (simp [wrap64]; done)), H', ⟨by first | omega | exact Nat.le_refl _⟩, ⟨by (with_reducible repeat (first | apply Kd.N_alloc | apply Kd.N_drewN | apply Kd.N_drew)); exact Kd.N_mono HO313.out (fun _ hk => ⟨hk.1.2, hk.2⟩)⟩, ⟨by (with_reducible repeat (first | apply Kd.R_alloc | apply Kd.R_drewN | apply Kd.R_drew)); exact Kd.R_mono HO318.out (fun _ hk => trivial)⟩, ⟨by (with_reducible repeat (first | apply Kd.N_alloc | apply Kd.N_drewN | apply Kd.N_drew)); exact Kd.N_mono HO321.out (fun _ hk => hk.2)⟩, ⟨bel_ HB.out⟩⟩
      ·rw [if_neg c17] at H
       have c17b0 : decide ((t316.length : Int) < t322) = false := decide_eq_false c17
       clear c17
       by_cases c21 : t322 > (t311.length : Int)
       ·rw [if_pos c21] at H
        have c21b0 : decide ((t311.length : Int) < t322) = true := decide_eq_true c21
        clear c21
        have H' := Aside0.mk H
        clear H
        go_wp2_with (first | ((with_reducible refine gate_callee (f := 30) rfl ?_); refine goesL_ (some 33) rfl rfl Try.func30 (by kernel_rfl) rfl #[.slice Ao9 t310.length co9] rfl ml_ ?_; (with_reducible refine (impl_RadiosOk.calls k _ _ t310 true _ ?side1 ?side2 A13.out).mono ?_); (case side1 => repeat (first | exact (Kd.N_reads' HO313.out).2.2 | (with_reducible refine Kd.C_alloc ?_ _) | (with_reducible refine Kd.C_drewN ?_ _) | (with_reducible refine Kd.C_drew ?_))); (case side2 => exact (Kd.N_reads' HO313.out).2.1); rintro e w22 ⟨rfl, hb⟩; refine ⟨_, rfl, ?_⟩; have n0_ := Aside0.mk (Kd.N_below (by (with_reducible repeat (first | apply Kd.N_alloc | apply Kd.N_drewN | apply Kd.N_drew)); exact HO313.out) hb); have n1_ := Aside0.mk (Kd.R_below (fr_ HO315.out) hb); have n2_ := Aside0.mk (Kd.R_below (fr_ HO318.out) hb); have n3_ := Aside0.mk (Kd.N_below (by (with_reducible repeat (first | apply Kd.N_alloc | apply Kd.N_drewN | apply Kd.N_drew)); exact HO321.out) hb); have n4_ := Aside0.mk (below_step (bel_ HB.out) hb); clear HO313; clear HO315; clear HO318; clear HO321; clear HB; have HO313 := n0_; have HO315 := n1_; have HO318 := n2_; have HO321 := n3_; have HB := n4_; clear n0_ n1_ n2_ n3_ n4_; (try clear hb); (try clear hb2); (try clear hk); (try clear hi); obtain ⟨Ao23, co23, eo23⟩ := Kd.N_slice HO321.out; subst eo23; obtain ⟨Ao24, co24, eo24⟩ := Kd.R_slice HO318.out; subst eo24))
        go_meet
        case rel => exact ⟨_, (true), (by first | rfl | (simp; done) | (simp [*]; done) | (simp [wrap64]; done)), H', ⟨by first | omega | exact Nat.le_refl _⟩, ⟨by (with_reducible repeat (first | apply Kd.N_alloc | apply Kd.N_drewN | apply Kd.N_drew)); exact Kd.N_mono HO313.out (fun _ hk => ⟨hk.1.2, hk.2⟩)⟩, ⟨by (with_reducible repeat (first | apply Kd.R_alloc | apply Kd.R_drewN | apply Kd.R_drew)); exact Kd.R_mono HO318.out (fun _ hk => trivial)⟩, ⟨by (with_reducible repeat (first | apply Kd.N_alloc | apply Kd.N_drewN | apply Kd.N_drew)); exact Kd.N_mono HO321.out (fun _ hk => hk.2)⟩, ⟨bel_ HB.out⟩⟩
       ·rw [if_neg c21] at H
        have c21b0 : decide ((t311.length : Int) < t322) = false := decide_eq_false c21
        clear c21
        replace H := Option.bind_eq_some_iff.mp H
        obtain ⟨t325, A250, H⟩ := H
        replace H : (laws_FnSettled.j0 k l0 t310 t316 t319 ((t325.length : Int) != 0)) = some r := H
        have A25 := Aside0.mk A250
        clear A250
        have H' := Aside0.mk H
        clear H
        go_wp2_with (first | ((with_reducible refine gate_callee (f := 30) rfl ?_); refine goesL_ (some 33) rfl rfl Try.func30 (by kernel_rfl) rfl #[.slice Ao9 t310.length co9] rfl ml_ ?_; (with_reducible refine (impl_RadiosOk.calls k _ _ t310 true _ ?side1 ?side2 A13.out).mono ?_); (case side1 => repeat (first | exact (Kd.N_reads' HO313.out).2.2 | (with_reducible refine Kd.C_alloc ?_ _) | (with_reducible refine Kd.C_drewN ?_ _) | (with_reducible refine Kd.C_drew ?_))); (case side2 => exact (Kd.N_reads' HO313.out).2.1); rintro e w26 ⟨rfl, hb⟩; refine ⟨_, rfl, ?_⟩; have n0_ := Aside0.mk (Kd.N_below (by (with_reducible repeat (first | apply Kd.N_alloc | apply Kd.N_drewN | apply Kd.N_drew)); exact HO313.out) hb); have n1_ := Aside0.mk (Kd.R_below (fr_ HO315.out) hb); have n2_ := Aside0.mk (Kd.R_below (fr_ HO318.out) hb); have n3_ := Aside0.mk (Kd.N_below (by (with_reducible repeat (first | apply Kd.N_alloc | apply Kd.N_drewN | apply Kd.N_drew)); exact HO321.out) hb); have n4_ := Aside0.mk (below_step (bel_ HB.out) hb); clear HO313; clear HO315; clear HO318; clear HO321; clear HB; have HO313 := n0_; have HO315 := n1_; have HO318 := n2_; have HO321 := n3_; have HB := n4_; clear n0_ n1_ n2_ n3_ n4_; (try clear hb); (try clear hb2); (try clear hk); (try clear hi); obtain ⟨Ao27, co27, eo27⟩ := Kd.N_slice HO321.out; subst eo27; obtain ⟨Ao28, co28, eo28⟩ := Kd.R_slice HO318.out; subst eo28) | (go_at_call 28; (with_reducible refine (impl_Clashes.calls k _ _ t319 t325 _ ?side1 ?side2 A25.out).mono ?_); (case side1 => repeat (first | exact (Kd.N_reads' HO321.out).2.2 | (with_reducible refine Kd.C_alloc ?_ _) | (with_reducible refine Kd.C_drewN ?_ _) | (with_reducible refine Kd.C_drew ?_))); (case side2 => exact (Kd.N_reads' HO321.out).2.1); rintro e w29 ⟨v326, rfl, ho0, hb⟩; have n0_ := Aside0.mk (Kd.N_elder' (by (with_reducible repeat (first | apply Kd.N_alloc | apply Kd.N_drewN | apply Kd.N_drew)); exact HO313.out) (Kd.R_base ho0) hb); have n1_ := Aside0.mk (Kd.R_elder' (fr_ HO315.out) (Kd.R_base ho0) hb); have n2_ := Aside0.mk (Kd.R_elder' (fr_ HO318.out) (Kd.R_base ho0) hb); have n3_ := Aside0.mk (Kd.N_elder' (by (with_reducible repeat (first | apply Kd.N_alloc | apply Kd.N_drewN | apply Kd.N_drew)); exact HO321.out) (Kd.R_base ho0) hb); have n4_ := Aside0.mk (Kd.R_lower (Kd.R_new' (Kd.R_new' ho0 (Kd.R_lt (fr_ HO315.out))) (Kd.R_lt (fr_ HO318.out))) (below_size (bel_ HB.out))); have n5_ := Aside0.mk (below_step (bel_ HB.out) hb); clear HO313; clear HO315; clear HO318; clear HO321; clear HB; have HO313 := n0_; have HO315 := n1_; have HO318 := n2_; have HO321 := n3_; have HO327 := n4_; have HB := n5_; clear n0_ n1_ n2_ n3_ n4_ n5_; (try clear hb); (try clear hb2); (try clear hk); (try clear hi); (try clear ho0); obtain ⟨Ao30, co30, eo30⟩ := Kd.R_slice HO327.out; subst eo30))
        go_meet
        case rel => exact ⟨_, (((t325.length : Int) != 0)), (by first | rfl | (simp; done) | (simp [*]; done) | (simp [wrap64]; done)), H', ⟨by first | omega | exact Nat.le_refl _⟩, ⟨by (with_reducible repeat (first | apply Kd.N_alloc | apply Kd.N_drewN | apply Kd.N_drew)); exact Kd.N_mono HO313.out (fun _ hk => ⟨hk.1.1.2, hk.1.2⟩)⟩, ⟨by (with_reducible repeat (first | apply Kd.R_alloc | apply Kd.R_drewN | apply Kd.R_drew)); exact Kd.R_mono HO318.out (fun _ hk => trivial)⟩, ⟨by (with_reducible repeat (first | apply Kd.N_alloc | apply Kd.N_drewN | apply Kd.N_drew)); exact Kd.N_mono HO321.out (fun _ hk => hk.1.2)⟩, ⟨bel_ HB.out⟩⟩
     ·rw [if_neg c16] at H
      have c16b0 : ((t319.length : Int) == (t310.length : Int)) = false := beq_eq_false_iff_ne.mpr c16
      have c16b1 : ((t319.length : Int) != (t310.length : Int)) = true := bne_iff_ne.mpr c16
      have c16b2 : (t319.length == t310.length) = false := by first | simpa using c16 | (simp at c16 ⊢; omega)
      (first | rw [c16b0] | (simp only [i64_w, i32_w]; rw [c16b0]) | skip)
      have H' := Aside0.mk H
      clear H
      go_wp2_with (first | ((with_reducible refine gate_callee (f := 30) rfl ?_); refine goesL_ (some 33) rfl rfl Try.func30 (by kernel_rfl) rfl #[.slice Ao9 t310.length co9] rfl ml_ ?_; (with_reducible refine (impl_RadiosOk.calls k _ _ t310 true _ ?side1 ?side2 A13.out).mono ?_); (case side1 => repeat (first | exact (Kd.N_reads' HO313.out).2.2 | (with_reducible refine Kd.C_alloc ?_ _) | (with_reducible refine Kd.C_drewN ?_ _) | (with_reducible refine Kd.C_drew ?_))); (case side2 => exact (Kd.N_reads' HO313.out).2.1); rintro e w31 ⟨rfl, hb⟩; refine ⟨_, rfl, ?_⟩; have n0_ := Aside0.mk (Kd.N_below (by (with_reducible repeat (first | apply Kd.N_alloc | apply Kd.N_drewN | apply Kd.N_drew)); exact HO313.out) hb); have n1_ := Aside0.mk (Kd.R_below (fr_ HO315.out) hb); have n2_ := Aside0.mk (Kd.R_below (fr_ HO318.out) hb); have n3_ := Aside0.mk (Kd.N_below (by (with_reducible repeat (first | apply Kd.N_alloc | apply Kd.N_drewN | apply Kd.N_drew)); exact HO321.out) hb); have n4_ := Aside0.mk (below_step (bel_ HB.out) hb); clear HO313; clear HO315; clear HO318; clear HO321; clear HB; have HO313 := n0_; have HO315 := n1_; have HO318 := n2_; have HO321 := n3_; have HB := n4_; clear n0_ n1_ n2_ n3_ n4_; (try clear hb); (try clear hb2); (try clear hk); (try clear hi); obtain ⟨Ao32, co32, eo32⟩ := Kd.N_slice HO321.out; subst eo32))
      go_meet
      case rel => exact ⟨_, (true), (by first | rfl | (simp; done) | (simp [*]; done) | (simp [wrap64]; done)), H', ⟨by first | omega | exact Nat.le_refl _⟩, ⟨by (with_reducible repeat (first | apply Kd.N_alloc | apply Kd.N_drewN | apply Kd.N_drew)); exact Kd.N_mono HO313.out (fun _ hk => ⟨hk.1.2, hk.2⟩)⟩, ⟨by (with_reducible repeat (first | apply Kd.R_alloc | apply Kd.R_drewN | apply Kd.R_drew)); exact Kd.R_mono HO318.out (fun _ hk => trivial)⟩, ⟨by (with_reducible repeat (first | apply Kd.N_alloc | apply Kd.N_drewN | apply Kd.N_drew)); exact Kd.N_mono HO321.out (fun _ hk => hk.2)⟩, ⟨bel_ HB.out⟩⟩
    ·replace c15 := Bool.eq_false_iff.mpr c15
     subst c15
     have H1 : (laws_FnSettled.j0 k l0 t310 t316 t319 true) = some r := by rw [if_neg (show ¬ (false = true) by decide)] at H; exact H
     clear H
     have H := H1
     clear H1
     have H' := Aside0.mk H
     clear H
     go_wp2_with (first | ((with_reducible refine gate_callee (f := 30) rfl ?_); refine goesL_ (some 33) rfl rfl Try.func30 (by kernel_rfl) rfl #[.slice Ao9 t310.length co9] rfl ml_ ?_; (with_reducible refine (impl_RadiosOk.calls k _ _ t310 true _ ?side1 ?side2 A13.out).mono ?_); (case side1 => repeat (first | exact (Kd.N_reads' HO313.out).2.2 | (with_reducible refine Kd.C_alloc ?_ _) | (with_reducible refine Kd.C_drewN ?_ _) | (with_reducible refine Kd.C_drew ?_))); (case side2 => exact (Kd.N_reads' HO313.out).2.1); rintro e w33 ⟨rfl, hb⟩; refine ⟨_, rfl, ?_⟩; have n0_ := Aside0.mk (Kd.N_below (by (with_reducible repeat (first | apply Kd.N_alloc | apply Kd.N_drewN | apply Kd.N_drew)); exact HO313.out) hb); have n1_ := Aside0.mk (Kd.R_below (fr_ HO315.out) hb); have n2_ := Aside0.mk (Kd.R_below (fr_ HO318.out) hb); have n3_ := Aside0.mk (Kd.N_below (by (with_reducible repeat (first | apply Kd.N_alloc | apply Kd.N_drewN | apply Kd.N_drew)); exact HO321.out) hb); have n4_ := Aside0.mk (below_step (bel_ HB.out) hb); clear HO313; clear HO315; clear HO318; clear HO321; clear HB; have HO313 := n0_; have HO315 := n1_; have HO318 := n2_; have HO321 := n3_; have HB := n4_; clear n0_ n1_ n2_ n3_ n4_; (try clear hb); (try clear hb2); (try clear hk); (try clear hi)))
     go_meet
     case rel => exact ⟨_, (true), (by first | rfl | (simp; done) | (simp [*]; done) | (simp [wrap64]; done)), H', ⟨by first | omega | exact Nat.le_refl _⟩, ⟨by (with_reducible repeat (first | apply Kd.N_alloc | apply Kd.N_drewN | apply Kd.N_drew)); exact Kd.N_mono HO313.out (fun _ hk => ⟨hk.1.2, hk.2⟩)⟩, ⟨by (with_reducible repeat (first | apply Kd.R_alloc | apply Kd.R_drewN | apply Kd.R_drew)); exact Kd.R_mono HO318.out (fun _ hk => trivial)⟩, ⟨by (with_reducible repeat (first | apply Kd.N_alloc | apply Kd.N_drewN | apply Kd.N_drew)); exact Kd.N_mono HO321.out (fun _ hk => hk.2)⟩, ⟨bel_ HB.out⟩⟩
   ·replace c14 := Bool.eq_false_iff.mpr c14
    subst c14
    have H1 : (laws_FnSettled.j0 k l0 t310 t316 t319 true) = some r := by rw [if_neg (show ¬ (false = true) by decide)] at H; exact H
    clear H
    have H := H1
    clear H1
    have H' := Aside0.mk H
    clear H
    go_wp2_with (first | ((with_reducible refine gate_callee (f := 30) rfl ?_); refine goesL_ (some 33) rfl rfl Try.func30 (by kernel_rfl) rfl #[.slice Ao9 t310.length co9] rfl ml_ ?_; (with_reducible refine (impl_RadiosOk.calls k _ _ t310 false _ ?side1 ?side2 A13.out).mono ?_); (case side1 => repeat (first | exact (Kd.N_reads' HO313.out).2.2 | (with_reducible refine Kd.C_alloc ?_ _) | (with_reducible refine Kd.C_drewN ?_ _) | (with_reducible refine Kd.C_drew ?_))); (case side2 => exact (Kd.N_reads' HO313.out).2.1); rintro e w34 ⟨rfl, hb⟩; refine ⟨_, rfl, ?_⟩; have n0_ := Aside0.mk (Kd.N_below (by (with_reducible repeat (first | apply Kd.N_alloc | apply Kd.N_drewN | apply Kd.N_drew)); exact HO313.out) hb); have n1_ := Aside0.mk (Kd.R_below (fr_ HO315.out) hb); have n2_ := Aside0.mk (Kd.R_below (fr_ HO318.out) hb); have n3_ := Aside0.mk (Kd.N_below (by (with_reducible repeat (first | apply Kd.N_alloc | apply Kd.N_drewN | apply Kd.N_drew)); exact HO321.out) hb); have n4_ := Aside0.mk (below_step (bel_ HB.out) hb); clear HO313; clear HO315; clear HO318; clear HO321; clear HB; have HO313 := n0_; have HO315 := n1_; have HO318 := n2_; have HO321 := n3_; have HB := n4_; clear n0_ n1_ n2_ n3_ n4_; (try clear hb); (try clear hb2); (try clear hk); (try clear hi)))
    go_meet
    case rel => exact ⟨_, (true), (by first | rfl | (simp; done) | (simp [*]; done) | (simp [wrap64]; done)), H', ⟨by first | omega | exact Nat.le_refl _⟩, ⟨by (with_reducible repeat (first | apply Kd.N_alloc | apply Kd.N_drewN | apply Kd.N_drew)); exact Kd.N_mono HO313.out (fun _ hk => ⟨hk.1.2, hk.2⟩)⟩, ⟨by (with_reducible repeat (first | apply Kd.R_alloc | apply Kd.R_drewN | apply Kd.R_drew)); exact Kd.R_mono HO318.out (fun _ hk => trivial)⟩, ⟨by (with_reducible repeat (first | apply Kd.N_alloc | apply Kd.N_drewN | apply Kd.N_drew)); exact Kd.N_mono HO321.out (fun _ hk => hk.2)⟩, ⟨bel_ HB.out⟩⟩
  case rest =>
   clear HC7
   try clear c3
   obtain ⟨kq, x63_6, rfl, HA, HJ6, HO_3, HO_5, HO_6, HB⟩ := hcut
   cases kq with
   | zero => exact absurd HA.out (by simp [laws_FnSettled.j0])
   | succ kj6 =>
    have H := HA.out
    clear HA
    simp only [laws_FnSettled.j0] at H
    by_cases c35 : x63_6 = true
    ·subst c35
     have H1 : (some false) = some r := by rw [if_pos rfl] at H; exact H
     clear H
     have H := H1
     clear H1
     obtain rfl := Option.some.inj H
     go_wp2
     go_ret
     exact ⟨by first | rfl | (simp [errW_none, errW_some] <;> rfl) | (simp [*, errW_none, errW_some] <;> rfl), bel_ HB.out⟩
    ·replace c35 := Bool.eq_false_iff.mpr c35
     subst c35
     have H1 : ((impl_Relay.f kj6 t310 0).bind fun bt328 => (if bt328.2 = true then (if (bt328.1.length : Int) = (t310.length : Int) then (if 0 < (bt328.1.length : Int) then (laws_FnSettled.j1 kj6 l0 t310 t316 t319 bt328.1 ((rd bt328.1 0) != 0)) else (none)) else (laws_FnSettled.j1 kj6 l0 t310 t316 t319 bt328.1 true)) else (laws_FnSettled.j1 kj6 l0 t310 t316 t319 bt328.1 true))) = some r := by rw [if_neg (show ¬ (false = true) by decide)] at H; exact H
     clear H
     have H := H1
     clear H1
     replace H := Option.bind_eq_some_iff.mp H
     obtain ⟨⟨t328, t329⟩, A360, H⟩ := H
     replace H : (if t329 = true then (if (t328.length : Int) = (t310.length : Int) then (if 0 < (t328.length : Int) then (laws_FnSettled.j1 kj6 l0 t310 t316 t319 t328 ((rd t328 0) != 0)) else (none)) else (laws_FnSettled.j1 kj6 l0 t310 t316 t319 t328 true)) else (laws_FnSettled.j1 kj6 l0 t310 t316 t319 t328 true)) = some r := H
     have A36 := Aside0.mk A360
     clear A360
     have HC37 := Aside0.mk H
     clear H
     go_upto_region 9 with (first | ((with_reducible refine gate_callee (f := 31) rfl ?_); refine goesL_ (some 66) rfl rfl Try.func31 (by kernel_rfl) rfl #[.slice Ao9 t310.length co9, .int .i64 0] rfl ml_ ?_; (with_reducible refine (impl_Relay.calls kj6 _ _ t310 0 t328 t329 _ ?side1 ?side2 A36.out).mono ?_); (case side1 => repeat (first | exact (Kd.N_reads' HO_3.out).2.2 | (with_reducible refine Kd.C_alloc ?_ _) | (with_reducible refine Kd.C_drewN ?_ _) | (with_reducible refine Kd.C_drew ?_))); (case side2 => exact (Kd.N_reads' HO_3.out).2.1); rintro e w38 ⟨v330, rfl, ho0, hb⟩; refine ⟨_, rfl, ?_⟩; have n0_ := Aside0.mk (Kd.N_elder' (by (with_reducible repeat (first | apply Kd.N_alloc | apply Kd.N_drewN | apply Kd.N_drew)); exact HO_3.out) (Kd.R_base ho0) hb); have n1_ := Aside0.mk (Kd.R_elder' (fr_ HO_5.out) (Kd.R_base ho0) hb); have n2_ := Aside0.mk (Kd.N_elder' (by (with_reducible repeat (first | apply Kd.N_alloc | apply Kd.N_drewN | apply Kd.N_drew)); exact HO_6.out) (Kd.R_base ho0) hb); have n3_ := Aside0.mk (Kd.R_lower (Kd.R_new' ho0 (Kd.R_lt (fr_ HO_5.out))) (below_size (bel_ HB.out))); have n4_ := Aside0.mk (below_step (bel_ HB.out) hb); clear HO_3; clear HO_5; clear HO_6; clear HB; have HO_3 := n0_; have HO_5 := n1_; have HO_6 := n2_; have HO331 := n3_; have HB := n4_; clear n0_ n1_ n2_ n3_ n4_; (try clear hb); (try clear hb2); (try clear hk); (try clear hi); (try clear ho0)))
     (try simp only [Act.put, sA_, sZ_, sS_])
     go_cut [83] (fun v83 wc => ∃ (kq : Nat) (x83_36 : Bool), v83 = .bool x83_36 ∧ Aside0 (laws_FnSettled.j1 kq l0 t310 t316 t319 t328 x83_36 = some r) ∧ Aside0 (kq ≤ kj6) ∧ Aside0 (Kd.N k58 58 wc w.heap.size (fun k_ => some k_ ≠ (v317 : Value).ownBlock ∧ some k_ ≠ (v320 : Value).ownBlock ∧ some k_ ≠ (v330 : Value).ownBlock) (.slice Ao9 t310.length co9) t310) ∧ Aside0 (Kd.R (Kd.int .i64) 3 wc w.heap.size (fun k_ => some k_ ≠ (v330 : Value).ownBlock) v317 t316) ∧ Aside0 (Kd.N k58 58 wc w.heap.size (fun k_ => some k_ ≠ (v317 : Value).ownBlock ∧ some k_ ≠ (v330 : Value).ownBlock) v320 t319) ∧ Aside0 (Kd.R (Kd.int .i64) 3 wc w.heap.size (fun k_ => some k_ ≠ (v317 : Value).ownBlock) v330 t328) ∧ Aside0 (Below w.heap.size w wc))
     case first =>
      have H := HC37.out
      clear HC37
      by_cases c39 : t329 = true
      ·as_aux_lemma =>
       subst c39
       have H1 : (if (t328.length : Int) = (t310.length : Int) then (if 0 < (t328.length : Int) then (laws_FnSettled.j1 kj6 l0 t310 t316 t319 t328 ((rd t328 0) != 0)) else (none)) else (laws_FnSettled.j1 kj6 l0 t310 t316 t319 t328 true)) = some r := by rw [if_pos rfl] at H; exact H
       clear H
       have H := H1
       clear H1
       by_cases c40 : (t328.length : Int) = (t310.length : Int)
       ·rw [if_pos c40] at H
        have c40b0 : ((t328.length : Int) == (t310.length : Int)) = true := beq_iff_eq.mpr c40
        have c40b1 : ((t328.length : Int) != (t310.length : Int)) = false := bne_eq_false_iff_eq.mpr c40
        have c40b2 : (t328.length == t310.length) = true := by first | simpa using c40 | (simp at c40 ⊢; omega)
        clear c40
        (first | rw [c40b0] | (simp only [i64_w, i32_w]; rw [c40b0]) | skip)
        by_cases c41 : 0 < (t328.length : Int)
        ·rw [if_pos c41] at H
         have c41b0 : decide (0 < (t328.length : Int)) = true := decide_eq_true c41
         have c41b1 : decide (0 < t328.length) = true := decide_eq_true (by omega)
         clear c41
         have H' := Aside0.mk H
         clear H
         obtain ⟨Ao42, co42, eo42⟩ := Kd.R_slice HO331.out
         subst eo42
         have p332 : 0 ≤ (0 : Int) := (by omega)
         have q332 : 0 < (t328.length : Int) := of_decide_eq_true (by first | (with_reducible assumption) | assumption)
         obtain ⟨ad332, e332, hx332_0⟩ := Kd.at_int (Kd.R_reads' HO331.out).2.2 0 p332 q332
         cases e332
         have qi332 : (0 < t328.length) = True := eq_true (by omega)
         (try rw [show ((0 : Int)).toNat = 0 from rfl] at hx332_0)
         (try rw [Addr.add_zero'] at hx332_0)
         replace p332 := eq_true p332
         replace q332 := eq_true q332
         go_wp2
         go_meet
         case rel => exact ⟨_, (((rd t328 0) != 0)), (by first | rfl | (simp; done) | (simp [*]; done) | (simp [wrap64]; done)), H', ⟨by have := HJ6.out; first | omega | exact Nat.le_refl _⟩, ⟨by (with_reducible repeat (first | apply Kd.N_alloc | apply Kd.N_drewN | apply Kd.N_drew)); exact Kd.N_mono HO_3.out (fun _ hk => ⟨hk.1.1, ⟨hk.1.2, hk.2⟩⟩)⟩, ⟨by (with_reducible repeat (first | apply Kd.R_alloc | apply Kd.R_drewN | apply Kd.R_drew)); exact Kd.R_mono HO_5.out (fun _ hk => hk.2)⟩, ⟨by (with_reducible repeat (first | apply Kd.N_alloc | apply Kd.N_drewN | apply Kd.N_drew)); exact HO_6.out⟩, ⟨by (with_reducible repeat (first | apply Kd.R_alloc | apply Kd.R_drewN | apply Kd.R_drew)); exact Kd.R_mono HO331.out (fun _ hk => hk.2)⟩, ⟨bel_ HB.out⟩⟩
        ·rw [if_neg c41] at H
         exact absurd H (by simp)
       ·rw [if_neg c40] at H
        have c40b0 : ((t328.length : Int) == (t310.length : Int)) = false := beq_eq_false_iff_ne.mpr c40
        have c40b1 : ((t328.length : Int) != (t310.length : Int)) = true := bne_iff_ne.mpr c40
        have c40b2 : (t328.length == t310.length) = false := by first | simpa using c40 | (simp at c40 ⊢; omega)
        (first | rw [c40b0] | (simp only [i64_w, i32_w]; rw [c40b0]) | skip)
        have H' := Aside0.mk H
        clear H
        obtain ⟨Ao43, co43, eo43⟩ := Kd.R_slice HO331.out
        subst eo43
        go_wp2
        go_meet
        case rel => exact ⟨_, (true), (by first | rfl | (simp; done) | (simp [*]; done) | (simp [wrap64]; done)), H', ⟨by have := HJ6.out; first | omega | exact Nat.le_refl _⟩, ⟨by (with_reducible repeat (first | apply Kd.N_alloc | apply Kd.N_drewN | apply Kd.N_drew)); exact Kd.N_mono HO_3.out (fun _ hk => ⟨hk.1.1, ⟨hk.1.2, hk.2⟩⟩)⟩, ⟨by (with_reducible repeat (first | apply Kd.R_alloc | apply Kd.R_drewN | apply Kd.R_drew)); exact Kd.R_mono HO_5.out (fun _ hk => hk.2)⟩, ⟨by (with_reducible repeat (first | apply Kd.N_alloc | apply Kd.N_drewN | apply Kd.N_drew)); exact HO_6.out⟩, ⟨by (with_reducible repeat (first | apply Kd.R_alloc | apply Kd.R_drewN | apply Kd.R_drew)); exact Kd.R_mono HO331.out (fun _ hk => hk.2)⟩, ⟨bel_ HB.out⟩⟩
      ·replace c39 := Bool.eq_false_iff.mpr c39
       subst c39
       have H1 : (laws_FnSettled.j1 kj6 l0 t310 t316 t319 t328 true) = some r := by rw [if_neg (show ¬ (false = true) by decide)] at H; exact H
       clear H
       have H := H1
       clear H1
       have H' := Aside0.mk H
       clear H
       go_wp2
       go_meet
       case rel => exact ⟨_, (true), (by first | rfl | (simp; done) | (simp [*]; done) | (simp [wrap64]; done)), H', ⟨by have := HJ6.out; first | omega | exact Nat.le_refl _⟩, ⟨by (with_reducible repeat (first | apply Kd.N_alloc | apply Kd.N_drewN | apply Kd.N_drew)); exact Kd.N_mono HO_3.out (fun _ hk => ⟨hk.1.1, ⟨hk.1.2, hk.2⟩⟩)⟩, ⟨by (with_reducible repeat (first | apply Kd.R_alloc | apply Kd.R_drewN | apply Kd.R_drew)); exact Kd.R_mono HO_5.out (fun _ hk => hk.2)⟩, ⟨by (with_reducible repeat (first | apply Kd.N_alloc | apply Kd.N_drewN | apply Kd.N_drew)); exact HO_6.out⟩, ⟨by (with_reducible repeat (first | apply Kd.R_alloc | apply Kd.R_drewN | apply Kd.R_drew)); exact Kd.R_mono HO331.out (fun _ hk => hk.2)⟩, ⟨bel_ HB.out⟩⟩
     case rest =>
      clear HC37
      try clear c3
      try clear c35
      obtain ⟨kq, x83_36, rfl, HA, HJ36, HO_3, HO_5, HO_6, HO_9, HB⟩ := hcut
      cases kq with
      | zero => exact absurd HA.out (by simp [laws_FnSettled.j1])
      | succ kj36 =>
       have H := HA.out
       clear HA
       simp only [laws_FnSettled.j1] at H
       by_cases c44 : x83_36 = true
       ·subst c44
        have H1 : (some false) = some r := by rw [if_pos rfl] at H; exact H
        clear H
        have H := H1
        clear H1
        obtain rfl := Option.some.inj H
        go_wp2
        go_ret
        exact ⟨by first | rfl | (simp [errW_none, errW_some] <;> rfl) | (simp [*, errW_none, errW_some] <;> rfl), bel_ HB.out⟩
       ·replace c44 := Bool.eq_false_iff.mpr c44
        subst c44
        have H1 : (laws_FnSettled.l0 kj36 l0 t310 t316 t319 t328 0) = some r := by rw [if_neg (show ¬ (false = true) by decide)] at H; exact H
        clear H
        have H := H1
        clear H1
        have H' := Aside0.mk H
        clear H
        go_wp2
        go_loopg [11] kj36 (fun kq v11 w' => ∃ (x11_3 : Int), v11 = .int .i64 x11_3 ∧ Aside0 (laws_FnSettled.l0 kq l0 t310 t316 t319 t328 x11_3 = some r) ∧ Aside0 (kq ≤ kj36) ∧ Aside0 (Kd.N k58 58 w' w.heap.size (fun k_ => some k_ ≠ (v317 : Value).ownBlock ∧ some k_ ≠ (v320 : Value).ownBlock ∧ some k_ ≠ (v330 : Value).ownBlock) (.slice Ao9 t310.length co9) t310) ∧ Aside0 (Kd.R (Kd.int .i64) 3 w' w.heap.size (fun k_ => some k_ ≠ (v330 : Value).ownBlock) v317 t316) ∧ Aside0 (Kd.N k58 58 w' w.heap.size (fun k_ => some k_ ≠ (v317 : Value).ownBlock ∧ some k_ ≠ (v330 : Value).ownBlock) v320 t319) ∧ Aside0 (Kd.R (Kd.int .i64) 3 w' w.heap.size (fun k_ => some k_ ≠ (v317 : Value).ownBlock) v330 t328) ∧ Aside0 (Below w.heap.size w w'))
        case atStart => exact ⟨(0), (by first | rfl | (simp; done) | (simp [*]; done) | (simp [wrap64]; done)), H', ⟨Nat.le_refl _⟩, ⟨by (with_reducible repeat (first | apply Kd.N_alloc | apply Kd.N_drewN | apply Kd.N_drew)); exact HO_3.out⟩, ⟨by (with_reducible repeat (first | apply Kd.R_alloc | apply Kd.R_drewN | apply Kd.R_drew)); exact HO_5.out⟩, ⟨by (with_reducible repeat (first | apply Kd.N_alloc | apply Kd.N_drewN | apply Kd.N_drew)); exact HO_6.out⟩, ⟨by (with_reducible repeat (first | apply Kd.R_alloc | apply Kd.R_drewN | apply Kd.R_drew)); exact HO_9.out⟩, ⟨bel_ HB.out⟩⟩
        case round =>
         clear H'
         try clear c3
         try clear c35
         try clear c44
         obtain ⟨x11_3, rfl, HA, HK3, HO_3, HO_5, HO_6, HO_9, HB⟩ := hrel
         cases gk with
         | zero => exact absurd HA.out (by simp [laws_FnSettled.l0])
         | succ k3 =>
          have H := HA.out
          clear HA
          simp only [laws_FnSettled.l0] at H
          by_cases c45 : x11_3 < (t319.length : Int)
          ·rw [if_pos c45] at H
           have c45b0 : decide (x11_3 < (t319.length : Int)) = true := decide_eq_true c45
           clear c45
           have HC46 := Aside0.mk H
           clear H
           obtain ⟨Ao47, co47, eo47⟩ := Kd.N_slice HO_6.out
           subst eo47
           go_upto_region 14 with (fail)
           go_cut [119] (fun v119 wc => ∃ (kq : Nat) (x119_45 : Bool), v119 = .bool x119_45 ∧ Aside0 (laws_FnSettled.j3 kq l0 t310 t316 t319 t328 x11_3 x119_45 = some r) ∧ Aside0 (kq ≤ k3) ∧ Aside0 (Kd.N k58 58 wc w.heap.size (fun k_ => some k_ ≠ (v317 : Value).ownBlock ∧ some k_ ≠ ((.slice Ao47 t319.length co47) : Value).ownBlock ∧ some k_ ≠ (v330 : Value).ownBlock) (.slice Ao9 t310.length co9) t310) ∧ Aside0 (Kd.R (Kd.int .i64) 3 wc w.heap.size (fun k_ => some k_ ≠ (v330 : Value).ownBlock) v317 t316) ∧ Aside0 (Kd.N k58 58 wc w.heap.size (fun k_ => some k_ ≠ (v317 : Value).ownBlock ∧ some k_ ≠ (v330 : Value).ownBlock) (.slice Ao47 t319.length co47) t319) ∧ Aside0 (Kd.R (Kd.int .i64) 3 wc w.heap.size (fun k_ => some k_ ≠ (v317 : Value).ownBlock) v330 t328) ∧ Aside0 (Below w.heap.size w wc))
           case first =>
            have H := HC46.out
            clear HC46
            replace H := Option.bind_eq_some_iff.mp H
            obtain ⟨t336, A480, H⟩ := H
            replace H : (if t336 = true then (if 0 ≤ x11_3 then (if x11_3 < (t310.length : Int) then (laws_FnSettled.j3 k3 l0 t310 t316 t319 t328 x11_3 (((rd_T58 t319 x11_3).f0) != ((rd_T58 t310 x11_3).f0))) else (none)) else (none)) else (if 0 ≤ x11_3 then (if x11_3 < (t310.length : Int) then (if ((rd_T58 t319 x11_3).f1) = ((rd_T58 t310 x11_3).f1) then (laws_FnSettled.j3 k3 l0 t310 t316 t319 t328 x11_3 (((rd_T58 t319 x11_3).f0) != ((rd_T58 t310 x11_3).f0))) else (laws_FnSettled.j3 k3 l0 t310 t316 t319 t328 x11_3 true)) else (none)) else (none))) = some r := H
            have A48 := Aside0.mk A480
            clear A480
            by_cases c49 : t336 = true
            ·as_aux_lemma =>
             subst c49
             have H1 : (if 0 ≤ x11_3 then (if x11_3 < (t310.length : Int) then (laws_FnSettled.j3 k3 l0 t310 t316 t319 t328 x11_3 (((rd_T58 t319 x11_3).f0) != ((rd_T58 t310 x11_3).f0))) else (none)) else (none)) = some r := by rw [if_pos rfl] at H; exact H
             clear H
             have H := H1
             clear H1
             by_cases c50 : 0 ≤ x11_3
             ·rw [if_pos c50] at H
              have c50b0 : decide (0 ≤ x11_3) = true := decide_eq_true c50
              clear c50
              (first | rw [c50b0] | (simp only [i64_w, i32_w]; rw [c50b0]) | skip)
              by_cases c51 : x11_3 < (t310.length : Int)
              ·rw [if_pos c51] at H
               have c51b0 : decide (x11_3 < (t310.length : Int)) = true := decide_eq_true c51
               clear c51
               have H' := Aside0.mk H
               clear H
               try go_wp2
               have n0_ := Aside0.mk (Kd.N_drew HO_3.out)
               have n1_ := Aside0.mk (Kd.R_drew HO_5.out)
               have n2_ := Aside0.mk (Kd.N_drew HO_6.out)
               have n3_ := Aside0.mk (Kd.R_drew HO_9.out)
               have n4_ := Aside0.mk (below_drew1 HB.out)
               clear HO_3
               clear HO_5
               clear HO_6
               clear HO_9
               clear HB
               have HO_3 := n0_
               have HO_5 := n1_
               have HO_6 := n2_
               have HO_9 := n3_
               have HB := n4_
               clear n0_ n1_ n2_ n3_ n4_
               obtain ⟨Ao53, co53, eo53⟩ := Kd.R_slice HO_5.out
               (first | subst eo53 | (injection eo53 with f1_ f2_ f3_; have f4_ := f1_.symm; have f5_ := f3_.symm; clear f1_ f2_ f3_; subst f4_; subst f5_))
               have p337 : 0 ≤ (x11_3 : Int) := of_decide_eq_true (by first | (with_reducible assumption) | assumption)
               have q337 : x11_3 < (t319.length : Int) := of_decide_eq_true (by first | (with_reducible assumption) | assumption)
               obtain ⟨ad337, A337_2, c337_2, e337, hx337_0, hx337_1, hx337_2, hl337_2, hi337_2⟩ := at_T58 (Kd.N_reads' HO_6.out).2.2 x11_3 p337 q337
               cases e337
               obtain ⟨ce337, hce337, hMe337, hcc337⟩ := Kd.N_get HO_6.out z58 x11_3 p337 (by first | exact q337 | exact of_decide_eq_true (by first | (with_reducible assumption) | assumption) | (have e_ := (Kd.N_reads' HO_6.out).1; omega))
               obtain ⟨ua337_2, uc337_2, rfl, ul337_2, ge337_2⟩ := k58_openF hMe337
               have hv337_2 := hcc337 2 _ rfl
               rw [add_field _ _ 2 (by omega)] at hv337_2
               replace hv337_2 := Option.some.inj (hv337_2.symm.trans hx337_2)
               injection hv337_2 with hva_ hvn_ hvc_
               rw [hva_] at ge337_2
               rw [hvc_] at ul337_2
               have HL337_2 := Aside0.mk (show Kd.V (Kd.int .i64) 3 _ w.heap.size _ _ ((rd_T58 t319 x11_3).f2) from Kd.V_mk ul337_2 ge337_2)
               clear hva_ hvn_ hvc_ ge337_2 ul337_2
               clear hcc337 hce337
               have HR337_2 := Aside0.mk hi337_2
               have HC337_2 := Aside0.mk hl337_2
               clear hi337_2 hl337_2
               replace p337 := eq_true p337
               replace q337 := eq_true q337
               have p338 : 0 ≤ (x11_3 : Int) := of_decide_eq_true (by first | (with_reducible assumption) | assumption)
               have q338 : x11_3 < (t310.length : Int) := of_decide_eq_true (by first | (with_reducible assumption) | assumption)
               obtain ⟨ad338, A338_2, c338_2, e338, hx338_0, hx338_1, hx338_2, hl338_2, hi338_2⟩ := at_T58 (Kd.N_reads' HO_3.out).2.2 x11_3 p338 q338
               cases e338
               obtain ⟨ce338, hce338, hMe338, hcc338⟩ := Kd.N_get HO_3.out z58 x11_3 p338 (by first | exact q338 | exact of_decide_eq_true (by first | (with_reducible assumption) | assumption) | (have e_ := (Kd.N_reads' HO_3.out).1; omega))
               obtain ⟨ua338_2, uc338_2, rfl, ul338_2, ge338_2⟩ := k58_openF hMe338
               have hv338_2 := hcc338 2 _ rfl
               rw [add_field _ _ 2 (by omega)] at hv338_2
               replace hv338_2 := Option.some.inj (hv338_2.symm.trans hx338_2)
               injection hv338_2 with hva_ hvn_ hvc_
               rw [hva_] at ge338_2
               rw [hvc_] at ul338_2
               have HL338_2 := Aside0.mk (show Kd.V (Kd.int .i64) 3 _ w.heap.size _ _ ((rd_T58 t310 x11_3).f2) from Kd.V_mk ul338_2 ge338_2)
               clear hva_ hvn_ hvc_ ge338_2 ul338_2
               clear hcc338 hce338
               have HR338_2 := Aside0.mk hi338_2
               have HC338_2 := Aside0.mk hl338_2
               clear hi338_2 hl338_2
               replace p338 := eq_true p338
               replace q338 := eq_true q338
               refine start_ (n := 30) (S := fun w' => w'.cell? (ad337.add ((x11_3).toNat * 3)) = some (.int .i64 ((rd_T58 t319 x11_3).f0)) ∧ w'.cell? ⟨(ad337.add ((x11_3).toNat * 3)).block, (ad337.add ((x11_3).toNat * 3)).off + 1, none⟩ = some (.int .i64 ((rd_T58 t319 x11_3).f1)) ∧ w'.cell? ⟨(ad337.add ((x11_3).toNat * 3)).block, (ad337.add ((x11_3).toNat * 3)).off + 2, none⟩ = some (.slice A337_2 ((rd_T58 t319 x11_3).f2).length c337_2) ∧ w'.cell? (ad338.add ((x11_3).toNat * 3)) = some (.int .i64 ((rd_T58 t310 x11_3).f0)) ∧ w'.cell? ⟨(ad338.add ((x11_3).toNat * 3)).block, (ad338.add ((x11_3).toNat * 3)).off + 1, none⟩ = some (.int .i64 ((rd_T58 t310 x11_3).f1)) ∧ w'.cell? ⟨(ad338.add ((x11_3).toNat * 3)).block, (ad338.add ((x11_3).toNat * 3)).off + 2, none⟩ = some (.slice A338_2 ((rd_T58 t310 x11_3).f2).length c338_2)) (ds := []) (bs 30 0) (by kernel_rfl) rfl rfl ⟨hx337_0, hx337_1, hx337_2, hx338_0, hx338_1, hx338_2⟩ (fun hHeld => ?_); refine with_tabW laws_FnSettled.tab14 laws_FnSettled.bits14 (fun HT_ HW_ => ?_)
               generalize wr.drew = w52 at HO_3 HO_5 HO_6 HO_9 HB HL337_2 HL338_2 HR337_2 HR338_2 hx337_0 hx337_1 hx337_2 hx338_0 hx338_1 hx338_2 hHeld ⊢
               refine pu_ 0 90 HT_ (bs 30 1) rfl rfl ?_
               refine pu_ 1 91 HT_ (bs 30 3) rfl rfl ?_
               refine one_ (i := 2) (N := some 92) (bs 30 7) rfl rfl (one_of HT_.out (by kernel_rfl)) (by decide) (fun K hK => ?_)
               refine goes_ Try.func32 (by kernel_rfl) rfl #[.slice Ao53 t316.length co53, .int .i64 x11_3] (by rfl) rfl rfl ml_ ?_
               with_reducible refine (laws_within.calls k3 _ _ t316 x11_3 true _ ?side1 ?side2 A48.out).mono ?_
               (case side1 => exact rc_ (Kd.R_reads' HO_5.out).2.2)
               (case side2 => exact (Kd.R_reads' HO_5.out).2.1)
               rintro e w' ⟨rfl, ⟨nd, rfl⟩⟩
               refine ⟨_, rfl, ?_⟩
               refine hK.out _ _ ⟨hHeld.1, hHeld.2.1, hHeld.2.2.1, hHeld.2.2.2.1, hHeld.2.2.2.2.1, hHeld.2.2.2.2.2⟩ (fun hHeld => ?_)
               clear hK K
               refine norm_ (a' := ?_) ?_ ?_
               rotate_left
               ·show Act.put _ (some 92) _ = _
                simp only [Act.put, sA_, sZ_, sS_, i64_w, i32_w]
                rfl
               refine pu_ 3 93 HT_ (bs 30 15) rfl rfl ?_
               refine pu_ 4 94 HT_ (bs 30 31) rfl rfl ?_
               refine pn_ 5 95 HT_ (bs 30 63) rfl rfl ?_
               refine pn_ 6 96 HT_ (bs 30 127) rfl rfl ?_
               refine pn_ 7 97 HT_ (bs 30 255) rfl rfl ?_
               refine pn_ 8 98 HT_ (bs 30 511) rfl rfl ?_
               refine pn_ 9 99 HT_ (bs 30 1023) rfl rfl ?_
               refine pn_ 10 100 HT_ (bs 30 2047) rfl rfl ?_
               refine pn_ 11 101 HT_ (bs 30 4095) rfl rfl ?_
               refine pn_ 12 102 HT_ (bs 30 8191) rfl rfl ?_
               refine pn_ 13 103 HT_ (bs 30 16383) rfl rfl ?_
               refine pn_ 14 104 HT_ (bs 30 32767) rfl rfl ?_
               refine pn_ 15 105 HT_ (bs 30 65535) rfl rfl ?_
               refine pu_ 16 106 HT_ (bs 30 131071) rfl rfl ?_
               refine pu_ 17 107 HT_ (bs 30 262143) rfl rfl ?_
               refine pu_ 18 108 HT_ (bs 30 524287) rfl rfl ?_
               refine pu_ 19 109 HT_ (bs 30 1048575) rfl rfl ?_
               refine pu_ 20 110 HT_ (bs 30 2097151) rfl rfl ?_
               refine pu_ 21 111 HT_ (bs 30 4194303) rfl rfl ?_
               refine pu_ 23 113 HT_ (bs 30 12582911) rfl rfl ?_
               refine pu_ 24 114 HT_ (bs 30 29360127) rfl rfl ?_
               refine pu_ 25 115 HT_ (bs 30 62914559) rfl rfl ?_
               refine pu_ 26 116 HT_ (bs 30 130023423) rfl rfl ?_
               refine take_ (i := 22) (N := some 112) (v := ?_) (a' := ?_) (bs 30 134217727) rfl rfl (take_ofW HT_.out HW_.out (by kernel_rfl)) (fun _ _ _ h => h) (Or.inl ⟨by rfl, ?_⟩) hHeld ?_ ?_
               rotate_left
               ·rintro w' ⟨s0, s1, s2, s3, s4, s5⟩
                go_simp
                with_reducible rfl
               rotate_left
               ·simp only [Act.put, sA_, sZ_, sS_, i64_w, i32_w]
                rfl
               refine take_ (i := 27) (N := some 117) (v := ?_) (a' := ?_) (bs 30 268435455) rfl rfl (take_ofW HT_.out HW_.out (by kernel_rfl)) (fun _ _ _ h => h) (Or.inl ⟨by rfl, ?_⟩) hHeld ?_ ?_
               rotate_left
               ·rintro w' ⟨s0, s1, s2, s3, s4, s5⟩
                go_simp
                with_reducible rfl
               rotate_left
               ·simp only [Act.put, sA_, sZ_, sS_, i64_w, i32_w]
                rfl
               refine pu_ 28 118 HT_ (bs 30 536870911) rfl rfl ?_
               refine pu_ 29 119 HT_ (bs 30 1073741823) rfl rfl ?_
               refine done_ (done_of HT_.out (by kernel_rfl)) ?_
               try go_wp2
               go_meet
               case rel => exact ⟨_, ((((rd_T58 t319 x11_3).f0) != ((rd_T58 t310 x11_3).f0))), (by first | rfl | (simp; done) | (simp [*]; done) | (simp [wrap64]; done)), H', ⟨by have := HJ6.out; have := HJ36.out; have := HK3.out; first | omega | exact Nat.le_refl _⟩, ⟨by (with_reducible repeat (first | apply Kd.N_alloc | apply Kd.N_drewN | apply Kd.N_drew)); exact HO_3.out⟩, ⟨by (with_reducible repeat (first | apply Kd.R_alloc | apply Kd.R_drewN | apply Kd.R_drew)); exact HO_5.out⟩, ⟨by (with_reducible repeat (first | apply Kd.N_alloc | apply Kd.N_drewN | apply Kd.N_drew)); exact HO_6.out⟩, ⟨by (with_reducible repeat (first | apply Kd.R_alloc | apply Kd.R_drewN | apply Kd.R_drew)); exact HO_9.out⟩, ⟨bel_ HB.out⟩⟩
              ·rw [if_neg c51] at H
               exact absurd H (by simp)
             ·rw [if_neg c50] at H
              exact absurd H (by simp)
            ·replace c49 := Bool.eq_false_iff.mpr c49
             subst c49
             have H1 : (if 0 ≤ x11_3 then (if x11_3 < (t310.length : Int) then (if ((rd_T58 t319 x11_3).f1) = ((rd_T58 t310 x11_3).f1) then (laws_FnSettled.j3 k3 l0 t310 t316 t319 t328 x11_3 (((rd_T58 t319 x11_3).f0) != ((rd_T58 t310 x11_3).f0))) else (laws_FnSettled.j3 k3 l0 t310 t316 t319 t328 x11_3 true)) else (none)) else (none)) = some r := by rw [if_neg (show ¬ (false = true) by decide)] at H; exact H
             clear H
             have H := H1
             clear H1
             by_cases c54 : 0 ≤ x11_3
             ·rw [if_pos c54] at H
              have c54b0 : decide (0 ≤ x11_3) = true := decide_eq_true c54
              clear c54
              by_cases c55 : x11_3 < (t310.length : Int)
              ·rw [if_pos c55] at H
               have c55b0 : decide (x11_3 < (t310.length : Int)) = true := decide_eq_true c55
               clear c55
               by_cases c56 : ((rd_T58 t319 x11_3).f1) = ((rd_T58 t310 x11_3).f1)
               ·as_aux_lemma =>
                rw [if_pos c56] at H
                have c56b0 : (((rd_T58 t319 x11_3).f1) == ((rd_T58 t310 x11_3).f1)) = true := beq_iff_eq.mpr c56
                have c56b1 : (((rd_T58 t319 x11_3).f1) != ((rd_T58 t310 x11_3).f1)) = false := bne_eq_false_iff_eq.mpr c56
                clear c56
                have H' := Aside0.mk H
                clear H
                try go_wp2
                have n0_ := Aside0.mk (Kd.N_drew HO_3.out)
                have n1_ := Aside0.mk (Kd.R_drew HO_5.out)
                have n2_ := Aside0.mk (Kd.N_drew HO_6.out)
                have n3_ := Aside0.mk (Kd.R_drew HO_9.out)
                have n4_ := Aside0.mk (below_drew1 HB.out)
                clear HO_3
                clear HO_5
                clear HO_6
                clear HO_9
                clear HB
                have HO_3 := n0_
                have HO_5 := n1_
                have HO_6 := n2_
                have HO_9 := n3_
                have HB := n4_
                clear n0_ n1_ n2_ n3_ n4_
                obtain ⟨Ao58, co58, eo58⟩ := Kd.R_slice HO_5.out
                (first | subst eo58 | (injection eo58 with f1_ f2_ f3_; have f4_ := f1_.symm; have f5_ := f3_.symm; clear f1_ f2_ f3_; subst f4_; subst f5_))
                have p339 : 0 ≤ (x11_3 : Int) := of_decide_eq_true (by first | (with_reducible assumption) | assumption)
                have q339 : x11_3 < (t319.length : Int) := of_decide_eq_true (by first | (with_reducible assumption) | assumption)
                obtain ⟨ad339, A339_2, c339_2, e339, hx339_0, hx339_1, hx339_2, hl339_2, hi339_2⟩ := at_T58 (Kd.N_reads' HO_6.out).2.2 x11_3 p339 q339
                cases e339
                obtain ⟨ce339, hce339, hMe339, hcc339⟩ := Kd.N_get HO_6.out z58 x11_3 p339 (by first | exact q339 | exact of_decide_eq_true (by first | (with_reducible assumption) | assumption) | (have e_ := (Kd.N_reads' HO_6.out).1; omega))
                obtain ⟨ua339_2, uc339_2, rfl, ul339_2, ge339_2⟩ := k58_openF hMe339
                have hv339_2 := hcc339 2 _ rfl
                rw [add_field _ _ 2 (by omega)] at hv339_2
                replace hv339_2 := Option.some.inj (hv339_2.symm.trans hx339_2)
                injection hv339_2 with hva_ hvn_ hvc_
                rw [hva_] at ge339_2
                rw [hvc_] at ul339_2
                have HL339_2 := Aside0.mk (show Kd.V (Kd.int .i64) 3 _ w.heap.size _ _ ((rd_T58 t319 x11_3).f2) from Kd.V_mk ul339_2 ge339_2)
                clear hva_ hvn_ hvc_ ge339_2 ul339_2
                clear hcc339 hce339
                have HR339_2 := Aside0.mk hi339_2
                have HC339_2 := Aside0.mk hl339_2
                clear hi339_2 hl339_2
                replace p339 := eq_true p339
                replace q339 := eq_true q339
                have p340 : 0 ≤ (x11_3 : Int) := of_decide_eq_true (by first | (with_reducible assumption) | assumption)
                have q340 : x11_3 < (t310.length : Int) := of_decide_eq_true (by first | (with_reducible assumption) | assumption)
                obtain ⟨ad340, A340_2, c340_2, e340, hx340_0, hx340_1, hx340_2, hl340_2, hi340_2⟩ := at_T58 (Kd.N_reads' HO_3.out).2.2 x11_3 p340 q340
                cases e340
                obtain ⟨ce340, hce340, hMe340, hcc340⟩ := Kd.N_get HO_3.out z58 x11_3 p340 (by first | exact q340 | exact of_decide_eq_true (by first | (with_reducible assumption) | assumption) | (have e_ := (Kd.N_reads' HO_3.out).1; omega))
                obtain ⟨ua340_2, uc340_2, rfl, ul340_2, ge340_2⟩ := k58_openF hMe340
                have hv340_2 := hcc340 2 _ rfl
                rw [add_field _ _ 2 (by omega)] at hv340_2
                replace hv340_2 := Option.some.inj (hv340_2.symm.trans hx340_2)
                injection hv340_2 with hva_ hvn_ hvc_
                rw [hva_] at ge340_2
                rw [hvc_] at ul340_2
                have HL340_2 := Aside0.mk (show Kd.V (Kd.int .i64) 3 _ w.heap.size _ _ ((rd_T58 t310 x11_3).f2) from Kd.V_mk ul340_2 ge340_2)
                clear hva_ hvn_ hvc_ ge340_2 ul340_2
                clear hcc340 hce340
                have HR340_2 := Aside0.mk hi340_2
                have HC340_2 := Aside0.mk hl340_2
                clear hi340_2 hl340_2
                replace p340 := eq_true p340
                replace q340 := eq_true q340
                have p341 : 0 ≤ (x11_3 : Int) := of_decide_eq_true (by first | (with_reducible assumption) | assumption)
                have q341 : x11_3 < (t319.length : Int) := of_decide_eq_true (by first | (with_reducible assumption) | assumption)
                obtain ⟨ad341, A341_2, c341_2, e341, hx341_0, hx341_1, hx341_2, hl341_2, hi341_2⟩ := at_T58 (Kd.N_reads' HO_6.out).2.2 x11_3 p341 q341
                obtain rfl : ad339 = ad341 := (by injection e341)
                obtain ⟨ce341, hce341, hMe341, hcc341⟩ := Kd.N_get HO_6.out z58 x11_3 p341 (by first | exact q341 | exact of_decide_eq_true (by first | (with_reducible assumption) | assumption) | (have e_ := (Kd.N_reads' HO_6.out).1; omega))
                obtain ⟨ua341_2, uc341_2, rfl, ul341_2, ge341_2⟩ := k58_openF hMe341
                have hv341_2 := hcc341 2 _ rfl
                rw [add_field _ _ 2 (by omega)] at hv341_2
                replace hv341_2 := Option.some.inj (hv341_2.symm.trans hx341_2)
                injection hv341_2 with hva_ hvn_ hvc_
                rw [hva_] at ge341_2
                rw [hvc_] at ul341_2
                have HL341_2 := Aside0.mk (show Kd.V (Kd.int .i64) 3 _ w.heap.size _ _ ((rd_T58 t319 x11_3).f2) from Kd.V_mk ul341_2 ge341_2)
                clear hva_ hvn_ hvc_ ge341_2 ul341_2
                clear hcc341 hce341
                have HR341_2 := Aside0.mk hi341_2
                have HC341_2 := Aside0.mk hl341_2
                clear hi341_2 hl341_2
                replace p341 := eq_true p341
                replace q341 := eq_true q341
                have ea_ := Option.some.inj (hx339_2.symm.trans hx341_2)
                injection ea_ with ea_ en_ ec_
                subst ea_
                subst ec_
                clear en_
                have p342 : 0 ≤ (x11_3 : Int) := of_decide_eq_true (by first | (with_reducible assumption) | assumption)
                have q342 : x11_3 < (t310.length : Int) := of_decide_eq_true (by first | (with_reducible assumption) | assumption)
                obtain ⟨ad342, A342_2, c342_2, e342, hx342_0, hx342_1, hx342_2, hl342_2, hi342_2⟩ := at_T58 (Kd.N_reads' HO_3.out).2.2 x11_3 p342 q342
                obtain rfl : ad340 = ad342 := (by injection e342)
                obtain ⟨ce342, hce342, hMe342, hcc342⟩ := Kd.N_get HO_3.out z58 x11_3 p342 (by first | exact q342 | exact of_decide_eq_true (by first | (with_reducible assumption) | assumption) | (have e_ := (Kd.N_reads' HO_3.out).1; omega))
                obtain ⟨ua342_2, uc342_2, rfl, ul342_2, ge342_2⟩ := k58_openF hMe342
                have hv342_2 := hcc342 2 _ rfl
                rw [add_field _ _ 2 (by omega)] at hv342_2
                replace hv342_2 := Option.some.inj (hv342_2.symm.trans hx342_2)
                injection hv342_2 with hva_ hvn_ hvc_
                rw [hva_] at ge342_2
                rw [hvc_] at ul342_2
                have HL342_2 := Aside0.mk (show Kd.V (Kd.int .i64) 3 _ w.heap.size _ _ ((rd_T58 t310 x11_3).f2) from Kd.V_mk ul342_2 ge342_2)
                clear hva_ hvn_ hvc_ ge342_2 ul342_2
                clear hcc342 hce342
                have HR342_2 := Aside0.mk hi342_2
                have HC342_2 := Aside0.mk hl342_2
                clear hi342_2 hl342_2
                replace p342 := eq_true p342
                replace q342 := eq_true q342
                have ea_ := Option.some.inj (hx340_2.symm.trans hx342_2)
                injection ea_ with ea_ en_ ec_
                subst ea_
                subst ec_
                clear en_
                refine start_ (n := 30) (S := fun w' => w'.cell? (ad339.add ((x11_3).toNat * 3)) = some (.int .i64 ((rd_T58 t319 x11_3).f0)) ∧ w'.cell? ⟨(ad339.add ((x11_3).toNat * 3)).block, (ad339.add ((x11_3).toNat * 3)).off + 1, none⟩ = some (.int .i64 ((rd_T58 t319 x11_3).f1)) ∧ w'.cell? ⟨(ad339.add ((x11_3).toNat * 3)).block, (ad339.add ((x11_3).toNat * 3)).off + 2, none⟩ = some (.slice A339_2 ((rd_T58 t319 x11_3).f2).length c339_2) ∧ w'.cell? (ad340.add ((x11_3).toNat * 3)) = some (.int .i64 ((rd_T58 t310 x11_3).f0)) ∧ w'.cell? ⟨(ad340.add ((x11_3).toNat * 3)).block, (ad340.add ((x11_3).toNat * 3)).off + 1, none⟩ = some (.int .i64 ((rd_T58 t310 x11_3).f1)) ∧ w'.cell? ⟨(ad340.add ((x11_3).toNat * 3)).block, (ad340.add ((x11_3).toNat * 3)).off + 2, none⟩ = some (.slice A340_2 ((rd_T58 t310 x11_3).f2).length c340_2) ∧ w'.cell? (ad339.add ((x11_3).toNat * 3)) = some (.int .i64 ((rd_T58 t319 x11_3).f0)) ∧ w'.cell? ⟨(ad339.add ((x11_3).toNat * 3)).block, (ad339.add ((x11_3).toNat * 3)).off + 1, none⟩ = some (.int .i64 ((rd_T58 t319 x11_3).f1)) ∧ w'.cell? ⟨(ad339.add ((x11_3).toNat * 3)).block, (ad339.add ((x11_3).toNat * 3)).off + 2, none⟩ = some (.slice A339_2 ((rd_T58 t319 x11_3).f2).length c339_2) ∧ w'.cell? (ad340.add ((x11_3).toNat * 3)) = some (.int .i64 ((rd_T58 t310 x11_3).f0)) ∧ w'.cell? ⟨(ad340.add ((x11_3).toNat * 3)).block, (ad340.add ((x11_3).toNat * 3)).off + 1, none⟩ = some (.int .i64 ((rd_T58 t310 x11_3).f1)) ∧ w'.cell? ⟨(ad340.add ((x11_3).toNat * 3)).block, (ad340.add ((x11_3).toNat * 3)).off + 2, none⟩ = some (.slice A340_2 ((rd_T58 t310 x11_3).f2).length c340_2)) (ds := []) (bs 30 0) (by kernel_rfl) rfl rfl ⟨hx339_0, hx339_1, hx339_2, hx340_0, hx340_1, hx340_2, hx341_0, hx341_1, hx341_2, hx342_0, hx342_1, hx342_2⟩ (fun hHeld => ?_); refine with_tabW laws_FnSettled.tab14 laws_FnSettled.bits14 (fun HT_ HW_ => ?_)
                generalize wr.drew = w57 at HO_3 HO_5 HO_6 HO_9 HB HL339_2 HL340_2 HL341_2 HL342_2 HR339_2 HR340_2 HR341_2 HR342_2 hx339_0 hx339_1 hx339_2 hx340_0 hx340_1 hx340_2 hx341_0 hx341_1 hx341_2 hx342_0 hx342_1 hx342_2 hHeld ⊢
                refine pu_ 0 90 HT_ (bs 30 1) rfl rfl ?_
                refine pu_ 1 91 HT_ (bs 30 3) rfl rfl ?_
                refine one_ (i := 2) (N := some 92) (bs 30 7) rfl rfl (one_of HT_.out (by kernel_rfl)) (by decide) (fun K hK => ?_)
                refine goes_ Try.func32 (by kernel_rfl) rfl #[.slice Ao58 t316.length co58, .int .i64 x11_3] (by rfl) rfl rfl ml_ ?_
                with_reducible refine (laws_within.calls k3 _ _ t316 x11_3 false _ ?side1 ?side2 A48.out).mono ?_
                (case side1 => exact rc_ (Kd.R_reads' HO_5.out).2.2)
                (case side2 => exact (Kd.R_reads' HO_5.out).2.1)
                rintro e w' ⟨rfl, ⟨nd, rfl⟩⟩
                refine ⟨_, rfl, ?_⟩
                refine hK.out _ _ ⟨hHeld.1, hHeld.2.1, hHeld.2.2.1, hHeld.2.2.2.1, hHeld.2.2.2.2.1, hHeld.2.2.2.2.2.1, hHeld.2.2.2.2.2.2.1, hHeld.2.2.2.2.2.2.2.1, hHeld.2.2.2.2.2.2.2.2.1, hHeld.2.2.2.2.2.2.2.2.2.1, hHeld.2.2.2.2.2.2.2.2.2.2.1, hHeld.2.2.2.2.2.2.2.2.2.2.2⟩ (fun hHeld => ?_)
                clear hK K
                refine norm_ (a' := ?_) ?_ ?_
                rotate_left
                ·show Act.put _ (some 92) _ = _
                 simp only [Act.put, sA_, sZ_, sS_, i64_w, i32_w]
                 rfl
                refine pu_ 3 93 HT_ (bs 30 15) rfl rfl ?_
                refine pu_ 4 94 HT_ (bs 30 31) rfl rfl ?_
                refine pu_ 5 95 HT_ (bs 30 63) rfl rfl ?_
                refine pu_ 6 96 HT_ (bs 30 127) rfl rfl ?_
                refine pu_ 7 97 HT_ (bs 30 255) rfl rfl ?_
                refine pu_ 8 98 HT_ (bs 30 511) rfl rfl ?_
                refine pu_ 10 100 HT_ (bs 30 1535) rfl rfl ?_
                refine pu_ 11 101 HT_ (bs 30 3583) rfl rfl ?_
                refine pu_ 12 102 HT_ (bs 30 7679) rfl rfl ?_
                refine pu_ 13 103 HT_ (bs 30 15871) rfl rfl ?_
                refine take_ (i := 9) (N := some 99) (v := ?_) (a' := ?_) (bs 30 16383) rfl rfl (take_ofW HT_.out HW_.out (by kernel_rfl)) (fun _ _ _ h => h) (Or.inl ⟨by rfl, ?_⟩) hHeld ?_ ?_
                rotate_left
                ·rintro w' ⟨s0, s1, s2, s3, s4, s5, s6, s7, s8, s9, s10, s11⟩
                 go_simp
                 with_reducible rfl
                rotate_left
                ·simp only [Act.put, sA_, sZ_, sS_, i64_w, i32_w]
                 rfl
                refine take_ (i := 14) (N := some 104) (v := ?_) (a' := ?_) (bs 30 32767) rfl rfl (take_ofW HT_.out HW_.out (by kernel_rfl)) (fun _ _ _ h => h) (Or.inl ⟨by rfl, ?_⟩) hHeld ?_ ?_
                rotate_left
                ·rintro w' ⟨s0, s1, s2, s3, s4, s5, s6, s7, s8, s9, s10, s11⟩
                 go_simp
                 with_reducible rfl
                rotate_left
                ·simp only [Act.put, sA_, sZ_, sS_, i64_w, i32_w]
                 rfl
                refine pu_ 15 105 HT_ (bs 30 65535) rfl rfl ?_
                refine pu_ 16 106 HT_ (bs 30 131071) rfl rfl ?_
                refine pu_ 17 107 HT_ (bs 30 262143) rfl rfl ?_
                refine pu_ 18 108 HT_ (bs 30 524287) rfl rfl ?_
                refine pu_ 19 109 HT_ (bs 30 1048575) rfl rfl ?_
                refine pu_ 20 110 HT_ (bs 30 2097151) rfl rfl ?_
                refine pu_ 21 111 HT_ (bs 30 4194303) rfl rfl ?_
                refine pu_ 23 113 HT_ (bs 30 12582911) rfl rfl ?_
                refine pu_ 24 114 HT_ (bs 30 29360127) rfl rfl ?_
                refine pu_ 25 115 HT_ (bs 30 62914559) rfl rfl ?_
                refine pu_ 26 116 HT_ (bs 30 130023423) rfl rfl ?_
                refine take_ (i := 22) (N := some 112) (v := ?_) (a' := ?_) (bs 30 134217727) rfl rfl (take_ofW HT_.out HW_.out (by kernel_rfl)) (fun _ _ _ h => h) (Or.inl ⟨by rfl, ?_⟩) hHeld ?_ ?_
                rotate_left
                ·rintro w' ⟨s0, s1, s2, s3, s4, s5, s6, s7, s8, s9, s10, s11⟩
                 go_simp
                 with_reducible rfl
                rotate_left
                ·simp only [Act.put, sA_, sZ_, sS_, i64_w, i32_w]
                 rfl
                refine take_ (i := 27) (N := some 117) (v := ?_) (a' := ?_) (bs 30 268435455) rfl rfl (take_ofW HT_.out HW_.out (by kernel_rfl)) (fun _ _ _ h => h) (Or.inl ⟨by rfl, ?_⟩) hHeld ?_ ?_
                rotate_left
                ·rintro w' ⟨s0, s1, s2, s3, s4, s5, s6, s7, s8, s9, s10, s11⟩
                 go_simp
                 with_reducible rfl
                rotate_left
                ·simp only [Act.put, sA_, sZ_, sS_, i64_w, i32_w]
                 rfl
                refine pu_ 28 118 HT_ (bs 30 536870911) rfl rfl ?_
                refine pu_ 29 119 HT_ (bs 30 1073741823) rfl rfl ?_
                refine done_ (done_of HT_.out (by kernel_rfl)) ?_
                try go_wp2
                go_meet
                case rel => exact ⟨_, ((((rd_T58 t319 x11_3).f0) != ((rd_T58 t310 x11_3).f0))), (by first | rfl | (simp; done) | (simp [*]; done) | (simp [wrap64]; done)), H', ⟨by have := HJ6.out; have := HJ36.out; have := HK3.out; first | omega | exact Nat.le_refl _⟩, ⟨by (with_reducible repeat (first | apply Kd.N_alloc | apply Kd.N_drewN | apply Kd.N_drew)); exact HO_3.out⟩, ⟨by (with_reducible repeat (first | apply Kd.R_alloc | apply Kd.R_drewN | apply Kd.R_drew)); exact HO_5.out⟩, ⟨by (with_reducible repeat (first | apply Kd.N_alloc | apply Kd.N_drewN | apply Kd.N_drew)); exact HO_6.out⟩, ⟨by (with_reducible repeat (first | apply Kd.R_alloc | apply Kd.R_drewN | apply Kd.R_drew)); exact HO_9.out⟩, ⟨bel_ HB.out⟩⟩
               ·as_aux_lemma =>
                rw [if_neg c56] at H
                have c56b0 : (((rd_T58 t319 x11_3).f1) == ((rd_T58 t310 x11_3).f1)) = false := beq_eq_false_iff_ne.mpr c56
                have c56b1 : (((rd_T58 t319 x11_3).f1) != ((rd_T58 t310 x11_3).f1)) = true := bne_iff_ne.mpr c56
                have H' := Aside0.mk H
                clear H
                try go_wp2
                have n0_ := Aside0.mk (Kd.N_drew HO_3.out)
                have n1_ := Aside0.mk (Kd.R_drew HO_5.out)
                have n2_ := Aside0.mk (Kd.N_drew HO_6.out)
                have n3_ := Aside0.mk (Kd.R_drew HO_9.out)
                have n4_ := Aside0.mk (below_drew1 HB.out)
                clear HO_3
                clear HO_5
                clear HO_6
                clear HO_9
                clear HB
                have HO_3 := n0_
                have HO_5 := n1_
                have HO_6 := n2_
                have HO_9 := n3_
                have HB := n4_
                clear n0_ n1_ n2_ n3_ n4_
                obtain ⟨Ao60, co60, eo60⟩ := Kd.R_slice HO_5.out
                (first | subst eo60 | (injection eo60 with f1_ f2_ f3_; have f4_ := f1_.symm; have f5_ := f3_.symm; clear f1_ f2_ f3_; subst f4_; subst f5_))
                have p339 : 0 ≤ (x11_3 : Int) := of_decide_eq_true (by first | (with_reducible assumption) | assumption)
                have q339 : x11_3 < (t319.length : Int) := of_decide_eq_true (by first | (with_reducible assumption) | assumption)
                obtain ⟨ad339, A339_2, c339_2, e339, hx339_0, hx339_1, hx339_2, hl339_2, hi339_2⟩ := at_T58 (Kd.N_reads' HO_6.out).2.2 x11_3 p339 q339
                cases e339
                obtain ⟨ce339, hce339, hMe339, hcc339⟩ := Kd.N_get HO_6.out z58 x11_3 p339 (by first | exact q339 | exact of_decide_eq_true (by first | (with_reducible assumption) | assumption) | (have e_ := (Kd.N_reads' HO_6.out).1; omega))
                obtain ⟨ua339_2, uc339_2, rfl, ul339_2, ge339_2⟩ := k58_openF hMe339
                have hv339_2 := hcc339 2 _ rfl
                rw [add_field _ _ 2 (by omega)] at hv339_2
                replace hv339_2 := Option.some.inj (hv339_2.symm.trans hx339_2)
                injection hv339_2 with hva_ hvn_ hvc_
                rw [hva_] at ge339_2
                rw [hvc_] at ul339_2
                have HL339_2 := Aside0.mk (show Kd.V (Kd.int .i64) 3 _ w.heap.size _ _ ((rd_T58 t319 x11_3).f2) from Kd.V_mk ul339_2 ge339_2)
                clear hva_ hvn_ hvc_ ge339_2 ul339_2
                clear hcc339 hce339
                have HR339_2 := Aside0.mk hi339_2
                have HC339_2 := Aside0.mk hl339_2
                clear hi339_2 hl339_2
                replace p339 := eq_true p339
                replace q339 := eq_true q339
                have p340 : 0 ≤ (x11_3 : Int) := of_decide_eq_true (by first | (with_reducible assumption) | assumption)
                have q340 : x11_3 < (t310.length : Int) := of_decide_eq_true (by first | (with_reducible assumption) | assumption)
                obtain ⟨ad340, A340_2, c340_2, e340, hx340_0, hx340_1, hx340_2, hl340_2, hi340_2⟩ := at_T58 (Kd.N_reads' HO_3.out).2.2 x11_3 p340 q340
                cases e340
                obtain ⟨ce340, hce340, hMe340, hcc340⟩ := Kd.N_get HO_3.out z58 x11_3 p340 (by first | exact q340 | exact of_decide_eq_true (by first | (with_reducible assumption) | assumption) | (have e_ := (Kd.N_reads' HO_3.out).1; omega))
                obtain ⟨ua340_2, uc340_2, rfl, ul340_2, ge340_2⟩ := k58_openF hMe340
                have hv340_2 := hcc340 2 _ rfl
                rw [add_field _ _ 2 (by omega)] at hv340_2
                replace hv340_2 := Option.some.inj (hv340_2.symm.trans hx340_2)
                injection hv340_2 with hva_ hvn_ hvc_
                rw [hva_] at ge340_2
                rw [hvc_] at ul340_2
                have HL340_2 := Aside0.mk (show Kd.V (Kd.int .i64) 3 _ w.heap.size _ _ ((rd_T58 t310 x11_3).f2) from Kd.V_mk ul340_2 ge340_2)
                clear hva_ hvn_ hvc_ ge340_2 ul340_2
                clear hcc340 hce340
                have HR340_2 := Aside0.mk hi340_2
                have HC340_2 := Aside0.mk hl340_2
                clear hi340_2 hl340_2
                replace p340 := eq_true p340
                replace q340 := eq_true q340
                refine start_ (n := 30) (S := fun w' => w'.cell? (ad339.add ((x11_3).toNat * 3)) = some (.int .i64 ((rd_T58 t319 x11_3).f0)) ∧ w'.cell? ⟨(ad339.add ((x11_3).toNat * 3)).block, (ad339.add ((x11_3).toNat * 3)).off + 1, none⟩ = some (.int .i64 ((rd_T58 t319 x11_3).f1)) ∧ w'.cell? ⟨(ad339.add ((x11_3).toNat * 3)).block, (ad339.add ((x11_3).toNat * 3)).off + 2, none⟩ = some (.slice A339_2 ((rd_T58 t319 x11_3).f2).length c339_2) ∧ w'.cell? (ad340.add ((x11_3).toNat * 3)) = some (.int .i64 ((rd_T58 t310 x11_3).f0)) ∧ w'.cell? ⟨(ad340.add ((x11_3).toNat * 3)).block, (ad340.add ((x11_3).toNat * 3)).off + 1, none⟩ = some (.int .i64 ((rd_T58 t310 x11_3).f1)) ∧ w'.cell? ⟨(ad340.add ((x11_3).toNat * 3)).block, (ad340.add ((x11_3).toNat * 3)).off + 2, none⟩ = some (.slice A340_2 ((rd_T58 t310 x11_3).f2).length c340_2)) (ds := []) (bs 30 0) (by kernel_rfl) rfl rfl ⟨hx339_0, hx339_1, hx339_2, hx340_0, hx340_1, hx340_2⟩ (fun hHeld => ?_); refine with_tabW laws_FnSettled.tab14 laws_FnSettled.bits14 (fun HT_ HW_ => ?_)
                generalize wr.drew = w59 at HO_3 HO_5 HO_6 HO_9 HB HL339_2 HL340_2 HR339_2 HR340_2 hx339_0 hx339_1 hx339_2 hx340_0 hx340_1 hx340_2 hHeld ⊢
                refine pu_ 0 90 HT_ (bs 30 1) rfl rfl ?_
                refine pu_ 1 91 HT_ (bs 30 3) rfl rfl ?_
                refine one_ (i := 2) (N := some 92) (bs 30 7) rfl rfl (one_of HT_.out (by kernel_rfl)) (by decide) (fun K hK => ?_)
                refine goes_ Try.func32 (by kernel_rfl) rfl #[.slice Ao60 t316.length co60, .int .i64 x11_3] (by rfl) rfl rfl ml_ ?_
                with_reducible refine (laws_within.calls k3 _ _ t316 x11_3 false _ ?side1 ?side2 A48.out).mono ?_
                (case side1 => exact rc_ (Kd.R_reads' HO_5.out).2.2)
                (case side2 => exact (Kd.R_reads' HO_5.out).2.1)
                rintro e w' ⟨rfl, ⟨nd, rfl⟩⟩
                refine ⟨_, rfl, ?_⟩
                refine hK.out _ _ ⟨hHeld.1, hHeld.2.1, hHeld.2.2.1, hHeld.2.2.2.1, hHeld.2.2.2.2.1, hHeld.2.2.2.2.2⟩ (fun hHeld => ?_)
                clear hK K
                refine norm_ (a' := ?_) ?_ ?_
                rotate_left
                ·show Act.put _ (some 92) _ = _
                 simp only [Act.put, sA_, sZ_, sS_, i64_w, i32_w]
                 rfl
                refine pu_ 3 93 HT_ (bs 30 15) rfl rfl ?_
                refine pu_ 4 94 HT_ (bs 30 31) rfl rfl ?_
                refine pu_ 5 95 HT_ (bs 30 63) rfl rfl ?_
                refine pu_ 6 96 HT_ (bs 30 127) rfl rfl ?_
                refine pu_ 7 97 HT_ (bs 30 255) rfl rfl ?_
                refine pu_ 8 98 HT_ (bs 30 511) rfl rfl ?_
                refine pu_ 10 100 HT_ (bs 30 1535) rfl rfl ?_
                refine pu_ 11 101 HT_ (bs 30 3583) rfl rfl ?_
                refine pu_ 12 102 HT_ (bs 30 7679) rfl rfl ?_
                refine pu_ 13 103 HT_ (bs 30 15871) rfl rfl ?_
                refine take_ (i := 9) (N := some 99) (v := ?_) (a' := ?_) (bs 30 16383) rfl rfl (take_ofW HT_.out HW_.out (by kernel_rfl)) (fun _ _ _ h => h) (Or.inl ⟨by rfl, ?_⟩) hHeld ?_ ?_
                rotate_left
                ·rintro w' ⟨s0, s1, s2, s3, s4, s5⟩
                 go_simp
                 with_reducible rfl
                rotate_left
                ·simp only [Act.put, sA_, sZ_, sS_, i64_w, i32_w]
                 rfl
                refine take_ (i := 14) (N := some 104) (v := ?_) (a' := ?_) (bs 30 32767) rfl rfl (take_ofW HT_.out HW_.out (by kernel_rfl)) (fun _ _ _ h => h) (Or.inl ⟨by rfl, ?_⟩) hHeld ?_ ?_
                rotate_left
                ·rintro w' ⟨s0, s1, s2, s3, s4, s5⟩
                 go_simp
                 with_reducible rfl
                rotate_left
                ·simp only [Act.put, sA_, sZ_, sS_, i64_w, i32_w]
                 rfl
                refine pu_ 15 105 HT_ (bs 30 65535) rfl rfl ?_
                refine pu_ 16 106 HT_ (bs 30 131071) rfl rfl ?_
                refine pu_ 17 107 HT_ (bs 30 262143) rfl rfl ?_
                refine pn_ 18 108 HT_ (bs 30 524287) rfl rfl ?_
                refine pn_ 19 109 HT_ (bs 30 1048575) rfl rfl ?_
                refine pn_ 20 110 HT_ (bs 30 2097151) rfl rfl ?_
                refine pn_ 21 111 HT_ (bs 30 4194303) rfl rfl ?_
                refine pn_ 22 112 HT_ (bs 30 8388607) rfl rfl ?_
                refine pn_ 23 113 HT_ (bs 30 16777215) rfl rfl ?_
                refine pn_ 24 114 HT_ (bs 30 33554431) rfl rfl ?_
                refine pn_ 25 115 HT_ (bs 30 67108863) rfl rfl ?_
                refine pn_ 26 116 HT_ (bs 30 134217727) rfl rfl ?_
                refine pn_ 27 117 HT_ (bs 30 268435455) rfl rfl ?_
                refine pn_ 28 118 HT_ (bs 30 536870911) rfl rfl ?_
                refine pu_ 29 119 HT_ (bs 30 1073741823) rfl rfl ?_
                refine done_ (done_of HT_.out (by kernel_rfl)) ?_
                try go_wp2
                go_meet
                case rel => exact ⟨_, (true), (by first | rfl | (simp; done) | (simp [*]; done) | (simp [wrap64]; done)), H', ⟨by have := HJ6.out; have := HJ36.out; have := HK3.out; first | omega | exact Nat.le_refl _⟩, ⟨by (with_reducible repeat (first | apply Kd.N_alloc | apply Kd.N_drewN | apply Kd.N_drew)); exact HO_3.out⟩, ⟨by (with_reducible repeat (first | apply Kd.R_alloc | apply Kd.R_drewN | apply Kd.R_drew)); exact HO_5.out⟩, ⟨by (with_reducible repeat (first | apply Kd.N_alloc | apply Kd.N_drewN | apply Kd.N_drew)); exact HO_6.out⟩, ⟨by (with_reducible repeat (first | apply Kd.R_alloc | apply Kd.R_drewN | apply Kd.R_drew)); exact HO_9.out⟩, ⟨bel_ HB.out⟩⟩
              ·rw [if_neg c55] at H
               exact absurd H (by simp)
             ·rw [if_neg c54] at H
              exact absurd H (by simp)
           case rest =>
            clear HC46
            try clear c3
            obtain ⟨kq, x119_45, rfl, HA, HJ45, HO_3, HO_5, HO_6, HO_9, HB⟩ := hcut
            cases kq with
            | zero => exact absurd HA.out (by simp [laws_FnSettled.j3])
            | succ kj45 =>
             have H := HA.out
             clear HA
             simp only [laws_FnSettled.j3] at H
             by_cases c61 : x119_45 = true
             ·subst c61
              have H1 : (some false) = some r := by rw [if_pos rfl] at H; exact H
              clear H
              have H := H1
              clear H1
              obtain rfl := Option.some.inj H
              go_wp2
              go_ret
              exact ⟨by first | rfl | (simp [errW_none, errW_some] <;> rfl) | (simp [*, errW_none, errW_some] <;> rfl), bel_ HB.out⟩
             ·replace c61 := Bool.eq_false_iff.mpr c61
              subst c61
              have H1 : (laws_FnSettled.l1 kj45 l0 t310 t316 t319 t328 x11_3 0) = some r := by rw [if_neg (show ¬ (false = true) by decide)] at H; exact H
              clear H
              have H := H1
              clear H1
              have H' := Aside0.mk H
              clear H
              go_wp2
              go_loopg [12] kj45 (fun kq v12 w' => ∃ (x12_5 : Int), v12 = .int .i64 x12_5 ∧ Aside0 (laws_FnSettled.l1 kq l0 t310 t316 t319 t328 x11_3 x12_5 = some r) ∧ Aside0 (kq ≤ kj45) ∧ Aside0 (Kd.N k58 58 w' w.heap.size (fun k_ => some k_ ≠ (v317 : Value).ownBlock ∧ some k_ ≠ ((.slice Ao47 t319.length co47) : Value).ownBlock ∧ some k_ ≠ (v330 : Value).ownBlock) (.slice Ao9 t310.length co9) t310) ∧ Aside0 (Kd.R (Kd.int .i64) 3 w' w.heap.size (fun k_ => some k_ ≠ (v330 : Value).ownBlock) v317 t316) ∧ Aside0 (Kd.N k58 58 w' w.heap.size (fun k_ => some k_ ≠ (v317 : Value).ownBlock ∧ some k_ ≠ (v330 : Value).ownBlock) (.slice Ao47 t319.length co47) t319) ∧ Aside0 (Kd.R (Kd.int .i64) 3 w' w.heap.size (fun k_ => some k_ ≠ (v317 : Value).ownBlock) v330 t328) ∧ Aside0 (Below w.heap.size w w'))
              case atStart => exact ⟨(0), (by first | rfl | (simp; done) | (simp [*]; done) | (simp [wrap64]; done)), H', ⟨Nat.le_refl _⟩, ⟨by (with_reducible repeat (first | apply Kd.N_alloc | apply Kd.N_drewN | apply Kd.N_drew)); exact HO_3.out⟩, ⟨by (with_reducible repeat (first | apply Kd.R_alloc | apply Kd.R_drewN | apply Kd.R_drew)); exact HO_5.out⟩, ⟨by (with_reducible repeat (first | apply Kd.N_alloc | apply Kd.N_drewN | apply Kd.N_drew)); exact HO_6.out⟩, ⟨by (with_reducible repeat (first | apply Kd.R_alloc | apply Kd.R_drewN | apply Kd.R_drew)); exact HO_9.out⟩, ⟨bel_ HB.out⟩⟩
              case round =>
               clear H'
               try clear c3
               try clear c61
               obtain ⟨x12_5, rfl, HA, HK5, HO_3, HO_5, HO_6, HO_9, HB⟩ := hrel
               cases gk with
               | zero => exact absurd HA.out (by simp [laws_FnSettled.l1])
               | succ k5 =>
                have H := HA.out
                clear HA
                simp only [laws_FnSettled.l1] at H
                by_cases c62 : 0 ≤ x11_3
                ·rw [if_pos c62] at H
                 have c62b0 : decide (0 ≤ x11_3) = true := decide_eq_true c62
                 clear c62
                 by_cases c63 : x11_3 < (t310.length : Int)
                 ·rw [if_pos c63] at H
                  have c63b0 : decide (x11_3 < (t310.length : Int)) = true := decide_eq_true c63
                  clear c63
                  by_cases c64 : x12_5 < (((rd_T58 t310 x11_3).f2).length : Int)
                  ·rw [if_pos c64] at H
                   have c64b0 : decide (x12_5 < (((rd_T58 t310 x11_3).f2).length : Int)) = true := decide_eq_true c64
                   clear c64
                   by_cases c65 : 0 ≤ x12_5
                   ·rw [if_pos c65] at H
                    have c65b0 : decide (0 ≤ x12_5) = true := decide_eq_true c65
                    clear c65
                    by_cases c66 : 0 ≤ (rd ((rd_T58 t310 x11_3).f2) x12_5)
                    ·rw [if_pos c66] at H
                     have c66b0 : decide (0 ≤ (rd ((rd_T58 t310 x11_3).f2) x12_5)) = true := decide_eq_true c66
                     clear c66
                     by_cases c67 : (rd ((rd_T58 t310 x11_3).f2) x12_5) < (t319.length : Int)
                     ·rw [if_pos c67] at H
                      have c67b0 : decide ((rd ((rd_T58 t310 x11_3).f2) x12_5) < (t319.length : Int)) = true := decide_eq_true c67
                      clear c67
                      by_cases c68 : x11_3 < (t319.length : Int)
                      ·rw [if_pos c68] at H
                       have c68b0 : decide (x11_3 < (t319.length : Int)) = true := decide_eq_true c68
                       clear c68
                       by_cases c69 : ((rd_T58 t319 (rd ((rd_T58 t310 x11_3).f2) x12_5)).f1) = ((rd_T58 t319 x11_3).f1)
                       ·as_aux_lemma =>
                        rw [if_pos c69] at H
                        have c69b0 : (((rd_T58 t319 (rd ((rd_T58 t310 x11_3).f2) x12_5)).f1) == ((rd_T58 t319 x11_3).f1)) = true := beq_iff_eq.mpr c69
                        have c69b1 : (((rd_T58 t319 (rd ((rd_T58 t310 x11_3).f2) x12_5)).f1) != ((rd_T58 t319 x11_3).f1)) = false := bne_eq_false_iff_eq.mpr c69
                        clear c69
                        obtain rfl := Option.some.inj H
                        have p343 : 0 ≤ (x11_3 : Int) := of_decide_eq_true (by first | (with_reducible assumption) | assumption)
                        have q343 : x11_3 < (t310.length : Int) := of_decide_eq_true (by first | (with_reducible assumption) | assumption)
                        obtain ⟨ad343, A343_2, c343_2, e343, hx343_0, hx343_1, hx343_2, hl343_2, hi343_2⟩ := at_T58 (Kd.N_reads' HO_3.out).2.2 x11_3 p343 q343
                        cases e343
                        obtain ⟨ce343, hce343, hMe343, hcc343⟩ := Kd.N_get HO_3.out z58 x11_3 p343 (by first | exact q343 | exact of_decide_eq_true (by first | (with_reducible assumption) | assumption) | (have e_ := (Kd.N_reads' HO_3.out).1; omega))
                        obtain ⟨ua343_2, uc343_2, rfl, ul343_2, ge343_2⟩ := k58_openF hMe343
                        have hv343_2 := hcc343 2 _ rfl
                        rw [add_field _ _ 2 (by omega)] at hv343_2
                        replace hv343_2 := Option.some.inj (hv343_2.symm.trans hx343_2)
                        injection hv343_2 with hva_ hvn_ hvc_
                        rw [hva_] at ge343_2
                        rw [hvc_] at ul343_2
                        have HL343_2 := Aside0.mk (show Kd.V (Kd.int .i64) 3 _ w.heap.size _ _ ((rd_T58 t310 x11_3).f2) from Kd.V_mk ul343_2 ge343_2)
                        clear hva_ hvn_ hvc_ ge343_2 ul343_2
                        clear hcc343 hce343
                        have HR343_2 := Aside0.mk hi343_2
                        have HC343_2 := Aside0.mk hl343_2
                        clear hi343_2 hl343_2
                        replace p343 := eq_true p343
                        replace q343 := eq_true q343
                        have p344 : 0 ≤ (x11_3 : Int) := of_decide_eq_true (by first | (with_reducible assumption) | assumption)
                        have q344 : x11_3 < (t310.length : Int) := of_decide_eq_true (by first | (with_reducible assumption) | assumption)
                        obtain ⟨ad344, A344_2, c344_2, e344, hx344_0, hx344_1, hx344_2, hl344_2, hi344_2⟩ := at_T58 (Kd.N_reads' HO_3.out).2.2 x11_3 p344 q344
                        obtain rfl : ad343 = ad344 := (by injection e344)
                        obtain ⟨ce344, hce344, hMe344, hcc344⟩ := Kd.N_get HO_3.out z58 x11_3 p344 (by first | exact q344 | exact of_decide_eq_true (by first | (with_reducible assumption) | assumption) | (have e_ := (Kd.N_reads' HO_3.out).1; omega))
                        obtain ⟨ua344_2, uc344_2, rfl, ul344_2, ge344_2⟩ := k58_openF hMe344
                        have hv344_2 := hcc344 2 _ rfl
                        rw [add_field _ _ 2 (by omega)] at hv344_2
                        replace hv344_2 := Option.some.inj (hv344_2.symm.trans hx344_2)
                        injection hv344_2 with hva_ hvn_ hvc_
                        rw [hva_] at ge344_2
                        rw [hvc_] at ul344_2
                        have HL344_2 := Aside0.mk (show Kd.V (Kd.int .i64) 3 _ w.heap.size _ _ ((rd_T58 t310 x11_3).f2) from Kd.V_mk ul344_2 ge344_2)
                        clear hva_ hvn_ hvc_ ge344_2 ul344_2
                        clear hcc344 hce344
                        have HR344_2 := Aside0.mk hi344_2
                        have HC344_2 := Aside0.mk hl344_2
                        clear hi344_2 hl344_2
                        replace p344 := eq_true p344
                        replace q344 := eq_true q344
                        have ea_ := Option.some.inj (hx343_2.symm.trans hx344_2)
                        injection ea_ with ea_ en_ ec_
                        subst ea_
                        subst ec_
                        clear en_
                        have p345 : 0 ≤ (x12_5 : Int) := of_decide_eq_true (by first | (with_reducible assumption) | assumption)
                        have q345 : x12_5 < (((rd_T58 t310 x11_3).f2).length : Int) := of_decide_eq_true (by first | (with_reducible assumption) | assumption)
                        obtain ⟨ad345, e345, hx345_0⟩ := Kd.at_int (by repeat (first | (with_reducible exact HR344_2.out) | (with_reducible refine Kd.C_alloc ?_ _) | (with_reducible refine Kd.C_drewN ?_ _) | (with_reducible refine Kd.C_drew ?_) | exact HR344_2.out)) x12_5 p345 q345
                        cases e345
                        replace p345 := eq_true p345
                        replace q345 := eq_true q345
                        try go_wp2
                        have n0_ := Aside0.mk (Kd.N_drew HO_3.out)
                        have n1_ := Aside0.mk (Kd.R_drew HO_5.out)
                        have n2_ := Aside0.mk (Kd.N_drew HO_6.out)
                        have n3_ := Aside0.mk (Kd.R_drew HO_9.out)
                        have n4_ := Aside0.mk (Kd.V_drew HL343_2.out)
                        have n5_ := Aside0.mk (Kd.V_drew HL344_2.out)
                        have n6_ := Aside0.mk (Kd.C_drew HR343_2.out)
                        have n7_ := Aside0.mk (Kd.C_drew HR344_2.out)
                        have n8_ := Aside0.mk (below_drew1 HB.out)
                        clear HO_3
                        clear HO_5
                        clear HO_6
                        clear HO_9
                        clear HL343_2
                        clear HL344_2
                        clear HR343_2
                        clear HR344_2
                        clear HB
                        have HO_3 := n0_
                        have HO_5 := n1_
                        have HO_6 := n2_
                        have HO_9 := n3_
                        have HL343_2 := n4_
                        have HL344_2 := n5_
                        have HR343_2 := n6_
                        have HR344_2 := n7_
                        have HB := n8_
                        clear n0_ n1_ n2_ n3_ n4_ n5_ n6_ n7_ n8_
                        have p346 : 0 ≤ ((rd ((rd_T58 t310 x11_3).f2) x12_5) : Int) := of_decide_eq_true (by first | (with_reducible assumption) | assumption)
                        have q346 : (rd ((rd_T58 t310 x11_3).f2) x12_5) < (t319.length : Int) := of_decide_eq_true (by first | (with_reducible assumption) | assumption)
                        obtain ⟨ad346, A346_2, c346_2, e346, hx346_0, hx346_1, hx346_2, hl346_2, hi346_2⟩ := at_T58 (Kd.N_reads' HO_6.out).2.2 (rd ((rd_T58 t310 x11_3).f2) x12_5) p346 q346
                        cases e346
                        obtain ⟨ce346, hce346, hMe346, hcc346⟩ := Kd.N_get HO_6.out z58 (rd ((rd_T58 t310 x11_3).f2) x12_5) p346 (by first | exact q346 | exact of_decide_eq_true (by first | (with_reducible assumption) | assumption) | (have e_ := (Kd.N_reads' HO_6.out).1; omega))
                        obtain ⟨ua346_2, uc346_2, rfl, ul346_2, ge346_2⟩ := k58_openF hMe346
                        have hv346_2 := hcc346 2 _ rfl
                        rw [add_field _ _ 2 (by omega)] at hv346_2
                        replace hv346_2 := Option.some.inj (hv346_2.symm.trans hx346_2)
                        injection hv346_2 with hva_ hvn_ hvc_
                        rw [hva_] at ge346_2
                        rw [hvc_] at ul346_2
                        have HL346_2 := Aside0.mk (show Kd.V (Kd.int .i64) 3 _ w.heap.size _ _ ((rd_T58 t319 (rd ((rd_T58 t310 x11_3).f2) x12_5)).f2) from Kd.V_mk ul346_2 ge346_2)
                        clear hva_ hvn_ hvc_ ge346_2 ul346_2
                        clear hcc346 hce346
                        have HR346_2 := Aside0.mk hi346_2
                        have HC346_2 := Aside0.mk hl346_2
                        clear hi346_2 hl346_2
                        replace p346 := eq_true p346
                        replace q346 := eq_true q346
                        have p347 : 0 ≤ (x11_3 : Int) := of_decide_eq_true (by first | (with_reducible assumption) | assumption)
                        have q347 : x11_3 < (t319.length : Int) := of_decide_eq_true (by first | (with_reducible assumption) | assumption)
                        obtain ⟨ad347, A347_2, c347_2, e347, hx347_0, hx347_1, hx347_2, hl347_2, hi347_2⟩ := at_T58 (Kd.N_reads' HO_6.out).2.2 x11_3 p347 q347
                        obtain rfl : ad346 = ad347 := (by injection e347)
                        obtain ⟨ce347, hce347, hMe347, hcc347⟩ := Kd.N_get HO_6.out z58 x11_3 p347 (by first | exact q347 | exact of_decide_eq_true (by first | (with_reducible assumption) | assumption) | (have e_ := (Kd.N_reads' HO_6.out).1; omega))
                        obtain ⟨ua347_2, uc347_2, rfl, ul347_2, ge347_2⟩ := k58_openF hMe347
                        have hv347_2 := hcc347 2 _ rfl
                        rw [add_field _ _ 2 (by omega)] at hv347_2
                        replace hv347_2 := Option.some.inj (hv347_2.symm.trans hx347_2)
                        injection hv347_2 with hva_ hvn_ hvc_
                        rw [hva_] at ge347_2
                        rw [hvc_] at ul347_2
                        have HL347_2 := Aside0.mk (show Kd.V (Kd.int .i64) 3 _ w.heap.size _ _ ((rd_T58 t319 x11_3).f2) from Kd.V_mk ul347_2 ge347_2)
                        clear hva_ hvn_ hvc_ ge347_2 ul347_2
                        clear hcc347 hce347
                        have HR347_2 := Aside0.mk hi347_2
                        have HC347_2 := Aside0.mk hl347_2
                        clear hi347_2 hl347_2
                        replace p347 := eq_true p347
                        replace q347 := eq_true q347
                        refine start_ (n := 37) (S := fun w' => w'.cell? (ad346.add (((rd ((rd_T58 t310 x11_3).f2) x12_5)).toNat * 3)) = some (.int .i64 ((rd_T58 t319 (rd ((rd_T58 t310 x11_3).f2) x12_5)).f0)) ∧ w'.cell? ⟨(ad346.add (((rd ((rd_T58 t310 x11_3).f2) x12_5)).toNat * 3)).block, (ad346.add (((rd ((rd_T58 t310 x11_3).f2) x12_5)).toNat * 3)).off + 1, none⟩ = some (.int .i64 ((rd_T58 t319 (rd ((rd_T58 t310 x11_3).f2) x12_5)).f1)) ∧ w'.cell? ⟨(ad346.add (((rd ((rd_T58 t310 x11_3).f2) x12_5)).toNat * 3)).block, (ad346.add (((rd ((rd_T58 t310 x11_3).f2) x12_5)).toNat * 3)).off + 2, none⟩ = some (.slice A346_2 ((rd_T58 t319 (rd ((rd_T58 t310 x11_3).f2) x12_5)).f2).length c346_2) ∧ w'.cell? (ad346.add ((x11_3).toNat * 3)) = some (.int .i64 ((rd_T58 t319 x11_3).f0)) ∧ w'.cell? ⟨(ad346.add ((x11_3).toNat * 3)).block, (ad346.add ((x11_3).toNat * 3)).off + 1, none⟩ = some (.int .i64 ((rd_T58 t319 x11_3).f1)) ∧ w'.cell? ⟨(ad346.add ((x11_3).toNat * 3)).block, (ad346.add ((x11_3).toNat * 3)).off + 2, none⟩ = some (.slice A347_2 ((rd_T58 t319 x11_3).f2).length c347_2)) (ds := []) (bs 37 0) (by kernel_rfl) rfl rfl ⟨hx346_0, hx346_1, hx346_2, hx347_0, hx347_1, hx347_2⟩ (fun hHeld => ?_); refine with_tabW laws_FnSettled.tab20 laws_FnSettled.bits20 (fun HT_ HW_ => ?_)
                        generalize wr.drew = w70 at HO_3 HO_5 HO_6 HO_9 HL343_2 HL344_2 HR343_2 HR344_2 HB HL346_2 HL347_2 HR346_2 HR347_2 hx346_0 hx346_1 hx346_2 hx347_0 hx347_1 hx347_2 hHeld ⊢
                        refine pu_ 0 138 HT_ (bs 37 1) rfl rfl ?_
                        refine pu_ 1 139 HT_ (bs 37 3) rfl rfl ?_
                        refine pu_ 2 140 HT_ (bs 37 7) rfl rfl ?_
                        refine pu_ 3 141 HT_ (bs 37 15) rfl rfl ?_
                        refine pu_ 5 143 HT_ (bs 37 47) rfl rfl ?_
                        refine pu_ 6 144 HT_ (bs 37 111) rfl rfl ?_
                        refine pu_ 7 145 HT_ (bs 37 239) rfl rfl ?_
                        refine pu_ 8 146 HT_ (bs 37 495) rfl rfl ?_
                        refine take_ (i := 4) (N := some 142) (v := ?_) (a' := ?_) (bs 37 511) rfl rfl (take_ofW HT_.out HW_.out (by kernel_rfl)) (fun _ _ _ h => h) (Or.inl ⟨by rfl, ?_⟩) hHeld ?_ ?_
                        rotate_left
                        ·rintro w' ⟨s0, s1, s2, s3, s4, s5⟩
                         go_simp
                         with_reducible rfl
                        rotate_left
                        ·simp only [Act.put, sA_, sZ_, sS_, i64_w, i32_w]
                         rfl
                        refine take_ (i := 9) (N := some 147) (v := ?_) (a' := ?_) (bs 37 1023) rfl rfl (take_ofW HT_.out HW_.out (by kernel_rfl)) (fun _ _ _ h => h) (Or.inl ⟨by rfl, ?_⟩) hHeld ?_ ?_
                        rotate_left
                        ·rintro w' ⟨s0, s1, s2, s3, s4, s5⟩
                         go_simp
                         with_reducible rfl
                        rotate_left
                        ·simp only [Act.put, sA_, sZ_, sS_, i64_w, i32_w]
                         rfl
                        refine pu_ 10 148 HT_ (bs 37 2047) rfl rfl ?_
                        refine pu_ 11 149 HT_ (bs 37 4095) rfl rfl ?_
                        refine pn_ 12 150 HT_ (bs 37 8191) rfl rfl ?_
                        refine pn_ 13 151 HT_ (bs 37 16383) rfl rfl ?_
                        refine pn_ 14 152 HT_ (bs 37 32767) rfl rfl ?_
                        refine pn_ 15 153 HT_ (bs 37 65535) rfl rfl ?_
                        refine pn_ 16 154 HT_ (bs 37 131071) rfl rfl ?_
                        refine pn_ 17 155 HT_ (bs 37 262143) rfl rfl ?_
                        refine pn_ 18 156 HT_ (bs 37 524287) rfl rfl ?_
                        refine pn_ 19 157 HT_ (bs 37 1048575) rfl rfl ?_
                        refine pn_ 20 158 HT_ (bs 37 2097151) rfl rfl ?_
                        refine pn_ 21 159 HT_ (bs 37 4194303) rfl rfl ?_
                        refine pn_ 22 160 HT_ (bs 37 8388607) rfl rfl ?_
                        refine pu_ 23 161 HT_ (bs 37 16777215) rfl rfl ?_
                        refine pu_ 24 162 HT_ (bs 37 33554431) rfl rfl ?_
                        refine pn_ 25 163 HT_ (bs 37 67108863) rfl rfl ?_
                        refine pn_ 26 164 HT_ (bs 37 134217727) rfl rfl ?_
                        refine pn_ 27 165 HT_ (bs 37 268435455) rfl rfl ?_
                        refine pn_ 28 166 HT_ (bs 37 536870911) rfl rfl ?_
                        refine pn_ 29 167 HT_ (bs 37 1073741823) rfl rfl ?_
                        refine pn_ 30 168 HT_ (bs 37 2147483647) rfl rfl ?_
                        refine pn_ 31 169 HT_ (bs 37 4294967295) rfl rfl ?_
                        refine pn_ 32 170 HT_ (bs 37 8589934591) rfl rfl ?_
                        refine pn_ 33 171 HT_ (bs 37 17179869183) rfl rfl ?_
                        refine pn_ 34 172 HT_ (bs 37 34359738367) rfl rfl ?_
                        refine pn_ 35 173 HT_ (bs 37 68719476735) rfl rfl ?_
                        refine pu_ 36 174 HT_ (bs 37 137438953471) rfl rfl ?_
                        refine done_ (done_of HT_.out (by kernel_rfl)) ?_
                        try go_wp2
                        go_ret
                        exact ⟨by first | rfl | (simp [errW_none, errW_some] <;> rfl) | (simp [*, errW_none, errW_some] <;> rfl), bel_ HB.out⟩
                       ·rw [if_neg c69] at H
                        have c69b0 : (((rd_T58 t319 (rd ((rd_T58 t310 x11_3).f2) x12_5)).f1) == ((rd_T58 t319 x11_3).f1)) = false := beq_eq_false_iff_ne.mpr c69
                        have c69b1 : (((rd_T58 t319 (rd ((rd_T58 t310 x11_3).f2) x12_5)).f1) != ((rd_T58 t319 x11_3).f1)) = true := bne_iff_ne.mpr c69
                        by_cases c71 : x11_3 < (t328.length : Int)
                        ·rw [if_pos c71] at H
                         have c71b0 : decide (x11_3 < (t328.length : Int)) = true := decide_eq_true c71
                         clear c71
                         by_cases c72 : (rd ((rd_T58 t310 x11_3).f2) x12_5) < (t328.length : Int)
                         ·rw [if_pos c72] at H
                          have c72b0 : decide ((rd ((rd_T58 t310 x11_3).f2) x12_5) < (t328.length : Int)) = true := decide_eq_true c72
                          clear c72
                          by_cases c73 : ((decide ((rd t328 x11_3) < 0)) != (decide ((rd t328 (rd ((rd_T58 t310 x11_3).f2) x12_5)) < 0))) = true
                          ·as_aux_lemma =>
                           rw [if_pos c73] at H
                           have c73b0 : ((decide ((rd t328 x11_3) < 0)) != (decide ((rd t328 (rd ((rd_T58 t310 x11_3).f2) x12_5)) < 0))) = true := c73
                           (try (have c73b1 : decide ((decide ((rd t328 x11_3) < 0)) = (decide ((rd t328 (rd ((rd_T58 t310 x11_3).f2) x12_5)) < 0))) = false := by simpa using c73))
                           (try (have c73b2 : ((decide ((rd t328 x11_3) < 0)) == (decide ((rd t328 (rd ((rd_T58 t310 x11_3).f2) x12_5)) < 0))) = false := by simpa using c73))
                           (try (have c73b3 : ¬ ((decide ((rd t328 x11_3) < 0)) = (decide ((rd t328 (rd ((rd_T58 t310 x11_3).f2) x12_5)) < 0))) := by simpa using c73))
                           clear c73
                           obtain rfl := Option.some.inj H
                           have p343 : 0 ≤ (x11_3 : Int) := of_decide_eq_true (by first | (with_reducible assumption) | assumption)
                           have q343 : x11_3 < (t310.length : Int) := of_decide_eq_true (by first | (with_reducible assumption) | assumption)
                           obtain ⟨ad343, A343_2, c343_2, e343, hx343_0, hx343_1, hx343_2, hl343_2, hi343_2⟩ := at_T58 (Kd.N_reads' HO_3.out).2.2 x11_3 p343 q343
                           cases e343
                           obtain ⟨ce343, hce343, hMe343, hcc343⟩ := Kd.N_get HO_3.out z58 x11_3 p343 (by first | exact q343 | exact of_decide_eq_true (by first | (with_reducible assumption) | assumption) | (have e_ := (Kd.N_reads' HO_3.out).1; omega))
                           obtain ⟨ua343_2, uc343_2, rfl, ul343_2, ge343_2⟩ := k58_openF hMe343
                           have hv343_2 := hcc343 2 _ rfl
                           rw [add_field _ _ 2 (by omega)] at hv343_2
                           replace hv343_2 := Option.some.inj (hv343_2.symm.trans hx343_2)
                           injection hv343_2 with hva_ hvn_ hvc_
                           rw [hva_] at ge343_2
                           rw [hvc_] at ul343_2
                           have HL343_2 := Aside0.mk (show Kd.V (Kd.int .i64) 3 _ w.heap.size _ _ ((rd_T58 t310 x11_3).f2) from Kd.V_mk ul343_2 ge343_2)
                           clear hva_ hvn_ hvc_ ge343_2 ul343_2
                           clear hcc343 hce343
                           have HR343_2 := Aside0.mk hi343_2
                           have HC343_2 := Aside0.mk hl343_2
                           clear hi343_2 hl343_2
                           replace p343 := eq_true p343
                           replace q343 := eq_true q343
                           have p344 : 0 ≤ (x11_3 : Int) := of_decide_eq_true (by first | (with_reducible assumption) | assumption)
                           have q344 : x11_3 < (t310.length : Int) := of_decide_eq_true (by first | (with_reducible assumption) | assumption)
                           obtain ⟨ad344, A344_2, c344_2, e344, hx344_0, hx344_1, hx344_2, hl344_2, hi344_2⟩ := at_T58 (Kd.N_reads' HO_3.out).2.2 x11_3 p344 q344
                           obtain rfl : ad343 = ad344 := (by injection e344)
                           obtain ⟨ce344, hce344, hMe344, hcc344⟩ := Kd.N_get HO_3.out z58 x11_3 p344 (by first | exact q344 | exact of_decide_eq_true (by first | (with_reducible assumption) | assumption) | (have e_ := (Kd.N_reads' HO_3.out).1; omega))
                           obtain ⟨ua344_2, uc344_2, rfl, ul344_2, ge344_2⟩ := k58_openF hMe344
                           have hv344_2 := hcc344 2 _ rfl
                           rw [add_field _ _ 2 (by omega)] at hv344_2
                           replace hv344_2 := Option.some.inj (hv344_2.symm.trans hx344_2)
                           injection hv344_2 with hva_ hvn_ hvc_
                           rw [hva_] at ge344_2
                           rw [hvc_] at ul344_2
                           have HL344_2 := Aside0.mk (show Kd.V (Kd.int .i64) 3 _ w.heap.size _ _ ((rd_T58 t310 x11_3).f2) from Kd.V_mk ul344_2 ge344_2)
                           clear hva_ hvn_ hvc_ ge344_2 ul344_2
                           clear hcc344 hce344
                           have HR344_2 := Aside0.mk hi344_2
                           have HC344_2 := Aside0.mk hl344_2
                           clear hi344_2 hl344_2
                           replace p344 := eq_true p344
                           replace q344 := eq_true q344
                           have ea_ := Option.some.inj (hx343_2.symm.trans hx344_2)
                           injection ea_ with ea_ en_ ec_
                           subst ea_
                           subst ec_
                           clear en_
                           have p345 : 0 ≤ (x12_5 : Int) := of_decide_eq_true (by first | (with_reducible assumption) | assumption)
                           have q345 : x12_5 < (((rd_T58 t310 x11_3).f2).length : Int) := of_decide_eq_true (by first | (with_reducible assumption) | assumption)
                           obtain ⟨ad345, e345, hx345_0⟩ := Kd.at_int (by repeat (first | (with_reducible exact HR344_2.out) | (with_reducible refine Kd.C_alloc ?_ _) | (with_reducible refine Kd.C_drewN ?_ _) | (with_reducible refine Kd.C_drew ?_) | exact HR344_2.out)) x12_5 p345 q345
                           cases e345
                           replace p345 := eq_true p345
                           replace q345 := eq_true q345
                           try go_wp2
                           have n0_ := Aside0.mk (Kd.N_drew HO_3.out)
                           have n1_ := Aside0.mk (Kd.R_drew HO_5.out)
                           have n2_ := Aside0.mk (Kd.N_drew HO_6.out)
                           have n3_ := Aside0.mk (Kd.R_drew HO_9.out)
                           have n4_ := Aside0.mk (Kd.V_drew HL343_2.out)
                           have n5_ := Aside0.mk (Kd.V_drew HL344_2.out)
                           have n6_ := Aside0.mk (Kd.C_drew HR343_2.out)
                           have n7_ := Aside0.mk (Kd.C_drew HR344_2.out)
                           have n8_ := Aside0.mk (below_drew1 HB.out)
                           clear HO_3
                           clear HO_5
                           clear HO_6
                           clear HO_9
                           clear HL343_2
                           clear HL344_2
                           clear HR343_2
                           clear HR344_2
                           clear HB
                           have HO_3 := n0_
                           have HO_5 := n1_
                           have HO_6 := n2_
                           have HO_9 := n3_
                           have HL343_2 := n4_
                           have HL344_2 := n5_
                           have HR343_2 := n6_
                           have HR344_2 := n7_
                           have HB := n8_
                           clear n0_ n1_ n2_ n3_ n4_ n5_ n6_ n7_ n8_
                           have p346 : 0 ≤ ((rd ((rd_T58 t310 x11_3).f2) x12_5) : Int) := of_decide_eq_true (by first | (with_reducible assumption) | assumption)
                           have q346 : (rd ((rd_T58 t310 x11_3).f2) x12_5) < (t319.length : Int) := of_decide_eq_true (by first | (with_reducible assumption) | assumption)
                           obtain ⟨ad346, A346_2, c346_2, e346, hx346_0, hx346_1, hx346_2, hl346_2, hi346_2⟩ := at_T58 (Kd.N_reads' HO_6.out).2.2 (rd ((rd_T58 t310 x11_3).f2) x12_5) p346 q346
                           cases e346
                           obtain ⟨ce346, hce346, hMe346, hcc346⟩ := Kd.N_get HO_6.out z58 (rd ((rd_T58 t310 x11_3).f2) x12_5) p346 (by first | exact q346 | exact of_decide_eq_true (by first | (with_reducible assumption) | assumption) | (have e_ := (Kd.N_reads' HO_6.out).1; omega))
                           obtain ⟨ua346_2, uc346_2, rfl, ul346_2, ge346_2⟩ := k58_openF hMe346
                           have hv346_2 := hcc346 2 _ rfl
                           rw [add_field _ _ 2 (by omega)] at hv346_2
                           replace hv346_2 := Option.some.inj (hv346_2.symm.trans hx346_2)
                           injection hv346_2 with hva_ hvn_ hvc_
                           rw [hva_] at ge346_2
                           rw [hvc_] at ul346_2
                           have HL346_2 := Aside0.mk (show Kd.V (Kd.int .i64) 3 _ w.heap.size _ _ ((rd_T58 t319 (rd ((rd_T58 t310 x11_3).f2) x12_5)).f2) from Kd.V_mk ul346_2 ge346_2)
                           clear hva_ hvn_ hvc_ ge346_2 ul346_2
                           clear hcc346 hce346
                           have HR346_2 := Aside0.mk hi346_2
                           have HC346_2 := Aside0.mk hl346_2
                           clear hi346_2 hl346_2
                           replace p346 := eq_true p346
                           replace q346 := eq_true q346
                           have p347 : 0 ≤ (x11_3 : Int) := of_decide_eq_true (by first | (with_reducible assumption) | assumption)
                           have q347 : x11_3 < (t319.length : Int) := of_decide_eq_true (by first | (with_reducible assumption) | assumption)
                           obtain ⟨ad347, A347_2, c347_2, e347, hx347_0, hx347_1, hx347_2, hl347_2, hi347_2⟩ := at_T58 (Kd.N_reads' HO_6.out).2.2 x11_3 p347 q347
                           obtain rfl : ad346 = ad347 := (by injection e347)
                           obtain ⟨ce347, hce347, hMe347, hcc347⟩ := Kd.N_get HO_6.out z58 x11_3 p347 (by first | exact q347 | exact of_decide_eq_true (by first | (with_reducible assumption) | assumption) | (have e_ := (Kd.N_reads' HO_6.out).1; omega))
                           obtain ⟨ua347_2, uc347_2, rfl, ul347_2, ge347_2⟩ := k58_openF hMe347
                           have hv347_2 := hcc347 2 _ rfl
                           rw [add_field _ _ 2 (by omega)] at hv347_2
                           replace hv347_2 := Option.some.inj (hv347_2.symm.trans hx347_2)
                           injection hv347_2 with hva_ hvn_ hvc_
                           rw [hva_] at ge347_2
                           rw [hvc_] at ul347_2
                           have HL347_2 := Aside0.mk (show Kd.V (Kd.int .i64) 3 _ w.heap.size _ _ ((rd_T58 t319 x11_3).f2) from Kd.V_mk ul347_2 ge347_2)
                           clear hva_ hvn_ hvc_ ge347_2 ul347_2
                           clear hcc347 hce347
                           have HR347_2 := Aside0.mk hi347_2
                           have HC347_2 := Aside0.mk hl347_2
                           clear hi347_2 hl347_2
                           replace p347 := eq_true p347
                           replace q347 := eq_true q347
                           obtain ⟨Ao75, co75, eo75⟩ := Kd.R_slice HO_9.out
                           (first | subst eo75 | (injection eo75 with f1_ f2_ f3_; have f4_ := f1_.symm; have f5_ := f3_.symm; clear f1_ f2_ f3_; subst f4_; subst f5_))
                           have p348 : 0 ≤ (x11_3 : Int) := of_decide_eq_true (by first | (with_reducible assumption) | assumption)
                           have q348 : x11_3 < (t328.length : Int) := of_decide_eq_true (by first | (with_reducible assumption) | assumption)
                           obtain ⟨ad348, e348, hx348_0⟩ := Kd.at_int (Kd.R_reads' HO_9.out).2.2 x11_3 p348 q348
                           cases e348
                           replace p348 := eq_true p348
                           replace q348 := eq_true q348
                           have p349 : 0 ≤ ((rd ((rd_T58 t310 x11_3).f2) x12_5) : Int) := of_decide_eq_true (by first | (with_reducible assumption) | assumption)
                           have q349 : (rd ((rd_T58 t310 x11_3).f2) x12_5) < (t328.length : Int) := of_decide_eq_true (by first | (with_reducible assumption) | assumption)
                           obtain ⟨ad349, e349, hx349_0⟩ := Kd.at_int (Kd.R_reads' HO_9.out).2.2 (rd ((rd_T58 t310 x11_3).f2) x12_5) p349 q349
                           obtain rfl : ad348 = ad349 := (by injection e349)
                           replace p349 := eq_true p349
                           replace q349 := eq_true q349
                           refine start_ (n := 37) (S := fun w' => w'.cell? (ad346.add (((rd ((rd_T58 t310 x11_3).f2) x12_5)).toNat * 3)) = some (.int .i64 ((rd_T58 t319 (rd ((rd_T58 t310 x11_3).f2) x12_5)).f0)) ∧ w'.cell? ⟨(ad346.add (((rd ((rd_T58 t310 x11_3).f2) x12_5)).toNat * 3)).block, (ad346.add (((rd ((rd_T58 t310 x11_3).f2) x12_5)).toNat * 3)).off + 1, none⟩ = some (.int .i64 ((rd_T58 t319 (rd ((rd_T58 t310 x11_3).f2) x12_5)).f1)) ∧ w'.cell? ⟨(ad346.add (((rd ((rd_T58 t310 x11_3).f2) x12_5)).toNat * 3)).block, (ad346.add (((rd ((rd_T58 t310 x11_3).f2) x12_5)).toNat * 3)).off + 2, none⟩ = some (.slice A346_2 ((rd_T58 t319 (rd ((rd_T58 t310 x11_3).f2) x12_5)).f2).length c346_2) ∧ w'.cell? (ad346.add ((x11_3).toNat * 3)) = some (.int .i64 ((rd_T58 t319 x11_3).f0)) ∧ w'.cell? ⟨(ad346.add ((x11_3).toNat * 3)).block, (ad346.add ((x11_3).toNat * 3)).off + 1, none⟩ = some (.int .i64 ((rd_T58 t319 x11_3).f1)) ∧ w'.cell? ⟨(ad346.add ((x11_3).toNat * 3)).block, (ad346.add ((x11_3).toNat * 3)).off + 2, none⟩ = some (.slice A347_2 ((rd_T58 t319 x11_3).f2).length c347_2) ∧ w'.cell? (ad348.add (x11_3).toNat) = some (.int .i64 (rd t328 x11_3)) ∧ w'.cell? (ad348.add ((rd ((rd_T58 t310 x11_3).f2) x12_5)).toNat) = some (.int .i64 (rd t328 (rd ((rd_T58 t310 x11_3).f2) x12_5)))) (ds := []) (bs 37 0) (by kernel_rfl) rfl rfl ⟨hx346_0, hx346_1, hx346_2, hx347_0, hx347_1, hx347_2, hx348_0, hx349_0⟩ (fun hHeld => ?_); refine with_tabW laws_FnSettled.tab20 laws_FnSettled.bits20 (fun HT_ HW_ => ?_)
                           generalize wr.drew = w74 at HO_3 HO_5 HO_6 HO_9 HL343_2 HL344_2 HR343_2 HR344_2 HB HL346_2 HL347_2 HR346_2 HR347_2 hx346_0 hx346_1 hx346_2 hx347_0 hx347_1 hx347_2 hx348_0 hx349_0 hHeld ⊢
                           refine pu_ 0 138 HT_ (bs 37 1) rfl rfl ?_
                           refine pu_ 1 139 HT_ (bs 37 3) rfl rfl ?_
                           refine pu_ 2 140 HT_ (bs 37 7) rfl rfl ?_
                           refine pu_ 3 141 HT_ (bs 37 15) rfl rfl ?_
                           refine pu_ 5 143 HT_ (bs 37 47) rfl rfl ?_
                           refine pu_ 6 144 HT_ (bs 37 111) rfl rfl ?_
                           refine pu_ 7 145 HT_ (bs 37 239) rfl rfl ?_
                           refine pu_ 8 146 HT_ (bs 37 495) rfl rfl ?_
                           refine take_ (i := 4) (N := some 142) (v := ?_) (a' := ?_) (bs 37 511) rfl rfl (take_ofW HT_.out HW_.out (by kernel_rfl)) (fun _ _ _ h => h) (Or.inl ⟨by rfl, ?_⟩) hHeld ?_ ?_
                           rotate_left
                           ·rintro w' ⟨s0, s1, s2, s3, s4, s5, s6, s7⟩
                            go_simp
                            with_reducible rfl
                           rotate_left
                           ·simp only [Act.put, sA_, sZ_, sS_, i64_w, i32_w]
                            rfl
                           refine take_ (i := 9) (N := some 147) (v := ?_) (a' := ?_) (bs 37 1023) rfl rfl (take_ofW HT_.out HW_.out (by kernel_rfl)) (fun _ _ _ h => h) (Or.inl ⟨by rfl, ?_⟩) hHeld ?_ ?_
                           rotate_left
                           ·rintro w' ⟨s0, s1, s2, s3, s4, s5, s6, s7⟩
                            go_simp
                            with_reducible rfl
                           rotate_left
                           ·simp only [Act.put, sA_, sZ_, sS_, i64_w, i32_w]
                            rfl
                           refine pu_ 10 148 HT_ (bs 37 2047) rfl rfl ?_
                           refine pu_ 11 149 HT_ (bs 37 4095) rfl rfl ?_
                           refine pu_ 12 150 HT_ (bs 37 8191) rfl rfl ?_
                           refine pu_ 13 151 HT_ (bs 37 16383) rfl rfl ?_
                           refine pu_ 14 152 HT_ (bs 37 32767) rfl rfl ?_
                           refine pu_ 17 155 HT_ (bs 37 163839) rfl rfl ?_
                           refine pu_ 18 156 HT_ (bs 37 425983) rfl rfl ?_
                           refine pu_ 19 157 HT_ (bs 37 950271) rfl rfl ?_
                           refine take_ (i := 15) (N := some 153) (v := ?_) (a' := ?_) (bs 37 983039) rfl rfl (take_ofW HT_.out HW_.out (by kernel_rfl)) (fun _ _ _ h => h) (Or.inl ⟨by rfl, ?_⟩) hHeld ?_ ?_
                           rotate_left
                           ·rintro w' ⟨s0, s1, s2, s3, s4, s5, s6, s7⟩
                            go_simp
                            with_reducible rfl
                           rotate_left
                           ·simp only [Act.put, sA_, sZ_, sS_, i64_w, i32_w]
                            rfl
                           refine pu_ 16 154 HT_ (bs 37 1048575) rfl rfl ?_
                           refine take_ (i := 20) (N := some 158) (v := ?_) (a' := ?_) (bs 37 2097151) rfl rfl (take_ofW HT_.out HW_.out (by kernel_rfl)) (fun _ _ _ h => h) (Or.inl ⟨by rfl, ?_⟩) hHeld ?_ ?_
                           rotate_left
                           ·rintro w' ⟨s0, s1, s2, s3, s4, s5, s6, s7⟩
                            go_simp
                            with_reducible rfl
                           rotate_left
                           ·simp only [Act.put, sA_, sZ_, sS_, i64_w, i32_w]
                            rfl
                           refine pu_ 21 159 HT_ (bs 37 4194303) rfl rfl ?_
                           refine pu_ 22 160 HT_ (bs 37 8388607) rfl rfl ?_
                           refine pu_ 23 161 HT_ (bs 37 16777215) rfl rfl ?_
                           refine pu_ 24 162 HT_ (bs 37 33554431) rfl rfl ?_
                           refine pn_ 25 163 HT_ (bs 37 67108863) rfl rfl ?_
                           refine pn_ 26 164 HT_ (bs 37 134217727) rfl rfl ?_
                           refine pn_ 27 165 HT_ (bs 37 268435455) rfl rfl ?_
                           refine pn_ 28 166 HT_ (bs 37 536870911) rfl rfl ?_
                           refine pn_ 29 167 HT_ (bs 37 1073741823) rfl rfl ?_
                           refine pn_ 30 168 HT_ (bs 37 2147483647) rfl rfl ?_
                           refine pn_ 31 169 HT_ (bs 37 4294967295) rfl rfl ?_
                           refine pn_ 32 170 HT_ (bs 37 8589934591) rfl rfl ?_
                           refine pn_ 33 171 HT_ (bs 37 17179869183) rfl rfl ?_
                           refine pn_ 34 172 HT_ (bs 37 34359738367) rfl rfl ?_
                           refine pn_ 35 173 HT_ (bs 37 68719476735) rfl rfl ?_
                           refine pu_ 36 174 HT_ (bs 37 137438953471) rfl rfl ?_
                           refine done_ (done_of HT_.out (by kernel_rfl)) ?_
                           try go_wp2
                           go_ret
                           exact ⟨by first | rfl | (simp [errW_none, errW_some] <;> rfl) | (simp [*, errW_none, errW_some] <;> rfl), bel_ HB.out⟩
                          ·rw [if_neg c73] at H
                           have c73b0 : ((decide ((rd t328 x11_3) < 0)) != (decide ((rd t328 (rd ((rd_T58 t310 x11_3).f2) x12_5)) < 0))) = false := by simpa using c73
                           (try (have c73b1 : decide ((decide ((rd t328 x11_3) < 0)) = (decide ((rd t328 (rd ((rd_T58 t310 x11_3).f2) x12_5)) < 0))) = true := by simpa using c73))
                           (try (have c73b2 : ((decide ((rd t328 x11_3) < 0)) == (decide ((rd t328 (rd ((rd_T58 t310 x11_3).f2) x12_5)) < 0))) = true := by simpa using c73))
                           clear c73
                           replace H := Option.bind_eq_some_iff.mp H
                           obtain ⟨t352, A760, H⟩ := H
                           replace H : (if t352 > 1 then (some false) else (laws_FnSettled.l1 k5 l0 t310 t316 t319 t328 x11_3 (wrap64 (x12_5 + 1)))) = some r := H
                           have A76 := Aside0.mk A760
                           clear A760
                           by_cases c77 : t352 > 1
                           ·as_aux_lemma =>
                            rw [if_pos c77] at H
                            have c77b0 : decide (1 < t352) = true := decide_eq_true c77
                            clear c77
                            obtain rfl := Option.some.inj H
                            have p343 : 0 ≤ (x11_3 : Int) := of_decide_eq_true (by first | (with_reducible assumption) | assumption)
                            have q343 : x11_3 < (t310.length : Int) := of_decide_eq_true (by first | (with_reducible assumption) | assumption)
                            obtain ⟨ad343, A343_2, c343_2, e343, hx343_0, hx343_1, hx343_2, hl343_2, hi343_2⟩ := at_T58 (Kd.N_reads' HO_3.out).2.2 x11_3 p343 q343
                            cases e343
                            obtain ⟨ce343, hce343, hMe343, hcc343⟩ := Kd.N_get HO_3.out z58 x11_3 p343 (by first | exact q343 | exact of_decide_eq_true (by first | (with_reducible assumption) | assumption) | (have e_ := (Kd.N_reads' HO_3.out).1; omega))
                            obtain ⟨ua343_2, uc343_2, rfl, ul343_2, ge343_2⟩ := k58_openF hMe343
                            have hv343_2 := hcc343 2 _ rfl
                            rw [add_field _ _ 2 (by omega)] at hv343_2
                            replace hv343_2 := Option.some.inj (hv343_2.symm.trans hx343_2)
                            injection hv343_2 with hva_ hvn_ hvc_
                            rw [hva_] at ge343_2
                            rw [hvc_] at ul343_2
                            have HL343_2 := Aside0.mk (show Kd.V (Kd.int .i64) 3 _ w.heap.size _ _ ((rd_T58 t310 x11_3).f2) from Kd.V_mk ul343_2 ge343_2)
                            clear hva_ hvn_ hvc_ ge343_2 ul343_2
                            clear hcc343 hce343
                            have HR343_2 := Aside0.mk hi343_2
                            have HC343_2 := Aside0.mk hl343_2
                            clear hi343_2 hl343_2
                            replace p343 := eq_true p343
                            replace q343 := eq_true q343
                            have p344 : 0 ≤ (x11_3 : Int) := of_decide_eq_true (by first | (with_reducible assumption) | assumption)
                            have q344 : x11_3 < (t310.length : Int) := of_decide_eq_true (by first | (with_reducible assumption) | assumption)
                            obtain ⟨ad344, A344_2, c344_2, e344, hx344_0, hx344_1, hx344_2, hl344_2, hi344_2⟩ := at_T58 (Kd.N_reads' HO_3.out).2.2 x11_3 p344 q344
                            obtain rfl : ad343 = ad344 := (by injection e344)
                            obtain ⟨ce344, hce344, hMe344, hcc344⟩ := Kd.N_get HO_3.out z58 x11_3 p344 (by first | exact q344 | exact of_decide_eq_true (by first | (with_reducible assumption) | assumption) | (have e_ := (Kd.N_reads' HO_3.out).1; omega))
                            obtain ⟨ua344_2, uc344_2, rfl, ul344_2, ge344_2⟩ := k58_openF hMe344
                            have hv344_2 := hcc344 2 _ rfl
                            rw [add_field _ _ 2 (by omega)] at hv344_2
                            replace hv344_2 := Option.some.inj (hv344_2.symm.trans hx344_2)
                            injection hv344_2 with hva_ hvn_ hvc_
                            rw [hva_] at ge344_2
                            rw [hvc_] at ul344_2
                            have HL344_2 := Aside0.mk (show Kd.V (Kd.int .i64) 3 _ w.heap.size _ _ ((rd_T58 t310 x11_3).f2) from Kd.V_mk ul344_2 ge344_2)
                            clear hva_ hvn_ hvc_ ge344_2 ul344_2
                            clear hcc344 hce344
                            have HR344_2 := Aside0.mk hi344_2
                            have HC344_2 := Aside0.mk hl344_2
                            clear hi344_2 hl344_2
                            replace p344 := eq_true p344
                            replace q344 := eq_true q344
                            have ea_ := Option.some.inj (hx343_2.symm.trans hx344_2)
                            injection ea_ with ea_ en_ ec_
                            subst ea_
                            subst ec_
                            clear en_
                            have p345 : 0 ≤ (x12_5 : Int) := of_decide_eq_true (by first | (with_reducible assumption) | assumption)
                            have q345 : x12_5 < (((rd_T58 t310 x11_3).f2).length : Int) := of_decide_eq_true (by first | (with_reducible assumption) | assumption)
                            obtain ⟨ad345, e345, hx345_0⟩ := Kd.at_int (by repeat (first | (with_reducible exact HR344_2.out) | (with_reducible refine Kd.C_alloc ?_ _) | (with_reducible refine Kd.C_drewN ?_ _) | (with_reducible refine Kd.C_drew ?_) | exact HR344_2.out)) x12_5 p345 q345
                            cases e345
                            replace p345 := eq_true p345
                            replace q345 := eq_true q345
                            try go_wp2
                            have n0_ := Aside0.mk (Kd.N_drew HO_3.out)
                            have n1_ := Aside0.mk (Kd.R_drew HO_5.out)
                            have n2_ := Aside0.mk (Kd.N_drew HO_6.out)
                            have n3_ := Aside0.mk (Kd.R_drew HO_9.out)
                            have n4_ := Aside0.mk (Kd.V_drew HL343_2.out)
                            have n5_ := Aside0.mk (Kd.V_drew HL344_2.out)
                            have n6_ := Aside0.mk (Kd.C_drew HR343_2.out)
                            have n7_ := Aside0.mk (Kd.C_drew HR344_2.out)
                            have n8_ := Aside0.mk (below_drew1 HB.out)
                            clear HO_3
                            clear HO_5
                            clear HO_6
                            clear HO_9
                            clear HL343_2
                            clear HL344_2
                            clear HR343_2
                            clear HR344_2
                            clear HB
                            have HO_3 := n0_
                            have HO_5 := n1_
                            have HO_6 := n2_
                            have HO_9 := n3_
                            have HL343_2 := n4_
                            have HL344_2 := n5_
                            have HR343_2 := n6_
                            have HR344_2 := n7_
                            have HB := n8_
                            clear n0_ n1_ n2_ n3_ n4_ n5_ n6_ n7_ n8_
                            have p346 : 0 ≤ ((rd ((rd_T58 t310 x11_3).f2) x12_5) : Int) := of_decide_eq_true (by first | (with_reducible assumption) | assumption)
                            have q346 : (rd ((rd_T58 t310 x11_3).f2) x12_5) < (t319.length : Int) := of_decide_eq_true (by first | (with_reducible assumption) | assumption)
                            obtain ⟨ad346, A346_2, c346_2, e346, hx346_0, hx346_1, hx346_2, hl346_2, hi346_2⟩ := at_T58 (Kd.N_reads' HO_6.out).2.2 (rd ((rd_T58 t310 x11_3).f2) x12_5) p346 q346
                            cases e346
                            obtain ⟨ce346, hce346, hMe346, hcc346⟩ := Kd.N_get HO_6.out z58 (rd ((rd_T58 t310 x11_3).f2) x12_5) p346 (by first | exact q346 | exact of_decide_eq_true (by first | (with_reducible assumption) | assumption) | (have e_ := (Kd.N_reads' HO_6.out).1; omega))
                            obtain ⟨ua346_2, uc346_2, rfl, ul346_2, ge346_2⟩ := k58_openF hMe346
                            have hv346_2 := hcc346 2 _ rfl
                            rw [add_field _ _ 2 (by omega)] at hv346_2
                            replace hv346_2 := Option.some.inj (hv346_2.symm.trans hx346_2)
                            injection hv346_2 with hva_ hvn_ hvc_
                            rw [hva_] at ge346_2
                            rw [hvc_] at ul346_2
                            have HL346_2 := Aside0.mk (show Kd.V (Kd.int .i64) 3 _ w.heap.size _ _ ((rd_T58 t319 (rd ((rd_T58 t310 x11_3).f2) x12_5)).f2) from Kd.V_mk ul346_2 ge346_2)
                            clear hva_ hvn_ hvc_ ge346_2 ul346_2
                            clear hcc346 hce346
                            have HR346_2 := Aside0.mk hi346_2
                            have HC346_2 := Aside0.mk hl346_2
                            clear hi346_2 hl346_2
                            replace p346 := eq_true p346
                            replace q346 := eq_true q346
                            have p347 : 0 ≤ (x11_3 : Int) := of_decide_eq_true (by first | (with_reducible assumption) | assumption)
                            have q347 : x11_3 < (t319.length : Int) := of_decide_eq_true (by first | (with_reducible assumption) | assumption)
                            obtain ⟨ad347, A347_2, c347_2, e347, hx347_0, hx347_1, hx347_2, hl347_2, hi347_2⟩ := at_T58 (Kd.N_reads' HO_6.out).2.2 x11_3 p347 q347
                            obtain rfl : ad346 = ad347 := (by injection e347)
                            obtain ⟨ce347, hce347, hMe347, hcc347⟩ := Kd.N_get HO_6.out z58 x11_3 p347 (by first | exact q347 | exact of_decide_eq_true (by first | (with_reducible assumption) | assumption) | (have e_ := (Kd.N_reads' HO_6.out).1; omega))
                            obtain ⟨ua347_2, uc347_2, rfl, ul347_2, ge347_2⟩ := k58_openF hMe347
                            have hv347_2 := hcc347 2 _ rfl
                            rw [add_field _ _ 2 (by omega)] at hv347_2
                            replace hv347_2 := Option.some.inj (hv347_2.symm.trans hx347_2)
                            injection hv347_2 with hva_ hvn_ hvc_
                            rw [hva_] at ge347_2
                            rw [hvc_] at ul347_2
                            have HL347_2 := Aside0.mk (show Kd.V (Kd.int .i64) 3 _ w.heap.size _ _ ((rd_T58 t319 x11_3).f2) from Kd.V_mk ul347_2 ge347_2)
                            clear hva_ hvn_ hvc_ ge347_2 ul347_2
                            clear hcc347 hce347
                            have HR347_2 := Aside0.mk hi347_2
                            have HC347_2 := Aside0.mk hl347_2
                            clear hi347_2 hl347_2
                            replace p347 := eq_true p347
                            replace q347 := eq_true q347
                            obtain ⟨Ao79, co79, eo79⟩ := Kd.R_slice HO_9.out
                            (first | subst eo79 | (injection eo79 with f1_ f2_ f3_; have f4_ := f1_.symm; have f5_ := f3_.symm; clear f1_ f2_ f3_; subst f4_; subst f5_))
                            have p348 : 0 ≤ (x11_3 : Int) := of_decide_eq_true (by first | (with_reducible assumption) | assumption)
                            have q348 : x11_3 < (t328.length : Int) := of_decide_eq_true (by first | (with_reducible assumption) | assumption)
                            obtain ⟨ad348, e348, hx348_0⟩ := Kd.at_int (Kd.R_reads' HO_9.out).2.2 x11_3 p348 q348
                            cases e348
                            replace p348 := eq_true p348
                            replace q348 := eq_true q348
                            have p349 : 0 ≤ ((rd ((rd_T58 t310 x11_3).f2) x12_5) : Int) := of_decide_eq_true (by first | (with_reducible assumption) | assumption)
                            have q349 : (rd ((rd_T58 t310 x11_3).f2) x12_5) < (t328.length : Int) := of_decide_eq_true (by first | (with_reducible assumption) | assumption)
                            obtain ⟨ad349, e349, hx349_0⟩ := Kd.at_int (Kd.R_reads' HO_9.out).2.2 (rd ((rd_T58 t310 x11_3).f2) x12_5) p349 q349
                            obtain rfl : ad348 = ad349 := (by injection e349)
                            replace p349 := eq_true p349
                            replace q349 := eq_true q349
                            have p350 : 0 ≤ (x11_3 : Int) := of_decide_eq_true (by first | (with_reducible assumption) | assumption)
                            have q350 : x11_3 < (t328.length : Int) := of_decide_eq_true (by first | (with_reducible assumption) | assumption)
                            obtain ⟨ad350, e350, hx350_0⟩ := Kd.at_int (Kd.R_reads' HO_9.out).2.2 x11_3 p350 q350
                            obtain rfl : ad348 = ad350 := (by injection e350)
                            replace p350 := eq_true p350
                            replace q350 := eq_true q350
                            have p351 : 0 ≤ ((rd ((rd_T58 t310 x11_3).f2) x12_5) : Int) := of_decide_eq_true (by first | (with_reducible assumption) | assumption)
                            have q351 : (rd ((rd_T58 t310 x11_3).f2) x12_5) < (t328.length : Int) := of_decide_eq_true (by first | (with_reducible assumption) | assumption)
                            obtain ⟨ad351, e351, hx351_0⟩ := Kd.at_int (Kd.R_reads' HO_9.out).2.2 (rd ((rd_T58 t310 x11_3).f2) x12_5) p351 q351
                            obtain rfl : ad348 = ad351 := (by injection e351)
                            replace p351 := eq_true p351
                            replace q351 := eq_true q351
                            refine start_ (n := 37) (S := fun w' => w'.cell? (ad346.add (((rd ((rd_T58 t310 x11_3).f2) x12_5)).toNat * 3)) = some (.int .i64 ((rd_T58 t319 (rd ((rd_T58 t310 x11_3).f2) x12_5)).f0)) ∧ w'.cell? ⟨(ad346.add (((rd ((rd_T58 t310 x11_3).f2) x12_5)).toNat * 3)).block, (ad346.add (((rd ((rd_T58 t310 x11_3).f2) x12_5)).toNat * 3)).off + 1, none⟩ = some (.int .i64 ((rd_T58 t319 (rd ((rd_T58 t310 x11_3).f2) x12_5)).f1)) ∧ w'.cell? ⟨(ad346.add (((rd ((rd_T58 t310 x11_3).f2) x12_5)).toNat * 3)).block, (ad346.add (((rd ((rd_T58 t310 x11_3).f2) x12_5)).toNat * 3)).off + 2, none⟩ = some (.slice A346_2 ((rd_T58 t319 (rd ((rd_T58 t310 x11_3).f2) x12_5)).f2).length c346_2) ∧ w'.cell? (ad346.add ((x11_3).toNat * 3)) = some (.int .i64 ((rd_T58 t319 x11_3).f0)) ∧ w'.cell? ⟨(ad346.add ((x11_3).toNat * 3)).block, (ad346.add ((x11_3).toNat * 3)).off + 1, none⟩ = some (.int .i64 ((rd_T58 t319 x11_3).f1)) ∧ w'.cell? ⟨(ad346.add ((x11_3).toNat * 3)).block, (ad346.add ((x11_3).toNat * 3)).off + 2, none⟩ = some (.slice A347_2 ((rd_T58 t319 x11_3).f2).length c347_2) ∧ w'.cell? (ad348.add (x11_3).toNat) = some (.int .i64 (rd t328 x11_3)) ∧ w'.cell? (ad348.add ((rd ((rd_T58 t310 x11_3).f2) x12_5)).toNat) = some (.int .i64 (rd t328 (rd ((rd_T58 t310 x11_3).f2) x12_5))) ∧ w'.cell? (ad348.add (x11_3).toNat) = some (.int .i64 (rd t328 x11_3)) ∧ w'.cell? (ad348.add ((rd ((rd_T58 t310 x11_3).f2) x12_5)).toNat) = some (.int .i64 (rd t328 (rd ((rd_T58 t310 x11_3).f2) x12_5)))) (ds := []) (bs 37 0) (by kernel_rfl) rfl rfl ⟨hx346_0, hx346_1, hx346_2, hx347_0, hx347_1, hx347_2, hx348_0, hx349_0, hx350_0, hx351_0⟩ (fun hHeld => ?_); refine with_tabW laws_FnSettled.tab20 laws_FnSettled.bits20 (fun HT_ HW_ => ?_)
                            generalize wr.drew = w78 at HO_3 HO_5 HO_6 HO_9 HL343_2 HL344_2 HR343_2 HR344_2 HB HL346_2 HL347_2 HR346_2 HR347_2 hx346_0 hx346_1 hx346_2 hx347_0 hx347_1 hx347_2 hx348_0 hx349_0 hx350_0 hx351_0 hHeld ⊢
                            refine pu_ 0 138 HT_ (bs 37 1) rfl rfl ?_
                            refine pu_ 1 139 HT_ (bs 37 3) rfl rfl ?_
                            refine pu_ 2 140 HT_ (bs 37 7) rfl rfl ?_
                            refine pu_ 3 141 HT_ (bs 37 15) rfl rfl ?_
                            refine pu_ 5 143 HT_ (bs 37 47) rfl rfl ?_
                            refine pu_ 6 144 HT_ (bs 37 111) rfl rfl ?_
                            refine pu_ 7 145 HT_ (bs 37 239) rfl rfl ?_
                            refine pu_ 8 146 HT_ (bs 37 495) rfl rfl ?_
                            refine take_ (i := 4) (N := some 142) (v := ?_) (a' := ?_) (bs 37 511) rfl rfl (take_ofW HT_.out HW_.out (by kernel_rfl)) (fun _ _ _ h => h) (Or.inl ⟨by rfl, ?_⟩) hHeld ?_ ?_
                            rotate_left
                            ·rintro w' ⟨s0, s1, s2, s3, s4, s5, s6, s7, s8, s9⟩
                             go_simp
                             with_reducible rfl
                            rotate_left
                            ·simp only [Act.put, sA_, sZ_, sS_, i64_w, i32_w]
                             rfl
                            refine take_ (i := 9) (N := some 147) (v := ?_) (a' := ?_) (bs 37 1023) rfl rfl (take_ofW HT_.out HW_.out (by kernel_rfl)) (fun _ _ _ h => h) (Or.inl ⟨by rfl, ?_⟩) hHeld ?_ ?_
                            rotate_left
                            ·rintro w' ⟨s0, s1, s2, s3, s4, s5, s6, s7, s8, s9⟩
                             go_simp
                             with_reducible rfl
                            rotate_left
                            ·simp only [Act.put, sA_, sZ_, sS_, i64_w, i32_w]
                             rfl
                            refine pu_ 10 148 HT_ (bs 37 2047) rfl rfl ?_
                            refine pu_ 11 149 HT_ (bs 37 4095) rfl rfl ?_
                            refine pu_ 12 150 HT_ (bs 37 8191) rfl rfl ?_
                            refine pu_ 13 151 HT_ (bs 37 16383) rfl rfl ?_
                            refine pu_ 14 152 HT_ (bs 37 32767) rfl rfl ?_
                            refine pu_ 17 155 HT_ (bs 37 163839) rfl rfl ?_
                            refine pu_ 18 156 HT_ (bs 37 425983) rfl rfl ?_
                            refine pu_ 19 157 HT_ (bs 37 950271) rfl rfl ?_
                            refine take_ (i := 15) (N := some 153) (v := ?_) (a' := ?_) (bs 37 983039) rfl rfl (take_ofW HT_.out HW_.out (by kernel_rfl)) (fun _ _ _ h => h) (Or.inl ⟨by rfl, ?_⟩) hHeld ?_ ?_
                            rotate_left
                            ·rintro w' ⟨s0, s1, s2, s3, s4, s5, s6, s7, s8, s9⟩
                             go_simp
                             with_reducible rfl
                            rotate_left
                            ·simp only [Act.put, sA_, sZ_, sS_, i64_w, i32_w]
                             rfl
                            refine pu_ 16 154 HT_ (bs 37 1048575) rfl rfl ?_
                            refine take_ (i := 20) (N := some 158) (v := ?_) (a' := ?_) (bs 37 2097151) rfl rfl (take_ofW HT_.out HW_.out (by kernel_rfl)) (fun _ _ _ h => h) (Or.inl ⟨by rfl, ?_⟩) hHeld ?_ ?_
                            rotate_left
                            ·rintro w' ⟨s0, s1, s2, s3, s4, s5, s6, s7, s8, s9⟩
                             go_simp
                             with_reducible rfl
                            rotate_left
                            ·simp only [Act.put, sA_, sZ_, sS_, i64_w, i32_w]
                             rfl
                            refine pu_ 21 159 HT_ (bs 37 4194303) rfl rfl ?_
                            refine pu_ 22 160 HT_ (bs 37 8388607) rfl rfl ?_
                            refine pu_ 23 161 HT_ (bs 37 16777215) rfl rfl ?_
                            refine pu_ 24 162 HT_ (bs 37 33554431) rfl rfl ?_
                            refine pu_ 25 163 HT_ (bs 37 67108863) rfl rfl ?_
                            refine pu_ 26 164 HT_ (bs 37 134217727) rfl rfl ?_
                            refine pu_ 27 165 HT_ (bs 37 268435455) rfl rfl ?_
                            refine pu_ 29 167 HT_ (bs 37 805306367) rfl rfl ?_
                            refine pu_ 30 168 HT_ (bs 37 1879048191) rfl rfl ?_
                            refine pu_ 31 169 HT_ (bs 37 4026531839) rfl rfl ?_
                            refine take_ (i := 28) (N := some 166) (v := ?_) (a' := ?_) (bs 37 4294967295) rfl rfl (take_ofW HT_.out HW_.out (by kernel_rfl)) (fun _ _ _ h => h) (Or.inl ⟨by rfl, ?_⟩) hHeld ?_ ?_
                            rotate_left
                            ·rintro w' ⟨s0, s1, s2, s3, s4, s5, s6, s7, s8, s9⟩
                             go_simp
                             with_reducible rfl
                            rotate_left
                            ·simp only [Act.put, sA_, sZ_, sS_, i64_w, i32_w]
                             rfl
                            refine take_ (i := 32) (N := some 170) (v := ?_) (a' := ?_) (bs 37 8589934591) rfl rfl (take_ofW HT_.out HW_.out (by kernel_rfl)) (fun _ _ _ h => h) (Or.inl ⟨by rfl, ?_⟩) hHeld ?_ ?_
                            rotate_left
                            ·rintro w' ⟨s0, s1, s2, s3, s4, s5, s6, s7, s8, s9⟩
                             go_simp
                             with_reducible rfl
                            rotate_left
                            ·simp only [Act.put, sA_, sZ_, sS_, i64_w, i32_w]
                             rfl
                            refine pu_ 33 171 HT_ (bs 37 17179869183) rfl rfl ?_
                            refine one_ (i := 34) (N := some 172) (bs 37 34359738367) rfl rfl (one_of HT_.out (by kernel_rfl)) (by decide) (fun K hK => ?_)
                            refine goes_ Try.func33 (by kernel_rfl) rfl #[.int .i64 (wrap64 ((rd t328 x11_3) - (rd t328 (rd ((rd_T58 t310 x11_3).f2) x12_5))))] (by rfl) rfl rfl ml_ ?_
                            with_reducible refine (laws_size.calls (wrap64 ((rd t328 x11_3) - (rd t328 (rd ((rd_T58 t310 x11_3).f2) x12_5)))) t352 _ A76.out).mono ?_
                            rintro e w' ⟨rfl, ⟨nd, rfl⟩⟩
                            refine ⟨_, rfl, ?_⟩
                            refine hK.out _ _ ⟨hHeld.1, hHeld.2.1, hHeld.2.2.1, hHeld.2.2.2.1, hHeld.2.2.2.2.1, hHeld.2.2.2.2.2.1, hHeld.2.2.2.2.2.2.1, hHeld.2.2.2.2.2.2.2.1, hHeld.2.2.2.2.2.2.2.2.1, hHeld.2.2.2.2.2.2.2.2.2⟩ (fun hHeld => ?_)
                            clear hK K
                            refine norm_ (a' := ?_) ?_ ?_
                            rotate_left
                            ·show Act.put _ (some 172) _ = _
                             simp only [Act.put, sA_, sZ_, sS_, i64_w, i32_w]
                             rfl
                            refine pu_ 35 173 HT_ (bs 37 68719476735) rfl rfl ?_
                            refine pu_ 36 174 HT_ (bs 37 137438953471) rfl rfl ?_
                            refine done_ (done_of HT_.out (by kernel_rfl)) ?_
                            try go_wp2
                            go_ret
                            exact ⟨by first | rfl | (simp [errW_none, errW_some] <;> rfl) | (simp [*, errW_none, errW_some] <;> rfl), bel_ HB.out⟩
                           ·as_aux_lemma =>
                            rw [if_neg c77] at H
                            have c77b0 : decide (1 < t352) = false := decide_eq_false c77
                            clear c77
                            have H' := Aside0.mk H
                            clear H
                            have p343 : 0 ≤ (x11_3 : Int) := of_decide_eq_true (by first | (with_reducible assumption) | assumption)
                            have q343 : x11_3 < (t310.length : Int) := of_decide_eq_true (by first | (with_reducible assumption) | assumption)
                            obtain ⟨ad343, A343_2, c343_2, e343, hx343_0, hx343_1, hx343_2, hl343_2, hi343_2⟩ := at_T58 (Kd.N_reads' HO_3.out).2.2 x11_3 p343 q343
                            cases e343
                            obtain ⟨ce343, hce343, hMe343, hcc343⟩ := Kd.N_get HO_3.out z58 x11_3 p343 (by first | exact q343 | exact of_decide_eq_true (by first | (with_reducible assumption) | assumption) | (have e_ := (Kd.N_reads' HO_3.out).1; omega))
                            obtain ⟨ua343_2, uc343_2, rfl, ul343_2, ge343_2⟩ := k58_openF hMe343
                            have hv343_2 := hcc343 2 _ rfl
                            rw [add_field _ _ 2 (by omega)] at hv343_2
                            replace hv343_2 := Option.some.inj (hv343_2.symm.trans hx343_2)
                            injection hv343_2 with hva_ hvn_ hvc_
                            rw [hva_] at ge343_2
                            rw [hvc_] at ul343_2
                            have HL343_2 := Aside0.mk (show Kd.V (Kd.int .i64) 3 _ w.heap.size _ _ ((rd_T58 t310 x11_3).f2) from Kd.V_mk ul343_2 ge343_2)
                            clear hva_ hvn_ hvc_ ge343_2 ul343_2
                            clear hcc343 hce343
                            have HR343_2 := Aside0.mk hi343_2
                            have HC343_2 := Aside0.mk hl343_2
                            clear hi343_2 hl343_2
                            replace p343 := eq_true p343
                            replace q343 := eq_true q343
                            have p344 : 0 ≤ (x11_3 : Int) := of_decide_eq_true (by first | (with_reducible assumption) | assumption)
                            have q344 : x11_3 < (t310.length : Int) := of_decide_eq_true (by first | (with_reducible assumption) | assumption)
                            obtain ⟨ad344, A344_2, c344_2, e344, hx344_0, hx344_1, hx344_2, hl344_2, hi344_2⟩ := at_T58 (Kd.N_reads' HO_3.out).2.2 x11_3 p344 q344
                            obtain rfl : ad343 = ad344 := (by injection e344)
                            obtain ⟨ce344, hce344, hMe344, hcc344⟩ := Kd.N_get HO_3.out z58 x11_3 p344 (by first | exact q344 | exact of_decide_eq_true (by first | (with_reducible assumption) | assumption) | (have e_ := (Kd.N_reads' HO_3.out).1; omega))
                            obtain ⟨ua344_2, uc344_2, rfl, ul344_2, ge344_2⟩ := k58_openF hMe344
                            have hv344_2 := hcc344 2 _ rfl
                            rw [add_field _ _ 2 (by omega)] at hv344_2
                            replace hv344_2 := Option.some.inj (hv344_2.symm.trans hx344_2)
                            injection hv344_2 with hva_ hvn_ hvc_
                            rw [hva_] at ge344_2
                            rw [hvc_] at ul344_2
                            have HL344_2 := Aside0.mk (show Kd.V (Kd.int .i64) 3 _ w.heap.size _ _ ((rd_T58 t310 x11_3).f2) from Kd.V_mk ul344_2 ge344_2)
                            clear hva_ hvn_ hvc_ ge344_2 ul344_2
                            clear hcc344 hce344
                            have HR344_2 := Aside0.mk hi344_2
                            have HC344_2 := Aside0.mk hl344_2
                            clear hi344_2 hl344_2
                            replace p344 := eq_true p344
                            replace q344 := eq_true q344
                            have ea_ := Option.some.inj (hx343_2.symm.trans hx344_2)
                            injection ea_ with ea_ en_ ec_
                            subst ea_
                            subst ec_
                            clear en_
                            have p345 : 0 ≤ (x12_5 : Int) := of_decide_eq_true (by first | (with_reducible assumption) | assumption)
                            have q345 : x12_5 < (((rd_T58 t310 x11_3).f2).length : Int) := of_decide_eq_true (by first | (with_reducible assumption) | assumption)
                            obtain ⟨ad345, e345, hx345_0⟩ := Kd.at_int (by repeat (first | (with_reducible exact HR344_2.out) | (with_reducible refine Kd.C_alloc ?_ _) | (with_reducible refine Kd.C_drewN ?_ _) | (with_reducible refine Kd.C_drew ?_) | exact HR344_2.out)) x12_5 p345 q345
                            cases e345
                            replace p345 := eq_true p345
                            replace q345 := eq_true q345
                            try go_wp2
                            have n0_ := Aside0.mk (Kd.N_drew HO_3.out)
                            have n1_ := Aside0.mk (Kd.R_drew HO_5.out)
                            have n2_ := Aside0.mk (Kd.N_drew HO_6.out)
                            have n3_ := Aside0.mk (Kd.R_drew HO_9.out)
                            have n4_ := Aside0.mk (Kd.V_drew HL343_2.out)
                            have n5_ := Aside0.mk (Kd.V_drew HL344_2.out)
                            have n6_ := Aside0.mk (Kd.C_drew HR343_2.out)
                            have n7_ := Aside0.mk (Kd.C_drew HR344_2.out)
                            have n8_ := Aside0.mk (below_drew1 HB.out)
                            clear HO_3
                            clear HO_5
                            clear HO_6
                            clear HO_9
                            clear HL343_2
                            clear HL344_2
                            clear HR343_2
                            clear HR344_2
                            clear HB
                            have HO_3 := n0_
                            have HO_5 := n1_
                            have HO_6 := n2_
                            have HO_9 := n3_
                            have HL343_2 := n4_
                            have HL344_2 := n5_
                            have HR343_2 := n6_
                            have HR344_2 := n7_
                            have HB := n8_
                            clear n0_ n1_ n2_ n3_ n4_ n5_ n6_ n7_ n8_
                            have p346 : 0 ≤ ((rd ((rd_T58 t310 x11_3).f2) x12_5) : Int) := of_decide_eq_true (by first | (with_reducible assumption) | assumption)
                            have q346 : (rd ((rd_T58 t310 x11_3).f2) x12_5) < (t319.length : Int) := of_decide_eq_true (by first | (with_reducible assumption) | assumption)
                            obtain ⟨ad346, A346_2, c346_2, e346, hx346_0, hx346_1, hx346_2, hl346_2, hi346_2⟩ := at_T58 (Kd.N_reads' HO_6.out).2.2 (rd ((rd_T58 t310 x11_3).f2) x12_5) p346 q346
                            cases e346
                            obtain ⟨ce346, hce346, hMe346, hcc346⟩ := Kd.N_get HO_6.out z58 (rd ((rd_T58 t310 x11_3).f2) x12_5) p346 (by first | exact q346 | exact of_decide_eq_true (by first | (with_reducible assumption) | assumption) | (have e_ := (Kd.N_reads' HO_6.out).1; omega))
                            obtain ⟨ua346_2, uc346_2, rfl, ul346_2, ge346_2⟩ := k58_openF hMe346
                            have hv346_2 := hcc346 2 _ rfl
                            rw [add_field _ _ 2 (by omega)] at hv346_2
                            replace hv346_2 := Option.some.inj (hv346_2.symm.trans hx346_2)
                            injection hv346_2 with hva_ hvn_ hvc_
                            rw [hva_] at ge346_2
                            rw [hvc_] at ul346_2
                            have HL346_2 := Aside0.mk (show Kd.V (Kd.int .i64) 3 _ w.heap.size _ _ ((rd_T58 t319 (rd ((rd_T58 t310 x11_3).f2) x12_5)).f2) from Kd.V_mk ul346_2 ge346_2)
                            clear hva_ hvn_ hvc_ ge346_2 ul346_2
                            clear hcc346 hce346
                            have HR346_2 := Aside0.mk hi346_2
                            have HC346_2 := Aside0.mk hl346_2
                            clear hi346_2 hl346_2
                            replace p346 := eq_true p346
                            replace q346 := eq_true q346
                            have p347 : 0 ≤ (x11_3 : Int) := of_decide_eq_true (by first | (with_reducible assumption) | assumption)
                            have q347 : x11_3 < (t319.length : Int) := of_decide_eq_true (by first | (with_reducible assumption) | assumption)
                            obtain ⟨ad347, A347_2, c347_2, e347, hx347_0, hx347_1, hx347_2, hl347_2, hi347_2⟩ := at_T58 (Kd.N_reads' HO_6.out).2.2 x11_3 p347 q347
                            obtain rfl : ad346 = ad347 := (by injection e347)
                            obtain ⟨ce347, hce347, hMe347, hcc347⟩ := Kd.N_get HO_6.out z58 x11_3 p347 (by first | exact q347 | exact of_decide_eq_true (by first | (with_reducible assumption) | assumption) | (have e_ := (Kd.N_reads' HO_6.out).1; omega))
                            obtain ⟨ua347_2, uc347_2, rfl, ul347_2, ge347_2⟩ := k58_openF hMe347
                            have hv347_2 := hcc347 2 _ rfl
                            rw [add_field _ _ 2 (by omega)] at hv347_2
                            replace hv347_2 := Option.some.inj (hv347_2.symm.trans hx347_2)
                            injection hv347_2 with hva_ hvn_ hvc_
                            rw [hva_] at ge347_2
                            rw [hvc_] at ul347_2
                            have HL347_2 := Aside0.mk (show Kd.V (Kd.int .i64) 3 _ w.heap.size _ _ ((rd_T58 t319 x11_3).f2) from Kd.V_mk ul347_2 ge347_2)
                            clear hva_ hvn_ hvc_ ge347_2 ul347_2
                            clear hcc347 hce347
                            have HR347_2 := Aside0.mk hi347_2
                            have HC347_2 := Aside0.mk hl347_2
                            clear hi347_2 hl347_2
                            replace p347 := eq_true p347
                            replace q347 := eq_true q347
                            obtain ⟨Ao81, co81, eo81⟩ := Kd.R_slice HO_9.out
                            (first | subst eo81 | (injection eo81 with f1_ f2_ f3_; have f4_ := f1_.symm; have f5_ := f3_.symm; clear f1_ f2_ f3_; subst f4_; subst f5_))
                            have p348 : 0 ≤ (x11_3 : Int) := of_decide_eq_true (by first | (with_reducible assumption) | assumption)
                            have q348 : x11_3 < (t328.length : Int) := of_decide_eq_true (by first | (with_reducible assumption) | assumption)
                            obtain ⟨ad348, e348, hx348_0⟩ := Kd.at_int (Kd.R_reads' HO_9.out).2.2 x11_3 p348 q348
                            cases e348
                            replace p348 := eq_true p348
                            replace q348 := eq_true q348
                            have p349 : 0 ≤ ((rd ((rd_T58 t310 x11_3).f2) x12_5) : Int) := of_decide_eq_true (by first | (with_reducible assumption) | assumption)
                            have q349 : (rd ((rd_T58 t310 x11_3).f2) x12_5) < (t328.length : Int) := of_decide_eq_true (by first | (with_reducible assumption) | assumption)
                            obtain ⟨ad349, e349, hx349_0⟩ := Kd.at_int (Kd.R_reads' HO_9.out).2.2 (rd ((rd_T58 t310 x11_3).f2) x12_5) p349 q349
                            obtain rfl : ad348 = ad349 := (by injection e349)
                            replace p349 := eq_true p349
                            replace q349 := eq_true q349
                            have p350 : 0 ≤ (x11_3 : Int) := of_decide_eq_true (by first | (with_reducible assumption) | assumption)
                            have q350 : x11_3 < (t328.length : Int) := of_decide_eq_true (by first | (with_reducible assumption) | assumption)
                            obtain ⟨ad350, e350, hx350_0⟩ := Kd.at_int (Kd.R_reads' HO_9.out).2.2 x11_3 p350 q350
                            obtain rfl : ad348 = ad350 := (by injection e350)
                            replace p350 := eq_true p350
                            replace q350 := eq_true q350
                            have p351 : 0 ≤ ((rd ((rd_T58 t310 x11_3).f2) x12_5) : Int) := of_decide_eq_true (by first | (with_reducible assumption) | assumption)
                            have q351 : (rd ((rd_T58 t310 x11_3).f2) x12_5) < (t328.length : Int) := of_decide_eq_true (by first | (with_reducible assumption) | assumption)
                            obtain ⟨ad351, e351, hx351_0⟩ := Kd.at_int (Kd.R_reads' HO_9.out).2.2 (rd ((rd_T58 t310 x11_3).f2) x12_5) p351 q351
                            obtain rfl : ad348 = ad351 := (by injection e351)
                            replace p351 := eq_true p351
                            replace q351 := eq_true q351
                            refine start_ (n := 37) (S := fun w' => w'.cell? (ad346.add (((rd ((rd_T58 t310 x11_3).f2) x12_5)).toNat * 3)) = some (.int .i64 ((rd_T58 t319 (rd ((rd_T58 t310 x11_3).f2) x12_5)).f0)) ∧ w'.cell? ⟨(ad346.add (((rd ((rd_T58 t310 x11_3).f2) x12_5)).toNat * 3)).block, (ad346.add (((rd ((rd_T58 t310 x11_3).f2) x12_5)).toNat * 3)).off + 1, none⟩ = some (.int .i64 ((rd_T58 t319 (rd ((rd_T58 t310 x11_3).f2) x12_5)).f1)) ∧ w'.cell? ⟨(ad346.add (((rd ((rd_T58 t310 x11_3).f2) x12_5)).toNat * 3)).block, (ad346.add (((rd ((rd_T58 t310 x11_3).f2) x12_5)).toNat * 3)).off + 2, none⟩ = some (.slice A346_2 ((rd_T58 t319 (rd ((rd_T58 t310 x11_3).f2) x12_5)).f2).length c346_2) ∧ w'.cell? (ad346.add ((x11_3).toNat * 3)) = some (.int .i64 ((rd_T58 t319 x11_3).f0)) ∧ w'.cell? ⟨(ad346.add ((x11_3).toNat * 3)).block, (ad346.add ((x11_3).toNat * 3)).off + 1, none⟩ = some (.int .i64 ((rd_T58 t319 x11_3).f1)) ∧ w'.cell? ⟨(ad346.add ((x11_3).toNat * 3)).block, (ad346.add ((x11_3).toNat * 3)).off + 2, none⟩ = some (.slice A347_2 ((rd_T58 t319 x11_3).f2).length c347_2) ∧ w'.cell? (ad348.add (x11_3).toNat) = some (.int .i64 (rd t328 x11_3)) ∧ w'.cell? (ad348.add ((rd ((rd_T58 t310 x11_3).f2) x12_5)).toNat) = some (.int .i64 (rd t328 (rd ((rd_T58 t310 x11_3).f2) x12_5))) ∧ w'.cell? (ad348.add (x11_3).toNat) = some (.int .i64 (rd t328 x11_3)) ∧ w'.cell? (ad348.add ((rd ((rd_T58 t310 x11_3).f2) x12_5)).toNat) = some (.int .i64 (rd t328 (rd ((rd_T58 t310 x11_3).f2) x12_5)))) (ds := []) (bs 37 0) (by kernel_rfl) rfl rfl ⟨hx346_0, hx346_1, hx346_2, hx347_0, hx347_1, hx347_2, hx348_0, hx349_0, hx350_0, hx351_0⟩ (fun hHeld => ?_); refine with_tabW laws_FnSettled.tab20 laws_FnSettled.bits20 (fun HT_ HW_ => ?_)
                            generalize wr.drew = w80 at HO_3 HO_5 HO_6 HO_9 HL343_2 HL344_2 HR343_2 HR344_2 HB HL346_2 HL347_2 HR346_2 HR347_2 hx346_0 hx346_1 hx346_2 hx347_0 hx347_1 hx347_2 hx348_0 hx349_0 hx350_0 hx351_0 hHeld ⊢
                            refine pu_ 0 138 HT_ (bs 37 1) rfl rfl ?_
                            refine pu_ 1 139 HT_ (bs 37 3) rfl rfl ?_
                            refine pu_ 2 140 HT_ (bs 37 7) rfl rfl ?_
                            refine pu_ 3 141 HT_ (bs 37 15) rfl rfl ?_
                            refine pu_ 5 143 HT_ (bs 37 47) rfl rfl ?_
                            refine pu_ 6 144 HT_ (bs 37 111) rfl rfl ?_
                            refine pu_ 7 145 HT_ (bs 37 239) rfl rfl ?_
                            refine pu_ 8 146 HT_ (bs 37 495) rfl rfl ?_
                            refine take_ (i := 4) (N := some 142) (v := ?_) (a' := ?_) (bs 37 511) rfl rfl (take_ofW HT_.out HW_.out (by kernel_rfl)) (fun _ _ _ h => h) (Or.inl ⟨by rfl, ?_⟩) hHeld ?_ ?_
                            rotate_left
                            ·rintro w' ⟨s0, s1, s2, s3, s4, s5, s6, s7, s8, s9⟩
                             go_simp
                             with_reducible rfl
                            rotate_left
                            ·simp only [Act.put, sA_, sZ_, sS_, i64_w, i32_w]
                             rfl
                            refine take_ (i := 9) (N := some 147) (v := ?_) (a' := ?_) (bs 37 1023) rfl rfl (take_ofW HT_.out HW_.out (by kernel_rfl)) (fun _ _ _ h => h) (Or.inl ⟨by rfl, ?_⟩) hHeld ?_ ?_
                            rotate_left
                            ·rintro w' ⟨s0, s1, s2, s3, s4, s5, s6, s7, s8, s9⟩
                             go_simp
                             with_reducible rfl
                            rotate_left
                            ·simp only [Act.put, sA_, sZ_, sS_, i64_w, i32_w]
                             rfl
                            refine pu_ 10 148 HT_ (bs 37 2047) rfl rfl ?_
                            refine pu_ 11 149 HT_ (bs 37 4095) rfl rfl ?_
                            refine pu_ 12 150 HT_ (bs 37 8191) rfl rfl ?_
                            refine pu_ 13 151 HT_ (bs 37 16383) rfl rfl ?_
                            refine pu_ 14 152 HT_ (bs 37 32767) rfl rfl ?_
                            refine pu_ 17 155 HT_ (bs 37 163839) rfl rfl ?_
                            refine pu_ 18 156 HT_ (bs 37 425983) rfl rfl ?_
                            refine pu_ 19 157 HT_ (bs 37 950271) rfl rfl ?_
                            refine take_ (i := 15) (N := some 153) (v := ?_) (a' := ?_) (bs 37 983039) rfl rfl (take_ofW HT_.out HW_.out (by kernel_rfl)) (fun _ _ _ h => h) (Or.inl ⟨by rfl, ?_⟩) hHeld ?_ ?_
                            rotate_left
                            ·rintro w' ⟨s0, s1, s2, s3, s4, s5, s6, s7, s8, s9⟩
                             go_simp
                             with_reducible rfl
                            rotate_left
                            ·simp only [Act.put, sA_, sZ_, sS_, i64_w, i32_w]
                             rfl
                            refine pu_ 16 154 HT_ (bs 37 1048575) rfl rfl ?_
                            refine take_ (i := 20) (N := some 158) (v := ?_) (a' := ?_) (bs 37 2097151) rfl rfl (take_ofW HT_.out HW_.out (by kernel_rfl)) (fun _ _ _ h => h) (Or.inl ⟨by rfl, ?_⟩) hHeld ?_ ?_
                            rotate_left
                            ·rintro w' ⟨s0, s1, s2, s3, s4, s5, s6, s7, s8, s9⟩
                             go_simp
                             with_reducible rfl
                            rotate_left
                            ·simp only [Act.put, sA_, sZ_, sS_, i64_w, i32_w]
                             rfl
                            refine pu_ 21 159 HT_ (bs 37 4194303) rfl rfl ?_
                            refine pu_ 22 160 HT_ (bs 37 8388607) rfl rfl ?_
                            refine pu_ 23 161 HT_ (bs 37 16777215) rfl rfl ?_
                            refine pu_ 24 162 HT_ (bs 37 33554431) rfl rfl ?_
                            refine pu_ 25 163 HT_ (bs 37 67108863) rfl rfl ?_
                            refine pu_ 26 164 HT_ (bs 37 134217727) rfl rfl ?_
                            refine pu_ 27 165 HT_ (bs 37 268435455) rfl rfl ?_
                            refine pu_ 29 167 HT_ (bs 37 805306367) rfl rfl ?_
                            refine pu_ 30 168 HT_ (bs 37 1879048191) rfl rfl ?_
                            refine pu_ 31 169 HT_ (bs 37 4026531839) rfl rfl ?_
                            refine take_ (i := 28) (N := some 166) (v := ?_) (a' := ?_) (bs 37 4294967295) rfl rfl (take_ofW HT_.out HW_.out (by kernel_rfl)) (fun _ _ _ h => h) (Or.inl ⟨by rfl, ?_⟩) hHeld ?_ ?_
                            rotate_left
                            ·rintro w' ⟨s0, s1, s2, s3, s4, s5, s6, s7, s8, s9⟩
                             go_simp
                             with_reducible rfl
                            rotate_left
                            ·simp only [Act.put, sA_, sZ_, sS_, i64_w, i32_w]
                             rfl
                            refine take_ (i := 32) (N := some 170) (v := ?_) (a' := ?_) (bs 37 8589934591) rfl rfl (take_ofW HT_.out HW_.out (by kernel_rfl)) (fun _ _ _ h => h) (Or.inl ⟨by rfl, ?_⟩) hHeld ?_ ?_
                            rotate_left
                            ·rintro w' ⟨s0, s1, s2, s3, s4, s5, s6, s7, s8, s9⟩
                             go_simp
                             with_reducible rfl
                            rotate_left
                            ·simp only [Act.put, sA_, sZ_, sS_, i64_w, i32_w]
                             rfl
                            refine pu_ 33 171 HT_ (bs 37 17179869183) rfl rfl ?_
                            refine one_ (i := 34) (N := some 172) (bs 37 34359738367) rfl rfl (one_of HT_.out (by kernel_rfl)) (by decide) (fun K hK => ?_)
                            refine goes_ Try.func33 (by kernel_rfl) rfl #[.int .i64 (wrap64 ((rd t328 x11_3) - (rd t328 (rd ((rd_T58 t310 x11_3).f2) x12_5))))] (by rfl) rfl rfl ml_ ?_
                            with_reducible refine (laws_size.calls (wrap64 ((rd t328 x11_3) - (rd t328 (rd ((rd_T58 t310 x11_3).f2) x12_5)))) t352 _ A76.out).mono ?_
                            rintro e w' ⟨rfl, ⟨nd, rfl⟩⟩
                            refine ⟨_, rfl, ?_⟩
                            refine hK.out _ _ ⟨hHeld.1, hHeld.2.1, hHeld.2.2.1, hHeld.2.2.2.1, hHeld.2.2.2.2.1, hHeld.2.2.2.2.2.1, hHeld.2.2.2.2.2.2.1, hHeld.2.2.2.2.2.2.2.1, hHeld.2.2.2.2.2.2.2.2.1, hHeld.2.2.2.2.2.2.2.2.2⟩ (fun hHeld => ?_)
                            clear hK K
                            refine norm_ (a' := ?_) ?_ ?_
                            rotate_left
                            ·show Act.put _ (some 172) _ = _
                             simp only [Act.put, sA_, sZ_, sS_, i64_w, i32_w]
                             rfl
                            refine pu_ 35 173 HT_ (bs 37 68719476735) rfl rfl ?_
                            refine pu_ 36 174 HT_ (bs 37 137438953471) rfl rfl ?_
                            refine done_ (done_of HT_.out (by kernel_rfl)) ?_
                            try go_wp2
                            go_roundg k5
                            case measure => have := HJ6.out; have := HJ36.out; have := HK3.out; have := HJ45.out; have := HK5.out; omega
                            case rel => exact ⟨(wrap64 (x12_5 + 1)), (by first | rfl | (simp; done) | (simp [*]; done) | (simp [wrap64]; done)), H', ⟨by have := HJ6.out; have := HJ36.out; have := HK3.out; have := HJ45.out; have := HK5.out; omega⟩, ⟨by (with_reducible repeat (first | apply Kd.N_alloc | apply Kd.N_drewN | apply Kd.N_drew)); exact HO_3.out⟩, ⟨by (with_reducible repeat (first | apply Kd.R_alloc | apply Kd.R_drewN | apply Kd.R_drew)); exact HO_5.out⟩, ⟨by (with_reducible repeat (first | apply Kd.N_alloc | apply Kd.N_drewN | apply Kd.N_drew)); exact HO_6.out⟩, ⟨by (with_reducible repeat (first | apply Kd.R_alloc | apply Kd.R_drewN | apply Kd.R_drew)); exact HO_9.out⟩, ⟨bel_ HB.out⟩⟩
                         ·rw [if_neg c72] at H
                          exact absurd H (by simp)
                        ·rw [if_neg c71] at H
                         exact absurd H (by simp)
                      ·rw [if_neg c68] at H
                       exact absurd H (by simp)
                     ·rw [if_neg c67] at H
                      exact absurd H (by simp)
                    ·rw [if_neg c66] at H
                     exact absurd H (by simp)
                   ·rw [if_neg c65] at H
                    exact absurd H (by simp)
                  ·as_aux_lemma =>
                   rw [if_neg c64] at H
                   have c64b0 : decide (x12_5 < (((rd_T58 t310 x11_3).f2).length : Int)) = false := decide_eq_false c64
                   clear c64
                   have H' := Aside0.mk H
                   clear H
                   have p343 : 0 ≤ (x11_3 : Int) := of_decide_eq_true (by first | (with_reducible assumption) | assumption)
                   have q343 : x11_3 < (t310.length : Int) := of_decide_eq_true (by first | (with_reducible assumption) | assumption)
                   obtain ⟨ad343, A343_2, c343_2, e343, hx343_0, hx343_1, hx343_2, hl343_2, hi343_2⟩ := at_T58 (Kd.N_reads' HO_3.out).2.2 x11_3 p343 q343
                   cases e343
                   obtain ⟨ce343, hce343, hMe343, hcc343⟩ := Kd.N_get HO_3.out z58 x11_3 p343 (by first | exact q343 | exact of_decide_eq_true (by first | (with_reducible assumption) | assumption) | (have e_ := (Kd.N_reads' HO_3.out).1; omega))
                   obtain ⟨ua343_2, uc343_2, rfl, ul343_2, ge343_2⟩ := k58_openF hMe343
                   have hv343_2 := hcc343 2 _ rfl
                   rw [add_field _ _ 2 (by omega)] at hv343_2
                   replace hv343_2 := Option.some.inj (hv343_2.symm.trans hx343_2)
                   injection hv343_2 with hva_ hvn_ hvc_
                   rw [hva_] at ge343_2
                   rw [hvc_] at ul343_2
                   have HL343_2 := Aside0.mk (show Kd.V (Kd.int .i64) 3 _ w.heap.size _ _ ((rd_T58 t310 x11_3).f2) from Kd.V_mk ul343_2 ge343_2)
                   clear hva_ hvn_ hvc_ ge343_2 ul343_2
                   clear hcc343 hce343
                   have HR343_2 := Aside0.mk hi343_2
                   have HC343_2 := Aside0.mk hl343_2
                   clear hi343_2 hl343_2
                   replace p343 := eq_true p343
                   replace q343 := eq_true q343
                   go_wp2
                   go_roundg k5
                   case measure => have := HJ6.out; have := HJ36.out; have := HK3.out; have := HJ45.out; have := HK5.out; omega
                   case rel => exact ⟨(wrap64 (x11_3 + 1)), (by first | rfl | (simp; done) | (simp [*]; done) | (simp [wrap64]; done)), H', ⟨by have := HJ6.out; have := HJ36.out; have := HK3.out; have := HJ45.out; have := HK5.out; omega⟩, ⟨by (with_reducible repeat (first | apply Kd.N_alloc | apply Kd.N_drewN | apply Kd.N_drew)); exact HO_3.out⟩, ⟨by (with_reducible repeat (first | apply Kd.R_alloc | apply Kd.R_drewN | apply Kd.R_drew)); exact HO_5.out⟩, ⟨by (with_reducible repeat (first | apply Kd.N_alloc | apply Kd.N_drewN | apply Kd.N_drew)); exact HO_6.out⟩, ⟨by (with_reducible repeat (first | apply Kd.R_alloc | apply Kd.R_drewN | apply Kd.R_drew)); exact HO_9.out⟩, ⟨bel_ HB.out⟩⟩
                 ·rw [if_neg c63] at H
                  exact absurd H (by simp)
                ·rw [if_neg c62] at H
                 exact absurd H (by simp)
          ·as_aux_lemma =>
           rw [if_neg c45] at H
           have c45b0 : decide (x11_3 < (t319.length : Int)) = false := decide_eq_false c45
           clear c45
           replace H := Option.bind_eq_some_iff.mp H
           obtain ⟨t333, A820, H⟩ := H
           replace H : ((impl_Choose.f k3 t310 0 t333).bind fun bt334 => (if bt334.2 = true then (if bt334.1 ≥ 0 then (some (decide (bt334.1 < 20))) else (some false)) else (some false))) = some r := H
           have A82 := Aside0.mk A820
           clear A820
           replace H := Option.bind_eq_some_iff.mp H
           obtain ⟨⟨t334, t335⟩, A830, H⟩ := H
           replace H : (if t335 = true then (if t334 ≥ 0 then (some (decide (t334 < 20))) else (some false)) else (some false)) = some r := H
           have A83 := Aside0.mk A830
           clear A830
           by_cases c84 : t335 = true
           ·subst c84
            have H1 : (if t334 ≥ 0 then (some (decide (t334 < 20))) else (some false)) = some r := by rw [if_pos rfl] at H; exact H
            clear H
            have H := H1
            clear H1
            by_cases c85 : t334 ≥ 0
            ·rw [if_pos c85] at H
             have c85b0 : decide (0 ≤ t334) = true := decide_eq_true c85
             clear c85
             obtain rfl := Option.some.inj H
             obtain ⟨Ao86, co86, eo86⟩ := Kd.N_slice HO_6.out
             subst eo86
             go_wp2_with (first | ((with_reducible refine gate_callee (f := 10) rfl ?_); refine goesL_ (some 178) rfl rfl Try.func10 (by kernel_rfl) rfl #[.slice A0 l0.length c0, .int .i64 4] rfl ml_ ?_; (with_reducible refine (laws_at.calls _ _ l0 4 t333 _ ?side1 ?side2 A82.out).mono ?_); (case side1 => repeat (first | exact (Kd.C_below HR0.out HB.out) | (with_reducible refine Kd.C_alloc ?_ _) | (with_reducible refine Kd.C_drewN ?_ _) | (with_reducible refine Kd.C_drew ?_))); (case side2 => exact HC0.out); rintro e w' ⟨rfl, ⟨nd, rfl⟩⟩; refine ⟨_, rfl, ?_⟩) | ((with_reducible refine gate_callee (f := 34) rfl ?_); refine goesL_ (some 179) rfl rfl Try.func34 (by kernel_rfl) rfl #[.slice Ao9 t310.length co9, .int .i64 0, .int .i64 t333] rfl ml_ ?_; (with_reducible refine (impl_Choose.calls k3 _ _ t310 0 t333 t334 true _ ?side1 ?side2 A83.out).mono ?_); (case side1 => repeat (first | exact (Kd.N_reads' HO_3.out).2.2 | (with_reducible refine Kd.C_alloc ?_ _) | (with_reducible refine Kd.C_drewN ?_ _) | (with_reducible refine Kd.C_drew ?_))); (case side2 => exact (Kd.N_reads' HO_3.out).2.1); rintro e w87 ⟨rfl, hb⟩; refine ⟨_, rfl, ?_⟩; have n0_ := Aside0.mk (Kd.N_below (by (with_reducible repeat (first | apply Kd.N_alloc | apply Kd.N_drewN | apply Kd.N_drew)); exact HO_3.out) hb); have n1_ := Aside0.mk (Kd.R_below (fr_ HO_5.out) hb); have n2_ := Aside0.mk (Kd.N_below (by (with_reducible repeat (first | apply Kd.N_alloc | apply Kd.N_drewN | apply Kd.N_drew)); exact HO_6.out) hb); have n3_ := Aside0.mk (Kd.R_below (fr_ HO_9.out) hb); have n4_ := Aside0.mk (below_step (bel_ HB.out) hb); clear HO_3; clear HO_5; clear HO_6; clear HO_9; clear HB; have HO_3 := n0_; have HO_5 := n1_; have HO_6 := n2_; have HO_9 := n3_; have HB := n4_; clear n0_ n1_ n2_ n3_ n4_; (try clear hb); (try clear hb2); (try clear hk); (try clear hi)))
             go_ret
             exact ⟨by first | rfl | (simp [errW_none, errW_some] <;> rfl) | (simp [*, errW_none, errW_some] <;> rfl), bel_ HB.out⟩
            ·rw [if_neg c85] at H
             have c85b0 : decide (0 ≤ t334) = false := decide_eq_false c85
             clear c85
             obtain rfl := Option.some.inj H
             obtain ⟨Ao88, co88, eo88⟩ := Kd.N_slice HO_6.out
             subst eo88
             go_wp2_with (first | ((with_reducible refine gate_callee (f := 10) rfl ?_); refine goesL_ (some 178) rfl rfl Try.func10 (by kernel_rfl) rfl #[.slice A0 l0.length c0, .int .i64 4] rfl ml_ ?_; (with_reducible refine (laws_at.calls _ _ l0 4 t333 _ ?side1 ?side2 A82.out).mono ?_); (case side1 => repeat (first | exact (Kd.C_below HR0.out HB.out) | (with_reducible refine Kd.C_alloc ?_ _) | (with_reducible refine Kd.C_drewN ?_ _) | (with_reducible refine Kd.C_drew ?_))); (case side2 => exact HC0.out); rintro e w' ⟨rfl, ⟨nd, rfl⟩⟩; refine ⟨_, rfl, ?_⟩) | ((with_reducible refine gate_callee (f := 34) rfl ?_); refine goesL_ (some 179) rfl rfl Try.func34 (by kernel_rfl) rfl #[.slice Ao9 t310.length co9, .int .i64 0, .int .i64 t333] rfl ml_ ?_; (with_reducible refine (impl_Choose.calls k3 _ _ t310 0 t333 t334 true _ ?side1 ?side2 A83.out).mono ?_); (case side1 => repeat (first | exact (Kd.N_reads' HO_3.out).2.2 | (with_reducible refine Kd.C_alloc ?_ _) | (with_reducible refine Kd.C_drewN ?_ _) | (with_reducible refine Kd.C_drew ?_))); (case side2 => exact (Kd.N_reads' HO_3.out).2.1); rintro e w89 ⟨rfl, hb⟩; refine ⟨_, rfl, ?_⟩; have n0_ := Aside0.mk (Kd.N_below (by (with_reducible repeat (first | apply Kd.N_alloc | apply Kd.N_drewN | apply Kd.N_drew)); exact HO_3.out) hb); have n1_ := Aside0.mk (Kd.R_below (fr_ HO_5.out) hb); have n2_ := Aside0.mk (Kd.N_below (by (with_reducible repeat (first | apply Kd.N_alloc | apply Kd.N_drewN | apply Kd.N_drew)); exact HO_6.out) hb); have n3_ := Aside0.mk (Kd.R_below (fr_ HO_9.out) hb); have n4_ := Aside0.mk (below_step (bel_ HB.out) hb); clear HO_3; clear HO_5; clear HO_6; clear HO_9; clear HB; have HO_3 := n0_; have HO_5 := n1_; have HO_6 := n2_; have HO_9 := n3_; have HB := n4_; clear n0_ n1_ n2_ n3_ n4_; (try clear hb); (try clear hb2); (try clear hk); (try clear hi)))
             go_ret
             exact ⟨by first | rfl | (simp [errW_none, errW_some] <;> rfl) | (simp [*, errW_none, errW_some] <;> rfl), bel_ HB.out⟩
           ·replace c84 := Bool.eq_false_iff.mpr c84
            subst c84
            have H1 : (some false) = some r := by rw [if_neg (show ¬ (false = true) by decide)] at H; exact H
            clear H
            have H := H1
            clear H1
            obtain rfl := Option.some.inj H
            obtain ⟨Ao90, co90, eo90⟩ := Kd.N_slice HO_6.out
            subst eo90
            go_wp2_with (first | ((with_reducible refine gate_callee (f := 10) rfl ?_); refine goesL_ (some 178) rfl rfl Try.func10 (by kernel_rfl) rfl #[.slice A0 l0.length c0, .int .i64 4] rfl ml_ ?_; (with_reducible refine (laws_at.calls _ _ l0 4 t333 _ ?side1 ?side2 A82.out).mono ?_); (case side1 => repeat (first | exact (Kd.C_below HR0.out HB.out) | (with_reducible refine Kd.C_alloc ?_ _) | (with_reducible refine Kd.C_drewN ?_ _) | (with_reducible refine Kd.C_drew ?_))); (case side2 => exact HC0.out); rintro e w' ⟨rfl, ⟨nd, rfl⟩⟩; refine ⟨_, rfl, ?_⟩) | ((with_reducible refine gate_callee (f := 34) rfl ?_); refine goesL_ (some 179) rfl rfl Try.func34 (by kernel_rfl) rfl #[.slice Ao9 t310.length co9, .int .i64 0, .int .i64 t333] rfl ml_ ?_; (with_reducible refine (impl_Choose.calls k3 _ _ t310 0 t333 t334 false _ ?side1 ?side2 A83.out).mono ?_); (case side1 => repeat (first | exact (Kd.N_reads' HO_3.out).2.2 | (with_reducible refine Kd.C_alloc ?_ _) | (with_reducible refine Kd.C_drewN ?_ _) | (with_reducible refine Kd.C_drew ?_))); (case side2 => exact (Kd.N_reads' HO_3.out).2.1); rintro e w91 ⟨rfl, hb⟩; refine ⟨_, rfl, ?_⟩; have n0_ := Aside0.mk (Kd.N_below (by (with_reducible repeat (first | apply Kd.N_alloc | apply Kd.N_drewN | apply Kd.N_drew)); exact HO_3.out) hb); have n1_ := Aside0.mk (Kd.R_below (fr_ HO_5.out) hb); have n2_ := Aside0.mk (Kd.N_below (by (with_reducible repeat (first | apply Kd.N_alloc | apply Kd.N_drewN | apply Kd.N_drew)); exact HO_6.out) hb); have n3_ := Aside0.mk (Kd.R_below (fr_ HO_9.out) hb); have n4_ := Aside0.mk (below_step (bel_ HB.out) hb); clear HO_3; clear HO_5; clear HO_6; clear HO_9; clear HB; have HO_3 := n0_; have HO_5 := n1_; have HO_6 := n2_; have HO_9 := n3_; have HB := n4_; clear n0_ n1_ n2_ n3_ n4_; (try clear hb); (try clear hb2); (try clear hk); (try clear hi)))
            go_ret
            exact ⟨by first | rfl | (simp [errW_none, errW_some] <;> rfl) | (simp [*, errW_none, errW_some] <;> rfl), bel_ HB.out⟩

/-- THE ONE PURE STATEMENT of laws_FnSettled: yours. -/
def laws_FnSettled.Pure : Prop := ∀ (l0 : List Int), l0.length ≤ maxLen → l0.length * 1 ≤ 140737488351232 → (∀ x ∈ l0, (Lit.int .u8 x).wf = true) → ∃ k, laws_FnSettled.f k l0 = some true
theorem laws_FnSettled.walk (P : laws_FnSettled.Pure) (a0 : Option Addr) (len0 cap0 : Nat) (z0 : List Int) (w : World) (w0 : (a0 = none ∧ len0 = 0 ∧ cap0 = 0 ∧ z0 = []) ∨ ∃ x, a0 = some x ∧ len0 ≤ cap0 ∧ cap0 ≤ maxLen ∧ z0.length = cap0 ∧ (∀ i, i < z0.length → w.cell? (x.add i) = some (.int .u8 (z0.getD i 0))) ∧ ∀ n ∈ z0, (Lit.int .u8 n).wf = true) (y0 : len0 * 1 ≤ 140737488351232) :
  Calls Try.prog 7 #[.slice a0 len0 cap0] w fun e w' => e = .returned (.bool true) ∧ Below w.heap.size w w' := by
 obtain ⟨l0, rfl, hr0, hm0, hw0, hc0⟩ := ReadsInt.ofRowC w0
 obtain ⟨k, h⟩ := P l0 hm0 y0 hw0
 refine (laws_FnSettled.calls k _ _ l0 true w (Kd.C_of_reads (d := (0 : Int)) (h1 := fun _ => rfl) hr0) hc0 h).mono ?_
 rintro e w' ⟨rfl, hd⟩
 exact ⟨rfl, hd⟩

end Go.Proofs.Ytbhdnhpkpbhilaa.PFnSettled
