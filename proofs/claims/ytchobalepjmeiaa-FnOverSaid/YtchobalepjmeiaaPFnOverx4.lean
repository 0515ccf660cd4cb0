/- The Lean side of Go functions of this seat: what each answers, and that its run comes to that answer; written by a program of this work. -/
import Derived.Test.YtchobalepjmeiaaPFnOverx0
import Derived.Test.YtchobalepjmeiaaPFnOverx1
import Derived.Test.YtchobalepjmeiaaPFnOverx2
import Derived.Test.YtchobalepjmeiaaPFnOverx3
namespace Go.Proofs.Ytchobalepjmeiaa.PFnOver
open Go.RowKit Go.Proofs.YtchobalepjmeiaaW.PrintWords Go.Proofs.YtchobalepjmeiaaW.PrintLast Go.Proofs.YtchobalepjmeiaaW.PrintMore
attribute [local go_sem] run_store_float un_neg_float_ max2_int min2_int max_two min_two max_three min_three max_four min_four   -- for this text's walks alone
set_option linter.unusedVariables false
set_option linter.unusedSimpArgs false

/-! ### laws_FnOver: function 4 -/
mutual
def laws_FnOver.j0 : Nat → List Int → Bool → Nat → Nat → Option (Bool)
 | 0, _, _, _, _ => none
 | k + 1, x0, x55, x143000, x143001 => if x55 = true then (some false) else ((impl_Barred.f x143000 x143001).bind fun bt156 => ((impl_Barred.f bt156.1 bt156.2).bind fun bt158 => ((impl_Barred.f x143000 x143001).bind fun bt161 => ((impl_Times.f x143000 x143001 bt161.1 bt161.2).bind fun bt163 => ((impl_Over.f k x143000 x143001 (0 : Nat) (0 : Nat)).bind fun bt166 => (laws_FnOver.j1 k x0 bt166.2.2 x143000 x143001 bt158.1 bt158.2 bt163.1 bt163.2))))))
def laws_FnOver.j1 : Nat → List Int → Bool → Nat → Nat → Nat → Nat → Nat → Nat → Option (Bool)
 | 0, _, _, _, _, _, _, _, _ => none
 | k + 1, x0, x11, x143000, x143001, x161000, x161001, x166000, x166001 => (laws_at.f x0 3).bind fun t170 => ((impl_Reply.f k (0 : Nat) (floatOfInt .f64 t170)).bind fun bt171 => ((impl_Alike.f x161000 x161001 x143000 x143001).bind fun t175 => (if t175 = true then (if (FloatKind.f64.format.order x166001 (0 : Nat) == some .eq) = true then (if (floatBits .mul .f64 x143000 x143000).isSome = true then (if (floatBits .mul .f64 x143001 x143001).isSome = true then (if (floatBits .add .f64 ((floatBits .mul .f64 x143000 x143000).getD 0) ((floatBits .mul .f64 x143001 x143001).getD 0)).isSome = true then (if (FloatKind.f64.format.order x166000 ((floatBits .add .f64 ((floatBits .mul .f64 x143000 x143000).getD 0) ((floatBits .mul .f64 x143001 x143001).getD 0)).getD 0) == some .eq) = true then (if x11 = true then (some false) else (if bt171.2.2 = true then (some (FloatKind.f64.format.order bt171.1 (4607182418800017408 : Nat) == some .eq)) else (some false))) else (some false)) else (none)) else (none)) else (none)) else (some false)) else (some false))))
end
def laws_FnOver.f (k : Nat) (l0 : List Int) : Option (Bool) := (laws_big.f l0).bind fun t139 => (if t139 = true then (some true) else ((laws_at.f l0 0).bind fun t140 => ((laws_at.f l0 1).bind fun t141 => ((some (([(⟨(4607182418800017408 : Nat), (0 : Nat)⟩ : S28), (⟨(4611686018427387904 : Nat), (0 : Nat)⟩ : S28), (⟨(0 : Nat), (4607182418800017408 : Nat)⟩ : S28), (⟨(13839561654909534208 : Nat), (0 : Nat)⟩ : S28), (⟨(0 : Nat), (13835058055282163712 : Nat)⟩ : S28), (⟨(4607182418800017408 : Nat), (4607182418800017408 : Nat)⟩ : S28)] : List (S28)) : List (S28))).bind fun y143 => ((laws_at.f l0 2).bind fun t146 => (if (y143.length : Int) = 0 then (none) else (if 0 ≤ (Int.tmod t146 (y143.length : Int)) then (if (Int.tmod t146 (y143.length : Int)) < (y143.length : Int) then ((impl_Times.f (floatOfInt .f64 (wrap64 (t140 - 128))) (floatOfInt .f64 (wrap64 (t141 - 128))) ((rd_T28 y143 (Int.tmod t146 (y143.length : Int))).f0) ((rd_T28 y143 (Int.tmod t146 (y143.length : Int))).f1)).bind fun bt149 => ((impl_Over.f k bt149.1 bt149.2 ((rd_T28 y143 (Int.tmod t146 (y143.length : Int))).f0) ((rd_T28 y143 (Int.tmod t146 (y143.length : Int))).f1)).bind fun bt151 => (if bt151.2.2 = true then ((impl_Alike.f bt151.1 bt151.2.1 (floatOfInt .f64 (wrap64 (t140 - 128))) (floatOfInt .f64 (wrap64 (t141 - 128)))).bind fun t155 => (laws_FnOver.j0 k l0 (!t155) (floatOfInt .f64 (wrap64 (t140 - 128))) (floatOfInt .f64 (wrap64 (t141 - 128))))) else (laws_FnOver.j0 k l0 true (floatOfInt .f64 (wrap64 (t140 - 128))) (floatOfInt .f64 (wrap64 (t141 - 128))))))) else (none)) else (none))))))))
theorem laws_FnOver.mono_l : ∀ k, (∀ y0 y1 y2 y3, LeO (laws_FnOver.j0 k y0 y1 y2 y3) (laws_FnOver.j0 (k + 1) y0 y1 y2 y3)) ∧ (∀ y0 y1 y2 y3 y4 y5 y6 y7, LeO (laws_FnOver.j1 k y0 y1 y2 y3 y4 y5 y6 y7) (laws_FnOver.j1 (k + 1) y0 y1 y2 y3 y4 y5 y6 y7))
 | 0 => ⟨fun _ _ _ _ r h => by simp [laws_FnOver.j0] at h, fun _ _ _ _ _ _ _ _ r h => by simp [laws_FnOver.j1] at h⟩
 | k + 1 => by
  obtain ⟨ih0, ih1⟩ := laws_FnOver.mono_l k
  refine ⟨?_, ?_⟩
  ·intro y0 y1 y2 y3
   unfold laws_FnOver.j0
   repeat' first
   | (with_reducible exact ih0 _ _ _ _)
   | (with_reducible exact ih1 _ _ _ _ _ _ _ _)
   | (with_reducible exact impl_Over.mono _ _ _ _ _)
   | (with_reducible exact impl_Reply.mono _ _ _)
   | (with_reducible exact LeO.refl _)
   | (with_reducible exact LeO.none _)
   | (with_reducible refine LeO.ite ?_ ?_)
   | (with_reducible refine LeO.bind ?_ (fun _ => ?_))
   | exact ih0 _ _ _ _
   | exact ih1 _ _ _ _ _ _ _ _
   | exact impl_Over.mono _ _ _ _ _
   | exact impl_Reply.mono _ _ _
   | exact LeO.none _
   | refine LeO.ite ?_ ?_
   | refine LeO.bind ?_ (fun _ => ?_)
  ·intro y0 y1 y2 y3 y4 y5 y6 y7
   unfold laws_FnOver.j1
   repeat' first
   | (with_reducible exact ih0 _ _ _ _)
   | (with_reducible exact ih1 _ _ _ _ _ _ _ _)
   | (with_reducible exact impl_Over.mono _ _ _ _ _)
   | (with_reducible exact impl_Reply.mono _ _ _)
   | (with_reducible exact LeO.refl _)
   | (with_reducible exact LeO.none _)
   | (with_reducible refine LeO.ite ?_ ?_)
   | (with_reducible refine LeO.bind ?_ (fun _ => ?_))
   | exact ih0 _ _ _ _
   | exact ih1 _ _ _ _ _ _ _ _
   | exact impl_Over.mono _ _ _ _ _
   | exact impl_Reply.mono _ _ _
   | exact LeO.none _
   | refine LeO.ite ?_ ?_
   | refine LeO.bind ?_ (fun _ => ?_)
theorem laws_FnOver.mono : ∀ a0 k, LeO (laws_FnOver.f k a0) (laws_FnOver.f (k + 1) a0) := by
 intro a0 k
 obtain ⟨ih0, ih1⟩ := laws_FnOver.mono_l k
 unfold laws_FnOver.f
 repeat' first
   | (with_reducible exact ih0 _ _ _ _)
   | (with_reducible exact ih1 _ _ _ _ _ _ _ _)
   | (with_reducible exact impl_Over.mono _ _ _ _ _)
   | (with_reducible exact impl_Reply.mono _ _ _)
   | (with_reducible exact LeO.refl _)
   | (with_reducible exact LeO.none _)
   | (with_reducible refine LeO.ite ?_ ?_)
   | (with_reducible refine LeO.bind ?_ (fun _ => ?_))
   | exact ih0 _ _ _ _
   | exact ih1 _ _ _ _ _ _ _ _
   | exact impl_Over.mono _ _ _ _ _
   | exact impl_Reply.mono _ _ _
   | exact LeO.none _
   | refine LeO.ite ?_ ?_
   | refine LeO.bind ?_ (fun _ => ?_)
def laws_FnOver.T6 : Bool × List (List Nat × List Nat) := (true, [([], []), ([], []), ([0, 1], [0, 1]), ([], []), ([2, 3, 2], [2, 3]), ([4], [4]), ([5], [5]), ([5], [5]), ([], []), ([8, 6, 4, 0, 1, 2, 3, 4, 5, 6, 8], [6, 8]), ([7, 9, 0, 1, 2, 3, 4, 5, 6, 7, 8, 9], [7])])
def laws_FnOver.B6 : List Nat := [0, 0, 3, 0, 15, 31, 63, 63, 0, 383, 1023]
theorem laws_FnOver.tab6 : rtab .any (opsOf Try.f4 6) = laws_FnOver.T6 := by kernel_rfl
theorem laws_FnOver.bits6 : waitsOk laws_FnOver.T6.2 laws_FnOver.B6 = true := by kernel_rfl
set_option maxHeartbeats 8000000 in
set_option maxRecDepth 100000 in
theorem laws_FnOver.calls (k : Nat) (A0 : Option Addr) (c0 : Nat) (l0 : List Int) (r : Bool) (w : World) (hr0 : Kd.C (Kd.int .u8) w A0 l0.length l0) (hc0 : l0.length ≤ c0) (h : laws_FnOver.f k l0 = some r) :
  Calls Try.prog 4 #[.slice A0 l0.length c0] w fun e w' => e = .returned (.bool r) ∧ Below w.heap.size w w' := by
 have hu28 := Try.underlying28
 have HR0 := Aside0.mk hr0
 have HC0 := Aside0.mk hc0
 clear hr0 hc0
 have HB := Aside0.mk (Below.refl w.heap.size w)
 have H : ((laws_big.f l0).bind fun t139 => (if t139 = true then (some true) else ((laws_at.f l0 0).bind fun t140 => ((laws_at.f l0 1).bind fun t141 => ((some (([(⟨(4607182418800017408 : Nat), (0 : Nat)⟩ : S28), (⟨(4611686018427387904 : Nat), (0 : Nat)⟩ : S28), (⟨(0 : Nat), (4607182418800017408 : Nat)⟩ : S28), (⟨(13839561654909534208 : Nat), (0 : Nat)⟩ : S28), (⟨(0 : Nat), (13835058055282163712 : Nat)⟩ : S28), (⟨(4607182418800017408 : Nat), (4607182418800017408 : Nat)⟩ : S28)] : List (S28)) : List (S28))).bind fun y143 => ((laws_at.f l0 2).bind fun t146 => (if (y143.length : Int) = 0 then (none) else (if 0 ≤ (Int.tmod t146 (y143.length : Int)) then (if (Int.tmod t146 (y143.length : Int)) < (y143.length : Int) then ((impl_Times.f (floatOfInt .f64 (wrap64 (t140 - 128))) (floatOfInt .f64 (wrap64 (t141 - 128))) ((rd_T28 y143 (Int.tmod t146 (y143.length : Int))).f0) ((rd_T28 y143 (Int.tmod t146 (y143.length : Int))).f1)).bind fun bt149 => ((impl_Over.f k bt149.1 bt149.2 ((rd_T28 y143 (Int.tmod t146 (y143.length : Int))).f0) ((rd_T28 y143 (Int.tmod t146 (y143.length : Int))).f1)).bind fun bt151 => (if bt151.2.2 = true then ((impl_Alike.f bt151.1 bt151.2.1 (floatOfInt .f64 (wrap64 (t140 - 128))) (floatOfInt .f64 (wrap64 (t141 - 128)))).bind fun t155 => (laws_FnOver.j0 k l0 (!t155) (floatOfInt .f64 (wrap64 (t140 - 128))) (floatOfInt .f64 (wrap64 (t141 - 128))))) else (laws_FnOver.j0 k l0 true (floatOfInt .f64 (wrap64 (t140 - 128))) (floatOfInt .f64 (wrap64 (t141 - 128))))))) else (none)) else (none))))))))) = some r := h
 clear h
 replace H := Option.bind_eq_some_iff.mp H
 obtain ⟨t139, A20, H⟩ := H
 replace H : (if t139 = true then (some true) else ((laws_at.f l0 0).bind fun t140 => ((laws_at.f l0 1).bind fun t141 => ((some (([(⟨(4607182418800017408 : Nat), (0 : Nat)⟩ : S28), (⟨(4611686018427387904 : Nat), (0 : Nat)⟩ : S28), (⟨(0 : Nat), (4607182418800017408 : Nat)⟩ : S28), (⟨(13839561654909534208 : Nat), (0 : Nat)⟩ : S28), (⟨(0 : Nat), (13835058055282163712 : Nat)⟩ : S28), (⟨(4607182418800017408 : Nat), (4607182418800017408 : Nat)⟩ : S28)] : List (S28)) : List (S28))).bind fun y143 => ((laws_at.f l0 2).bind fun t146 => (if (y143.length : Int) = 0 then (none) else (if 0 ≤ (Int.tmod t146 (y143.length : Int)) then (if (Int.tmod t146 (y143.length : Int)) < (y143.length : Int) then ((impl_Times.f (floatOfInt .f64 (wrap64 (t140 - 128))) (floatOfInt .f64 (wrap64 (t141 - 128))) ((rd_T28 y143 (Int.tmod t146 (y143.length : Int))).f0) ((rd_T28 y143 (Int.tmod t146 (y143.length : Int))).f1)).bind fun bt149 => ((impl_Over.f k bt149.1 bt149.2 ((rd_T28 y143 (Int.tmod t146 (y143.length : Int))).f0) ((rd_T28 y143 (Int.tmod t146 (y143.length : Int))).f1)).bind fun bt151 => (if bt151.2.2 = true then ((impl_Alike.f bt151.1 bt151.2.1 (floatOfInt .f64 (wrap64 (t140 - 128))) (floatOfInt .f64 (wrap64 (t141 - 128)))).bind fun t155 => (laws_FnOver.j0 k l0 (!t155) (floatOfInt .f64 (wrap64 (t140 - 128))) (floatOfInt .f64 (wrap64 (t141 - 128))))) else (laws_FnOver.j0 k l0 true (floatOfInt .f64 (wrap64 (t140 - 128))) (floatOfInt .f64 (wrap64 (t141 - 128))))))) else (none)) else (none)))))))) = some r := H
 have A2 := Aside0.mk A20
 clear A20
 by_cases c3 : t139 = true
 ·subst c3
  have H1 : (some true) = some r := by rw [if_pos rfl] at H; exact H
  clear H
  have H := H1
  clear H1
  obtain rfl := Option.some.inj H
  go_enter Try.func4, Try.ntmps4
  go_wp2_with (first | ((with_reducible refine gate_callee (f := 7) rfl ?_); refine goesL_ (some 15) rfl rfl Try.func7 (by kernel_rfl) rfl #[.slice A0 l0.length c0] rfl (by (try simp only [List.map_toArray, List.map_cons, List.map_nil]); first | done | rfl | (simp only [List.length_drop, List.length_take]; rfl)) ?_; (with_reducible refine (laws_big.calls _ _ l0 true _ ?side1 ?side2 A2.out).mono ?_); (case side1 => repeat (first | exact HR0.out | (with_reducible refine Kd.C_alloc ?_ _) | (with_reducible refine Kd.C_drewN ?_ _) | (with_reducible refine Kd.C_drew ?_))); (case side2 => exact HC0.out); rintro e w' ⟨rfl, ⟨nd, rfl⟩⟩; refine ⟨_, rfl, ?_⟩))
  go_ret
  exact ⟨by first | rfl | (simp [errW_none, errW_some] <;> rfl) | (simp [*, errW_none, errW_some] <;> rfl), bel_ HB.out⟩
 ·replace c3 := Bool.eq_false_iff.mpr c3
  subst c3
  have H1 : ((laws_at.f l0 0).bind fun t140 => ((laws_at.f l0 1).bind fun t141 => ((some (([(⟨(4607182418800017408 : Nat), (0 : Nat)⟩ : S28), (⟨(4611686018427387904 : Nat), (0 : Nat)⟩ : S28), (⟨(0 : Nat), (4607182418800017408 : Nat)⟩ : S28), (⟨(13839561654909534208 : Nat), (0 : Nat)⟩ : S28), (⟨(0 : Nat), (13835058055282163712 : Nat)⟩ : S28), (⟨(4607182418800017408 : Nat), (4607182418800017408 : Nat)⟩ : S28)] : List (S28)) : List (S28))).bind fun y143 => ((laws_at.f l0 2).bind fun t146 => (if (y143.length : Int) = 0 then (none) else (if 0 ≤ (Int.tmod t146 (y143.length : Int)) then (if (Int.tmod t146 (y143.length : Int)) < (y143.length : Int) then ((impl_Times.f (floatOfInt .f64 (wrap64 (t140 - 128))) (floatOfInt .f64 (wrap64 (t141 - 128))) ((rd_T28 y143 (Int.tmod t146 (y143.length : Int))).f0) ((rd_T28 y143 (Int.tmod t146 (y143.length : Int))).f1)).bind fun bt149 => ((impl_Over.f k bt149.1 bt149.2 ((rd_T28 y143 (Int.tmod t146 (y143.length : Int))).f0) ((rd_T28 y143 (Int.tmod t146 (y143.length : Int))).f1)).bind fun bt151 => (if bt151.2.2 = true then ((impl_Alike.f bt151.1 bt151.2.1 (floatOfInt .f64 (wrap64 (t140 - 128))) (floatOfInt .f64 (wrap64 (t141 - 128)))).bind fun t155 => (laws_FnOver.j0 k l0 (!t155) (floatOfInt .f64 (wrap64 (t140 - 128))) (floatOfInt .f64 (wrap64 (t141 - 128))))) else (laws_FnOver.j0 k l0 true (floatOfInt .f64 (wrap64 (t140 - 128))) (floatOfInt .f64 (wrap64 (t141 - 128))))))) else (none)) else (none))))))) = some r := by rw [if_neg (show ¬ (false = true) by decide)] at H; exact H
  clear H
  have H := H1
  clear H1
  replace H := Option.bind_eq_some_iff.mp H
  obtain ⟨t140, A40, H⟩ := H
  replace H : ((laws_at.f l0 1).bind fun t141 => ((some (([(⟨(4607182418800017408 : Nat), (0 : Nat)⟩ : S28), (⟨(4611686018427387904 : Nat), (0 : Nat)⟩ : S28), (⟨(0 : Nat), (4607182418800017408 : Nat)⟩ : S28), (⟨(13839561654909534208 : Nat), (0 : Nat)⟩ : S28), (⟨(0 : Nat), (13835058055282163712 : Nat)⟩ : S28), (⟨(4607182418800017408 : Nat), (4607182418800017408 : Nat)⟩ : S28)] : List (S28)) : List (S28))).bind fun y143 => ((laws_at.f l0 2).bind fun t146 => (if (y143.length : Int) = 0 then (none) else (if 0 ≤ (Int.tmod t146 (y143.length : Int)) then (if (Int.tmod t146 (y143.length : Int)) < (y143.length : Int) then ((impl_Times.f (floatOfInt .f64 (wrap64 (t140 - 128))) (floatOfInt .f64 (wrap64 (t141 - 128))) ((rd_T28 y143 (Int.tmod t146 (y143.length : Int))).f0) ((rd_T28 y143 (Int.tmod t146 (y143.length : Int))).f1)).bind fun bt149 => ((impl_Over.f k bt149.1 bt149.2 ((rd_T28 y143 (Int.tmod t146 (y143.length : Int))).f0) ((rd_T28 y143 (Int.tmod t146 (y143.length : Int))).f1)).bind fun bt151 => (if bt151.2.2 = true then ((impl_Alike.f bt151.1 bt151.2.1 (floatOfInt .f64 (wrap64 (t140 - 128))) (floatOfInt .f64 (wrap64 (t141 - 128)))).bind fun t155 => (laws_FnOver.j0 k l0 (!t155) (floatOfInt .f64 (wrap64 (t140 - 128))) (floatOfInt .f64 (wrap64 (t141 - 128))))) else (laws_FnOver.j0 k l0 true (floatOfInt .f64 (wrap64 (t140 - 128))) (floatOfInt .f64 (wrap64 (t141 - 128))))))) else (none)) else (none)))))) = some r := H
  have A4 := Aside0.mk A40
  clear A40
  replace H := Option.bind_eq_some_iff.mp H
  obtain ⟨t141, A50, H⟩ := H
  replace H : ((some (([(⟨(4607182418800017408 : Nat), (0 : Nat)⟩ : S28), (⟨(4611686018427387904 : Nat), (0 : Nat)⟩ : S28), (⟨(0 : Nat), (4607182418800017408 : Nat)⟩ : S28), (⟨(13839561654909534208 : Nat), (0 : Nat)⟩ : S28), (⟨(0 : Nat), (13835058055282163712 : Nat)⟩ : S28), (⟨(4607182418800017408 : Nat), (4607182418800017408 : Nat)⟩ : S28)] : List (S28)) : List (S28))).bind fun y143 => ((laws_at.f l0 2).bind fun t146 => (if (y143.length : Int) = 0 then (none) else (if 0 ≤ (Int.tmod t146 (y143.length : Int)) then (if (Int.tmod t146 (y143.length : Int)) < (y143.length : Int) then ((impl_Times.f (floatOfInt .f64 (wrap64 (t140 - 128))) (floatOfInt .f64 (wrap64 (t141 - 128))) ((rd_T28 y143 (Int.tmod t146 (y143.length : Int))).f0) ((rd_T28 y143 (Int.tmod t146 (y143.length : Int))).f1)).bind fun bt149 => ((impl_Over.f k bt149.1 bt149.2 ((rd_T28 y143 (Int.tmod t146 (y143.length : Int))).f0) ((rd_T28 y143 (Int.tmod t146 (y143.length : Int))).f1)).bind fun bt151 => (if bt151.2.2 = true then ((impl_Alike.f bt151.1 bt151.2.1 (floatOfInt .f64 (wrap64 (t140 - 128))) (floatOfInt .f64 (wrap64 (t141 - 128)))).bind fun t155 => (laws_FnOver.j0 k l0 (!t155) (floatOfInt .f64 (wrap64 (t140 - 128))) (floatOfInt .f64 (wrap64 (t141 - 128))))) else (laws_FnOver.j0 k l0 true (floatOfInt .f64 (wrap64 (t140 - 128))) (floatOfInt .f64 (wrap64 (t141 - 128))))))) else (none)) else (none))))) = some r := H
  have A5 := Aside0.mk A50
  clear A50
  obtain ⟨y143, hy143⟩ : ∃ y_ : List (S28), y_ = (([(⟨(4607182418800017408 : Nat), (0 : Nat)⟩ : S28), (⟨(4611686018427387904 : Nat), (0 : Nat)⟩ : S28), (⟨(0 : Nat), (4607182418800017408 : Nat)⟩ : S28), (⟨(13839561654909534208 : Nat), (0 : Nat)⟩ : S28), (⟨(0 : Nat), (13835058055282163712 : Nat)⟩ : S28), (⟨(4607182418800017408 : Nat), (4607182418800017408 : Nat)⟩ : S28)] : List (S28))) := ⟨_, rfl⟩
  replace H : ((laws_at.f l0 2).bind fun t146 => (if (y143.length : Int) = 0 then (none) else (if 0 ≤ (Int.tmod t146 (y143.length : Int)) then (if (Int.tmod t146 (y143.length : Int)) < (y143.length : Int) then ((impl_Times.f (floatOfInt .f64 (wrap64 (t140 - 128))) (floatOfInt .f64 (wrap64 (t141 - 128))) ((rd_T28 y143 (Int.tmod t146 (y143.length : Int))).f0) ((rd_T28 y143 (Int.tmod t146 (y143.length : Int))).f1)).bind fun bt149 => ((impl_Over.f k bt149.1 bt149.2 ((rd_T28 y143 (Int.tmod t146 (y143.length : Int))).f0) ((rd_T28 y143 (Int.tmod t146 (y143.length : Int))).f1)).bind fun bt151 => (if bt151.2.2 = true then ((impl_Alike.f bt151.1 bt151.2.1 (floatOfInt .f64 (wrap64 (t140 - 128))) (floatOfInt .f64 (wrap64 (t141 - 128)))).bind fun t155 => (laws_FnOver.j0 k l0 (!t155) (floatOfInt .f64 (wrap64 (t140 - 128))) (floatOfInt .f64 (wrap64 (t141 - 128))))) else (laws_FnOver.j0 k l0 true (floatOfInt .f64 (wrap64 (t140 - 128))) (floatOfInt .f64 (wrap64 (t141 - 128))))))) else (none)) else (none)))) = some r := by first | (rw [hy143]; with_reducible exact H) | (have H2_ := (Option.bind_some _ _).symm.trans H; rw [hy143]; with_reducible exact H2_) | (have H2_ := (Option.bind_some _ _).symm.trans H; with_reducible exact H2_) | with_reducible exact H | (rw [hy143]; exact H) | exact H
  have Ny143 := Aside0.mk hy143
  clear hy143
  replace H := Option.bind_eq_some_iff.mp H
  obtain ⟨t146, A60, H⟩ := H
  replace H : (if (y143.length : Int) = 0 then (none) else (if 0 ≤ (Int.tmod t146 (y143.length : Int)) then (if (Int.tmod t146 (y143.length : Int)) < (y143.length : Int) then ((impl_Times.f (floatOfInt .f64 (wrap64 (t140 - 128))) (floatOfInt .f64 (wrap64 (t141 - 128))) ((rd_T28 y143 (Int.tmod t146 (y143.length : Int))).f0) ((rd_T28 y143 (Int.tmod t146 (y143.length : Int))).f1)).bind fun bt149 => ((impl_Over.f k bt149.1 bt149.2 ((rd_T28 y143 (Int.tmod t146 (y143.length : Int))).f0) ((rd_T28 y143 (Int.tmod t146 (y143.length : Int))).f1)).bind fun bt151 => (if bt151.2.2 = true then ((impl_Alike.f bt151.1 bt151.2.1 (floatOfInt .f64 (wrap64 (t140 - 128))) (floatOfInt .f64 (wrap64 (t141 - 128)))).bind fun t155 => (laws_FnOver.j0 k l0 (!t155) (floatOfInt .f64 (wrap64 (t140 - 128))) (floatOfInt .f64 (wrap64 (t141 - 128))))) else (laws_FnOver.j0 k l0 true (floatOfInt .f64 (wrap64 (t140 - 128))) (floatOfInt .f64 (wrap64 (t141 - 128))))))) else (none)) else (none))) = some r := H
  have A6 := Aside0.mk A60
  clear A60
  by_cases c7 : (y143.length : Int) = 0
  ·rw [if_pos c7] at H
   exact absurd H (by simp)
  ·rw [if_neg c7] at H
   have c7b0 : ((y143.length : Int) == 0) = false := beq_eq_false_iff_ne.mpr c7
   have c7b1 : ((y143.length : Int) != 0) = true := bne_iff_ne.mpr c7
   have c7b2 : ¬ (y143 = []) := fun h_ => c7 (by rw [h_]; rfl)
   obtain ⟨ji8, hji8⟩ : ∃ j_ : Int, (Int.tmod t146 (y143.length : Int)) = j_ := ⟨_, rfl⟩
   replace H : (if 0 ≤ (ji8) then (if (ji8) < (y143.length : Int) then ((impl_Times.f (floatOfInt .f64 (wrap64 (t140 - 128))) (floatOfInt .f64 (wrap64 (t141 - 128))) ((rd_T28 y143 (ji8)).f0) ((rd_T28 y143 (ji8)).f1)).bind fun bt149 => ((impl_Over.f k bt149.1 bt149.2 ((rd_T28 y143 (ji8)).f0) ((rd_T28 y143 (ji8)).f1)).bind fun bt151 => (if bt151.2.2 = true then ((impl_Alike.f bt151.1 bt151.2.1 (floatOfInt .f64 (wrap64 (t140 - 128))) (floatOfInt .f64 (wrap64 (t141 - 128)))).bind fun t155 => (laws_FnOver.j0 k l0 (!t155) (floatOfInt .f64 (wrap64 (t140 - 128))) (floatOfInt .f64 (wrap64 (t141 - 128))))) else (laws_FnOver.j0 k l0 true (floatOfInt .f64 (wrap64 (t140 - 128))) (floatOfInt .f64 (wrap64 (t141 - 128))))))) else (none)) else (none)) = some r := by first | (rw [hji8] at H; exact H) | (simp only [hji8] at H ⊢; exact H)
   (try rw [hji8] at A2)
   (try rw [hji8] at A4)
   (try rw [hji8] at A5)
   (try rw [hji8] at A6)
   by_cases c9 : 0 ≤ (ji8)
   ·rw [if_pos c9] at H
    have c9b0 : decide (0 ≤ (ji8)) = true := decide_eq_true c9
    clear c9
    by_cases c10 : (ji8) < (y143.length : Int)
    ·rw [if_pos c10] at H
     have c10b0 : decide ((ji8) < (y143.length : Int)) = true := decide_eq_true c10
     clear c10
     replace H := Option.bind_eq_some_iff.mp H
     obtain ⟨⟨t149, t150⟩, A110, H⟩ := H
     replace H : ((impl_Over.f k t149 t150 ((rd_T28 y143 (ji8)).f0) ((rd_T28 y143 (ji8)).f1)).bind fun bt151 => (if bt151.2.2 = true then ((impl_Alike.f bt151.1 bt151.2.1 (floatOfInt .f64 (wrap64 (t140 - 128))) (floatOfInt .f64 (wrap64 (t141 - 128)))).bind fun t155 => (laws_FnOver.j0 k l0 (!t155) (floatOfInt .f64 (wrap64 (t140 - 128))) (floatOfInt .f64 (wrap64 (t141 - 128))))) else (laws_FnOver.j0 k l0 true (floatOfInt .f64 (wrap64 (t140 - 128))) (floatOfInt .f64 (wrap64 (t141 - 128)))))) = some r := H
     have A11 := Aside0.mk A110
     clear A110
     replace H := Option.bind_eq_some_iff.mp H
     obtain ⟨⟨t151, t152, t153⟩, A120, H⟩ := H
     replace H : (if t153 = true then ((impl_Alike.f t151 t152 (floatOfInt .f64 (wrap64 (t140 - 128))) (floatOfInt .f64 (wrap64 (t141 - 128)))).bind fun t155 => (laws_FnOver.j0 k l0 (!t155) (floatOfInt .f64 (wrap64 (t140 - 128))) (floatOfInt .f64 (wrap64 (t141 - 128))))) else (laws_FnOver.j0 k l0 true (floatOfInt .f64 (wrap64 (t140 - 128))) (floatOfInt .f64 (wrap64 (t141 - 128))))) = some r := H
     have A12 := Aside0.mk A120
     clear A120
     have HC13 := Aside0.mk H
     clear H
     go_enter Try.func4, Try.ntmps4
     try go_wp2_with (first | ((with_reducible refine gate_callee (f := 7) rfl ?_); refine goesL_ (some 15) rfl rfl Try.func7 (by kernel_rfl) rfl #[.slice A0 l0.length c0] rfl (by (try simp only [List.map_toArray, List.map_cons, List.map_nil]); first | done | rfl | (simp only [List.length_drop, List.length_take]; rfl)) ?_; (with_reducible refine (laws_big.calls _ _ l0 false _ ?side1 ?side2 A2.out).mono ?_); (case side1 => repeat (first | exact HR0.out | (with_reducible refine Kd.C_alloc ?_ _) | (with_reducible refine Kd.C_drewN ?_ _) | (with_reducible refine Kd.C_drew ?_))); (case side2 => exact HC0.out); rintro e w' ⟨rfl, ⟨nd, rfl⟩⟩; refine ⟨_, rfl, ?_⟩) | ((with_reducible refine gate_callee (f := 8) rfl ?_); refine goesL_ (some 17) rfl rfl Try.func8 (by kernel_rfl) rfl #[.slice A0 l0.length c0, .int .i64 0] rfl (by (try simp only [List.map_toArray, List.map_cons, List.map_nil]); first | done | rfl | (simp only [List.length_drop, List.length_take]; rfl)) ?_; (with_reducible refine (laws_at.calls _ _ l0 0 t140 _ ?side1 ?side2 A4.out).mono ?_); (case side1 => repeat (first | exact HR0.out | (with_reducible refine Kd.C_alloc ?_ _) | (with_reducible refine Kd.C_drewN ?_ _) | (with_reducible refine Kd.C_drew ?_))); (case side2 => exact HC0.out); rintro e w' ⟨rfl, ⟨nd, rfl⟩⟩; refine ⟨_, rfl, ?_⟩; have hu14_ := Try.underlying3; have hv14_ := Try.underlying26) | ((with_reducible refine gate_callee (f := 8) rfl ?_); refine goesL_ (some 21) rfl rfl Try.func8 (by kernel_rfl) rfl #[.slice A0 l0.length c0, .int .i64 1] rfl (by (try simp only [List.map_toArray, List.map_cons, List.map_nil]); first | done | rfl | (simp only [List.length_drop, List.length_take]; rfl)) ?_; (with_reducible refine (laws_at.calls _ _ l0 1 t141 _ ?side1 ?side2 A5.out).mono ?_); (case side1 => repeat (first | exact HR0.out | (with_reducible refine Kd.C_alloc ?_ _) | (with_reducible refine Kd.C_drewN ?_ _) | (with_reducible refine Kd.C_drew ?_))); (case side2 => exact HC0.out); rintro e w' ⟨rfl, ⟨nd, rfl⟩⟩; refine ⟨_, rfl, ?_⟩; have hu15_ := Try.underlying3; have hv15_ := Try.underlying26) | ((with_reducible refine gate_dst (N := 3) rfl ?_); refine box_event ?hg (N := 3) ?hd (cs := #[.float .f64 (0 : Nat), .float .f64 (0 : Nat)]) (t := 28) ?hr ?_; (case hd => rfl); (case hg => rfl); (case hr => first | (go_simp; done) | (go_simp; rfl)); intro gb142 hg w16 hbox hb; have n0_ := Aside0.mk (below_step (bel_ HB.out) hb); have n1_ := Aside0.mk (hbox); have n2_ := Aside0.mk ((by rw [hg]; exact (below_size (bel_ HB.out)) : w.heap.size ≤ gb142)); have n3_ := Aside0.mk ((by rw [hg]; exact (below_size (bel_ HB.out)) : w.heap.size ≤ gb142)); clear HB; have HB := n0_; have BK142 := n1_; have GW142 := n2_; have GE142 := n3_; clear n0_ n1_ n2_ n3_; clear hb hbox hg; have hcz17_0 : w16.cell? ⟨gb142, 0, none⟩ = some (.float .f64 (0 : Nat)) := (blk_cell BK142.out 0).trans rfl; have hcz17_1 : w16.cell? ⟨gb142, 1, none⟩ = some (.float .f64 (0 : Nat)) := (blk_cell BK142.out 1).trans rfl; have hfz17_0 := blk_frozen BK142.out 0; have hfz17_1 := blk_frozen BK142.out 1) | ((with_reducible refine gate_dst (N := 31) rfl ?_); refine Kd.R_lit k28 _ 28 ?hg (N := 31) ?hd (xs := ([(⟨(4607182418800017408 : Nat), (0 : Nat)⟩ : S28), (⟨(4611686018427387904 : Nat), (0 : Nat)⟩ : S28), (⟨(0 : Nat), (4607182418800017408 : Nat)⟩ : S28), (⟨(13839561654909534208 : Nat), (0 : Nat)⟩ : S28), (⟨(0 : Nat), (13835058055282163712 : Nat)⟩ : S28), (⟨(4607182418800017408 : Nat), (4607182418800017408 : Nat)⟩ : S28)] : List (S28))) (inner := [.float .f64 (4607182418800017408 : Nat), .float .f64 (0 : Nat), .float .f64 (4611686018427387904 : Nat), .float .f64 (0 : Nat), .float .f64 (0 : Nat), .float .f64 (4607182418800017408 : Nat), .float .f64 (13839561654909534208 : Nat), .float .f64 (0 : Nat), .float .f64 (0 : Nat), .float .f64 (13835058055282163712 : Nat), .float .f64 (4607182418800017408 : Nat), .float .f64 (4607182418800017408 : Nat)]) (ok := fun _ => True) (okp := fun _ => True) ?hr ?hp (fun _ hk => hk) trivial (Below.refl _ _) (Nat.le_refl _) (by simp) ?_; (case hd => rfl); (case hg => rfl); (case hr => first | (go_simp; done) | (go_simp; rfl)); (case hp => exact (Reps.c2 (show Kd.M k28 _ _ _ (⟨(4607182418800017408 : Nat), (0 : Nat)⟩ : S28) [.float .f64 (4607182418800017408 : Nat), .float .f64 (0 : Nat)] from (k28_mkM _ _ _ (⟨(4607182418800017408 : Nat), (0 : Nat)⟩ : S28) )) (Reps.c2 (show Kd.M k28 _ _ _ (⟨(4611686018427387904 : Nat), (0 : Nat)⟩ : S28) [.float .f64 (4611686018427387904 : Nat), .float .f64 (0 : Nat)] from (k28_mkM _ _ _ (⟨(4611686018427387904 : Nat), (0 : Nat)⟩ : S28) )) (Reps.c2 (show Kd.M k28 _ _ _ (⟨(0 : Nat), (4607182418800017408 : Nat)⟩ : S28) [.float .f64 (0 : Nat), .float .f64 (4607182418800017408 : Nat)] from (k28_mkM _ _ _ (⟨(0 : Nat), (4607182418800017408 : Nat)⟩ : S28) )) (Reps.c2 (show Kd.M k28 _ _ _ (⟨(13839561654909534208 : Nat), (0 : Nat)⟩ : S28) [.float .f64 (13839561654909534208 : Nat), .float .f64 (0 : Nat)] from (k28_mkM _ _ _ (⟨(13839561654909534208 : Nat), (0 : Nat)⟩ : S28) )) (Reps.c2 (show Kd.M k28 _ _ _ (⟨(0 : Nat), (13835058055282163712 : Nat)⟩ : S28) [.float .f64 (0 : Nat), .float .f64 (13835058055282163712 : Nat)] from (k28_mkM _ _ _ (⟨(0 : Nat), (13835058055282163712 : Nat)⟩ : S28) )) (Reps.c2 (show Kd.M k28 _ _ _ (⟨(4607182418800017408 : Nat), (4607182418800017408 : Nat)⟩ : S28) [.float .f64 (4607182418800017408 : Nat), .float .f64 (4607182418800017408 : Nat)] from (k28_mkM _ _ _ (⟨(4607182418800017408 : Nat), (4607182418800017408 : Nat)⟩ : S28) )) (Reps.none _ _)))))))); intro v144 w18 ho19 hb hg_ hnew_; clear hg_ hnew_; (first | rw [← Ny143.out] at ho19 | (simp only [Int.reduceToNat] at ho19; rw [← Ny143.out] at ho19)); have n0_ := Aside0.mk (Kd.R_lower (Kd.R_newB ho19 (g := gb142) (o := .cells #[.float .f64 (floatOfInt .f64 (wrap64 (t140 - 128))), .float .f64 (floatOfInt .f64 (wrap64 (t141 - 128)))] 28 (0, 0)) (by (with_reducible repeat (first | refine blk_drewN ?_ _ | refine blk_drew ?_ | refine blk_alloc ?_ _)); refine blk_put (cs := #[.float .f64 (floatOfInt .f64 (wrap64 (t140 - 128))), .float .f64 (0 : Nat)]) ?_ 1 _ rfl; (with_reducible repeat (first | refine blk_drewN ?_ _ | refine blk_drew ?_ | refine blk_alloc ?_ _)); refine blk_put (cs := #[.float .f64 (0 : Nat), .float .f64 (0 : Nat)]) ?_ 0 _ rfl; (with_reducible repeat (first | refine blk_drewN ?_ _ | refine blk_drew ?_ | refine blk_alloc ?_ _)); exact BK142.out)) (below_size (bel_ HB.out))); have n1_ := Aside0.mk (blk_below (g := gb142) (o := .cells #[.float .f64 (floatOfInt .f64 (wrap64 (t140 - 128))), .float .f64 (floatOfInt .f64 (wrap64 (t141 - 128)))] 28 (0, 0)) (by (with_reducible repeat (first | refine blk_drewN ?_ _ | refine blk_drew ?_ | refine blk_alloc ?_ _)); refine blk_put (cs := #[.float .f64 (floatOfInt .f64 (wrap64 (t140 - 128))), .float .f64 (0 : Nat)]) ?_ 1 _ rfl; (with_reducible repeat (first | refine blk_drewN ?_ _ | refine blk_drew ?_ | refine blk_alloc ?_ _)); refine blk_put (cs := #[.float .f64 (0 : Nat), .float .f64 (0 : Nat)]) ?_ 0 _ rfl; (with_reducible repeat (first | refine blk_drewN ?_ _ | refine blk_drew ?_ | refine blk_alloc ?_ _)); exact BK142.out) hb); have n2_ := Aside0.mk (below_step (bel_ HB.out) hb); clear BK142; clear HB; have HO145 := n0_; have BK142 := n1_; have HB := n2_; clear n0_ n1_ n2_; clear hb ho19) | ((with_reducible refine gate_callee (f := 8) rfl ?_); refine goesL_ (some 34) rfl rfl Try.func8 (by kernel_rfl) rfl #[.slice A0 l0.length c0, .int .i64 2] rfl (by (try simp only [List.map_toArray, List.map_cons, List.map_nil]); first | done | rfl | (simp only [List.length_drop, List.length_take]; rfl)) ?_; (with_reducible refine (laws_at.calls _ _ l0 2 t146 _ ?side1 ?side2 A6.out).mono ?_); (case side1 => repeat (first | exact (Kd.C_below HR0.out HB.out) | (with_reducible refine Kd.C_alloc ?_ _) | (with_reducible refine Kd.C_drewN ?_ _) | (with_reducible refine Kd.C_drew ?_))); (case side2 => exact HC0.out); rintro e w' ⟨rfl, ⟨nd, rfl⟩⟩; refine ⟨_, rfl, ?_⟩; (try ((first | generalize hq_ : World.drewN w18 _ = w18 | (rw [drewN_self w18]; generalize hq_ : World.drewN w18 _ = w18)); have n0_ : Aside0 (Kd.R k28 28 w18 w.heap.size (fun k_ => k_ ≠ gb142) v144 y143) := ⟨by rw [← hq_]; exact (by (with_reducible repeat (first | apply Kd.R_alloc | apply Kd.R_drewN | apply Kd.R_drew)); exact Kd.R_mono HO145.out (fun _ hk => hk.2))⟩; have n1_ : Aside0 (w18.heap[gb142]? = some (.cells #[.float .f64 (floatOfInt .f64 (wrap64 (t140 - 128))), .float .f64 (floatOfInt .f64 (wrap64 (t141 - 128)))] 28 (0, 0))) := ⟨by rw [← hq_]; exact (fb_ BK142.out)⟩; have n2_ : Aside0 (Below w.heap.size w w18) := ⟨by rw [← hq_]; exact (bel_ HB.out)⟩; clear HO145 BK142 HB hq_; have HO145 := n0_; have BK142 := n1_; have HB := n2_; clear n0_ n1_ n2_)); obtain ⟨Ao20, co20, eo20⟩ := Kd.R_slice HO145.out; subst eo20; have p147 : 0 ≤ ((ji8) : Int) := of_decide_eq_true (by first | (with_reducible assumption) | assumption); have q147 : (ji8) < (y143.length : Int) := of_decide_eq_true (by first | (with_reducible assumption) | assumption); obtain ⟨ad147, e147, hx147_0, hx147_1⟩ := at_T28 (Kd.R_reads' HO145.out).2.2 (ji8) p147 q147; cases e147; replace p147 := eq_true p147; replace q147 := eq_true q147) | ((with_reducible refine gate_dst (N := 5) rfl ?_); refine box_event ?hg (N := 5) ?hd (cs := #[.float .f64 (0 : Nat), .float .f64 (0 : Nat)]) (t := 28) ?hr ?_; (case hd => rfl); (case hg => rfl); (case hr => first | (go_simp; done) | (go_simp; rfl)); intro gb148 hg w21 hbox hb; have n0_ := Aside0.mk (Kd.R_below (Kd.R_elderB (fr_ HO145.out) gb148 (Nat.le_of_eq hg.symm)) hb); have n1_ := Aside0.mk (blk_below (g := gb142) (o := .cells #[.float .f64 (floatOfInt .f64 (wrap64 (t140 - 128))), .float .f64 (floatOfInt .f64 (wrap64 (t141 - 128)))] 28 (0, 0)) (fb_ BK142.out) hb); have n2_ := Aside0.mk (below_step (bel_ HB.out) hb); have n3_ := Aside0.mk (hbox); have n4_ := Aside0.mk ((by rw [hg]; exact (below_size (bel_ HB.out)) : w.heap.size ≤ gb148)); have n5_ := Aside0.mk ((by rw [hg]; exact (below_size (bel_ HB.out)) : w.heap.size ≤ gb148)); have n6_ := Aside0.mk ((by rw [hg]; exact Nat.ne_of_lt (blk_lt (g := gb142) (o := .cells #[.float .f64 (floatOfInt .f64 (wrap64 (t140 - 128))), .float .f64 (floatOfInt .f64 (wrap64 (t141 - 128)))] 28 (0, 0)) (fb_ BK142.out)) : gb142 ≠ gb148)); have n7_ := Aside0.mk ((by rw [hg]; exact Nat.ne_of_gt (blk_lt (g := gb142) (o := .cells #[.float .f64 (floatOfInt .f64 (wrap64 (t140 - 128))), .float .f64 (floatOfInt .f64 (wrap64 (t141 - 128)))] 28 (0, 0)) (fb_ BK142.out)) : gb148 ≠ gb142)); clear HO145; clear BK142; clear HB; have HO145 := n0_; have BK142 := n1_; have HB := n2_; have BK148 := n3_; have GW148 := n4_; have GE148 := n5_; have NB142_148 := n6_; have NB148_142 := n7_; clear n0_ n1_ n2_ n3_ n4_ n5_ n6_ n7_; clear hb hbox hg; have hnb22 := NB148_142.out; have hnc22 := NB142_148.out; have hcz23_0 : w21.cell? ⟨gb148, 0, none⟩ = some (.float .f64 (0 : Nat)) := (blk_cell BK148.out 0).trans rfl; have hcz23_1 : w21.cell? ⟨gb148, 1, none⟩ = some (.float .f64 (0 : Nat)) := (blk_cell BK148.out 1).trans rfl; have hfz23_0 := blk_frozen BK148.out 0; have hfz23_1 := blk_frozen BK148.out 1))
     have n0_ : Aside0 (Kd.R k28 28 ((w21.setCell ⟨gb148, 0, none⟩ (.float .f64 ((rd_T28 y143 (ji8)).f0))).setCell ⟨gb148, 1, none⟩ (.float .f64 ((rd_T28 y143 (ji8)).f1))) w.heap.size (fun k_ => k_ ≠ gb142 ∧ k_ ≠ gb148) (.slice (some ad147) y143.length co20) y143) := ⟨by (with_reducible repeat (first | apply Kd.R_alloc | apply Kd.R_drewN | apply Kd.R_drew)); exact Kd.R_mono (Kd.R_far (p := ⟨gb148, 1, none⟩) (Kd.R_far (p := ⟨gb148, 0, none⟩) (Kd.R_mono HO145.out (fun k_ hk => (⟨hk, hk.2⟩ : _ ∧ k_ ≠ gb148))) (fun _ hk => hk.2) (.float .f64 ((rd_T28 y143 (ji8)).f0))) (fun _ hk => hk.2) (.float .f64 ((rd_T28 y143 (ji8)).f1))) (fun _ hk => hk.1)⟩
     have n1_ : Aside0 (((w21.setCell ⟨gb148, 0, none⟩ (.float .f64 ((rd_T28 y143 (ji8)).f0))).setCell ⟨gb148, 1, none⟩ (.float .f64 ((rd_T28 y143 (ji8)).f1))).heap[gb142]? = some (.cells #[.float .f64 (floatOfInt .f64 (wrap64 (t140 - 128))), .float .f64 (floatOfInt .f64 (wrap64 (t141 - 128)))] 28 (0, 0))) := ⟨by (with_reducible repeat (first | refine blk_drewN ?_ _ | refine blk_drew ?_ | refine blk_alloc ?_ _)); refine blk_far ?_ NB142_148.out _; (with_reducible repeat (first | refine blk_drewN ?_ _ | refine blk_drew ?_ | refine blk_alloc ?_ _)); refine blk_far ?_ NB142_148.out _; (with_reducible repeat (first | refine blk_drewN ?_ _ | refine blk_drew ?_ | refine blk_alloc ?_ _)); exact BK142.out⟩
     have n2_ : Aside0 (((w21.setCell ⟨gb148, 0, none⟩ (.float .f64 ((rd_T28 y143 (ji8)).f0))).setCell ⟨gb148, 1, none⟩ (.float .f64 ((rd_T28 y143 (ji8)).f1))).heap[gb148]? = some (.cells #[.float .f64 ((rd_T28 y143 (ji8)).f0), .float .f64 ((rd_T28 y143 (ji8)).f1)] 28 (0, 0))) := ⟨by (with_reducible repeat (first | refine blk_drewN ?_ _ | refine blk_drew ?_ | refine blk_alloc ?_ _)); refine blk_put (cs := #[.float .f64 ((rd_T28 y143 (ji8)).f0), .float .f64 (0 : Nat)]) ?_ 1 _ rfl; (with_reducible repeat (first | refine blk_drewN ?_ _ | refine blk_drew ?_ | refine blk_alloc ?_ _)); refine blk_put (cs := #[.float .f64 (0 : Nat), .float .f64 (0 : Nat)]) ?_ 0 _ rfl; (with_reducible repeat (first | refine blk_drewN ?_ _ | refine blk_drew ?_ | refine blk_alloc ?_ _)); exact BK148.out⟩
     have n3_ : Aside0 (Below w.heap.size w ((w21.setCell ⟨gb148, 0, none⟩ (.float .f64 ((rd_T28 y143 (ji8)).f0))).setCell ⟨gb148, 1, none⟩ (.float .f64 ((rd_T28 y143 (ji8)).f1)))) := ⟨bel_ HB.out⟩
     (try clear HO145)
     (try clear BK142)
     (try clear BK148)
     (try clear HB)
     generalize ((w21.setCell ⟨gb148, 0, none⟩ (.float .f64 ((rd_T28 y143 (ji8)).f0))).setCell ⟨gb148, 1, none⟩ (.float .f64 ((rd_T28 y143 (ji8)).f1))) = w24 at n0_ n1_ n2_ n3_ ⊢
     have HO145 := n0_
     have BK142 := n1_
     have BK148 := n2_
     have HB := n3_
     clear n0_ n1_ n2_ n3_
     have n0_ := Aside0.mk (Kd.R_drew HO145.out)
     have n1_ := Aside0.mk (blk_drew BK142.out)
     have n2_ := Aside0.mk (blk_drew BK148.out)
     have n3_ := Aside0.mk (below_drew1 HB.out)
     clear HO145
     clear BK142
     clear BK148
     clear HB
     have HO145 := n0_
     have BK142 := n1_
     have BK148 := n2_
     have HB := n3_
     clear n0_ n1_ n2_ n3_
     refine start_ (n := 11) (S := fun w' => w'.cell? ⟨gb142, 0, none⟩ = some (.float .f64 (floatOfInt .f64 (wrap64 (t140 - 128)))) ∧ w'.cell? ⟨gb142, 1, none⟩ = some (.float .f64 (floatOfInt .f64 (wrap64 (t141 - 128)))) ∧ w'.cell? ⟨gb148, 0, none⟩ = some (.float .f64 ((rd_T28 y143 (ji8)).f0)) ∧ w'.cell? ⟨gb148, 1, none⟩ = some (.float .f64 ((rd_T28 y143 (ji8)).f1))) (ds := []) (bs 11 0) (by kernel_rfl) rfl rfl ⟨(blk_cell BK142.out 0).trans rfl, (blk_cell BK142.out 1).trans rfl, (blk_cell BK148.out 0).trans rfl, (blk_cell BK148.out 1).trans rfl⟩ (fun hHeld => ?_); refine with_tabW laws_FnOver.tab6 laws_FnOver.bits6 (fun HT_ HW_ => ?_)
     generalize w24.drew = w25 at HO145 BK142 BK148 HB hHeld ⊢
     refine take_ (i := 0) (N := some 41) (v := ?_) (a' := ?_) (bs 11 1) rfl rfl (take_ofW HT_.out HW_.out (by kernel_rfl)) (fun _ _ _ h => h) (Or.inl ⟨by rfl, ?_⟩) hHeld ?_ ?_
     rotate_left
     ·rintro w' ⟨s0, s1, s2, s3⟩
      go_simp
      with_reducible rfl
     rotate_left
     ·simp only [Act.put, sA_, sZ_, sS_, i64_w, i32_w]
      rfl
     refine take_ (i := 1) (N := some 42) (v := ?_) (a' := ?_) (bs 11 3) rfl rfl (take_ofW HT_.out HW_.out (by kernel_rfl)) (fun _ _ _ h => h) (Or.inl ⟨by rfl, ?_⟩) hHeld ?_ ?_
     rotate_left
     ·rintro w' ⟨s0, s1, s2, s3⟩
      go_simp
      with_reducible rfl
     rotate_left
     ·simp only [Act.put, sA_, sZ_, sS_, i64_w, i32_w]
      rfl
     refine take_ (i := 3) (N := some 44) (v := ?_) (a' := ?_) (bs 11 11) rfl rfl (take_ofW HT_.out HW_.out (by kernel_rfl)) (fun _ _ _ h => h) (Or.inl ⟨by rfl, ?_⟩) hHeld ?_ ?_
     rotate_left
     ·rintro w' ⟨s0, s1, s2, s3⟩
      go_simp
      with_reducible rfl
     rotate_left
     ·simp only [Act.put, sA_, sZ_, sS_, i64_w, i32_w]
      rfl
     refine join_ (σ := Nat) 2 (bs 11 511) (fun s_ => [(43, .agg #[.float .f64 t149, .float .f64 t150]), (45, .tuple #[.agg #[.float .f64 t151, .float .f64 t152], .bool t153]), (6, .pointer (some ⟨s_, 0, none⟩)), (40, .tuple #[.agg #[.float .f64 t151, .float .f64 t152], .bool t153]), (46, .agg #[.float .f64 t151, .float .f64 t152]), (47, .bool t153)]) (fun s_ w' => (w'.cell? ⟨gb142, 0, none⟩ = some (.float .f64 (floatOfInt .f64 (wrap64 (t140 - 128)))) ∧ w'.cell? ⟨gb142, 1, none⟩ = some (.float .f64 (floatOfInt .f64 (wrap64 (t141 - 128)))) ∧ w'.cell? ⟨gb148, 0, none⟩ = some (.float .f64 ((rd_T28 y143 (ji8)).f0)) ∧ w'.cell? ⟨gb148, 1, none⟩ = some (.float .f64 ((rd_T28 y143 (ji8)).f1))) ∧ (Kd.R k28 28 w' w.heap.size (fun k_ => k_ ≠ gb142 ∧ k_ ≠ gb148 ∧ k_ ≠ s_) (.slice (some ad147) y143.length co20) y143) ∧ (w'.heap[gb142]? = some (.cells #[.float .f64 (floatOfInt .f64 (wrap64 (t140 - 128))), .float .f64 (floatOfInt .f64 (wrap64 (t141 - 128)))] 28 (0, 0))) ∧ (w'.heap[gb148]? = some (.cells #[.float .f64 ((rd_T28 y143 (ji8)).f0), .float .f64 ((rd_T28 y143 (ji8)).f1)] 28 (0, 0))) ∧ (w'.heap[s_]? = some (.cells #[.float .f64 (0 : Nat), .float .f64 (0 : Nat)] 28 (0, 0))) ∧ (w.heap.size ≤ s_) ∧ (w.heap.size ≤ s_) ∧ (gb142 ≠ s_) ∧ (s_ ≠ gb142) ∧ (gb148 ≠ s_) ∧ (s_ ≠ gb148) ∧ (Below w.heap.size w w')) ?_ ?_
     rotate_left
     ·intro hCont
      refine two_ (i := 2) (j := 8) (Ni := some 43) (Nj := some 6) (bs 11 15) (bs 11 267) rfl rfl rfl rfl (two_of HT_.out (by kernel_rfl)) (by decide) (by decide) (fun K hK => ?_) (fun K hK => ?_)
      ·skip
       refine goes_ Try.func12 (by kernel_rfl) rfl #[.agg #[.float .f64 (floatOfInt .f64 (wrap64 (t140 - 128))), .float .f64 (floatOfInt .f64 (wrap64 (t141 - 128)))], .agg #[.float .f64 ((rd_T28 y143 (ji8)).f0), .float .f64 ((rd_T28 y143 (ji8)).f1)]] (by rfl) rfl rfl (by (try simp only [List.map_toArray, List.map_cons, List.map_nil]); first | done | (simp only [hji8]; rfl) | rfl | (simp only [List.length_drop, List.length_take]; rfl)) ?_
       with_reducible refine (impl_Times.calls (floatOfInt .f64 (wrap64 (t140 - 128))) (floatOfInt .f64 (wrap64 (t141 - 128))) ((rd_T28 y143 (ji8)).f0) ((rd_T28 y143 (ji8)).f1) t149 t150 _ A11.out).mono ?_
       rintro e w26 ⟨rfl, hb⟩
       refine ⟨_, rfl, ?_⟩
       have n0_ := Aside0.mk (Kd.R_below (fr_ HO145.out) hb)
       have n1_ := Aside0.mk (blk_below (g := gb142) (o := .cells #[.float .f64 (floatOfInt .f64 (wrap64 (t140 - 128))), .float .f64 (floatOfInt .f64 (wrap64 (t141 - 128)))] 28 (0, 0)) (fb_ BK142.out) hb)
       have n2_ := Aside0.mk (blk_below (g := gb148) (o := .cells #[.float .f64 ((rd_T28 y143 (ji8)).f0), .float .f64 ((rd_T28 y143 (ji8)).f1)] 28 (0, 0)) (fb_ BK148.out) hb)
       have n3_ := Aside0.mk (below_step (bel_ HB.out) hb)
       clear HO145
       clear BK142
       clear BK148
       clear HB
       have HO145 := n0_
       have BK142 := n1_
       have BK148 := n2_
       have HB := n3_
       clear n0_ n1_ n2_ n3_
       (try clear hb)
       (try clear hb2)
       (try clear hk)
       (try clear hi)
       refine hK.out _ _ ⟨(blk_cell BK142.out 0).trans rfl, (blk_cell BK142.out 1).trans rfl, (blk_cell BK148.out 0).trans rfl, (blk_cell BK148.out 1).trans rfl⟩ (fun hHeld => ?_)
       clear hK K
       refine norm_ (a' := ?_) ?_ ?_
       rotate_left
       ·show Act.put _ (some 43) _ = _
        simp only [Act.put, sA_, sZ_, sS_, i64_w, i32_w]
        rfl
       refine two_ (i := 4) (j := 8) (Ni := some 45) (Nj := some 6) (bs 11 31) (bs 11 271) rfl rfl rfl rfl (two_of HT_.out (by kernel_rfl)) (by decide) (by decide) (fun K hK => ?_) (fun K hK => ?_)
       ·skip
        refine goes_ Try.func11 (by kernel_rfl) rfl #[.agg #[.float .f64 t149, .float .f64 t150], .agg #[.float .f64 ((rd_T28 y143 (ji8)).f0), .float .f64 ((rd_T28 y143 (ji8)).f1)]] (by rfl) rfl rfl (by (try simp only [List.map_toArray, List.map_cons, List.map_nil]); first | done | (simp only [hji8]; rfl) | rfl | (simp only [List.length_drop, List.length_take]; rfl)) ?_
        with_reducible refine (impl_Over.calls k t149 t150 ((rd_T28 y143 (ji8)).f0) ((rd_T28 y143 (ji8)).f1) t151 t152 t153 _ A12.out).mono ?_
        rintro e w27 ⟨rfl, hb⟩
        refine ⟨_, rfl, ?_⟩
        have n0_ := Aside0.mk (Kd.R_below (fr_ HO145.out) hb)
        have n1_ := Aside0.mk (blk_below (g := gb142) (o := .cells #[.float .f64 (floatOfInt .f64 (wrap64 (t140 - 128))), .float .f64 (floatOfInt .f64 (wrap64 (t141 - 128)))] 28 (0, 0)) (fb_ BK142.out) hb)
        have n2_ := Aside0.mk (blk_below (g := gb148) (o := .cells #[.float .f64 ((rd_T28 y143 (ji8)).f0), .float .f64 ((rd_T28 y143 (ji8)).f1)] 28 (0, 0)) (fb_ BK148.out) hb)
        have n3_ := Aside0.mk (below_step (bel_ HB.out) hb)
        clear HO145
        clear BK142
        clear BK148
        clear HB
        have HO145 := n0_
        have BK142 := n1_
        have BK148 := n2_
        have HB := n3_
        clear n0_ n1_ n2_ n3_
        (try clear hb)
        (try clear hb2)
        (try clear hk)
        (try clear hi)
        refine hK.out _ _ ⟨(blk_cell BK142.out 0).trans rfl, (blk_cell BK142.out 1).trans rfl, (blk_cell BK148.out 0).trans rfl, (blk_cell BK148.out 1).trans rfl⟩ (fun hHeld => ?_)
        clear hK K
        refine norm_ (a' := ?_) ?_ ?_
        rotate_left
        ·show Act.put _ (some 45) _ = _
         simp only [Act.put, sA_, sZ_, sS_, i64_w, i32_w]
         rfl
        refine pu_ 5 40 HT_ (bs 11 63) rfl rfl ?_
        refine pu_ 6 46 HT_ (bs 11 127) rfl rfl ?_
        refine pu_ 7 47 HT_ (bs 11 255) rfl rfl ?_
        refine one_ (i := 8) (N := some 6) (bs 11 511) rfl rfl (one_of HT_.out (by kernel_rfl)) (by decide) (fun K hK => ?_)
        refine box_step ?hg (N := 6) ?hd (cs := #[.float .f64 (0 : Nat), .float .f64 (0 : Nat)]) (t := 28) ?hr ?_; (case hd => rfl); (case hg => rfl); (case hr => first | (go_simp; done) | (go_simp; rfl))
        intro gb154 hg w28 hbox hb
        have n0_ := Aside0.mk (Kd.R_below (Kd.R_elderB (fr_ HO145.out) gb154 (Nat.le_of_eq hg.symm)) hb)
        have n1_ := Aside0.mk (blk_below (g := gb142) (o := .cells #[.float .f64 (floatOfInt .f64 (wrap64 (t140 - 128))), .float .f64 (floatOfInt .f64 (wrap64 (t141 - 128)))] 28 (0, 0)) (fb_ BK142.out) hb)
        have n2_ := Aside0.mk (blk_below (g := gb148) (o := .cells #[.float .f64 ((rd_T28 y143 (ji8)).f0), .float .f64 ((rd_T28 y143 (ji8)).f1)] 28 (0, 0)) (fb_ BK148.out) hb)
        have n3_ := Aside0.mk (below_step (bel_ HB.out) hb)
        have n4_ := Aside0.mk (hbox)
        have n5_ := Aside0.mk ((by rw [hg]; exact (below_size (bel_ HB.out)) : w.heap.size ≤ gb154))
        have n6_ := Aside0.mk ((by rw [hg]; exact (below_size (bel_ HB.out)) : w.heap.size ≤ gb154))
        have n7_ := Aside0.mk ((by rw [hg]; exact Nat.ne_of_lt (blk_lt (g := gb142) (o := .cells #[.float .f64 (floatOfInt .f64 (wrap64 (t140 - 128))), .float .f64 (floatOfInt .f64 (wrap64 (t141 - 128)))] 28 (0, 0)) (fb_ BK142.out)) : gb142 ≠ gb154))
        have n8_ := Aside0.mk ((by rw [hg]; exact Nat.ne_of_gt (blk_lt (g := gb142) (o := .cells #[.float .f64 (floatOfInt .f64 (wrap64 (t140 - 128))), .float .f64 (floatOfInt .f64 (wrap64 (t141 - 128)))] 28 (0, 0)) (fb_ BK142.out)) : gb154 ≠ gb142))
        have n9_ := Aside0.mk ((by rw [hg]; exact Nat.ne_of_lt (blk_lt (g := gb148) (o := .cells #[.float .f64 ((rd_T28 y143 (ji8)).f0), .float .f64 ((rd_T28 y143 (ji8)).f1)] 28 (0, 0)) (fb_ BK148.out)) : gb148 ≠ gb154))
        have n10_ := Aside0.mk ((by rw [hg]; exact Nat.ne_of_gt (blk_lt (g := gb148) (o := .cells #[.float .f64 ((rd_T28 y143 (ji8)).f0), .float .f64 ((rd_T28 y143 (ji8)).f1)] 28 (0, 0)) (fb_ BK148.out)) : gb154 ≠ gb148))
        clear HO145
        clear BK142
        clear BK148
        clear HB
        have HO145 := n0_
        have BK142 := n1_
        have BK148 := n2_
        have HB := n3_
        have BK154 := n4_
        have GW154 := n5_
        have GE154 := n6_
        have NB142_154 := n7_
        have NB154_142 := n8_
        have NB148_154 := n9_
        have NB154_148 := n10_
        clear n0_ n1_ n2_ n3_ n4_ n5_ n6_ n7_ n8_ n9_ n10_
        clear hb hbox hg
        refine hK.out _ _ ⟨(blk_cell BK142.out 0).trans rfl, (blk_cell BK142.out 1).trans rfl, (blk_cell BK148.out 0).trans rfl, (blk_cell BK148.out 1).trans rfl⟩ (fun hHeld => ?_)
        clear hK K
        refine norm_ (a' := ?_) ?_ ?_
        rotate_left
        ·show Act.put _ (some 6) _ = _
         simp only [Act.put, sA_, sZ_, sS_, i64_w, i32_w]
         rfl
        exact norm_ (by simp only [putAll, Act.put, sA_, sZ_, sS_]) (hCont (gb154) _ ⟨hHeld, (by (with_reducible repeat (first | apply Kd.R_alloc | apply Kd.R_drewN | apply Kd.R_drew)); exact Kd.R_mono HO145.out (fun _ hk => ⟨hk.1.1, ⟨hk.1.2, hk.2⟩⟩)), (fb_ BK142.out), (fb_ BK148.out), (fb_ BK154.out), GW154.out, GE154.out, NB142_154.out, NB154_142.out, NB148_154.out, NB154_148.out, (bel_ HB.out)⟩)
       ·skip
        refine box_step ?hg (N := 6) ?hd (cs := #[.float .f64 (0 : Nat), .float .f64 (0 : Nat)]) (t := 28) ?hr ?_; (case hd => rfl); (case hg => rfl); (case hr => first | (go_simp; done) | (go_simp; rfl))
        intro gb154 hg w27 hbox hb
        have n0_ := Aside0.mk (Kd.R_below (Kd.R_elderB (fr_ HO145.out) gb154 (Nat.le_of_eq hg.symm)) hb)
        have n1_ := Aside0.mk (blk_below (g := gb142) (o := .cells #[.float .f64 (floatOfInt .f64 (wrap64 (t140 - 128))), .float .f64 (floatOfInt .f64 (wrap64 (t141 - 128)))] 28 (0, 0)) (fb_ BK142.out) hb)
        have n2_ := Aside0.mk (blk_below (g := gb148) (o := .cells #[.float .f64 ((rd_T28 y143 (ji8)).f0), .float .f64 ((rd_T28 y143 (ji8)).f1)] 28 (0, 0)) (fb_ BK148.out) hb)
        have n3_ := Aside0.mk (below_step (bel_ HB.out) hb)
        have n4_ := Aside0.mk (hbox)
        have n5_ := Aside0.mk ((by rw [hg]; exact (below_size (bel_ HB.out)) : w.heap.size ≤ gb154))
        have n6_ := Aside0.mk ((by rw [hg]; exact (below_size (bel_ HB.out)) : w.heap.size ≤ gb154))
        have n7_ := Aside0.mk ((by rw [hg]; exact Nat.ne_of_lt (blk_lt (g := gb142) (o := .cells #[.float .f64 (floatOfInt .f64 (wrap64 (t140 - 128))), .float .f64 (floatOfInt .f64 (wrap64 (t141 - 128)))] 28 (0, 0)) (fb_ BK142.out)) : gb142 ≠ gb154))
        have n8_ := Aside0.mk ((by rw [hg]; exact Nat.ne_of_gt (blk_lt (g := gb142) (o := .cells #[.float .f64 (floatOfInt .f64 (wrap64 (t140 - 128))), .float .f64 (floatOfInt .f64 (wrap64 (t141 - 128)))] 28 (0, 0)) (fb_ BK142.out)) : gb154 ≠ gb142))
        have n9_ := Aside0.mk ((by rw [hg]; exact Nat.ne_of_lt (blk_lt (g := gb148) (o := .cells #[.float .f64 ((rd_T28 y143 (ji8)).f0), .float .f64 ((rd_T28 y143 (ji8)).f1)] 28 (0, 0)) (fb_ BK148.out)) : gb148 ≠ gb154))
        have n10_ := Aside0.mk ((by rw [hg]; exact Nat.ne_of_gt (blk_lt (g := gb148) (o := .cells #[.float .f64 ((rd_T28 y143 (ji8)).f0), .float .f64 ((rd_T28 y143 (ji8)).f1)] 28 (0, 0)) (fb_ BK148.out)) : gb154 ≠ gb148))
        clear HO145
        clear BK142
        clear BK148
        clear HB
        have HO145 := n0_
        have BK142 := n1_
        have BK148 := n2_
        have HB := n3_
        have BK154 := n4_
        have GW154 := n5_
        have GE154 := n6_
        have NB142_154 := n7_
        have NB154_142 := n8_
        have NB148_154 := n9_
        have NB154_148 := n10_
        clear n0_ n1_ n2_ n3_ n4_ n5_ n6_ n7_ n8_ n9_ n10_
        clear hb hbox hg
        refine hK.out _ _ ⟨(blk_cell BK142.out 0).trans rfl, (blk_cell BK142.out 1).trans rfl, (blk_cell BK148.out 0).trans rfl, (blk_cell BK148.out 1).trans rfl⟩ (fun hHeld => ?_)
        clear hK K
        refine norm_ (a' := ?_) ?_ ?_
        rotate_left
        ·show Act.put _ (some 6) _ = _
         simp only [Act.put, sA_, sZ_, sS_, i64_w, i32_w]
         rfl
        refine one_ (i := 4) (N := some 45) (bs 11 287) rfl rfl (one_of HT_.out (by kernel_rfl)) (by decide) (fun K hK => ?_)
        refine goes_ Try.func11 (by kernel_rfl) rfl #[.agg #[.float .f64 t149, .float .f64 t150], .agg #[.float .f64 ((rd_T28 y143 (ji8)).f0), .float .f64 ((rd_T28 y143 (ji8)).f1)]] (by rfl) rfl rfl (by (try simp only [List.map_toArray, List.map_cons, List.map_nil]); first | done | (simp only [hji8]; rfl) | rfl | (simp only [List.length_drop, List.length_take]; rfl)) ?_
        with_reducible refine (impl_Over.calls k t149 t150 ((rd_T28 y143 (ji8)).f0) ((rd_T28 y143 (ji8)).f1) t151 t152 t153 _ A12.out).mono ?_
        rintro e w28 ⟨rfl, hb⟩
        refine ⟨_, rfl, ?_⟩
        have n0_ := Aside0.mk (Kd.R_below (fr_ HO145.out) hb)
        have n1_ := Aside0.mk (blk_below (g := gb142) (o := .cells #[.float .f64 (floatOfInt .f64 (wrap64 (t140 - 128))), .float .f64 (floatOfInt .f64 (wrap64 (t141 - 128)))] 28 (0, 0)) (fb_ BK142.out) hb)
        have n2_ := Aside0.mk (blk_below (g := gb148) (o := .cells #[.float .f64 ((rd_T28 y143 (ji8)).f0), .float .f64 ((rd_T28 y143 (ji8)).f1)] 28 (0, 0)) (fb_ BK148.out) hb)
        have n3_ := Aside0.mk (blk_below (g := gb154) (o := .cells #[.float .f64 (0 : Nat), .float .f64 (0 : Nat)] 28 (0, 0)) (fb_ BK154.out) hb)
        have n4_ := Aside0.mk (below_step (bel_ HB.out) hb)
        clear HO145
        clear BK142
        clear BK148
        clear BK154
        clear HB
        have HO145 := n0_
        have BK142 := n1_
        have BK148 := n2_
        have BK154 := n3_
        have HB := n4_
        clear n0_ n1_ n2_ n3_ n4_
        (try clear hb)
        (try clear hb2)
        (try clear hk)
        (try clear hi)
        refine hK.out _ _ ⟨(blk_cell BK142.out 0).trans rfl, (blk_cell BK142.out 1).trans rfl, (blk_cell BK148.out 0).trans rfl, (blk_cell BK148.out 1).trans rfl⟩ (fun hHeld => ?_)
        clear hK K
        refine norm_ (a' := ?_) ?_ ?_
        rotate_left
        ·show Act.put _ (some 45) _ = _
         simp only [Act.put, sA_, sZ_, sS_, i64_w, i32_w]
         rfl
        refine pu_ 5 40 HT_ (bs 11 319) rfl rfl ?_
        refine pu_ 6 46 HT_ (bs 11 383) rfl rfl ?_
        refine pu_ 7 47 HT_ (bs 11 511) rfl rfl ?_
        exact norm_ (by simp only [putAll, Act.put, sA_, sZ_, sS_]) (hCont (gb154) _ ⟨hHeld, (by (with_reducible repeat (first | apply Kd.R_alloc | apply Kd.R_drewN | apply Kd.R_drew)); exact Kd.R_mono HO145.out (fun _ hk => ⟨hk.1.1, ⟨hk.1.2, hk.2⟩⟩)), (fb_ BK142.out), (fb_ BK148.out), (fb_ BK154.out), GW154.out, GE154.out, NB142_154.out, NB154_142.out, NB148_154.out, NB154_148.out, (bel_ HB.out)⟩)
      ·skip
       refine box_step ?hg (N := 6) ?hd (cs := #[.float .f64 (0 : Nat), .float .f64 (0 : Nat)]) (t := 28) ?hr ?_; (case hd => rfl); (case hg => rfl); (case hr => first | (go_simp; done) | (go_simp; rfl))
       intro gb154 hg w26 hbox hb
       have n0_ := Aside0.mk (Kd.R_below (Kd.R_elderB (fr_ HO145.out) gb154 (Nat.le_of_eq hg.symm)) hb)
       have n1_ := Aside0.mk (blk_below (g := gb142) (o := .cells #[.float .f64 (floatOfInt .f64 (wrap64 (t140 - 128))), .float .f64 (floatOfInt .f64 (wrap64 (t141 - 128)))] 28 (0, 0)) (fb_ BK142.out) hb)
       have n2_ := Aside0.mk (blk_below (g := gb148) (o := .cells #[.float .f64 ((rd_T28 y143 (ji8)).f0), .float .f64 ((rd_T28 y143 (ji8)).f1)] 28 (0, 0)) (fb_ BK148.out) hb)
       have n3_ := Aside0.mk (below_step (bel_ HB.out) hb)
       have n4_ := Aside0.mk (hbox)
       have n5_ := Aside0.mk ((by rw [hg]; exact (below_size (bel_ HB.out)) : w.heap.size ≤ gb154))
       have n6_ := Aside0.mk ((by rw [hg]; exact (below_size (bel_ HB.out)) : w.heap.size ≤ gb154))
       have n7_ := Aside0.mk ((by rw [hg]; exact Nat.ne_of_lt (blk_lt (g := gb142) (o := .cells #[.float .f64 (floatOfInt .f64 (wrap64 (t140 - 128))), .float .f64 (floatOfInt .f64 (wrap64 (t141 - 128)))] 28 (0, 0)) (fb_ BK142.out)) : gb142 ≠ gb154))
       have n8_ := Aside0.mk ((by rw [hg]; exact Nat.ne_of_gt (blk_lt (g := gb142) (o := .cells #[.float .f64 (floatOfInt .f64 (wrap64 (t140 - 128))), .float .f64 (floatOfInt .f64 (wrap64 (t141 - 128)))] 28 (0, 0)) (fb_ BK142.out)) : gb154 ≠ gb142))
       have n9_ := Aside0.mk ((by rw [hg]; exact Nat.ne_of_lt (blk_lt (g := gb148) (o := .cells #[.float .f64 ((rd_T28 y143 (ji8)).f0), .float .f64 ((rd_T28 y143 (ji8)).f1)] 28 (0, 0)) (fb_ BK148.out)) : gb148 ≠ gb154))
       have n10_ := Aside0.mk ((by rw [hg]; exact Nat.ne_of_gt (blk_lt (g := gb148) (o := .cells #[.float .f64 ((rd_T28 y143 (ji8)).f0), .float .f64 ((rd_T28 y143 (ji8)).f1)] 28 (0, 0)) (fb_ BK148.out)) : gb154 ≠ gb148))
       clear HO145
       clear BK142
       clear BK148
       clear HB
       have HO145 := n0_
       have BK142 := n1_
       have BK148 := n2_
       have HB := n3_
       have BK154 := n4_
       have GW154 := n5_
       have GE154 := n6_
       have NB142_154 := n7_
       have NB154_142 := n8_
       have NB148_154 := n9_
       have NB154_148 := n10_
       clear n0_ n1_ n2_ n3_ n4_ n5_ n6_ n7_ n8_ n9_ n10_
       clear hb hbox hg
       refine hK.out _ _ ⟨(blk_cell BK142.out 0).trans rfl, (blk_cell BK142.out 1).trans rfl, (blk_cell BK148.out 0).trans rfl, (blk_cell BK148.out 1).trans rfl⟩ (fun hHeld => ?_)
       clear hK K
       refine norm_ (a' := ?_) ?_ ?_
       rotate_left
       ·show Act.put _ (some 6) _ = _
        simp only [Act.put, sA_, sZ_, sS_, i64_w, i32_w]
        rfl
       refine one_ (i := 2) (N := some 43) (bs 11 271) rfl rfl (one_of HT_.out (by kernel_rfl)) (by decide) (fun K hK => ?_)
       refine goes_ Try.func12 (by kernel_rfl) rfl #[.agg #[.float .f64 (floatOfInt .f64 (wrap64 (t140 - 128))), .float .f64 (floatOfInt .f64 (wrap64 (t141 - 128)))], .agg #[.float .f64 ((rd_T28 y143 (ji8)).f0), .float .f64 ((rd_T28 y143 (ji8)).f1)]] (by rfl) rfl rfl (by (try simp only [List.map_toArray, List.map_cons, List.map_nil]); first | done | (simp only [hji8]; rfl) | rfl | (simp only [List.length_drop, List.length_take]; rfl)) ?_
       with_reducible refine (impl_Times.calls (floatOfInt .f64 (wrap64 (t140 - 128))) (floatOfInt .f64 (wrap64 (t141 - 128))) ((rd_T28 y143 (ji8)).f0) ((rd_T28 y143 (ji8)).f1) t149 t150 _ A11.out).mono ?_
       rintro e w27 ⟨rfl, hb⟩
       refine ⟨_, rfl, ?_⟩
       have n0_ := Aside0.mk (Kd.R_below (fr_ HO145.out) hb)
       have n1_ := Aside0.mk (blk_below (g := gb142) (o := .cells #[.float .f64 (floatOfInt .f64 (wrap64 (t140 - 128))), .float .f64 (floatOfInt .f64 (wrap64 (t141 - 128)))] 28 (0, 0)) (fb_ BK142.out) hb)
       have n2_ := Aside0.mk (blk_below (g := gb148) (o := .cells #[.float .f64 ((rd_T28 y143 (ji8)).f0), .float .f64 ((rd_T28 y143 (ji8)).f1)] 28 (0, 0)) (fb_ BK148.out) hb)
       have n3_ := Aside0.mk (blk_below (g := gb154) (o := .cells #[.float .f64 (0 : Nat), .float .f64 (0 : Nat)] 28 (0, 0)) (fb_ BK154.out) hb)
       have n4_ := Aside0.mk (below_step (bel_ HB.out) hb)
       clear HO145
       clear BK142
       clear BK148
       clear BK154
       clear HB
       have HO145 := n0_
       have BK142 := n1_
       have BK148 := n2_
       have BK154 := n3_
       have HB := n4_
       clear n0_ n1_ n2_ n3_ n4_
       (try clear hb)
       (try clear hb2)
       (try clear hk)
       (try clear hi)
       refine hK.out _ _ ⟨(blk_cell BK142.out 0).trans rfl, (blk_cell BK142.out 1).trans rfl, (blk_cell BK148.out 0).trans rfl, (blk_cell BK148.out 1).trans rfl⟩ (fun hHeld => ?_)
       clear hK K
       refine norm_ (a' := ?_) ?_ ?_
       rotate_left
       ·show Act.put _ (some 43) _ = _
        simp only [Act.put, sA_, sZ_, sS_, i64_w, i32_w]
        rfl
       refine one_ (i := 4) (N := some 45) (bs 11 287) rfl rfl (one_of HT_.out (by kernel_rfl)) (by decide) (fun K hK => ?_)
       refine goes_ Try.func11 (by kernel_rfl) rfl #[.agg #[.float .f64 t149, .float .f64 t150], .agg #[.float .f64 ((rd_T28 y143 (ji8)).f0), .float .f64 ((rd_T28 y143 (ji8)).f1)]] (by rfl) rfl rfl (by (try simp only [List.map_toArray, List.map_cons, List.map_nil]); first | done | (simp only [hji8]; rfl) | rfl | (simp only [List.length_drop, List.length_take]; rfl)) ?_
       with_reducible refine (impl_Over.calls k t149 t150 ((rd_T28 y143 (ji8)).f0) ((rd_T28 y143 (ji8)).f1) t151 t152 t153 _ A12.out).mono ?_
       rintro e w28 ⟨rfl, hb⟩
       refine ⟨_, rfl, ?_⟩
       have n0_ := Aside0.mk (Kd.R_below (fr_ HO145.out) hb)
       have n1_ := Aside0.mk (blk_below (g := gb142) (o := .cells #[.float .f64 (floatOfInt .f64 (wrap64 (t140 - 128))), .float .f64 (floatOfInt .f64 (wrap64 (t141 - 128)))] 28 (0, 0)) (fb_ BK142.out) hb)
       have n2_ := Aside0.mk (blk_below (g := gb148) (o := .cells #[.float .f64 ((rd_T28 y143 (ji8)).f0), .float .f64 ((rd_T28 y143 (ji8)).f1)] 28 (0, 0)) (fb_ BK148.out) hb)
       have n3_ := Aside0.mk (blk_below (g := gb154) (o := .cells #[.float .f64 (0 : Nat), .float .f64 (0 : Nat)] 28 (0, 0)) (fb_ BK154.out) hb)
       have n4_ := Aside0.mk (below_step (bel_ HB.out) hb)
       clear HO145
       clear BK142
       clear BK148
       clear BK154
       clear HB
       have HO145 := n0_
       have BK142 := n1_
       have BK148 := n2_
       have BK154 := n3_
       have HB := n4_
       clear n0_ n1_ n2_ n3_ n4_
       (try clear hb)
       (try clear hb2)
       (try clear hk)
       (try clear hi)
       refine hK.out _ _ ⟨(blk_cell BK142.out 0).trans rfl, (blk_cell BK142.out 1).trans rfl, (blk_cell BK148.out 0).trans rfl, (blk_cell BK148.out 1).trans rfl⟩ (fun hHeld => ?_)
       clear hK K
       refine norm_ (a' := ?_) ?_ ?_
       rotate_left
       ·show Act.put _ (some 45) _ = _
        simp only [Act.put, sA_, sZ_, sS_, i64_w, i32_w]
        rfl
       refine pu_ 5 40 HT_ (bs 11 319) rfl rfl ?_
       refine pu_ 6 46 HT_ (bs 11 383) rfl rfl ?_
       refine pu_ 7 47 HT_ (bs 11 511) rfl rfl ?_
       exact norm_ (by simp only [putAll, Act.put, sA_, sZ_, sS_]) (hCont (gb154) _ ⟨hHeld, (by (with_reducible repeat (first | apply Kd.R_alloc | apply Kd.R_drewN | apply Kd.R_drew)); exact Kd.R_mono HO145.out (fun _ hk => ⟨hk.1.1, ⟨hk.1.2, hk.2⟩⟩)), (fb_ BK142.out), (fb_ BK148.out), (fb_ BK154.out), GW154.out, GE154.out, NB142_154.out, NB154_142.out, NB148_154.out, NB154_148.out, (bel_ HB.out)⟩)
     rintro gb154 w29 ⟨hS_, h0_, h1_, h2_, h3_, h4_, h5_, h6_, h7_, h8_, h9_, h10_⟩
     have n0_ : Aside0 (Kd.R k28 28 w29 w.heap.size (fun k_ => k_ ≠ gb142 ∧ k_ ≠ gb148 ∧ k_ ≠ gb154) (.slice (some ad147) y143.length co20) y143) := ⟨h0_⟩
     have n1_ : Aside0 (w29.heap[gb142]? = some (.cells #[.float .f64 (floatOfInt .f64 (wrap64 (t140 - 128))), .float .f64 (floatOfInt .f64 (wrap64 (t141 - 128)))] 28 (0, 0))) := ⟨h1_⟩
     have n2_ : Aside0 (w29.heap[gb148]? = some (.cells #[.float .f64 ((rd_T28 y143 (ji8)).f0), .float .f64 ((rd_T28 y143 (ji8)).f1)] 28 (0, 0))) := ⟨h2_⟩
     have n3_ : Aside0 (w29.heap[gb154]? = some (.cells #[.float .f64 (0 : Nat), .float .f64 (0 : Nat)] 28 (0, 0))) := ⟨h3_⟩
     have n4_ : Aside0 (w.heap.size ≤ gb154) := ⟨h4_⟩
     have n5_ : Aside0 (w.heap.size ≤ gb154) := ⟨h5_⟩
     have n6_ : Aside0 (gb142 ≠ gb154) := ⟨h6_⟩
     have n7_ : Aside0 (gb154 ≠ gb142) := ⟨h7_⟩
     have n8_ : Aside0 (gb148 ≠ gb154) := ⟨h8_⟩
     have n9_ : Aside0 (gb154 ≠ gb148) := ⟨h9_⟩
     have n10_ : Aside0 (Below w.heap.size w w29) := ⟨h10_⟩
     clear HO145
     clear BK142
     clear BK148
     clear HB
     clear h0_ h1_ h2_ h3_ h4_ h5_ h6_ h7_ h8_ h9_ h10_
     have HO145 := n0_
     have BK142 := n1_
     have BK148 := n2_
     have BK154 := n3_
     have GW154 := n4_
     have GE154 := n5_
     have NB142_154 := n6_
     have NB154_142 := n7_
     have NB148_154 := n8_
     have NB154_148 := n9_
     have HB := n10_
     clear n0_ n1_ n2_ n3_ n4_ n5_ n6_ n7_ n8_ n9_ n10_
     have hHeld : w29.cell? ⟨gb142, 0, none⟩ = some (.float .f64 (floatOfInt .f64 (wrap64 (t140 - 128)))) ∧ w29.cell? ⟨gb142, 1, none⟩ = some (.float .f64 (floatOfInt .f64 (wrap64 (t141 - 128)))) ∧ w29.cell? ⟨gb148, 0, none⟩ = some (.float .f64 ((rd_T28 y143 (ji8)).f0)) ∧ w29.cell? ⟨gb148, 1, none⟩ = some (.float .f64 ((rd_T28 y143 (ji8)).f1)) := hS_
     refine norm_ (a' := ?_) ?_ ?_
     rotate_left
     ·simp only [putAll, Act.put, sA_, sZ_, sS_]
      rfl
     refine one_ (i := 9) (N := none) (bs 11 1023) rfl rfl (one_of HT_.out (by kernel_rfl)) (by decide) (fun K hK => ?_)
     have hs30 : w29.cell? ⟨gb154, 0, none⟩ = some (.float .f64 (0 : Nat)) := (blk_cell BK154.out 0).trans rfl
     have hfs30 := blk_frozen BK154.out 0
     have hns30_0 := NB142_154.out
     have hns30_1 := NB148_154.out
     have hms30_0 := NB154_142.out
     have hms30_1 := NB154_148.out
     have hs31 : w29.cell? ⟨gb154, 1, none⟩ = some (.float .f64 (0 : Nat)) := (blk_cell BK154.out 1).trans rfl
     have hfs31 := blk_frozen BK154.out 1
     have hns31_0 := NB142_154.out
     have hns31_1 := NB148_154.out
     have hms31_0 := NB154_142.out
     have hms31_1 := NB154_148.out
     refine skip_ (w1 := ?_) (by rfl) rfl ?_ ?_
     rotate_left
     ·go_simp
      rfl
     refine hK.out _ _ ⟨((cell_far (p := ⟨gb154, _, none⟩) NB142_154.out _).trans (((cell_far (p := ⟨gb154, _, none⟩) NB142_154.out _).trans (hHeld.1)))), ((cell_far (p := ⟨gb154, _, none⟩) NB142_154.out _).trans (((cell_far (p := ⟨gb154, _, none⟩) NB142_154.out _).trans (hHeld.2.1)))), ((cell_far (p := ⟨gb154, _, none⟩) NB148_154.out _).trans (((cell_far (p := ⟨gb154, _, none⟩) NB148_154.out _).trans (hHeld.2.2.1)))), ((cell_far (p := ⟨gb154, _, none⟩) NB148_154.out _).trans (((cell_far (p := ⟨gb154, _, none⟩) NB148_154.out _).trans (hHeld.2.2.2))))⟩ (fun hHeld => ?_)
     clear hK K
     refine pu_ 10 7 HT_ (bs 11 2047) rfl rfl ?_
     refine done_ (done_of HT_.out (by kernel_rfl)) ?_
     go_upto_region 7 with (fail)
     go_cut [55] (fun v55 wc => ∃ (kq : Nat) (x55_12 : Bool), v55 = .bool x55_12 ∧ Aside0 (laws_FnOver.j0 kq l0 x55_12 (floatOfInt .f64 (wrap64 (t140 - 128))) (floatOfInt .f64 (wrap64 (t141 - 128))) = some r) ∧ Aside0 (kq ≤ k) ∧ Aside0 (wc.heap[gb142]? = some (.cells #[.float .f64 (floatOfInt .f64 (wrap64 (t140 - 128))), .float .f64 (floatOfInt .f64 (wrap64 (t141 - 128)))] 28 (0, 0))) ∧ Aside0 (wc.heap[gb148]? = some (.cells #[.float .f64 ((rd_T28 y143 (ji8)).f0), .float .f64 ((rd_T28 y143 (ji8)).f1)] 28 (0, 0))) ∧ Aside0 (wc.heap[gb154]? = some (.cells #[.float .f64 t151, .float .f64 t152] 28 (0, 0))) ∧ Aside0 (Below w.heap.size w wc))
     case first =>
      have H := HC13.out
      clear HC13
      by_cases c32 : t153 = true
      ·subst c32
       have H1 : ((impl_Alike.f t151 t152 (floatOfInt .f64 (wrap64 (t140 - 128))) (floatOfInt .f64 (wrap64 (t141 - 128)))).bind fun t155 => (laws_FnOver.j0 k l0 (!t155) (floatOfInt .f64 (wrap64 (t140 - 128))) (floatOfInt .f64 (wrap64 (t141 - 128))))) = some r := by rw [if_pos rfl] at H; exact H
       clear H
       have H := H1
       clear H1
       replace H := Option.bind_eq_some_iff.mp H
       obtain ⟨t155, A330, H⟩ := H
       replace H : (laws_FnOver.j0 k l0 (!t155) (floatOfInt .f64 (wrap64 (t140 - 128))) (floatOfInt .f64 (wrap64 (t141 - 128)))) = some r := H
       have A33 := Aside0.mk A330
       clear A330
       have H' := Aside0.mk H
       clear H
       have hnb34 := NB154_142.out
       have hnc34 := NB142_154.out
       have hnb35 := NB154_148.out
       have hnc35 := NB148_154.out
       have hcz36_0 : w29.cell? ⟨gb154, 0, none⟩ = some (.float .f64 (0 : Nat)) := (blk_cell BK154.out 0).trans rfl
       have hcz36_1 : w29.cell? ⟨gb154, 1, none⟩ = some (.float .f64 (0 : Nat)) := (blk_cell BK154.out 1).trans rfl
       have hfz36_0 := blk_frozen BK154.out 0
       have hfz36_1 := blk_frozen BK154.out 1
       have hnb37 := NB142_148.out
       have hnc37 := NB148_142.out
       have hcz38_0 : w29.cell? ⟨gb142, 0, none⟩ = some (.float .f64 (floatOfInt .f64 (wrap64 (t140 - 128)))) := (blk_cell BK142.out 0).trans rfl
       have hcz38_1 : w29.cell? ⟨gb142, 1, none⟩ = some (.float .f64 (floatOfInt .f64 (wrap64 (t141 - 128)))) := (blk_cell BK142.out 1).trans rfl
       have hfz38_0 := blk_frozen BK142.out 0
       have hfz38_1 := blk_frozen BK142.out 1
       go_wp2_with (first | (go_at_call 13; (with_reducible refine (impl_Alike.calls t151 t152 (floatOfInt .f64 (wrap64 (t140 - 128))) (floatOfInt .f64 (wrap64 (t141 - 128))) t155 _ A33.out).mono ?_); rintro e w39 ⟨rfl, hb⟩; have n0_ := Aside0.mk (Kd.R_below (by (with_reducible repeat (first | apply Kd.R_alloc | apply Kd.R_drewN | apply Kd.R_drew)); exact (Kd.R_mono (Kd.R_far (p := ⟨gb154, 1, none⟩) (Kd.R_far (p := ⟨gb154, 0, none⟩) (Kd.R_mono HO145.out (fun k_ hk => (⟨hk, hk.2.2⟩ : _ ∧ k_ ≠ gb154))) (fun _ hk => hk.2) (.float .f64 t151)) (fun _ hk => hk.2) (.float .f64 t152)) (fun _ h_ => h_.1))) hb); have n1_ := Aside0.mk (blk_below (g := gb142) (o := .cells #[.float .f64 (floatOfInt .f64 (wrap64 (t140 - 128))), .float .f64 (floatOfInt .f64 (wrap64 (t141 - 128)))] 28 (0, 0)) (by (with_reducible repeat (first | refine blk_drewN ?_ _ | refine blk_drew ?_ | refine blk_alloc ?_ _)); refine blk_far ?_ NB142_154.out _; (with_reducible repeat (first | refine blk_drewN ?_ _ | refine blk_drew ?_ | refine blk_alloc ?_ _)); refine blk_far ?_ NB142_154.out _; (with_reducible repeat (first | refine blk_drewN ?_ _ | refine blk_drew ?_ | refine blk_alloc ?_ _)); exact BK142.out) hb); have n2_ := Aside0.mk (blk_below (g := gb148) (o := .cells #[.float .f64 ((rd_T28 y143 (ji8)).f0), .float .f64 ((rd_T28 y143 (ji8)).f1)] 28 (0, 0)) (by (with_reducible repeat (first | refine blk_drewN ?_ _ | refine blk_drew ?_ | refine blk_alloc ?_ _)); refine blk_far ?_ NB148_154.out _; (with_reducible repeat (first | refine blk_drewN ?_ _ | refine blk_drew ?_ | refine blk_alloc ?_ _)); refine blk_far ?_ NB148_154.out _; (with_reducible repeat (first | refine blk_drewN ?_ _ | refine blk_drew ?_ | refine blk_alloc ?_ _)); exact BK148.out) hb); have n3_ := Aside0.mk (blk_below (g := gb154) (o := .cells #[.float .f64 t151, .float .f64 t152] 28 (0, 0)) (by (with_reducible repeat (first | refine blk_drewN ?_ _ | refine blk_drew ?_ | refine blk_alloc ?_ _)); refine blk_put (cs := #[.float .f64 t151, .float .f64 (0 : Nat)]) ?_ 1 _ rfl; (with_reducible repeat (first | refine blk_drewN ?_ _ | refine blk_drew ?_ | refine blk_alloc ?_ _)); refine blk_put (cs := #[.float .f64 (0 : Nat), .float .f64 (0 : Nat)]) ?_ 0 _ rfl; (with_reducible repeat (first | refine blk_drewN ?_ _ | refine blk_drew ?_ | refine blk_alloc ?_ _)); exact BK154.out) hb); have n4_ := Aside0.mk (below_step (bel_ HB.out) hb); clear HO145; clear BK142; clear BK148; clear BK154; clear HB; have HO145 := n0_; have BK142 := n1_; have BK148 := n2_; have BK154 := n3_; have HB := n4_; clear n0_ n1_ n2_ n3_ n4_; (try clear hb); (try clear hb2); (try clear hk); (try clear hi)))
       go_meet
       case rel => exact ⟨_, (!t155), (by first | rfl | (simp; done) | (simp [*]; done) | (simp [wrap64]; done)), H', ⟨by first | omega | exact Nat.le_refl _⟩, ⟨by (with_reducible repeat (first | refine blk_drewN ?_ _ | refine blk_drew ?_ | refine blk_alloc ?_ _)); exact BK142.out⟩, ⟨by (with_reducible repeat (first | refine blk_drewN ?_ _ | refine blk_drew ?_ | refine blk_alloc ?_ _)); exact BK148.out⟩, ⟨by (with_reducible repeat (first | refine blk_drewN ?_ _ | refine blk_drew ?_ | refine blk_alloc ?_ _)); exact BK154.out⟩, ⟨bel_ HB.out⟩⟩
      ·replace c32 := Bool.eq_false_iff.mpr c32
       subst c32
       have H1 : (laws_FnOver.j0 k l0 true (floatOfInt .f64 (wrap64 (t140 - 128))) (floatOfInt .f64 (wrap64 (t141 - 128)))) = some r := by rw [if_neg (show ¬ (false = true) by decide)] at H; exact H
       clear H
       have H := H1
       clear H1
       have H' := Aside0.mk H
       clear H
       go_wp2
       go_meet
       case rel => exact ⟨_, (true), (by first | rfl | (simp; done) | (simp [*]; done) | (simp [wrap64]; done)), H', ⟨by first | omega | exact Nat.le_refl _⟩, ⟨by (with_reducible repeat (first | refine blk_drewN ?_ _ | refine blk_drew ?_ | refine blk_alloc ?_ _)); refine blk_far ?_ NB142_154.out _; (with_reducible repeat (first | refine blk_drewN ?_ _ | refine blk_drew ?_ | refine blk_alloc ?_ _)); refine blk_far ?_ NB142_154.out _; (with_reducible repeat (first | refine blk_drewN ?_ _ | refine blk_drew ?_ | refine blk_alloc ?_ _)); exact BK142.out⟩, ⟨by (with_reducible repeat (first | refine blk_drewN ?_ _ | refine blk_drew ?_ | refine blk_alloc ?_ _)); refine blk_far ?_ NB148_154.out _; (with_reducible repeat (first | refine blk_drewN ?_ _ | refine blk_drew ?_ | refine blk_alloc ?_ _)); refine blk_far ?_ NB148_154.out _; (with_reducible repeat (first | refine blk_drewN ?_ _ | refine blk_drew ?_ | refine blk_alloc ?_ _)); exact BK148.out⟩, ⟨by (with_reducible repeat (first | refine blk_drewN ?_ _ | refine blk_drew ?_ | refine blk_alloc ?_ _)); refine blk_put (cs := #[.float .f64 t151, .float .f64 (0 : Nat)]) ?_ 1 _ rfl; (with_reducible repeat (first | refine blk_drewN ?_ _ | refine blk_drew ?_ | refine blk_alloc ?_ _)); refine blk_put (cs := #[.float .f64 (0 : Nat), .float .f64 (0 : Nat)]) ?_ 0 _ rfl; (with_reducible repeat (first | refine blk_drewN ?_ _ | refine blk_drew ?_ | refine blk_alloc ?_ _)); exact BK154.out⟩, ⟨bel_ HB.out⟩⟩
     case rest =>
      clear HC13
      try clear c2
      try clear c3
      try clear c7
      try clear c7b0
      try clear c7b1
      try clear c7b2
      try clear c9
      try clear c9b0
      try clear c10
      try clear c10b0
      try clear hcz17_0
      try clear hcz17_1
      try clear hcz23_0
      try clear hcz23_1
      try clear hfz17_0
      try clear hfz17_1
      try clear hfz23_0
      try clear hfz23_1
      try clear hx147_0
      try clear hx147_1
      try clear p147
      try clear q147
      obtain ⟨kq, x55_12, rfl, HA, HJ12, BK142, BK148, BK154, HB⟩ := hcut
      cases kq with
      | zero => exact absurd HA.out (by simp [laws_FnOver.j0])
      | succ kj12 =>
       have H := HA.out
       clear HA
       simp only [laws_FnOver.j0] at H
       by_cases c40 : x55_12 = true
       ·subst c40
        have H1 : (some false) = some r := by rw [if_pos rfl] at H; exact H
        clear H
        have H := H1
        clear H1
        obtain rfl := Option.some.inj H
        go_wp2
        go_ret
        exact ⟨by first | rfl | (simp [errW_none, errW_some] <;> rfl) | (simp only [← hji8]; first | rfl | (simp [errW_none, errW_some] <;> rfl)) | (simp [*, errW_none, errW_some] <;> rfl), bel_ HB.out⟩
       ·replace c40 := Bool.eq_false_iff.mpr c40
        subst c40
        have H1 : ((impl_Barred.f (floatOfInt .f64 (wrap64 (t140 - 128))) (floatOfInt .f64 (wrap64 (t141 - 128)))).bind fun bt156 => ((impl_Barred.f bt156.1 bt156.2).bind fun bt158 => ((impl_Barred.f (floatOfInt .f64 (wrap64 (t140 - 128))) (floatOfInt .f64 (wrap64 (t141 - 128)))).bind fun bt161 => ((impl_Times.f (floatOfInt .f64 (wrap64 (t140 - 128))) (floatOfInt .f64 (wrap64 (t141 - 128))) bt161.1 bt161.2).bind fun bt163 => ((impl_Over.f kj12 (floatOfInt .f64 (wrap64 (t140 - 128))) (floatOfInt .f64 (wrap64 (t141 - 128))) (0 : Nat) (0 : Nat)).bind fun bt166 => (laws_FnOver.j1 kj12 l0 bt166.2.2 (floatOfInt .f64 (wrap64 (t140 - 128))) (floatOfInt .f64 (wrap64 (t141 - 128))) bt158.1 bt158.2 bt163.1 bt163.2)))))) = some r := by rw [if_neg (show ¬ (false = true) by decide)] at H; exact H
        clear H
        have H := H1
        clear H1
        replace H := Option.bind_eq_some_iff.mp H
        obtain ⟨⟨t156, t157⟩, A410, H⟩ := H
        replace H : ((impl_Barred.f t156 t157).bind fun bt158 => ((impl_Barred.f (floatOfInt .f64 (wrap64 (t140 - 128))) (floatOfInt .f64 (wrap64 (t141 - 128)))).bind fun bt161 => ((impl_Times.f (floatOfInt .f64 (wrap64 (t140 - 128))) (floatOfInt .f64 (wrap64 (t141 - 128))) bt161.1 bt161.2).bind fun bt163 => ((impl_Over.f kj12 (floatOfInt .f64 (wrap64 (t140 - 128))) (floatOfInt .f64 (wrap64 (t141 - 128))) (0 : Nat) (0 : Nat)).bind fun bt166 => (laws_FnOver.j1 kj12 l0 bt166.2.2 (floatOfInt .f64 (wrap64 (t140 - 128))) (floatOfInt .f64 (wrap64 (t141 - 128))) bt158.1 bt158.2 bt163.1 bt163.2))))) = some r := H
        have A41 := Aside0.mk A410
        clear A410
        replace H := Option.bind_eq_some_iff.mp H
        obtain ⟨⟨t158, t159⟩, A420, H⟩ := H
        replace H : ((impl_Barred.f (floatOfInt .f64 (wrap64 (t140 - 128))) (floatOfInt .f64 (wrap64 (t141 - 128)))).bind fun bt161 => ((impl_Times.f (floatOfInt .f64 (wrap64 (t140 - 128))) (floatOfInt .f64 (wrap64 (t141 - 128))) bt161.1 bt161.2).bind fun bt163 => ((impl_Over.f kj12 (floatOfInt .f64 (wrap64 (t140 - 128))) (floatOfInt .f64 (wrap64 (t141 - 128))) (0 : Nat) (0 : Nat)).bind fun bt166 => (laws_FnOver.j1 kj12 l0 bt166.2.2 (floatOfInt .f64 (wrap64 (t140 - 128))) (floatOfInt .f64 (wrap64 (t141 - 128))) t158 t159 bt163.1 bt163.2)))) = some r := H
        have A42 := Aside0.mk A420
        clear A420
        replace H := Option.bind_eq_some_iff.mp H
        obtain ⟨⟨t161, t162⟩, A430, H⟩ := H
        replace H : ((impl_Times.f (floatOfInt .f64 (wrap64 (t140 - 128))) (floatOfInt .f64 (wrap64 (t141 - 128))) t161 t162).bind fun bt163 => ((impl_Over.f kj12 (floatOfInt .f64 (wrap64 (t140 - 128))) (floatOfInt .f64 (wrap64 (t141 - 128))) (0 : Nat) (0 : Nat)).bind fun bt166 => (laws_FnOver.j1 kj12 l0 bt166.2.2 (floatOfInt .f64 (wrap64 (t140 - 128))) (floatOfInt .f64 (wrap64 (t141 - 128))) t158 t159 bt163.1 bt163.2))) = some r := H
        have A43 := Aside0.mk A430
        clear A430
        replace H := Option.bind_eq_some_iff.mp H
        obtain ⟨⟨t163, t164⟩, A440, H⟩ := H
        replace H : ((impl_Over.f kj12 (floatOfInt .f64 (wrap64 (t140 - 128))) (floatOfInt .f64 (wrap64 (t141 - 128))) (0 : Nat) (0 : Nat)).bind fun bt166 => (laws_FnOver.j1 kj12 l0 bt166.2.2 (floatOfInt .f64 (wrap64 (t140 - 128))) (floatOfInt .f64 (wrap64 (t141 - 128))) t158 t159 t163 t164)) = some r := H
        have A44 := Aside0.mk A440
        clear A440
        have HC45 := Aside0.mk H
        clear H
        have hnb46 := NB142_148.out
        have hnc46 := NB148_142.out
        have hnb47 := NB142_154.out
        have hnc47 := NB154_142.out
        have hcz48_0 : wc.cell? ⟨gb142, 0, none⟩ = some (.float .f64 (floatOfInt .f64 (wrap64 (t140 - 128)))) := (blk_cell BK142.out 0).trans rfl
        have hcz48_1 : wc.cell? ⟨gb142, 1, none⟩ = some (.float .f64 (floatOfInt .f64 (wrap64 (t141 - 128)))) := (blk_cell BK142.out 1).trans rfl
        have hfz48_0 := blk_frozen BK142.out 0
        have hfz48_1 := blk_frozen BK142.out 1
        try go_wp2_with (first | ((with_reducible refine gate_callee (f := 14) rfl ?_); refine goesL_ (some 57) rfl rfl Try.func14 (by kernel_rfl) rfl #[.agg #[.float .f64 (floatOfInt .f64 (wrap64 (t140 - 128))), .float .f64 (floatOfInt .f64 (wrap64 (t141 - 128)))]] rfl (by (try simp only [List.map_toArray, List.map_cons, List.map_nil]); first | done | rfl | (simp only [List.length_drop, List.length_take]; rfl)) ?_; (with_reducible refine (impl_Barred.calls (floatOfInt .f64 (wrap64 (t140 - 128))) (floatOfInt .f64 (wrap64 (t141 - 128))) t156 t157 _ A41.out).mono ?_); rintro e w49 ⟨rfl, hb⟩; refine ⟨_, rfl, ?_⟩; have n0_ := Aside0.mk (blk_below (g := gb142) (o := .cells #[.float .f64 (floatOfInt .f64 (wrap64 (t140 - 128))), .float .f64 (floatOfInt .f64 (wrap64 (t141 - 128)))] 28 (0, 0)) (fb_ BK142.out) hb); have n1_ := Aside0.mk (blk_below (g := gb148) (o := .cells #[.float .f64 ((rd_T28 y143 (ji8)).f0), .float .f64 ((rd_T28 y143 (ji8)).f1)] 28 (0, 0)) (fb_ BK148.out) hb); have n2_ := Aside0.mk (blk_below (g := gb154) (o := .cells #[.float .f64 t151, .float .f64 t152] 28 (0, 0)) (fb_ BK154.out) hb); have n3_ := Aside0.mk (below_step (bel_ HB.out) hb); clear BK142; clear BK148; clear BK154; clear HB; have BK142 := n0_; have BK148 := n1_; have BK154 := n2_; have HB := n3_; clear n0_ n1_ n2_ n3_; (try clear hb); (try clear hb2); (try clear hk); (try clear hi)) | ((with_reducible refine gate_callee (f := 14) rfl ?_); refine goesL_ (some 58) rfl rfl Try.func14 (by kernel_rfl) rfl #[.agg #[.float .f64 t156, .float .f64 t157]] rfl (by (try simp only [List.map_toArray, List.map_cons, List.map_nil]); first | done | rfl | (simp only [List.length_drop, List.length_take]; rfl)) ?_; (with_reducible refine (impl_Barred.calls t156 t157 t158 t159 _ A42.out).mono ?_); rintro e w50 ⟨rfl, hb⟩; refine ⟨_, rfl, ?_⟩; have n0_ := Aside0.mk (blk_below (g := gb142) (o := .cells #[.float .f64 (floatOfInt .f64 (wrap64 (t140 - 128))), .float .f64 (floatOfInt .f64 (wrap64 (t141 - 128)))] 28 (0, 0)) (fb_ BK142.out) hb); have n1_ := Aside0.mk (blk_below (g := gb148) (o := .cells #[.float .f64 ((rd_T28 y143 (ji8)).f0), .float .f64 ((rd_T28 y143 (ji8)).f1)] 28 (0, 0)) (fb_ BK148.out) hb); have n2_ := Aside0.mk (blk_below (g := gb154) (o := .cells #[.float .f64 t151, .float .f64 t152] 28 (0, 0)) (fb_ BK154.out) hb); have n3_ := Aside0.mk (below_step (bel_ HB.out) hb); clear BK142; clear BK148; clear BK154; clear HB; have BK142 := n0_; have BK148 := n1_; have BK154 := n2_; have HB := n3_; clear n0_ n1_ n2_ n3_; (try clear hb); (try clear hb2); (try clear hk); (try clear hi)) | ((with_reducible refine gate_dst (N := 8) rfl ?_); refine box_event ?hg (N := 8) ?hd (cs := #[.float .f64 (0 : Nat), .float .f64 (0 : Nat)]) (t := 28) ?hr ?_; (case hd => rfl); (case hg => rfl); (case hr => first | (go_simp; done) | (go_simp; rfl)); intro gb160 hg w51 hbox hb; have n0_ := Aside0.mk (blk_below (g := gb142) (o := .cells #[.float .f64 (floatOfInt .f64 (wrap64 (t140 - 128))), .float .f64 (floatOfInt .f64 (wrap64 (t141 - 128)))] 28 (0, 0)) (fb_ BK142.out) hb); have n1_ := Aside0.mk (blk_below (g := gb148) (o := .cells #[.float .f64 ((rd_T28 y143 (ji8)).f0), .float .f64 ((rd_T28 y143 (ji8)).f1)] 28 (0, 0)) (fb_ BK148.out) hb); have n2_ := Aside0.mk (blk_below (g := gb154) (o := .cells #[.float .f64 t151, .float .f64 t152] 28 (0, 0)) (fb_ BK154.out) hb); have n3_ := Aside0.mk (below_step (bel_ HB.out) hb); have n4_ := Aside0.mk (hbox); have n5_ := Aside0.mk ((by rw [hg]; exact (below_size (bel_ HB.out)) : w.heap.size ≤ gb160)); have n6_ := Aside0.mk ((by rw [hg]; exact (below_size (bel_ HB.out)) : w.heap.size ≤ gb160)); have n7_ := Aside0.mk ((by rw [hg]; exact Nat.ne_of_lt (blk_lt (g := gb142) (o := .cells #[.float .f64 (floatOfInt .f64 (wrap64 (t140 - 128))), .float .f64 (floatOfInt .f64 (wrap64 (t141 - 128)))] 28 (0, 0)) (fb_ BK142.out)) : gb142 ≠ gb160)); have n8_ := Aside0.mk ((by rw [hg]; exact Nat.ne_of_gt (blk_lt (g := gb142) (o := .cells #[.float .f64 (floatOfInt .f64 (wrap64 (t140 - 128))), .float .f64 (floatOfInt .f64 (wrap64 (t141 - 128)))] 28 (0, 0)) (fb_ BK142.out)) : gb160 ≠ gb142)); have n9_ := Aside0.mk ((by rw [hg]; exact Nat.ne_of_lt (blk_lt (g := gb148) (o := .cells #[.float .f64 ((rd_T28 y143 (ji8)).f0), .float .f64 ((rd_T28 y143 (ji8)).f1)] 28 (0, 0)) (fb_ BK148.out)) : gb148 ≠ gb160)); have n10_ := Aside0.mk ((by rw [hg]; exact Nat.ne_of_gt (blk_lt (g := gb148) (o := .cells #[.float .f64 ((rd_T28 y143 (ji8)).f0), .float .f64 ((rd_T28 y143 (ji8)).f1)] 28 (0, 0)) (fb_ BK148.out)) : gb160 ≠ gb148)); have n11_ := Aside0.mk ((by rw [hg]; exact Nat.ne_of_lt (blk_lt (g := gb154) (o := .cells #[.float .f64 t151, .float .f64 t152] 28 (0, 0)) (fb_ BK154.out)) : gb154 ≠ gb160)); have n12_ := Aside0.mk ((by rw [hg]; exact Nat.ne_of_gt (blk_lt (g := gb154) (o := .cells #[.float .f64 t151, .float .f64 t152] 28 (0, 0)) (fb_ BK154.out)) : gb160 ≠ gb154)); clear BK142; clear BK148; clear BK154; clear HB; have BK142 := n0_; have BK148 := n1_; have BK154 := n2_; have HB := n3_; have BK160 := n4_; have GW160 := n5_; have GE160 := n6_; have NB142_160 := n7_; have NB160_142 := n8_; have NB148_160 := n9_; have NB160_148 := n10_; have NB154_160 := n11_; have NB160_154 := n12_; clear n0_ n1_ n2_ n3_ n4_ n5_ n6_ n7_ n8_ n9_ n10_ n11_ n12_; clear hb hbox hg; have hnb52 := NB160_142.out; have hnc52 := NB142_160.out; have hnb53 := NB160_148.out; have hnc53 := NB148_160.out; have hnb54 := NB160_154.out; have hnc54 := NB154_160.out; have hcz55_0 : w51.cell? ⟨gb160, 0, none⟩ = some (.float .f64 (0 : Nat)) := (blk_cell BK160.out 0).trans rfl; have hcz55_1 : w51.cell? ⟨gb160, 1, none⟩ = some (.float .f64 (0 : Nat)) := (blk_cell BK160.out 1).trans rfl; have hfz55_0 := blk_frozen BK160.out 0; have hfz55_1 := blk_frozen BK160.out 1))
        have n0_ : Aside0 (((w51.setCell ⟨gb160, 0, none⟩ (.float .f64 t158)).setCell ⟨gb160, 1, none⟩ (.float .f64 t159)).heap[gb142]? = some (.cells #[.float .f64 (floatOfInt .f64 (wrap64 (t140 - 128))), .float .f64 (floatOfInt .f64 (wrap64 (t141 - 128)))] 28 (0, 0))) := ⟨by (with_reducible repeat (first | refine blk_drewN ?_ _ | refine blk_drew ?_ | refine blk_alloc ?_ _)); refine blk_far ?_ NB142_160.out _; (with_reducible repeat (first | refine blk_drewN ?_ _ | refine blk_drew ?_ | refine blk_alloc ?_ _)); refine blk_far ?_ NB142_160.out _; (with_reducible repeat (first | refine blk_drewN ?_ _ | refine blk_drew ?_ | refine blk_alloc ?_ _)); exact BK142.out⟩
        have n1_ : Aside0 (((w51.setCell ⟨gb160, 0, none⟩ (.float .f64 t158)).setCell ⟨gb160, 1, none⟩ (.float .f64 t159)).heap[gb148]? = some (.cells #[.float .f64 ((rd_T28 y143 (ji8)).f0), .float .f64 ((rd_T28 y143 (ji8)).f1)] 28 (0, 0))) := ⟨by (with_reducible repeat (first | refine blk_drewN ?_ _ | refine blk_drew ?_ | refine blk_alloc ?_ _)); refine blk_far ?_ NB148_160.out _; (with_reducible repeat (first | refine blk_drewN ?_ _ | refine blk_drew ?_ | refine blk_alloc ?_ _)); refine blk_far ?_ NB148_160.out _; (with_reducible repeat (first | refine blk_drewN ?_ _ | refine blk_drew ?_ | refine blk_alloc ?_ _)); exact BK148.out⟩
        have n2_ : Aside0 (((w51.setCell ⟨gb160, 0, none⟩ (.float .f64 t158)).setCell ⟨gb160, 1, none⟩ (.float .f64 t159)).heap[gb154]? = some (.cells #[.float .f64 t151, .float .f64 t152] 28 (0, 0))) := ⟨by (with_reducible repeat (first | refine blk_drewN ?_ _ | refine blk_drew ?_ | refine blk_alloc ?_ _)); refine blk_far ?_ NB154_160.out _; (with_reducible repeat (first | refine blk_drewN ?_ _ | refine blk_drew ?_ | refine blk_alloc ?_ _)); refine blk_far ?_ NB154_160.out _; (with_reducible repeat (first | refine blk_drewN ?_ _ | refine blk_drew ?_ | refine blk_alloc ?_ _)); exact BK154.out⟩
        have n3_ : Aside0 (((w51.setCell ⟨gb160, 0, none⟩ (.float .f64 t158)).setCell ⟨gb160, 1, none⟩ (.float .f64 t159)).heap[gb160]? = some (.cells #[.float .f64 t158, .float .f64 t159] 28 (0, 0))) := ⟨by (with_reducible repeat (first | refine blk_drewN ?_ _ | refine blk_drew ?_ | refine blk_alloc ?_ _)); refine blk_put (cs := #[.float .f64 t158, .float .f64 (0 : Nat)]) ?_ 1 _ rfl; (with_reducible repeat (first | refine blk_drewN ?_ _ | refine blk_drew ?_ | refine blk_alloc ?_ _)); refine blk_put (cs := #[.float .f64 (0 : Nat), .float .f64 (0 : Nat)]) ?_ 0 _ rfl; (with_reducible repeat (first | refine blk_drewN ?_ _ | refine blk_drew ?_ | refine blk_alloc ?_ _)); exact BK160.out⟩
        have n4_ : Aside0 (Below w.heap.size w ((w51.setCell ⟨gb160, 0, none⟩ (.float .f64 t158)).setCell ⟨gb160, 1, none⟩ (.float .f64 t159))) := ⟨bel_ HB.out⟩
        (try clear BK142)
        (try clear BK148)
        (try clear BK154)
        (try clear BK160)
        (try clear HB)
        generalize ((w51.setCell ⟨gb160, 0, none⟩ (.float .f64 t158)).setCell ⟨gb160, 1, none⟩ (.float .f64 t159)) = w56 at n0_ n1_ n2_ n3_ n4_ ⊢
        have BK142 := n0_
        have BK148 := n1_
        have BK154 := n2_
        have BK160 := n3_
        have HB := n4_
        clear n0_ n1_ n2_ n3_ n4_
        have n0_ := Aside0.mk (blk_drew BK142.out)
        have n1_ := Aside0.mk (blk_drew BK148.out)
        have n2_ := Aside0.mk (blk_drew BK154.out)
        have n3_ := Aside0.mk (blk_drew BK160.out)
        have n4_ := Aside0.mk (below_drew1 HB.out)
        clear BK142
        clear BK148
        clear BK154
        clear BK160
        clear HB
        have BK142 := n0_
        have BK148 := n1_
        have BK154 := n2_
        have BK160 := n3_
        have HB := n4_
        clear n0_ n1_ n2_ n3_ n4_
        refine start_ (n := 6) (S := fun w' => w'.cell? ⟨gb142, 0, none⟩ = some (.float .f64 (floatOfInt .f64 (wrap64 (t140 - 128)))) ∧ w'.cell? ⟨gb142, 1, none⟩ = some (.float .f64 (floatOfInt .f64 (wrap64 (t141 - 128))))) (ds := []) (bs 6 0) (by kernel_rfl) rfl rfl ⟨(blk_cell BK142.out 0).trans rfl, (blk_cell BK142.out 1).trans rfl⟩ (fun hHeld => ?_)
        generalize w56.drew = w57 at BK142 BK148 BK154 BK160 HB hHeld ⊢
        refine take_ (i := 0) (N := some 59) (v := ?_) (a' := ?_) (bs 6 1) rfl rfl (by kernel_rfl) (fun _ _ _ h => h) (Or.inl ⟨by rfl, ?_⟩) hHeld ?_ ?_
        rotate_left
        ·rintro w' ⟨s0, s1⟩
         go_simp
         with_reducible rfl
        rotate_left
        ·simp only [Act.put, sA_, sZ_, sS_, i64_w, i32_w]
         rfl
        refine take_ (i := 1) (N := some 60) (v := ?_) (a' := ?_) (bs 6 3) rfl rfl (by kernel_rfl) (fun _ _ _ h => h) (Or.inl ⟨by rfl, ?_⟩) hHeld ?_ ?_
        rotate_left
        ·rintro w' ⟨s0, s1⟩
         go_simp
         with_reducible rfl
        rotate_left
        ·simp only [Act.put, sA_, sZ_, sS_, i64_w, i32_w]
         rfl
        refine join_ (σ := Nat) 1 (bs 6 31) (fun s_ => [(61, .agg #[.float .f64 t161, .float .f64 t162]), (62, .agg #[.float .f64 t163, .float .f64 t164]), (9, .pointer (some ⟨s_, 0, none⟩))]) (fun s_ w' => (w'.cell? ⟨gb142, 0, none⟩ = some (.float .f64 (floatOfInt .f64 (wrap64 (t140 - 128)))) ∧ w'.cell? ⟨gb142, 1, none⟩ = some (.float .f64 (floatOfInt .f64 (wrap64 (t141 - 128))))) ∧ (w'.heap[gb142]? = some (.cells #[.float .f64 (floatOfInt .f64 (wrap64 (t140 - 128))), .float .f64 (floatOfInt .f64 (wrap64 (t141 - 128)))] 28 (0, 0))) ∧ (w'.heap[gb148]? = some (.cells #[.float .f64 ((rd_T28 y143 (ji8)).f0), .float .f64 ((rd_T28 y143 (ji8)).f1)] 28 (0, 0))) ∧ (w'.heap[gb154]? = some (.cells #[.float .f64 t151, .float .f64 t152] 28 (0, 0))) ∧ (w'.heap[gb160]? = some (.cells #[.float .f64 t158, .float .f64 t159] 28 (0, 0))) ∧ (w'.heap[s_]? = some (.cells #[.float .f64 (0 : Nat), .float .f64 (0 : Nat)] 28 (0, 0))) ∧ (w.heap.size ≤ s_) ∧ (w.heap.size ≤ s_) ∧ (gb142 ≠ s_) ∧ (s_ ≠ gb142) ∧ (gb148 ≠ s_) ∧ (s_ ≠ gb148) ∧ (gb154 ≠ s_) ∧ (s_ ≠ gb154) ∧ (gb160 ≠ s_) ∧ (s_ ≠ gb160) ∧ (Below w.heap.size w w')) ?_ ?_
        rotate_left
        ·intro hCont
         refine two_ (i := 2) (j := 4) (Ni := some 61) (Nj := some 9) (bs 6 7) (bs 6 19) rfl rfl rfl rfl (by kernel_rfl) (by decide) (by decide) (fun K hK => ?_) (fun K hK => ?_)
         ·skip
          refine goes_ Try.func14 (by kernel_rfl) rfl #[.agg #[.float .f64 (floatOfInt .f64 (wrap64 (t140 - 128))), .float .f64 (floatOfInt .f64 (wrap64 (t141 - 128)))]] (by rfl) rfl rfl (by (try simp only [List.map_toArray, List.map_cons, List.map_nil]); first | done | rfl | (simp only [List.length_drop, List.length_take]; rfl)) ?_
          with_reducible refine (impl_Barred.calls (floatOfInt .f64 (wrap64 (t140 - 128))) (floatOfInt .f64 (wrap64 (t141 - 128))) t161 t162 _ A43.out).mono ?_
          rintro e w58 ⟨rfl, hb⟩
          refine ⟨_, rfl, ?_⟩
          have n0_ := Aside0.mk (blk_below (g := gb142) (o := .cells #[.float .f64 (floatOfInt .f64 (wrap64 (t140 - 128))), .float .f64 (floatOfInt .f64 (wrap64 (t141 - 128)))] 28 (0, 0)) (fb_ BK142.out) hb)
          have n1_ := Aside0.mk (blk_below (g := gb148) (o := .cells #[.float .f64 ((rd_T28 y143 (ji8)).f0), .float .f64 ((rd_T28 y143 (ji8)).f1)] 28 (0, 0)) (fb_ BK148.out) hb)
          have n2_ := Aside0.mk (blk_below (g := gb154) (o := .cells #[.float .f64 t151, .float .f64 t152] 28 (0, 0)) (fb_ BK154.out) hb)
          have n3_ := Aside0.mk (blk_below (g := gb160) (o := .cells #[.float .f64 t158, .float .f64 t159] 28 (0, 0)) (fb_ BK160.out) hb)
          have n4_ := Aside0.mk (below_step (bel_ HB.out) hb)
          clear BK142
          clear BK148
          clear BK154
          clear BK160
          clear HB
          have BK142 := n0_
          have BK148 := n1_
          have BK154 := n2_
          have BK160 := n3_
          have HB := n4_
          clear n0_ n1_ n2_ n3_ n4_
          (try clear hb)
          (try clear hb2)
          (try clear hk)
          (try clear hi)
          refine hK.out _ _ ⟨(blk_cell BK142.out 0).trans rfl, (blk_cell BK142.out 1).trans rfl⟩ (fun hHeld => ?_)
          clear hK K
          refine norm_ (a' := ?_) ?_ ?_
          rotate_left
          ·show Act.put _ (some 61) _ = _
           simp only [Act.put, sA_, sZ_, sS_, i64_w, i32_w]
           rfl
          refine two_ (i := 3) (j := 4) (Ni := some 62) (Nj := some 9) (bs 6 15) (bs 6 23) rfl rfl rfl rfl (by kernel_rfl) (by decide) (by decide) (fun K hK => ?_) (fun K hK => ?_)
          ·skip
           refine goes_ Try.func12 (by kernel_rfl) rfl #[.agg #[.float .f64 (floatOfInt .f64 (wrap64 (t140 - 128))), .float .f64 (floatOfInt .f64 (wrap64 (t141 - 128)))], .agg #[.float .f64 t161, .float .f64 t162]] (by rfl) rfl rfl (by (try simp only [List.map_toArray, List.map_cons, List.map_nil]); first | done | rfl | (simp only [List.length_drop, List.length_take]; rfl)) ?_
           with_reducible refine (impl_Times.calls (floatOfInt .f64 (wrap64 (t140 - 128))) (floatOfInt .f64 (wrap64 (t141 - 128))) t161 t162 t163 t164 _ A44.out).mono ?_
           rintro e w59 ⟨rfl, hb⟩
           refine ⟨_, rfl, ?_⟩
           have n0_ := Aside0.mk (blk_below (g := gb142) (o := .cells #[.float .f64 (floatOfInt .f64 (wrap64 (t140 - 128))), .float .f64 (floatOfInt .f64 (wrap64 (t141 - 128)))] 28 (0, 0)) (fb_ BK142.out) hb)
           have n1_ := Aside0.mk (blk_below (g := gb148) (o := .cells #[.float .f64 ((rd_T28 y143 (ji8)).f0), .float .f64 ((rd_T28 y143 (ji8)).f1)] 28 (0, 0)) (fb_ BK148.out) hb)
           have n2_ := Aside0.mk (blk_below (g := gb154) (o := .cells #[.float .f64 t151, .float .f64 t152] 28 (0, 0)) (fb_ BK154.out) hb)
           have n3_ := Aside0.mk (blk_below (g := gb160) (o := .cells #[.float .f64 t158, .float .f64 t159] 28 (0, 0)) (fb_ BK160.out) hb)
           have n4_ := Aside0.mk (below_step (bel_ HB.out) hb)
           clear BK142
           clear BK148
           clear BK154
           clear BK160
           clear HB
           have BK142 := n0_
           have BK148 := n1_
           have BK154 := n2_
           have BK160 := n3_
           have HB := n4_
           clear n0_ n1_ n2_ n3_ n4_
           (try clear hb)
           (try clear hb2)
           (try clear hk)
           (try clear hi)
           refine hK.out _ _ ⟨(blk_cell BK142.out 0).trans rfl, (blk_cell BK142.out 1).trans rfl⟩ (fun hHeld => ?_)
           clear hK K
           refine norm_ (a' := ?_) ?_ ?_
           rotate_left
           ·show Act.put _ (some 62) _ = _
            simp only [Act.put, sA_, sZ_, sS_, i64_w, i32_w]
            rfl
           refine one_ (i := 4) (N := some 9) (bs 6 31) rfl rfl (by kernel_rfl) (by decide) (fun K hK => ?_)
           refine box_step ?hg (N := 9) ?hd (cs := #[.float .f64 (0 : Nat), .float .f64 (0 : Nat)]) (t := 28) ?hr ?_; (case hd => rfl); (case hg => rfl); (case hr => first | (go_simp; done) | (go_simp; rfl))
           intro gb165 hg w60 hbox hb
           have n0_ := Aside0.mk (blk_below (g := gb142) (o := .cells #[.float .f64 (floatOfInt .f64 (wrap64 (t140 - 128))), .float .f64 (floatOfInt .f64 (wrap64 (t141 - 128)))] 28 (0, 0)) (fb_ BK142.out) hb)
           have n1_ := Aside0.mk (blk_below (g := gb148) (o := .cells #[.float .f64 ((rd_T28 y143 (ji8)).f0), .float .f64 ((rd_T28 y143 (ji8)).f1)] 28 (0, 0)) (fb_ BK148.out) hb)
           have n2_ := Aside0.mk (blk_below (g := gb154) (o := .cells #[.float .f64 t151, .float .f64 t152] 28 (0, 0)) (fb_ BK154.out) hb)
           have n3_ := Aside0.mk (blk_below (g := gb160) (o := .cells #[.float .f64 t158, .float .f64 t159] 28 (0, 0)) (fb_ BK160.out) hb)
           have n4_ := Aside0.mk (below_step (bel_ HB.out) hb)
           have n5_ := Aside0.mk (hbox)
           have n6_ := Aside0.mk ((by rw [hg]; exact (below_size (bel_ HB.out)) : w.heap.size ≤ gb165))
           have n7_ := Aside0.mk ((by rw [hg]; exact (below_size (bel_ HB.out)) : w.heap.size ≤ gb165))
           have n8_ := Aside0.mk ((by rw [hg]; exact Nat.ne_of_lt (blk_lt (g := gb142) (o := .cells #[.float .f64 (floatOfInt .f64 (wrap64 (t140 - 128))), .float .f64 (floatOfInt .f64 (wrap64 (t141 - 128)))] 28 (0, 0)) (fb_ BK142.out)) : gb142 ≠ gb165))
           have n9_ := Aside0.mk ((by rw [hg]; exact Nat.ne_of_gt (blk_lt (g := gb142) (o := .cells #[.float .f64 (floatOfInt .f64 (wrap64 (t140 - 128))), .float .f64 (floatOfInt .f64 (wrap64 (t141 - 128)))] 28 (0, 0)) (fb_ BK142.out)) : gb165 ≠ gb142))
           have n10_ := Aside0.mk ((by rw [hg]; exact Nat.ne_of_lt (blk_lt (g := gb148) (o := .cells #[.float .f64 ((rd_T28 y143 (ji8)).f0), .float .f64 ((rd_T28 y143 (ji8)).f1)] 28 (0, 0)) (fb_ BK148.out)) : gb148 ≠ gb165))
           have n11_ := Aside0.mk ((by rw [hg]; exact Nat.ne_of_gt (blk_lt (g := gb148) (o := .cells #[.float .f64 ((rd_T28 y143 (ji8)).f0), .float .f64 ((rd_T28 y143 (ji8)).f1)] 28 (0, 0)) (fb_ BK148.out)) : gb165 ≠ gb148))
           have n12_ := Aside0.mk ((by rw [hg]; exact Nat.ne_of_lt (blk_lt (g := gb154) (o := .cells #[.float .f64 t151, .float .f64 t152] 28 (0, 0)) (fb_ BK154.out)) : gb154 ≠ gb165))
           have n13_ := Aside0.mk ((by rw [hg]; exact Nat.ne_of_gt (blk_lt (g := gb154) (o := .cells #[.float .f64 t151, .float .f64 t152] 28 (0, 0)) (fb_ BK154.out)) : gb165 ≠ gb154))
           have n14_ := Aside0.mk ((by rw [hg]; exact Nat.ne_of_lt (blk_lt (g := gb160) (o := .cells #[.float .f64 t158, .float .f64 t159] 28 (0, 0)) (fb_ BK160.out)) : gb160 ≠ gb165))
           have n15_ := Aside0.mk ((by rw [hg]; exact Nat.ne_of_gt (blk_lt (g := gb160) (o := .cells #[.float .f64 t158, .float .f64 t159] 28 (0, 0)) (fb_ BK160.out)) : gb165 ≠ gb160))
           clear BK142
           clear BK148
           clear BK154
           clear BK160
           clear HB
           have BK142 := n0_
           have BK148 := n1_
           have BK154 := n2_
           have BK160 := n3_
           have HB := n4_
           have BK165 := n5_
           have GW165 := n6_
           have GE165 := n7_
           have NB142_165 := n8_
           have NB165_142 := n9_
           have NB148_165 := n10_
           have NB165_148 := n11_
           have NB154_165 := n12_
           have NB165_154 := n13_
           have NB160_165 := n14_
           have NB165_160 := n15_
           clear n0_ n1_ n2_ n3_ n4_ n5_ n6_ n7_ n8_ n9_ n10_ n11_ n12_ n13_ n14_ n15_
           clear hb hbox hg
           refine hK.out _ _ ⟨(blk_cell BK142.out 0).trans rfl, (blk_cell BK142.out 1).trans rfl⟩ (fun hHeld => ?_)
           clear hK K
           refine norm_ (a' := ?_) ?_ ?_
           rotate_left
           ·show Act.put _ (some 9) _ = _
            simp only [Act.put, sA_, sZ_, sS_, i64_w, i32_w]
            rfl
           exact norm_ (by simp only [putAll, Act.put, sA_, sZ_, sS_]) (hCont (gb165) _ ⟨hHeld, (fb_ BK142.out), (fb_ BK148.out), (fb_ BK154.out), (fb_ BK160.out), (fb_ BK165.out), GW165.out, GE165.out, NB142_165.out, NB165_142.out, NB148_165.out, NB165_148.out, NB154_165.out, NB165_154.out, NB160_165.out, NB165_160.out, (bel_ HB.out)⟩)
          ·skip
           refine box_step ?hg (N := 9) ?hd (cs := #[.float .f64 (0 : Nat), .float .f64 (0 : Nat)]) (t := 28) ?hr ?_; (case hd => rfl); (case hg => rfl); (case hr => first | (go_simp; done) | (go_simp; rfl))
           intro gb165 hg w59 hbox hb
           have n0_ := Aside0.mk (blk_below (g := gb142) (o := .cells #[.float .f64 (floatOfInt .f64 (wrap64 (t140 - 128))), .float .f64 (floatOfInt .f64 (wrap64 (t141 - 128)))] 28 (0, 0)) (fb_ BK142.out) hb)
           have n1_ := Aside0.mk (blk_below (g := gb148) (o := .cells #[.float .f64 ((rd_T28 y143 (ji8)).f0), .float .f64 ((rd_T28 y143 (ji8)).f1)] 28 (0, 0)) (fb_ BK148.out) hb)
           have n2_ := Aside0.mk (blk_below (g := gb154) (o := .cells #[.float .f64 t151, .float .f64 t152] 28 (0, 0)) (fb_ BK154.out) hb)
           have n3_ := Aside0.mk (blk_below (g := gb160) (o := .cells #[.float .f64 t158, .float .f64 t159] 28 (0, 0)) (fb_ BK160.out) hb)
           have n4_ := Aside0.mk (below_step (bel_ HB.out) hb)
           have n5_ := Aside0.mk (hbox)
           have n6_ := Aside0.mk ((by rw [hg]; exact (below_size (bel_ HB.out)) : w.heap.size ≤ gb165))
           have n7_ := Aside0.mk ((by rw [hg]; exact (below_size (bel_ HB.out)) : w.heap.size ≤ gb165))
           have n8_ := Aside0.mk ((by rw [hg]; exact Nat.ne_of_lt (blk_lt (g := gb142) (o := .cells #[.float .f64 (floatOfInt .f64 (wrap64 (t140 - 128))), .float .f64 (floatOfInt .f64 (wrap64 (t141 - 128)))] 28 (0, 0)) (fb_ BK142.out)) : gb142 ≠ gb165))
           have n9_ := Aside0.mk ((by rw [hg]; exact Nat.ne_of_gt (blk_lt (g := gb142) (o := .cells #[.float .f64 (floatOfInt .f64 (wrap64 (t140 - 128))), .float .f64 (floatOfInt .f64 (wrap64 (t141 - 128)))] 28 (0, 0)) (fb_ BK142.out)) : gb165 ≠ gb142))
           have n10_ := Aside0.mk ((by rw [hg]; exact Nat.ne_of_lt (blk_lt (g := gb148) (o := .cells #[.float .f64 ((rd_T28 y143 (ji8)).f0), .float .f64 ((rd_T28 y143 (ji8)).f1)] 28 (0, 0)) (fb_ BK148.out)) : gb148 ≠ gb165))
           have n11_ := Aside0.mk ((by rw [hg]; exact Nat.ne_of_gt (blk_lt (g := gb148) (o := .cells #[.float .f64 ((rd_T28 y143 (ji8)).f0), .float .f64 ((rd_T28 y143 (ji8)).f1)] 28 (0, 0)) (fb_ BK148.out)) : gb165 ≠ gb148))
           have n12_ := Aside0.mk ((by rw [hg]; exact Nat.ne_of_lt (blk_lt (g := gb154) (o := .cells #[.float .f64 t151, .float .f64 t152] 28 (0, 0)) (fb_ BK154.out)) : gb154 ≠ gb165))
           have n13_ := Aside0.mk ((by rw [hg]; exact Nat.ne_of_gt (blk_lt (g := gb154) (o := .cells #[.float .f64 t151, .float .f64 t152] 28 (0, 0)) (fb_ BK154.out)) : gb165 ≠ gb154))
           have n14_ := Aside0.mk ((by rw [hg]; exact Nat.ne_of_lt (blk_lt (g := gb160) (o := .cells #[.float .f64 t158, .float .f64 t159] 28 (0, 0)) (fb_ BK160.out)) : gb160 ≠ gb165))
           have n15_ := Aside0.mk ((by rw [hg]; exact Nat.ne_of_gt (blk_lt (g := gb160) (o := .cells #[.float .f64 t158, .float .f64 t159] 28 (0, 0)) (fb_ BK160.out)) : gb165 ≠ gb160))
           clear BK142
           clear BK148
           clear BK154
           clear BK160
           clear HB
           have BK142 := n0_
           have BK148 := n1_
           have BK154 := n2_
           have BK160 := n3_
           have HB := n4_
           have BK165 := n5_
           have GW165 := n6_
           have GE165 := n7_
           have NB142_165 := n8_
           have NB165_142 := n9_
           have NB148_165 := n10_
           have NB165_148 := n11_
           have NB154_165 := n12_
           have NB165_154 := n13_
           have NB160_165 := n14_
           have NB165_160 := n15_
           clear n0_ n1_ n2_ n3_ n4_ n5_ n6_ n7_ n8_ n9_ n10_ n11_ n12_ n13_ n14_ n15_
           clear hb hbox hg
           refine hK.out _ _ ⟨(blk_cell BK142.out 0).trans rfl, (blk_cell BK142.out 1).trans rfl⟩ (fun hHeld => ?_)
           clear hK K
           refine norm_ (a' := ?_) ?_ ?_
           rotate_left
           ·show Act.put _ (some 9) _ = _
            simp only [Act.put, sA_, sZ_, sS_, i64_w, i32_w]
            rfl
           refine one_ (i := 3) (N := some 62) (bs 6 31) rfl rfl (by kernel_rfl) (by decide) (fun K hK => ?_)
           refine goes_ Try.func12 (by kernel_rfl) rfl #[.agg #[.float .f64 (floatOfInt .f64 (wrap64 (t140 - 128))), .float .f64 (floatOfInt .f64 (wrap64 (t141 - 128)))], .agg #[.float .f64 t161, .float .f64 t162]] (by rfl) rfl rfl (by (try simp only [List.map_toArray, List.map_cons, List.map_nil]); first | done | rfl | (simp only [List.length_drop, List.length_take]; rfl)) ?_
           with_reducible refine (impl_Times.calls (floatOfInt .f64 (wrap64 (t140 - 128))) (floatOfInt .f64 (wrap64 (t141 - 128))) t161 t162 t163 t164 _ A44.out).mono ?_
           rintro e w60 ⟨rfl, hb⟩
           refine ⟨_, rfl, ?_⟩
           have n0_ := Aside0.mk (blk_below (g := gb142) (o := .cells #[.float .f64 (floatOfInt .f64 (wrap64 (t140 - 128))), .float .f64 (floatOfInt .f64 (wrap64 (t141 - 128)))] 28 (0, 0)) (fb_ BK142.out) hb)
           have n1_ := Aside0.mk (blk_below (g := gb148) (o := .cells #[.float .f64 ((rd_T28 y143 (ji8)).f0), .float .f64 ((rd_T28 y143 (ji8)).f1)] 28 (0, 0)) (fb_ BK148.out) hb)
           have n2_ := Aside0.mk (blk_below (g := gb154) (o := .cells #[.float .f64 t151, .float .f64 t152] 28 (0, 0)) (fb_ BK154.out) hb)
           have n3_ := Aside0.mk (blk_below (g := gb160) (o := .cells #[.float .f64 t158, .float .f64 t159] 28 (0, 0)) (fb_ BK160.out) hb)
           have n4_ := Aside0.mk (blk_below (g := gb165) (o := .cells #[.float .f64 (0 : Nat), .float .f64 (0 : Nat)] 28 (0, 0)) (fb_ BK165.out) hb)
           have n5_ := Aside0.mk (below_step (bel_ HB.out) hb)
           clear BK142
           clear BK148
           clear BK154
           clear BK160
           clear BK165
           clear HB
           have BK142 := n0_
           have BK148 := n1_
           have BK154 := n2_
           have BK160 := n3_
           have BK165 := n4_
           have HB := n5_
           clear n0_ n1_ n2_ n3_ n4_ n5_
           (try clear hb)
           (try clear hb2)
           (try clear hk)
           (try clear hi)
           refine hK.out _ _ ⟨(blk_cell BK142.out 0).trans rfl, (blk_cell BK142.out 1).trans rfl⟩ (fun hHeld => ?_)
           clear hK K
           refine norm_ (a' := ?_) ?_ ?_
           rotate_left
           ·show Act.put _ (some 62) _ = _
            simp only [Act.put, sA_, sZ_, sS_, i64_w, i32_w]
            rfl
           exact norm_ (by simp only [putAll, Act.put, sA_, sZ_, sS_]) (hCont (gb165) _ ⟨hHeld, (fb_ BK142.out), (fb_ BK148.out), (fb_ BK154.out), (fb_ BK160.out), (fb_ BK165.out), GW165.out, GE165.out, NB142_165.out, NB165_142.out, NB148_165.out, NB165_148.out, NB154_165.out, NB165_154.out, NB160_165.out, NB165_160.out, (bel_ HB.out)⟩)
         ·skip
          refine box_step ?hg (N := 9) ?hd (cs := #[.float .f64 (0 : Nat), .float .f64 (0 : Nat)]) (t := 28) ?hr ?_; (case hd => rfl); (case hg => rfl); (case hr => first | (go_simp; done) | (go_simp; rfl))
          intro gb165 hg w58 hbox hb
          have n0_ := Aside0.mk (blk_below (g := gb142) (o := .cells #[.float .f64 (floatOfInt .f64 (wrap64 (t140 - 128))), .float .f64 (floatOfInt .f64 (wrap64 (t141 - 128)))] 28 (0, 0)) (fb_ BK142.out) hb)
          have n1_ := Aside0.mk (blk_below (g := gb148) (o := .cells #[.float .f64 ((rd_T28 y143 (ji8)).f0), .float .f64 ((rd_T28 y143 (ji8)).f1)] 28 (0, 0)) (fb_ BK148.out) hb)
          have n2_ := Aside0.mk (blk_below (g := gb154) (o := .cells #[.float .f64 t151, .float .f64 t152] 28 (0, 0)) (fb_ BK154.out) hb)
          have n3_ := Aside0.mk (blk_below (g := gb160) (o := .cells #[.float .f64 t158, .float .f64 t159] 28 (0, 0)) (fb_ BK160.out) hb)
          have n4_ := Aside0.mk (below_step (bel_ HB.out) hb)
          have n5_ := Aside0.mk (hbox)
          have n6_ := Aside0.mk ((by rw [hg]; exact (below_size (bel_ HB.out)) : w.heap.size ≤ gb165))
          have n7_ := Aside0.mk ((by rw [hg]; exact (below_size (bel_ HB.out)) : w.heap.size ≤ gb165))
          have n8_ := Aside0.mk ((by rw [hg]; exact Nat.ne_of_lt (blk_lt (g := gb142) (o := .cells #[.float .f64 (floatOfInt .f64 (wrap64 (t140 - 128))), .float .f64 (floatOfInt .f64 (wrap64 (t141 - 128)))] 28 (0, 0)) (fb_ BK142.out)) : gb142 ≠ gb165))
          have n9_ := Aside0.mk ((by rw [hg]; exact Nat.ne_of_gt (blk_lt (g := gb142) (o := .cells #[.float .f64 (floatOfInt .f64 (wrap64 (t140 - 128))), .float .f64 (floatOfInt .f64 (wrap64 (t141 - 128)))] 28 (0, 0)) (fb_ BK142.out)) : gb165 ≠ gb142))
          have n10_ := Aside0.mk ((by rw [hg]; exact Nat.ne_of_lt (blk_lt (g := gb148) (o := .cells #[.float .f64 ((rd_T28 y143 (ji8)).f0), .float .f64 ((rd_T28 y143 (ji8)).f1)] 28 (0, 0)) (fb_ BK148.out)) : gb148 ≠ gb165))
          have n11_ := Aside0.mk ((by rw [hg]; exact Nat.ne_of_gt (blk_lt (g := gb148) (o := .cells #[.float .f64 ((rd_T28 y143 (ji8)).f0), .float .f64 ((rd_T28 y143 (ji8)).f1)] 28 (0, 0)) (fb_ BK148.out)) : gb165 ≠ gb148))
          have n12_ := Aside0.mk ((by rw [hg]; exact Nat.ne_of_lt (blk_lt (g := gb154) (o := .cells #[.float .f64 t151, .float .f64 t152] 28 (0, 0)) (fb_ BK154.out)) : gb154 ≠ gb165))
          have n13_ := Aside0.mk ((by rw [hg]; exact Nat.ne_of_gt (blk_lt (g := gb154) (o := .cells #[.float .f64 t151, .float .f64 t152] 28 (0, 0)) (fb_ BK154.out)) : gb165 ≠ gb154))
          have n14_ := Aside0.mk ((by rw [hg]; exact Nat.ne_of_lt (blk_lt (g := gb160) (o := .cells #[.float .f64 t158, .float .f64 t159] 28 (0, 0)) (fb_ BK160.out)) : gb160 ≠ gb165))
          have n15_ := Aside0.mk ((by rw [hg]; exact Nat.ne_of_gt (blk_lt (g := gb160) (o := .cells #[.float .f64 t158, .float .f64 t159] 28 (0, 0)) (fb_ BK160.out)) : gb165 ≠ gb160))
          clear BK142
          clear BK148
          clear BK154
          clear BK160
          clear HB
          have BK142 := n0_
          have BK148 := n1_
          have BK154 := n2_
          have BK160 := n3_
          have HB := n4_
          have BK165 := n5_
          have GW165 := n6_
          have GE165 := n7_
          have NB142_165 := n8_
          have NB165_142 := n9_
          have NB148_165 := n10_
          have NB165_148 := n11_
          have NB154_165 := n12_
          have NB165_154 := n13_
          have NB160_165 := n14_
          have NB165_160 := n15_
          clear n0_ n1_ n2_ n3_ n4_ n5_ n6_ n7_ n8_ n9_ n10_ n11_ n12_ n13_ n14_ n15_
          clear hb hbox hg
          refine hK.out _ _ ⟨(blk_cell BK142.out 0).trans rfl, (blk_cell BK142.out 1).trans rfl⟩ (fun hHeld => ?_)
          clear hK K
          refine norm_ (a' := ?_) ?_ ?_
          rotate_left
          ·show Act.put _ (some 9) _ = _
           simp only [Act.put, sA_, sZ_, sS_, i64_w, i32_w]
           rfl
          refine one_ (i := 2) (N := some 61) (bs 6 23) rfl rfl (by kernel_rfl) (by decide) (fun K hK => ?_)
          refine goes_ Try.func14 (by kernel_rfl) rfl #[.agg #[.float .f64 (floatOfInt .f64 (wrap64 (t140 - 128))), .float .f64 (floatOfInt .f64 (wrap64 (t141 - 128)))]] (by rfl) rfl rfl (by (try simp only [List.map_toArray, List.map_cons, List.map_nil]); first | done | rfl | (simp only [List.length_drop, List.length_take]; rfl)) ?_
          with_reducible refine (impl_Barred.calls (floatOfInt .f64 (wrap64 (t140 - 128))) (floatOfInt .f64 (wrap64 (t141 - 128))) t161 t162 _ A43.out).mono ?_
          rintro e w59 ⟨rfl, hb⟩
          refine ⟨_, rfl, ?_⟩
          have n0_ := Aside0.mk (blk_below (g := gb142) (o := .cells #[.float .f64 (floatOfInt .f64 (wrap64 (t140 - 128))), .float .f64 (floatOfInt .f64 (wrap64 (t141 - 128)))] 28 (0, 0)) (fb_ BK142.out) hb)
          have n1_ := Aside0.mk (blk_below (g := gb148) (o := .cells #[.float .f64 ((rd_T28 y143 (ji8)).f0), .float .f64 ((rd_T28 y143 (ji8)).f1)] 28 (0, 0)) (fb_ BK148.out) hb)
          have n2_ := Aside0.mk (blk_below (g := gb154) (o := .cells #[.float .f64 t151, .float .f64 t152] 28 (0, 0)) (fb_ BK154.out) hb)
          have n3_ := Aside0.mk (blk_below (g := gb160) (o := .cells #[.float .f64 t158, .float .f64 t159] 28 (0, 0)) (fb_ BK160.out) hb)
          have n4_ := Aside0.mk (blk_below (g := gb165) (o := .cells #[.float .f64 (0 : Nat), .float .f64 (0 : Nat)] 28 (0, 0)) (fb_ BK165.out) hb)
          have n5_ := Aside0.mk (below_step (bel_ HB.out) hb)
          clear BK142
          clear BK148
          clear BK154
          clear BK160
          clear BK165
          clear HB
          have BK142 := n0_
          have BK148 := n1_
          have BK154 := n2_
          have BK160 := n3_
          have BK165 := n4_
          have HB := n5_
          clear n0_ n1_ n2_ n3_ n4_ n5_
          (try clear hb)
          (try clear hb2)
          (try clear hk)
          (try clear hi)
          refine hK.out _ _ ⟨(blk_cell BK142.out 0).trans rfl, (blk_cell BK142.out 1).trans rfl⟩ (fun hHeld => ?_)
          clear hK K
          refine norm_ (a' := ?_) ?_ ?_
          rotate_left
          ·show Act.put _ (some 61) _ = _
           simp only [Act.put, sA_, sZ_, sS_, i64_w, i32_w]
           rfl
          refine one_ (i := 3) (N := some 62) (bs 6 31) rfl rfl (by kernel_rfl) (by decide) (fun K hK => ?_)
          refine goes_ Try.func12 (by kernel_rfl) rfl #[.agg #[.float .f64 (floatOfInt .f64 (wrap64 (t140 - 128))), .float .f64 (floatOfInt .f64 (wrap64 (t141 - 128)))], .agg #[.float .f64 t161, .float .f64 t162]] (by rfl) rfl rfl (by (try simp only [List.map_toArray, List.map_cons, List.map_nil]); first | done | rfl | (simp only [List.length_drop, List.length_take]; rfl)) ?_
          with_reducible refine (impl_Times.calls (floatOfInt .f64 (wrap64 (t140 - 128))) (floatOfInt .f64 (wrap64 (t141 - 128))) t161 t162 t163 t164 _ A44.out).mono ?_
          rintro e w60 ⟨rfl, hb⟩
          refine ⟨_, rfl, ?_⟩
          have n0_ := Aside0.mk (blk_below (g := gb142) (o := .cells #[.float .f64 (floatOfInt .f64 (wrap64 (t140 - 128))), .float .f64 (floatOfInt .f64 (wrap64 (t141 - 128)))] 28 (0, 0)) (fb_ BK142.out) hb)
          have n1_ := Aside0.mk (blk_below (g := gb148) (o := .cells #[.float .f64 ((rd_T28 y143 (ji8)).f0), .float .f64 ((rd_T28 y143 (ji8)).f1)] 28 (0, 0)) (fb_ BK148.out) hb)
          have n2_ := Aside0.mk (blk_below (g := gb154) (o := .cells #[.float .f64 t151, .float .f64 t152] 28 (0, 0)) (fb_ BK154.out) hb)
          have n3_ := Aside0.mk (blk_below (g := gb160) (o := .cells #[.float .f64 t158, .float .f64 t159] 28 (0, 0)) (fb_ BK160.out) hb)
          have n4_ := Aside0.mk (blk_below (g := gb165) (o := .cells #[.float .f64 (0 : Nat), .float .f64 (0 : Nat)] 28 (0, 0)) (fb_ BK165.out) hb)
          have n5_ := Aside0.mk (below_step (bel_ HB.out) hb)
          clear BK142
          clear BK148
          clear BK154
          clear BK160
          clear BK165
          clear HB
          have BK142 := n0_
          have BK148 := n1_
          have BK154 := n2_
          have BK160 := n3_
          have BK165 := n4_
          have HB := n5_
          clear n0_ n1_ n2_ n3_ n4_ n5_
          (try clear hb)
          (try clear hb2)
          (try clear hk)
          (try clear hi)
          refine hK.out _ _ ⟨(blk_cell BK142.out 0).trans rfl, (blk_cell BK142.out 1).trans rfl⟩ (fun hHeld => ?_)
          clear hK K
          refine norm_ (a' := ?_) ?_ ?_
          rotate_left
          ·show Act.put _ (some 62) _ = _
           simp only [Act.put, sA_, sZ_, sS_, i64_w, i32_w]
           rfl
          exact norm_ (by simp only [putAll, Act.put, sA_, sZ_, sS_]) (hCont (gb165) _ ⟨hHeld, (fb_ BK142.out), (fb_ BK148.out), (fb_ BK154.out), (fb_ BK160.out), (fb_ BK165.out), GW165.out, GE165.out, NB142_165.out, NB165_142.out, NB148_165.out, NB165_148.out, NB154_165.out, NB165_154.out, NB160_165.out, NB165_160.out, (bel_ HB.out)⟩)
        rintro gb165 w61 ⟨hS_, h0_, h1_, h2_, h3_, h4_, h5_, h6_, h7_, h8_, h9_, h10_, h11_, h12_, h13_, h14_, h15_⟩
        have n0_ : Aside0 (w61.heap[gb142]? = some (.cells #[.float .f64 (floatOfInt .f64 (wrap64 (t140 - 128))), .float .f64 (floatOfInt .f64 (wrap64 (t141 - 128)))] 28 (0, 0))) := ⟨h0_⟩
        have n1_ : Aside0 (w61.heap[gb148]? = some (.cells #[.float .f64 ((rd_T28 y143 (ji8)).f0), .float .f64 ((rd_T28 y143 (ji8)).f1)] 28 (0, 0))) := ⟨h1_⟩
        have n2_ : Aside0 (w61.heap[gb154]? = some (.cells #[.float .f64 t151, .float .f64 t152] 28 (0, 0))) := ⟨h2_⟩
        have n3_ : Aside0 (w61.heap[gb160]? = some (.cells #[.float .f64 t158, .float .f64 t159] 28 (0, 0))) := ⟨h3_⟩
        have n4_ : Aside0 (w61.heap[gb165]? = some (.cells #[.float .f64 (0 : Nat), .float .f64 (0 : Nat)] 28 (0, 0))) := ⟨h4_⟩
        have n5_ : Aside0 (w.heap.size ≤ gb165) := ⟨h5_⟩
        have n6_ : Aside0 (w.heap.size ≤ gb165) := ⟨h6_⟩
        have n7_ : Aside0 (gb142 ≠ gb165) := ⟨h7_⟩
        have n8_ : Aside0 (gb165 ≠ gb142) := ⟨h8_⟩
        have n9_ : Aside0 (gb148 ≠ gb165) := ⟨h9_⟩
        have n10_ : Aside0 (gb165 ≠ gb148) := ⟨h10_⟩
        have n11_ : Aside0 (gb154 ≠ gb165) := ⟨h11_⟩
        have n12_ : Aside0 (gb165 ≠ gb154) := ⟨h12_⟩
        have n13_ : Aside0 (gb160 ≠ gb165) := ⟨h13_⟩
        have n14_ : Aside0 (gb165 ≠ gb160) := ⟨h14_⟩
        have n15_ : Aside0 (Below w.heap.size w w61) := ⟨h15_⟩
        clear BK142
        clear BK148
        clear BK154
        clear BK160
        clear HB
        clear h0_ h1_ h2_ h3_ h4_ h5_ h6_ h7_ h8_ h9_ h10_ h11_ h12_ h13_ h14_ h15_
        have BK142 := n0_
        have BK148 := n1_
        have BK154 := n2_
        have BK160 := n3_
        have BK165 := n4_
        have GW165 := n5_
        have GE165 := n6_
        have NB142_165 := n7_
        have NB165_142 := n8_
        have NB148_165 := n9_
        have NB165_148 := n10_
        have NB154_165 := n11_
        have NB165_154 := n12_
        have NB160_165 := n13_
        have NB165_160 := n14_
        have HB := n15_
        clear n0_ n1_ n2_ n3_ n4_ n5_ n6_ n7_ n8_ n9_ n10_ n11_ n12_ n13_ n14_ n15_
        have hHeld : w61.cell? ⟨gb142, 0, none⟩ = some (.float .f64 (floatOfInt .f64 (wrap64 (t140 - 128)))) ∧ w61.cell? ⟨gb142, 1, none⟩ = some (.float .f64 (floatOfInt .f64 (wrap64 (t141 - 128)))) := hS_
        refine norm_ (a' := ?_) ?_ ?_
        rotate_left
        ·simp only [putAll, Act.put, sA_, sZ_, sS_]
         rfl
        refine one_ (i := 5) (N := none) (bs 6 63) rfl rfl (by kernel_rfl) (by decide) (fun K hK => ?_)
        have hs62 : w61.cell? ⟨gb165, 0, none⟩ = some (.float .f64 (0 : Nat)) := (blk_cell BK165.out 0).trans rfl
        have hfs62 := blk_frozen BK165.out 0
        have hns62_0 := NB142_165.out
        have hns62_1 := NB148_165.out
        have hns62_2 := NB154_165.out
        have hns62_3 := NB160_165.out
        have hms62_0 := NB165_142.out
        have hms62_1 := NB165_148.out
        have hms62_2 := NB165_154.out
        have hms62_3 := NB165_160.out
        have hs63 : w61.cell? ⟨gb165, 1, none⟩ = some (.float .f64 (0 : Nat)) := (blk_cell BK165.out 1).trans rfl
        have hfs63 := blk_frozen BK165.out 1
        have hns63_0 := NB142_165.out
        have hns63_1 := NB148_165.out
        have hns63_2 := NB154_165.out
        have hns63_3 := NB160_165.out
        have hms63_0 := NB165_142.out
        have hms63_1 := NB165_148.out
        have hms63_2 := NB165_154.out
        have hms63_3 := NB165_160.out
        refine skip_ (w1 := ?_) (by rfl) rfl ?_ ?_
        rotate_left
        ·go_simp
         rfl
        refine hK.out _ _ ⟨((cell_far (p := ⟨gb165, _, none⟩) NB142_165.out _).trans (((cell_far (p := ⟨gb165, _, none⟩) NB142_165.out _).trans (hHeld.1)))), ((cell_far (p := ⟨gb165, _, none⟩) NB142_165.out _).trans (((cell_far (p := ⟨gb165, _, none⟩) NB142_165.out _).trans (hHeld.2))))⟩ (fun hHeld => ?_)
        clear hK K
        refine done_ (by kernel_rfl) ?_
        go_upto_region 11 with (fail)
        go_cut [11] (fun v11 wc => ∃ (kq : Nat) (x11_44 : Bool), v11 = .bool x11_44 ∧ Aside0 (laws_FnOver.j1 kq l0 x11_44 (floatOfInt .f64 (wrap64 (t140 - 128))) (floatOfInt .f64 (wrap64 (t141 - 128))) t158 t159 t163 t164 = some r) ∧ Aside0 (kq ≤ kj12) ∧ Aside0 (wc.heap[gb142]? = some (.cells #[.float .f64 (floatOfInt .f64 (wrap64 (t140 - 128))), .float .f64 (floatOfInt .f64 (wrap64 (t141 - 128)))] 28 (0, 0))) ∧ Aside0 (wc.heap[gb148]? = some (.cells #[.float .f64 ((rd_T28 y143 (ji8)).f0), .float .f64 ((rd_T28 y143 (ji8)).f1)] 28 (0, 0))) ∧ Aside0 (wc.heap[gb154]? = some (.cells #[.float .f64 t151, .float .f64 t152] 28 (0, 0))) ∧ Aside0 (wc.heap[gb160]? = some (.cells #[.float .f64 t158, .float .f64 t159] 28 (0, 0))) ∧ Aside0 (wc.heap[gb165]? = some (.cells #[.float .f64 t163, .float .f64 t164] 28 (0, 0))) ∧ Aside0 (Below w.heap.size w wc))
        case first =>
         have H := HC45.out
         clear HC45
         replace H := Option.bind_eq_some_iff.mp H
         obtain ⟨⟨t166, t167, t168⟩, A640, H⟩ := H
         replace H : (laws_FnOver.j1 kj12 l0 t168 (floatOfInt .f64 (wrap64 (t140 - 128))) (floatOfInt .f64 (wrap64 (t141 - 128))) t158 t159 t163 t164) = some r := H
         have A64 := Aside0.mk A640
         clear A640
         have H' := Aside0.mk H
         clear H
         have hnb65 := NB142_148.out
         have hnc65 := NB148_142.out
         have hnb66 := NB142_154.out
         have hnc66 := NB154_142.out
         have hnb67 := NB142_160.out
         have hnc67 := NB160_142.out
         have hnb68 := NB142_165.out
         have hnc68 := NB165_142.out
         have hcz69_0 : w61.cell? ⟨gb142, 0, none⟩ = some (.float .f64 (floatOfInt .f64 (wrap64 (t140 - 128)))) := (blk_cell BK142.out 0).trans rfl
         have hcz69_1 : w61.cell? ⟨gb142, 1, none⟩ = some (.float .f64 (floatOfInt .f64 (wrap64 (t141 - 128)))) := (blk_cell BK142.out 1).trans rfl
         have hfz69_0 := blk_frozen BK142.out 0
         have hfz69_1 := blk_frozen BK142.out 1
         go_wp2_with (first | ((with_reducible refine gate_callee (f := 11) rfl ?_); refine goesL_ (some 66) rfl rfl Try.func11 (by kernel_rfl) rfl #[.agg #[.float .f64 (floatOfInt .f64 (wrap64 (t140 - 128))), .float .f64 (floatOfInt .f64 (wrap64 (t141 - 128)))], .agg #[.float .f64 (0 : Nat), .float .f64 (0 : Nat)]] rfl (by (try simp only [List.map_toArray, List.map_cons, List.map_nil]); first | done | rfl | (simp only [List.length_drop, List.length_take]; rfl)) ?_; (with_reducible refine (impl_Over.calls kj12 (floatOfInt .f64 (wrap64 (t140 - 128))) (floatOfInt .f64 (wrap64 (t141 - 128))) (0 : Nat) (0 : Nat) t166 t167 t168 _ A64.out).mono ?_); rintro e w70 ⟨rfl, hb⟩; refine ⟨_, rfl, ?_⟩; have n0_ := Aside0.mk (blk_below (g := gb142) (o := .cells #[.float .f64 (floatOfInt .f64 (wrap64 (t140 - 128))), .float .f64 (floatOfInt .f64 (wrap64 (t141 - 128)))] 28 (0, 0)) (by (with_reducible repeat (first | refine blk_drewN ?_ _ | refine blk_drew ?_ | refine blk_alloc ?_ _)); refine blk_far ?_ NB142_165.out _; (with_reducible repeat (first | refine blk_drewN ?_ _ | refine blk_drew ?_ | refine blk_alloc ?_ _)); refine blk_far ?_ NB142_165.out _; (with_reducible repeat (first | refine blk_drewN ?_ _ | refine blk_drew ?_ | refine blk_alloc ?_ _)); exact BK142.out) hb); have n1_ := Aside0.mk (blk_below (g := gb148) (o := .cells #[.float .f64 ((rd_T28 y143 (ji8)).f0), .float .f64 ((rd_T28 y143 (ji8)).f1)] 28 (0, 0)) (by (with_reducible repeat (first | refine blk_drewN ?_ _ | refine blk_drew ?_ | refine blk_alloc ?_ _)); refine blk_far ?_ NB148_165.out _; (with_reducible repeat (first | refine blk_drewN ?_ _ | refine blk_drew ?_ | refine blk_alloc ?_ _)); refine blk_far ?_ NB148_165.out _; (with_reducible repeat (first | refine blk_drewN ?_ _ | refine blk_drew ?_ | refine blk_alloc ?_ _)); exact BK148.out) hb); have n2_ := Aside0.mk (blk_below (g := gb154) (o := .cells #[.float .f64 t151, .float .f64 t152] 28 (0, 0)) (by (with_reducible repeat (first | refine blk_drewN ?_ _ | refine blk_drew ?_ | refine blk_alloc ?_ _)); refine blk_far ?_ NB154_165.out _; (with_reducible repeat (first | refine blk_drewN ?_ _ | refine blk_drew ?_ | refine blk_alloc ?_ _)); refine blk_far ?_ NB154_165.out _; (with_reducible repeat (first | refine blk_drewN ?_ _ | refine blk_drew ?_ | refine blk_alloc ?_ _)); exact BK154.out) hb); have n3_ := Aside0.mk (blk_below (g := gb160) (o := .cells #[.float .f64 t158, .float .f64 t159] 28 (0, 0)) (by (with_reducible repeat (first | refine blk_drewN ?_ _ | refine blk_drew ?_ | refine blk_alloc ?_ _)); refine blk_far ?_ NB160_165.out _; (with_reducible repeat (first | refine blk_drewN ?_ _ | refine blk_drew ?_ | refine blk_alloc ?_ _)); refine blk_far ?_ NB160_165.out _; (with_reducible repeat (first | refine blk_drewN ?_ _ | refine blk_drew ?_ | refine blk_alloc ?_ _)); exact BK160.out) hb); have n4_ := Aside0.mk (blk_below (g := gb165) (o := .cells #[.float .f64 t163, .float .f64 t164] 28 (0, 0)) (by (with_reducible repeat (first | refine blk_drewN ?_ _ | refine blk_drew ?_ | refine blk_alloc ?_ _)); refine blk_put (cs := #[.float .f64 t163, .float .f64 (0 : Nat)]) ?_ 1 _ rfl; (with_reducible repeat (first | refine blk_drewN ?_ _ | refine blk_drew ?_ | refine blk_alloc ?_ _)); refine blk_put (cs := #[.float .f64 (0 : Nat), .float .f64 (0 : Nat)]) ?_ 0 _ rfl; (with_reducible repeat (first | refine blk_drewN ?_ _ | refine blk_drew ?_ | refine blk_alloc ?_ _)); exact BK165.out) hb); have n5_ := Aside0.mk (below_step (bel_ HB.out) hb); clear BK142; clear BK148; clear BK154; clear BK160; clear BK165; clear HB; have BK142 := n0_; have BK148 := n1_; have BK154 := n2_; have BK160 := n3_; have BK165 := n4_; have HB := n5_; clear n0_ n1_ n2_ n3_ n4_ n5_; (try clear hb); (try clear hb2); (try clear hk); (try clear hi)) | ((with_reducible refine gate_dst (N := 10) rfl ?_); refine box_event ?hg (N := 10) ?hd (cs := #[.float .f64 (0 : Nat), .float .f64 (0 : Nat)]) (t := 28) ?hr ?_; (case hd => rfl); (case hg => rfl); (case hr => first | (go_simp; done) | (go_simp; rfl)); intro gb169 hg w71 hbox hb; have n0_ := Aside0.mk (blk_below (g := gb142) (o := .cells #[.float .f64 (floatOfInt .f64 (wrap64 (t140 - 128))), .float .f64 (floatOfInt .f64 (wrap64 (t141 - 128)))] 28 (0, 0)) (fb_ BK142.out) hb); have n1_ := Aside0.mk (blk_below (g := gb148) (o := .cells #[.float .f64 ((rd_T28 y143 (ji8)).f0), .float .f64 ((rd_T28 y143 (ji8)).f1)] 28 (0, 0)) (fb_ BK148.out) hb); have n2_ := Aside0.mk (blk_below (g := gb154) (o := .cells #[.float .f64 t151, .float .f64 t152] 28 (0, 0)) (fb_ BK154.out) hb); have n3_ := Aside0.mk (blk_below (g := gb160) (o := .cells #[.float .f64 t158, .float .f64 t159] 28 (0, 0)) (fb_ BK160.out) hb); have n4_ := Aside0.mk (blk_below (g := gb165) (o := .cells #[.float .f64 t163, .float .f64 t164] 28 (0, 0)) (fb_ BK165.out) hb); have n5_ := Aside0.mk (below_step (bel_ HB.out) hb); have n6_ := Aside0.mk (hbox); have n7_ := Aside0.mk ((by rw [hg]; exact (below_size (bel_ HB.out)) : w.heap.size ≤ gb169)); have n8_ := Aside0.mk ((by rw [hg]; exact (below_size (bel_ HB.out)) : w.heap.size ≤ gb169)); have n9_ := Aside0.mk ((by rw [hg]; exact Nat.ne_of_lt (blk_lt (g := gb142) (o := .cells #[.float .f64 (floatOfInt .f64 (wrap64 (t140 - 128))), .float .f64 (floatOfInt .f64 (wrap64 (t141 - 128)))] 28 (0, 0)) (fb_ BK142.out)) : gb142 ≠ gb169)); have n10_ := Aside0.mk ((by rw [hg]; exact Nat.ne_of_gt (blk_lt (g := gb142) (o := .cells #[.float .f64 (floatOfInt .f64 (wrap64 (t140 - 128))), .float .f64 (floatOfInt .f64 (wrap64 (t141 - 128)))] 28 (0, 0)) (fb_ BK142.out)) : gb169 ≠ gb142)); have n11_ := Aside0.mk ((by rw [hg]; exact Nat.ne_of_lt (blk_lt (g := gb148) (o := .cells #[.float .f64 ((rd_T28 y143 (ji8)).f0), .float .f64 ((rd_T28 y143 (ji8)).f1)] 28 (0, 0)) (fb_ BK148.out)) : gb148 ≠ gb169)); have n12_ := Aside0.mk ((by rw [hg]; exact Nat.ne_of_gt (blk_lt (g := gb148) (o := .cells #[.float .f64 ((rd_T28 y143 (ji8)).f0), .float .f64 ((rd_T28 y143 (ji8)).f1)] 28 (0, 0)) (fb_ BK148.out)) : gb169 ≠ gb148)); have n13_ := Aside0.mk ((by rw [hg]; exact Nat.ne_of_lt (blk_lt (g := gb154) (o := .cells #[.float .f64 t151, .float .f64 t152] 28 (0, 0)) (fb_ BK154.out)) : gb154 ≠ gb169)); have n14_ := Aside0.mk ((by rw [hg]; exact Nat.ne_of_gt (blk_lt (g := gb154) (o := .cells #[.float .f64 t151, .float .f64 t152] 28 (0, 0)) (fb_ BK154.out)) : gb169 ≠ gb154)); have n15_ := Aside0.mk ((by rw [hg]; exact Nat.ne_of_lt (blk_lt (g := gb160) (o := .cells #[.float .f64 t158, .float .f64 t159] 28 (0, 0)) (fb_ BK160.out)) : gb160 ≠ gb169)); have n16_ := Aside0.mk ((by rw [hg]; exact Nat.ne_of_gt (blk_lt (g := gb160) (o := .cells #[.float .f64 t158, .float .f64 t159] 28 (0, 0)) (fb_ BK160.out)) : gb169 ≠ gb160)); have n17_ := Aside0.mk ((by rw [hg]; exact Nat.ne_of_lt (blk_lt (g := gb165) (o := .cells #[.float .f64 t163, .float .f64 t164] 28 (0, 0)) (fb_ BK165.out)) : gb165 ≠ gb169)); have n18_ := Aside0.mk ((by rw [hg]; exact Nat.ne_of_gt (blk_lt (g := gb165) (o := .cells #[.float .f64 t163, .float .f64 t164] 28 (0, 0)) (fb_ BK165.out)) : gb169 ≠ gb165)); clear BK142; clear BK148; clear BK154; clear BK160; clear BK165; clear HB; have BK142 := n0_; have BK148 := n1_; have BK154 := n2_; have BK160 := n3_; have BK165 := n4_; have HB := n5_; have BK169 := n6_; have GW169 := n7_; have GE169 := n8_; have NB142_169 := n9_; have NB169_142 := n10_; have NB148_169 := n11_; have NB169_148 := n12_; have NB154_169 := n13_; have NB169_154 := n14_; have NB160_169 := n15_; have NB169_160 := n16_; have NB165_169 := n17_; have NB169_165 := n18_; clear n0_ n1_ n2_ n3_ n4_ n5_ n6_ n7_ n8_ n9_ n10_ n11_ n12_ n13_ n14_ n15_ n16_ n17_ n18_; clear hb hbox hg; have hnb72 := NB169_142.out; have hnc72 := NB142_169.out; have hnb73 := NB169_148.out; have hnc73 := NB148_169.out; have hnb74 := NB169_154.out; have hnc74 := NB154_169.out; have hnb75 := NB169_160.out; have hnc75 := NB160_169.out; have hnb76 := NB169_165.out; have hnc76 := NB165_169.out; have hcz77_0 : w71.cell? ⟨gb169, 0, none⟩ = some (.float .f64 (0 : Nat)) := (blk_cell BK169.out 0).trans rfl; have hcz77_1 : w71.cell? ⟨gb169, 1, none⟩ = some (.float .f64 (0 : Nat)) := (blk_cell BK169.out 1).trans rfl; have hfz77_0 := blk_frozen BK169.out 0; have hfz77_1 := blk_frozen BK169.out 1))
         go_meet
         case rel => exact ⟨_, (t168), (by first | rfl | (simp; done) | (simp [*]; done) | (simp [wrap64]; done)), H', ⟨by have := HJ12.out; first | omega | exact Nat.le_refl _⟩, ⟨by (with_reducible repeat (first | refine blk_drewN ?_ _ | refine blk_drew ?_ | refine blk_alloc ?_ _)); refine blk_far ?_ NB142_169.out _; (with_reducible repeat (first | refine blk_drewN ?_ _ | refine blk_drew ?_ | refine blk_alloc ?_ _)); refine blk_far ?_ NB142_169.out _; (with_reducible repeat (first | refine blk_drewN ?_ _ | refine blk_drew ?_ | refine blk_alloc ?_ _)); exact BK142.out⟩, ⟨by (with_reducible repeat (first | refine blk_drewN ?_ _ | refine blk_drew ?_ | refine blk_alloc ?_ _)); refine blk_far ?_ NB148_169.out _; (with_reducible repeat (first | refine blk_drewN ?_ _ | refine blk_drew ?_ | refine blk_alloc ?_ _)); refine blk_far ?_ NB148_169.out _; (with_reducible repeat (first | refine blk_drewN ?_ _ | refine blk_drew ?_ | refine blk_alloc ?_ _)); exact BK148.out⟩, ⟨by (with_reducible repeat (first | refine blk_drewN ?_ _ | refine blk_drew ?_ | refine blk_alloc ?_ _)); refine blk_far ?_ NB154_169.out _; (with_reducible repeat (first | refine blk_drewN ?_ _ | refine blk_drew ?_ | refine blk_alloc ?_ _)); refine blk_far ?_ NB154_169.out _; (with_reducible repeat (first | refine blk_drewN ?_ _ | refine blk_drew ?_ | refine blk_alloc ?_ _)); exact BK154.out⟩, ⟨by (with_reducible repeat (first | refine blk_drewN ?_ _ | refine blk_drew ?_ | refine blk_alloc ?_ _)); refine blk_far ?_ NB160_169.out _; (with_reducible repeat (first | refine blk_drewN ?_ _ | refine blk_drew ?_ | refine blk_alloc ?_ _)); refine blk_far ?_ NB160_169.out _; (with_reducible repeat (first | refine blk_drewN ?_ _ | refine blk_drew ?_ | refine blk_alloc ?_ _)); exact BK160.out⟩, ⟨by (with_reducible repeat (first | refine blk_drewN ?_ _ | refine blk_drew ?_ | refine blk_alloc ?_ _)); refine blk_far ?_ NB165_169.out _; (with_reducible repeat (first | refine blk_drewN ?_ _ | refine blk_drew ?_ | refine blk_alloc ?_ _)); refine blk_far ?_ NB165_169.out _; (with_reducible repeat (first | refine blk_drewN ?_ _ | refine blk_drew ?_ | refine blk_alloc ?_ _)); exact BK165.out⟩, ⟨bel_ HB.out⟩⟩
        case rest =>
         clear HC45
         try clear c2
         try clear c3
         try clear c7
         try clear c7b0
         try clear c7b1
         try clear c7b2
         try clear c9
         try clear c9b0
         try clear c10
         try clear c10b0
         try clear c40
         try clear hcz17_0
         try clear hcz17_1
         try clear hcz23_0
         try clear hcz23_1
         try clear hcz48_0
         try clear hcz48_1
         try clear hcz55_0
         try clear hcz55_1
         try clear hfz17_0
         try clear hfz17_1
         try clear hfz23_0
         try clear hfz23_1
         try clear hfz48_0
         try clear hfz48_1
         try clear hfz55_0
         try clear hfz55_1
         try clear hx147_0
         try clear hx147_1
         try clear p147
         try clear q147
         obtain ⟨kq, x11_44, rfl, HA, HJ44, BK142, BK148, BK154, BK160, BK165, HB⟩ := hcut
         cases kq with
         | zero => exact absurd HA.out (by simp [laws_FnOver.j1])
         | succ kj44 =>
          have H := HA.out
          clear HA
          simp only [laws_FnOver.j1] at H
          replace H := Option.bind_eq_some_iff.mp H
          obtain ⟨t170, A780, H⟩ := H
          replace H : ((impl_Reply.f kj44 (0 : Nat) (floatOfInt .f64 t170)).bind fun bt171 => ((impl_Alike.f t158 t159 (floatOfInt .f64 (wrap64 (t140 - 128))) (floatOfInt .f64 (wrap64 (t141 - 128)))).bind fun t175 => (if t175 = true then (if (FloatKind.f64.format.order t164 (0 : Nat) == some .eq) = true then (if (floatBits .mul .f64 (floatOfInt .f64 (wrap64 (t140 - 128))) (floatOfInt .f64 (wrap64 (t140 - 128)))).isSome = true then (if (floatBits .mul .f64 (floatOfInt .f64 (wrap64 (t141 - 128))) (floatOfInt .f64 (wrap64 (t141 - 128)))).isSome = true then (if (floatBits .add .f64 ((floatBits .mul .f64 (floatOfInt .f64 (wrap64 (t140 - 128))) (floatOfInt .f64 (wrap64 (t140 - 128)))).getD 0) ((floatBits .mul .f64 (floatOfInt .f64 (wrap64 (t141 - 128))) (floatOfInt .f64 (wrap64 (t141 - 128)))).getD 0)).isSome = true then (if (FloatKind.f64.format.order t163 ((floatBits .add .f64 ((floatBits .mul .f64 (floatOfInt .f64 (wrap64 (t140 - 128))) (floatOfInt .f64 (wrap64 (t140 - 128)))).getD 0) ((floatBits .mul .f64 (floatOfInt .f64 (wrap64 (t141 - 128))) (floatOfInt .f64 (wrap64 (t141 - 128)))).getD 0)).getD 0) == some .eq) = true then (if x11_44 = true then (some false) else (if bt171.2.2 = true then (some (FloatKind.f64.format.order bt171.1 (4607182418800017408 : Nat) == some .eq)) else (some false))) else (some false)) else (none)) else (none)) else (none)) else (some false)) else (some false)))) = some r := H
          have A78 := Aside0.mk A780
          clear A780
          replace H := Option.bind_eq_some_iff.mp H
          obtain ⟨⟨t171, t172, t173⟩, A790, H⟩ := H
          replace H : ((impl_Alike.f t158 t159 (floatOfInt .f64 (wrap64 (t140 - 128))) (floatOfInt .f64 (wrap64 (t141 - 128)))).bind fun t175 => (if t175 = true then (if (FloatKind.f64.format.order t164 (0 : Nat) == some .eq) = true then (if (floatBits .mul .f64 (floatOfInt .f64 (wrap64 (t140 - 128))) (floatOfInt .f64 (wrap64 (t140 - 128)))).isSome = true then (if (floatBits .mul .f64 (floatOfInt .f64 (wrap64 (t141 - 128))) (floatOfInt .f64 (wrap64 (t141 - 128)))).isSome = true then (if (floatBits .add .f64 ((floatBits .mul .f64 (floatOfInt .f64 (wrap64 (t140 - 128))) (floatOfInt .f64 (wrap64 (t140 - 128)))).getD 0) ((floatBits .mul .f64 (floatOfInt .f64 (wrap64 (t141 - 128))) (floatOfInt .f64 (wrap64 (t141 - 128)))).getD 0)).isSome = true then (if (FloatKind.f64.format.order t163 ((floatBits .add .f64 ((floatBits .mul .f64 (floatOfInt .f64 (wrap64 (t140 - 128))) (floatOfInt .f64 (wrap64 (t140 - 128)))).getD 0) ((floatBits .mul .f64 (floatOfInt .f64 (wrap64 (t141 - 128))) (floatOfInt .f64 (wrap64 (t141 - 128)))).getD 0)).getD 0) == some .eq) = true then (if x11_44 = true then (some false) else (if t173 = true then (some (FloatKind.f64.format.order t171 (4607182418800017408 : Nat) == some .eq)) else (some false))) else (some false)) else (none)) else (none)) else (none)) else (some false)) else (some false))) = some r := H
          have A79 := Aside0.mk A790
          clear A790
          replace H := Option.bind_eq_some_iff.mp H
          obtain ⟨t175, A800, H⟩ := H
          replace H : (if t175 = true then (if (FloatKind.f64.format.order t164 (0 : Nat) == some .eq) = true then (if (floatBits .mul .f64 (floatOfInt .f64 (wrap64 (t140 - 128))) (floatOfInt .f64 (wrap64 (t140 - 128)))).isSome = true then (if (floatBits .mul .f64 (floatOfInt .f64 (wrap64 (t141 - 128))) (floatOfInt .f64 (wrap64 (t141 - 128)))).isSome = true then (if (floatBits .add .f64 ((floatBits .mul .f64 (floatOfInt .f64 (wrap64 (t140 - 128))) (floatOfInt .f64 (wrap64 (t140 - 128)))).getD 0) ((floatBits .mul .f64 (floatOfInt .f64 (wrap64 (t141 - 128))) (floatOfInt .f64 (wrap64 (t141 - 128)))).getD 0)).isSome = true then (if (FloatKind.f64.format.order t163 ((floatBits .add .f64 ((floatBits .mul .f64 (floatOfInt .f64 (wrap64 (t140 - 128))) (floatOfInt .f64 (wrap64 (t140 - 128)))).getD 0) ((floatBits .mul .f64 (floatOfInt .f64 (wrap64 (t141 - 128))) (floatOfInt .f64 (wrap64 (t141 - 128)))).getD 0)).getD 0) == some .eq) = true then (if x11_44 = true then (some false) else (if t173 = true then (some (FloatKind.f64.format.order t171 (4607182418800017408 : Nat) == some .eq)) else (some false))) else (some false)) else (none)) else (none)) else (none)) else (some false)) else (some false)) = some r := H
          have A80 := Aside0.mk A800
          clear A800
          by_cases c81 : t175 = true
          ·subst c81
           have H1 : (if (FloatKind.f64.format.order t164 (0 : Nat) == some .eq) = true then (if (floatBits .mul .f64 (floatOfInt .f64 (wrap64 (t140 - 128))) (floatOfInt .f64 (wrap64 (t140 - 128)))).isSome = true then (if (floatBits .mul .f64 (floatOfInt .f64 (wrap64 (t141 - 128))) (floatOfInt .f64 (wrap64 (t141 - 128)))).isSome = true then (if (floatBits .add .f64 ((floatBits .mul .f64 (floatOfInt .f64 (wrap64 (t140 - 128))) (floatOfInt .f64 (wrap64 (t140 - 128)))).getD 0) ((floatBits .mul .f64 (floatOfInt .f64 (wrap64 (t141 - 128))) (floatOfInt .f64 (wrap64 (t141 - 128)))).getD 0)).isSome = true then (if (FloatKind.f64.format.order t163 ((floatBits .add .f64 ((floatBits .mul .f64 (floatOfInt .f64 (wrap64 (t140 - 128))) (floatOfInt .f64 (wrap64 (t140 - 128)))).getD 0) ((floatBits .mul .f64 (floatOfInt .f64 (wrap64 (t141 - 128))) (floatOfInt .f64 (wrap64 (t141 - 128)))).getD 0)).getD 0) == some .eq) = true then (if x11_44 = true then (some false) else (if t173 = true then (some (FloatKind.f64.format.order t171 (4607182418800017408 : Nat) == some .eq)) else (some false))) else (some false)) else (none)) else (none)) else (none)) else (some false)) = some r := by rw [if_pos rfl] at H; exact H
           clear H
           have H := H1
           clear H1
           by_cases c82 : (FloatKind.f64.format.order t164 (0 : Nat) == some .eq) = true
           ·rw [if_pos c82] at H
            have c82b0 : (FloatKind.f64.format.order t164 (0 : Nat) == some .eq) = true := c82
            (try (have c82b1 : decide (FloatKind.f64.format.order t164 (0 : Nat) = some .eq) = true := by simpa using c82))
            (try (have c82b2 : (FloatKind.f64.format.order t164 (0 : Nat) == some .eq) = true := by simpa using c82))
            clear c82
            by_cases c83 : (floatBits .mul .f64 (floatOfInt .f64 (wrap64 (t140 - 128))) (floatOfInt .f64 (wrap64 (t140 - 128)))).isSome = true
            ·rw [if_pos c83] at H
             have c83b0 := eq_true c83
             have c83b1 : decide ((floatBits .mul .f64 (floatOfInt .f64 (wrap64 (t140 - 128))) (floatOfInt .f64 (wrap64 (t140 - 128)))).isSome = true) = true := decide_eq_true c83
             clear c83
             by_cases c84 : (floatBits .mul .f64 (floatOfInt .f64 (wrap64 (t141 - 128))) (floatOfInt .f64 (wrap64 (t141 - 128)))).isSome = true
             ·rw [if_pos c84] at H
              have c84b0 := eq_true c84
              have c84b1 : decide ((floatBits .mul .f64 (floatOfInt .f64 (wrap64 (t141 - 128))) (floatOfInt .f64 (wrap64 (t141 - 128)))).isSome = true) = true := decide_eq_true c84
              clear c84
              by_cases c85 : (floatBits .add .f64 ((floatBits .mul .f64 (floatOfInt .f64 (wrap64 (t140 - 128))) (floatOfInt .f64 (wrap64 (t140 - 128)))).getD 0) ((floatBits .mul .f64 (floatOfInt .f64 (wrap64 (t141 - 128))) (floatOfInt .f64 (wrap64 (t141 - 128)))).getD 0)).isSome = true
              ·rw [if_pos c85] at H
               have c85b0 := eq_true c85
               have c85b1 : decide ((floatBits .add .f64 ((floatBits .mul .f64 (floatOfInt .f64 (wrap64 (t140 - 128))) (floatOfInt .f64 (wrap64 (t140 - 128)))).getD 0) ((floatBits .mul .f64 (floatOfInt .f64 (wrap64 (t141 - 128))) (floatOfInt .f64 (wrap64 (t141 - 128)))).getD 0)).isSome = true) = true := decide_eq_true c85
               clear c85
               by_cases c86 : (FloatKind.f64.format.order t163 ((floatBits .add .f64 ((floatBits .mul .f64 (floatOfInt .f64 (wrap64 (t140 - 128))) (floatOfInt .f64 (wrap64 (t140 - 128)))).getD 0) ((floatBits .mul .f64 (floatOfInt .f64 (wrap64 (t141 - 128))) (floatOfInt .f64 (wrap64 (t141 - 128)))).getD 0)).getD 0) == some .eq) = true
               ·rw [if_pos c86] at H
                have c86b0 : (FloatKind.f64.format.order t163 ((floatBits .add .f64 ((floatBits .mul .f64 (floatOfInt .f64 (wrap64 (t140 - 128))) (floatOfInt .f64 (wrap64 (t140 - 128)))).getD 0) ((floatBits .mul .f64 (floatOfInt .f64 (wrap64 (t141 - 128))) (floatOfInt .f64 (wrap64 (t141 - 128)))).getD 0)).getD 0) == some .eq) = true := c86
                (try (have c86b1 : decide (FloatKind.f64.format.order t163 ((floatBits .add .f64 ((floatBits .mul .f64 (floatOfInt .f64 (wrap64 (t140 - 128))) (floatOfInt .f64 (wrap64 (t140 - 128)))).getD 0) ((floatBits .mul .f64 (floatOfInt .f64 (wrap64 (t141 - 128))) (floatOfInt .f64 (wrap64 (t141 - 128)))).getD 0)).getD 0) = some .eq) = true := by simpa using c86))
                (try (have c86b2 : (FloatKind.f64.format.order t163 ((floatBits .add .f64 ((floatBits .mul .f64 (floatOfInt .f64 (wrap64 (t140 - 128))) (floatOfInt .f64 (wrap64 (t140 - 128)))).getD 0) ((floatBits .mul .f64 (floatOfInt .f64 (wrap64 (t141 - 128))) (floatOfInt .f64 (wrap64 (t141 - 128)))).getD 0)).getD 0) == some .eq) = true := by simpa using c86))
                clear c86
                by_cases c87 : x11_44 = true
                ·subst c87
                 have H1 : (some false) = some r := by rw [if_pos rfl] at H; exact H
                 clear H
                 have H := H1
                 clear H1
                 obtain rfl := Option.some.inj H
                 go_wp2_with (first | ((with_reducible refine gate_callee (f := 8) rfl ?_); refine goesL_ (some 71) rfl rfl Try.func8 (by kernel_rfl) rfl #[.slice A0 l0.length c0, .int .i64 3] rfl (by (try simp only [List.map_toArray, List.map_cons, List.map_nil]); first | done | rfl | (simp only [List.length_drop, List.length_take]; rfl)) ?_; (with_reducible refine (laws_at.calls _ _ l0 3 t170 _ ?side1 ?side2 A78.out).mono ?_); (case side1 => repeat (first | exact (Kd.C_below HR0.out HB.out) | (with_reducible refine Kd.C_alloc ?_ _) | (with_reducible refine Kd.C_drewN ?_ _) | (with_reducible refine Kd.C_drew ?_))); (case side2 => exact HC0.out); rintro e w' ⟨rfl, ⟨nd, rfl⟩⟩; refine ⟨_, rfl, ?_⟩; (try ((first | generalize hq_ : World.drewN wc _ = wc | (rw [drewN_self wc]; generalize hq_ : World.drewN wc _ = wc)); have n0_ : Aside0 (wc.heap[gb142]? = some (.cells #[.float .f64 (floatOfInt .f64 (wrap64 (t140 - 128))), .float .f64 (floatOfInt .f64 (wrap64 (t141 - 128)))] 28 (0, 0))) := ⟨by rw [← hq_]; exact (fb_ BK142.out)⟩; have n1_ : Aside0 (wc.heap[gb148]? = some (.cells #[.float .f64 ((rd_T28 y143 (ji8)).f0), .float .f64 ((rd_T28 y143 (ji8)).f1)] 28 (0, 0))) := ⟨by rw [← hq_]; exact (fb_ BK148.out)⟩; have n2_ : Aside0 (wc.heap[gb154]? = some (.cells #[.float .f64 t151, .float .f64 t152] 28 (0, 0))) := ⟨by rw [← hq_]; exact (fb_ BK154.out)⟩; have n3_ : Aside0 (wc.heap[gb160]? = some (.cells #[.float .f64 t158, .float .f64 t159] 28 (0, 0))) := ⟨by rw [← hq_]; exact (fb_ BK160.out)⟩; have n4_ : Aside0 (wc.heap[gb165]? = some (.cells #[.float .f64 t163, .float .f64 t164] 28 (0, 0))) := ⟨by rw [← hq_]; exact (fb_ BK165.out)⟩; have n5_ : Aside0 (Below w.heap.size w wc) := ⟨by rw [← hq_]; exact (bel_ HB.out)⟩; clear BK142 BK148 BK154 BK160 BK165 HB hq_; have BK142 := n0_; have BK148 := n1_; have BK154 := n2_; have BK160 := n3_; have BK165 := n4_; have HB := n5_; clear n0_ n1_ n2_ n3_ n4_ n5_)); have hu88_ := Try.underlying3; have hv88_ := Try.underlying26) | ((with_reducible refine gate_callee (f := 15) rfl ?_); refine goesL_ (some 73) rfl rfl Try.func15 (by kernel_rfl) rfl #[.float .f64 (0 : Nat), .float .f64 (floatOfInt .f64 t170)] rfl (by (try simp only [List.map_toArray, List.map_cons, List.map_nil]); first | done | rfl | (simp only [List.length_drop, List.length_take]; rfl)) ?_; (with_reducible refine (impl_Reply.calls kj44 (0 : Nat) (floatOfInt .f64 t170) t171 t172 t173 _ A79.out).mono ?_); rintro e w89 ⟨rfl, hb⟩; refine ⟨_, rfl, ?_⟩; have n0_ := Aside0.mk (blk_below (g := gb142) (o := .cells #[.float .f64 (floatOfInt .f64 (wrap64 (t140 - 128))), .float .f64 (floatOfInt .f64 (wrap64 (t141 - 128)))] 28 (0, 0)) (fb_ BK142.out) hb); have n1_ := Aside0.mk (blk_below (g := gb148) (o := .cells #[.float .f64 ((rd_T28 y143 (ji8)).f0), .float .f64 ((rd_T28 y143 (ji8)).f1)] 28 (0, 0)) (fb_ BK148.out) hb); have n2_ := Aside0.mk (blk_below (g := gb154) (o := .cells #[.float .f64 t151, .float .f64 t152] 28 (0, 0)) (fb_ BK154.out) hb); have n3_ := Aside0.mk (blk_below (g := gb160) (o := .cells #[.float .f64 t158, .float .f64 t159] 28 (0, 0)) (fb_ BK160.out) hb); have n4_ := Aside0.mk (blk_below (g := gb165) (o := .cells #[.float .f64 t163, .float .f64 t164] 28 (0, 0)) (fb_ BK165.out) hb); have n5_ := Aside0.mk (below_step (bel_ HB.out) hb); clear BK142; clear BK148; clear BK154; clear BK160; clear BK165; clear HB; have BK142 := n0_; have BK148 := n1_; have BK154 := n2_; have BK160 := n3_; have BK165 := n4_; have HB := n5_; clear n0_ n1_ n2_ n3_ n4_ n5_; (try clear hb); (try clear hb2); (try clear hk); (try clear hi)) | ((with_reducible refine gate_dst (N := 12) rfl ?_); refine box_event ?hg (N := 12) ?hd (cs := #[.float .f64 (0 : Nat), .float .f64 (0 : Nat)]) (t := 28) ?hr ?_; (case hd => rfl); (case hg => rfl); (case hr => first | (go_simp; done) | (go_simp; rfl)); intro gb174 hg w90 hbox hb; have n0_ := Aside0.mk (blk_below (g := gb142) (o := .cells #[.float .f64 (floatOfInt .f64 (wrap64 (t140 - 128))), .float .f64 (floatOfInt .f64 (wrap64 (t141 - 128)))] 28 (0, 0)) (fb_ BK142.out) hb); have n1_ := Aside0.mk (blk_below (g := gb148) (o := .cells #[.float .f64 ((rd_T28 y143 (ji8)).f0), .float .f64 ((rd_T28 y143 (ji8)).f1)] 28 (0, 0)) (fb_ BK148.out) hb); have n2_ := Aside0.mk (blk_below (g := gb154) (o := .cells #[.float .f64 t151, .float .f64 t152] 28 (0, 0)) (fb_ BK154.out) hb); have n3_ := Aside0.mk (blk_below (g := gb160) (o := .cells #[.float .f64 t158, .float .f64 t159] 28 (0, 0)) (fb_ BK160.out) hb); have n4_ := Aside0.mk (blk_below (g := gb165) (o := .cells #[.float .f64 t163, .float .f64 t164] 28 (0, 0)) (fb_ BK165.out) hb); have n5_ := Aside0.mk (below_step (bel_ HB.out) hb); have n6_ := Aside0.mk (hbox); have n7_ := Aside0.mk ((by rw [hg]; exact (below_size (bel_ HB.out)) : w.heap.size ≤ gb174)); have n8_ := Aside0.mk ((by rw [hg]; exact (below_size (bel_ HB.out)) : w.heap.size ≤ gb174)); have n9_ := Aside0.mk ((by rw [hg]; exact Nat.ne_of_lt (blk_lt (g := gb142) (o := .cells #[.float .f64 (floatOfInt .f64 (wrap64 (t140 - 128))), .float .f64 (floatOfInt .f64 (wrap64 (t141 - 128)))] 28 (0, 0)) (fb_ BK142.out)) : gb142 ≠ gb174)); have n10_ := Aside0.mk ((by rw [hg]; exact Nat.ne_of_gt (blk_lt (g := gb142) (o := .cells #[.float .f64 (floatOfInt .f64 (wrap64 (t140 - 128))), .float .f64 (floatOfInt .f64 (wrap64 (t141 - 128)))] 28 (0, 0)) (fb_ BK142.out)) : gb174 ≠ gb142)); have n11_ := Aside0.mk ((by rw [hg]; exact Nat.ne_of_lt (blk_lt (g := gb148) (o := .cells #[.float .f64 ((rd_T28 y143 (ji8)).f0), .float .f64 ((rd_T28 y143 (ji8)).f1)] 28 (0, 0)) (fb_ BK148.out)) : gb148 ≠ gb174)); have n12_ := Aside0.mk ((by rw [hg]; exact Nat.ne_of_gt (blk_lt (g := gb148) (o := .cells #[.float .f64 ((rd_T28 y143 (ji8)).f0), .float .f64 ((rd_T28 y143 (ji8)).f1)] 28 (0, 0)) (fb_ BK148.out)) : gb174 ≠ gb148)); have n13_ := Aside0.mk ((by rw [hg]; exact Nat.ne_of_lt (blk_lt (g := gb154) (o := .cells #[.float .f64 t151, .float .f64 t152] 28 (0, 0)) (fb_ BK154.out)) : gb154 ≠ gb174)); have n14_ := Aside0.mk ((by rw [hg]; exact Nat.ne_of_gt (blk_lt (g := gb154) (o := .cells #[.float .f64 t151, .float .f64 t152] 28 (0, 0)) (fb_ BK154.out)) : gb174 ≠ gb154)); have n15_ := Aside0.mk ((by rw [hg]; exact Nat.ne_of_lt (blk_lt (g := gb160) (o := .cells #[.float .f64 t158, .float .f64 t159] 28 (0, 0)) (fb_ BK160.out)) : gb160 ≠ gb174)); have n16_ := Aside0.mk ((by rw [hg]; exact Nat.ne_of_gt (blk_lt (g := gb160) (o := .cells #[.float .f64 t158, .float .f64 t159] 28 (0, 0)) (fb_ BK160.out)) : gb174 ≠ gb160)); have n17_ := Aside0.mk ((by rw [hg]; exact Nat.ne_of_lt (blk_lt (g := gb165) (o := .cells #[.float .f64 t163, .float .f64 t164] 28 (0, 0)) (fb_ BK165.out)) : gb165 ≠ gb174)); have n18_ := Aside0.mk ((by rw [hg]; exact Nat.ne_of_gt (blk_lt (g := gb165) (o := .cells #[.float .f64 t163, .float .f64 t164] 28 (0, 0)) (fb_ BK165.out)) : gb174 ≠ gb165)); clear BK142; clear BK148; clear BK154; clear BK160; clear BK165; clear HB; have BK142 := n0_; have BK148 := n1_; have BK154 := n2_; have BK160 := n3_; have BK165 := n4_; have HB := n5_; have BK174 := n6_; have GW174 := n7_; have GE174 := n8_; have NB142_174 := n9_; have NB174_142 := n10_; have NB148_174 := n11_; have NB174_148 := n12_; have NB154_174 := n13_; have NB174_154 := n14_; have NB160_174 := n15_; have NB174_160 := n16_; have NB165_174 := n17_; have NB174_165 := n18_; clear n0_ n1_ n2_ n3_ n4_ n5_ n6_ n7_ n8_ n9_ n10_ n11_ n12_ n13_ n14_ n15_ n16_ n17_ n18_; clear hb hbox hg; have hnb91 := NB174_142.out; have hnc91 := NB142_174.out; have hnb92 := NB174_148.out; have hnc92 := NB148_174.out; have hnb93 := NB174_154.out; have hnc93 := NB154_174.out; have hnb94 := NB174_160.out; have hnc94 := NB160_174.out; have hnb95 := NB174_165.out; have hnc95 := NB165_174.out; have hcz96_0 : w90.cell? ⟨gb174, 0, none⟩ = some (.float .f64 (0 : Nat)) := (blk_cell BK174.out 0).trans rfl; have hcz96_1 : w90.cell? ⟨gb174, 1, none⟩ = some (.float .f64 (0 : Nat)) := (blk_cell BK174.out 1).trans rfl; have hfz96_0 := blk_frozen BK174.out 0; have hfz96_1 := blk_frozen BK174.out 1; have hnb97 := NB160_142.out; have hnc97 := NB142_160.out; have hnb98 := NB160_148.out; have hnc98 := NB148_160.out; have hnb99 := NB160_154.out; have hnc99 := NB154_160.out; have hnb100 := NB160_165.out; have hnc100 := NB165_160.out; have hcz101_0 : w90.cell? ⟨gb160, 0, none⟩ = some (.float .f64 t158) := (blk_cell BK160.out 0).trans rfl; have hcz101_1 : w90.cell? ⟨gb160, 1, none⟩ = some (.float .f64 t159) := (blk_cell BK160.out 1).trans rfl; have hfz101_0 := blk_frozen BK160.out 0; have hfz101_1 := blk_frozen BK160.out 1; have hnb102 := NB142_148.out; have hnc102 := NB148_142.out; have hnb103 := NB142_154.out; have hnc103 := NB154_142.out; have hnb104 := NB142_165.out; have hnc104 := NB165_142.out; have hcz105_0 : w90.cell? ⟨gb142, 0, none⟩ = some (.float .f64 (floatOfInt .f64 (wrap64 (t140 - 128)))) := (blk_cell BK142.out 0).trans rfl; have hcz105_1 : w90.cell? ⟨gb142, 1, none⟩ = some (.float .f64 (floatOfInt .f64 (wrap64 (t141 - 128)))) := (blk_cell BK142.out 1).trans rfl; have hfz105_0 := blk_frozen BK142.out 0; have hfz105_1 := blk_frozen BK142.out 1) | ((with_reducible refine gate_callee (f := 13) rfl ?_); refine goesL_ (some 78) rfl rfl Try.func13 (by kernel_rfl) rfl #[.agg #[.float .f64 t158, .float .f64 t159], .agg #[.float .f64 (floatOfInt .f64 (wrap64 (t140 - 128))), .float .f64 (floatOfInt .f64 (wrap64 (t141 - 128)))]] rfl (by (try simp only [List.map_toArray, List.map_cons, List.map_nil]); first | done | rfl | (simp only [List.length_drop, List.length_take]; rfl)) ?_; (with_reducible refine (impl_Alike.calls t158 t159 (floatOfInt .f64 (wrap64 (t140 - 128))) (floatOfInt .f64 (wrap64 (t141 - 128))) true _ A80.out).mono ?_); rintro e w106 ⟨rfl, hb⟩; refine ⟨_, rfl, ?_⟩; have n0_ := Aside0.mk (blk_below (g := gb142) (o := .cells #[.float .f64 (floatOfInt .f64 (wrap64 (t140 - 128))), .float .f64 (floatOfInt .f64 (wrap64 (t141 - 128)))] 28 (0, 0)) (by (with_reducible repeat (first | refine blk_drewN ?_ _ | refine blk_drew ?_ | refine blk_alloc ?_ _)); refine blk_far ?_ NB142_174.out _; (with_reducible repeat (first | refine blk_drewN ?_ _ | refine blk_drew ?_ | refine blk_alloc ?_ _)); refine blk_far ?_ NB142_174.out _; (with_reducible repeat (first | refine blk_drewN ?_ _ | refine blk_drew ?_ | refine blk_alloc ?_ _)); exact BK142.out) hb); have n1_ := Aside0.mk (blk_below (g := gb148) (o := .cells #[.float .f64 ((rd_T28 y143 (ji8)).f0), .float .f64 ((rd_T28 y143 (ji8)).f1)] 28 (0, 0)) (by (with_reducible repeat (first | refine blk_drewN ?_ _ | refine blk_drew ?_ | refine blk_alloc ?_ _)); refine blk_far ?_ NB148_174.out _; (with_reducible repeat (first | refine blk_drewN ?_ _ | refine blk_drew ?_ | refine blk_alloc ?_ _)); refine blk_far ?_ NB148_174.out _; (with_reducible repeat (first | refine blk_drewN ?_ _ | refine blk_drew ?_ | refine blk_alloc ?_ _)); exact BK148.out) hb); have n2_ := Aside0.mk (blk_below (g := gb154) (o := .cells #[.float .f64 t151, .float .f64 t152] 28 (0, 0)) (by (with_reducible repeat (first | refine blk_drewN ?_ _ | refine blk_drew ?_ | refine blk_alloc ?_ _)); refine blk_far ?_ NB154_174.out _; (with_reducible repeat (first | refine blk_drewN ?_ _ | refine blk_drew ?_ | refine blk_alloc ?_ _)); refine blk_far ?_ NB154_174.out _; (with_reducible repeat (first | refine blk_drewN ?_ _ | refine blk_drew ?_ | refine blk_alloc ?_ _)); exact BK154.out) hb); have n3_ := Aside0.mk (blk_below (g := gb160) (o := .cells #[.float .f64 t158, .float .f64 t159] 28 (0, 0)) (by (with_reducible repeat (first | refine blk_drewN ?_ _ | refine blk_drew ?_ | refine blk_alloc ?_ _)); refine blk_far ?_ NB160_174.out _; (with_reducible repeat (first | refine blk_drewN ?_ _ | refine blk_drew ?_ | refine blk_alloc ?_ _)); refine blk_far ?_ NB160_174.out _; (with_reducible repeat (first | refine blk_drewN ?_ _ | refine blk_drew ?_ | refine blk_alloc ?_ _)); exact BK160.out) hb); have n4_ := Aside0.mk (blk_below (g := gb165) (o := .cells #[.float .f64 t163, .float .f64 t164] 28 (0, 0)) (by (with_reducible repeat (first | refine blk_drewN ?_ _ | refine blk_drew ?_ | refine blk_alloc ?_ _)); refine blk_far ?_ NB165_174.out _; (with_reducible repeat (first | refine blk_drewN ?_ _ | refine blk_drew ?_ | refine blk_alloc ?_ _)); refine blk_far ?_ NB165_174.out _; (with_reducible repeat (first | refine blk_drewN ?_ _ | refine blk_drew ?_ | refine blk_alloc ?_ _)); exact BK165.out) hb); have n5_ := Aside0.mk (blk_below (g := gb174) (o := .cells #[.float .f64 t171, .float .f64 t172] 28 (0, 0)) (by (with_reducible repeat (first | refine blk_drewN ?_ _ | refine blk_drew ?_ | refine blk_alloc ?_ _)); refine blk_put (cs := #[.float .f64 t171, .float .f64 (0 : Nat)]) ?_ 1 _ rfl; (with_reducible repeat (first | refine blk_drewN ?_ _ | refine blk_drew ?_ | refine blk_alloc ?_ _)); refine blk_put (cs := #[.float .f64 (0 : Nat), .float .f64 (0 : Nat)]) ?_ 0 _ rfl; (with_reducible repeat (first | refine blk_drewN ?_ _ | refine blk_drew ?_ | refine blk_alloc ?_ _)); exact BK174.out) hb); have n6_ := Aside0.mk (below_step (bel_ HB.out) hb); clear BK142; clear BK148; clear BK154; clear BK160; clear BK165; clear BK174; clear HB; have BK142 := n0_; have BK148 := n1_; have BK154 := n2_; have BK160 := n3_; have BK165 := n4_; have BK174 := n5_; have HB := n6_; clear n0_ n1_ n2_ n3_ n4_ n5_ n6_; (try clear hb); (try clear hb2); (try clear hk); (try clear hi); have hnb107 := NB165_148.out; have hnc107 := NB148_165.out; have hnb108 := NB165_154.out; have hnc108 := NB154_165.out; have hcz109_0 : w106.cell? ⟨gb165, 0, none⟩ = some (.float .f64 t163) := (blk_cell BK165.out 0).trans rfl; have hcz109_1 : w106.cell? ⟨gb165, 1, none⟩ = some (.float .f64 t164) := (blk_cell BK165.out 1).trans rfl; have hfz109_0 := blk_frozen BK165.out 0; have hfz109_1 := blk_frozen BK165.out 1; have hcz110_0 : w106.cell? ⟨gb142, 0, none⟩ = some (.float .f64 (floatOfInt .f64 (wrap64 (t140 - 128)))) := (blk_cell BK142.out 0).trans rfl; have hcz110_1 : w106.cell? ⟨gb142, 1, none⟩ = some (.float .f64 (floatOfInt .f64 (wrap64 (t141 - 128)))) := (blk_cell BK142.out 1).trans rfl; have hfz110_0 := blk_frozen BK142.out 0; have hfz110_1 := blk_frozen BK142.out 1; have hq111_ : (floatBits .mul .f64 (floatOfInt .f64 (wrap64 (t140 - 128))) (floatOfInt .f64 (wrap64 (t140 - 128)))).isSome = true := (by first | assumption | exact of_eq_true (by assumption) | (simp only [*])); have hf111_ := fun w_ : World => run_float_arith (P := Try.prog) (w := w_) .mul 26 .f64 (floatOfInt .f64 (wrap64 (t140 - 128))) (floatOfInt .f64 (wrap64 (t140 - 128))) ((floatBits .mul .f64 (floatOfInt .f64 (wrap64 (t140 - 128))) (floatOfInt .f64 (wrap64 (t140 - 128)))).getD 0) (opt_getD_ hq111_); have hq112_ : (floatBits .mul .f64 (floatOfInt .f64 (wrap64 (t141 - 128))) (floatOfInt .f64 (wrap64 (t141 - 128)))).isSome = true := (by first | assumption | exact of_eq_true (by assumption) | (simp only [*])); have hf112_ := fun w_ : World => run_float_arith (P := Try.prog) (w := w_) .mul 26 .f64 (floatOfInt .f64 (wrap64 (t141 - 128))) (floatOfInt .f64 (wrap64 (t141 - 128))) ((floatBits .mul .f64 (floatOfInt .f64 (wrap64 (t141 - 128))) (floatOfInt .f64 (wrap64 (t141 - 128)))).getD 0) (opt_getD_ hq112_); have hq113_ : (floatBits .add .f64 ((floatBits .mul .f64 (floatOfInt .f64 (wrap64 (t140 - 128))) (floatOfInt .f64 (wrap64 (t140 - 128)))).getD 0) ((floatBits .mul .f64 (floatOfInt .f64 (wrap64 (t141 - 128))) (floatOfInt .f64 (wrap64 (t141 - 128)))).getD 0)).isSome = true := (by first | assumption | exact of_eq_true (by assumption) | (simp only [*])); have hf113_ := fun w_ : World => run_float_arith (P := Try.prog) (w := w_) .add 26 .f64 ((floatBits .mul .f64 (floatOfInt .f64 (wrap64 (t140 - 128))) (floatOfInt .f64 (wrap64 (t140 - 128)))).getD 0) ((floatBits .mul .f64 (floatOfInt .f64 (wrap64 (t141 - 128))) (floatOfInt .f64 (wrap64 (t141 - 128)))).getD 0) ((floatBits .add .f64 ((floatBits .mul .f64 (floatOfInt .f64 (wrap64 (t140 - 128))) (floatOfInt .f64 (wrap64 (t140 - 128)))).getD 0) ((floatBits .mul .f64 (floatOfInt .f64 (wrap64 (t141 - 128))) (floatOfInt .f64 (wrap64 (t141 - 128)))).getD 0)).getD 0) (opt_getD_ hq113_)))
                 go_ret
                 exact ⟨by first | rfl | (simp [errW_none, errW_some] <;> rfl) | (simp only [← hji8]; first | rfl | (simp [errW_none, errW_some] <;> rfl)) | (simp [*, errW_none, errW_some] <;> rfl), bel_ HB.out⟩
                ·replace c87 := Bool.eq_false_iff.mpr c87
                 subst c87
                 have H1 : (if t173 = true then (some (FloatKind.f64.format.order t171 (4607182418800017408 : Nat) == some .eq)) else (some false)) = some r := by rw [if_neg (show ¬ (false = true) by decide)] at H; exact H
                 clear H
                 have H := H1
                 clear H1
                 by_cases c114 : t173 = true
                 ·subst c114
                  have H1 : (some (FloatKind.f64.format.order t171 (4607182418800017408 : Nat) == some .eq)) = some r := by rw [if_pos rfl] at H; exact H
                  clear H
                  have H := H1
                  clear H1
                  obtain rfl := Option.some.inj H
                  go_wp2_with (first | ((with_reducible refine gate_callee (f := 8) rfl ?_); refine goesL_ (some 71) rfl rfl Try.func8 (by kernel_rfl) rfl #[.slice A0 l0.length c0, .int .i64 3] rfl (by (try simp only [List.map_toArray, List.map_cons, List.map_nil]); first | done | rfl | (simp only [List.length_drop, List.length_take]; rfl)) ?_; (with_reducible refine (laws_at.calls _ _ l0 3 t170 _ ?side1 ?side2 A78.out).mono ?_); (case side1 => repeat (first | exact (Kd.C_below HR0.out HB.out) | (with_reducible refine Kd.C_alloc ?_ _) | (with_reducible refine Kd.C_drewN ?_ _) | (with_reducible refine Kd.C_drew ?_))); (case side2 => exact HC0.out); rintro e w' ⟨rfl, ⟨nd, rfl⟩⟩; refine ⟨_, rfl, ?_⟩; (try ((first | generalize hq_ : World.drewN wc _ = wc | (rw [drewN_self wc]; generalize hq_ : World.drewN wc _ = wc)); have n0_ : Aside0 (wc.heap[gb142]? = some (.cells #[.float .f64 (floatOfInt .f64 (wrap64 (t140 - 128))), .float .f64 (floatOfInt .f64 (wrap64 (t141 - 128)))] 28 (0, 0))) := ⟨by rw [← hq_]; exact (fb_ BK142.out)⟩; have n1_ : Aside0 (wc.heap[gb148]? = some (.cells #[.float .f64 ((rd_T28 y143 (ji8)).f0), .float .f64 ((rd_T28 y143 (ji8)).f1)] 28 (0, 0))) := ⟨by rw [← hq_]; exact (fb_ BK148.out)⟩; have n2_ : Aside0 (wc.heap[gb154]? = some (.cells #[.float .f64 t151, .float .f64 t152] 28 (0, 0))) := ⟨by rw [← hq_]; exact (fb_ BK154.out)⟩; have n3_ : Aside0 (wc.heap[gb160]? = some (.cells #[.float .f64 t158, .float .f64 t159] 28 (0, 0))) := ⟨by rw [← hq_]; exact (fb_ BK160.out)⟩; have n4_ : Aside0 (wc.heap[gb165]? = some (.cells #[.float .f64 t163, .float .f64 t164] 28 (0, 0))) := ⟨by rw [← hq_]; exact (fb_ BK165.out)⟩; have n5_ : Aside0 (Below w.heap.size w wc) := ⟨by rw [← hq_]; exact (bel_ HB.out)⟩; clear BK142 BK148 BK154 BK160 BK165 HB hq_; have BK142 := n0_; have BK148 := n1_; have BK154 := n2_; have BK160 := n3_; have BK165 := n4_; have HB := n5_; clear n0_ n1_ n2_ n3_ n4_ n5_)); have hu115_ := Try.underlying3; have hv115_ := Try.underlying26) | ((with_reducible refine gate_callee (f := 15) rfl ?_); refine goesL_ (some 73) rfl rfl Try.func15 (by kernel_rfl) rfl #[.float .f64 (0 : Nat), .float .f64 (floatOfInt .f64 t170)] rfl (by (try simp only [List.map_toArray, List.map_cons, List.map_nil]); first | done | rfl | (simp only [List.length_drop, List.length_take]; rfl)) ?_; (with_reducible refine (impl_Reply.calls kj44 (0 : Nat) (floatOfInt .f64 t170) t171 t172 true _ A79.out).mono ?_); rintro e w116 ⟨rfl, hb⟩; refine ⟨_, rfl, ?_⟩; have n0_ := Aside0.mk (blk_below (g := gb142) (o := .cells #[.float .f64 (floatOfInt .f64 (wrap64 (t140 - 128))), .float .f64 (floatOfInt .f64 (wrap64 (t141 - 128)))] 28 (0, 0)) (fb_ BK142.out) hb); have n1_ := Aside0.mk (blk_below (g := gb148) (o := .cells #[.float .f64 ((rd_T28 y143 (ji8)).f0), .float .f64 ((rd_T28 y143 (ji8)).f1)] 28 (0, 0)) (fb_ BK148.out) hb); have n2_ := Aside0.mk (blk_below (g := gb154) (o := .cells #[.float .f64 t151, .float .f64 t152] 28 (0, 0)) (fb_ BK154.out) hb); have n3_ := Aside0.mk (blk_below (g := gb160) (o := .cells #[.float .f64 t158, .float .f64 t159] 28 (0, 0)) (fb_ BK160.out) hb); have n4_ := Aside0.mk (blk_below (g := gb165) (o := .cells #[.float .f64 t163, .float .f64 t164] 28 (0, 0)) (fb_ BK165.out) hb); have n5_ := Aside0.mk (below_step (bel_ HB.out) hb); clear BK142; clear BK148; clear BK154; clear BK160; clear BK165; clear HB; have BK142 := n0_; have BK148 := n1_; have BK154 := n2_; have BK160 := n3_; have BK165 := n4_; have HB := n5_; clear n0_ n1_ n2_ n3_ n4_ n5_; (try clear hb); (try clear hb2); (try clear hk); (try clear hi)) | ((with_reducible refine gate_dst (N := 12) rfl ?_); refine box_event ?hg (N := 12) ?hd (cs := #[.float .f64 (0 : Nat), .float .f64 (0 : Nat)]) (t := 28) ?hr ?_; (case hd => rfl); (case hg => rfl); (case hr => first | (go_simp; done) | (go_simp; rfl)); intro gb174 hg w117 hbox hb; have n0_ := Aside0.mk (blk_below (g := gb142) (o := .cells #[.float .f64 (floatOfInt .f64 (wrap64 (t140 - 128))), .float .f64 (floatOfInt .f64 (wrap64 (t141 - 128)))] 28 (0, 0)) (fb_ BK142.out) hb); have n1_ := Aside0.mk (blk_below (g := gb148) (o := .cells #[.float .f64 ((rd_T28 y143 (ji8)).f0), .float .f64 ((rd_T28 y143 (ji8)).f1)] 28 (0, 0)) (fb_ BK148.out) hb); have n2_ := Aside0.mk (blk_below (g := gb154) (o := .cells #[.float .f64 t151, .float .f64 t152] 28 (0, 0)) (fb_ BK154.out) hb); have n3_ := Aside0.mk (blk_below (g := gb160) (o := .cells #[.float .f64 t158, .float .f64 t159] 28 (0, 0)) (fb_ BK160.out) hb); have n4_ := Aside0.mk (blk_below (g := gb165) (o := .cells #[.float .f64 t163, .float .f64 t164] 28 (0, 0)) (fb_ BK165.out) hb); have n5_ := Aside0.mk (below_step (bel_ HB.out) hb); have n6_ := Aside0.mk (hbox); have n7_ := Aside0.mk ((by rw [hg]; exact (below_size (bel_ HB.out)) : w.heap.size ≤ gb174)); have n8_ := Aside0.mk ((by rw [hg]; exact (below_size (bel_ HB.out)) : w.heap.size ≤ gb174)); have n9_ := Aside0.mk ((by rw [hg]; exact Nat.ne_of_lt (blk_lt (g := gb142) (o := .cells #[.float .f64 (floatOfInt .f64 (wrap64 (t140 - 128))), .float .f64 (floatOfInt .f64 (wrap64 (t141 - 128)))] 28 (0, 0)) (fb_ BK142.out)) : gb142 ≠ gb174)); have n10_ := Aside0.mk ((by rw [hg]; exact Nat.ne_of_gt (blk_lt (g := gb142) (o := .cells #[.float .f64 (floatOfInt .f64 (wrap64 (t140 - 128))), .float .f64 (floatOfInt .f64 (wrap64 (t141 - 128)))] 28 (0, 0)) (fb_ BK142.out)) : gb174 ≠ gb142)); have n11_ := Aside0.mk ((by rw [hg]; exact Nat.ne_of_lt (blk_lt (g := gb148) (o := .cells #[.float .f64 ((rd_T28 y143 (ji8)).f0), .float .f64 ((rd_T28 y143 (ji8)).f1)] 28 (0, 0)) (fb_ BK148.out)) : gb148 ≠ gb174)); have n12_ := Aside0.mk ((by rw [hg]; exact Nat.ne_of_gt (blk_lt (g := gb148) (o := .cells #[.float .f64 ((rd_T28 y143 (ji8)).f0), .float .f64 ((rd_T28 y143 (ji8)).f1)] 28 (0, 0)) (fb_ BK148.out)) : gb174 ≠ gb148)); have n13_ := Aside0.mk ((by rw [hg]; exact Nat.ne_of_lt (blk_lt (g := gb154) (o := .cells #[.float .f64 t151, .float .f64 t152] 28 (0, 0)) (fb_ BK154.out)) : gb154 ≠ gb174)); have n14_ := Aside0.mk ((by rw [hg]; exact Nat.ne_of_gt (blk_lt (g := gb154) (o := .cells #[.float .f64 t151, .float .f64 t152] 28 (0, 0)) (fb_ BK154.out)) : gb174 ≠ gb154)); have n15_ := Aside0.mk ((by rw [hg]; exact Nat.ne_of_lt (blk_lt (g := gb160) (o := .cells #[.float .f64 t158, .float .f64 t159] 28 (0, 0)) (fb_ BK160.out)) : gb160 ≠ gb174)); have n16_ := Aside0.mk ((by rw [hg]; exact Nat.ne_of_gt (blk_lt (g := gb160) (o := .cells #[.float .f64 t158, .float .f64 t159] 28 (0, 0)) (fb_ BK160.out)) : gb174 ≠ gb160)); have n17_ := Aside0.mk ((by rw [hg]; exact Nat.ne_of_lt (blk_lt (g := gb165) (o := .cells #[.float .f64 t163, .float .f64 t164] 28 (0, 0)) (fb_ BK165.out)) : gb165 ≠ gb174)); have n18_ := Aside0.mk ((by rw [hg]; exact Nat.ne_of_gt (blk_lt (g := gb165) (o := .cells #[.float .f64 t163, .float .f64 t164] 28 (0, 0)) (fb_ BK165.out)) : gb174 ≠ gb165)); clear BK142; clear BK148; clear BK154; clear BK160; clear BK165; clear HB; have BK142 := n0_; have BK148 := n1_; have BK154 := n2_; have BK160 := n3_; have BK165 := n4_; have HB := n5_; have BK174 := n6_; have GW174 := n7_; have GE174 := n8_; have NB142_174 := n9_; have NB174_142 := n10_; have NB148_174 := n11_; have NB174_148 := n12_; have NB154_174 := n13_; have NB174_154 := n14_; have NB160_174 := n15_; have NB174_160 := n16_; have NB165_174 := n17_; have NB174_165 := n18_; clear n0_ n1_ n2_ n3_ n4_ n5_ n6_ n7_ n8_ n9_ n10_ n11_ n12_ n13_ n14_ n15_ n16_ n17_ n18_; clear hb hbox hg; have hnb118 := NB174_142.out; have hnc118 := NB142_174.out; have hnb119 := NB174_148.out; have hnc119 := NB148_174.out; have hnb120 := NB174_154.out; have hnc120 := NB154_174.out; have hnb121 := NB174_160.out; have hnc121 := NB160_174.out; have hnb122 := NB174_165.out; have hnc122 := NB165_174.out; have hcz123_0 : w117.cell? ⟨gb174, 0, none⟩ = some (.float .f64 (0 : Nat)) := (blk_cell BK174.out 0).trans rfl; have hcz123_1 : w117.cell? ⟨gb174, 1, none⟩ = some (.float .f64 (0 : Nat)) := (blk_cell BK174.out 1).trans rfl; have hfz123_0 := blk_frozen BK174.out 0; have hfz123_1 := blk_frozen BK174.out 1; have hnb124 := NB160_142.out; have hnc124 := NB142_160.out; have hnb125 := NB160_148.out; have hnc125 := NB148_160.out; have hnb126 := NB160_154.out; have hnc126 := NB154_160.out; have hnb127 := NB160_165.out; have hnc127 := NB165_160.out; have hcz128_0 : w117.cell? ⟨gb160, 0, none⟩ = some (.float .f64 t158) := (blk_cell BK160.out 0).trans rfl; have hcz128_1 : w117.cell? ⟨gb160, 1, none⟩ = some (.float .f64 t159) := (blk_cell BK160.out 1).trans rfl; have hfz128_0 := blk_frozen BK160.out 0; have hfz128_1 := blk_frozen BK160.out 1; have hnb129 := NB142_148.out; have hnc129 := NB148_142.out; have hnb130 := NB142_154.out; have hnc130 := NB154_142.out; have hnb131 := NB142_165.out; have hnc131 := NB165_142.out; have hcz132_0 : w117.cell? ⟨gb142, 0, none⟩ = some (.float .f64 (floatOfInt .f64 (wrap64 (t140 - 128)))) := (blk_cell BK142.out 0).trans rfl; have hcz132_1 : w117.cell? ⟨gb142, 1, none⟩ = some (.float .f64 (floatOfInt .f64 (wrap64 (t141 - 128)))) := (blk_cell BK142.out 1).trans rfl; have hfz132_0 := blk_frozen BK142.out 0; have hfz132_1 := blk_frozen BK142.out 1) | ((with_reducible refine gate_callee (f := 13) rfl ?_); refine goesL_ (some 78) rfl rfl Try.func13 (by kernel_rfl) rfl #[.agg #[.float .f64 t158, .float .f64 t159], .agg #[.float .f64 (floatOfInt .f64 (wrap64 (t140 - 128))), .float .f64 (floatOfInt .f64 (wrap64 (t141 - 128)))]] rfl (by (try simp only [List.map_toArray, List.map_cons, List.map_nil]); first | done | rfl | (simp only [List.length_drop, List.length_take]; rfl)) ?_; (with_reducible refine (impl_Alike.calls t158 t159 (floatOfInt .f64 (wrap64 (t140 - 128))) (floatOfInt .f64 (wrap64 (t141 - 128))) true _ A80.out).mono ?_); rintro e w133 ⟨rfl, hb⟩; refine ⟨_, rfl, ?_⟩; have n0_ := Aside0.mk (blk_below (g := gb142) (o := .cells #[.float .f64 (floatOfInt .f64 (wrap64 (t140 - 128))), .float .f64 (floatOfInt .f64 (wrap64 (t141 - 128)))] 28 (0, 0)) (by (with_reducible repeat (first | refine blk_drewN ?_ _ | refine blk_drew ?_ | refine blk_alloc ?_ _)); refine blk_far ?_ NB142_174.out _; (with_reducible repeat (first | refine blk_drewN ?_ _ | refine blk_drew ?_ | refine blk_alloc ?_ _)); refine blk_far ?_ NB142_174.out _; (with_reducible repeat (first | refine blk_drewN ?_ _ | refine blk_drew ?_ | refine blk_alloc ?_ _)); exact BK142.out) hb); have n1_ := Aside0.mk (blk_below (g := gb148) (o := .cells #[.float .f64 ((rd_T28 y143 (ji8)).f0), .float .f64 ((rd_T28 y143 (ji8)).f1)] 28 (0, 0)) (by (with_reducible repeat (first | refine blk_drewN ?_ _ | refine blk_drew ?_ | refine blk_alloc ?_ _)); refine blk_far ?_ NB148_174.out _; (with_reducible repeat (first | refine blk_drewN ?_ _ | refine blk_drew ?_ | refine blk_alloc ?_ _)); refine blk_far ?_ NB148_174.out _; (with_reducible repeat (first | refine blk_drewN ?_ _ | refine blk_drew ?_ | refine blk_alloc ?_ _)); exact BK148.out) hb); have n2_ := Aside0.mk (blk_below (g := gb154) (o := .cells #[.float .f64 t151, .float .f64 t152] 28 (0, 0)) (by (with_reducible repeat (first | refine blk_drewN ?_ _ | refine blk_drew ?_ | refine blk_alloc ?_ _)); refine blk_far ?_ NB154_174.out _; (with_reducible repeat (first | refine blk_drewN ?_ _ | refine blk_drew ?_ | refine blk_alloc ?_ _)); refine blk_far ?_ NB154_174.out _; (with_reducible repeat (first | refine blk_drewN ?_ _ | refine blk_drew ?_ | refine blk_alloc ?_ _)); exact BK154.out) hb); have n3_ := Aside0.mk (blk_below (g := gb160) (o := .cells #[.float .f64 t158, .float .f64 t159] 28 (0, 0)) (by (with_reducible repeat (first | refine blk_drewN ?_ _ | refine blk_drew ?_ | refine blk_alloc ?_ _)); refine blk_far ?_ NB160_174.out _; (with_reducible repeat (first | refine blk_drewN ?_ _ | refine blk_drew ?_ | refine blk_alloc ?_ _)); refine blk_far ?_ NB160_174.out _; (with_reducible repeat (first | refine blk_drewN ?_ _ | refine blk_drew ?_ | refine blk_alloc ?_ _)); exact BK160.out) hb); have n4_ := Aside0.mk (blk_below (g := gb165) (o := .cells #[.float .f64 t163, .float .f64 t164] 28 (0, 0)) (by (with_reducible repeat (first | refine blk_drewN ?_ _ | refine blk_drew ?_ | refine blk_alloc ?_ _)); refine blk_far ?_ NB165_174.out _; (with_reducible repeat (first | refine blk_drewN ?_ _ | refine blk_drew ?_ | refine blk_alloc ?_ _)); refine blk_far ?_ NB165_174.out _; (with_reducible repeat (first | refine blk_drewN ?_ _ | refine blk_drew ?_ | refine blk_alloc ?_ _)); exact BK165.out) hb); have n5_ := Aside0.mk (blk_below (g := gb174) (o := .cells #[.float .f64 t171, .float .f64 t172] 28 (0, 0)) (by (with_reducible repeat (first | refine blk_drewN ?_ _ | refine blk_drew ?_ | refine blk_alloc ?_ _)); refine blk_put (cs := #[.float .f64 t171, .float .f64 (0 : Nat)]) ?_ 1 _ rfl; (with_reducible repeat (first | refine blk_drewN ?_ _ | refine blk_drew ?_ | refine blk_alloc ?_ _)); refine blk_put (cs := #[.float .f64 (0 : Nat), .float .f64 (0 : Nat)]) ?_ 0 _ rfl; (with_reducible repeat (first | refine blk_drewN ?_ _ | refine blk_drew ?_ | refine blk_alloc ?_ _)); exact BK174.out) hb); have n6_ := Aside0.mk (below_step (bel_ HB.out) hb); clear BK142; clear BK148; clear BK154; clear BK160; clear BK165; clear BK174; clear HB; have BK142 := n0_; have BK148 := n1_; have BK154 := n2_; have BK160 := n3_; have BK165 := n4_; have BK174 := n5_; have HB := n6_; clear n0_ n1_ n2_ n3_ n4_ n5_ n6_; (try clear hb); (try clear hb2); (try clear hk); (try clear hi); have hnb134 := NB165_148.out; have hnc134 := NB148_165.out; have hnb135 := NB165_154.out; have hnc135 := NB154_165.out; have hcz136_0 : w133.cell? ⟨gb165, 0, none⟩ = some (.float .f64 t163) := (blk_cell BK165.out 0).trans rfl; have hcz136_1 : w133.cell? ⟨gb165, 1, none⟩ = some (.float .f64 t164) := (blk_cell BK165.out 1).trans rfl; have hfz136_0 := blk_frozen BK165.out 0; have hfz136_1 := blk_frozen BK165.out 1; have hcz137_0 : w133.cell? ⟨gb142, 0, none⟩ = some (.float .f64 (floatOfInt .f64 (wrap64 (t140 - 128)))) := (blk_cell BK142.out 0).trans rfl; have hcz137_1 : w133.cell? ⟨gb142, 1, none⟩ = some (.float .f64 (floatOfInt .f64 (wrap64 (t141 - 128)))) := (blk_cell BK142.out 1).trans rfl; have hfz137_0 := blk_frozen BK142.out 0; have hfz137_1 := blk_frozen BK142.out 1; have hq138_ : (floatBits .mul .f64 (floatOfInt .f64 (wrap64 (t140 - 128))) (floatOfInt .f64 (wrap64 (t140 - 128)))).isSome = true := (by first | assumption | exact of_eq_true (by assumption) | (simp only [*])); have hf138_ := fun w_ : World => run_float_arith (P := Try.prog) (w := w_) .mul 26 .f64 (floatOfInt .f64 (wrap64 (t140 - 128))) (floatOfInt .f64 (wrap64 (t140 - 128))) ((floatBits .mul .f64 (floatOfInt .f64 (wrap64 (t140 - 128))) (floatOfInt .f64 (wrap64 (t140 - 128)))).getD 0) (opt_getD_ hq138_); have hq139_ : (floatBits .mul .f64 (floatOfInt .f64 (wrap64 (t141 - 128))) (floatOfInt .f64 (wrap64 (t141 - 128)))).isSome = true := (by first | assumption | exact of_eq_true (by assumption) | (simp only [*])); have hf139_ := fun w_ : World => run_float_arith (P := Try.prog) (w := w_) .mul 26 .f64 (floatOfInt .f64 (wrap64 (t141 - 128))) (floatOfInt .f64 (wrap64 (t141 - 128))) ((floatBits .mul .f64 (floatOfInt .f64 (wrap64 (t141 - 128))) (floatOfInt .f64 (wrap64 (t141 - 128)))).getD 0) (opt_getD_ hq139_); have hq140_ : (floatBits .add .f64 ((floatBits .mul .f64 (floatOfInt .f64 (wrap64 (t140 - 128))) (floatOfInt .f64 (wrap64 (t140 - 128)))).getD 0) ((floatBits .mul .f64 (floatOfInt .f64 (wrap64 (t141 - 128))) (floatOfInt .f64 (wrap64 (t141 - 128)))).getD 0)).isSome = true := (by first | assumption | exact of_eq_true (by assumption) | (simp only [*])); have hf140_ := fun w_ : World => run_float_arith (P := Try.prog) (w := w_) .add 26 .f64 ((floatBits .mul .f64 (floatOfInt .f64 (wrap64 (t140 - 128))) (floatOfInt .f64 (wrap64 (t140 - 128)))).getD 0) ((floatBits .mul .f64 (floatOfInt .f64 (wrap64 (t141 - 128))) (floatOfInt .f64 (wrap64 (t141 - 128)))).getD 0) ((floatBits .add .f64 ((floatBits .mul .f64 (floatOfInt .f64 (wrap64 (t140 - 128))) (floatOfInt .f64 (wrap64 (t140 - 128)))).getD 0) ((floatBits .mul .f64 (floatOfInt .f64 (wrap64 (t141 - 128))) (floatOfInt .f64 (wrap64 (t141 - 128)))).getD 0)).getD 0) (opt_getD_ hq140_); have hcz141_0 : w133.cell? ⟨gb174, 0, none⟩ = some (.float .f64 t171) := (blk_cell BK174.out 0).trans rfl; have hcz141_1 : w133.cell? ⟨gb174, 1, none⟩ = some (.float .f64 t172) := (blk_cell BK174.out 1).trans rfl; have hfz141_0 := blk_frozen BK174.out 0; have hfz141_1 := blk_frozen BK174.out 1))
                  go_ret
                  exact ⟨by first | rfl | (simp [errW_none, errW_some] <;> rfl) | (simp only [← hji8]; first | rfl | (simp [errW_none, errW_some] <;> rfl)) | (simp [*, errW_none, errW_some] <;> rfl), bel_ HB.out⟩
                 ·replace c114 := Bool.eq_false_iff.mpr c114
                  subst c114
                  have H1 : (some false) = some r := by rw [if_neg (show ¬ (false = true) by decide)] at H; exact H
                  clear H
                  have H := H1
                  clear H1
                  obtain rfl := Option.some.inj H
                  go_wp2_with (first | ((with_reducible refine gate_callee (f := 8) rfl ?_); refine goesL_ (some 71) rfl rfl Try.func8 (by kernel_rfl) rfl #[.slice A0 l0.length c0, .int .i64 3] rfl (by (try simp only [List.map_toArray, List.map_cons, List.map_nil]); first | done | rfl | (simp only [List.length_drop, List.length_take]; rfl)) ?_; (with_reducible refine (laws_at.calls _ _ l0 3 t170 _ ?side1 ?side2 A78.out).mono ?_); (case side1 => repeat (first | exact (Kd.C_below HR0.out HB.out) | (with_reducible refine Kd.C_alloc ?_ _) | (with_reducible refine Kd.C_drewN ?_ _) | (with_reducible refine Kd.C_drew ?_))); (case side2 => exact HC0.out); rintro e w' ⟨rfl, ⟨nd, rfl⟩⟩; refine ⟨_, rfl, ?_⟩; (try ((first | generalize hq_ : World.drewN wc _ = wc | (rw [drewN_self wc]; generalize hq_ : World.drewN wc _ = wc)); have n0_ : Aside0 (wc.heap[gb142]? = some (.cells #[.float .f64 (floatOfInt .f64 (wrap64 (t140 - 128))), .float .f64 (floatOfInt .f64 (wrap64 (t141 - 128)))] 28 (0, 0))) := ⟨by rw [← hq_]; exact (fb_ BK142.out)⟩; have n1_ : Aside0 (wc.heap[gb148]? = some (.cells #[.float .f64 ((rd_T28 y143 (ji8)).f0), .float .f64 ((rd_T28 y143 (ji8)).f1)] 28 (0, 0))) := ⟨by rw [← hq_]; exact (fb_ BK148.out)⟩; have n2_ : Aside0 (wc.heap[gb154]? = some (.cells #[.float .f64 t151, .float .f64 t152] 28 (0, 0))) := ⟨by rw [← hq_]; exact (fb_ BK154.out)⟩; have n3_ : Aside0 (wc.heap[gb160]? = some (.cells #[.float .f64 t158, .float .f64 t159] 28 (0, 0))) := ⟨by rw [← hq_]; exact (fb_ BK160.out)⟩; have n4_ : Aside0 (wc.heap[gb165]? = some (.cells #[.float .f64 t163, .float .f64 t164] 28 (0, 0))) := ⟨by rw [← hq_]; exact (fb_ BK165.out)⟩; have n5_ : Aside0 (Below w.heap.size w wc) := ⟨by rw [← hq_]; exact (bel_ HB.out)⟩; clear BK142 BK148 BK154 BK160 BK165 HB hq_; have BK142 := n0_; have BK148 := n1_; have BK154 := n2_; have BK160 := n3_; have BK165 := n4_; have HB := n5_; clear n0_ n1_ n2_ n3_ n4_ n5_)); have hu142_ := Try.underlying3; have hv142_ := Try.underlying26) | ((with_reducible refine gate_callee (f := 15) rfl ?_); refine goesL_ (some 73) rfl rfl Try.func15 (by kernel_rfl) rfl #[.float .f64 (0 : Nat), .float .f64 (floatOfInt .f64 t170)] rfl (by (try simp only [List.map_toArray, List.map_cons, List.map_nil]); first | done | rfl | (simp only [List.length_drop, List.length_take]; rfl)) ?_; (with_reducible refine (impl_Reply.calls kj44 (0 : Nat) (floatOfInt .f64 t170) t171 t172 false _ A79.out).mono ?_); rintro e w143 ⟨rfl, hb⟩; refine ⟨_, rfl, ?_⟩; have n0_ := Aside0.mk (blk_below (g := gb142) (o := .cells #[.float .f64 (floatOfInt .f64 (wrap64 (t140 - 128))), .float .f64 (floatOfInt .f64 (wrap64 (t141 - 128)))] 28 (0, 0)) (fb_ BK142.out) hb); have n1_ := Aside0.mk (blk_below (g := gb148) (o := .cells #[.float .f64 ((rd_T28 y143 (ji8)).f0), .float .f64 ((rd_T28 y143 (ji8)).f1)] 28 (0, 0)) (fb_ BK148.out) hb); have n2_ := Aside0.mk (blk_below (g := gb154) (o := .cells #[.float .f64 t151, .float .f64 t152] 28 (0, 0)) (fb_ BK154.out) hb); have n3_ := Aside0.mk (blk_below (g := gb160) (o := .cells #[.float .f64 t158, .float .f64 t159] 28 (0, 0)) (fb_ BK160.out) hb); have n4_ := Aside0.mk (blk_below (g := gb165) (o := .cells #[.float .f64 t163, .float .f64 t164] 28 (0, 0)) (fb_ BK165.out) hb); have n5_ := Aside0.mk (below_step (bel_ HB.out) hb); clear BK142; clear BK148; clear BK154; clear BK160; clear BK165; clear HB; have BK142 := n0_; have BK148 := n1_; have BK154 := n2_; have BK160 := n3_; have BK165 := n4_; have HB := n5_; clear n0_ n1_ n2_ n3_ n4_ n5_; (try clear hb); (try clear hb2); (try clear hk); (try clear hi)) | ((with_reducible refine gate_dst (N := 12) rfl ?_); refine box_event ?hg (N := 12) ?hd (cs := #[.float .f64 (0 : Nat), .float .f64 (0 : Nat)]) (t := 28) ?hr ?_; (case hd => rfl); (case hg => rfl); (case hr => first | (go_simp; done) | (go_simp; rfl)); intro gb174 hg w144 hbox hb; have n0_ := Aside0.mk (blk_below (g := gb142) (o := .cells #[.float .f64 (floatOfInt .f64 (wrap64 (t140 - 128))), .float .f64 (floatOfInt .f64 (wrap64 (t141 - 128)))] 28 (0, 0)) (fb_ BK142.out) hb); have n1_ := Aside0.mk (blk_below (g := gb148) (o := .cells #[.float .f64 ((rd_T28 y143 (ji8)).f0), .float .f64 ((rd_T28 y143 (ji8)).f1)] 28 (0, 0)) (fb_ BK148.out) hb); have n2_ := Aside0.mk (blk_below (g := gb154) (o := .cells #[.float .f64 t151, .float .f64 t152] 28 (0, 0)) (fb_ BK154.out) hb); have n3_ := Aside0.mk (blk_below (g := gb160) (o := .cells #[.float .f64 t158, .float .f64 t159] 28 (0, 0)) (fb_ BK160.out) hb); have n4_ := Aside0.mk (blk_below (g := gb165) (o := .cells #[.float .f64 t163, .float .f64 t164] 28 (0, 0)) (fb_ BK165.out) hb); have n5_ := Aside0.mk (below_step (bel_ HB.out) hb); have n6_ := Aside0.mk (hbox); have n7_ := Aside0.mk ((by rw [hg]; exact (below_size (bel_ HB.out)) : w.heap.size ≤ gb174)); have n8_ := Aside0.mk ((by rw [hg]; exact (below_size (bel_ HB.out)) : w.heap.size ≤ gb174)); have n9_ := Aside0.mk ((by rw [hg]; exact Nat.ne_of_lt (blk_lt (g := gb142) (o := .cells #[.float .f64 (floatOfInt .f64 (wrap64 (t140 - 128))), .float .f64 (floatOfInt .f64 (wrap64 (t141 - 128)))] 28 (0, 0)) (fb_ BK142.out)) : gb142 ≠ gb174)); have n10_ := Aside0.mk ((by rw [hg]; exact Nat.ne_of_gt (blk_lt (g := gb142) (o := .cells #[.float .f64 (floatOfInt .f64 (wrap64 (t140 - 128))), .float .f64 (floatOfInt .f64 (wrap64 (t141 - 128)))] 28 (0, 0)) (fb_ BK142.out)) : gb174 ≠ gb142)); have n11_ := Aside0.mk ((by rw [hg]; exact Nat.ne_of_lt (blk_lt (g := gb148) (o := .cells #[.float .f64 ((rd_T28 y143 (ji8)).f0), .float .f64 ((rd_T28 y143 (ji8)).f1)] 28 (0, 0)) (fb_ BK148.out)) : gb148 ≠ gb174)); have n12_ := Aside0.mk ((by rw [hg]; exact Nat.ne_of_gt (blk_lt (g := gb148) (o := .cells #[.float .f64 ((rd_T28 y143 (ji8)).f0), .float .f64 ((rd_T28 y143 (ji8)).f1)] 28 (0, 0)) (fb_ BK148.out)) : gb174 ≠ gb148)); have n13_ := Aside0.mk ((by rw [hg]; exact Nat.ne_of_lt (blk_lt (g := gb154) (o := .cells #[.float .f64 t151, .float .f64 t152] 28 (0, 0)) (fb_ BK154.out)) : gb154 ≠ gb174)); have n14_ := Aside0.mk ((by rw [hg]; exact Nat.ne_of_gt (blk_lt (g := gb154) (o := .cells #[.float .f64 t151, .float .f64 t152] 28 (0, 0)) (fb_ BK154.out)) : gb174 ≠ gb154)); have n15_ := Aside0.mk ((by rw [hg]; exact Nat.ne_of_lt (blk_lt (g := gb160) (o := .cells #[.float .f64 t158, .float .f64 t159] 28 (0, 0)) (fb_ BK160.out)) : gb160 ≠ gb174)); have n16_ := Aside0.mk ((by rw [hg]; exact Nat.ne_of_gt (blk_lt (g := gb160) (o := .cells #[.float .f64 t158, .float .f64 t159] 28 (0, 0)) (fb_ BK160.out)) : gb174 ≠ gb160)); have n17_ := Aside0.mk ((by rw [hg]; exact Nat.ne_of_lt (blk_lt (g := gb165) (o := .cells #[.float .f64 t163, .float .f64 t164] 28 (0, 0)) (fb_ BK165.out)) : gb165 ≠ gb174)); have n18_ := Aside0.mk ((by rw [hg]; exact Nat.ne_of_gt (blk_lt (g := gb165) (o := .cells #[.float .f64 t163, .float .f64 t164] 28 (0, 0)) (fb_ BK165.out)) : gb174 ≠ gb165)); clear BK142; clear BK148; clear BK154; clear BK160; clear BK165; clear HB; have BK142 := n0_; have BK148 := n1_; have BK154 := n2_; have BK160 := n3_; have BK165 := n4_; have HB := n5_; have BK174 := n6_; have GW174 := n7_; have GE174 := n8_; have NB142_174 := n9_; have NB174_142 := n10_; have NB148_174 := n11_; have NB174_148 := n12_; have NB154_174 := n13_; have NB174_154 := n14_; have NB160_174 := n15_; have NB174_160 := n16_; have NB165_174 := n17_; have NB174_165 := n18_; clear n0_ n1_ n2_ n3_ n4_ n5_ n6_ n7_ n8_ n9_ n10_ n11_ n12_ n13_ n14_ n15_ n16_ n17_ n18_; clear hb hbox hg; have hnb145 := NB174_142.out; have hnc145 := NB142_174.out; have hnb146 := NB174_148.out; have hnc146 := NB148_174.out; have hnb147 := NB174_154.out; have hnc147 := NB154_174.out; have hnb148 := NB174_160.out; have hnc148 := NB160_174.out; have hnb149 := NB174_165.out; have hnc149 := NB165_174.out; have hcz150_0 : w144.cell? ⟨gb174, 0, none⟩ = some (.float .f64 (0 : Nat)) := (blk_cell BK174.out 0).trans rfl; have hcz150_1 : w144.cell? ⟨gb174, 1, none⟩ = some (.float .f64 (0 : Nat)) := (blk_cell BK174.out 1).trans rfl; have hfz150_0 := blk_frozen BK174.out 0; have hfz150_1 := blk_frozen BK174.out 1; have hnb151 := NB160_142.out; have hnc151 := NB142_160.out; have hnb152 := NB160_148.out; have hnc152 := NB148_160.out; have hnb153 := NB160_154.out; have hnc153 := NB154_160.out; have hnb154 := NB160_165.out; have hnc154 := NB165_160.out; have hcz155_0 : w144.cell? ⟨gb160, 0, none⟩ = some (.float .f64 t158) := (blk_cell BK160.out 0).trans rfl; have hcz155_1 : w144.cell? ⟨gb160, 1, none⟩ = some (.float .f64 t159) := (blk_cell BK160.out 1).trans rfl; have hfz155_0 := blk_frozen BK160.out 0; have hfz155_1 := blk_frozen BK160.out 1; have hnb156 := NB142_148.out; have hnc156 := NB148_142.out; have hnb157 := NB142_154.out; have hnc157 := NB154_142.out; have hnb158 := NB142_165.out; have hnc158 := NB165_142.out; have hcz159_0 : w144.cell? ⟨gb142, 0, none⟩ = some (.float .f64 (floatOfInt .f64 (wrap64 (t140 - 128)))) := (blk_cell BK142.out 0).trans rfl; have hcz159_1 : w144.cell? ⟨gb142, 1, none⟩ = some (.float .f64 (floatOfInt .f64 (wrap64 (t141 - 128)))) := (blk_cell BK142.out 1).trans rfl; have hfz159_0 := blk_frozen BK142.out 0; have hfz159_1 := blk_frozen BK142.out 1) | ((with_reducible refine gate_callee (f := 13) rfl ?_); refine goesL_ (some 78) rfl rfl Try.func13 (by kernel_rfl) rfl #[.agg #[.float .f64 t158, .float .f64 t159], .agg #[.float .f64 (floatOfInt .f64 (wrap64 (t140 - 128))), .float .f64 (floatOfInt .f64 (wrap64 (t141 - 128)))]] rfl (by (try simp only [List.map_toArray, List.map_cons, List.map_nil]); first | done | rfl | (simp only [List.length_drop, List.length_take]; rfl)) ?_; (with_reducible refine (impl_Alike.calls t158 t159 (floatOfInt .f64 (wrap64 (t140 - 128))) (floatOfInt .f64 (wrap64 (t141 - 128))) true _ A80.out).mono ?_); rintro e w160 ⟨rfl, hb⟩; refine ⟨_, rfl, ?_⟩; have n0_ := Aside0.mk (blk_below (g := gb142) (o := .cells #[.float .f64 (floatOfInt .f64 (wrap64 (t140 - 128))), .float .f64 (floatOfInt .f64 (wrap64 (t141 - 128)))] 28 (0, 0)) (by (with_reducible repeat (first | refine blk_drewN ?_ _ | refine blk_drew ?_ | refine blk_alloc ?_ _)); refine blk_far ?_ NB142_174.out _; (with_reducible repeat (first | refine blk_drewN ?_ _ | refine blk_drew ?_ | refine blk_alloc ?_ _)); refine blk_far ?_ NB142_174.out _; (with_reducible repeat (first | refine blk_drewN ?_ _ | refine blk_drew ?_ | refine blk_alloc ?_ _)); exact BK142.out) hb); have n1_ := Aside0.mk (blk_below (g := gb148) (o := .cells #[.float .f64 ((rd_T28 y143 (ji8)).f0), .float .f64 ((rd_T28 y143 (ji8)).f1)] 28 (0, 0)) (by (with_reducible repeat (first | refine blk_drewN ?_ _ | refine blk_drew ?_ | refine blk_alloc ?_ _)); refine blk_far ?_ NB148_174.out _; (with_reducible repeat (first | refine blk_drewN ?_ _ | refine blk_drew ?_ | refine blk_alloc ?_ _)); refine blk_far ?_ NB148_174.out _; (with_reducible repeat (first | refine blk_drewN ?_ _ | refine blk_drew ?_ | refine blk_alloc ?_ _)); exact BK148.out) hb); have n2_ := Aside0.mk (blk_below (g := gb154) (o := .cells #[.float .f64 t151, .float .f64 t152] 28 (0, 0)) (by (with_reducible repeat (first | refine blk_drewN ?_ _ | refine blk_drew ?_ | refine blk_alloc ?_ _)); refine blk_far ?_ NB154_174.out _; (with_reducible repeat (first | refine blk_drewN ?_ _ | refine blk_drew ?_ | refine blk_alloc ?_ _)); refine blk_far ?_ NB154_174.out _; (with_reducible repeat (first | refine blk_drewN ?_ _ | refine blk_drew ?_ | refine blk_alloc ?_ _)); exact BK154.out) hb); have n3_ := Aside0.mk (blk_below (g := gb160) (o := .cells #[.float .f64 t158, .float .f64 t159] 28 (0, 0)) (by (with_reducible repeat (first | refine blk_drewN ?_ _ | refine blk_drew ?_ | refine blk_alloc ?_ _)); refine blk_far ?_ NB160_174.out _; (with_reducible repeat (first | refine blk_drewN ?_ _ | refine blk_drew ?_ | refine blk_alloc ?_ _)); refine blk_far ?_ NB160_174.out _; (with_reducible repeat (first | refine blk_drewN ?_ _ | refine blk_drew ?_ | refine blk_alloc ?_ _)); exact BK160.out) hb); have n4_ := Aside0.mk (blk_below (g := gb165) (o := .cells #[.float .f64 t163, .float .f64 t164] 28 (0, 0)) (by (with_reducible repeat (first | refine blk_drewN ?_ _ | refine blk_drew ?_ | refine blk_alloc ?_ _)); refine blk_far ?_ NB165_174.out _; (with_reducible repeat (first | refine blk_drewN ?_ _ | refine blk_drew ?_ | refine blk_alloc ?_ _)); refine blk_far ?_ NB165_174.out _; (with_reducible repeat (first | refine blk_drewN ?_ _ | refine blk_drew ?_ | refine blk_alloc ?_ _)); exact BK165.out) hb); have n5_ := Aside0.mk (blk_below (g := gb174) (o := .cells #[.float .f64 t171, .float .f64 t172] 28 (0, 0)) (by (with_reducible repeat (first | refine blk_drewN ?_ _ | refine blk_drew ?_ | refine blk_alloc ?_ _)); refine blk_put (cs := #[.float .f64 t171, .float .f64 (0 : Nat)]) ?_ 1 _ rfl; (with_reducible repeat (first | refine blk_drewN ?_ _ | refine blk_drew ?_ | refine blk_alloc ?_ _)); refine blk_put (cs := #[.float .f64 (0 : Nat), .float .f64 (0 : Nat)]) ?_ 0 _ rfl; (with_reducible repeat (first | refine blk_drewN ?_ _ | refine blk_drew ?_ | refine blk_alloc ?_ _)); exact BK174.out) hb); have n6_ := Aside0.mk (below_step (bel_ HB.out) hb); clear BK142; clear BK148; clear BK154; clear BK160; clear BK165; clear BK174; clear HB; have BK142 := n0_; have BK148 := n1_; have BK154 := n2_; have BK160 := n3_; have BK165 := n4_; have BK174 := n5_; have HB := n6_; clear n0_ n1_ n2_ n3_ n4_ n5_ n6_; (try clear hb); (try clear hb2); (try clear hk); (try clear hi); have hnb161 := NB165_148.out; have hnc161 := NB148_165.out; have hnb162 := NB165_154.out; have hnc162 := NB154_165.out; have hcz163_0 : w160.cell? ⟨gb165, 0, none⟩ = some (.float .f64 t163) := (blk_cell BK165.out 0).trans rfl; have hcz163_1 : w160.cell? ⟨gb165, 1, none⟩ = some (.float .f64 t164) := (blk_cell BK165.out 1).trans rfl; have hfz163_0 := blk_frozen BK165.out 0; have hfz163_1 := blk_frozen BK165.out 1; have hcz164_0 : w160.cell? ⟨gb142, 0, none⟩ = some (.float .f64 (floatOfInt .f64 (wrap64 (t140 - 128)))) := (blk_cell BK142.out 0).trans rfl; have hcz164_1 : w160.cell? ⟨gb142, 1, none⟩ = some (.float .f64 (floatOfInt .f64 (wrap64 (t141 - 128)))) := (blk_cell BK142.out 1).trans rfl; have hfz164_0 := blk_frozen BK142.out 0; have hfz164_1 := blk_frozen BK142.out 1; have hq165_ : (floatBits .mul .f64 (floatOfInt .f64 (wrap64 (t140 - 128))) (floatOfInt .f64 (wrap64 (t140 - 128)))).isSome = true := (by first | assumption | exact of_eq_true (by assumption) | (simp only [*])); have hf165_ := fun w_ : World => run_float_arith (P := Try.prog) (w := w_) .mul 26 .f64 (floatOfInt .f64 (wrap64 (t140 - 128))) (floatOfInt .f64 (wrap64 (t140 - 128))) ((floatBits .mul .f64 (floatOfInt .f64 (wrap64 (t140 - 128))) (floatOfInt .f64 (wrap64 (t140 - 128)))).getD 0) (opt_getD_ hq165_); have hq166_ : (floatBits .mul .f64 (floatOfInt .f64 (wrap64 (t141 - 128))) (floatOfInt .f64 (wrap64 (t141 - 128)))).isSome = true := (by first | assumption | exact of_eq_true (by assumption) | (simp only [*])); have hf166_ := fun w_ : World => run_float_arith (P := Try.prog) (w := w_) .mul 26 .f64 (floatOfInt .f64 (wrap64 (t141 - 128))) (floatOfInt .f64 (wrap64 (t141 - 128))) ((floatBits .mul .f64 (floatOfInt .f64 (wrap64 (t141 - 128))) (floatOfInt .f64 (wrap64 (t141 - 128)))).getD 0) (opt_getD_ hq166_); have hq167_ : (floatBits .add .f64 ((floatBits .mul .f64 (floatOfInt .f64 (wrap64 (t140 - 128))) (floatOfInt .f64 (wrap64 (t140 - 128)))).getD 0) ((floatBits .mul .f64 (floatOfInt .f64 (wrap64 (t141 - 128))) (floatOfInt .f64 (wrap64 (t141 - 128)))).getD 0)).isSome = true := (by first | assumption | exact of_eq_true (by assumption) | (simp only [*])); have hf167_ := fun w_ : World => run_float_arith (P := Try.prog) (w := w_) .add 26 .f64 ((floatBits .mul .f64 (floatOfInt .f64 (wrap64 (t140 - 128))) (floatOfInt .f64 (wrap64 (t140 - 128)))).getD 0) ((floatBits .mul .f64 (floatOfInt .f64 (wrap64 (t141 - 128))) (floatOfInt .f64 (wrap64 (t141 - 128)))).getD 0) ((floatBits .add .f64 ((floatBits .mul .f64 (floatOfInt .f64 (wrap64 (t140 - 128))) (floatOfInt .f64 (wrap64 (t140 - 128)))).getD 0) ((floatBits .mul .f64 (floatOfInt .f64 (wrap64 (t141 - 128))) (floatOfInt .f64 (wrap64 (t141 - 128)))).getD 0)).getD 0) (opt_getD_ hq167_)))
                  go_ret
                  exact ⟨by first | rfl | (simp [errW_none, errW_some] <;> rfl) | (simp only [← hji8]; first | rfl | (simp [errW_none, errW_some] <;> rfl)) | (simp [*, errW_none, errW_some] <;> rfl), bel_ HB.out⟩
               ·rw [if_neg c86] at H
                have c86b0 : (FloatKind.f64.format.order t163 ((floatBits .add .f64 ((floatBits .mul .f64 (floatOfInt .f64 (wrap64 (t140 - 128))) (floatOfInt .f64 (wrap64 (t140 - 128)))).getD 0) ((floatBits .mul .f64 (floatOfInt .f64 (wrap64 (t141 - 128))) (floatOfInt .f64 (wrap64 (t141 - 128)))).getD 0)).getD 0) == some .eq) = false := by simpa using c86
                (try (have c86b1 : decide (FloatKind.f64.format.order t163 ((floatBits .add .f64 ((floatBits .mul .f64 (floatOfInt .f64 (wrap64 (t140 - 128))) (floatOfInt .f64 (wrap64 (t140 - 128)))).getD 0) ((floatBits .mul .f64 (floatOfInt .f64 (wrap64 (t141 - 128))) (floatOfInt .f64 (wrap64 (t141 - 128)))).getD 0)).getD 0) = some .eq) = false := by simpa using c86))
                (try (have c86b2 : (FloatKind.f64.format.order t163 ((floatBits .add .f64 ((floatBits .mul .f64 (floatOfInt .f64 (wrap64 (t140 - 128))) (floatOfInt .f64 (wrap64 (t140 - 128)))).getD 0) ((floatBits .mul .f64 (floatOfInt .f64 (wrap64 (t141 - 128))) (floatOfInt .f64 (wrap64 (t141 - 128)))).getD 0)).getD 0) == some .eq) = false := by simpa using c86))
                (try (have c86b3 : ¬ (FloatKind.f64.format.order t163 ((floatBits .add .f64 ((floatBits .mul .f64 (floatOfInt .f64 (wrap64 (t140 - 128))) (floatOfInt .f64 (wrap64 (t140 - 128)))).getD 0) ((floatBits .mul .f64 (floatOfInt .f64 (wrap64 (t141 - 128))) (floatOfInt .f64 (wrap64 (t141 - 128)))).getD 0)).getD 0) = some .eq) := by simpa using c86))
                clear c86
                obtain rfl := Option.some.inj H
                go_wp2_with (first | ((with_reducible refine gate_callee (f := 8) rfl ?_); refine goesL_ (some 71) rfl rfl Try.func8 (by kernel_rfl) rfl #[.slice A0 l0.length c0, .int .i64 3] rfl (by (try simp only [List.map_toArray, List.map_cons, List.map_nil]); first | done | rfl | (simp only [List.length_drop, List.length_take]; rfl)) ?_; (with_reducible refine (laws_at.calls _ _ l0 3 t170 _ ?side1 ?side2 A78.out).mono ?_); (case side1 => repeat (first | exact (Kd.C_below HR0.out HB.out) | (with_reducible refine Kd.C_alloc ?_ _) | (with_reducible refine Kd.C_drewN ?_ _) | (with_reducible refine Kd.C_drew ?_))); (case side2 => exact HC0.out); rintro e w' ⟨rfl, ⟨nd, rfl⟩⟩; refine ⟨_, rfl, ?_⟩; (try ((first | generalize hq_ : World.drewN wc _ = wc | (rw [drewN_self wc]; generalize hq_ : World.drewN wc _ = wc)); have n0_ : Aside0 (wc.heap[gb142]? = some (.cells #[.float .f64 (floatOfInt .f64 (wrap64 (t140 - 128))), .float .f64 (floatOfInt .f64 (wrap64 (t141 - 128)))] 28 (0, 0))) := ⟨by rw [← hq_]; exact (fb_ BK142.out)⟩; have n1_ : Aside0 (wc.heap[gb148]? = some (.cells #[.float .f64 ((rd_T28 y143 (ji8)).f0), .float .f64 ((rd_T28 y143 (ji8)).f1)] 28 (0, 0))) := ⟨by rw [← hq_]; exact (fb_ BK148.out)⟩; have n2_ : Aside0 (wc.heap[gb154]? = some (.cells #[.float .f64 t151, .float .f64 t152] 28 (0, 0))) := ⟨by rw [← hq_]; exact (fb_ BK154.out)⟩; have n3_ : Aside0 (wc.heap[gb160]? = some (.cells #[.float .f64 t158, .float .f64 t159] 28 (0, 0))) := ⟨by rw [← hq_]; exact (fb_ BK160.out)⟩; have n4_ : Aside0 (wc.heap[gb165]? = some (.cells #[.float .f64 t163, .float .f64 t164] 28 (0, 0))) := ⟨by rw [← hq_]; exact (fb_ BK165.out)⟩; have n5_ : Aside0 (Below w.heap.size w wc) := ⟨by rw [← hq_]; exact (bel_ HB.out)⟩; clear BK142 BK148 BK154 BK160 BK165 HB hq_; have BK142 := n0_; have BK148 := n1_; have BK154 := n2_; have BK160 := n3_; have BK165 := n4_; have HB := n5_; clear n0_ n1_ n2_ n3_ n4_ n5_)); have hu168_ := Try.underlying3; have hv168_ := Try.underlying26) | ((with_reducible refine gate_callee (f := 15) rfl ?_); refine goesL_ (some 73) rfl rfl Try.func15 (by kernel_rfl) rfl #[.float .f64 (0 : Nat), .float .f64 (floatOfInt .f64 t170)] rfl (by (try simp only [List.map_toArray, List.map_cons, List.map_nil]); first | done | rfl | (simp only [List.length_drop, List.length_take]; rfl)) ?_; (with_reducible refine (impl_Reply.calls kj44 (0 : Nat) (floatOfInt .f64 t170) t171 t172 t173 _ A79.out).mono ?_); rintro e w169 ⟨rfl, hb⟩; refine ⟨_, rfl, ?_⟩; have n0_ := Aside0.mk (blk_below (g := gb142) (o := .cells #[.float .f64 (floatOfInt .f64 (wrap64 (t140 - 128))), .float .f64 (floatOfInt .f64 (wrap64 (t141 - 128)))] 28 (0, 0)) (fb_ BK142.out) hb); have n1_ := Aside0.mk (blk_below (g := gb148) (o := .cells #[.float .f64 ((rd_T28 y143 (ji8)).f0), .float .f64 ((rd_T28 y143 (ji8)).f1)] 28 (0, 0)) (fb_ BK148.out) hb); have n2_ := Aside0.mk (blk_below (g := gb154) (o := .cells #[.float .f64 t151, .float .f64 t152] 28 (0, 0)) (fb_ BK154.out) hb); have n3_ := Aside0.mk (blk_below (g := gb160) (o := .cells #[.float .f64 t158, .float .f64 t159] 28 (0, 0)) (fb_ BK160.out) hb); have n4_ := Aside0.mk (blk_below (g := gb165) (o := .cells #[.float .f64 t163, .float .f64 t164] 28 (0, 0)) (fb_ BK165.out) hb); have n5_ := Aside0.mk (below_step (bel_ HB.out) hb); clear BK142; clear BK148; clear BK154; clear BK160; clear BK165; clear HB; have BK142 := n0_; have BK148 := n1_; have BK154 := n2_; have BK160 := n3_; have BK165 := n4_; have HB := n5_; clear n0_ n1_ n2_ n3_ n4_ n5_; (try clear hb); (try clear hb2); (try clear hk); (try clear hi)) | ((with_reducible refine gate_dst (N := 12) rfl ?_); refine box_event ?hg (N := 12) ?hd (cs := #[.float .f64 (0 : Nat), .float .f64 (0 : Nat)]) (t := 28) ?hr ?_; (case hd => rfl); (case hg => rfl); (case hr => first | (go_simp; done) | (go_simp; rfl)); intro gb174 hg w170 hbox hb; have n0_ := Aside0.mk (blk_below (g := gb142) (o := .cells #[.float .f64 (floatOfInt .f64 (wrap64 (t140 - 128))), .float .f64 (floatOfInt .f64 (wrap64 (t141 - 128)))] 28 (0, 0)) (fb_ BK142.out) hb); have n1_ := Aside0.mk (blk_below (g := gb148) (o := .cells #[.float .f64 ((rd_T28 y143 (ji8)).f0), .float .f64 ((rd_T28 y143 (ji8)).f1)] 28 (0, 0)) (fb_ BK148.out) hb); have n2_ := Aside0.mk (blk_below (g := gb154) (o := .cells #[.float .f64 t151, .float .f64 t152] 28 (0, 0)) (fb_ BK154.out) hb); have n3_ := Aside0.mk (blk_below (g := gb160) (o := .cells #[.float .f64 t158, .float .f64 t159] 28 (0, 0)) (fb_ BK160.out) hb); have n4_ := Aside0.mk (blk_below (g := gb165) (o := .cells #[.float .f64 t163, .float .f64 t164] 28 (0, 0)) (fb_ BK165.out) hb); have n5_ := Aside0.mk (below_step (bel_ HB.out) hb); have n6_ := Aside0.mk (hbox); have n7_ := Aside0.mk ((by rw [hg]; exact (below_size (bel_ HB.out)) : w.heap.size ≤ gb174)); have n8_ := Aside0.mk ((by rw [hg]; exact (below_size (bel_ HB.out)) : w.heap.size ≤ gb174)); have n9_ := Aside0.mk ((by rw [hg]; exact Nat.ne_of_lt (blk_lt (g := gb142) (o := .cells #[.float .f64 (floatOfInt .f64 (wrap64 (t140 - 128))), .float .f64 (floatOfInt .f64 (wrap64 (t141 - 128)))] 28 (0, 0)) (fb_ BK142.out)) : gb142 ≠ gb174)); have n10_ := Aside0.mk ((by rw [hg]; exact Nat.ne_of_gt (blk_lt (g := gb142) (o := .cells #[.float .f64 (floatOfInt .f64 (wrap64 (t140 - 128))), .float .f64 (floatOfInt .f64 (wrap64 (t141 - 128)))] 28 (0, 0)) (fb_ BK142.out)) : gb174 ≠ gb142)); have n11_ := Aside0.mk ((by rw [hg]; exact Nat.ne_of_lt (blk_lt (g := gb148) (o := .cells #[.float .f64 ((rd_T28 y143 (ji8)).f0), .float .f64 ((rd_T28 y143 (ji8)).f1)] 28 (0, 0)) (fb_ BK148.out)) : gb148 ≠ gb174)); have n12_ := Aside0.mk ((by rw [hg]; exact Nat.ne_of_gt (blk_lt (g := gb148) (o := .cells #[.float .f64 ((rd_T28 y143 (ji8)).f0), .float .f64 ((rd_T28 y143 (ji8)).f1)] 28 (0, 0)) (fb_ BK148.out)) : gb174 ≠ gb148)); have n13_ := Aside0.mk ((by rw [hg]; exact Nat.ne_of_lt (blk_lt (g := gb154) (o := .cells #[.float .f64 t151, .float .f64 t152] 28 (0, 0)) (fb_ BK154.out)) : gb154 ≠ gb174)); have n14_ := Aside0.mk ((by rw [hg]; exact Nat.ne_of_gt (blk_lt (g := gb154) (o := .cells #[.float .f64 t151, .float .f64 t152] 28 (0, 0)) (fb_ BK154.out)) : gb174 ≠ gb154)); have n15_ := Aside0.mk ((by rw [hg]; exact Nat.ne_of_lt (blk_lt (g := gb160) (o := .cells #[.float .f64 t158, .float .f64 t159] 28 (0, 0)) (fb_ BK160.out)) : gb160 ≠ gb174)); have n16_ := Aside0.mk ((by rw [hg]; exact Nat.ne_of_gt (blk_lt (g := gb160) (o := .cells #[.float .f64 t158, .float .f64 t159] 28 (0, 0)) (fb_ BK160.out)) : gb174 ≠ gb160)); have n17_ := Aside0.mk ((by rw [hg]; exact Nat.ne_of_lt (blk_lt (g := gb165) (o := .cells #[.float .f64 t163, .float .f64 t164] 28 (0, 0)) (fb_ BK165.out)) : gb165 ≠ gb174)); have n18_ := Aside0.mk ((by rw [hg]; exact Nat.ne_of_gt (blk_lt (g := gb165) (o := .cells #[.float .f64 t163, .float .f64 t164] 28 (0, 0)) (fb_ BK165.out)) : gb174 ≠ gb165)); clear BK142; clear BK148; clear BK154; clear BK160; clear BK165; clear HB; have BK142 := n0_; have BK148 := n1_; have BK154 := n2_; have BK160 := n3_; have BK165 := n4_; have HB := n5_; have BK174 := n6_; have GW174 := n7_; have GE174 := n8_; have NB142_174 := n9_; have NB174_142 := n10_; have NB148_174 := n11_; have NB174_148 := n12_; have NB154_174 := n13_; have NB174_154 := n14_; have NB160_174 := n15_; have NB174_160 := n16_; have NB165_174 := n17_; have NB174_165 := n18_; clear n0_ n1_ n2_ n3_ n4_ n5_ n6_ n7_ n8_ n9_ n10_ n11_ n12_ n13_ n14_ n15_ n16_ n17_ n18_; clear hb hbox hg; have hnb171 := NB174_142.out; have hnc171 := NB142_174.out; have hnb172 := NB174_148.out; have hnc172 := NB148_174.out; have hnb173 := NB174_154.out; have hnc173 := NB154_174.out; have hnb174 := NB174_160.out; have hnc174 := NB160_174.out; have hnb175 := NB174_165.out; have hnc175 := NB165_174.out; have hcz176_0 : w170.cell? ⟨gb174, 0, none⟩ = some (.float .f64 (0 : Nat)) := (blk_cell BK174.out 0).trans rfl; have hcz176_1 : w170.cell? ⟨gb174, 1, none⟩ = some (.float .f64 (0 : Nat)) := (blk_cell BK174.out 1).trans rfl; have hfz176_0 := blk_frozen BK174.out 0; have hfz176_1 := blk_frozen BK174.out 1; have hnb177 := NB160_142.out; have hnc177 := NB142_160.out; have hnb178 := NB160_148.out; have hnc178 := NB148_160.out; have hnb179 := NB160_154.out; have hnc179 := NB154_160.out; have hnb180 := NB160_165.out; have hnc180 := NB165_160.out; have hcz181_0 : w170.cell? ⟨gb160, 0, none⟩ = some (.float .f64 t158) := (blk_cell BK160.out 0).trans rfl; have hcz181_1 : w170.cell? ⟨gb160, 1, none⟩ = some (.float .f64 t159) := (blk_cell BK160.out 1).trans rfl; have hfz181_0 := blk_frozen BK160.out 0; have hfz181_1 := blk_frozen BK160.out 1; have hnb182 := NB142_148.out; have hnc182 := NB148_142.out; have hnb183 := NB142_154.out; have hnc183 := NB154_142.out; have hnb184 := NB142_165.out; have hnc184 := NB165_142.out; have hcz185_0 : w170.cell? ⟨gb142, 0, none⟩ = some (.float .f64 (floatOfInt .f64 (wrap64 (t140 - 128)))) := (blk_cell BK142.out 0).trans rfl; have hcz185_1 : w170.cell? ⟨gb142, 1, none⟩ = some (.float .f64 (floatOfInt .f64 (wrap64 (t141 - 128)))) := (blk_cell BK142.out 1).trans rfl; have hfz185_0 := blk_frozen BK142.out 0; have hfz185_1 := blk_frozen BK142.out 1) | ((with_reducible refine gate_callee (f := 13) rfl ?_); refine goesL_ (some 78) rfl rfl Try.func13 (by kernel_rfl) rfl #[.agg #[.float .f64 t158, .float .f64 t159], .agg #[.float .f64 (floatOfInt .f64 (wrap64 (t140 - 128))), .float .f64 (floatOfInt .f64 (wrap64 (t141 - 128)))]] rfl (by (try simp only [List.map_toArray, List.map_cons, List.map_nil]); first | done | rfl | (simp only [List.length_drop, List.length_take]; rfl)) ?_; (with_reducible refine (impl_Alike.calls t158 t159 (floatOfInt .f64 (wrap64 (t140 - 128))) (floatOfInt .f64 (wrap64 (t141 - 128))) true _ A80.out).mono ?_); rintro e w186 ⟨rfl, hb⟩; refine ⟨_, rfl, ?_⟩; have n0_ := Aside0.mk (blk_below (g := gb142) (o := .cells #[.float .f64 (floatOfInt .f64 (wrap64 (t140 - 128))), .float .f64 (floatOfInt .f64 (wrap64 (t141 - 128)))] 28 (0, 0)) (by (with_reducible repeat (first | refine blk_drewN ?_ _ | refine blk_drew ?_ | refine blk_alloc ?_ _)); refine blk_far ?_ NB142_174.out _; (with_reducible repeat (first | refine blk_drewN ?_ _ | refine blk_drew ?_ | refine blk_alloc ?_ _)); refine blk_far ?_ NB142_174.out _; (with_reducible repeat (first | refine blk_drewN ?_ _ | refine blk_drew ?_ | refine blk_alloc ?_ _)); exact BK142.out) hb); have n1_ := Aside0.mk (blk_below (g := gb148) (o := .cells #[.float .f64 ((rd_T28 y143 (ji8)).f0), .float .f64 ((rd_T28 y143 (ji8)).f1)] 28 (0, 0)) (by (with_reducible repeat (first | refine blk_drewN ?_ _ | refine blk_drew ?_ | refine blk_alloc ?_ _)); refine blk_far ?_ NB148_174.out _; (with_reducible repeat (first | refine blk_drewN ?_ _ | refine blk_drew ?_ | refine blk_alloc ?_ _)); refine blk_far ?_ NB148_174.out _; (with_reducible repeat (first | refine blk_drewN ?_ _ | refine blk_drew ?_ | refine blk_alloc ?_ _)); exact BK148.out) hb); have n2_ := Aside0.mk (blk_below (g := gb154) (o := .cells #[.float .f64 t151, .float .f64 t152] 28 (0, 0)) (by (with_reducible repeat (first | refine blk_drewN ?_ _ | refine blk_drew ?_ | refine blk_alloc ?_ _)); refine blk_far ?_ NB154_174.out _; (with_reducible repeat (first | refine blk_drewN ?_ _ | refine blk_drew ?_ | refine blk_alloc ?_ _)); refine blk_far ?_ NB154_174.out _; (with_reducible repeat (first | refine blk_drewN ?_ _ | refine blk_drew ?_ | refine blk_alloc ?_ _)); exact BK154.out) hb); have n3_ := Aside0.mk (blk_below (g := gb160) (o := .cells #[.float .f64 t158, .float .f64 t159] 28 (0, 0)) (by (with_reducible repeat (first | refine blk_drewN ?_ _ | refine blk_drew ?_ | refine blk_alloc ?_ _)); refine blk_far ?_ NB160_174.out _; (with_reducible repeat (first | refine blk_drewN ?_ _ | refine blk_drew ?_ | refine blk_alloc ?_ _)); refine blk_far ?_ NB160_174.out _; (with_reducible repeat (first | refine blk_drewN ?_ _ | refine blk_drew ?_ | refine blk_alloc ?_ _)); exact BK160.out) hb); have n4_ := Aside0.mk (blk_below (g := gb165) (o := .cells #[.float .f64 t163, .float .f64 t164] 28 (0, 0)) (by (with_reducible repeat (first | refine blk_drewN ?_ _ | refine blk_drew ?_ | refine blk_alloc ?_ _)); refine blk_far ?_ NB165_174.out _; (with_reducible repeat (first | refine blk_drewN ?_ _ | refine blk_drew ?_ | refine blk_alloc ?_ _)); refine blk_far ?_ NB165_174.out _; (with_reducible repeat (first | refine blk_drewN ?_ _ | refine blk_drew ?_ | refine blk_alloc ?_ _)); exact BK165.out) hb); have n5_ := Aside0.mk (blk_below (g := gb174) (o := .cells #[.float .f64 t171, .float .f64 t172] 28 (0, 0)) (by (with_reducible repeat (first | refine blk_drewN ?_ _ | refine blk_drew ?_ | refine blk_alloc ?_ _)); refine blk_put (cs := #[.float .f64 t171, .float .f64 (0 : Nat)]) ?_ 1 _ rfl; (with_reducible repeat (first | refine blk_drewN ?_ _ | refine blk_drew ?_ | refine blk_alloc ?_ _)); refine blk_put (cs := #[.float .f64 (0 : Nat), .float .f64 (0 : Nat)]) ?_ 0 _ rfl; (with_reducible repeat (first | refine blk_drewN ?_ _ | refine blk_drew ?_ | refine blk_alloc ?_ _)); exact BK174.out) hb); have n6_ := Aside0.mk (below_step (bel_ HB.out) hb); clear BK142; clear BK148; clear BK154; clear BK160; clear BK165; clear BK174; clear HB; have BK142 := n0_; have BK148 := n1_; have BK154 := n2_; have BK160 := n3_; have BK165 := n4_; have BK174 := n5_; have HB := n6_; clear n0_ n1_ n2_ n3_ n4_ n5_ n6_; (try clear hb); (try clear hb2); (try clear hk); (try clear hi); have hnb187 := NB165_148.out; have hnc187 := NB148_165.out; have hnb188 := NB165_154.out; have hnc188 := NB154_165.out; have hcz189_0 : w186.cell? ⟨gb165, 0, none⟩ = some (.float .f64 t163) := (blk_cell BK165.out 0).trans rfl; have hcz189_1 : w186.cell? ⟨gb165, 1, none⟩ = some (.float .f64 t164) := (blk_cell BK165.out 1).trans rfl; have hfz189_0 := blk_frozen BK165.out 0; have hfz189_1 := blk_frozen BK165.out 1; have hcz190_0 : w186.cell? ⟨gb142, 0, none⟩ = some (.float .f64 (floatOfInt .f64 (wrap64 (t140 - 128)))) := (blk_cell BK142.out 0).trans rfl; have hcz190_1 : w186.cell? ⟨gb142, 1, none⟩ = some (.float .f64 (floatOfInt .f64 (wrap64 (t141 - 128)))) := (blk_cell BK142.out 1).trans rfl; have hfz190_0 := blk_frozen BK142.out 0; have hfz190_1 := blk_frozen BK142.out 1; have hq191_ : (floatBits .mul .f64 (floatOfInt .f64 (wrap64 (t140 - 128))) (floatOfInt .f64 (wrap64 (t140 - 128)))).isSome = true := (by first | assumption | exact of_eq_true (by assumption) | (simp only [*])); have hf191_ := fun w_ : World => run_float_arith (P := Try.prog) (w := w_) .mul 26 .f64 (floatOfInt .f64 (wrap64 (t140 - 128))) (floatOfInt .f64 (wrap64 (t140 - 128))) ((floatBits .mul .f64 (floatOfInt .f64 (wrap64 (t140 - 128))) (floatOfInt .f64 (wrap64 (t140 - 128)))).getD 0) (opt_getD_ hq191_); have hq192_ : (floatBits .mul .f64 (floatOfInt .f64 (wrap64 (t141 - 128))) (floatOfInt .f64 (wrap64 (t141 - 128)))).isSome = true := (by first | assumption | exact of_eq_true (by assumption) | (simp only [*])); have hf192_ := fun w_ : World => run_float_arith (P := Try.prog) (w := w_) .mul 26 .f64 (floatOfInt .f64 (wrap64 (t141 - 128))) (floatOfInt .f64 (wrap64 (t141 - 128))) ((floatBits .mul .f64 (floatOfInt .f64 (wrap64 (t141 - 128))) (floatOfInt .f64 (wrap64 (t141 - 128)))).getD 0) (opt_getD_ hq192_); have hq193_ : (floatBits .add .f64 ((floatBits .mul .f64 (floatOfInt .f64 (wrap64 (t140 - 128))) (floatOfInt .f64 (wrap64 (t140 - 128)))).getD 0) ((floatBits .mul .f64 (floatOfInt .f64 (wrap64 (t141 - 128))) (floatOfInt .f64 (wrap64 (t141 - 128)))).getD 0)).isSome = true := (by first | assumption | exact of_eq_true (by assumption) | (simp only [*])); have hf193_ := fun w_ : World => run_float_arith (P := Try.prog) (w := w_) .add 26 .f64 ((floatBits .mul .f64 (floatOfInt .f64 (wrap64 (t140 - 128))) (floatOfInt .f64 (wrap64 (t140 - 128)))).getD 0) ((floatBits .mul .f64 (floatOfInt .f64 (wrap64 (t141 - 128))) (floatOfInt .f64 (wrap64 (t141 - 128)))).getD 0) ((floatBits .add .f64 ((floatBits .mul .f64 (floatOfInt .f64 (wrap64 (t140 - 128))) (floatOfInt .f64 (wrap64 (t140 - 128)))).getD 0) ((floatBits .mul .f64 (floatOfInt .f64 (wrap64 (t141 - 128))) (floatOfInt .f64 (wrap64 (t141 - 128)))).getD 0)).getD 0) (opt_getD_ hq193_)))
                go_ret
                exact ⟨by first | rfl | (simp [errW_none, errW_some] <;> rfl) | (simp only [← hji8]; first | rfl | (simp [errW_none, errW_some] <;> rfl)) | (simp [*, errW_none, errW_some] <;> rfl), bel_ HB.out⟩
              ·rw [if_neg c85] at H
               exact absurd H (by simp)
             ·rw [if_neg c84] at H
              exact absurd H (by simp)
            ·rw [if_neg c83] at H
             exact absurd H (by simp)
           ·rw [if_neg c82] at H
            have c82b0 : (FloatKind.f64.format.order t164 (0 : Nat) == some .eq) = false := by simpa using c82
            (try (have c82b1 : decide (FloatKind.f64.format.order t164 (0 : Nat) = some .eq) = false := by simpa using c82))
            (try (have c82b2 : (FloatKind.f64.format.order t164 (0 : Nat) == some .eq) = false := by simpa using c82))
            (try (have c82b3 : ¬ (FloatKind.f64.format.order t164 (0 : Nat) = some .eq) := by simpa using c82))
            clear c82
            obtain rfl := Option.some.inj H
            go_wp2_with (first | ((with_reducible refine gate_callee (f := 8) rfl ?_); refine goesL_ (some 71) rfl rfl Try.func8 (by kernel_rfl) rfl #[.slice A0 l0.length c0, .int .i64 3] rfl (by (try simp only [List.map_toArray, List.map_cons, List.map_nil]); first | done | rfl | (simp only [List.length_drop, List.length_take]; rfl)) ?_; (with_reducible refine (laws_at.calls _ _ l0 3 t170 _ ?side1 ?side2 A78.out).mono ?_); (case side1 => repeat (first | exact (Kd.C_below HR0.out HB.out) | (with_reducible refine Kd.C_alloc ?_ _) | (with_reducible refine Kd.C_drewN ?_ _) | (with_reducible refine Kd.C_drew ?_))); (case side2 => exact HC0.out); rintro e w' ⟨rfl, ⟨nd, rfl⟩⟩; refine ⟨_, rfl, ?_⟩; (try ((first | generalize hq_ : World.drewN wc _ = wc | (rw [drewN_self wc]; generalize hq_ : World.drewN wc _ = wc)); have n0_ : Aside0 (wc.heap[gb142]? = some (.cells #[.float .f64 (floatOfInt .f64 (wrap64 (t140 - 128))), .float .f64 (floatOfInt .f64 (wrap64 (t141 - 128)))] 28 (0, 0))) := ⟨by rw [← hq_]; exact (fb_ BK142.out)⟩; have n1_ : Aside0 (wc.heap[gb148]? = some (.cells #[.float .f64 ((rd_T28 y143 (ji8)).f0), .float .f64 ((rd_T28 y143 (ji8)).f1)] 28 (0, 0))) := ⟨by rw [← hq_]; exact (fb_ BK148.out)⟩; have n2_ : Aside0 (wc.heap[gb154]? = some (.cells #[.float .f64 t151, .float .f64 t152] 28 (0, 0))) := ⟨by rw [← hq_]; exact (fb_ BK154.out)⟩; have n3_ : Aside0 (wc.heap[gb160]? = some (.cells #[.float .f64 t158, .float .f64 t159] 28 (0, 0))) := ⟨by rw [← hq_]; exact (fb_ BK160.out)⟩; have n4_ : Aside0 (wc.heap[gb165]? = some (.cells #[.float .f64 t163, .float .f64 t164] 28 (0, 0))) := ⟨by rw [← hq_]; exact (fb_ BK165.out)⟩; have n5_ : Aside0 (Below w.heap.size w wc) := ⟨by rw [← hq_]; exact (bel_ HB.out)⟩; clear BK142 BK148 BK154 BK160 BK165 HB hq_; have BK142 := n0_; have BK148 := n1_; have BK154 := n2_; have BK160 := n3_; have BK165 := n4_; have HB := n5_; clear n0_ n1_ n2_ n3_ n4_ n5_)); have hu194_ := Try.underlying3; have hv194_ := Try.underlying26) | ((with_reducible refine gate_callee (f := 15) rfl ?_); refine goesL_ (some 73) rfl rfl Try.func15 (by kernel_rfl) rfl #[.float .f64 (0 : Nat), .float .f64 (floatOfInt .f64 t170)] rfl (by (try simp only [List.map_toArray, List.map_cons, List.map_nil]); first | done | rfl | (simp only [List.length_drop, List.length_take]; rfl)) ?_; (with_reducible refine (impl_Reply.calls kj44 (0 : Nat) (floatOfInt .f64 t170) t171 t172 t173 _ A79.out).mono ?_); rintro e w195 ⟨rfl, hb⟩; refine ⟨_, rfl, ?_⟩; have n0_ := Aside0.mk (blk_below (g := gb142) (o := .cells #[.float .f64 (floatOfInt .f64 (wrap64 (t140 - 128))), .float .f64 (floatOfInt .f64 (wrap64 (t141 - 128)))] 28 (0, 0)) (fb_ BK142.out) hb); have n1_ := Aside0.mk (blk_below (g := gb148) (o := .cells #[.float .f64 ((rd_T28 y143 (ji8)).f0), .float .f64 ((rd_T28 y143 (ji8)).f1)] 28 (0, 0)) (fb_ BK148.out) hb); have n2_ := Aside0.mk (blk_below (g := gb154) (o := .cells #[.float .f64 t151, .float .f64 t152] 28 (0, 0)) (fb_ BK154.out) hb); have n3_ := Aside0.mk (blk_below (g := gb160) (o := .cells #[.float .f64 t158, .float .f64 t159] 28 (0, 0)) (fb_ BK160.out) hb); have n4_ := Aside0.mk (blk_below (g := gb165) (o := .cells #[.float .f64 t163, .float .f64 t164] 28 (0, 0)) (fb_ BK165.out) hb); have n5_ := Aside0.mk (below_step (bel_ HB.out) hb); clear BK142; clear BK148; clear BK154; clear BK160; clear BK165; clear HB; have BK142 := n0_; have BK148 := n1_; have BK154 := n2_; have BK160 := n3_; have BK165 := n4_; have HB := n5_; clear n0_ n1_ n2_ n3_ n4_ n5_; (try clear hb); (try clear hb2); (try clear hk); (try clear hi)) | ((with_reducible refine gate_dst (N := 12) rfl ?_); refine box_event ?hg (N := 12) ?hd (cs := #[.float .f64 (0 : Nat), .float .f64 (0 : Nat)]) (t := 28) ?hr ?_; (case hd => rfl); (case hg => rfl); (case hr => first | (go_simp; done) | (go_simp; rfl)); intro gb174 hg w196 hbox hb; have n0_ := Aside0.mk (blk_below (g := gb142) (o := .cells #[.float .f64 (floatOfInt .f64 (wrap64 (t140 - 128))), .float .f64 (floatOfInt .f64 (wrap64 (t141 - 128)))] 28 (0, 0)) (fb_ BK142.out) hb); have n1_ := Aside0.mk (blk_below (g := gb148) (o := .cells #[.float .f64 ((rd_T28 y143 (ji8)).f0), .float .f64 ((rd_T28 y143 (ji8)).f1)] 28 (0, 0)) (fb_ BK148.out) hb); have n2_ := Aside0.mk (blk_below (g := gb154) (o := .cells #[.float .f64 t151, .float .f64 t152] 28 (0, 0)) (fb_ BK154.out) hb); have n3_ := Aside0.mk (blk_below (g := gb160) (o := .cells #[.float .f64 t158, .float .f64 t159] 28 (0, 0)) (fb_ BK160.out) hb); have n4_ := Aside0.mk (blk_below (g := gb165) (o := .cells #[.float .f64 t163, .float .f64 t164] 28 (0, 0)) (fb_ BK165.out) hb); have n5_ := Aside0.mk (below_step (bel_ HB.out) hb); have n6_ := Aside0.mk (hbox); have n7_ := Aside0.mk ((by rw [hg]; exact (below_size (bel_ HB.out)) : w.heap.size ≤ gb174)); have n8_ := Aside0.mk ((by rw [hg]; exact (below_size (bel_ HB.out)) : w.heap.size ≤ gb174)); have n9_ := Aside0.mk ((by rw [hg]; exact Nat.ne_of_lt (blk_lt (g := gb142) (o := .cells #[.float .f64 (floatOfInt .f64 (wrap64 (t140 - 128))), .float .f64 (floatOfInt .f64 (wrap64 (t141 - 128)))] 28 (0, 0)) (fb_ BK142.out)) : gb142 ≠ gb174)); have n10_ := Aside0.mk ((by rw [hg]; exact Nat.ne_of_gt (blk_lt (g := gb142) (o := .cells #[.float .f64 (floatOfInt .f64 (wrap64 (t140 - 128))), .float .f64 (floatOfInt .f64 (wrap64 (t141 - 128)))] 28 (0, 0)) (fb_ BK142.out)) : gb174 ≠ gb142)); have n11_ := Aside0.mk ((by rw [hg]; exact Nat.ne_of_lt (blk_lt (g := gb148) (o := .cells #[.float .f64 ((rd_T28 y143 (ji8)).f0), .float .f64 ((rd_T28 y143 (ji8)).f1)] 28 (0, 0)) (fb_ BK148.out)) : gb148 ≠ gb174)); have n12_ := Aside0.mk ((by rw [hg]; exact Nat.ne_of_gt (blk_lt (g := gb148) (o := .cells #[.float .f64 ((rd_T28 y143 (ji8)).f0), .float .f64 ((rd_T28 y143 (ji8)).f1)] 28 (0, 0)) (fb_ BK148.out)) : gb174 ≠ gb148)); have n13_ := Aside0.mk ((by rw [hg]; exact Nat.ne_of_lt (blk_lt (g := gb154) (o := .cells #[.float .f64 t151, .float .f64 t152] 28 (0, 0)) (fb_ BK154.out)) : gb154 ≠ gb174)); have n14_ := Aside0.mk ((by rw [hg]; exact Nat.ne_of_gt (blk_lt (g := gb154) (o := .cells #[.float .f64 t151, .float .f64 t152] 28 (0, 0)) (fb_ BK154.out)) : gb174 ≠ gb154)); have n15_ := Aside0.mk ((by rw [hg]; exact Nat.ne_of_lt (blk_lt (g := gb160) (o := .cells #[.float .f64 t158, .float .f64 t159] 28 (0, 0)) (fb_ BK160.out)) : gb160 ≠ gb174)); have n16_ := Aside0.mk ((by rw [hg]; exact Nat.ne_of_gt (blk_lt (g := gb160) (o := .cells #[.float .f64 t158, .float .f64 t159] 28 (0, 0)) (fb_ BK160.out)) : gb174 ≠ gb160)); have n17_ := Aside0.mk ((by rw [hg]; exact Nat.ne_of_lt (blk_lt (g := gb165) (o := .cells #[.float .f64 t163, .float .f64 t164] 28 (0, 0)) (fb_ BK165.out)) : gb165 ≠ gb174)); have n18_ := Aside0.mk ((by rw [hg]; exact Nat.ne_of_gt (blk_lt (g := gb165) (o := .cells #[.float .f64 t163, .float .f64 t164] 28 (0, 0)) (fb_ BK165.out)) : gb174 ≠ gb165)); clear BK142; clear BK148; clear BK154; clear BK160; clear BK165; clear HB; have BK142 := n0_; have BK148 := n1_; have BK154 := n2_; have BK160 := n3_; have BK165 := n4_; have HB := n5_; have BK174 := n6_; have GW174 := n7_; have GE174 := n8_; have NB142_174 := n9_; have NB174_142 := n10_; have NB148_174 := n11_; have NB174_148 := n12_; have NB154_174 := n13_; have NB174_154 := n14_; have NB160_174 := n15_; have NB174_160 := n16_; have NB165_174 := n17_; have NB174_165 := n18_; clear n0_ n1_ n2_ n3_ n4_ n5_ n6_ n7_ n8_ n9_ n10_ n11_ n12_ n13_ n14_ n15_ n16_ n17_ n18_; clear hb hbox hg; have hnb197 := NB174_142.out; have hnc197 := NB142_174.out; have hnb198 := NB174_148.out; have hnc198 := NB148_174.out; have hnb199 := NB174_154.out; have hnc199 := NB154_174.out; have hnb200 := NB174_160.out; have hnc200 := NB160_174.out; have hnb201 := NB174_165.out; have hnc201 := NB165_174.out; have hcz202_0 : w196.cell? ⟨gb174, 0, none⟩ = some (.float .f64 (0 : Nat)) := (blk_cell BK174.out 0).trans rfl; have hcz202_1 : w196.cell? ⟨gb174, 1, none⟩ = some (.float .f64 (0 : Nat)) := (blk_cell BK174.out 1).trans rfl; have hfz202_0 := blk_frozen BK174.out 0; have hfz202_1 := blk_frozen BK174.out 1; have hnb203 := NB160_142.out; have hnc203 := NB142_160.out; have hnb204 := NB160_148.out; have hnc204 := NB148_160.out; have hnb205 := NB160_154.out; have hnc205 := NB154_160.out; have hnb206 := NB160_165.out; have hnc206 := NB165_160.out; have hcz207_0 : w196.cell? ⟨gb160, 0, none⟩ = some (.float .f64 t158) := (blk_cell BK160.out 0).trans rfl; have hcz207_1 : w196.cell? ⟨gb160, 1, none⟩ = some (.float .f64 t159) := (blk_cell BK160.out 1).trans rfl; have hfz207_0 := blk_frozen BK160.out 0; have hfz207_1 := blk_frozen BK160.out 1; have hnb208 := NB142_148.out; have hnc208 := NB148_142.out; have hnb209 := NB142_154.out; have hnc209 := NB154_142.out; have hnb210 := NB142_165.out; have hnc210 := NB165_142.out; have hcz211_0 : w196.cell? ⟨gb142, 0, none⟩ = some (.float .f64 (floatOfInt .f64 (wrap64 (t140 - 128)))) := (blk_cell BK142.out 0).trans rfl; have hcz211_1 : w196.cell? ⟨gb142, 1, none⟩ = some (.float .f64 (floatOfInt .f64 (wrap64 (t141 - 128)))) := (blk_cell BK142.out 1).trans rfl; have hfz211_0 := blk_frozen BK142.out 0; have hfz211_1 := blk_frozen BK142.out 1) | ((with_reducible refine gate_callee (f := 13) rfl ?_); refine goesL_ (some 78) rfl rfl Try.func13 (by kernel_rfl) rfl #[.agg #[.float .f64 t158, .float .f64 t159], .agg #[.float .f64 (floatOfInt .f64 (wrap64 (t140 - 128))), .float .f64 (floatOfInt .f64 (wrap64 (t141 - 128)))]] rfl (by (try simp only [List.map_toArray, List.map_cons, List.map_nil]); first | done | rfl | (simp only [List.length_drop, List.length_take]; rfl)) ?_; (with_reducible refine (impl_Alike.calls t158 t159 (floatOfInt .f64 (wrap64 (t140 - 128))) (floatOfInt .f64 (wrap64 (t141 - 128))) true _ A80.out).mono ?_); rintro e w212 ⟨rfl, hb⟩; refine ⟨_, rfl, ?_⟩; have n0_ := Aside0.mk (blk_below (g := gb142) (o := .cells #[.float .f64 (floatOfInt .f64 (wrap64 (t140 - 128))), .float .f64 (floatOfInt .f64 (wrap64 (t141 - 128)))] 28 (0, 0)) (by (with_reducible repeat (first | refine blk_drewN ?_ _ | refine blk_drew ?_ | refine blk_alloc ?_ _)); refine blk_far ?_ NB142_174.out _; (with_reducible repeat (first | refine blk_drewN ?_ _ | refine blk_drew ?_ | refine blk_alloc ?_ _)); refine blk_far ?_ NB142_174.out _; (with_reducible repeat (first | refine blk_drewN ?_ _ | refine blk_drew ?_ | refine blk_alloc ?_ _)); exact BK142.out) hb); have n1_ := Aside0.mk (blk_below (g := gb148) (o := .cells #[.float .f64 ((rd_T28 y143 (ji8)).f0), .float .f64 ((rd_T28 y143 (ji8)).f1)] 28 (0, 0)) (by (with_reducible repeat (first | refine blk_drewN ?_ _ | refine blk_drew ?_ | refine blk_alloc ?_ _)); refine blk_far ?_ NB148_174.out _; (with_reducible repeat (first | refine blk_drewN ?_ _ | refine blk_drew ?_ | refine blk_alloc ?_ _)); refine blk_far ?_ NB148_174.out _; (with_reducible repeat (first | refine blk_drewN ?_ _ | refine blk_drew ?_ | refine blk_alloc ?_ _)); exact BK148.out) hb); have n2_ := Aside0.mk (blk_below (g := gb154) (o := .cells #[.float .f64 t151, .float .f64 t152] 28 (0, 0)) (by (with_reducible repeat (first | refine blk_drewN ?_ _ | refine blk_drew ?_ | refine blk_alloc ?_ _)); refine blk_far ?_ NB154_174.out _; (with_reducible repeat (first | refine blk_drewN ?_ _ | refine blk_drew ?_ | refine blk_alloc ?_ _)); refine blk_far ?_ NB154_174.out _; (with_reducible repeat (first | refine blk_drewN ?_ _ | refine blk_drew ?_ | refine blk_alloc ?_ _)); exact BK154.out) hb); have n3_ := Aside0.mk (blk_below (g := gb160) (o := .cells #[.float .f64 t158, .float .f64 t159] 28 (0, 0)) (by (with_reducible repeat (first | refine blk_drewN ?_ _ | refine blk_drew ?_ | refine blk_alloc ?_ _)); refine blk_far ?_ NB160_174.out _; (with_reducible repeat (first | refine blk_drewN ?_ _ | refine blk_drew ?_ | refine blk_alloc ?_ _)); refine blk_far ?_ NB160_174.out _; (with_reducible repeat (first | refine blk_drewN ?_ _ | refine blk_drew ?_ | refine blk_alloc ?_ _)); exact BK160.out) hb); have n4_ := Aside0.mk (blk_below (g := gb165) (o := .cells #[.float .f64 t163, .float .f64 t164] 28 (0, 0)) (by (with_reducible repeat (first | refine blk_drewN ?_ _ | refine blk_drew ?_ | refine blk_alloc ?_ _)); refine blk_far ?_ NB165_174.out _; (with_reducible repeat (first | refine blk_drewN ?_ _ | refine blk_drew ?_ | refine blk_alloc ?_ _)); refine blk_far ?_ NB165_174.out _; (with_reducible repeat (first | refine blk_drewN ?_ _ | refine blk_drew ?_ | refine blk_alloc ?_ _)); exact BK165.out) hb); have n5_ := Aside0.mk (blk_below (g := gb174) (o := .cells #[.float .f64 t171, .float .f64 t172] 28 (0, 0)) (by (with_reducible repeat (first | refine blk_drewN ?_ _ | refine blk_drew ?_ | refine blk_alloc ?_ _)); refine blk_put (cs := #[.float .f64 t171, .float .f64 (0 : Nat)]) ?_ 1 _ rfl; (with_reducible repeat (first | refine blk_drewN ?_ _ | refine blk_drew ?_ | refine blk_alloc ?_ _)); refine blk_put (cs := #[.float .f64 (0 : Nat), .float .f64 (0 : Nat)]) ?_ 0 _ rfl; (with_reducible repeat (first | refine blk_drewN ?_ _ | refine blk_drew ?_ | refine blk_alloc ?_ _)); exact BK174.out) hb); have n6_ := Aside0.mk (below_step (bel_ HB.out) hb); clear BK142; clear BK148; clear BK154; clear BK160; clear BK165; clear BK174; clear HB; have BK142 := n0_; have BK148 := n1_; have BK154 := n2_; have BK160 := n3_; have BK165 := n4_; have BK174 := n5_; have HB := n6_; clear n0_ n1_ n2_ n3_ n4_ n5_ n6_; (try clear hb); (try clear hb2); (try clear hk); (try clear hi); have hnb213 := NB165_148.out; have hnc213 := NB148_165.out; have hnb214 := NB165_154.out; have hnc214 := NB154_165.out; have hcz215_0 : w212.cell? ⟨gb165, 0, none⟩ = some (.float .f64 t163) := (blk_cell BK165.out 0).trans rfl; have hcz215_1 : w212.cell? ⟨gb165, 1, none⟩ = some (.float .f64 t164) := (blk_cell BK165.out 1).trans rfl; have hfz215_0 := blk_frozen BK165.out 0; have hfz215_1 := blk_frozen BK165.out 1))
            go_ret
            exact ⟨by first | rfl | (simp [errW_none, errW_some] <;> rfl) | (simp only [← hji8]; first | rfl | (simp [errW_none, errW_some] <;> rfl)) | (simp [*, errW_none, errW_some] <;> rfl), bel_ HB.out⟩
          ·replace c81 := Bool.eq_false_iff.mpr c81
           subst c81
           have H1 : (some false) = some r := by rw [if_neg (show ¬ (false = true) by decide)] at H; exact H
           clear H
           have H := H1
           clear H1
           obtain rfl := Option.some.inj H
           go_wp2_with (first | ((with_reducible refine gate_callee (f := 8) rfl ?_); refine goesL_ (some 71) rfl rfl Try.func8 (by kernel_rfl) rfl #[.slice A0 l0.length c0, .int .i64 3] rfl (by (try simp only [List.map_toArray, List.map_cons, List.map_nil]); first | done | rfl | (simp only [List.length_drop, List.length_take]; rfl)) ?_; (with_reducible refine (laws_at.calls _ _ l0 3 t170 _ ?side1 ?side2 A78.out).mono ?_); (case side1 => repeat (first | exact (Kd.C_below HR0.out HB.out) | (with_reducible refine Kd.C_alloc ?_ _) | (with_reducible refine Kd.C_drewN ?_ _) | (with_reducible refine Kd.C_drew ?_))); (case side2 => exact HC0.out); rintro e w' ⟨rfl, ⟨nd, rfl⟩⟩; refine ⟨_, rfl, ?_⟩; (try ((first | generalize hq_ : World.drewN wc _ = wc | (rw [drewN_self wc]; generalize hq_ : World.drewN wc _ = wc)); have n0_ : Aside0 (wc.heap[gb142]? = some (.cells #[.float .f64 (floatOfInt .f64 (wrap64 (t140 - 128))), .float .f64 (floatOfInt .f64 (wrap64 (t141 - 128)))] 28 (0, 0))) := ⟨by rw [← hq_]; exact (fb_ BK142.out)⟩; have n1_ : Aside0 (wc.heap[gb148]? = some (.cells #[.float .f64 ((rd_T28 y143 (ji8)).f0), .float .f64 ((rd_T28 y143 (ji8)).f1)] 28 (0, 0))) := ⟨by rw [← hq_]; exact (fb_ BK148.out)⟩; have n2_ : Aside0 (wc.heap[gb154]? = some (.cells #[.float .f64 t151, .float .f64 t152] 28 (0, 0))) := ⟨by rw [← hq_]; exact (fb_ BK154.out)⟩; have n3_ : Aside0 (wc.heap[gb160]? = some (.cells #[.float .f64 t158, .float .f64 t159] 28 (0, 0))) := ⟨by rw [← hq_]; exact (fb_ BK160.out)⟩; have n4_ : Aside0 (wc.heap[gb165]? = some (.cells #[.float .f64 t163, .float .f64 t164] 28 (0, 0))) := ⟨by rw [← hq_]; exact (fb_ BK165.out)⟩; have n5_ : Aside0 (Below w.heap.size w wc) := ⟨by rw [← hq_]; exact (bel_ HB.out)⟩; clear BK142 BK148 BK154 BK160 BK165 HB hq_; have BK142 := n0_; have BK148 := n1_; have BK154 := n2_; have BK160 := n3_; have BK165 := n4_; have HB := n5_; clear n0_ n1_ n2_ n3_ n4_ n5_)); have hu216_ := Try.underlying3; have hv216_ := Try.underlying26) | ((with_reducible refine gate_callee (f := 15) rfl ?_); refine goesL_ (some 73) rfl rfl Try.func15 (by kernel_rfl) rfl #[.float .f64 (0 : Nat), .float .f64 (floatOfInt .f64 t170)] rfl (by (try simp only [List.map_toArray, List.map_cons, List.map_nil]); first | done | rfl | (simp only [List.length_drop, List.length_take]; rfl)) ?_; (with_reducible refine (impl_Reply.calls kj44 (0 : Nat) (floatOfInt .f64 t170) t171 t172 t173 _ A79.out).mono ?_); rintro e w217 ⟨rfl, hb⟩; refine ⟨_, rfl, ?_⟩; have n0_ := Aside0.mk (blk_below (g := gb142) (o := .cells #[.float .f64 (floatOfInt .f64 (wrap64 (t140 - 128))), .float .f64 (floatOfInt .f64 (wrap64 (t141 - 128)))] 28 (0, 0)) (fb_ BK142.out) hb); have n1_ := Aside0.mk (blk_below (g := gb148) (o := .cells #[.float .f64 ((rd_T28 y143 (ji8)).f0), .float .f64 ((rd_T28 y143 (ji8)).f1)] 28 (0, 0)) (fb_ BK148.out) hb); have n2_ := Aside0.mk (blk_below (g := gb154) (o := .cells #[.float .f64 t151, .float .f64 t152] 28 (0, 0)) (fb_ BK154.out) hb); have n3_ := Aside0.mk (blk_below (g := gb160) (o := .cells #[.float .f64 t158, .float .f64 t159] 28 (0, 0)) (fb_ BK160.out) hb); have n4_ := Aside0.mk (blk_below (g := gb165) (o := .cells #[.float .f64 t163, .float .f64 t164] 28 (0, 0)) (fb_ BK165.out) hb); have n5_ := Aside0.mk (below_step (bel_ HB.out) hb); clear BK142; clear BK148; clear BK154; clear BK160; clear BK165; clear HB; have BK142 := n0_; have BK148 := n1_; have BK154 := n2_; have BK160 := n3_; have BK165 := n4_; have HB := n5_; clear n0_ n1_ n2_ n3_ n4_ n5_; (try clear hb); (try clear hb2); (try clear hk); (try clear hi)) | ((with_reducible refine gate_dst (N := 12) rfl ?_); refine box_event ?hg (N := 12) ?hd (cs := #[.float .f64 (0 : Nat), .float .f64 (0 : Nat)]) (t := 28) ?hr ?_; (case hd => rfl); (case hg => rfl); (case hr => first | (go_simp; done) | (go_simp; rfl)); intro gb174 hg w218 hbox hb; have n0_ := Aside0.mk (blk_below (g := gb142) (o := .cells #[.float .f64 (floatOfInt .f64 (wrap64 (t140 - 128))), .float .f64 (floatOfInt .f64 (wrap64 (t141 - 128)))] 28 (0, 0)) (fb_ BK142.out) hb); have n1_ := Aside0.mk (blk_below (g := gb148) (o := .cells #[.float .f64 ((rd_T28 y143 (ji8)).f0), .float .f64 ((rd_T28 y143 (ji8)).f1)] 28 (0, 0)) (fb_ BK148.out) hb); have n2_ := Aside0.mk (blk_below (g := gb154) (o := .cells #[.float .f64 t151, .float .f64 t152] 28 (0, 0)) (fb_ BK154.out) hb); have n3_ := Aside0.mk (blk_below (g := gb160) (o := .cells #[.float .f64 t158, .float .f64 t159] 28 (0, 0)) (fb_ BK160.out) hb); have n4_ := Aside0.mk (blk_below (g := gb165) (o := .cells #[.float .f64 t163, .float .f64 t164] 28 (0, 0)) (fb_ BK165.out) hb); have n5_ := Aside0.mk (below_step (bel_ HB.out) hb); have n6_ := Aside0.mk (hbox); have n7_ := Aside0.mk ((by rw [hg]; exact (below_size (bel_ HB.out)) : w.heap.size ≤ gb174)); have n8_ := Aside0.mk ((by rw [hg]; exact (below_size (bel_ HB.out)) : w.heap.size ≤ gb174)); have n9_ := Aside0.mk ((by rw [hg]; exact Nat.ne_of_lt (blk_lt (g := gb142) (o := .cells #[.float .f64 (floatOfInt .f64 (wrap64 (t140 - 128))), .float .f64 (floatOfInt .f64 (wrap64 (t141 - 128)))] 28 (0, 0)) (fb_ BK142.out)) : gb142 ≠ gb174)); have n10_ := Aside0.mk ((by rw [hg]; exact Nat.ne_of_gt (blk_lt (g := gb142) (o := .cells #[.float .f64 (floatOfInt .f64 (wrap64 (t140 - 128))), .float .f64 (floatOfInt .f64 (wrap64 (t141 - 128)))] 28 (0, 0)) (fb_ BK142.out)) : gb174 ≠ gb142)); have n11_ := Aside0.mk ((by rw [hg]; exact Nat.ne_of_lt (blk_lt (g := gb148) (o := .cells #[.float .f64 ((rd_T28 y143 (ji8)).f0), .float .f64 ((rd_T28 y143 (ji8)).f1)] 28 (0, 0)) (fb_ BK148.out)) : gb148 ≠ gb174)); have n12_ := Aside0.mk ((by rw [hg]; exact Nat.ne_of_gt (blk_lt (g := gb148) (o := .cells #[.float .f64 ((rd_T28 y143 (ji8)).f0), .float .f64 ((rd_T28 y143 (ji8)).f1)] 28 (0, 0)) (fb_ BK148.out)) : gb174 ≠ gb148)); have n13_ := Aside0.mk ((by rw [hg]; exact Nat.ne_of_lt (blk_lt (g := gb154) (o := .cells #[.float .f64 t151, .float .f64 t152] 28 (0, 0)) (fb_ BK154.out)) : gb154 ≠ gb174)); have n14_ := Aside0.mk ((by rw [hg]; exact Nat.ne_of_gt (blk_lt (g := gb154) (o := .cells #[.float .f64 t151, .float .f64 t152] 28 (0, 0)) (fb_ BK154.out)) : gb174 ≠ gb154)); have n15_ := Aside0.mk ((by rw [hg]; exact Nat.ne_of_lt (blk_lt (g := gb160) (o := .cells #[.float .f64 t158, .float .f64 t159] 28 (0, 0)) (fb_ BK160.out)) : gb160 ≠ gb174)); have n16_ := Aside0.mk ((by rw [hg]; exact Nat.ne_of_gt (blk_lt (g := gb160) (o := .cells #[.float .f64 t158, .float .f64 t159] 28 (0, 0)) (fb_ BK160.out)) : gb174 ≠ gb160)); have n17_ := Aside0.mk ((by rw [hg]; exact Nat.ne_of_lt (blk_lt (g := gb165) (o := .cells #[.float .f64 t163, .float .f64 t164] 28 (0, 0)) (fb_ BK165.out)) : gb165 ≠ gb174)); have n18_ := Aside0.mk ((by rw [hg]; exact Nat.ne_of_gt (blk_lt (g := gb165) (o := .cells #[.float .f64 t163, .float .f64 t164] 28 (0, 0)) (fb_ BK165.out)) : gb174 ≠ gb165)); clear BK142; clear BK148; clear BK154; clear BK160; clear BK165; clear HB; have BK142 := n0_; have BK148 := n1_; have BK154 := n2_; have BK160 := n3_; have BK165 := n4_; have HB := n5_; have BK174 := n6_; have GW174 := n7_; have GE174 := n8_; have NB142_174 := n9_; have NB174_142 := n10_; have NB148_174 := n11_; have NB174_148 := n12_; have NB154_174 := n13_; have NB174_154 := n14_; have NB160_174 := n15_; have NB174_160 := n16_; have NB165_174 := n17_; have NB174_165 := n18_; clear n0_ n1_ n2_ n3_ n4_ n5_ n6_ n7_ n8_ n9_ n10_ n11_ n12_ n13_ n14_ n15_ n16_ n17_ n18_; clear hb hbox hg; have hnb219 := NB174_142.out; have hnc219 := NB142_174.out; have hnb220 := NB174_148.out; have hnc220 := NB148_174.out; have hnb221 := NB174_154.out; have hnc221 := NB154_174.out; have hnb222 := NB174_160.out; have hnc222 := NB160_174.out; have hnb223 := NB174_165.out; have hnc223 := NB165_174.out; have hcz224_0 : w218.cell? ⟨gb174, 0, none⟩ = some (.float .f64 (0 : Nat)) := (blk_cell BK174.out 0).trans rfl; have hcz224_1 : w218.cell? ⟨gb174, 1, none⟩ = some (.float .f64 (0 : Nat)) := (blk_cell BK174.out 1).trans rfl; have hfz224_0 := blk_frozen BK174.out 0; have hfz224_1 := blk_frozen BK174.out 1; have hnb225 := NB160_142.out; have hnc225 := NB142_160.out; have hnb226 := NB160_148.out; have hnc226 := NB148_160.out; have hnb227 := NB160_154.out; have hnc227 := NB154_160.out; have hnb228 := NB160_165.out; have hnc228 := NB165_160.out; have hcz229_0 : w218.cell? ⟨gb160, 0, none⟩ = some (.float .f64 t158) := (blk_cell BK160.out 0).trans rfl; have hcz229_1 : w218.cell? ⟨gb160, 1, none⟩ = some (.float .f64 t159) := (blk_cell BK160.out 1).trans rfl; have hfz229_0 := blk_frozen BK160.out 0; have hfz229_1 := blk_frozen BK160.out 1; have hnb230 := NB142_148.out; have hnc230 := NB148_142.out; have hnb231 := NB142_154.out; have hnc231 := NB154_142.out; have hnb232 := NB142_165.out; have hnc232 := NB165_142.out; have hcz233_0 : w218.cell? ⟨gb142, 0, none⟩ = some (.float .f64 (floatOfInt .f64 (wrap64 (t140 - 128)))) := (blk_cell BK142.out 0).trans rfl; have hcz233_1 : w218.cell? ⟨gb142, 1, none⟩ = some (.float .f64 (floatOfInt .f64 (wrap64 (t141 - 128)))) := (blk_cell BK142.out 1).trans rfl; have hfz233_0 := blk_frozen BK142.out 0; have hfz233_1 := blk_frozen BK142.out 1) | ((with_reducible refine gate_callee (f := 13) rfl ?_); refine goesL_ (some 78) rfl rfl Try.func13 (by kernel_rfl) rfl #[.agg #[.float .f64 t158, .float .f64 t159], .agg #[.float .f64 (floatOfInt .f64 (wrap64 (t140 - 128))), .float .f64 (floatOfInt .f64 (wrap64 (t141 - 128)))]] rfl (by (try simp only [List.map_toArray, List.map_cons, List.map_nil]); first | done | rfl | (simp only [List.length_drop, List.length_take]; rfl)) ?_; (with_reducible refine (impl_Alike.calls t158 t159 (floatOfInt .f64 (wrap64 (t140 - 128))) (floatOfInt .f64 (wrap64 (t141 - 128))) false _ A80.out).mono ?_); rintro e w234 ⟨rfl, hb⟩; refine ⟨_, rfl, ?_⟩; have n0_ := Aside0.mk (blk_below (g := gb142) (o := .cells #[.float .f64 (floatOfInt .f64 (wrap64 (t140 - 128))), .float .f64 (floatOfInt .f64 (wrap64 (t141 - 128)))] 28 (0, 0)) (by (with_reducible repeat (first | refine blk_drewN ?_ _ | refine blk_drew ?_ | refine blk_alloc ?_ _)); refine blk_far ?_ NB142_174.out _; (with_reducible repeat (first | refine blk_drewN ?_ _ | refine blk_drew ?_ | refine blk_alloc ?_ _)); refine blk_far ?_ NB142_174.out _; (with_reducible repeat (first | refine blk_drewN ?_ _ | refine blk_drew ?_ | refine blk_alloc ?_ _)); exact BK142.out) hb); have n1_ := Aside0.mk (blk_below (g := gb148) (o := .cells #[.float .f64 ((rd_T28 y143 (ji8)).f0), .float .f64 ((rd_T28 y143 (ji8)).f1)] 28 (0, 0)) (by (with_reducible repeat (first | refine blk_drewN ?_ _ | refine blk_drew ?_ | refine blk_alloc ?_ _)); refine blk_far ?_ NB148_174.out _; (with_reducible repeat (first | refine blk_drewN ?_ _ | refine blk_drew ?_ | refine blk_alloc ?_ _)); refine blk_far ?_ NB148_174.out _; (with_reducible repeat (first | refine blk_drewN ?_ _ | refine blk_drew ?_ | refine blk_alloc ?_ _)); exact BK148.out) hb); have n2_ := Aside0.mk (blk_below (g := gb154) (o := .cells #[.float .f64 t151, .float .f64 t152] 28 (0, 0)) (by (with_reducible repeat (first | refine blk_drewN ?_ _ | refine blk_drew ?_ | refine blk_alloc ?_ _)); refine blk_far ?_ NB154_174.out _; (with_reducible repeat (first | refine blk_drewN ?_ _ | refine blk_drew ?_ | refine blk_alloc ?_ _)); refine blk_far ?_ NB154_174.out _; (with_reducible repeat (first | refine blk_drewN ?_ _ | refine blk_drew ?_ | refine blk_alloc ?_ _)); exact BK154.out) hb); have n3_ := Aside0.mk (blk_below (g := gb160) (o := .cells #[.float .f64 t158, .float .f64 t159] 28 (0, 0)) (by (with_reducible repeat (first | refine blk_drewN ?_ _ | refine blk_drew ?_ | refine blk_alloc ?_ _)); refine blk_far ?_ NB160_174.out _; (with_reducible repeat (first | refine blk_drewN ?_ _ | refine blk_drew ?_ | refine blk_alloc ?_ _)); refine blk_far ?_ NB160_174.out _; (with_reducible repeat (first | refine blk_drewN ?_ _ | refine blk_drew ?_ | refine blk_alloc ?_ _)); exact BK160.out) hb); have n4_ := Aside0.mk (blk_below (g := gb165) (o := .cells #[.float .f64 t163, .float .f64 t164] 28 (0, 0)) (by (with_reducible repeat (first | refine blk_drewN ?_ _ | refine blk_drew ?_ | refine blk_alloc ?_ _)); refine blk_far ?_ NB165_174.out _; (with_reducible repeat (first | refine blk_drewN ?_ _ | refine blk_drew ?_ | refine blk_alloc ?_ _)); refine blk_far ?_ NB165_174.out _; (with_reducible repeat (first | refine blk_drewN ?_ _ | refine blk_drew ?_ | refine blk_alloc ?_ _)); exact BK165.out) hb); have n5_ := Aside0.mk (blk_below (g := gb174) (o := .cells #[.float .f64 t171, .float .f64 t172] 28 (0, 0)) (by (with_reducible repeat (first | refine blk_drewN ?_ _ | refine blk_drew ?_ | refine blk_alloc ?_ _)); refine blk_put (cs := #[.float .f64 t171, .float .f64 (0 : Nat)]) ?_ 1 _ rfl; (with_reducible repeat (first | refine blk_drewN ?_ _ | refine blk_drew ?_ | refine blk_alloc ?_ _)); refine blk_put (cs := #[.float .f64 (0 : Nat), .float .f64 (0 : Nat)]) ?_ 0 _ rfl; (with_reducible repeat (first | refine blk_drewN ?_ _ | refine blk_drew ?_ | refine blk_alloc ?_ _)); exact BK174.out) hb); have n6_ := Aside0.mk (below_step (bel_ HB.out) hb); clear BK142; clear BK148; clear BK154; clear BK160; clear BK165; clear BK174; clear HB; have BK142 := n0_; have BK148 := n1_; have BK154 := n2_; have BK160 := n3_; have BK165 := n4_; have BK174 := n5_; have HB := n6_; clear n0_ n1_ n2_ n3_ n4_ n5_ n6_; (try clear hb); (try clear hb2); (try clear hk); (try clear hi)))
           go_ret
           exact ⟨by first | rfl | (simp [errW_none, errW_some] <;> rfl) | (simp only [← hji8]; first | rfl | (simp [errW_none, errW_some] <;> rfl)) | (simp [*, errW_none, errW_some] <;> rfl), bel_ HB.out⟩
    ·rw [if_neg c10] at H
     exact absurd H (by simp)
   ·rw [if_neg c9] at H
    exact absurd H (by simp)

/-- THE ONE PURE STATEMENT of laws_FnOver: yours. -/
def laws_FnOver.Pure : Prop := ∀ (l0 : List Int), l0.length ≤ maxLen → l0.length * 1 ≤ 140737488351232 → (∀ x ∈ l0, (Lit.int .u8 x).wf = true) → ∃ k, laws_FnOver.f k l0 = some true
theorem laws_FnOver.walk (P : laws_FnOver.Pure) (a0 : Option Addr) (len0 cap0 : Nat) (z0 : List Int) (w : World) (w0 : (a0 = none ∧ len0 = 0 ∧ cap0 = 0 ∧ z0 = []) ∨ ∃ x, a0 = some x ∧ len0 ≤ cap0 ∧ cap0 ≤ maxLen ∧ z0.length = cap0 ∧ (∀ i, i < z0.length → w.cell? (x.add i) = some (.int .u8 (z0.getD i 0))) ∧ ∀ n ∈ z0, (Lit.int .u8 n).wf = true) (y0 : len0 * 1 ≤ 140737488351232) :
  Calls Try.prog 4 #[.slice a0 len0 cap0] w fun e w' => e = .returned (.bool true) ∧ Below w.heap.size w w' := by
 obtain ⟨l0, rfl, hr0, hm0, hw0, hc0⟩ := ReadsInt.ofRowC w0
 obtain ⟨k, h⟩ := P l0 hm0 y0 hw0
 refine (laws_FnOver.calls k _ _ l0 true w (Kd.C_of_reads (d := (0 : Int)) (h1 := fun _ => rfl) hr0) hc0 h).mono ?_
 rintro e w' ⟨rfl, hd⟩
 exact ⟨rfl, hd⟩

end Go.Proofs.Ytchobalepjmeiaa.PFnOver
