/- The Lean side of Go functions of this seat: what each answers, and that its run comes to that answer; written by a program of this work. -/
import Derived.Test.YtchobalepjmeiaaPFnTidesx0
import Derived.Test.YtchobalepjmeiaaPFnTidesx1
import Derived.Test.YtchobalepjmeiaaPFnTidesx2
import Derived.Test.YtchobalepjmeiaaPFnTidesx3
import Derived.Test.YtchobalepjmeiaaPFnTidesx4
namespace Go.Proofs.Ytchobalepjmeiaa.PFnTides
open Go.RowKit Go.Proofs.YtchobalepjmeiaaW.PrintWords Go.Proofs.YtchobalepjmeiaaW.PrintLast Go.Proofs.YtchobalepjmeiaaW.PrintMore
attribute [local go_sem] run_store_float un_neg_float_ max2_int min2_int max_two min_two max_three min_three max_four min_four   -- for this text's walks alone
set_option linter.unusedVariables false
set_option linter.unusedSimpArgs false

/-! ### laws_FnTides: function 5 -/
mutual
def laws_FnTides.j0 : Nat → Nat → List Nat → List Nat → Bool → Nat → Nat → Option (Bool)
  | 0, _, _, _, _, _, _ => none
  | k + 1, x3, x5, x7, x64, x175000, x175001 => if x64 = true then (some false) else (laws_FnTides.l0 k x3 x5 x7 0 x175000 x175001)
def laws_FnTides.l0 : Nat → Nat → List Nat → List Nat → Int → Nat → Nat → Option (Bool)
  | 0, _, _, _, _, _, _ => none
  | k + 1, x3, x5, x7, x9, x175000, x175001 => if x9 < 9 then (if 0 ≤ x9 then (if x9 < (x5.length : Int) then (if (floatBits .add .f64 x3 x175000).isSome = true then (if (FloatKind.f64.format.order (rdOf (0 : Nat) x5 x9) ((floatBits .add .f64 x3 x175000).getD 0) != some .eq) = true then (some false) else (if x9 < (x7.length : Int) then (if 0 ≤ (Int.tmod x9 4) then (if (Int.tmod x9 4) < (x7.length : Int) then (if (FloatKind.f64.format.order (rdOf (0 : Nat) x7 x9) (rdOf (0 : Nat) x7 (Int.tmod x9 4)) != some .eq) = true then (some false) else (if 0 ≤ (Int.tmod (wrap64 (x9 + 2)) 4) then (if (Int.tmod (wrap64 (x9 + 2)) 4) < (x7.length : Int) then (if (floatBits .add .f64 (rdOf (0 : Nat) x7 x9) (rdOf (0 : Nat) x7 (Int.tmod (wrap64 (x9 + 2)) 4))).isSome = true then (if (floatBits .mul .f64 (4611686018427387904 : Nat) x3).isSome = true then (if (FloatKind.f64.format.order ((floatBits .add .f64 (rdOf (0 : Nat) x7 x9) (rdOf (0 : Nat) x7 (Int.tmod (wrap64 (x9 + 2)) 4))).getD 0) ((floatBits .mul .f64 (4611686018427387904 : Nat) x3).getD 0) != some .eq) = true then (some false) else (laws_FnTides.l0 k x3 x5 x7 (wrap64 (x9 + 1)) x175000 x175001)) else (none)) else (none)) else (none)) else (none))) else (none)) else (none)) else (none))) else (none)) else (none)) else (none)) else ((impl_Depths.f k x7 (4613937818241073152 : Nat)).bind fun t194 => ((impl_UnderKeel.f k t194 (4607182418800017408 : Nat) (4602678819172646912 : Nat) (4611686018427387904 : Nat)).bind fun t197 => ((impl_HighLow.f k x7).bind fun t200 => (if (t194.length : Int) = 9 then (laws_FnTides.j2 k x7 t194 t197 t200 ((t197.length : Int) != 9) x175000 x175001) else (laws_FnTides.j2 k x7 t194 t197 t200 true x175000 x175001)))))
def laws_FnTides.j2 : Nat → List Nat → List Nat → List Bool → List Int → Bool → Nat → Nat → Option (Bool)
  | 0, _, _, _, _, _, _, _ => none
  | k + 1, x7, x10, x11, x12, x119, x175000, x175001 => if x119 = true then (some false) else (laws_FnTides.l1 k x7 x10 x11 x12 0 x175000 x175001)
def laws_FnTides.l1 : Nat → List Nat → List Nat → List Bool → List Int → Int → Nat → Nat → Option (Bool)
  | 0, _, _, _, _, _, _, _ => none
  | k + 1, x7, x10, x11, x12, x13, x175000, x175001 => if x13 < (x10.length : Int) then (if 0 ≤ x13 then (if x13 < (x7.length : Int) then (if (floatBits .add .f64 (rdOf (0 : Nat) x7 x13) (4613937818241073152 : Nat)).isSome = true then (if (FloatKind.f64.format.order (rdOf (0 : Nat) x10 x13) ((floatBits .add .f64 (rdOf (0 : Nat) x7 x13) (4613937818241073152 : Nat)).getD 0) != some .eq) = true then (some false) else (if x13 < (x11.length : Int) then (if (floatBits .sub .f64 (rdOf (0 : Nat) x10 x13) (4607182418800017408 : Nat)).isSome = true then (if (floatBits .sub .f64 ((floatBits .sub .f64 (rdOf (0 : Nat) x10 x13) (4607182418800017408 : Nat)).getD 0) (4602678819172646912 : Nat)).isSome = true then (if ((rdOf false x11 x13) != (FloatKind.f64.format.order ((floatBits .sub .f64 ((floatBits .sub .f64 (rdOf (0 : Nat) x10 x13) (4607182418800017408 : Nat)).getD 0) (4602678819172646912 : Nat)).getD 0) (4611686018427387904 : Nat) == some .gt || FloatKind.f64.format.order ((floatBits .sub .f64 ((floatBits .sub .f64 (rdOf (0 : Nat) x10 x13) (4607182418800017408 : Nat)).getD 0) (4602678819172646912 : Nat)).getD 0) (4611686018427387904 : Nat) == some .eq)) = true then (some false) else (laws_FnTides.l1 k x7 x10 x11 x12 (wrap64 (x13 + 1)) x175000 x175001)) else (none)) else (none)) else (none))) else (none)) else (none)) else (none)) else ((impl_Squat.f k (4621819117588971520 : Nat) (4602678819172646912 : Nat) (4616189618054758400 : Nat) (4620693217682128896 : Nat)).bind fun bt207 => (if (x10.length : Int) = 9 then (if bt207.2 = true then (if (FloatKind.f64.format.order bt207.1 (4604930618986332160 : Nat) == some .eq) = true then (if (FloatKind.f64.format.order x175000 (0 : Nat) == some .eq) = true then (if (FloatKind.f64.format.order x175001 (0 : Nat) == some .eq) = true then (some true) else (some (decide ((x12.length : Int) > 0)))) else (some (decide ((x12.length : Int) > 0)))) else (some false)) else (some false)) else (some false)))
end
def laws_FnTides.f (k : Nat) (l0 : List Int) : Option (Bool) := (laws_big.f l0).bind fun t170 => (if t170 = true then (some true) else ((laws_at.f l0 0).bind fun t171 => (if (floatBits .quo .f64 (floatOfInt .f64 (wrap64 (t171 - 128))) (4616189618054758400 : Nat)).isSome = true then ((laws_at.f l0 1).bind fun t172 => ((laws_at.f l0 2).bind fun t173 => ((impl_TideDay.f k ((floatBits .quo .f64 (floatOfInt .f64 (wrap64 (t171 - 128))) (4616189618054758400 : Nat)).getD 0) (([(⟨(⟨floatOfInt .f64 t172, floatOfInt .f64 t173⟩ : S28), (⟨(4607182418800017408 : Nat), (0 : Nat)⟩ : S28)⟩ : S42), (⟨(⟨(0 : Nat), (0 : Nat)⟩ : S28), (⟨(0 : Nat), (0 : Nat)⟩ : S28)⟩ : S42)] : List (S42))) 9).bind fun bt178 => ((impl_TideDay.f k ((floatBits .quo .f64 (floatOfInt .f64 (wrap64 (t171 - 128))) (4616189618054758400 : Nat)).getD 0) (([(⟨(⟨floatOfInt .f64 t172, floatOfInt .f64 t173⟩ : S28), (⟨(0 : Nat), (4607182418800017408 : Nat)⟩ : S28)⟩ : S42)] : List (S42))) 9).bind fun bt185 => (if bt178.2 = true then (if bt185.2 = true then (if (bt178.1.length : Int) = 9 then (laws_FnTides.j0 k ((floatBits .quo .f64 (floatOfInt .f64 (wrap64 (t171 - 128))) (4616189618054758400 : Nat)).getD 0) bt178.1 bt185.1 ((bt185.1.length : Int) != 9) (floatOfInt .f64 t172) (floatOfInt .f64 t173)) else (laws_FnTides.j0 k ((floatBits .quo .f64 (floatOfInt .f64 (wrap64 (t171 - 128))) (4616189618054758400 : Nat)).getD 0) bt178.1 bt185.1 true (floatOfInt .f64 t172) (floatOfInt .f64 t173))) else (laws_FnTides.j0 k ((floatBits .quo .f64 (floatOfInt .f64 (wrap64 (t171 - 128))) (4616189618054758400 : Nat)).getD 0) bt178.1 bt185.1 true (floatOfInt .f64 t172) (floatOfInt .f64 t173))) else (laws_FnTides.j0 k ((floatBits .quo .f64 (floatOfInt .f64 (wrap64 (t171 - 128))) (4616189618054758400 : Nat)).getD 0) bt178.1 bt185.1 true (floatOfInt .f64 t172) (floatOfInt .f64 t173))))))) else (none))))
theorem laws_FnTides.mono_l : ∀ k, (∀ y0 y1 y2 y3 y4 y5, LeO (laws_FnTides.j0 k y0 y1 y2 y3 y4 y5) (laws_FnTides.j0 (k + 1) y0 y1 y2 y3 y4 y5)) ∧ (∀ y0 y1 y2 y3 y4 y5, LeO (laws_FnTides.l0 k y0 y1 y2 y3 y4 y5) (laws_FnTides.l0 (k + 1) y0 y1 y2 y3 y4 y5)) ∧ (∀ y0 y1 y2 y3 y4 y5 y6, LeO (laws_FnTides.j2 k y0 y1 y2 y3 y4 y5 y6) (laws_FnTides.j2 (k + 1) y0 y1 y2 y3 y4 y5 y6)) ∧ (∀ y0 y1 y2 y3 y4 y5 y6, LeO (laws_FnTides.l1 k y0 y1 y2 y3 y4 y5 y6) (laws_FnTides.l1 (k + 1) y0 y1 y2 y3 y4 y5 y6))
  | 0 => ⟨fun _ _ _ _ _ _ r h => by simp [laws_FnTides.j0] at h, fun _ _ _ _ _ _ r h => by simp [laws_FnTides.l0] at h, fun _ _ _ _ _ _ _ r h => by simp [laws_FnTides.j2] at h, fun _ _ _ _ _ _ _ r h => by simp [laws_FnTides.l1] at h⟩
  | k + 1 => by
    obtain ⟨ih0, ih1, ih2, ih3⟩ := laws_FnTides.mono_l k
    refine ⟨?_, ?_, ?_, ?_⟩
    · intro y0 y1 y2 y3 y4 y5
      unfold laws_FnTides.j0
      repeat' first
      | (with_reducible exact ih0 _ _ _ _ _ _)
      | (with_reducible exact ih1 _ _ _ _ _ _)
      | (with_reducible exact ih2 _ _ _ _ _ _ _)
      | (with_reducible exact ih3 _ _ _ _ _ _ _)
      | (with_reducible exact impl_Depths.mono _ _ _)
      | (with_reducible exact impl_HighLow.mono _ _)
      | (with_reducible exact impl_Squat.mono _ _ _ _ _)
      | (with_reducible exact impl_TideDay.mono _ _ _ _)
      | (with_reducible exact impl_UnderKeel.mono _ _ _ _ _)
      | (with_reducible exact LeO.refl _)
      | (with_reducible exact LeO.none _)
      | (with_reducible refine LeO.ite ?_ ?_)
      | (with_reducible refine LeO.bind ?_ (fun _ => ?_))
      | exact ih0 _ _ _ _ _ _
      | exact ih1 _ _ _ _ _ _
      | exact ih2 _ _ _ _ _ _ _
      | exact ih3 _ _ _ _ _ _ _
      | exact impl_Depths.mono _ _ _
      | exact impl_HighLow.mono _ _
      | exact impl_Squat.mono _ _ _ _ _
      | exact impl_TideDay.mono _ _ _ _
      | exact impl_UnderKeel.mono _ _ _ _ _
      | exact LeO.none _
      | refine LeO.ite ?_ ?_
      | refine LeO.bind ?_ (fun _ => ?_)
    · intro y0 y1 y2 y3 y4 y5
      unfold laws_FnTides.l0
      repeat' first
      | (with_reducible exact ih0 _ _ _ _ _ _)
      | (with_reducible exact ih1 _ _ _ _ _ _)
      | (with_reducible exact ih2 _ _ _ _ _ _ _)
      | (with_reducible exact ih3 _ _ _ _ _ _ _)
      | (with_reducible exact impl_Depths.mono _ _ _)
      | (with_reducible exact impl_HighLow.mono _ _)
      | (with_reducible exact impl_Squat.mono _ _ _ _ _)
      | (with_reducible exact impl_TideDay.mono _ _ _ _)
      | (with_reducible exact impl_UnderKeel.mono _ _ _ _ _)
      | (with_reducible exact LeO.refl _)
      | (with_reducible exact LeO.none _)
      | (with_reducible refine LeO.ite ?_ ?_)
      | (with_reducible refine LeO.bind ?_ (fun _ => ?_))
      | exact ih0 _ _ _ _ _ _
      | exact ih1 _ _ _ _ _ _
      | exact ih2 _ _ _ _ _ _ _
      | exact ih3 _ _ _ _ _ _ _
      | exact impl_Depths.mono _ _ _
      | exact impl_HighLow.mono _ _
      | exact impl_Squat.mono _ _ _ _ _
      | exact impl_TideDay.mono _ _ _ _
      | exact impl_UnderKeel.mono _ _ _ _ _
      | exact LeO.none _
      | refine LeO.ite ?_ ?_
      | refine LeO.bind ?_ (fun _ => ?_)
    · intro y0 y1 y2 y3 y4 y5 y6
      unfold laws_FnTides.j2
      repeat' first
      | (with_reducible exact ih0 _ _ _ _ _ _)
      | (with_reducible exact ih1 _ _ _ _ _ _)
      | (with_reducible exact ih2 _ _ _ _ _ _ _)
      | (with_reducible exact ih3 _ _ _ _ _ _ _)
      | (with_reducible exact impl_Depths.mono _ _ _)
      | (with_reducible exact impl_HighLow.mono _ _)
      | (with_reducible exact impl_Squat.mono _ _ _ _ _)
      | (with_reducible exact impl_TideDay.mono _ _ _ _)
      | (with_reducible exact impl_UnderKeel.mono _ _ _ _ _)
      | (with_reducible exact LeO.refl _)
      | (with_reducible exact LeO.none _)
      | (with_reducible refine LeO.ite ?_ ?_)
      | (with_reducible refine LeO.bind ?_ (fun _ => ?_))
      | exact ih0 _ _ _ _ _ _
      | exact ih1 _ _ _ _ _ _
      | exact ih2 _ _ _ _ _ _ _
      | exact ih3 _ _ _ _ _ _ _
      | exact impl_Depths.mono _ _ _
      | exact impl_HighLow.mono _ _
      | exact impl_Squat.mono _ _ _ _ _
      | exact impl_TideDay.mono _ _ _ _
      | exact impl_UnderKeel.mono _ _ _ _ _
      | exact LeO.none _
      | refine LeO.ite ?_ ?_
      | refine LeO.bind ?_ (fun _ => ?_)
    · intro y0 y1 y2 y3 y4 y5 y6
      unfold laws_FnTides.l1
      repeat' first
      | (with_reducible exact ih0 _ _ _ _ _ _)
      | (with_reducible exact ih1 _ _ _ _ _ _)
      | (with_reducible exact ih2 _ _ _ _ _ _ _)
      | (with_reducible exact ih3 _ _ _ _ _ _ _)
      | (with_reducible exact impl_Depths.mono _ _ _)
      | (with_reducible exact impl_HighLow.mono _ _)
      | (with_reducible exact impl_Squat.mono _ _ _ _ _)
      | (with_reducible exact impl_TideDay.mono _ _ _ _)
      | (with_reducible exact impl_UnderKeel.mono _ _ _ _ _)
      | (with_reducible exact LeO.refl _)
      | (with_reducible exact LeO.none _)
      | (with_reducible refine LeO.ite ?_ ?_)
      | (with_reducible refine LeO.bind ?_ (fun _ => ?_))
      | exact ih0 _ _ _ _ _ _
      | exact ih1 _ _ _ _ _ _
      | exact ih2 _ _ _ _ _ _ _
      | exact ih3 _ _ _ _ _ _ _
      | exact impl_Depths.mono _ _ _
      | exact impl_HighLow.mono _ _
      | exact impl_Squat.mono _ _ _ _ _
      | exact impl_TideDay.mono _ _ _ _
      | exact impl_UnderKeel.mono _ _ _ _ _
      | exact LeO.none _
      | refine LeO.ite ?_ ?_
      | refine LeO.bind ?_ (fun _ => ?_)
theorem laws_FnTides.mono : ∀ a0 k, LeO (laws_FnTides.f k a0) (laws_FnTides.f (k + 1) a0) := by
  intro a0 k
  obtain ⟨ih0, ih1, ih2, ih3⟩ := laws_FnTides.mono_l k
  unfold laws_FnTides.f
  repeat' first
      | (with_reducible exact ih0 _ _ _ _ _ _)
      | (with_reducible exact ih1 _ _ _ _ _ _)
      | (with_reducible exact ih2 _ _ _ _ _ _ _)
      | (with_reducible exact ih3 _ _ _ _ _ _ _)
      | (with_reducible exact impl_Depths.mono _ _ _)
      | (with_reducible exact impl_HighLow.mono _ _)
      | (with_reducible exact impl_Squat.mono _ _ _ _ _)
      | (with_reducible exact impl_TideDay.mono _ _ _ _)
      | (with_reducible exact impl_UnderKeel.mono _ _ _ _ _)
      | (with_reducible exact LeO.refl _)
      | (with_reducible exact LeO.none _)
      | (with_reducible refine LeO.ite ?_ ?_)
      | (with_reducible refine LeO.bind ?_ (fun _ => ?_))
      | exact ih0 _ _ _ _ _ _
      | exact ih1 _ _ _ _ _ _
      | exact ih2 _ _ _ _ _ _ _
      | exact ih3 _ _ _ _ _ _ _
      | exact impl_Depths.mono _ _ _
      | exact impl_HighLow.mono _ _
      | exact impl_Squat.mono _ _ _ _ _
      | exact impl_TideDay.mono _ _ _ _
      | exact impl_UnderKeel.mono _ _ _ _ _
      | exact LeO.none _
      | refine LeO.ite ?_ ?_
      | refine LeO.bind ?_ (fun _ => ?_)
set_option maxHeartbeats 8000000 in
set_option maxRecDepth 100000 in
theorem laws_FnTides.calls (k : Nat) (A0 : Option Addr) (c0 : Nat) (l0 : List Int) (r : Bool) (w : World) (hr0 : Kd.C (Kd.int .u8) w A0 l0.length l0) (hc0 : l0.length ≤ c0) (h : laws_FnTides.f k l0 = some r) :
    Calls Try.prog 5 #[.slice A0 l0.length c0] w fun e w' => e = .returned (.bool r) ∧ Below w.heap.size w w' := by
  have hu28 := Try.underlying28
  have hu42 := Try.underlying42
  have HR0 := Aside0.mk hr0
  have HC0 := Aside0.mk hc0
  clear hr0 hc0
  have HB := Aside0.mk (Below.refl w.heap.size w)
  have H : ((laws_big.f l0).bind fun t170 => (if t170 = true then (some true) else ((laws_at.f l0 0).bind fun t171 => (if (floatBits .quo .f64 (floatOfInt .f64 (wrap64 (t171 - 128))) (4616189618054758400 : Nat)).isSome = true then ((laws_at.f l0 1).bind fun t172 => ((laws_at.f l0 2).bind fun t173 => ((impl_TideDay.f k ((floatBits .quo .f64 (floatOfInt .f64 (wrap64 (t171 - 128))) (4616189618054758400 : Nat)).getD 0) (([(⟨(⟨floatOfInt .f64 t172, floatOfInt .f64 t173⟩ : S28), (⟨(4607182418800017408 : Nat), (0 : Nat)⟩ : S28)⟩ : S42), (⟨(⟨(0 : Nat), (0 : Nat)⟩ : S28), (⟨(0 : Nat), (0 : Nat)⟩ : S28)⟩ : S42)] : List (S42))) 9).bind fun bt178 => ((impl_TideDay.f k ((floatBits .quo .f64 (floatOfInt .f64 (wrap64 (t171 - 128))) (4616189618054758400 : Nat)).getD 0) (([(⟨(⟨floatOfInt .f64 t172, floatOfInt .f64 t173⟩ : S28), (⟨(0 : Nat), (4607182418800017408 : Nat)⟩ : S28)⟩ : S42)] : List (S42))) 9).bind fun bt185 => (if bt178.2 = true then (if bt185.2 = true then (if (bt178.1.length : Int) = 9 then (laws_FnTides.j0 k ((floatBits .quo .f64 (floatOfInt .f64 (wrap64 (t171 - 128))) (4616189618054758400 : Nat)).getD 0) bt178.1 bt185.1 ((bt185.1.length : Int) != 9) (floatOfInt .f64 t172) (floatOfInt .f64 t173)) else (laws_FnTides.j0 k ((floatBits .quo .f64 (floatOfInt .f64 (wrap64 (t171 - 128))) (4616189618054758400 : Nat)).getD 0) bt178.1 bt185.1 true (floatOfInt .f64 t172) (floatOfInt .f64 t173))) else (laws_FnTides.j0 k ((floatBits .quo .f64 (floatOfInt .f64 (wrap64 (t171 - 128))) (4616189618054758400 : Nat)).getD 0) bt178.1 bt185.1 true (floatOfInt .f64 t172) (floatOfInt .f64 t173))) else (laws_FnTides.j0 k ((floatBits .quo .f64 (floatOfInt .f64 (wrap64 (t171 - 128))) (4616189618054758400 : Nat)).getD 0) bt178.1 bt185.1 true (floatOfInt .f64 t172) (floatOfInt .f64 t173))))))) else (none))))) = some r := h
  clear h
  replace H := Option.bind_eq_some_iff.mp H
  obtain ⟨t170, A20, H⟩ := H
  replace H : (if t170 = true then (some true) else ((laws_at.f l0 0).bind fun t171 => (if (floatBits .quo .f64 (floatOfInt .f64 (wrap64 (t171 - 128))) (4616189618054758400 : Nat)).isSome = true then ((laws_at.f l0 1).bind fun t172 => ((laws_at.f l0 2).bind fun t173 => ((impl_TideDay.f k ((floatBits .quo .f64 (floatOfInt .f64 (wrap64 (t171 - 128))) (4616189618054758400 : Nat)).getD 0) (([(⟨(⟨floatOfInt .f64 t172, floatOfInt .f64 t173⟩ : S28), (⟨(4607182418800017408 : Nat), (0 : Nat)⟩ : S28)⟩ : S42), (⟨(⟨(0 : Nat), (0 : Nat)⟩ : S28), (⟨(0 : Nat), (0 : Nat)⟩ : S28)⟩ : S42)] : List (S42))) 9).bind fun bt178 => ((impl_TideDay.f k ((floatBits .quo .f64 (floatOfInt .f64 (wrap64 (t171 - 128))) (4616189618054758400 : Nat)).getD 0) (([(⟨(⟨floatOfInt .f64 t172, floatOfInt .f64 t173⟩ : S28), (⟨(0 : Nat), (4607182418800017408 : Nat)⟩ : S28)⟩ : S42)] : List (S42))) 9).bind fun bt185 => (if bt178.2 = true then (if bt185.2 = true then (if (bt178.1.length : Int) = 9 then (laws_FnTides.j0 k ((floatBits .quo .f64 (floatOfInt .f64 (wrap64 (t171 - 128))) (4616189618054758400 : Nat)).getD 0) bt178.1 bt185.1 ((bt185.1.length : Int) != 9) (floatOfInt .f64 t172) (floatOfInt .f64 t173)) else (laws_FnTides.j0 k ((floatBits .quo .f64 (floatOfInt .f64 (wrap64 (t171 - 128))) (4616189618054758400 : Nat)).getD 0) bt178.1 bt185.1 true (floatOfInt .f64 t172) (floatOfInt .f64 t173))) else (laws_FnTides.j0 k ((floatBits .quo .f64 (floatOfInt .f64 (wrap64 (t171 - 128))) (4616189618054758400 : Nat)).getD 0) bt178.1 bt185.1 true (floatOfInt .f64 t172) (floatOfInt .f64 t173))) else (laws_FnTides.j0 k ((floatBits .quo .f64 (floatOfInt .f64 (wrap64 (t171 - 128))) (4616189618054758400 : Nat)).getD 0) bt178.1 bt185.1 true (floatOfInt .f64 t172) (floatOfInt .f64 t173))))))) else (none)))) = some r := H
  have A2 := Aside0.mk A20
  clear A20
  by_cases c3 : t170 = true
  · subst c3
    have H1 : (some true) = some r := by rw [if_pos rfl] at H; exact H
    clear H
    have H := H1
    clear H1
    obtain rfl := Option.some.inj H
    go_enter Try.func5, Try.ntmps5
    go_wp2_with (first | (go_at_call 7; (with_reducible refine (laws_big.calls _ _ l0 true _ ?side1 ?side2 A2.out).mono ?_); (case side1 => repeat (first | exact HR0.out | (with_reducible refine Kd.C_alloc ?_ _) | (with_reducible refine Kd.C_drewN ?_ _) | (with_reducible refine Kd.C_drew ?_))); (case side2 => exact HC0.out); rintro e w' ⟨rfl, ⟨nd, rfl⟩⟩; (try first | exact ⟨rfl, _, World.drewN_drewN _ _ _⟩ | exact ⟨rfl, _, Eq.trans (World.drewN_drewN _ _ _) (congrArg (World.drewN _) (Nat.add_assoc _ _ _))⟩)))
    repeat (go_quiet (first | (go_at_call 7; (with_reducible refine (laws_big.calls _ _ l0 true _ ?side1 ?side2 A2.out).mono ?_); (case side1 => repeat (first | exact HR0.out | (with_reducible refine Kd.C_alloc ?_ _) | (with_reducible refine Kd.C_drewN ?_ _) | (with_reducible refine Kd.C_drew ?_))); (case side2 => exact HC0.out); rintro e w' ⟨rfl, ⟨nd, rfl⟩⟩; (try first | exact ⟨rfl, _, World.drewN_drewN _ _ _⟩ | exact ⟨rfl, _, Eq.trans (World.drewN_drewN _ _ _) (congrArg (World.drewN _) (Nat.add_assoc _ _ _))⟩))); try go_wp2_with (first | (go_at_call 7; (with_reducible refine (laws_big.calls _ _ l0 true _ ?side1 ?side2 A2.out).mono ?_); (case side1 => repeat (first | exact HR0.out | (with_reducible refine Kd.C_alloc ?_ _) | (with_reducible refine Kd.C_drewN ?_ _) | (with_reducible refine Kd.C_drew ?_))); (case side2 => exact HC0.out); rintro e w' ⟨rfl, ⟨nd, rfl⟩⟩; (try first | exact ⟨rfl, _, World.drewN_drewN _ _ _⟩ | exact ⟨rfl, _, Eq.trans (World.drewN_drewN _ _ _) (congrArg (World.drewN _) (Nat.add_assoc _ _ _))⟩))))
    go_ret
    exact ⟨by first | rfl | (simp [errW_none, errW_some] <;> rfl) | (simp [*, errW_none, errW_some] <;> rfl), by repeat (first | (with_reducible first | exact HB.out | apply below_alloc | apply pw_below_drewN | apply below_drew1) | exact HB.out)⟩
  · replace c3 := Bool.eq_false_iff.mpr c3
    subst c3
    have H1 : ((laws_at.f l0 0).bind fun t171 => (if (floatBits .quo .f64 (floatOfInt .f64 (wrap64 (t171 - 128))) (4616189618054758400 : Nat)).isSome = true then ((laws_at.f l0 1).bind fun t172 => ((laws_at.f l0 2).bind fun t173 => ((impl_TideDay.f k ((floatBits .quo .f64 (floatOfInt .f64 (wrap64 (t171 - 128))) (4616189618054758400 : Nat)).getD 0) (([(⟨(⟨floatOfInt .f64 t172, floatOfInt .f64 t173⟩ : S28), (⟨(4607182418800017408 : Nat), (0 : Nat)⟩ : S28)⟩ : S42), (⟨(⟨(0 : Nat), (0 : Nat)⟩ : S28), (⟨(0 : Nat), (0 : Nat)⟩ : S28)⟩ : S42)] : List (S42))) 9).bind fun bt178 => ((impl_TideDay.f k ((floatBits .quo .f64 (floatOfInt .f64 (wrap64 (t171 - 128))) (4616189618054758400 : Nat)).getD 0) (([(⟨(⟨floatOfInt .f64 t172, floatOfInt .f64 t173⟩ : S28), (⟨(0 : Nat), (4607182418800017408 : Nat)⟩ : S28)⟩ : S42)] : List (S42))) 9).bind fun bt185 => (if bt178.2 = true then (if bt185.2 = true then (if (bt178.1.length : Int) = 9 then (laws_FnTides.j0 k ((floatBits .quo .f64 (floatOfInt .f64 (wrap64 (t171 - 128))) (4616189618054758400 : Nat)).getD 0) bt178.1 bt185.1 ((bt185.1.length : Int) != 9) (floatOfInt .f64 t172) (floatOfInt .f64 t173)) else (laws_FnTides.j0 k ((floatBits .quo .f64 (floatOfInt .f64 (wrap64 (t171 - 128))) (4616189618054758400 : Nat)).getD 0) bt178.1 bt185.1 true (floatOfInt .f64 t172) (floatOfInt .f64 t173))) else (laws_FnTides.j0 k ((floatBits .quo .f64 (floatOfInt .f64 (wrap64 (t171 - 128))) (4616189618054758400 : Nat)).getD 0) bt178.1 bt185.1 true (floatOfInt .f64 t172) (floatOfInt .f64 t173))) else (laws_FnTides.j0 k ((floatBits .quo .f64 (floatOfInt .f64 (wrap64 (t171 - 128))) (4616189618054758400 : Nat)).getD 0) bt178.1 bt185.1 true (floatOfInt .f64 t172) (floatOfInt .f64 t173))))))) else (none))) = some r := by rw [if_neg (show ¬ (false = true) by decide)] at H; exact H
    clear H
    have H := H1
    clear H1
    replace H := Option.bind_eq_some_iff.mp H
    obtain ⟨t171, A40, H⟩ := H
    replace H : (if (floatBits .quo .f64 (floatOfInt .f64 (wrap64 (t171 - 128))) (4616189618054758400 : Nat)).isSome = true then ((laws_at.f l0 1).bind fun t172 => ((laws_at.f l0 2).bind fun t173 => ((impl_TideDay.f k ((floatBits .quo .f64 (floatOfInt .f64 (wrap64 (t171 - 128))) (4616189618054758400 : Nat)).getD 0) (([(⟨(⟨floatOfInt .f64 t172, floatOfInt .f64 t173⟩ : S28), (⟨(4607182418800017408 : Nat), (0 : Nat)⟩ : S28)⟩ : S42), (⟨(⟨(0 : Nat), (0 : Nat)⟩ : S28), (⟨(0 : Nat), (0 : Nat)⟩ : S28)⟩ : S42)] : List (S42))) 9).bind fun bt178 => ((impl_TideDay.f k ((floatBits .quo .f64 (floatOfInt .f64 (wrap64 (t171 - 128))) (4616189618054758400 : Nat)).getD 0) (([(⟨(⟨floatOfInt .f64 t172, floatOfInt .f64 t173⟩ : S28), (⟨(0 : Nat), (4607182418800017408 : Nat)⟩ : S28)⟩ : S42)] : List (S42))) 9).bind fun bt185 => (if bt178.2 = true then (if bt185.2 = true then (if (bt178.1.length : Int) = 9 then (laws_FnTides.j0 k ((floatBits .quo .f64 (floatOfInt .f64 (wrap64 (t171 - 128))) (4616189618054758400 : Nat)).getD 0) bt178.1 bt185.1 ((bt185.1.length : Int) != 9) (floatOfInt .f64 t172) (floatOfInt .f64 t173)) else (laws_FnTides.j0 k ((floatBits .quo .f64 (floatOfInt .f64 (wrap64 (t171 - 128))) (4616189618054758400 : Nat)).getD 0) bt178.1 bt185.1 true (floatOfInt .f64 t172) (floatOfInt .f64 t173))) else (laws_FnTides.j0 k ((floatBits .quo .f64 (floatOfInt .f64 (wrap64 (t171 - 128))) (4616189618054758400 : Nat)).getD 0) bt178.1 bt185.1 true (floatOfInt .f64 t172) (floatOfInt .f64 t173))) else (laws_FnTides.j0 k ((floatBits .quo .f64 (floatOfInt .f64 (wrap64 (t171 - 128))) (4616189618054758400 : Nat)).getD 0) bt178.1 bt185.1 true (floatOfInt .f64 t172) (floatOfInt .f64 t173))))))) else (none)) = some r := H
    have A4 := Aside0.mk A40
    clear A40
    by_cases c5 : (floatBits .quo .f64 (floatOfInt .f64 (wrap64 (t171 - 128))) (4616189618054758400 : Nat)).isSome = true
    · rw [if_pos c5] at H
      have c5b0 := eq_true c5
      have c5b1 : decide ((floatBits .quo .f64 (floatOfInt .f64 (wrap64 (t171 - 128))) (4616189618054758400 : Nat)).isSome = true) = true := decide_eq_true c5
      clear c5
      replace H := Option.bind_eq_some_iff.mp H
      obtain ⟨t172, A60, H⟩ := H
      replace H : ((laws_at.f l0 2).bind fun t173 => ((impl_TideDay.f k ((floatBits .quo .f64 (floatOfInt .f64 (wrap64 (t171 - 128))) (4616189618054758400 : Nat)).getD 0) (([(⟨(⟨floatOfInt .f64 t172, floatOfInt .f64 t173⟩ : S28), (⟨(4607182418800017408 : Nat), (0 : Nat)⟩ : S28)⟩ : S42), (⟨(⟨(0 : Nat), (0 : Nat)⟩ : S28), (⟨(0 : Nat), (0 : Nat)⟩ : S28)⟩ : S42)] : List (S42))) 9).bind fun bt178 => ((impl_TideDay.f k ((floatBits .quo .f64 (floatOfInt .f64 (wrap64 (t171 - 128))) (4616189618054758400 : Nat)).getD 0) (([(⟨(⟨floatOfInt .f64 t172, floatOfInt .f64 t173⟩ : S28), (⟨(0 : Nat), (4607182418800017408 : Nat)⟩ : S28)⟩ : S42)] : List (S42))) 9).bind fun bt185 => (if bt178.2 = true then (if bt185.2 = true then (if (bt178.1.length : Int) = 9 then (laws_FnTides.j0 k ((floatBits .quo .f64 (floatOfInt .f64 (wrap64 (t171 - 128))) (4616189618054758400 : Nat)).getD 0) bt178.1 bt185.1 ((bt185.1.length : Int) != 9) (floatOfInt .f64 t172) (floatOfInt .f64 t173)) else (laws_FnTides.j0 k ((floatBits .quo .f64 (floatOfInt .f64 (wrap64 (t171 - 128))) (4616189618054758400 : Nat)).getD 0) bt178.1 bt185.1 true (floatOfInt .f64 t172) (floatOfInt .f64 t173))) else (laws_FnTides.j0 k ((floatBits .quo .f64 (floatOfInt .f64 (wrap64 (t171 - 128))) (4616189618054758400 : Nat)).getD 0) bt178.1 bt185.1 true (floatOfInt .f64 t172) (floatOfInt .f64 t173))) else (laws_FnTides.j0 k ((floatBits .quo .f64 (floatOfInt .f64 (wrap64 (t171 - 128))) (4616189618054758400 : Nat)).getD 0) bt178.1 bt185.1 true (floatOfInt .f64 t172) (floatOfInt .f64 t173)))))) = some r := H
      have A6 := Aside0.mk A60
      clear A60
      replace H := Option.bind_eq_some_iff.mp H
      obtain ⟨t173, A70, H⟩ := H
      replace H : ((impl_TideDay.f k ((floatBits .quo .f64 (floatOfInt .f64 (wrap64 (t171 - 128))) (4616189618054758400 : Nat)).getD 0) (([(⟨(⟨floatOfInt .f64 t172, floatOfInt .f64 t173⟩ : S28), (⟨(4607182418800017408 : Nat), (0 : Nat)⟩ : S28)⟩ : S42), (⟨(⟨(0 : Nat), (0 : Nat)⟩ : S28), (⟨(0 : Nat), (0 : Nat)⟩ : S28)⟩ : S42)] : List (S42))) 9).bind fun bt178 => ((impl_TideDay.f k ((floatBits .quo .f64 (floatOfInt .f64 (wrap64 (t171 - 128))) (4616189618054758400 : Nat)).getD 0) (([(⟨(⟨floatOfInt .f64 t172, floatOfInt .f64 t173⟩ : S28), (⟨(0 : Nat), (4607182418800017408 : Nat)⟩ : S28)⟩ : S42)] : List (S42))) 9).bind fun bt185 => (if bt178.2 = true then (if bt185.2 = true then (if (bt178.1.length : Int) = 9 then (laws_FnTides.j0 k ((floatBits .quo .f64 (floatOfInt .f64 (wrap64 (t171 - 128))) (4616189618054758400 : Nat)).getD 0) bt178.1 bt185.1 ((bt185.1.length : Int) != 9) (floatOfInt .f64 t172) (floatOfInt .f64 t173)) else (laws_FnTides.j0 k ((floatBits .quo .f64 (floatOfInt .f64 (wrap64 (t171 - 128))) (4616189618054758400 : Nat)).getD 0) bt178.1 bt185.1 true (floatOfInt .f64 t172) (floatOfInt .f64 t173))) else (laws_FnTides.j0 k ((floatBits .quo .f64 (floatOfInt .f64 (wrap64 (t171 - 128))) (4616189618054758400 : Nat)).getD 0) bt178.1 bt185.1 true (floatOfInt .f64 t172) (floatOfInt .f64 t173))) else (laws_FnTides.j0 k ((floatBits .quo .f64 (floatOfInt .f64 (wrap64 (t171 - 128))) (4616189618054758400 : Nat)).getD 0) bt178.1 bt185.1 true (floatOfInt .f64 t172) (floatOfInt .f64 t173))))) = some r := H
      have A7 := Aside0.mk A70
      clear A70
      obtain ⟨y175, hy175⟩ : ∃ y_ : List (S42), y_ = (([(⟨(⟨floatOfInt .f64 t172, floatOfInt .f64 t173⟩ : S28), (⟨(4607182418800017408 : Nat), (0 : Nat)⟩ : S28)⟩ : S42), (⟨(⟨(0 : Nat), (0 : Nat)⟩ : S28), (⟨(0 : Nat), (0 : Nat)⟩ : S28)⟩ : S42)] : List (S42))) := ⟨_, rfl⟩
      replace H : ((impl_TideDay.f k ((floatBits .quo .f64 (floatOfInt .f64 (wrap64 (t171 - 128))) (4616189618054758400 : Nat)).getD 0) y175 9).bind fun bt178 => ((impl_TideDay.f k ((floatBits .quo .f64 (floatOfInt .f64 (wrap64 (t171 - 128))) (4616189618054758400 : Nat)).getD 0) (([(⟨(⟨floatOfInt .f64 t172, floatOfInt .f64 t173⟩ : S28), (⟨(0 : Nat), (4607182418800017408 : Nat)⟩ : S28)⟩ : S42)] : List (S42))) 9).bind fun bt185 => (if bt178.2 = true then (if bt185.2 = true then (if (bt178.1.length : Int) = 9 then (laws_FnTides.j0 k ((floatBits .quo .f64 (floatOfInt .f64 (wrap64 (t171 - 128))) (4616189618054758400 : Nat)).getD 0) bt178.1 bt185.1 ((bt185.1.length : Int) != 9) (floatOfInt .f64 t172) (floatOfInt .f64 t173)) else (laws_FnTides.j0 k ((floatBits .quo .f64 (floatOfInt .f64 (wrap64 (t171 - 128))) (4616189618054758400 : Nat)).getD 0) bt178.1 bt185.1 true (floatOfInt .f64 t172) (floatOfInt .f64 t173))) else (laws_FnTides.j0 k ((floatBits .quo .f64 (floatOfInt .f64 (wrap64 (t171 - 128))) (4616189618054758400 : Nat)).getD 0) bt178.1 bt185.1 true (floatOfInt .f64 t172) (floatOfInt .f64 t173))) else (laws_FnTides.j0 k ((floatBits .quo .f64 (floatOfInt .f64 (wrap64 (t171 - 128))) (4616189618054758400 : Nat)).getD 0) bt178.1 bt185.1 true (floatOfInt .f64 t172) (floatOfInt .f64 t173))))) = some r := by first | (rw [hy175]; with_reducible exact H) | (have H2_ := (Option.bind_some _ _).symm.trans H; rw [hy175]; with_reducible exact H2_) | (have H2_ := (Option.bind_some _ _).symm.trans H; with_reducible exact H2_) | with_reducible exact H | (rw [hy175]; exact H) | exact H
      have Ny175 := Aside0.mk hy175
      clear hy175
      replace H := Option.bind_eq_some_iff.mp H
      obtain ⟨⟨t178, t179⟩, A80, H⟩ := H
      replace H : ((impl_TideDay.f k ((floatBits .quo .f64 (floatOfInt .f64 (wrap64 (t171 - 128))) (4616189618054758400 : Nat)).getD 0) (([(⟨(⟨floatOfInt .f64 t172, floatOfInt .f64 t173⟩ : S28), (⟨(0 : Nat), (4607182418800017408 : Nat)⟩ : S28)⟩ : S42)] : List (S42))) 9).bind fun bt185 => (if t179 = true then (if bt185.2 = true then (if (t178.length : Int) = 9 then (laws_FnTides.j0 k ((floatBits .quo .f64 (floatOfInt .f64 (wrap64 (t171 - 128))) (4616189618054758400 : Nat)).getD 0) t178 bt185.1 ((bt185.1.length : Int) != 9) (floatOfInt .f64 t172) (floatOfInt .f64 t173)) else (laws_FnTides.j0 k ((floatBits .quo .f64 (floatOfInt .f64 (wrap64 (t171 - 128))) (4616189618054758400 : Nat)).getD 0) t178 bt185.1 true (floatOfInt .f64 t172) (floatOfInt .f64 t173))) else (laws_FnTides.j0 k ((floatBits .quo .f64 (floatOfInt .f64 (wrap64 (t171 - 128))) (4616189618054758400 : Nat)).getD 0) t178 bt185.1 true (floatOfInt .f64 t172) (floatOfInt .f64 t173))) else (laws_FnTides.j0 k ((floatBits .quo .f64 (floatOfInt .f64 (wrap64 (t171 - 128))) (4616189618054758400 : Nat)).getD 0) t178 bt185.1 true (floatOfInt .f64 t172) (floatOfInt .f64 t173)))) = some r := H
      have A8 := Aside0.mk A80
      clear A80
      obtain ⟨y182, hy182⟩ : ∃ y_ : List (S42), y_ = (([(⟨(⟨floatOfInt .f64 t172, floatOfInt .f64 t173⟩ : S28), (⟨(0 : Nat), (4607182418800017408 : Nat)⟩ : S28)⟩ : S42)] : List (S42))) := ⟨_, rfl⟩
      replace H : ((impl_TideDay.f k ((floatBits .quo .f64 (floatOfInt .f64 (wrap64 (t171 - 128))) (4616189618054758400 : Nat)).getD 0) y182 9).bind fun bt185 => (if t179 = true then (if bt185.2 = true then (if (t178.length : Int) = 9 then (laws_FnTides.j0 k ((floatBits .quo .f64 (floatOfInt .f64 (wrap64 (t171 - 128))) (4616189618054758400 : Nat)).getD 0) t178 bt185.1 ((bt185.1.length : Int) != 9) (floatOfInt .f64 t172) (floatOfInt .f64 t173)) else (laws_FnTides.j0 k ((floatBits .quo .f64 (floatOfInt .f64 (wrap64 (t171 - 128))) (4616189618054758400 : Nat)).getD 0) t178 bt185.1 true (floatOfInt .f64 t172) (floatOfInt .f64 t173))) else (laws_FnTides.j0 k ((floatBits .quo .f64 (floatOfInt .f64 (wrap64 (t171 - 128))) (4616189618054758400 : Nat)).getD 0) t178 bt185.1 true (floatOfInt .f64 t172) (floatOfInt .f64 t173))) else (laws_FnTides.j0 k ((floatBits .quo .f64 (floatOfInt .f64 (wrap64 (t171 - 128))) (4616189618054758400 : Nat)).getD 0) t178 bt185.1 true (floatOfInt .f64 t172) (floatOfInt .f64 t173)))) = some r := by first | (rw [hy182]; with_reducible exact H) | (have H2_ := (Option.bind_some _ _).symm.trans H; rw [hy182]; with_reducible exact H2_) | (have H2_ := (Option.bind_some _ _).symm.trans H; with_reducible exact H2_) | with_reducible exact H | (rw [hy182]; exact H) | exact H
      have Ny182 := Aside0.mk hy182
      clear hy182
      replace H := Option.bind_eq_some_iff.mp H
      obtain ⟨⟨t185, t186⟩, A90, H⟩ := H
      replace H : (if t179 = true then (if t186 = true then (if (t178.length : Int) = 9 then (laws_FnTides.j0 k ((floatBits .quo .f64 (floatOfInt .f64 (wrap64 (t171 - 128))) (4616189618054758400 : Nat)).getD 0) t178 t185 ((t185.length : Int) != 9) (floatOfInt .f64 t172) (floatOfInt .f64 t173)) else (laws_FnTides.j0 k ((floatBits .quo .f64 (floatOfInt .f64 (wrap64 (t171 - 128))) (4616189618054758400 : Nat)).getD 0) t178 t185 true (floatOfInt .f64 t172) (floatOfInt .f64 t173))) else (laws_FnTides.j0 k ((floatBits .quo .f64 (floatOfInt .f64 (wrap64 (t171 - 128))) (4616189618054758400 : Nat)).getD 0) t178 t185 true (floatOfInt .f64 t172) (floatOfInt .f64 t173))) else (laws_FnTides.j0 k ((floatBits .quo .f64 (floatOfInt .f64 (wrap64 (t171 - 128))) (4616189618054758400 : Nat)).getD 0) t178 t185 true (floatOfInt .f64 t172) (floatOfInt .f64 t173))) = some r := H
      have A9 := Aside0.mk A90
      clear A90
      have HC10 := Aside0.mk H
      clear H
      go_enter Try.func5, Try.ntmps5
      go_upto_region 7 with (first | (go_at_call 7; (with_reducible refine (laws_big.calls _ _ l0 false _ ?side1 ?side2 A2.out).mono ?_); (case side1 => repeat (first | exact HR0.out | (with_reducible refine Kd.C_alloc ?_ _) | (with_reducible refine Kd.C_drewN ?_ _) | (with_reducible refine Kd.C_drew ?_))); (case side2 => exact HC0.out); rintro e w' ⟨rfl, ⟨nd, rfl⟩⟩; (try first | exact ⟨rfl, _, World.drewN_drewN _ _ _⟩ | exact ⟨rfl, _, Eq.trans (World.drewN_drewN _ _ _) (congrArg (World.drewN _) (Nat.add_assoc _ _ _))⟩)) | (go_at_call 8; (with_reducible refine (laws_at.calls _ _ l0 0 t171 _ ?side1 ?side2 A4.out).mono ?_); (case side1 => repeat (first | exact HR0.out | (with_reducible refine Kd.C_alloc ?_ _) | (with_reducible refine Kd.C_drewN ?_ _) | (with_reducible refine Kd.C_drew ?_))); (case side2 => exact HC0.out); rintro e w' ⟨rfl, ⟨nd, rfl⟩⟩; (try first | exact ⟨rfl, _, World.drewN_drewN _ _ _⟩ | exact ⟨rfl, _, Eq.trans (World.drewN_drewN _ _ _) (congrArg (World.drewN _) (Nat.add_assoc _ _ _))⟩); have hu11_ := Try.underlying3; have hv11_ := Try.underlying26; have hq12_ : (floatBits .quo .f64 (floatOfInt .f64 (wrap64 (t171 - 128))) (4616189618054758400 : Nat)).isSome = true := (by first | assumption | exact of_eq_true (by assumption) | (simp only [*])); have hf12_ := fun w_ : World => run_float_arith (P := Try.prog) (w := w_) .quo 26 .f64 (floatOfInt .f64 (wrap64 (t171 - 128))) (4616189618054758400 : Nat) ((floatBits .quo .f64 (floatOfInt .f64 (wrap64 (t171 - 128))) (4616189618054758400 : Nat)).getD 0) (opt_getD_ hq12_)) | (go_at_call 8; (with_reducible refine (laws_at.calls _ _ l0 1 t172 _ ?side1 ?side2 A6.out).mono ?_); (case side1 => repeat (first | exact HR0.out | (with_reducible refine Kd.C_alloc ?_ _) | (with_reducible refine Kd.C_drewN ?_ _) | (with_reducible refine Kd.C_drew ?_))); (case side2 => exact HC0.out); rintro e w' ⟨rfl, ⟨nd, rfl⟩⟩; (try first | exact ⟨rfl, _, World.drewN_drewN _ _ _⟩ | exact ⟨rfl, _, Eq.trans (World.drewN_drewN _ _ _) (congrArg (World.drewN _) (Nat.add_assoc _ _ _))⟩); have hu13_ := Try.underlying3; have hv13_ := Try.underlying26) | (go_at_call 8; (with_reducible refine (laws_at.calls _ _ l0 2 t173 _ ?side1 ?side2 A7.out).mono ?_); (case side1 => repeat (first | exact HR0.out | (with_reducible refine Kd.C_alloc ?_ _) | (with_reducible refine Kd.C_drewN ?_ _) | (with_reducible refine Kd.C_drew ?_))); (case side2 => exact HC0.out); rintro e w' ⟨rfl, ⟨nd, rfl⟩⟩; (try first | exact ⟨rfl, _, World.drewN_drewN _ _ _⟩ | exact ⟨rfl, _, Eq.trans (World.drewN_drewN _ _ _) (congrArg (World.drewN _) (Nat.add_assoc _ _ _))⟩); have hu14_ := Try.underlying3; have hv14_ := Try.underlying26) | ((with_reducible refine gate_dst (N := 4) rfl ?_); (try (refine gate_guard (by rfl) ?_; dsimp only)); refine box_event ?hg (N := 4) ?hd (cs := #[.float .f64 (0 : Nat), .float .f64 (0 : Nat)]) (t := 28) ?hr ?_; (case hd => rfl); (case hg => rfl); (case hr => first | (go_simp; done) | (go_simp; rfl)); intro gb174 hg w15 hbox hb; have n0_ := Aside0.mk (below_step (by repeat (first | (with_reducible first | exact HB.out | apply below_alloc | apply pw_below_drewN | apply below_drew1) | exact HB.out)) hb); have n1_ := Aside0.mk (hbox); have n2_ := Aside0.mk ((by rw [hg]; exact (below_size (by repeat (first | (with_reducible first | exact HB.out | apply below_alloc | apply pw_below_drewN | apply below_drew1) | exact HB.out))) : w.heap.size ≤ gb174)); have n3_ := Aside0.mk ((by rw [hg]; exact (below_size (by repeat (first | (with_reducible first | exact HB.out | apply below_alloc | apply pw_below_drewN | apply below_drew1) | exact HB.out))) : w.heap.size ≤ gb174)); clear HB; have HB := n0_; have BK174 := n1_; have GW174 := n2_; have GE174 := n3_; clear n0_ n1_ n2_ n3_; clear hb hbox hg; have hcz16_0 : w15.cell? ⟨gb174, 0, none⟩ = some (.float .f64 (0 : Nat)) := (blk_cell BK174.out 0).trans rfl; have hcz16_1 : w15.cell? ⟨gb174, 1, none⟩ = some (.float .f64 (0 : Nat)) := (blk_cell BK174.out 1).trans rfl; have hfz16_0 := blk_frozen BK174.out 0; have hfz16_1 := blk_frozen BK174.out 1) | ((with_reducible refine gate_dst (N := 36) rfl ?_); (try (refine gate_guard (by rfl) ?_; dsimp only)); refine Kd.R_lit k42 _ 42 ?hg (N := 36) ?hd (xs := ([(⟨(⟨floatOfInt .f64 t172, floatOfInt .f64 t173⟩ : S28), (⟨(4607182418800017408 : Nat), (0 : Nat)⟩ : S28)⟩ : S42), (⟨(⟨(0 : Nat), (0 : Nat)⟩ : S28), (⟨(0 : Nat), (0 : Nat)⟩ : S28)⟩ : S42)] : List (S42))) (inner := [.float .f64 (floatOfInt .f64 t172), .float .f64 (floatOfInt .f64 t173), .float .f64 (4607182418800017408 : Nat), .float .f64 (0 : Nat), .float .f64 (0 : Nat), .float .f64 (0 : Nat), .float .f64 (0 : Nat), .float .f64 (0 : Nat)]) (ok := fun _ => True) (okp := fun _ => True) ?hr ?hp (fun _ hk => hk) trivial (Below.refl _ _) (Nat.le_refl _) (by simp) ?_; (case hd => rfl); (case hg => rfl); (case hr => first | (go_simp; done) | (go_simp; rfl)); (case hp => exact (Reps.c4 (show Kd.M k42 _ _ _ (⟨(⟨floatOfInt .f64 t172, floatOfInt .f64 t173⟩ : S28), (⟨(4607182418800017408 : Nat), (0 : Nat)⟩ : S28)⟩ : S42) [.float .f64 (floatOfInt .f64 t172), .float .f64 (floatOfInt .f64 t173), .float .f64 (4607182418800017408 : Nat), .float .f64 (0 : Nat)] from (k42_mkM _ _ _ (⟨(⟨floatOfInt .f64 t172, floatOfInt .f64 t173⟩ : S28), (⟨(4607182418800017408 : Nat), (0 : Nat)⟩ : S28)⟩ : S42) )) (Reps.c4 (show Kd.M k42 _ _ _ (⟨(⟨(0 : Nat), (0 : Nat)⟩ : S28), (⟨(0 : Nat), (0 : Nat)⟩ : S28)⟩ : S42) [.float .f64 (0 : Nat), .float .f64 (0 : Nat), .float .f64 (0 : Nat), .float .f64 (0 : Nat)] from (k42_mkM _ _ _ (⟨(⟨(0 : Nat), (0 : Nat)⟩ : S28), (⟨(0 : Nat), (0 : Nat)⟩ : S28)⟩ : S42) )) (Reps.none _ _)))); intro v176 w17 ho18 hb hg_ hnew_; clear hg_ hnew_; (first | rw [← Ny175.out] at ho18 | (simp only [Int.reduceToNat] at ho18; rw [← Ny175.out] at ho18)); have n0_ := Aside0.mk (Kd.R_lower ho18 (below_size (by repeat (first | (with_reducible first | exact HB.out | apply below_alloc | apply pw_below_drewN | apply below_drew1 | refine below_set ?_ GE174.out) | exact HB.out)))); have n1_ := Aside0.mk (blk_below (g := gb174) (o := .cells #[.float .f64 (floatOfInt .f64 t172), .float .f64 (floatOfInt .f64 t173)] 28 (0, 0)) (by (with_reducible repeat (first | refine blk_drewN ?_ _ | refine blk_drew ?_ | refine blk_alloc ?_ _)); refine blk_put (cs := #[.float .f64 (floatOfInt .f64 t172), .float .f64 (0 : Nat)]) ?_ 1 _ rfl; (with_reducible repeat (first | refine blk_drewN ?_ _ | refine blk_drew ?_ | refine blk_alloc ?_ _)); refine blk_put (cs := #[.float .f64 (0 : Nat), .float .f64 (0 : Nat)]) ?_ 0 _ rfl; (with_reducible repeat (first | refine blk_drewN ?_ _ | refine blk_drew ?_ | refine blk_alloc ?_ _)); exact BK174.out) hb); have n2_ := Aside0.mk (below_step (by repeat (first | (with_reducible first | exact HB.out | apply below_alloc | apply pw_below_drewN | apply below_drew1 | refine below_set ?_ GE174.out) | exact HB.out)) hb); clear BK174; clear HB; have HO177 := n0_; have BK174 := n1_; have HB := n2_; clear n0_ n1_ n2_; clear hb ho18; obtain ⟨Ao19, co19, eo19⟩ := Kd.R_slice HO177.out; subst eo19) | (go_at_call 16; (with_reducible refine (impl_TideDay.calls k ((floatBits .quo .f64 (floatOfInt .f64 (wrap64 (t171 - 128))) (4616189618054758400 : Nat)).getD 0) _ _ y175 9 t178 t179 _ ?side1 ?side2 A8.out).mono ?_); (case side1 => repeat (first | exact (Kd.R_reads' HO177.out).2.2 | (with_reducible refine Kd.C_alloc ?_ _) | (with_reducible refine Kd.C_drewN ?_ _) | (with_reducible refine Kd.C_drew ?_))); (case side2 => exact (Kd.R_reads' HO177.out).2.1); rintro e w20 ⟨v180, rfl, ho0, hb⟩; have n0_ := Aside0.mk (Kd.R_below (by (with_reducible repeat (first | apply Kd.R_alloc | apply Kd.R_drewN | apply Kd.R_drew)); exact HO177.out) hb); have n1_ := Aside0.mk (Kd.R_lower ho0 (below_size (by repeat (first | (with_reducible first | exact HB.out | apply below_alloc | apply pw_below_drewN | apply below_drew1 | refine below_set ?_ GE174.out) | exact HB.out)))); have n2_ := Aside0.mk (blk_below (g := gb174) (o := .cells #[.float .f64 (floatOfInt .f64 t172), .float .f64 (floatOfInt .f64 t173)] 28 (0, 0)) (by (with_reducible repeat (first | refine blk_drewN ?_ _ | refine blk_drew ?_ | refine blk_alloc ?_ _)); exact BK174.out) hb); have n3_ := Aside0.mk (below_step (by repeat (first | (with_reducible first | exact HB.out | apply below_alloc | apply pw_below_drewN | apply below_drew1 | refine below_set ?_ GE174.out) | exact HB.out)) hb); clear HO177; clear BK174; clear HB; have HO177 := n0_; have HO181 := n1_; have BK174 := n2_; have HB := n3_; clear n0_ n1_ n2_ n3_; (try clear hb); (try clear hb2); (try clear hk); (try clear hi); (try clear ho0); have hcz21_0 : w20.cell? ⟨gb174, 0, none⟩ = some (.float .f64 (floatOfInt .f64 t172)) := (blk_cell BK174.out 0).trans rfl; have hcz21_1 : w20.cell? ⟨gb174, 1, none⟩ = some (.float .f64 (floatOfInt .f64 t173)) := (blk_cell BK174.out 1).trans rfl; have hfz21_0 := blk_frozen BK174.out 0; have hfz21_1 := blk_frozen BK174.out 1) | ((with_reducible refine gate_dst (N := 45) rfl ?_); (try (refine gate_guard (by rfl) ?_; dsimp only)); refine Kd.R_lit k42 _ 42 ?hg (N := 45) ?hd (xs := ([(⟨(⟨floatOfInt .f64 t172, floatOfInt .f64 t173⟩ : S28), (⟨(0 : Nat), (4607182418800017408 : Nat)⟩ : S28)⟩ : S42)] : List (S42))) (inner := [.float .f64 (floatOfInt .f64 t172), .float .f64 (floatOfInt .f64 t173), .float .f64 (0 : Nat), .float .f64 (4607182418800017408 : Nat)]) (ok := fun _ => True) (okp := fun _ => True) ?hr ?hp (fun _ hk => hk) trivial (Below.refl _ _) (Nat.le_refl _) (by simp) ?_; (case hd => rfl); (case hg => rfl); (case hr => first | (go_simp; done) | (go_simp; rfl)); (case hp => exact (Reps.c4 (show Kd.M k42 _ _ _ (⟨(⟨floatOfInt .f64 t172, floatOfInt .f64 t173⟩ : S28), (⟨(0 : Nat), (4607182418800017408 : Nat)⟩ : S28)⟩ : S42) [.float .f64 (floatOfInt .f64 t172), .float .f64 (floatOfInt .f64 t173), .float .f64 (0 : Nat), .float .f64 (4607182418800017408 : Nat)] from (k42_mkM _ _ _ (⟨(⟨floatOfInt .f64 t172, floatOfInt .f64 t173⟩ : S28), (⟨(0 : Nat), (4607182418800017408 : Nat)⟩ : S28)⟩ : S42) )) (Reps.none _ _))); intro v183 w22 ho23 hb hg_ hnew_; clear hg_ hnew_; (first | rw [← Ny182.out] at ho23 | (simp only [Int.reduceToNat] at ho23; rw [← Ny182.out] at ho23)); have n0_ := Aside0.mk (Kd.R_elder' (by (with_reducible repeat (first | apply Kd.R_alloc | apply Kd.R_drewN | apply Kd.R_drew)); exact HO177.out) (Kd.R_base ho23) hb); have n1_ := Aside0.mk (Kd.R_below (by (with_reducible repeat (first | apply Kd.R_alloc | apply Kd.R_drewN | apply Kd.R_drew)); exact HO181.out) hb); have n2_ := Aside0.mk (Kd.R_lower (Kd.R_new' ho23 (Kd.R_lt (by (with_reducible repeat (first | apply Kd.R_alloc | apply Kd.R_drewN | apply Kd.R_drew)); exact HO177.out))) (below_size (by repeat (first | (with_reducible first | exact HB.out | apply below_alloc | apply pw_below_drewN | apply below_drew1 | refine below_set ?_ GE174.out) | exact HB.out)))); have n3_ := Aside0.mk (blk_below (g := gb174) (o := .cells #[.float .f64 (floatOfInt .f64 t172), .float .f64 (floatOfInt .f64 t173)] 28 (0, 0)) (by (with_reducible repeat (first | refine blk_drewN ?_ _ | refine blk_drew ?_ | refine blk_alloc ?_ _)); exact BK174.out) hb); have n4_ := Aside0.mk (below_step (by repeat (first | (with_reducible first | exact HB.out | apply below_alloc | apply pw_below_drewN | apply below_drew1 | refine below_set ?_ GE174.out) | exact HB.out)) hb); clear HO177; clear HO181; clear BK174; clear HB; have HO177 := n0_; have HO181 := n1_; have HO184 := n2_; have BK174 := n3_; have HB := n4_; clear n0_ n1_ n2_ n3_ n4_; clear hb ho23; obtain ⟨Ao24, co24, eo24⟩ := Kd.R_slice HO184.out; subst eo24) | (go_at_call 16; (with_reducible refine (impl_TideDay.calls k ((floatBits .quo .f64 (floatOfInt .f64 (wrap64 (t171 - 128))) (4616189618054758400 : Nat)).getD 0) _ _ y182 9 t185 t186 _ ?side1 ?side2 A9.out).mono ?_); (case side1 => repeat (first | exact (Kd.R_reads' HO184.out).2.2 | (with_reducible refine Kd.C_alloc ?_ _) | (with_reducible refine Kd.C_drewN ?_ _) | (with_reducible refine Kd.C_drew ?_))); (case side2 => exact (Kd.R_reads' HO184.out).2.1); rintro e w25 ⟨v187, rfl, ho0, hb⟩; have n0_ := Aside0.mk (Kd.R_below (by (with_reducible repeat (first | apply Kd.R_alloc | apply Kd.R_drewN | apply Kd.R_drew)); exact HO177.out) hb); have n1_ := Aside0.mk (Kd.R_elder' (by (with_reducible repeat (first | apply Kd.R_alloc | apply Kd.R_drewN | apply Kd.R_drew)); exact HO181.out) (Kd.R_base ho0) hb); have n2_ := Aside0.mk (Kd.R_below (by (with_reducible repeat (first | apply Kd.R_alloc | apply Kd.R_drewN | apply Kd.R_drew)); exact HO184.out) hb); have n3_ := Aside0.mk (Kd.R_lower (Kd.R_new' ho0 (Kd.R_lt (by (with_reducible repeat (first | apply Kd.R_alloc | apply Kd.R_drewN | apply Kd.R_drew)); exact HO181.out))) (below_size (by repeat (first | (with_reducible first | exact HB.out | apply below_alloc | apply pw_below_drewN | apply below_drew1 | refine below_set ?_ GE174.out) | exact HB.out)))); have n4_ := Aside0.mk (blk_below (g := gb174) (o := .cells #[.float .f64 (floatOfInt .f64 t172), .float .f64 (floatOfInt .f64 t173)] 28 (0, 0)) (by (with_reducible repeat (first | refine blk_drewN ?_ _ | refine blk_drew ?_ | refine blk_alloc ?_ _)); exact BK174.out) hb); have n5_ := Aside0.mk (below_step (by repeat (first | (with_reducible first | exact HB.out | apply below_alloc | apply pw_below_drewN | apply below_drew1 | refine below_set ?_ GE174.out) | exact HB.out)) hb); clear HO177; clear HO181; clear HO184; clear BK174; clear HB; have HO177 := n0_; have HO181 := n1_; have HO184 := n2_; have HO188 := n3_; have BK174 := n4_; have HB := n5_; clear n0_ n1_ n2_ n3_ n4_ n5_; (try clear hb); (try clear hb2); (try clear hk); (try clear hi); (try clear ho0)))
      repeat (go_quiet (first | (go_at_call 7; (with_reducible refine (laws_big.calls _ _ l0 false _ ?side1 ?side2 A2.out).mono ?_); (case side1 => repeat (first | exact HR0.out | (with_reducible refine Kd.C_alloc ?_ _) | (with_reducible refine Kd.C_drewN ?_ _) | (with_reducible refine Kd.C_drew ?_))); (case side2 => exact HC0.out); rintro e w' ⟨rfl, ⟨nd, rfl⟩⟩; (try first | exact ⟨rfl, _, World.drewN_drewN _ _ _⟩ | exact ⟨rfl, _, Eq.trans (World.drewN_drewN _ _ _) (congrArg (World.drewN _) (Nat.add_assoc _ _ _))⟩)) | (go_at_call 8; (with_reducible refine (laws_at.calls _ _ l0 0 t171 _ ?side1 ?side2 A4.out).mono ?_); (case side1 => repeat (first | exact HR0.out | (with_reducible refine Kd.C_alloc ?_ _) | (with_reducible refine Kd.C_drewN ?_ _) | (with_reducible refine Kd.C_drew ?_))); (case side2 => exact HC0.out); rintro e w' ⟨rfl, ⟨nd, rfl⟩⟩; (try first | exact ⟨rfl, _, World.drewN_drewN _ _ _⟩ | exact ⟨rfl, _, Eq.trans (World.drewN_drewN _ _ _) (congrArg (World.drewN _) (Nat.add_assoc _ _ _))⟩); have hu11_ := Try.underlying3; have hv11_ := Try.underlying26; have hq12_ : (floatBits .quo .f64 (floatOfInt .f64 (wrap64 (t171 - 128))) (4616189618054758400 : Nat)).isSome = true := (by first | assumption | exact of_eq_true (by assumption) | (simp only [*])); have hf12_ := fun w_ : World => run_float_arith (P := Try.prog) (w := w_) .quo 26 .f64 (floatOfInt .f64 (wrap64 (t171 - 128))) (4616189618054758400 : Nat) ((floatBits .quo .f64 (floatOfInt .f64 (wrap64 (t171 - 128))) (4616189618054758400 : Nat)).getD 0) (opt_getD_ hq12_)) | (go_at_call 8; (with_reducible refine (laws_at.calls _ _ l0 1 t172 _ ?side1 ?side2 A6.out).mono ?_); (case side1 => repeat (first | exact HR0.out | (with_reducible refine Kd.C_alloc ?_ _) | (with_reducible refine Kd.C_drewN ?_ _) | (with_reducible refine Kd.C_drew ?_))); (case side2 => exact HC0.out); rintro e w' ⟨rfl, ⟨nd, rfl⟩⟩; (try first | exact ⟨rfl, _, World.drewN_drewN _ _ _⟩ | exact ⟨rfl, _, Eq.trans (World.drewN_drewN _ _ _) (congrArg (World.drewN _) (Nat.add_assoc _ _ _))⟩); have hu13_ := Try.underlying3; have hv13_ := Try.underlying26) | (go_at_call 8; (with_reducible refine (laws_at.calls _ _ l0 2 t173 _ ?side1 ?side2 A7.out).mono ?_); (case side1 => repeat (first | exact HR0.out | (with_reducible refine Kd.C_alloc ?_ _) | (with_reducible refine Kd.C_drewN ?_ _) | (with_reducible refine Kd.C_drew ?_))); (case side2 => exact HC0.out); rintro e w' ⟨rfl, ⟨nd, rfl⟩⟩; (try first | exact ⟨rfl, _, World.drewN_drewN _ _ _⟩ | exact ⟨rfl, _, Eq.trans (World.drewN_drewN _ _ _) (congrArg (World.drewN _) (Nat.add_assoc _ _ _))⟩); have hu14_ := Try.underlying3; have hv14_ := Try.underlying26) | ((with_reducible refine gate_dst (N := 4) rfl ?_); (try (refine gate_guard (by rfl) ?_; dsimp only)); refine box_event ?hg (N := 4) ?hd (cs := #[.float .f64 (0 : Nat), .float .f64 (0 : Nat)]) (t := 28) ?hr ?_; (case hd => rfl); (case hg => rfl); (case hr => first | (go_simp; done) | (go_simp; rfl)); intro gb174 hg w15 hbox hb; have n0_ := Aside0.mk (below_step (by repeat (first | (with_reducible first | exact HB.out | apply below_alloc | apply pw_below_drewN | apply below_drew1) | exact HB.out)) hb); have n1_ := Aside0.mk (hbox); have n2_ := Aside0.mk ((by rw [hg]; exact (below_size (by repeat (first | (with_reducible first | exact HB.out | apply below_alloc | apply pw_below_drewN | apply below_drew1) | exact HB.out))) : w.heap.size ≤ gb174)); have n3_ := Aside0.mk ((by rw [hg]; exact (below_size (by repeat (first | (with_reducible first | exact HB.out | apply below_alloc | apply pw_below_drewN | apply below_drew1) | exact HB.out))) : w.heap.size ≤ gb174)); clear HB; have HB := n0_; have BK174 := n1_; have GW174 := n2_; have GE174 := n3_; clear n0_ n1_ n2_ n3_; clear hb hbox hg; have hcz16_0 : w15.cell? ⟨gb174, 0, none⟩ = some (.float .f64 (0 : Nat)) := (blk_cell BK174.out 0).trans rfl; have hcz16_1 : w15.cell? ⟨gb174, 1, none⟩ = some (.float .f64 (0 : Nat)) := (blk_cell BK174.out 1).trans rfl; have hfz16_0 := blk_frozen BK174.out 0; have hfz16_1 := blk_frozen BK174.out 1) | ((with_reducible refine gate_dst (N := 36) rfl ?_); (try (refine gate_guard (by rfl) ?_; dsimp only)); refine Kd.R_lit k42 _ 42 ?hg (N := 36) ?hd (xs := ([(⟨(⟨floatOfInt .f64 t172, floatOfInt .f64 t173⟩ : S28), (⟨(4607182418800017408 : Nat), (0 : Nat)⟩ : S28)⟩ : S42), (⟨(⟨(0 : Nat), (0 : Nat)⟩ : S28), (⟨(0 : Nat), (0 : Nat)⟩ : S28)⟩ : S42)] : List (S42))) (inner := [.float .f64 (floatOfInt .f64 t172), .float .f64 (floatOfInt .f64 t173), .float .f64 (4607182418800017408 : Nat), .float .f64 (0 : Nat), .float .f64 (0 : Nat), .float .f64 (0 : Nat), .float .f64 (0 : Nat), .float .f64 (0 : Nat)]) (ok := fun _ => True) (okp := fun _ => True) ?hr ?hp (fun _ hk => hk) trivial (Below.refl _ _) (Nat.le_refl _) (by simp) ?_; (case hd => rfl); (case hg => rfl); (case hr => first | (go_simp; done) | (go_simp; rfl)); (case hp => exact (Reps.c4 (show Kd.M k42 _ _ _ (⟨(⟨floatOfInt .f64 t172, floatOfInt .f64 t173⟩ : S28), (⟨(4607182418800017408 : Nat), (0 : Nat)⟩ : S28)⟩ : S42) [.float .f64 (floatOfInt .f64 t172), .float .f64 (floatOfInt .f64 t173), .float .f64 (4607182418800017408 : Nat), .float .f64 (0 : Nat)] from (k42_mkM _ _ _ (⟨(⟨floatOfInt .f64 t172, floatOfInt .f64 t173⟩ : S28), (⟨(4607182418800017408 : Nat), (0 : Nat)⟩ : S28)⟩ : S42) )) (Reps.c4 (show Kd.M k42 _ _ _ (⟨(⟨(0 : Nat), (0 : Nat)⟩ : S28), (⟨(0 : Nat), (0 : Nat)⟩ : S28)⟩ : S42) [.float .f64 (0 : Nat), .float .f64 (0 : Nat), .float .f64 (0 : Nat), .float .f64 (0 : Nat)] from (k42_mkM _ _ _ (⟨(⟨(0 : Nat), (0 : Nat)⟩ : S28), (⟨(0 : Nat), (0 : Nat)⟩ : S28)⟩ : S42) )) (Reps.none _ _)))); intro v176 w17 ho18 hb hg_ hnew_; clear hg_ hnew_; (first | rw [← Ny175.out] at ho18 | (simp only [Int.reduceToNat] at ho18; rw [← Ny175.out] at ho18)); have n0_ := Aside0.mk (Kd.R_lower ho18 (below_size (by repeat (first | (with_reducible first | exact HB.out | apply below_alloc | apply pw_below_drewN | apply below_drew1 | refine below_set ?_ GE174.out) | exact HB.out)))); have n1_ := Aside0.mk (blk_below (g := gb174) (o := .cells #[.float .f64 (floatOfInt .f64 t172), .float .f64 (floatOfInt .f64 t173)] 28 (0, 0)) (by (with_reducible repeat (first | refine blk_drewN ?_ _ | refine blk_drew ?_ | refine blk_alloc ?_ _)); refine blk_put (cs := #[.float .f64 (floatOfInt .f64 t172), .float .f64 (0 : Nat)]) ?_ 1 _ rfl; (with_reducible repeat (first | refine blk_drewN ?_ _ | refine blk_drew ?_ | refine blk_alloc ?_ _)); refine blk_put (cs := #[.float .f64 (0 : Nat), .float .f64 (0 : Nat)]) ?_ 0 _ rfl; (with_reducible repeat (first | refine blk_drewN ?_ _ | refine blk_drew ?_ | refine blk_alloc ?_ _)); exact BK174.out) hb); have n2_ := Aside0.mk (below_step (by repeat (first | (with_reducible first | exact HB.out | apply below_alloc | apply pw_below_drewN | apply below_drew1 | refine below_set ?_ GE174.out) | exact HB.out)) hb); clear BK174; clear HB; have HO177 := n0_; have BK174 := n1_; have HB := n2_; clear n0_ n1_ n2_; clear hb ho18; obtain ⟨Ao19, co19, eo19⟩ := Kd.R_slice HO177.out; subst eo19) | (go_at_call 16; (with_reducible refine (impl_TideDay.calls k ((floatBits .quo .f64 (floatOfInt .f64 (wrap64 (t171 - 128))) (4616189618054758400 : Nat)).getD 0) _ _ y175 9 t178 t179 _ ?side1 ?side2 A8.out).mono ?_); (case side1 => repeat (first | exact (Kd.R_reads' HO177.out).2.2 | (with_reducible refine Kd.C_alloc ?_ _) | (with_reducible refine Kd.C_drewN ?_ _) | (with_reducible refine Kd.C_drew ?_))); (case side2 => exact (Kd.R_reads' HO177.out).2.1); rintro e w20 ⟨v180, rfl, ho0, hb⟩; have n0_ := Aside0.mk (Kd.R_below (by (with_reducible repeat (first | apply Kd.R_alloc | apply Kd.R_drewN | apply Kd.R_drew)); exact HO177.out) hb); have n1_ := Aside0.mk (Kd.R_lower ho0 (below_size (by repeat (first | (with_reducible first | exact HB.out | apply below_alloc | apply pw_below_drewN | apply below_drew1 | refine below_set ?_ GE174.out) | exact HB.out)))); have n2_ := Aside0.mk (blk_below (g := gb174) (o := .cells #[.float .f64 (floatOfInt .f64 t172), .float .f64 (floatOfInt .f64 t173)] 28 (0, 0)) (by (with_reducible repeat (first | refine blk_drewN ?_ _ | refine blk_drew ?_ | refine blk_alloc ?_ _)); exact BK174.out) hb); have n3_ := Aside0.mk (below_step (by repeat (first | (with_reducible first | exact HB.out | apply below_alloc | apply pw_below_drewN | apply below_drew1 | refine below_set ?_ GE174.out) | exact HB.out)) hb); clear HO177; clear BK174; clear HB; have HO177 := n0_; have HO181 := n1_; have BK174 := n2_; have HB := n3_; clear n0_ n1_ n2_ n3_; (try clear hb); (try clear hb2); (try clear hk); (try clear hi); (try clear ho0); have hcz21_0 : w20.cell? ⟨gb174, 0, none⟩ = some (.float .f64 (floatOfInt .f64 t172)) := (blk_cell BK174.out 0).trans rfl; have hcz21_1 : w20.cell? ⟨gb174, 1, none⟩ = some (.float .f64 (floatOfInt .f64 t173)) := (blk_cell BK174.out 1).trans rfl; have hfz21_0 := blk_frozen BK174.out 0; have hfz21_1 := blk_frozen BK174.out 1) | ((with_reducible refine gate_dst (N := 45) rfl ?_); (try (refine gate_guard (by rfl) ?_; dsimp only)); refine Kd.R_lit k42 _ 42 ?hg (N := 45) ?hd (xs := ([(⟨(⟨floatOfInt .f64 t172, floatOfInt .f64 t173⟩ : S28), (⟨(0 : Nat), (4607182418800017408 : Nat)⟩ : S28)⟩ : S42)] : List (S42))) (inner := [.float .f64 (floatOfInt .f64 t172), .float .f64 (floatOfInt .f64 t173), .float .f64 (0 : Nat), .float .f64 (4607182418800017408 : Nat)]) (ok := fun _ => True) (okp := fun _ => True) ?hr ?hp (fun _ hk => hk) trivial (Below.refl _ _) (Nat.le_refl _) (by simp) ?_; (case hd => rfl); (case hg => rfl); (case hr => first | (go_simp; done) | (go_simp; rfl)); (case hp => exact (Reps.c4 (show Kd.M k42 _ _ _ (⟨(⟨floatOfInt .f64 t172, floatOfInt .f64 t173⟩ : S28), (⟨(0 : Nat), (4607182418800017408 : Nat)⟩ : S28)⟩ : S42) [.float .f64 (floatOfInt .f64 t172), .float .f64 (floatOfInt .f64 t173), .float .f64 (0 : Nat), .float .f64 (4607182418800017408 : Nat)] from (k42_mkM _ _ _ (⟨(⟨floatOfInt .f64 t172, floatOfInt .f64 t173⟩ : S28), (⟨(0 : Nat), (4607182418800017408 : Nat)⟩ : S28)⟩ : S42) )) (Reps.none _ _))); intro v183 w22 ho23 hb hg_ hnew_; clear hg_ hnew_; (first | rw [← Ny182.out] at ho23 | (simp only [Int.reduceToNat] at ho23; rw [← Ny182.out] at ho23)); have n0_ := Aside0.mk (Kd.R_elder' (by (with_reducible repeat (first | apply Kd.R_alloc | apply Kd.R_drewN | apply Kd.R_drew)); exact HO177.out) (Kd.R_base ho23) hb); have n1_ := Aside0.mk (Kd.R_below (by (with_reducible repeat (first | apply Kd.R_alloc | apply Kd.R_drewN | apply Kd.R_drew)); exact HO181.out) hb); have n2_ := Aside0.mk (Kd.R_lower (Kd.R_new' ho23 (Kd.R_lt (by (with_reducible repeat (first | apply Kd.R_alloc | apply Kd.R_drewN | apply Kd.R_drew)); exact HO177.out))) (below_size (by repeat (first | (with_reducible first | exact HB.out | apply below_alloc | apply pw_below_drewN | apply below_drew1 | refine below_set ?_ GE174.out) | exact HB.out)))); have n3_ := Aside0.mk (blk_below (g := gb174) (o := .cells #[.float .f64 (floatOfInt .f64 t172), .float .f64 (floatOfInt .f64 t173)] 28 (0, 0)) (by (with_reducible repeat (first | refine blk_drewN ?_ _ | refine blk_drew ?_ | refine blk_alloc ?_ _)); exact BK174.out) hb); have n4_ := Aside0.mk (below_step (by repeat (first | (with_reducible first | exact HB.out | apply below_alloc | apply pw_below_drewN | apply below_drew1 | refine below_set ?_ GE174.out) | exact HB.out)) hb); clear HO177; clear HO181; clear BK174; clear HB; have HO177 := n0_; have HO181 := n1_; have HO184 := n2_; have BK174 := n3_; have HB := n4_; clear n0_ n1_ n2_ n3_ n4_; clear hb ho23; obtain ⟨Ao24, co24, eo24⟩ := Kd.R_slice HO184.out; subst eo24) | (go_at_call 16; (with_reducible refine (impl_TideDay.calls k ((floatBits .quo .f64 (floatOfInt .f64 (wrap64 (t171 - 128))) (4616189618054758400 : Nat)).getD 0) _ _ y182 9 t185 t186 _ ?side1 ?side2 A9.out).mono ?_); (case side1 => repeat (first | exact (Kd.R_reads' HO184.out).2.2 | (with_reducible refine Kd.C_alloc ?_ _) | (with_reducible refine Kd.C_drewN ?_ _) | (with_reducible refine Kd.C_drew ?_))); (case side2 => exact (Kd.R_reads' HO184.out).2.1); rintro e w25 ⟨v187, rfl, ho0, hb⟩; have n0_ := Aside0.mk (Kd.R_below (by (with_reducible repeat (first | apply Kd.R_alloc | apply Kd.R_drewN | apply Kd.R_drew)); exact HO177.out) hb); have n1_ := Aside0.mk (Kd.R_elder' (by (with_reducible repeat (first | apply Kd.R_alloc | apply Kd.R_drewN | apply Kd.R_drew)); exact HO181.out) (Kd.R_base ho0) hb); have n2_ := Aside0.mk (Kd.R_below (by (with_reducible repeat (first | apply Kd.R_alloc | apply Kd.R_drewN | apply Kd.R_drew)); exact HO184.out) hb); have n3_ := Aside0.mk (Kd.R_lower (Kd.R_new' ho0 (Kd.R_lt (by (with_reducible repeat (first | apply Kd.R_alloc | apply Kd.R_drewN | apply Kd.R_drew)); exact HO181.out))) (below_size (by repeat (first | (with_reducible first | exact HB.out | apply below_alloc | apply pw_below_drewN | apply below_drew1 | refine below_set ?_ GE174.out) | exact HB.out)))); have n4_ := Aside0.mk (blk_below (g := gb174) (o := .cells #[.float .f64 (floatOfInt .f64 t172), .float .f64 (floatOfInt .f64 t173)] 28 (0, 0)) (by (with_reducible repeat (first | refine blk_drewN ?_ _ | refine blk_drew ?_ | refine blk_alloc ?_ _)); exact BK174.out) hb); have n5_ := Aside0.mk (below_step (by repeat (first | (with_reducible first | exact HB.out | apply below_alloc | apply pw_below_drewN | apply below_drew1 | refine below_set ?_ GE174.out) | exact HB.out)) hb); clear HO177; clear HO181; clear HO184; clear BK174; clear HB; have HO177 := n0_; have HO181 := n1_; have HO184 := n2_; have HO188 := n3_; have BK174 := n4_; have HB := n5_; clear n0_ n1_ n2_ n3_ n4_ n5_; (try clear hb); (try clear hb2); (try clear hk); (try clear hi); (try clear ho0))); go_upto_region 7 with (first | (go_at_call 7; (with_reducible refine (laws_big.calls _ _ l0 false _ ?side1 ?side2 A2.out).mono ?_); (case side1 => repeat (first | exact HR0.out | (with_reducible refine Kd.C_alloc ?_ _) | (with_reducible refine Kd.C_drewN ?_ _) | (with_reducible refine Kd.C_drew ?_))); (case side2 => exact HC0.out); rintro e w' ⟨rfl, ⟨nd, rfl⟩⟩; (try first | exact ⟨rfl, _, World.drewN_drewN _ _ _⟩ | exact ⟨rfl, _, Eq.trans (World.drewN_drewN _ _ _) (congrArg (World.drewN _) (Nat.add_assoc _ _ _))⟩)) | (go_at_call 8; (with_reducible refine (laws_at.calls _ _ l0 0 t171 _ ?side1 ?side2 A4.out).mono ?_); (case side1 => repeat (first | exact HR0.out | (with_reducible refine Kd.C_alloc ?_ _) | (with_reducible refine Kd.C_drewN ?_ _) | (with_reducible refine Kd.C_drew ?_))); (case side2 => exact HC0.out); rintro e w' ⟨rfl, ⟨nd, rfl⟩⟩; (try first | exact ⟨rfl, _, World.drewN_drewN _ _ _⟩ | exact ⟨rfl, _, Eq.trans (World.drewN_drewN _ _ _) (congrArg (World.drewN _) (Nat.add_assoc _ _ _))⟩); have hu11_ := Try.underlying3; have hv11_ := Try.underlying26; have hq12_ : (floatBits .quo .f64 (floatOfInt .f64 (wrap64 (t171 - 128))) (4616189618054758400 : Nat)).isSome = true := (by first | assumption | exact of_eq_true (by assumption) | (simp only [*])); have hf12_ := fun w_ : World => run_float_arith (P := Try.prog) (w := w_) .quo 26 .f64 (floatOfInt .f64 (wrap64 (t171 - 128))) (4616189618054758400 : Nat) ((floatBits .quo .f64 (floatOfInt .f64 (wrap64 (t171 - 128))) (4616189618054758400 : Nat)).getD 0) (opt_getD_ hq12_)) | (go_at_call 8; (with_reducible refine (laws_at.calls _ _ l0 1 t172 _ ?side1 ?side2 A6.out).mono ?_); (case side1 => repeat (first | exact HR0.out | (with_reducible refine Kd.C_alloc ?_ _) | (with_reducible refine Kd.C_drewN ?_ _) | (with_reducible refine Kd.C_drew ?_))); (case side2 => exact HC0.out); rintro e w' ⟨rfl, ⟨nd, rfl⟩⟩; (try first | exact ⟨rfl, _, World.drewN_drewN _ _ _⟩ | exact ⟨rfl, _, Eq.trans (World.drewN_drewN _ _ _) (congrArg (World.drewN _) (Nat.add_assoc _ _ _))⟩); have hu13_ := Try.underlying3; have hv13_ := Try.underlying26) | (go_at_call 8; (with_reducible refine (laws_at.calls _ _ l0 2 t173 _ ?side1 ?side2 A7.out).mono ?_); (case side1 => repeat (first | exact HR0.out | (with_reducible refine Kd.C_alloc ?_ _) | (with_reducible refine Kd.C_drewN ?_ _) | (with_reducible refine Kd.C_drew ?_))); (case side2 => exact HC0.out); rintro e w' ⟨rfl, ⟨nd, rfl⟩⟩; (try first | exact ⟨rfl, _, World.drewN_drewN _ _ _⟩ | exact ⟨rfl, _, Eq.trans (World.drewN_drewN _ _ _) (congrArg (World.drewN _) (Nat.add_assoc _ _ _))⟩); have hu14_ := Try.underlying3; have hv14_ := Try.underlying26) | ((with_reducible refine gate_dst (N := 4) rfl ?_); (try (refine gate_guard (by rfl) ?_; dsimp only)); refine box_event ?hg (N := 4) ?hd (cs := #[.float .f64 (0 : Nat), .float .f64 (0 : Nat)]) (t := 28) ?hr ?_; (case hd => rfl); (case hg => rfl); (case hr => first | (go_simp; done) | (go_simp; rfl)); intro gb174 hg w15 hbox hb; have n0_ := Aside0.mk (below_step (by repeat (first | (with_reducible first | exact HB.out | apply below_alloc | apply pw_below_drewN | apply below_drew1) | exact HB.out)) hb); have n1_ := Aside0.mk (hbox); have n2_ := Aside0.mk ((by rw [hg]; exact (below_size (by repeat (first | (with_reducible first | exact HB.out | apply below_alloc | apply pw_below_drewN | apply below_drew1) | exact HB.out))) : w.heap.size ≤ gb174)); have n3_ := Aside0.mk ((by rw [hg]; exact (below_size (by repeat (first | (with_reducible first | exact HB.out | apply below_alloc | apply pw_below_drewN | apply below_drew1) | exact HB.out))) : w.heap.size ≤ gb174)); clear HB; have HB := n0_; have BK174 := n1_; have GW174 := n2_; have GE174 := n3_; clear n0_ n1_ n2_ n3_; clear hb hbox hg; have hcz16_0 : w15.cell? ⟨gb174, 0, none⟩ = some (.float .f64 (0 : Nat)) := (blk_cell BK174.out 0).trans rfl; have hcz16_1 : w15.cell? ⟨gb174, 1, none⟩ = some (.float .f64 (0 : Nat)) := (blk_cell BK174.out 1).trans rfl; have hfz16_0 := blk_frozen BK174.out 0; have hfz16_1 := blk_frozen BK174.out 1) | ((with_reducible refine gate_dst (N := 36) rfl ?_); (try (refine gate_guard (by rfl) ?_; dsimp only)); refine Kd.R_lit k42 _ 42 ?hg (N := 36) ?hd (xs := ([(⟨(⟨floatOfInt .f64 t172, floatOfInt .f64 t173⟩ : S28), (⟨(4607182418800017408 : Nat), (0 : Nat)⟩ : S28)⟩ : S42), (⟨(⟨(0 : Nat), (0 : Nat)⟩ : S28), (⟨(0 : Nat), (0 : Nat)⟩ : S28)⟩ : S42)] : List (S42))) (inner := [.float .f64 (floatOfInt .f64 t172), .float .f64 (floatOfInt .f64 t173), .float .f64 (4607182418800017408 : Nat), .float .f64 (0 : Nat), .float .f64 (0 : Nat), .float .f64 (0 : Nat), .float .f64 (0 : Nat), .float .f64 (0 : Nat)]) (ok := fun _ => True) (okp := fun _ => True) ?hr ?hp (fun _ hk => hk) trivial (Below.refl _ _) (Nat.le_refl _) (by simp) ?_; (case hd => rfl); (case hg => rfl); (case hr => first | (go_simp; done) | (go_simp; rfl)); (case hp => exact (Reps.c4 (show Kd.M k42 _ _ _ (⟨(⟨floatOfInt .f64 t172, floatOfInt .f64 t173⟩ : S28), (⟨(4607182418800017408 : Nat), (0 : Nat)⟩ : S28)⟩ : S42) [.float .f64 (floatOfInt .f64 t172), .float .f64 (floatOfInt .f64 t173), .float .f64 (4607182418800017408 : Nat), .float .f64 (0 : Nat)] from (k42_mkM _ _ _ (⟨(⟨floatOfInt .f64 t172, floatOfInt .f64 t173⟩ : S28), (⟨(4607182418800017408 : Nat), (0 : Nat)⟩ : S28)⟩ : S42) )) (Reps.c4 (show Kd.M k42 _ _ _ (⟨(⟨(0 : Nat), (0 : Nat)⟩ : S28), (⟨(0 : Nat), (0 : Nat)⟩ : S28)⟩ : S42) [.float .f64 (0 : Nat), .float .f64 (0 : Nat), .float .f64 (0 : Nat), .float .f64 (0 : Nat)] from (k42_mkM _ _ _ (⟨(⟨(0 : Nat), (0 : Nat)⟩ : S28), (⟨(0 : Nat), (0 : Nat)⟩ : S28)⟩ : S42) )) (Reps.none _ _)))); intro v176 w17 ho18 hb hg_ hnew_; clear hg_ hnew_; (first | rw [← Ny175.out] at ho18 | (simp only [Int.reduceToNat] at ho18; rw [← Ny175.out] at ho18)); have n0_ := Aside0.mk (Kd.R_lower ho18 (below_size (by repeat (first | (with_reducible first | exact HB.out | apply below_alloc | apply pw_below_drewN | apply below_drew1 | refine below_set ?_ GE174.out) | exact HB.out)))); have n1_ := Aside0.mk (blk_below (g := gb174) (o := .cells #[.float .f64 (floatOfInt .f64 t172), .float .f64 (floatOfInt .f64 t173)] 28 (0, 0)) (by (with_reducible repeat (first | refine blk_drewN ?_ _ | refine blk_drew ?_ | refine blk_alloc ?_ _)); refine blk_put (cs := #[.float .f64 (floatOfInt .f64 t172), .float .f64 (0 : Nat)]) ?_ 1 _ rfl; (with_reducible repeat (first | refine blk_drewN ?_ _ | refine blk_drew ?_ | refine blk_alloc ?_ _)); refine blk_put (cs := #[.float .f64 (0 : Nat), .float .f64 (0 : Nat)]) ?_ 0 _ rfl; (with_reducible repeat (first | refine blk_drewN ?_ _ | refine blk_drew ?_ | refine blk_alloc ?_ _)); exact BK174.out) hb); have n2_ := Aside0.mk (below_step (by repeat (first | (with_reducible first | exact HB.out | apply below_alloc | apply pw_below_drewN | apply below_drew1 | refine below_set ?_ GE174.out) | exact HB.out)) hb); clear BK174; clear HB; have HO177 := n0_; have BK174 := n1_; have HB := n2_; clear n0_ n1_ n2_; clear hb ho18; obtain ⟨Ao19, co19, eo19⟩ := Kd.R_slice HO177.out; subst eo19) | (go_at_call 16; (with_reducible refine (impl_TideDay.calls k ((floatBits .quo .f64 (floatOfInt .f64 (wrap64 (t171 - 128))) (4616189618054758400 : Nat)).getD 0) _ _ y175 9 t178 t179 _ ?side1 ?side2 A8.out).mono ?_); (case side1 => repeat (first | exact (Kd.R_reads' HO177.out).2.2 | (with_reducible refine Kd.C_alloc ?_ _) | (with_reducible refine Kd.C_drewN ?_ _) | (with_reducible refine Kd.C_drew ?_))); (case side2 => exact (Kd.R_reads' HO177.out).2.1); rintro e w20 ⟨v180, rfl, ho0, hb⟩; have n0_ := Aside0.mk (Kd.R_below (by (with_reducible repeat (first | apply Kd.R_alloc | apply Kd.R_drewN | apply Kd.R_drew)); exact HO177.out) hb); have n1_ := Aside0.mk (Kd.R_lower ho0 (below_size (by repeat (first | (with_reducible first | exact HB.out | apply below_alloc | apply pw_below_drewN | apply below_drew1 | refine below_set ?_ GE174.out) | exact HB.out)))); have n2_ := Aside0.mk (blk_below (g := gb174) (o := .cells #[.float .f64 (floatOfInt .f64 t172), .float .f64 (floatOfInt .f64 t173)] 28 (0, 0)) (by (with_reducible repeat (first | refine blk_drewN ?_ _ | refine blk_drew ?_ | refine blk_alloc ?_ _)); exact BK174.out) hb); have n3_ := Aside0.mk (below_step (by repeat (first | (with_reducible first | exact HB.out | apply below_alloc | apply pw_below_drewN | apply below_drew1 | refine below_set ?_ GE174.out) | exact HB.out)) hb); clear HO177; clear BK174; clear HB; have HO177 := n0_; have HO181 := n1_; have BK174 := n2_; have HB := n3_; clear n0_ n1_ n2_ n3_; (try clear hb); (try clear hb2); (try clear hk); (try clear hi); (try clear ho0); have hcz21_0 : w20.cell? ⟨gb174, 0, none⟩ = some (.float .f64 (floatOfInt .f64 t172)) := (blk_cell BK174.out 0).trans rfl; have hcz21_1 : w20.cell? ⟨gb174, 1, none⟩ = some (.float .f64 (floatOfInt .f64 t173)) := (blk_cell BK174.out 1).trans rfl; have hfz21_0 := blk_frozen BK174.out 0; have hfz21_1 := blk_frozen BK174.out 1) | ((with_reducible refine gate_dst (N := 45) rfl ?_); (try (refine gate_guard (by rfl) ?_; dsimp only)); refine Kd.R_lit k42 _ 42 ?hg (N := 45) ?hd (xs := ([(⟨(⟨floatOfInt .f64 t172, floatOfInt .f64 t173⟩ : S28), (⟨(0 : Nat), (4607182418800017408 : Nat)⟩ : S28)⟩ : S42)] : List (S42))) (inner := [.float .f64 (floatOfInt .f64 t172), .float .f64 (floatOfInt .f64 t173), .float .f64 (0 : Nat), .float .f64 (4607182418800017408 : Nat)]) (ok := fun _ => True) (okp := fun _ => True) ?hr ?hp (fun _ hk => hk) trivial (Below.refl _ _) (Nat.le_refl _) (by simp) ?_; (case hd => rfl); (case hg => rfl); (case hr => first | (go_simp; done) | (go_simp; rfl)); (case hp => exact (Reps.c4 (show Kd.M k42 _ _ _ (⟨(⟨floatOfInt .f64 t172, floatOfInt .f64 t173⟩ : S28), (⟨(0 : Nat), (4607182418800017408 : Nat)⟩ : S28)⟩ : S42) [.float .f64 (floatOfInt .f64 t172), .float .f64 (floatOfInt .f64 t173), .float .f64 (0 : Nat), .float .f64 (4607182418800017408 : Nat)] from (k42_mkM _ _ _ (⟨(⟨floatOfInt .f64 t172, floatOfInt .f64 t173⟩ : S28), (⟨(0 : Nat), (4607182418800017408 : Nat)⟩ : S28)⟩ : S42) )) (Reps.none _ _))); intro v183 w22 ho23 hb hg_ hnew_; clear hg_ hnew_; (first | rw [← Ny182.out] at ho23 | (simp only [Int.reduceToNat] at ho23; rw [← Ny182.out] at ho23)); have n0_ := Aside0.mk (Kd.R_elder' (by (with_reducible repeat (first | apply Kd.R_alloc | apply Kd.R_drewN | apply Kd.R_drew)); exact HO177.out) (Kd.R_base ho23) hb); have n1_ := Aside0.mk (Kd.R_below (by (with_reducible repeat (first | apply Kd.R_alloc | apply Kd.R_drewN | apply Kd.R_drew)); exact HO181.out) hb); have n2_ := Aside0.mk (Kd.R_lower (Kd.R_new' ho23 (Kd.R_lt (by (with_reducible repeat (first | apply Kd.R_alloc | apply Kd.R_drewN | apply Kd.R_drew)); exact HO177.out))) (below_size (by repeat (first | (with_reducible first | exact HB.out | apply below_alloc | apply pw_below_drewN | apply below_drew1 | refine below_set ?_ GE174.out) | exact HB.out)))); have n3_ := Aside0.mk (blk_below (g := gb174) (o := .cells #[.float .f64 (floatOfInt .f64 t172), .float .f64 (floatOfInt .f64 t173)] 28 (0, 0)) (by (with_reducible repeat (first | refine blk_drewN ?_ _ | refine blk_drew ?_ | refine blk_alloc ?_ _)); exact BK174.out) hb); have n4_ := Aside0.mk (below_step (by repeat (first | (with_reducible first | exact HB.out | apply below_alloc | apply pw_below_drewN | apply below_drew1 | refine below_set ?_ GE174.out) | exact HB.out)) hb); clear HO177; clear HO181; clear BK174; clear HB; have HO177 := n0_; have HO181 := n1_; have HO184 := n2_; have BK174 := n3_; have HB := n4_; clear n0_ n1_ n2_ n3_ n4_; clear hb ho23; obtain ⟨Ao24, co24, eo24⟩ := Kd.R_slice HO184.out; subst eo24) | (go_at_call 16; (with_reducible refine (impl_TideDay.calls k ((floatBits .quo .f64 (floatOfInt .f64 (wrap64 (t171 - 128))) (4616189618054758400 : Nat)).getD 0) _ _ y182 9 t185 t186 _ ?side1 ?side2 A9.out).mono ?_); (case side1 => repeat (first | exact (Kd.R_reads' HO184.out).2.2 | (with_reducible refine Kd.C_alloc ?_ _) | (with_reducible refine Kd.C_drewN ?_ _) | (with_reducible refine Kd.C_drew ?_))); (case side2 => exact (Kd.R_reads' HO184.out).2.1); rintro e w25 ⟨v187, rfl, ho0, hb⟩; have n0_ := Aside0.mk (Kd.R_below (by (with_reducible repeat (first | apply Kd.R_alloc | apply Kd.R_drewN | apply Kd.R_drew)); exact HO177.out) hb); have n1_ := Aside0.mk (Kd.R_elder' (by (with_reducible repeat (first | apply Kd.R_alloc | apply Kd.R_drewN | apply Kd.R_drew)); exact HO181.out) (Kd.R_base ho0) hb); have n2_ := Aside0.mk (Kd.R_below (by (with_reducible repeat (first | apply Kd.R_alloc | apply Kd.R_drewN | apply Kd.R_drew)); exact HO184.out) hb); have n3_ := Aside0.mk (Kd.R_lower (Kd.R_new' ho0 (Kd.R_lt (by (with_reducible repeat (first | apply Kd.R_alloc | apply Kd.R_drewN | apply Kd.R_drew)); exact HO181.out))) (below_size (by repeat (first | (with_reducible first | exact HB.out | apply below_alloc | apply pw_below_drewN | apply below_drew1 | refine below_set ?_ GE174.out) | exact HB.out)))); have n4_ := Aside0.mk (blk_below (g := gb174) (o := .cells #[.float .f64 (floatOfInt .f64 t172), .float .f64 (floatOfInt .f64 t173)] 28 (0, 0)) (by (with_reducible repeat (first | refine blk_drewN ?_ _ | refine blk_drew ?_ | refine blk_alloc ?_ _)); exact BK174.out) hb); have n5_ := Aside0.mk (below_step (by repeat (first | (with_reducible first | exact HB.out | apply below_alloc | apply pw_below_drewN | apply below_drew1 | refine below_set ?_ GE174.out) | exact HB.out)) hb); clear HO177; clear HO181; clear HO184; clear BK174; clear HB; have HO177 := n0_; have HO181 := n1_; have HO184 := n2_; have HO188 := n3_; have BK174 := n4_; have HB := n5_; clear n0_ n1_ n2_ n3_ n4_ n5_; (try clear hb); (try clear hb2); (try clear hk); (try clear hi); (try clear ho0))))
      (try simp only [Act.put, List.setIfInBounds_toArray, List.set_cons_zero, List.set_cons_succ])
      go_cut [64] (fun v64 wc => ∃ (kq : Nat) (x64_9 : Bool), v64 = .bool x64_9 ∧ Aside0 (laws_FnTides.j0 kq ((floatBits .quo .f64 (floatOfInt .f64 (wrap64 (t171 - 128))) (4616189618054758400 : Nat)).getD 0) t178 t185 x64_9 (floatOfInt .f64 t172) (floatOfInt .f64 t173) = some r) ∧ Aside0 (kq ≤ k) ∧ Aside0 (Kd.R Kd.flt 26 wc w.heap.size (fun k_ => some k_ ≠ (v187 : Value).ownBlock) v180 t178) ∧ Aside0 (Kd.R Kd.flt 26 wc w.heap.size (fun k_ => some k_ ≠ (v180 : Value).ownBlock) v187 t185) ∧ Aside0 (wc.heap[gb174]? = some (.cells #[.float .f64 (floatOfInt .f64 t172), .float .f64 (floatOfInt .f64 t173)] 28 (0, 0))) ∧ Aside0 (Below w.heap.size w wc))
      case first =>
        have H := HC10.out
        clear HC10
        by_cases c26 : t179 = true
        · subst c26
          have H1 : (if t186 = true then (if (t178.length : Int) = 9 then (laws_FnTides.j0 k ((floatBits .quo .f64 (floatOfInt .f64 (wrap64 (t171 - 128))) (4616189618054758400 : Nat)).getD 0) t178 t185 ((t185.length : Int) != 9) (floatOfInt .f64 t172) (floatOfInt .f64 t173)) else (laws_FnTides.j0 k ((floatBits .quo .f64 (floatOfInt .f64 (wrap64 (t171 - 128))) (4616189618054758400 : Nat)).getD 0) t178 t185 true (floatOfInt .f64 t172) (floatOfInt .f64 t173))) else (laws_FnTides.j0 k ((floatBits .quo .f64 (floatOfInt .f64 (wrap64 (t171 - 128))) (4616189618054758400 : Nat)).getD 0) t178 t185 true (floatOfInt .f64 t172) (floatOfInt .f64 t173))) = some r := by rw [if_pos rfl] at H; exact H
          clear H
          have H := H1
          clear H1
          by_cases c27 : t186 = true
          · subst c27
            have H1 : (if (t178.length : Int) = 9 then (laws_FnTides.j0 k ((floatBits .quo .f64 (floatOfInt .f64 (wrap64 (t171 - 128))) (4616189618054758400 : Nat)).getD 0) t178 t185 ((t185.length : Int) != 9) (floatOfInt .f64 t172) (floatOfInt .f64 t173)) else (laws_FnTides.j0 k ((floatBits .quo .f64 (floatOfInt .f64 (wrap64 (t171 - 128))) (4616189618054758400 : Nat)).getD 0) t178 t185 true (floatOfInt .f64 t172) (floatOfInt .f64 t173))) = some r := by rw [if_pos rfl] at H; exact H
            clear H
            have H := H1
            clear H1
            by_cases c28 : (t178.length : Int) = 9
            · rw [if_pos c28] at H
              have c28b0 : ((t178.length : Int) == 9) = true := beq_iff_eq.mpr c28
              have c28b1 : ((t178.length : Int) != 9) = false := bne_eq_false_iff_eq.mpr c28
              clear c28
              (first | rw [c28b0] | (simp only [i64_w, i32_w]; rw [c28b0]) | skip)
              have H' := Aside0.mk H
              clear H
              obtain ⟨Ao29, co29, eo29⟩ := Kd.R_slice HO181.out
              subst eo29
              obtain ⟨Ao30, co30, eo30⟩ := Kd.R_slice HO188.out
              subst eo30
              go_wp2
              repeat (go_quiet (fail); try go_wp2)
              go_meet
              case rel => exact ⟨_, (((t185.length : Int) != 9)), (by first | rfl | (simp; done) | (simp [*]; done) | (simp [wrap64]; done)), H', ⟨by first | omega | exact Nat.le_refl _⟩, ⟨by (with_reducible repeat (first | apply Kd.R_alloc | apply Kd.R_drewN | apply Kd.R_drew)); exact Kd.R_mono HO181.out (fun _ hk => hk.2)⟩, ⟨by (with_reducible repeat (first | apply Kd.R_alloc | apply Kd.R_drewN | apply Kd.R_drew)); exact Kd.R_mono HO188.out (fun _ hk => hk.2)⟩, ⟨by (with_reducible repeat (first | refine blk_drewN ?_ _ | refine blk_drew ?_ | refine blk_alloc ?_ _)); exact BK174.out⟩, ⟨by repeat (first | (with_reducible first | exact HB.out | apply below_alloc | apply pw_below_drewN | apply below_drew1 | refine below_set ?_ GE174.out) | exact HB.out)⟩⟩
            · rw [if_neg c28] at H
              have c28b0 : ((t178.length : Int) == 9) = false := beq_eq_false_iff_ne.mpr c28
              have c28b1 : ((t178.length : Int) != 9) = true := bne_iff_ne.mpr c28
              (first | rw [c28b0] | (simp only [i64_w, i32_w]; rw [c28b0]) | skip)
              have H' := Aside0.mk H
              clear H
              obtain ⟨Ao31, co31, eo31⟩ := Kd.R_slice HO181.out
              subst eo31
              go_wp2
              repeat (go_quiet (fail); try go_wp2)
              go_meet
              case rel => exact ⟨_, (true), (by first | rfl | (simp; done) | (simp [*]; done) | (simp [wrap64]; done)), H', ⟨by first | omega | exact Nat.le_refl _⟩, ⟨by (with_reducible repeat (first | apply Kd.R_alloc | apply Kd.R_drewN | apply Kd.R_drew)); exact Kd.R_mono HO181.out (fun _ hk => hk.2)⟩, ⟨by (with_reducible repeat (first | apply Kd.R_alloc | apply Kd.R_drewN | apply Kd.R_drew)); exact Kd.R_mono HO188.out (fun _ hk => hk.2)⟩, ⟨by (with_reducible repeat (first | refine blk_drewN ?_ _ | refine blk_drew ?_ | refine blk_alloc ?_ _)); exact BK174.out⟩, ⟨by repeat (first | (with_reducible first | exact HB.out | apply below_alloc | apply pw_below_drewN | apply below_drew1 | refine below_set ?_ GE174.out) | exact HB.out)⟩⟩
          · replace c27 := Bool.eq_false_iff.mpr c27
            subst c27
            have H1 : (laws_FnTides.j0 k ((floatBits .quo .f64 (floatOfInt .f64 (wrap64 (t171 - 128))) (4616189618054758400 : Nat)).getD 0) t178 t185 true (floatOfInt .f64 t172) (floatOfInt .f64 t173)) = some r := by rw [if_neg (show ¬ (false = true) by decide)] at H; exact H
            clear H
            have H := H1
            clear H1
            have H' := Aside0.mk H
            clear H
            go_wp2
            repeat (go_quiet (fail); try go_wp2)
            go_meet
            case rel => exact ⟨_, (true), (by first | rfl | (simp; done) | (simp [*]; done) | (simp [wrap64]; done)), H', ⟨by first | omega | exact Nat.le_refl _⟩, ⟨by (with_reducible repeat (first | apply Kd.R_alloc | apply Kd.R_drewN | apply Kd.R_drew)); exact Kd.R_mono HO181.out (fun _ hk => hk.2)⟩, ⟨by (with_reducible repeat (first | apply Kd.R_alloc | apply Kd.R_drewN | apply Kd.R_drew)); exact Kd.R_mono HO188.out (fun _ hk => hk.2)⟩, ⟨by (with_reducible repeat (first | refine blk_drewN ?_ _ | refine blk_drew ?_ | refine blk_alloc ?_ _)); exact BK174.out⟩, ⟨by repeat (first | (with_reducible first | exact HB.out | apply below_alloc | apply pw_below_drewN | apply below_drew1 | refine below_set ?_ GE174.out) | exact HB.out)⟩⟩
        · replace c26 := Bool.eq_false_iff.mpr c26
          subst c26
          have H1 : (laws_FnTides.j0 k ((floatBits .quo .f64 (floatOfInt .f64 (wrap64 (t171 - 128))) (4616189618054758400 : Nat)).getD 0) t178 t185 true (floatOfInt .f64 t172) (floatOfInt .f64 t173)) = some r := by rw [if_neg (show ¬ (false = true) by decide)] at H; exact H
          clear H
          have H := H1
          clear H1
          have H' := Aside0.mk H
          clear H
          go_wp2
          repeat (go_quiet (fail); try go_wp2)
          go_meet
          case rel => exact ⟨_, (true), (by first | rfl | (simp; done) | (simp [*]; done) | (simp [wrap64]; done)), H', ⟨by first | omega | exact Nat.le_refl _⟩, ⟨by (with_reducible repeat (first | apply Kd.R_alloc | apply Kd.R_drewN | apply Kd.R_drew)); exact Kd.R_mono HO181.out (fun _ hk => hk.2)⟩, ⟨by (with_reducible repeat (first | apply Kd.R_alloc | apply Kd.R_drewN | apply Kd.R_drew)); exact Kd.R_mono HO188.out (fun _ hk => hk.2)⟩, ⟨by (with_reducible repeat (first | refine blk_drewN ?_ _ | refine blk_drew ?_ | refine blk_alloc ?_ _)); exact BK174.out⟩, ⟨by repeat (first | (with_reducible first | exact HB.out | apply below_alloc | apply pw_below_drewN | apply below_drew1 | refine below_set ?_ GE174.out) | exact HB.out)⟩⟩
      case rest =>
        clear HC10
        try clear q1
        try clear hf1
        try clear c2
        try clear p2
        try clear c3
        try clear c4
        try clear c5
        try clear c5b0
        try clear c5b1
        try clear p6
        try clear q12
        try clear hf12
        try clear c26
        try clear c27
        try clear c28
        try clear c28b0
        try clear c28b1
        try clear hcz16_0
        try clear hcz16_1
        try clear hcz21_0
        try clear hcz21_1
        try clear hfz16_0
        try clear hfz16_1
        try clear hfz21_0
        try clear hfz21_1
        obtain ⟨kq, x64_9, rfl, HA, HJ9, HO_5, HO_7, BK174, HB⟩ := hcut
        cases kq with
        | zero => exact absurd HA.out (by simp [laws_FnTides.j0])
        | succ kj9 =>
          have H := HA.out
          clear HA
          simp only [laws_FnTides.j0] at H
          by_cases c32 : x64_9 = true
          · subst c32
            have H1 : (some false) = some r := by rw [if_pos rfl] at H; exact H
            clear H
            have H := H1
            clear H1
            obtain rfl := Option.some.inj H
            go_wp2
            repeat (go_quiet (fail); try go_wp2)
            go_ret
            exact ⟨by first | rfl | (simp [errW_none, errW_some] <;> rfl) | (simp [*, errW_none, errW_some] <;> rfl), by repeat (first | (with_reducible first | exact HB.out | apply below_alloc | apply pw_below_drewN | apply below_drew1 | refine below_set ?_ GE174.out) | exact HB.out)⟩
          · replace c32 := Bool.eq_false_iff.mpr c32
            subst c32
            have H1 : (laws_FnTides.l0 kj9 ((floatBits .quo .f64 (floatOfInt .f64 (wrap64 (t171 - 128))) (4616189618054758400 : Nat)).getD 0) t178 t185 0 (floatOfInt .f64 t172) (floatOfInt .f64 t173)) = some r := by rw [if_neg (show ¬ (false = true) by decide)] at H; exact H
            clear H
            have H := H1
            clear H1
            have H' := Aside0.mk H
            clear H
            go_wp2
            repeat (go_quiet (fail); try go_wp2)
            go_loopg [9] kj9 (fun kq v9 w' => ∃ (x9_2 : Int), v9 = .int .i64 x9_2 ∧ Aside0 (laws_FnTides.l0 kq ((floatBits .quo .f64 (floatOfInt .f64 (wrap64 (t171 - 128))) (4616189618054758400 : Nat)).getD 0) t178 t185 x9_2 (floatOfInt .f64 t172) (floatOfInt .f64 t173) = some r) ∧ Aside0 (kq ≤ kj9) ∧ Aside0 (Kd.R Kd.flt 26 w' w.heap.size (fun k_ => some k_ ≠ (v187 : Value).ownBlock) v180 t178) ∧ Aside0 (Kd.R Kd.flt 26 w' w.heap.size (fun k_ => some k_ ≠ (v180 : Value).ownBlock) v187 t185) ∧ Aside0 (w'.heap[gb174]? = some (.cells #[.float .f64 (floatOfInt .f64 t172), .float .f64 (floatOfInt .f64 t173)] 28 (0, 0))) ∧ Aside0 (Below w.heap.size w w'))
            case atStart => exact ⟨(0), (by first | rfl | (simp; done) | (simp [*]; done) | (simp [wrap64]; done)), H', ⟨Nat.le_refl _⟩, ⟨by (with_reducible repeat (first | apply Kd.R_alloc | apply Kd.R_drewN | apply Kd.R_drew)); exact HO_5.out⟩, ⟨by (with_reducible repeat (first | apply Kd.R_alloc | apply Kd.R_drewN | apply Kd.R_drew)); exact HO_7.out⟩, ⟨by (with_reducible repeat (first | refine blk_drewN ?_ _ | refine blk_drew ?_ | refine blk_alloc ?_ _)); exact BK174.out⟩, ⟨by repeat (first | (with_reducible first | exact HB.out | apply below_alloc | apply pw_below_drewN | apply below_drew1 | refine below_set ?_ GE174.out) | exact HB.out)⟩⟩
            case round =>
              clear H'
              try clear q1
              try clear hf1
              try clear c2
              try clear p2
              try clear c3
              try clear c4
              try clear c5
              try clear c5b0
              try clear c5b1
              try clear p6
              try clear q12
              try clear hf12
              try clear c26
              try clear c27
              try clear c28
              try clear c28b0
              try clear c28b1
              try clear c32
              try clear hcz16_0
              try clear hcz16_1
              try clear hcz21_0
              try clear hcz21_1
              try clear hfz16_0
              try clear hfz16_1
              try clear hfz21_0
              try clear hfz21_1
              try clear p2
              try clear p6
              try clear q1
              try clear q12
              obtain ⟨x9_2, rfl, HA, HK2, HO_5, HO_7, BK174, HB⟩ := hrel
              cases gk with
              | zero => exact absurd HA.out (by simp [laws_FnTides.l0])
              | succ k2 =>
                have H := HA.out
                clear HA
                simp only [laws_FnTides.l0] at H
                by_cases c33 : x9_2 < 9
                · rw [if_pos c33] at H
                  have c33b0 : decide (x9_2 < 9) = true := decide_eq_true c33
                  clear c33
                  by_cases c34 : 0 ≤ x9_2
                  · rw [if_pos c34] at H
                    have c34b0 : decide (0 ≤ x9_2) = true := decide_eq_true c34
                    clear c34
                    by_cases c35 : x9_2 < (t178.length : Int)
                    · rw [if_pos c35] at H
                      have c35b0 : decide (x9_2 < (t178.length : Int)) = true := decide_eq_true c35
                      clear c35
                      by_cases c36 : (floatBits .add .f64 ((floatBits .quo .f64 (floatOfInt .f64 (wrap64 (t171 - 128))) (4616189618054758400 : Nat)).getD 0) (floatOfInt .f64 t172)).isSome = true
                      · rw [if_pos c36] at H
                        have c36b0 := eq_true c36
                        have c36b1 : decide ((floatBits .add .f64 ((floatBits .quo .f64 (floatOfInt .f64 (wrap64 (t171 - 128))) (4616189618054758400 : Nat)).getD 0) (floatOfInt .f64 t172)).isSome = true) = true := decide_eq_true c36
                        clear c36
                        by_cases c37 : (FloatKind.f64.format.order (rdOf (0 : Nat) t178 x9_2) ((floatBits .add .f64 ((floatBits .quo .f64 (floatOfInt .f64 (wrap64 (t171 - 128))) (4616189618054758400 : Nat)).getD 0) (floatOfInt .f64 t172)).getD 0) != some .eq) = true
                        · rw [if_pos c37] at H
                          have c37b0 : (FloatKind.f64.format.order (rdOf (0 : Nat) t178 x9_2) ((floatBits .add .f64 ((floatBits .quo .f64 (floatOfInt .f64 (wrap64 (t171 - 128))) (4616189618054758400 : Nat)).getD 0) (floatOfInt .f64 t172)).getD 0) != some .eq) = true := c37
                          (try (have c37b1 : decide (FloatKind.f64.format.order (rdOf (0 : Nat) t178 x9_2) ((floatBits .add .f64 ((floatBits .quo .f64 (floatOfInt .f64 (wrap64 (t171 - 128))) (4616189618054758400 : Nat)).getD 0) (floatOfInt .f64 t172)).getD 0) = some .eq) = false := by simpa using c37))
                          (try (have c37b2 : (FloatKind.f64.format.order (rdOf (0 : Nat) t178 x9_2) ((floatBits .add .f64 ((floatBits .quo .f64 (floatOfInt .f64 (wrap64 (t171 - 128))) (4616189618054758400 : Nat)).getD 0) (floatOfInt .f64 t172)).getD 0) == some .eq) = false := by simpa using c37))
                          (try (have c37b3 : ¬ (FloatKind.f64.format.order (rdOf (0 : Nat) t178 x9_2) ((floatBits .add .f64 ((floatBits .quo .f64 (floatOfInt .f64 (wrap64 (t171 - 128))) (4616189618054758400 : Nat)).getD 0) (floatOfInt .f64 t172)).getD 0) = some .eq) := by simpa using c37))
                          clear c37
                          obtain rfl := Option.some.inj H
                          obtain ⟨Ao38, co38, eo38⟩ := Kd.R_slice HO_5.out
                          subst eo38
                          have p189 : 0 ≤ (x9_2 : Int) := of_decide_eq_true (by first | (with_reducible assumption) | assumption)
                          have q189 : x9_2 < (t178.length : Int) := of_decide_eq_true (by first | (with_reducible assumption) | assumption)
                          obtain ⟨ad189, e189, hx189_0⟩ := Kd.at_flt (Kd.R_reads' HO_5.out).2.2 x9_2 p189 q189
                          cases e189
                          replace p189 := eq_true p189
                          replace q189 := eq_true q189
                          have hcz39_0 : wr.cell? ⟨gb174, 0, none⟩ = some (.float .f64 (floatOfInt .f64 t172)) := (blk_cell BK174.out 0).trans rfl
                          have hcz39_1 : wr.cell? ⟨gb174, 1, none⟩ = some (.float .f64 (floatOfInt .f64 t173)) := (blk_cell BK174.out 1).trans rfl
                          have hfz39_0 := blk_frozen BK174.out 0
                          have hfz39_1 := blk_frozen BK174.out 1
                          have hq40_ : (floatBits .add .f64 ((floatBits .quo .f64 (floatOfInt .f64 (wrap64 (t171 - 128))) (4616189618054758400 : Nat)).getD 0) (floatOfInt .f64 t172)).isSome = true := (by first | assumption | exact of_eq_true (by assumption) | (simp only [*]))
                          have hf40_ := fun w_ : World => run_float_arith (P := Try.prog) (w := w_) .add 26 .f64 ((floatBits .quo .f64 (floatOfInt .f64 (wrap64 (t171 - 128))) (4616189618054758400 : Nat)).getD 0) (floatOfInt .f64 t172) ((floatBits .add .f64 ((floatBits .quo .f64 (floatOfInt .f64 (wrap64 (t171 - 128))) (4616189618054758400 : Nat)).getD 0) (floatOfInt .f64 t172)).getD 0) (opt_getD_ hq40_)
                          go_wp2
                          repeat (go_quiet (fail); try go_wp2)
                          go_ret
                          exact ⟨by first | rfl | (simp [errW_none, errW_some] <;> rfl) | (simp [*, errW_none, errW_some] <;> rfl), by repeat (first | (with_reducible first | exact HB.out | apply below_alloc | apply pw_below_drewN | apply below_drew1 | refine below_set ?_ GE174.out) | exact HB.out)⟩
                        · rw [if_neg c37] at H
                          have c37b0 : (FloatKind.f64.format.order (rdOf (0 : Nat) t178 x9_2) ((floatBits .add .f64 ((floatBits .quo .f64 (floatOfInt .f64 (wrap64 (t171 - 128))) (4616189618054758400 : Nat)).getD 0) (floatOfInt .f64 t172)).getD 0) != some .eq) = false := by simpa using c37
                          (try (have c37b1 : decide (FloatKind.f64.format.order (rdOf (0 : Nat) t178 x9_2) ((floatBits .add .f64 ((floatBits .quo .f64 (floatOfInt .f64 (wrap64 (t171 - 128))) (4616189618054758400 : Nat)).getD 0) (floatOfInt .f64 t172)).getD 0) = some .eq) = true := by simpa using c37))
                          (try (have c37b2 : (FloatKind.f64.format.order (rdOf (0 : Nat) t178 x9_2) ((floatBits .add .f64 ((floatBits .quo .f64 (floatOfInt .f64 (wrap64 (t171 - 128))) (4616189618054758400 : Nat)).getD 0) (floatOfInt .f64 t172)).getD 0) == some .eq) = true := by simpa using c37))
                          clear c37
                          by_cases c41 : x9_2 < (t185.length : Int)
                          · rw [if_pos c41] at H
                            have c41b0 : decide (x9_2 < (t185.length : Int)) = true := decide_eq_true c41
                            clear c41
                            obtain ⟨ji42, hji42⟩ : ∃ j_ : Int, (Int.tmod x9_2 4) = j_ := ⟨_, rfl⟩
                            replace H : (if 0 ≤ (ji42) then (if (ji42) < (t185.length : Int) then (if (FloatKind.f64.format.order (rdOf (0 : Nat) t185 x9_2) (rdOf (0 : Nat) t185 (ji42)) != some .eq) = true then (some false) else (if 0 ≤ (Int.tmod (wrap64 (x9_2 + 2)) 4) then (if (Int.tmod (wrap64 (x9_2 + 2)) 4) < (t185.length : Int) then (if (floatBits .add .f64 (rdOf (0 : Nat) t185 x9_2) (rdOf (0 : Nat) t185 (Int.tmod (wrap64 (x9_2 + 2)) 4))).isSome = true then (if (floatBits .mul .f64 (4611686018427387904 : Nat) ((floatBits .quo .f64 (floatOfInt .f64 (wrap64 (t171 - 128))) (4616189618054758400 : Nat)).getD 0)).isSome = true then (if (FloatKind.f64.format.order ((floatBits .add .f64 (rdOf (0 : Nat) t185 x9_2) (rdOf (0 : Nat) t185 (Int.tmod (wrap64 (x9_2 + 2)) 4))).getD 0) ((floatBits .mul .f64 (4611686018427387904 : Nat) ((floatBits .quo .f64 (floatOfInt .f64 (wrap64 (t171 - 128))) (4616189618054758400 : Nat)).getD 0)).getD 0) != some .eq) = true then (some false) else (laws_FnTides.l0 k2 ((floatBits .quo .f64 (floatOfInt .f64 (wrap64 (t171 - 128))) (4616189618054758400 : Nat)).getD 0) t178 t185 (wrap64 (x9_2 + 1)) (floatOfInt .f64 t172) (floatOfInt .f64 t173))) else (none)) else (none)) else (none)) else (none))) else (none)) else (none)) = some r := by first | (rw [hji42] at H; exact H) | (simp only [hji42] at H ⊢; exact H)
                            by_cases c43 : 0 ≤ (ji42)
                            · rw [if_pos c43] at H
                              have c43b0 : decide (0 ≤ (ji42)) = true := decide_eq_true c43
                              clear c43
                              by_cases c44 : (ji42) < (t185.length : Int)
                              · rw [if_pos c44] at H
                                have c44b0 : decide ((ji42) < (t185.length : Int)) = true := decide_eq_true c44
                                clear c44
                                by_cases c45 : (FloatKind.f64.format.order (rdOf (0 : Nat) t185 x9_2) (rdOf (0 : Nat) t185 (ji42)) != some .eq) = true
                                · rw [if_pos c45] at H
                                  have c45b0 : (FloatKind.f64.format.order (rdOf (0 : Nat) t185 x9_2) (rdOf (0 : Nat) t185 (ji42)) != some .eq) = true := c45
                                  (try (have c45b1 : decide (FloatKind.f64.format.order (rdOf (0 : Nat) t185 x9_2) (rdOf (0 : Nat) t185 (ji42)) = some .eq) = false := by simpa using c45))
                                  (try (have c45b2 : (FloatKind.f64.format.order (rdOf (0 : Nat) t185 x9_2) (rdOf (0 : Nat) t185 (ji42)) == some .eq) = false := by simpa using c45))
                                  (try (have c45b3 : ¬ (FloatKind.f64.format.order (rdOf (0 : Nat) t185 x9_2) (rdOf (0 : Nat) t185 (ji42)) = some .eq) := by simpa using c45))
                                  clear c45
                                  obtain rfl := Option.some.inj H
                                  obtain ⟨Ao46, co46, eo46⟩ := Kd.R_slice HO_5.out
                                  subst eo46
                                  have p189 : 0 ≤ (x9_2 : Int) := of_decide_eq_true (by first | (with_reducible assumption) | assumption)
                                  have q189 : x9_2 < (t178.length : Int) := of_decide_eq_true (by first | (with_reducible assumption) | assumption)
                                  obtain ⟨ad189, e189, hx189_0⟩ := Kd.at_flt (Kd.R_reads' HO_5.out).2.2 x9_2 p189 q189
                                  cases e189
                                  replace p189 := eq_true p189
                                  replace q189 := eq_true q189
                                  have hcz47_0 : wr.cell? ⟨gb174, 0, none⟩ = some (.float .f64 (floatOfInt .f64 t172)) := (blk_cell BK174.out 0).trans rfl
                                  have hcz47_1 : wr.cell? ⟨gb174, 1, none⟩ = some (.float .f64 (floatOfInt .f64 t173)) := (blk_cell BK174.out 1).trans rfl
                                  have hfz47_0 := blk_frozen BK174.out 0
                                  have hfz47_1 := blk_frozen BK174.out 1
                                  have hq48_ : (floatBits .add .f64 ((floatBits .quo .f64 (floatOfInt .f64 (wrap64 (t171 - 128))) (4616189618054758400 : Nat)).getD 0) (floatOfInt .f64 t172)).isSome = true := (by first | assumption | exact of_eq_true (by assumption) | (simp only [*]))
                                  have hf48_ := fun w_ : World => run_float_arith (P := Try.prog) (w := w_) .add 26 .f64 ((floatBits .quo .f64 (floatOfInt .f64 (wrap64 (t171 - 128))) (4616189618054758400 : Nat)).getD 0) (floatOfInt .f64 t172) ((floatBits .add .f64 ((floatBits .quo .f64 (floatOfInt .f64 (wrap64 (t171 - 128))) (4616189618054758400 : Nat)).getD 0) (floatOfInt .f64 t172)).getD 0) (opt_getD_ hq48_)
                                  obtain ⟨Ao49, co49, eo49⟩ := Kd.R_slice HO_7.out
                                  subst eo49
                                  have p190 : 0 ≤ (x9_2 : Int) := of_decide_eq_true (by first | (with_reducible assumption) | assumption)
                                  have q190 : x9_2 < (t185.length : Int) := of_decide_eq_true (by first | (with_reducible assumption) | assumption)
                                  obtain ⟨ad190, e190, hx190_0⟩ := Kd.at_flt (Kd.R_reads' HO_7.out).2.2 x9_2 p190 q190
                                  cases e190
                                  replace p190 := eq_true p190
                                  replace q190 := eq_true q190
                                  have p191 : 0 ≤ ((ji42) : Int) := of_decide_eq_true (by first | (with_reducible assumption) | assumption)
                                  have q191 : (ji42) < (t185.length : Int) := of_decide_eq_true (by first | (with_reducible assumption) | assumption)
                                  obtain ⟨ad191, e191, hx191_0⟩ := Kd.at_flt (Kd.R_reads' HO_7.out).2.2 (ji42) p191 q191
                                  obtain rfl : ad190 = ad191 := (by injection e191)
                                  replace p191 := eq_true p191
                                  replace q191 := eq_true q191
                                  go_wp2
                                  repeat (go_quiet (fail); try go_wp2)
                                  go_ret
                                  exact ⟨by first | rfl | (simp [errW_none, errW_some] <;> rfl) | (simp only [← hji42]; first | rfl | (simp [errW_none, errW_some] <;> rfl)) | (simp [*, errW_none, errW_some] <;> rfl), by repeat (first | (with_reducible first | exact HB.out | apply below_alloc | apply pw_below_drewN | apply below_drew1 | refine below_set ?_ GE174.out) | exact HB.out)⟩
                                · rw [if_neg c45] at H
                                  have c45b0 : (FloatKind.f64.format.order (rdOf (0 : Nat) t185 x9_2) (rdOf (0 : Nat) t185 (ji42)) != some .eq) = false := by simpa using c45
                                  (try (have c45b1 : decide (FloatKind.f64.format.order (rdOf (0 : Nat) t185 x9_2) (rdOf (0 : Nat) t185 (ji42)) = some .eq) = true := by simpa using c45))
                                  (try (have c45b2 : (FloatKind.f64.format.order (rdOf (0 : Nat) t185 x9_2) (rdOf (0 : Nat) t185 (ji42)) == some .eq) = true := by simpa using c45))
                                  clear c45
                                  obtain ⟨ji50, hji50⟩ : ∃ j_ : Int, (Int.tmod (wrap64 (x9_2 + 2)) 4) = j_ := ⟨_, rfl⟩
                                  replace H : (if 0 ≤ (ji50) then (if (ji50) < (t185.length : Int) then (if (floatBits .add .f64 (rdOf (0 : Nat) t185 x9_2) (rdOf (0 : Nat) t185 (ji50))).isSome = true then (if (floatBits .mul .f64 (4611686018427387904 : Nat) ((floatBits .quo .f64 (floatOfInt .f64 (wrap64 (t171 - 128))) (4616189618054758400 : Nat)).getD 0)).isSome = true then (if (FloatKind.f64.format.order ((floatBits .add .f64 (rdOf (0 : Nat) t185 x9_2) (rdOf (0 : Nat) t185 (ji50))).getD 0) ((floatBits .mul .f64 (4611686018427387904 : Nat) ((floatBits .quo .f64 (floatOfInt .f64 (wrap64 (t171 - 128))) (4616189618054758400 : Nat)).getD 0)).getD 0) != some .eq) = true then (some false) else (laws_FnTides.l0 k2 ((floatBits .quo .f64 (floatOfInt .f64 (wrap64 (t171 - 128))) (4616189618054758400 : Nat)).getD 0) t178 t185 (wrap64 (x9_2 + 1)) (floatOfInt .f64 t172) (floatOfInt .f64 t173))) else (none)) else (none)) else (none)) else (none)) = some r := by first | (rw [hji50] at H; exact H) | (simp only [hji50] at H ⊢; exact H)
                                  by_cases c51 : 0 ≤ (ji50)
                                  · rw [if_pos c51] at H
                                    have c51b0 : decide (0 ≤ (ji50)) = true := decide_eq_true c51
                                    clear c51
                                    by_cases c52 : (ji50) < (t185.length : Int)
                                    · rw [if_pos c52] at H
                                      have c52b0 : decide ((ji50) < (t185.length : Int)) = true := decide_eq_true c52
                                      clear c52
                                      by_cases c53 : (floatBits .add .f64 (rdOf (0 : Nat) t185 x9_2) (rdOf (0 : Nat) t185 (ji50))).isSome = true
                                      · rw [if_pos c53] at H
                                        have c53b0 := eq_true c53
                                        have c53b1 : decide ((floatBits .add .f64 (rdOf (0 : Nat) t185 x9_2) (rdOf (0 : Nat) t185 (ji50))).isSome = true) = true := decide_eq_true c53
                                        clear c53
                                        by_cases c54 : (floatBits .mul .f64 (4611686018427387904 : Nat) ((floatBits .quo .f64 (floatOfInt .f64 (wrap64 (t171 - 128))) (4616189618054758400 : Nat)).getD 0)).isSome = true
                                        · rw [if_pos c54] at H
                                          have c54b0 := eq_true c54
                                          have c54b1 : decide ((floatBits .mul .f64 (4611686018427387904 : Nat) ((floatBits .quo .f64 (floatOfInt .f64 (wrap64 (t171 - 128))) (4616189618054758400 : Nat)).getD 0)).isSome = true) = true := decide_eq_true c54
                                          clear c54
                                          by_cases c55 : (FloatKind.f64.format.order ((floatBits .add .f64 (rdOf (0 : Nat) t185 x9_2) (rdOf (0 : Nat) t185 (ji50))).getD 0) ((floatBits .mul .f64 (4611686018427387904 : Nat) ((floatBits .quo .f64 (floatOfInt .f64 (wrap64 (t171 - 128))) (4616189618054758400 : Nat)).getD 0)).getD 0) != some .eq) = true
                                          · rw [if_pos c55] at H
                                            have c55b0 : (FloatKind.f64.format.order ((floatBits .add .f64 (rdOf (0 : Nat) t185 x9_2) (rdOf (0 : Nat) t185 (ji50))).getD 0) ((floatBits .mul .f64 (4611686018427387904 : Nat) ((floatBits .quo .f64 (floatOfInt .f64 (wrap64 (t171 - 128))) (4616189618054758400 : Nat)).getD 0)).getD 0) != some .eq) = true := c55
                                            (try (have c55b1 : decide (FloatKind.f64.format.order ((floatBits .add .f64 (rdOf (0 : Nat) t185 x9_2) (rdOf (0 : Nat) t185 (ji50))).getD 0) ((floatBits .mul .f64 (4611686018427387904 : Nat) ((floatBits .quo .f64 (floatOfInt .f64 (wrap64 (t171 - 128))) (4616189618054758400 : Nat)).getD 0)).getD 0) = some .eq) = false := by simpa using c55))
                                            (try (have c55b2 : (FloatKind.f64.format.order ((floatBits .add .f64 (rdOf (0 : Nat) t185 x9_2) (rdOf (0 : Nat) t185 (ji50))).getD 0) ((floatBits .mul .f64 (4611686018427387904 : Nat) ((floatBits .quo .f64 (floatOfInt .f64 (wrap64 (t171 - 128))) (4616189618054758400 : Nat)).getD 0)).getD 0) == some .eq) = false := by simpa using c55))
                                            (try (have c55b3 : ¬ (FloatKind.f64.format.order ((floatBits .add .f64 (rdOf (0 : Nat) t185 x9_2) (rdOf (0 : Nat) t185 (ji50))).getD 0) ((floatBits .mul .f64 (4611686018427387904 : Nat) ((floatBits .quo .f64 (floatOfInt .f64 (wrap64 (t171 - 128))) (4616189618054758400 : Nat)).getD 0)).getD 0) = some .eq) := by simpa using c55))
                                            clear c55
                                            obtain rfl := Option.some.inj H
                                            obtain ⟨Ao56, co56, eo56⟩ := Kd.R_slice HO_5.out
                                            subst eo56
                                            have p189 : 0 ≤ (x9_2 : Int) := of_decide_eq_true (by first | (with_reducible assumption) | assumption)
                                            have q189 : x9_2 < (t178.length : Int) := of_decide_eq_true (by first | (with_reducible assumption) | assumption)
                                            obtain ⟨ad189, e189, hx189_0⟩ := Kd.at_flt (Kd.R_reads' HO_5.out).2.2 x9_2 p189 q189
                                            cases e189
                                            replace p189 := eq_true p189
                                            replace q189 := eq_true q189
                                            have hcz57_0 : wr.cell? ⟨gb174, 0, none⟩ = some (.float .f64 (floatOfInt .f64 t172)) := (blk_cell BK174.out 0).trans rfl
                                            have hcz57_1 : wr.cell? ⟨gb174, 1, none⟩ = some (.float .f64 (floatOfInt .f64 t173)) := (blk_cell BK174.out 1).trans rfl
                                            have hfz57_0 := blk_frozen BK174.out 0
                                            have hfz57_1 := blk_frozen BK174.out 1
                                            have hq58_ : (floatBits .add .f64 ((floatBits .quo .f64 (floatOfInt .f64 (wrap64 (t171 - 128))) (4616189618054758400 : Nat)).getD 0) (floatOfInt .f64 t172)).isSome = true := (by first | assumption | exact of_eq_true (by assumption) | (simp only [*]))
                                            have hf58_ := fun w_ : World => run_float_arith (P := Try.prog) (w := w_) .add 26 .f64 ((floatBits .quo .f64 (floatOfInt .f64 (wrap64 (t171 - 128))) (4616189618054758400 : Nat)).getD 0) (floatOfInt .f64 t172) ((floatBits .add .f64 ((floatBits .quo .f64 (floatOfInt .f64 (wrap64 (t171 - 128))) (4616189618054758400 : Nat)).getD 0) (floatOfInt .f64 t172)).getD 0) (opt_getD_ hq58_)
                                            obtain ⟨Ao59, co59, eo59⟩ := Kd.R_slice HO_7.out
                                            subst eo59
                                            have p190 : 0 ≤ (x9_2 : Int) := of_decide_eq_true (by first | (with_reducible assumption) | assumption)
                                            have q190 : x9_2 < (t185.length : Int) := of_decide_eq_true (by first | (with_reducible assumption) | assumption)
                                            obtain ⟨ad190, e190, hx190_0⟩ := Kd.at_flt (Kd.R_reads' HO_7.out).2.2 x9_2 p190 q190
                                            cases e190
                                            replace p190 := eq_true p190
                                            replace q190 := eq_true q190
                                            have p191 : 0 ≤ ((ji42) : Int) := of_decide_eq_true (by first | (with_reducible assumption) | assumption)
                                            have q191 : (ji42) < (t185.length : Int) := of_decide_eq_true (by first | (with_reducible assumption) | assumption)
                                            obtain ⟨ad191, e191, hx191_0⟩ := Kd.at_flt (Kd.R_reads' HO_7.out).2.2 (ji42) p191 q191
                                            obtain rfl : ad190 = ad191 := (by injection e191)
                                            replace p191 := eq_true p191
                                            replace q191 := eq_true q191
                                            have p192 : 0 ≤ (x9_2 : Int) := of_decide_eq_true (by first | (with_reducible assumption) | assumption)
                                            have q192 : x9_2 < (t185.length : Int) := of_decide_eq_true (by first | (with_reducible assumption) | assumption)
                                            obtain ⟨ad192, e192, hx192_0⟩ := Kd.at_flt (Kd.R_reads' HO_7.out).2.2 x9_2 p192 q192
                                            obtain rfl : ad190 = ad192 := (by injection e192)
                                            replace p192 := eq_true p192
                                            replace q192 := eq_true q192
                                            have p193 : 0 ≤ ((ji50) : Int) := of_decide_eq_true (by first | (with_reducible assumption) | assumption)
                                            have q193 : (ji50) < (t185.length : Int) := of_decide_eq_true (by first | (with_reducible assumption) | assumption)
                                            obtain ⟨ad193, e193, hx193_0⟩ := Kd.at_flt (Kd.R_reads' HO_7.out).2.2 (ji50) p193 q193
                                            obtain rfl : ad190 = ad193 := (by injection e193)
                                            replace p193 := eq_true p193
                                            replace q193 := eq_true q193
                                            have hq60_ : (floatBits .add .f64 (rdOf (0 : Nat) t185 x9_2) (rdOf (0 : Nat) t185 (ji50))).isSome = true := (by first | assumption | exact of_eq_true (by assumption) | (simp only [*]))
                                            have hf60_ := fun w_ : World => run_float_arith (P := Try.prog) (w := w_) .add 26 .f64 (rdOf (0 : Nat) t185 x9_2) (rdOf (0 : Nat) t185 (ji50)) ((floatBits .add .f64 (rdOf (0 : Nat) t185 x9_2) (rdOf (0 : Nat) t185 (ji50))).getD 0) (opt_getD_ hq60_)
                                            have hq61_ : (floatBits .mul .f64 (4611686018427387904 : Nat) ((floatBits .quo .f64 (floatOfInt .f64 (wrap64 (t171 - 128))) (4616189618054758400 : Nat)).getD 0)).isSome = true := (by first | assumption | exact of_eq_true (by assumption) | (simp only [*]))
                                            have hf61_ := fun w_ : World => run_float_arith (P := Try.prog) (w := w_) .mul 26 .f64 (4611686018427387904 : Nat) ((floatBits .quo .f64 (floatOfInt .f64 (wrap64 (t171 - 128))) (4616189618054758400 : Nat)).getD 0) ((floatBits .mul .f64 (4611686018427387904 : Nat) ((floatBits .quo .f64 (floatOfInt .f64 (wrap64 (t171 - 128))) (4616189618054758400 : Nat)).getD 0)).getD 0) (opt_getD_ hq61_)
                                            go_wp2
                                            repeat (go_quiet (fail); try go_wp2)
                                            go_ret
                                            exact ⟨by first | rfl | (simp [errW_none, errW_some] <;> rfl) | (simp only [← hji42, ← hji50]; first | rfl | (simp [errW_none, errW_some] <;> rfl)) | (simp [*, errW_none, errW_some] <;> rfl), by repeat (first | (with_reducible first | exact HB.out | apply below_alloc | apply pw_below_drewN | apply below_drew1 | refine below_set ?_ GE174.out) | exact HB.out)⟩
                                          · rw [if_neg c55] at H
                                            have c55b0 : (FloatKind.f64.format.order ((floatBits .add .f64 (rdOf (0 : Nat) t185 x9_2) (rdOf (0 : Nat) t185 (ji50))).getD 0) ((floatBits .mul .f64 (4611686018427387904 : Nat) ((floatBits .quo .f64 (floatOfInt .f64 (wrap64 (t171 - 128))) (4616189618054758400 : Nat)).getD 0)).getD 0) != some .eq) = false := by simpa using c55
                                            (try (have c55b1 : decide (FloatKind.f64.format.order ((floatBits .add .f64 (rdOf (0 : Nat) t185 x9_2) (rdOf (0 : Nat) t185 (ji50))).getD 0) ((floatBits .mul .f64 (4611686018427387904 : Nat) ((floatBits .quo .f64 (floatOfInt .f64 (wrap64 (t171 - 128))) (4616189618054758400 : Nat)).getD 0)).getD 0) = some .eq) = true := by simpa using c55))
                                            (try (have c55b2 : (FloatKind.f64.format.order ((floatBits .add .f64 (rdOf (0 : Nat) t185 x9_2) (rdOf (0 : Nat) t185 (ji50))).getD 0) ((floatBits .mul .f64 (4611686018427387904 : Nat) ((floatBits .quo .f64 (floatOfInt .f64 (wrap64 (t171 - 128))) (4616189618054758400 : Nat)).getD 0)).getD 0) == some .eq) = true := by simpa using c55))
                                            clear c55
                                            have H' := Aside0.mk H
                                            clear H
                                            obtain ⟨Ao62, co62, eo62⟩ := Kd.R_slice HO_5.out
                                            subst eo62
                                            have p189 : 0 ≤ (x9_2 : Int) := of_decide_eq_true (by first | (with_reducible assumption) | assumption)
                                            have q189 : x9_2 < (t178.length : Int) := of_decide_eq_true (by first | (with_reducible assumption) | assumption)
                                            obtain ⟨ad189, e189, hx189_0⟩ := Kd.at_flt (Kd.R_reads' HO_5.out).2.2 x9_2 p189 q189
                                            cases e189
                                            replace p189 := eq_true p189
                                            replace q189 := eq_true q189
                                            have hcz63_0 : wr.cell? ⟨gb174, 0, none⟩ = some (.float .f64 (floatOfInt .f64 t172)) := (blk_cell BK174.out 0).trans rfl
                                            have hcz63_1 : wr.cell? ⟨gb174, 1, none⟩ = some (.float .f64 (floatOfInt .f64 t173)) := (blk_cell BK174.out 1).trans rfl
                                            have hfz63_0 := blk_frozen BK174.out 0
                                            have hfz63_1 := blk_frozen BK174.out 1
                                            have hq64_ : (floatBits .add .f64 ((floatBits .quo .f64 (floatOfInt .f64 (wrap64 (t171 - 128))) (4616189618054758400 : Nat)).getD 0) (floatOfInt .f64 t172)).isSome = true := (by first | assumption | exact of_eq_true (by assumption) | (simp only [*]))
                                            have hf64_ := fun w_ : World => run_float_arith (P := Try.prog) (w := w_) .add 26 .f64 ((floatBits .quo .f64 (floatOfInt .f64 (wrap64 (t171 - 128))) (4616189618054758400 : Nat)).getD 0) (floatOfInt .f64 t172) ((floatBits .add .f64 ((floatBits .quo .f64 (floatOfInt .f64 (wrap64 (t171 - 128))) (4616189618054758400 : Nat)).getD 0) (floatOfInt .f64 t172)).getD 0) (opt_getD_ hq64_)
                                            obtain ⟨Ao65, co65, eo65⟩ := Kd.R_slice HO_7.out
                                            subst eo65
                                            have p190 : 0 ≤ (x9_2 : Int) := of_decide_eq_true (by first | (with_reducible assumption) | assumption)
                                            have q190 : x9_2 < (t185.length : Int) := of_decide_eq_true (by first | (with_reducible assumption) | assumption)
                                            obtain ⟨ad190, e190, hx190_0⟩ := Kd.at_flt (Kd.R_reads' HO_7.out).2.2 x9_2 p190 q190
                                            cases e190
                                            replace p190 := eq_true p190
                                            replace q190 := eq_true q190
                                            have p191 : 0 ≤ ((ji42) : Int) := of_decide_eq_true (by first | (with_reducible assumption) | assumption)
                                            have q191 : (ji42) < (t185.length : Int) := of_decide_eq_true (by first | (with_reducible assumption) | assumption)
                                            obtain ⟨ad191, e191, hx191_0⟩ := Kd.at_flt (Kd.R_reads' HO_7.out).2.2 (ji42) p191 q191
                                            obtain rfl : ad190 = ad191 := (by injection e191)
                                            replace p191 := eq_true p191
                                            replace q191 := eq_true q191
                                            have p192 : 0 ≤ (x9_2 : Int) := of_decide_eq_true (by first | (with_reducible assumption) | assumption)
                                            have q192 : x9_2 < (t185.length : Int) := of_decide_eq_true (by first | (with_reducible assumption) | assumption)
                                            obtain ⟨ad192, e192, hx192_0⟩ := Kd.at_flt (Kd.R_reads' HO_7.out).2.2 x9_2 p192 q192
                                            obtain rfl : ad190 = ad192 := (by injection e192)
                                            replace p192 := eq_true p192
                                            replace q192 := eq_true q192
                                            have p193 : 0 ≤ ((ji50) : Int) := of_decide_eq_true (by first | (with_reducible assumption) | assumption)
                                            have q193 : (ji50) < (t185.length : Int) := of_decide_eq_true (by first | (with_reducible assumption) | assumption)
                                            obtain ⟨ad193, e193, hx193_0⟩ := Kd.at_flt (Kd.R_reads' HO_7.out).2.2 (ji50) p193 q193
                                            obtain rfl : ad190 = ad193 := (by injection e193)
                                            replace p193 := eq_true p193
                                            replace q193 := eq_true q193
                                            have hq66_ : (floatBits .add .f64 (rdOf (0 : Nat) t185 x9_2) (rdOf (0 : Nat) t185 (ji50))).isSome = true := (by first | assumption | exact of_eq_true (by assumption) | (simp only [*]))
                                            have hf66_ := fun w_ : World => run_float_arith (P := Try.prog) (w := w_) .add 26 .f64 (rdOf (0 : Nat) t185 x9_2) (rdOf (0 : Nat) t185 (ji50)) ((floatBits .add .f64 (rdOf (0 : Nat) t185 x9_2) (rdOf (0 : Nat) t185 (ji50))).getD 0) (opt_getD_ hq66_)
                                            have hq67_ : (floatBits .mul .f64 (4611686018427387904 : Nat) ((floatBits .quo .f64 (floatOfInt .f64 (wrap64 (t171 - 128))) (4616189618054758400 : Nat)).getD 0)).isSome = true := (by first | assumption | exact of_eq_true (by assumption) | (simp only [*]))
                                            have hf67_ := fun w_ : World => run_float_arith (P := Try.prog) (w := w_) .mul 26 .f64 (4611686018427387904 : Nat) ((floatBits .quo .f64 (floatOfInt .f64 (wrap64 (t171 - 128))) (4616189618054758400 : Nat)).getD 0) ((floatBits .mul .f64 (4611686018427387904 : Nat) ((floatBits .quo .f64 (floatOfInt .f64 (wrap64 (t171 - 128))) (4616189618054758400 : Nat)).getD 0)).getD 0) (opt_getD_ hq67_)
                                            go_wp2
                                            repeat (go_quiet (fail); try go_wp2)
                                            (first | go_roundg k2 | (simp only [← hji42, ← hji50]; go_roundg k2))
                                            case measure => have := HJ9.out; have := HK2.out; omega
                                            case rel => exact ⟨(wrap64 (x9_2 + 1)), (by first | rfl | (simp; done) | (simp [*]; done) | (simp [wrap64]; done)), H', ⟨by have := HJ9.out; have := HK2.out; omega⟩, ⟨by (with_reducible repeat (first | apply Kd.R_alloc | apply Kd.R_drewN | apply Kd.R_drew)); exact HO_5.out⟩, ⟨by (with_reducible repeat (first | apply Kd.R_alloc | apply Kd.R_drewN | apply Kd.R_drew)); exact HO_7.out⟩, ⟨by (with_reducible repeat (first | refine blk_drewN ?_ _ | refine blk_drew ?_ | refine blk_alloc ?_ _)); exact BK174.out⟩, ⟨by repeat (first | (with_reducible first | exact HB.out | apply below_alloc | apply pw_below_drewN | apply below_drew1 | refine below_set ?_ GE174.out) | exact HB.out)⟩⟩
                                        · rw [if_neg c54] at H
                                          exact absurd H (by simp)
                                      · rw [if_neg c53] at H
                                        exact absurd H (by simp)
                                    · rw [if_neg c52] at H
                                      exact absurd H (by simp)
                                  · rw [if_neg c51] at H
                                    exact absurd H (by simp)
                              · rw [if_neg c44] at H
                                exact absurd H (by simp)
                            · rw [if_neg c43] at H
                              exact absurd H (by simp)
                          · rw [if_neg c41] at H
                            exact absurd H (by simp)
                      · rw [if_neg c36] at H
                        exact absurd H (by simp)
                    · rw [if_neg c35] at H
                      exact absurd H (by simp)
                  · rw [if_neg c34] at H
                    exact absurd H (by simp)
                · rw [if_neg c33] at H
                  have c33b0 : decide (x9_2 < 9) = false := decide_eq_false c33
                  clear c33
                  replace H := Option.bind_eq_some_iff.mp H
                  obtain ⟨t194, A680, H⟩ := H
                  replace H : ((impl_UnderKeel.f k2 t194 (4607182418800017408 : Nat) (4602678819172646912 : Nat) (4611686018427387904 : Nat)).bind fun t197 => ((impl_HighLow.f k2 t185).bind fun t200 => (if (t194.length : Int) = 9 then (laws_FnTides.j2 k2 t185 t194 t197 t200 ((t197.length : Int) != 9) (floatOfInt .f64 t172) (floatOfInt .f64 t173)) else (laws_FnTides.j2 k2 t185 t194 t197 t200 true (floatOfInt .f64 t172) (floatOfInt .f64 t173))))) = some r := H
                  have A68 := Aside0.mk A680
                  clear A680
                  replace H := Option.bind_eq_some_iff.mp H
                  obtain ⟨t197, A690, H⟩ := H
                  replace H : ((impl_HighLow.f k2 t185).bind fun t200 => (if (t194.length : Int) = 9 then (laws_FnTides.j2 k2 t185 t194 t197 t200 ((t197.length : Int) != 9) (floatOfInt .f64 t172) (floatOfInt .f64 t173)) else (laws_FnTides.j2 k2 t185 t194 t197 t200 true (floatOfInt .f64 t172) (floatOfInt .f64 t173)))) = some r := H
                  have A69 := Aside0.mk A690
                  clear A690
                  replace H := Option.bind_eq_some_iff.mp H
                  obtain ⟨t200, A700, H⟩ := H
                  replace H : (if (t194.length : Int) = 9 then (laws_FnTides.j2 k2 t185 t194 t197 t200 ((t197.length : Int) != 9) (floatOfInt .f64 t172) (floatOfInt .f64 t173)) else (laws_FnTides.j2 k2 t185 t194 t197 t200 true (floatOfInt .f64 t172) (floatOfInt .f64 t173))) = some r := H
                  have A70 := Aside0.mk A700
                  clear A700
                  have HC71 := Aside0.mk H
                  clear H
                  obtain ⟨Ao72, co72, eo72⟩ := Kd.R_slice HO_7.out
                  subst eo72
                  go_upto_region 17 with (first | (go_at_call 17; (with_reducible refine (impl_Depths.calls k2 _ _ t185 (4613937818241073152 : Nat) t194 _ ?side1 ?side2 A68.out).mono ?_); (case side1 => repeat (first | exact (Kd.R_reads' HO_7.out).2.2 | (with_reducible refine Kd.C_alloc ?_ _) | (with_reducible refine Kd.C_drewN ?_ _) | (with_reducible refine Kd.C_drew ?_))); (case side2 => exact (Kd.R_reads' HO_7.out).2.1); rintro e w73 ⟨v195, rfl, ho0, hb⟩; have n0_ := Aside0.mk (Kd.R_elder' (by (with_reducible repeat (first | apply Kd.R_alloc | apply Kd.R_drewN | apply Kd.R_drew)); exact HO_5.out) (Kd.R_base ho0) hb); have n1_ := Aside0.mk (Kd.R_elder' (by (with_reducible repeat (first | apply Kd.R_alloc | apply Kd.R_drewN | apply Kd.R_drew)); exact HO_7.out) (Kd.R_base ho0) hb); have n2_ := Aside0.mk (Kd.R_lower (Kd.R_new' (Kd.R_new' ho0 (Kd.R_lt (by (with_reducible repeat (first | apply Kd.R_alloc | apply Kd.R_drewN | apply Kd.R_drew)); exact HO_5.out))) (Kd.R_lt (by (with_reducible repeat (first | apply Kd.R_alloc | apply Kd.R_drewN | apply Kd.R_drew)); exact HO_7.out))) (below_size (by repeat (first | (with_reducible first | exact HB.out | apply below_alloc | apply pw_below_drewN | apply below_drew1 | refine below_set ?_ GE174.out) | exact HB.out)))); have n3_ := Aside0.mk (blk_below (g := gb174) (o := .cells #[.float .f64 (floatOfInt .f64 t172), .float .f64 (floatOfInt .f64 t173)] 28 (0, 0)) (by (with_reducible repeat (first | refine blk_drewN ?_ _ | refine blk_drew ?_ | refine blk_alloc ?_ _)); exact BK174.out) hb); have n4_ := Aside0.mk (below_step (by repeat (first | (with_reducible first | exact HB.out | apply below_alloc | apply pw_below_drewN | apply below_drew1 | refine below_set ?_ GE174.out) | exact HB.out)) hb); clear HO_5; clear HO_7; clear BK174; clear HB; have HO_5 := n0_; have HO_7 := n1_; have HO196 := n2_; have BK174 := n3_; have HB := n4_; clear n0_ n1_ n2_ n3_ n4_; (try clear hb); (try clear hb2); (try clear hk); (try clear hi); (try clear ho0); obtain ⟨Ao74, co74, eo74⟩ := Kd.R_slice HO196.out; subst eo74) | (go_at_call 18; (with_reducible refine (impl_UnderKeel.calls k2 _ _ t194 (4607182418800017408 : Nat) (4602678819172646912 : Nat) (4611686018427387904 : Nat) t197 _ ?side1 ?side2 A69.out).mono ?_); (case side1 => repeat (first | exact (Kd.R_reads' HO196.out).2.2 | (with_reducible refine Kd.C_alloc ?_ _) | (with_reducible refine Kd.C_drewN ?_ _) | (with_reducible refine Kd.C_drew ?_))); (case side2 => exact (Kd.R_reads' HO196.out).2.1); rintro e w75 ⟨v198, rfl, ho0, hb⟩; have n0_ := Aside0.mk (Kd.R_below (by (with_reducible repeat (first | apply Kd.R_alloc | apply Kd.R_drewN | apply Kd.R_drew)); exact HO_5.out) hb); have n1_ := Aside0.mk (Kd.R_below (by (with_reducible repeat (first | apply Kd.R_alloc | apply Kd.R_drewN | apply Kd.R_drew)); exact HO_7.out) hb); have n2_ := Aside0.mk (Kd.R_below (by (with_reducible repeat (first | apply Kd.R_alloc | apply Kd.R_drewN | apply Kd.R_drew)); exact HO196.out) hb); have n3_ := Aside0.mk (Kd.R_lower ho0 (below_size (by repeat (first | (with_reducible first | exact HB.out | apply below_alloc | apply pw_below_drewN | apply below_drew1 | refine below_set ?_ GE174.out) | exact HB.out)))); have n4_ := Aside0.mk (blk_below (g := gb174) (o := .cells #[.float .f64 (floatOfInt .f64 t172), .float .f64 (floatOfInt .f64 t173)] 28 (0, 0)) (by (with_reducible repeat (first | refine blk_drewN ?_ _ | refine blk_drew ?_ | refine blk_alloc ?_ _)); exact BK174.out) hb); have n5_ := Aside0.mk (below_step (by repeat (first | (with_reducible first | exact HB.out | apply below_alloc | apply pw_below_drewN | apply below_drew1 | refine below_set ?_ GE174.out) | exact HB.out)) hb); clear HO_5; clear HO_7; clear HO196; clear BK174; clear HB; have HO_5 := n0_; have HO_7 := n1_; have HO196 := n2_; have HO199 := n3_; have BK174 := n4_; have HB := n5_; clear n0_ n1_ n2_ n3_ n4_ n5_; (try clear hb); (try clear hb2); (try clear hk); (try clear hi); (try clear ho0)) | (go_at_call 19; (with_reducible refine (impl_HighLow.calls k2 _ _ t185 t200 _ ?side1 ?side2 A70.out).mono ?_); (case side1 => repeat (first | exact (Kd.R_reads' HO_7.out).2.2 | (with_reducible refine Kd.C_alloc ?_ _) | (with_reducible refine Kd.C_drewN ?_ _) | (with_reducible refine Kd.C_drew ?_))); (case side2 => exact (Kd.R_reads' HO_7.out).2.1); rintro e w76 ⟨v201, rfl, ho0, hb⟩; have n0_ := Aside0.mk (Kd.R_below (by (with_reducible repeat (first | apply Kd.R_alloc | apply Kd.R_drewN | apply Kd.R_drew)); exact HO_5.out) hb); have n1_ := Aside0.mk (Kd.R_below (by (with_reducible repeat (first | apply Kd.R_alloc | apply Kd.R_drewN | apply Kd.R_drew)); exact HO_7.out) hb); have n2_ := Aside0.mk (Kd.R_below (by (with_reducible repeat (first | apply Kd.R_alloc | apply Kd.R_drewN | apply Kd.R_drew)); exact HO196.out) hb); have n3_ := Aside0.mk (Kd.R_below (by (with_reducible repeat (first | apply Kd.R_alloc | apply Kd.R_drewN | apply Kd.R_drew)); exact HO199.out) hb); have n4_ := Aside0.mk (Kd.R_lower ho0 (below_size (by repeat (first | (with_reducible first | exact HB.out | apply below_alloc | apply pw_below_drewN | apply below_drew1 | refine below_set ?_ GE174.out) | exact HB.out)))); have n5_ := Aside0.mk (blk_below (g := gb174) (o := .cells #[.float .f64 (floatOfInt .f64 t172), .float .f64 (floatOfInt .f64 t173)] 28 (0, 0)) (by (with_reducible repeat (first | refine blk_drewN ?_ _ | refine blk_drew ?_ | refine blk_alloc ?_ _)); exact BK174.out) hb); have n6_ := Aside0.mk (below_step (by repeat (first | (with_reducible first | exact HB.out | apply below_alloc | apply pw_below_drewN | apply below_drew1 | refine below_set ?_ GE174.out) | exact HB.out)) hb); clear HO_5; clear HO_7; clear HO196; clear HO199; clear BK174; clear HB; have HO_5 := n0_; have HO_7 := n1_; have HO196 := n2_; have HO199 := n3_; have HO202 := n4_; have BK174 := n5_; have HB := n6_; clear n0_ n1_ n2_ n3_ n4_ n5_ n6_; (try clear hb); (try clear hb2); (try clear hk); (try clear hi); (try clear ho0)))
                  repeat (go_quiet (first | (go_at_call 17; (with_reducible refine (impl_Depths.calls k2 _ _ t185 (4613937818241073152 : Nat) t194 _ ?side1 ?side2 A68.out).mono ?_); (case side1 => repeat (first | exact (Kd.R_reads' HO_7.out).2.2 | (with_reducible refine Kd.C_alloc ?_ _) | (with_reducible refine Kd.C_drewN ?_ _) | (with_reducible refine Kd.C_drew ?_))); (case side2 => exact (Kd.R_reads' HO_7.out).2.1); rintro e w73 ⟨v195, rfl, ho0, hb⟩; have n0_ := Aside0.mk (Kd.R_elder' (by (with_reducible repeat (first | apply Kd.R_alloc | apply Kd.R_drewN | apply Kd.R_drew)); exact HO_5.out) (Kd.R_base ho0) hb); have n1_ := Aside0.mk (Kd.R_elder' (by (with_reducible repeat (first | apply Kd.R_alloc | apply Kd.R_drewN | apply Kd.R_drew)); exact HO_7.out) (Kd.R_base ho0) hb); have n2_ := Aside0.mk (Kd.R_lower (Kd.R_new' (Kd.R_new' ho0 (Kd.R_lt (by (with_reducible repeat (first | apply Kd.R_alloc | apply Kd.R_drewN | apply Kd.R_drew)); exact HO_5.out))) (Kd.R_lt (by (with_reducible repeat (first | apply Kd.R_alloc | apply Kd.R_drewN | apply Kd.R_drew)); exact HO_7.out))) (below_size (by repeat (first | (with_reducible first | exact HB.out | apply below_alloc | apply pw_below_drewN | apply below_drew1 | refine below_set ?_ GE174.out) | exact HB.out)))); have n3_ := Aside0.mk (blk_below (g := gb174) (o := .cells #[.float .f64 (floatOfInt .f64 t172), .float .f64 (floatOfInt .f64 t173)] 28 (0, 0)) (by (with_reducible repeat (first | refine blk_drewN ?_ _ | refine blk_drew ?_ | refine blk_alloc ?_ _)); exact BK174.out) hb); have n4_ := Aside0.mk (below_step (by repeat (first | (with_reducible first | exact HB.out | apply below_alloc | apply pw_below_drewN | apply below_drew1 | refine below_set ?_ GE174.out) | exact HB.out)) hb); clear HO_5; clear HO_7; clear BK174; clear HB; have HO_5 := n0_; have HO_7 := n1_; have HO196 := n2_; have BK174 := n3_; have HB := n4_; clear n0_ n1_ n2_ n3_ n4_; (try clear hb); (try clear hb2); (try clear hk); (try clear hi); (try clear ho0); obtain ⟨Ao74, co74, eo74⟩ := Kd.R_slice HO196.out; subst eo74) | (go_at_call 18; (with_reducible refine (impl_UnderKeel.calls k2 _ _ t194 (4607182418800017408 : Nat) (4602678819172646912 : Nat) (4611686018427387904 : Nat) t197 _ ?side1 ?side2 A69.out).mono ?_); (case side1 => repeat (first | exact (Kd.R_reads' HO196.out).2.2 | (with_reducible refine Kd.C_alloc ?_ _) | (with_reducible refine Kd.C_drewN ?_ _) | (with_reducible refine Kd.C_drew ?_))); (case side2 => exact (Kd.R_reads' HO196.out).2.1); rintro e w75 ⟨v198, rfl, ho0, hb⟩; have n0_ := Aside0.mk (Kd.R_below (by (with_reducible repeat (first | apply Kd.R_alloc | apply Kd.R_drewN | apply Kd.R_drew)); exact HO_5.out) hb); have n1_ := Aside0.mk (Kd.R_below (by (with_reducible repeat (first | apply Kd.R_alloc | apply Kd.R_drewN | apply Kd.R_drew)); exact HO_7.out) hb); have n2_ := Aside0.mk (Kd.R_below (by (with_reducible repeat (first | apply Kd.R_alloc | apply Kd.R_drewN | apply Kd.R_drew)); exact HO196.out) hb); have n3_ := Aside0.mk (Kd.R_lower ho0 (below_size (by repeat (first | (with_reducible first | exact HB.out | apply below_alloc | apply pw_below_drewN | apply below_drew1 | refine below_set ?_ GE174.out) | exact HB.out)))); have n4_ := Aside0.mk (blk_below (g := gb174) (o := .cells #[.float .f64 (floatOfInt .f64 t172), .float .f64 (floatOfInt .f64 t173)] 28 (0, 0)) (by (with_reducible repeat (first | refine blk_drewN ?_ _ | refine blk_drew ?_ | refine blk_alloc ?_ _)); exact BK174.out) hb); have n5_ := Aside0.mk (below_step (by repeat (first | (with_reducible first | exact HB.out | apply below_alloc | apply pw_below_drewN | apply below_drew1 | refine below_set ?_ GE174.out) | exact HB.out)) hb); clear HO_5; clear HO_7; clear HO196; clear BK174; clear HB; have HO_5 := n0_; have HO_7 := n1_; have HO196 := n2_; have HO199 := n3_; have BK174 := n4_; have HB := n5_; clear n0_ n1_ n2_ n3_ n4_ n5_; (try clear hb); (try clear hb2); (try clear hk); (try clear hi); (try clear ho0)) | (go_at_call 19; (with_reducible refine (impl_HighLow.calls k2 _ _ t185 t200 _ ?side1 ?side2 A70.out).mono ?_); (case side1 => repeat (first | exact (Kd.R_reads' HO_7.out).2.2 | (with_reducible refine Kd.C_alloc ?_ _) | (with_reducible refine Kd.C_drewN ?_ _) | (with_reducible refine Kd.C_drew ?_))); (case side2 => exact (Kd.R_reads' HO_7.out).2.1); rintro e w76 ⟨v201, rfl, ho0, hb⟩; have n0_ := Aside0.mk (Kd.R_below (by (with_reducible repeat (first | apply Kd.R_alloc | apply Kd.R_drewN | apply Kd.R_drew)); exact HO_5.out) hb); have n1_ := Aside0.mk (Kd.R_below (by (with_reducible repeat (first | apply Kd.R_alloc | apply Kd.R_drewN | apply Kd.R_drew)); exact HO_7.out) hb); have n2_ := Aside0.mk (Kd.R_below (by (with_reducible repeat (first | apply Kd.R_alloc | apply Kd.R_drewN | apply Kd.R_drew)); exact HO196.out) hb); have n3_ := Aside0.mk (Kd.R_below (by (with_reducible repeat (first | apply Kd.R_alloc | apply Kd.R_drewN | apply Kd.R_drew)); exact HO199.out) hb); have n4_ := Aside0.mk (Kd.R_lower ho0 (below_size (by repeat (first | (with_reducible first | exact HB.out | apply below_alloc | apply pw_below_drewN | apply below_drew1 | refine below_set ?_ GE174.out) | exact HB.out)))); have n5_ := Aside0.mk (blk_below (g := gb174) (o := .cells #[.float .f64 (floatOfInt .f64 t172), .float .f64 (floatOfInt .f64 t173)] 28 (0, 0)) (by (with_reducible repeat (first | refine blk_drewN ?_ _ | refine blk_drew ?_ | refine blk_alloc ?_ _)); exact BK174.out) hb); have n6_ := Aside0.mk (below_step (by repeat (first | (with_reducible first | exact HB.out | apply below_alloc | apply pw_below_drewN | apply below_drew1 | refine below_set ?_ GE174.out) | exact HB.out)) hb); clear HO_5; clear HO_7; clear HO196; clear HO199; clear BK174; clear HB; have HO_5 := n0_; have HO_7 := n1_; have HO196 := n2_; have HO199 := n3_; have HO202 := n4_; have BK174 := n5_; have HB := n6_; clear n0_ n1_ n2_ n3_ n4_ n5_ n6_; (try clear hb); (try clear hb2); (try clear hk); (try clear hi); (try clear ho0))); go_upto_region 17 with (first | (go_at_call 17; (with_reducible refine (impl_Depths.calls k2 _ _ t185 (4613937818241073152 : Nat) t194 _ ?side1 ?side2 A68.out).mono ?_); (case side1 => repeat (first | exact (Kd.R_reads' HO_7.out).2.2 | (with_reducible refine Kd.C_alloc ?_ _) | (with_reducible refine Kd.C_drewN ?_ _) | (with_reducible refine Kd.C_drew ?_))); (case side2 => exact (Kd.R_reads' HO_7.out).2.1); rintro e w73 ⟨v195, rfl, ho0, hb⟩; have n0_ := Aside0.mk (Kd.R_elder' (by (with_reducible repeat (first | apply Kd.R_alloc | apply Kd.R_drewN | apply Kd.R_drew)); exact HO_5.out) (Kd.R_base ho0) hb); have n1_ := Aside0.mk (Kd.R_elder' (by (with_reducible repeat (first | apply Kd.R_alloc | apply Kd.R_drewN | apply Kd.R_drew)); exact HO_7.out) (Kd.R_base ho0) hb); have n2_ := Aside0.mk (Kd.R_lower (Kd.R_new' (Kd.R_new' ho0 (Kd.R_lt (by (with_reducible repeat (first | apply Kd.R_alloc | apply Kd.R_drewN | apply Kd.R_drew)); exact HO_5.out))) (Kd.R_lt (by (with_reducible repeat (first | apply Kd.R_alloc | apply Kd.R_drewN | apply Kd.R_drew)); exact HO_7.out))) (below_size (by repeat (first | (with_reducible first | exact HB.out | apply below_alloc | apply pw_below_drewN | apply below_drew1 | refine below_set ?_ GE174.out) | exact HB.out)))); have n3_ := Aside0.mk (blk_below (g := gb174) (o := .cells #[.float .f64 (floatOfInt .f64 t172), .float .f64 (floatOfInt .f64 t173)] 28 (0, 0)) (by (with_reducible repeat (first | refine blk_drewN ?_ _ | refine blk_drew ?_ | refine blk_alloc ?_ _)); exact BK174.out) hb); have n4_ := Aside0.mk (below_step (by repeat (first | (with_reducible first | exact HB.out | apply below_alloc | apply pw_below_drewN | apply below_drew1 | refine below_set ?_ GE174.out) | exact HB.out)) hb); clear HO_5; clear HO_7; clear BK174; clear HB; have HO_5 := n0_; have HO_7 := n1_; have HO196 := n2_; have BK174 := n3_; have HB := n4_; clear n0_ n1_ n2_ n3_ n4_; (try clear hb); (try clear hb2); (try clear hk); (try clear hi); (try clear ho0); obtain ⟨Ao74, co74, eo74⟩ := Kd.R_slice HO196.out; subst eo74) | (go_at_call 18; (with_reducible refine (impl_UnderKeel.calls k2 _ _ t194 (4607182418800017408 : Nat) (4602678819172646912 : Nat) (4611686018427387904 : Nat) t197 _ ?side1 ?side2 A69.out).mono ?_); (case side1 => repeat (first | exact (Kd.R_reads' HO196.out).2.2 | (with_reducible refine Kd.C_alloc ?_ _) | (with_reducible refine Kd.C_drewN ?_ _) | (with_reducible refine Kd.C_drew ?_))); (case side2 => exact (Kd.R_reads' HO196.out).2.1); rintro e w75 ⟨v198, rfl, ho0, hb⟩; have n0_ := Aside0.mk (Kd.R_below (by (with_reducible repeat (first | apply Kd.R_alloc | apply Kd.R_drewN | apply Kd.R_drew)); exact HO_5.out) hb); have n1_ := Aside0.mk (Kd.R_below (by (with_reducible repeat (first | apply Kd.R_alloc | apply Kd.R_drewN | apply Kd.R_drew)); exact HO_7.out) hb); have n2_ := Aside0.mk (Kd.R_below (by (with_reducible repeat (first | apply Kd.R_alloc | apply Kd.R_drewN | apply Kd.R_drew)); exact HO196.out) hb); have n3_ := Aside0.mk (Kd.R_lower ho0 (below_size (by repeat (first | (with_reducible first | exact HB.out | apply below_alloc | apply pw_below_drewN | apply below_drew1 | refine below_set ?_ GE174.out) | exact HB.out)))); have n4_ := Aside0.mk (blk_below (g := gb174) (o := .cells #[.float .f64 (floatOfInt .f64 t172), .float .f64 (floatOfInt .f64 t173)] 28 (0, 0)) (by (with_reducible repeat (first | refine blk_drewN ?_ _ | refine blk_drew ?_ | refine blk_alloc ?_ _)); exact BK174.out) hb); have n5_ := Aside0.mk (below_step (by repeat (first | (with_reducible first | exact HB.out | apply below_alloc | apply pw_below_drewN | apply below_drew1 | refine below_set ?_ GE174.out) | exact HB.out)) hb); clear HO_5; clear HO_7; clear HO196; clear BK174; clear HB; have HO_5 := n0_; have HO_7 := n1_; have HO196 := n2_; have HO199 := n3_; have BK174 := n4_; have HB := n5_; clear n0_ n1_ n2_ n3_ n4_ n5_; (try clear hb); (try clear hb2); (try clear hk); (try clear hi); (try clear ho0)) | (go_at_call 19; (with_reducible refine (impl_HighLow.calls k2 _ _ t185 t200 _ ?side1 ?side2 A70.out).mono ?_); (case side1 => repeat (first | exact (Kd.R_reads' HO_7.out).2.2 | (with_reducible refine Kd.C_alloc ?_ _) | (with_reducible refine Kd.C_drewN ?_ _) | (with_reducible refine Kd.C_drew ?_))); (case side2 => exact (Kd.R_reads' HO_7.out).2.1); rintro e w76 ⟨v201, rfl, ho0, hb⟩; have n0_ := Aside0.mk (Kd.R_below (by (with_reducible repeat (first | apply Kd.R_alloc | apply Kd.R_drewN | apply Kd.R_drew)); exact HO_5.out) hb); have n1_ := Aside0.mk (Kd.R_below (by (with_reducible repeat (first | apply Kd.R_alloc | apply Kd.R_drewN | apply Kd.R_drew)); exact HO_7.out) hb); have n2_ := Aside0.mk (Kd.R_below (by (with_reducible repeat (first | apply Kd.R_alloc | apply Kd.R_drewN | apply Kd.R_drew)); exact HO196.out) hb); have n3_ := Aside0.mk (Kd.R_below (by (with_reducible repeat (first | apply Kd.R_alloc | apply Kd.R_drewN | apply Kd.R_drew)); exact HO199.out) hb); have n4_ := Aside0.mk (Kd.R_lower ho0 (below_size (by repeat (first | (with_reducible first | exact HB.out | apply below_alloc | apply pw_below_drewN | apply below_drew1 | refine below_set ?_ GE174.out) | exact HB.out)))); have n5_ := Aside0.mk (blk_below (g := gb174) (o := .cells #[.float .f64 (floatOfInt .f64 t172), .float .f64 (floatOfInt .f64 t173)] 28 (0, 0)) (by (with_reducible repeat (first | refine blk_drewN ?_ _ | refine blk_drew ?_ | refine blk_alloc ?_ _)); exact BK174.out) hb); have n6_ := Aside0.mk (below_step (by repeat (first | (with_reducible first | exact HB.out | apply below_alloc | apply pw_below_drewN | apply below_drew1 | refine below_set ?_ GE174.out) | exact HB.out)) hb); clear HO_5; clear HO_7; clear HO196; clear HO199; clear BK174; clear HB; have HO_5 := n0_; have HO_7 := n1_; have HO196 := n2_; have HO199 := n3_; have HO202 := n4_; have BK174 := n5_; have HB := n6_; clear n0_ n1_ n2_ n3_ n4_ n5_ n6_; (try clear hb); (try clear hb2); (try clear hk); (try clear hi); (try clear ho0))))
                  (try simp only [Act.put, List.setIfInBounds_toArray, List.set_cons_zero, List.set_cons_succ])
                  go_cut [119] (fun v119 wc => ∃ (kq : Nat) (x119_70 : Bool), v119 = .bool x119_70 ∧ Aside0 (laws_FnTides.j2 kq t185 t194 t197 t200 x119_70 (floatOfInt .f64 t172) (floatOfInt .f64 t173) = some r) ∧ Aside0 (kq ≤ k2) ∧ Aside0 (Kd.R Kd.flt 26 wc w.heap.size (fun k_ => some k_ ≠ ((.slice Ao74 t194.length co74) : Value).ownBlock) (.slice Ao72 t185.length co72) t185) ∧ Aside0 (Kd.R Kd.flt 26 wc w.heap.size (fun k_ => some k_ ≠ ((.slice Ao72 t185.length co72) : Value).ownBlock) (.slice Ao74 t194.length co74) t194) ∧ Aside0 (Kd.R Kd.bool 4 wc w.heap.size (fun _ => True) v198 t197) ∧ Aside0 (Kd.R (Kd.int .i64) 3 wc w.heap.size (fun _ => True) v201 t200) ∧ Aside0 (wc.heap[gb174]? = some (.cells #[.float .f64 (floatOfInt .f64 t172), .float .f64 (floatOfInt .f64 t173)] 28 (0, 0))) ∧ Aside0 (Below w.heap.size w wc))
                  case first =>
                    have H := HC71.out
                    clear HC71
                    by_cases c77 : (t194.length : Int) = 9
                    · rw [if_pos c77] at H
                      have c77b0 : ((t194.length : Int) == 9) = true := beq_iff_eq.mpr c77
                      have c77b1 : ((t194.length : Int) != 9) = false := bne_eq_false_iff_eq.mpr c77
                      clear c77
                      (first | rw [c77b0] | (simp only [i64_w, i32_w]; rw [c77b0]) | skip)
                      have H' := Aside0.mk H
                      clear H
                      obtain ⟨Ao78, co78, eo78⟩ := Kd.R_slice HO199.out
                      subst eo78
                      go_wp2
                      repeat (go_quiet (fail); try go_wp2)
                      go_meet
                      case rel => exact ⟨_, (((t197.length : Int) != 9)), (by first | rfl | (simp; done) | (simp [*]; done) | (simp [wrap64]; done)), H', ⟨by have := HJ9.out; have := HK2.out; first | omega | exact Nat.le_refl _⟩, ⟨by (with_reducible repeat (first | apply Kd.R_alloc | apply Kd.R_drewN | apply Kd.R_drew)); exact Kd.R_mono HO_7.out (fun _ hk => hk.2)⟩, ⟨by (with_reducible repeat (first | apply Kd.R_alloc | apply Kd.R_drewN | apply Kd.R_drew)); exact Kd.R_mono HO196.out (fun _ hk => hk.2)⟩, ⟨by (with_reducible repeat (first | apply Kd.R_alloc | apply Kd.R_drewN | apply Kd.R_drew)); exact HO199.out⟩, ⟨by (with_reducible repeat (first | apply Kd.R_alloc | apply Kd.R_drewN | apply Kd.R_drew)); exact HO202.out⟩, ⟨by (with_reducible repeat (first | refine blk_drewN ?_ _ | refine blk_drew ?_ | refine blk_alloc ?_ _)); exact BK174.out⟩, ⟨by repeat (first | (with_reducible first | exact HB.out | apply below_alloc | apply pw_below_drewN | apply below_drew1 | refine below_set ?_ GE174.out) | exact HB.out)⟩⟩
                    · rw [if_neg c77] at H
                      have c77b0 : ((t194.length : Int) == 9) = false := beq_eq_false_iff_ne.mpr c77
                      have c77b1 : ((t194.length : Int) != 9) = true := bne_iff_ne.mpr c77
                      (first | rw [c77b0] | (simp only [i64_w, i32_w]; rw [c77b0]) | skip)
                      have H' := Aside0.mk H
                      clear H
                      go_wp2
                      repeat (go_quiet (fail); try go_wp2)
                      go_meet
                      case rel => exact ⟨_, (true), (by first | rfl | (simp; done) | (simp [*]; done) | (simp [wrap64]; done)), H', ⟨by have := HJ9.out; have := HK2.out; first | omega | exact Nat.le_refl _⟩, ⟨by (with_reducible repeat (first | apply Kd.R_alloc | apply Kd.R_drewN | apply Kd.R_drew)); exact Kd.R_mono HO_7.out (fun _ hk => hk.2)⟩, ⟨by (with_reducible repeat (first | apply Kd.R_alloc | apply Kd.R_drewN | apply Kd.R_drew)); exact Kd.R_mono HO196.out (fun _ hk => hk.2)⟩, ⟨by (with_reducible repeat (first | apply Kd.R_alloc | apply Kd.R_drewN | apply Kd.R_drew)); exact HO199.out⟩, ⟨by (with_reducible repeat (first | apply Kd.R_alloc | apply Kd.R_drewN | apply Kd.R_drew)); exact HO202.out⟩, ⟨by (with_reducible repeat (first | refine blk_drewN ?_ _ | refine blk_drew ?_ | refine blk_alloc ?_ _)); exact BK174.out⟩, ⟨by repeat (first | (with_reducible first | exact HB.out | apply below_alloc | apply pw_below_drewN | apply below_drew1 | refine below_set ?_ GE174.out) | exact HB.out)⟩⟩
                  case rest =>
                    clear HC71
                    try clear p1
                    try clear q1
                    try clear hx1
                    try clear hf1
                    try clear c2
                    try clear p2
                    try clear c3
                    try clear c4
                    try clear q4
                    try clear hf4
                    try clear c5
                    try clear c5b0
                    try clear c5b1
                    try clear q5
                    try clear hf5
                    try clear p6
                    try clear q6
                    try clear hf6
                    try clear c7
                    try clear q12
                    try clear hf12
                    try clear p18
                    try clear q18
                    try clear hx18
                    try clear p19
                    try clear q19
                    try clear hx19
                    try clear c26
                    try clear c27
                    try clear c28
                    try clear c28b0
                    try clear c28b1
                    try clear c32
                    try clear c33
                    try clear c33b0
                    try clear c34
                    try clear c34b0
                    try clear c35
                    try clear c35b0
                    try clear c36
                    try clear c36b0
                    try clear c36b1
                    try clear c37
                    try clear c37b0
                    try clear c37b1
                    try clear c37b2
                    try clear q40
                    try clear hf40
                    try clear c41
                    try clear c41b0
                    try clear c43
                    try clear c43b0
                    try clear c44
                    try clear c44b0
                    try clear c45
                    try clear c45b0
                    try clear c45b1
                    try clear c45b2
                    try clear q48
                    try clear hf48
                    try clear c51
                    try clear c51b0
                    try clear c52
                    try clear c52b0
                    try clear c53
                    try clear c53b0
                    try clear c53b1
                    try clear c54
                    try clear c54b0
                    try clear c54b1
                    try clear c55
                    try clear c55b0
                    try clear c55b1
                    try clear c55b2
                    try clear q58
                    try clear hf58
                    try clear q60
                    try clear hf60
                    try clear q61
                    try clear hf61
                    try clear p64
                    try clear q64
                    try clear hf64
                    try clear q66
                    try clear hf66
                    try clear q67
                    try clear hf67
                    try clear c77
                    try clear c77b0
                    try clear c77b1
                    try clear hcz16_0
                    try clear hcz16_1
                    try clear hcz21_0
                    try clear hcz21_1
                    try clear hcz39_0
                    try clear hcz39_1
                    try clear hcz47_0
                    try clear hcz47_1
                    try clear hcz57_0
                    try clear hcz57_1
                    try clear hcz63_0
                    try clear hcz63_1
                    try clear hfz16_0
                    try clear hfz16_1
                    try clear hfz21_0
                    try clear hfz21_1
                    try clear hfz39_0
                    try clear hfz39_1
                    try clear hfz47_0
                    try clear hfz47_1
                    try clear hfz57_0
                    try clear hfz57_1
                    try clear hfz63_0
                    try clear hfz63_1
                    try clear hx189_0
                    try clear hx190_0
                    try clear hx191_0
                    try clear hx192_0
                    try clear hx193_0
                    try clear p189
                    try clear p190
                    try clear p191
                    try clear p192
                    try clear p193
                    try clear p2
                    try clear p6
                    try clear q1
                    try clear q12
                    try clear q189
                    try clear q190
                    try clear q191
                    try clear q192
                    try clear q193
                    obtain ⟨kq, x119_70, rfl, HA, HJ70, HO_7, HO_10, HO_11, HO_12, BK174, HB⟩ := hcut
                    cases kq with
                    | zero => exact absurd HA.out (by simp [laws_FnTides.j2])
                    | succ kj70 =>
                      have H := HA.out
                      clear HA
                      simp only [laws_FnTides.j2] at H
                      by_cases c79 : x119_70 = true
                      · subst c79
                        have H1 : (some false) = some r := by rw [if_pos rfl] at H; exact H
                        clear H
                        have H := H1
                        clear H1
                        obtain rfl := Option.some.inj H
                        go_wp2
                        repeat (go_quiet (fail); try go_wp2)
                        go_ret
                        exact ⟨by first | rfl | (simp [errW_none, errW_some] <;> rfl) | (simp [*, errW_none, errW_some] <;> rfl), by repeat (first | (with_reducible first | exact HB.out | apply below_alloc | apply pw_below_drewN | apply below_drew1 | refine below_set ?_ GE174.out) | exact HB.out)⟩
                      · replace c79 := Bool.eq_false_iff.mpr c79
                        subst c79
                        have H1 : (laws_FnTides.l1 kj70 t185 t194 t197 t200 0 (floatOfInt .f64 t172) (floatOfInt .f64 t173)) = some r := by rw [if_neg (show ¬ (false = true) by decide)] at H; exact H
                        clear H
                        have H := H1
                        clear H1
                        have H' := Aside0.mk H
                        clear H
                        go_wp2
                        repeat (go_quiet (fail); try go_wp2)
                        go_loopg [13] kj70 (fun kq v13 w' => ∃ (x13_4 : Int), v13 = .int .i64 x13_4 ∧ Aside0 (laws_FnTides.l1 kq t185 t194 t197 t200 x13_4 (floatOfInt .f64 t172) (floatOfInt .f64 t173) = some r) ∧ Aside0 (kq ≤ kj70) ∧ Aside0 (Kd.R Kd.flt 26 w' w.heap.size (fun k_ => some k_ ≠ ((.slice Ao74 t194.length co74) : Value).ownBlock) (.slice Ao72 t185.length co72) t185) ∧ Aside0 (Kd.R Kd.flt 26 w' w.heap.size (fun k_ => some k_ ≠ ((.slice Ao72 t185.length co72) : Value).ownBlock) (.slice Ao74 t194.length co74) t194) ∧ Aside0 (Kd.R Kd.bool 4 w' w.heap.size (fun _ => True) v198 t197) ∧ Aside0 (Kd.R (Kd.int .i64) 3 w' w.heap.size (fun _ => True) v201 t200) ∧ Aside0 (w'.heap[gb174]? = some (.cells #[.float .f64 (floatOfInt .f64 t172), .float .f64 (floatOfInt .f64 t173)] 28 (0, 0))) ∧ Aside0 (Below w.heap.size w w'))
                        case atStart => exact ⟨(0), (by first | rfl | (simp; done) | (simp [*]; done) | (simp [wrap64]; done)), H', ⟨Nat.le_refl _⟩, ⟨by (with_reducible repeat (first | apply Kd.R_alloc | apply Kd.R_drewN | apply Kd.R_drew)); exact HO_7.out⟩, ⟨by (with_reducible repeat (first | apply Kd.R_alloc | apply Kd.R_drewN | apply Kd.R_drew)); exact HO_10.out⟩, ⟨by (with_reducible repeat (first | apply Kd.R_alloc | apply Kd.R_drewN | apply Kd.R_drew)); exact HO_11.out⟩, ⟨by (with_reducible repeat (first | apply Kd.R_alloc | apply Kd.R_drewN | apply Kd.R_drew)); exact HO_12.out⟩, ⟨by (with_reducible repeat (first | refine blk_drewN ?_ _ | refine blk_drew ?_ | refine blk_alloc ?_ _)); exact BK174.out⟩, ⟨by repeat (first | (with_reducible first | exact HB.out | apply below_alloc | apply pw_below_drewN | apply below_drew1 | refine below_set ?_ GE174.out) | exact HB.out)⟩⟩
                        case round =>
                          clear H'
                          try clear p1
                          try clear q1
                          try clear hx1
                          try clear hf1
                          try clear c2
                          try clear p2
                          try clear c3
                          try clear c4
                          try clear q4
                          try clear hf4
                          try clear c5
                          try clear c5b0
                          try clear c5b1
                          try clear q5
                          try clear hf5
                          try clear p6
                          try clear q6
                          try clear hf6
                          try clear c7
                          try clear q12
                          try clear hf12
                          try clear p18
                          try clear q18
                          try clear hx18
                          try clear p19
                          try clear q19
                          try clear hx19
                          try clear c26
                          try clear c27
                          try clear c28
                          try clear c28b0
                          try clear c28b1
                          try clear c32
                          try clear c33
                          try clear c33b0
                          try clear c34
                          try clear c34b0
                          try clear c35
                          try clear c35b0
                          try clear c36
                          try clear c36b0
                          try clear c36b1
                          try clear c37
                          try clear c37b0
                          try clear c37b1
                          try clear c37b2
                          try clear q40
                          try clear hf40
                          try clear c41
                          try clear c41b0
                          try clear c43
                          try clear c43b0
                          try clear c44
                          try clear c44b0
                          try clear c45
                          try clear c45b0
                          try clear c45b1
                          try clear c45b2
                          try clear q48
                          try clear hf48
                          try clear c51
                          try clear c51b0
                          try clear c52
                          try clear c52b0
                          try clear c53
                          try clear c53b0
                          try clear c53b1
                          try clear c54
                          try clear c54b0
                          try clear c54b1
                          try clear c55
                          try clear c55b0
                          try clear c55b1
                          try clear c55b2
                          try clear q58
                          try clear hf58
                          try clear q60
                          try clear hf60
                          try clear q61
                          try clear hf61
                          try clear p64
                          try clear q64
                          try clear hf64
                          try clear q66
                          try clear hf66
                          try clear q67
                          try clear hf67
                          try clear c77
                          try clear c77b0
                          try clear c77b1
                          try clear c79
                          try clear hcz16_0
                          try clear hcz16_1
                          try clear hcz21_0
                          try clear hcz21_1
                          try clear hcz39_0
                          try clear hcz39_1
                          try clear hcz47_0
                          try clear hcz47_1
                          try clear hcz57_0
                          try clear hcz57_1
                          try clear hcz63_0
                          try clear hcz63_1
                          try clear hfz16_0
                          try clear hfz16_1
                          try clear hfz21_0
                          try clear hfz21_1
                          try clear hfz39_0
                          try clear hfz39_1
                          try clear hfz47_0
                          try clear hfz47_1
                          try clear hfz57_0
                          try clear hfz57_1
                          try clear hfz63_0
                          try clear hfz63_1
                          try clear hx189_0
                          try clear hx190_0
                          try clear hx191_0
                          try clear hx192_0
                          try clear hx193_0
                          try clear p1
                          try clear p18
                          try clear p189
                          try clear p19
                          try clear p190
                          try clear p191
                          try clear p192
                          try clear p193
                          try clear p2
                          try clear p6
                          try clear p64
                          try clear q1
                          try clear q12
                          try clear q18
                          try clear q189
                          try clear q19
                          try clear q190
                          try clear q191
                          try clear q192
                          try clear q193
                          try clear q4
                          try clear q40
                          try clear q48
                          try clear q5
                          try clear q58
                          try clear q6
                          try clear q60
                          try clear q61
                          try clear q64
                          try clear q66
                          try clear q67
                          obtain ⟨x13_4, rfl, HA, HK4, HO_7, HO_10, HO_11, HO_12, BK174, HB⟩ := hrel
                          cases gk with
                          | zero => exact absurd HA.out (by simp [laws_FnTides.l1])
                          | succ k4 =>
                            have H := HA.out
                            clear HA
                            simp only [laws_FnTides.l1] at H
                            by_cases c80 : x13_4 < (t194.length : Int)
                            · rw [if_pos c80] at H
                              have c80b0 : decide (x13_4 < (t194.length : Int)) = true := decide_eq_true c80
                              clear c80
                              by_cases c81 : 0 ≤ x13_4
                              · rw [if_pos c81] at H
                                have c81b0 : decide (0 ≤ x13_4) = true := decide_eq_true c81
                                clear c81
                                by_cases c82 : x13_4 < (t185.length : Int)
                                · rw [if_pos c82] at H
                                  have c82b0 : decide (x13_4 < (t185.length : Int)) = true := decide_eq_true c82
                                  clear c82
                                  by_cases c83 : (floatBits .add .f64 (rdOf (0 : Nat) t185 x13_4) (4613937818241073152 : Nat)).isSome = true
                                  · rw [if_pos c83] at H
                                    have c83b0 := eq_true c83
                                    have c83b1 : decide ((floatBits .add .f64 (rdOf (0 : Nat) t185 x13_4) (4613937818241073152 : Nat)).isSome = true) = true := decide_eq_true c83
                                    clear c83
                                    by_cases c84 : (FloatKind.f64.format.order (rdOf (0 : Nat) t194 x13_4) ((floatBits .add .f64 (rdOf (0 : Nat) t185 x13_4) (4613937818241073152 : Nat)).getD 0) != some .eq) = true
                                    · rw [if_pos c84] at H
                                      have c84b0 : (FloatKind.f64.format.order (rdOf (0 : Nat) t194 x13_4) ((floatBits .add .f64 (rdOf (0 : Nat) t185 x13_4) (4613937818241073152 : Nat)).getD 0) != some .eq) = true := c84
                                      (try (have c84b1 : decide (FloatKind.f64.format.order (rdOf (0 : Nat) t194 x13_4) ((floatBits .add .f64 (rdOf (0 : Nat) t185 x13_4) (4613937818241073152 : Nat)).getD 0) = some .eq) = false := by simpa using c84))
                                      (try (have c84b2 : (FloatKind.f64.format.order (rdOf (0 : Nat) t194 x13_4) ((floatBits .add .f64 (rdOf (0 : Nat) t185 x13_4) (4613937818241073152 : Nat)).getD 0) == some .eq) = false := by simpa using c84))
                                      (try (have c84b3 : ¬ (FloatKind.f64.format.order (rdOf (0 : Nat) t194 x13_4) ((floatBits .add .f64 (rdOf (0 : Nat) t185 x13_4) (4613937818241073152 : Nat)).getD 0) = some .eq) := by simpa using c84))
                                      clear c84
                                      obtain rfl := Option.some.inj H
                                      have p203 : 0 ≤ (x13_4 : Int) := of_decide_eq_true (by first | (with_reducible assumption) | assumption)
                                      have q203 : x13_4 < (t194.length : Int) := of_decide_eq_true (by first | (with_reducible assumption) | assumption)
                                      obtain ⟨ad203, e203, hx203_0⟩ := Kd.at_flt (Kd.R_reads' HO_10.out).2.2 x13_4 p203 q203
                                      cases e203
                                      replace p203 := eq_true p203
                                      replace q203 := eq_true q203
                                      have p204 : 0 ≤ (x13_4 : Int) := of_decide_eq_true (by first | (with_reducible assumption) | assumption)
                                      have q204 : x13_4 < (t185.length : Int) := of_decide_eq_true (by first | (with_reducible assumption) | assumption)
                                      obtain ⟨ad204, e204, hx204_0⟩ := Kd.at_flt (Kd.R_reads' HO_7.out).2.2 x13_4 p204 q204
                                      cases e204
                                      replace p204 := eq_true p204
                                      replace q204 := eq_true q204
                                      have hq85_ : (floatBits .add .f64 (rdOf (0 : Nat) t185 x13_4) (4613937818241073152 : Nat)).isSome = true := (by first | assumption | exact of_eq_true (by assumption) | (simp only [*]))
                                      have hf85_ := fun w_ : World => run_float_arith (P := Try.prog) (w := w_) .add 26 .f64 (rdOf (0 : Nat) t185 x13_4) (4613937818241073152 : Nat) ((floatBits .add .f64 (rdOf (0 : Nat) t185 x13_4) (4613937818241073152 : Nat)).getD 0) (opt_getD_ hq85_)
                                      go_wp2
                                      repeat (go_quiet (fail); try go_wp2)
                                      go_ret
                                      exact ⟨by first | rfl | (simp [errW_none, errW_some] <;> rfl) | (simp [*, errW_none, errW_some] <;> rfl), by repeat (first | (with_reducible first | exact HB.out | apply below_alloc | apply pw_below_drewN | apply below_drew1 | refine below_set ?_ GE174.out) | exact HB.out)⟩
                                    · rw [if_neg c84] at H
                                      have c84b0 : (FloatKind.f64.format.order (rdOf (0 : Nat) t194 x13_4) ((floatBits .add .f64 (rdOf (0 : Nat) t185 x13_4) (4613937818241073152 : Nat)).getD 0) != some .eq) = false := by simpa using c84
                                      (try (have c84b1 : decide (FloatKind.f64.format.order (rdOf (0 : Nat) t194 x13_4) ((floatBits .add .f64 (rdOf (0 : Nat) t185 x13_4) (4613937818241073152 : Nat)).getD 0) = some .eq) = true := by simpa using c84))
                                      (try (have c84b2 : (FloatKind.f64.format.order (rdOf (0 : Nat) t194 x13_4) ((floatBits .add .f64 (rdOf (0 : Nat) t185 x13_4) (4613937818241073152 : Nat)).getD 0) == some .eq) = true := by simpa using c84))
                                      clear c84
                                      by_cases c86 : x13_4 < (t197.length : Int)
                                      · rw [if_pos c86] at H
                                        have c86b0 : decide (x13_4 < (t197.length : Int)) = true := decide_eq_true c86
                                        clear c86
                                        by_cases c87 : (floatBits .sub .f64 (rdOf (0 : Nat) t194 x13_4) (4607182418800017408 : Nat)).isSome = true
                                        · rw [if_pos c87] at H
                                          have c87b0 := eq_true c87
                                          have c87b1 : decide ((floatBits .sub .f64 (rdOf (0 : Nat) t194 x13_4) (4607182418800017408 : Nat)).isSome = true) = true := decide_eq_true c87
                                          clear c87
                                          by_cases c88 : (floatBits .sub .f64 ((floatBits .sub .f64 (rdOf (0 : Nat) t194 x13_4) (4607182418800017408 : Nat)).getD 0) (4602678819172646912 : Nat)).isSome = true
                                          · rw [if_pos c88] at H
                                            have c88b0 := eq_true c88
                                            have c88b1 : decide ((floatBits .sub .f64 ((floatBits .sub .f64 (rdOf (0 : Nat) t194 x13_4) (4607182418800017408 : Nat)).getD 0) (4602678819172646912 : Nat)).isSome = true) = true := decide_eq_true c88
                                            clear c88
                                            by_cases c89 : ((rdOf false t197 x13_4) != (FloatKind.f64.format.order ((floatBits .sub .f64 ((floatBits .sub .f64 (rdOf (0 : Nat) t194 x13_4) (4607182418800017408 : Nat)).getD 0) (4602678819172646912 : Nat)).getD 0) (4611686018427387904 : Nat) == some .gt || FloatKind.f64.format.order ((floatBits .sub .f64 ((floatBits .sub .f64 (rdOf (0 : Nat) t194 x13_4) (4607182418800017408 : Nat)).getD 0) (4602678819172646912 : Nat)).getD 0) (4611686018427387904 : Nat) == some .eq)) = true
                                            · rw [if_pos c89] at H
                                              have c89b0 : ((rdOf false t197 x13_4) != (FloatKind.f64.format.order ((floatBits .sub .f64 ((floatBits .sub .f64 (rdOf (0 : Nat) t194 x13_4) (4607182418800017408 : Nat)).getD 0) (4602678819172646912 : Nat)).getD 0) (4611686018427387904 : Nat) == some .gt || FloatKind.f64.format.order ((floatBits .sub .f64 ((floatBits .sub .f64 (rdOf (0 : Nat) t194 x13_4) (4607182418800017408 : Nat)).getD 0) (4602678819172646912 : Nat)).getD 0) (4611686018427387904 : Nat) == some .eq)) = true := c89
                                              (try (have c89b1 : decide ((rdOf false t197 x13_4) = (FloatKind.f64.format.order ((floatBits .sub .f64 ((floatBits .sub .f64 (rdOf (0 : Nat) t194 x13_4) (4607182418800017408 : Nat)).getD 0) (4602678819172646912 : Nat)).getD 0) (4611686018427387904 : Nat) == some .gt || FloatKind.f64.format.order ((floatBits .sub .f64 ((floatBits .sub .f64 (rdOf (0 : Nat) t194 x13_4) (4607182418800017408 : Nat)).getD 0) (4602678819172646912 : Nat)).getD 0) (4611686018427387904 : Nat) == some .eq)) = false := by simpa using c89))
                                              (try (have c89b2 : ((rdOf false t197 x13_4) == (FloatKind.f64.format.order ((floatBits .sub .f64 ((floatBits .sub .f64 (rdOf (0 : Nat) t194 x13_4) (4607182418800017408 : Nat)).getD 0) (4602678819172646912 : Nat)).getD 0) (4611686018427387904 : Nat) == some .gt || FloatKind.f64.format.order ((floatBits .sub .f64 ((floatBits .sub .f64 (rdOf (0 : Nat) t194 x13_4) (4607182418800017408 : Nat)).getD 0) (4602678819172646912 : Nat)).getD 0) (4611686018427387904 : Nat) == some .eq)) = false := by simpa using c89))
                                              (try (have c89b3 : ¬ ((rdOf false t197 x13_4) = (FloatKind.f64.format.order ((floatBits .sub .f64 ((floatBits .sub .f64 (rdOf (0 : Nat) t194 x13_4) (4607182418800017408 : Nat)).getD 0) (4602678819172646912 : Nat)).getD 0) (4611686018427387904 : Nat) == some .gt || FloatKind.f64.format.order ((floatBits .sub .f64 ((floatBits .sub .f64 (rdOf (0 : Nat) t194 x13_4) (4607182418800017408 : Nat)).getD 0) (4602678819172646912 : Nat)).getD 0) (4611686018427387904 : Nat) == some .eq)) := by simpa using c89))
                                              clear c89
                                              obtain rfl := Option.some.inj H
                                              have p203 : 0 ≤ (x13_4 : Int) := of_decide_eq_true (by first | (with_reducible assumption) | assumption)
                                              have q203 : x13_4 < (t194.length : Int) := of_decide_eq_true (by first | (with_reducible assumption) | assumption)
                                              obtain ⟨ad203, e203, hx203_0⟩ := Kd.at_flt (Kd.R_reads' HO_10.out).2.2 x13_4 p203 q203
                                              cases e203
                                              replace p203 := eq_true p203
                                              replace q203 := eq_true q203
                                              have p204 : 0 ≤ (x13_4 : Int) := of_decide_eq_true (by first | (with_reducible assumption) | assumption)
                                              have q204 : x13_4 < (t185.length : Int) := of_decide_eq_true (by first | (with_reducible assumption) | assumption)
                                              obtain ⟨ad204, e204, hx204_0⟩ := Kd.at_flt (Kd.R_reads' HO_7.out).2.2 x13_4 p204 q204
                                              cases e204
                                              replace p204 := eq_true p204
                                              replace q204 := eq_true q204
                                              have hq90_ : (floatBits .add .f64 (rdOf (0 : Nat) t185 x13_4) (4613937818241073152 : Nat)).isSome = true := (by first | assumption | exact of_eq_true (by assumption) | (simp only [*]))
                                              have hf90_ := fun w_ : World => run_float_arith (P := Try.prog) (w := w_) .add 26 .f64 (rdOf (0 : Nat) t185 x13_4) (4613937818241073152 : Nat) ((floatBits .add .f64 (rdOf (0 : Nat) t185 x13_4) (4613937818241073152 : Nat)).getD 0) (opt_getD_ hq90_)
                                              obtain ⟨Ao91, co91, eo91⟩ := Kd.R_slice HO_11.out
                                              subst eo91
                                              have p205 : 0 ≤ (x13_4 : Int) := of_decide_eq_true (by first | (with_reducible assumption) | assumption)
                                              have q205 : x13_4 < (t197.length : Int) := of_decide_eq_true (by first | (with_reducible assumption) | assumption)
                                              obtain ⟨ad205, e205, hx205_0⟩ := Kd.at_bool (Kd.R_reads' HO_11.out).2.2 x13_4 p205 q205
                                              cases e205
                                              replace p205 := eq_true p205
                                              replace q205 := eq_true q205
                                              have p206 : 0 ≤ (x13_4 : Int) := of_decide_eq_true (by first | (with_reducible assumption) | assumption)
                                              have q206 : x13_4 < (t194.length : Int) := of_decide_eq_true (by first | (with_reducible assumption) | assumption)
                                              obtain ⟨ad206, e206, hx206_0⟩ := Kd.at_flt (Kd.R_reads' HO_10.out).2.2 x13_4 p206 q206
                                              obtain rfl : ad203 = ad206 := (by injection e206)
                                              replace p206 := eq_true p206
                                              replace q206 := eq_true q206
                                              have hq92_ : (floatBits .sub .f64 (rdOf (0 : Nat) t194 x13_4) (4607182418800017408 : Nat)).isSome = true := (by first | assumption | exact of_eq_true (by assumption) | (simp only [*]))
                                              have hf92_ := fun w_ : World => run_float_arith (P := Try.prog) (w := w_) .sub 26 .f64 (rdOf (0 : Nat) t194 x13_4) (4607182418800017408 : Nat) ((floatBits .sub .f64 (rdOf (0 : Nat) t194 x13_4) (4607182418800017408 : Nat)).getD 0) (opt_getD_ hq92_)
                                              have hq93_ : (floatBits .sub .f64 ((floatBits .sub .f64 (rdOf (0 : Nat) t194 x13_4) (4607182418800017408 : Nat)).getD 0) (4602678819172646912 : Nat)).isSome = true := (by first | assumption | exact of_eq_true (by assumption) | (simp only [*]))
                                              have hf93_ := fun w_ : World => run_float_arith (P := Try.prog) (w := w_) .sub 26 .f64 ((floatBits .sub .f64 (rdOf (0 : Nat) t194 x13_4) (4607182418800017408 : Nat)).getD 0) (4602678819172646912 : Nat) ((floatBits .sub .f64 ((floatBits .sub .f64 (rdOf (0 : Nat) t194 x13_4) (4607182418800017408 : Nat)).getD 0) (4602678819172646912 : Nat)).getD 0) (opt_getD_ hq93_)
                                              go_wp2
                                              repeat (go_quiet (fail); try go_wp2)
                                              go_ret
                                              exact ⟨by first | rfl | (simp [errW_none, errW_some] <;> rfl) | (simp [*, errW_none, errW_some] <;> rfl), by repeat (first | (with_reducible first | exact HB.out | apply below_alloc | apply pw_below_drewN | apply below_drew1 | refine below_set ?_ GE174.out) | exact HB.out)⟩
                                            · rw [if_neg c89] at H
                                              have c89b0 : ((rdOf false t197 x13_4) != (FloatKind.f64.format.order ((floatBits .sub .f64 ((floatBits .sub .f64 (rdOf (0 : Nat) t194 x13_4) (4607182418800017408 : Nat)).getD 0) (4602678819172646912 : Nat)).getD 0) (4611686018427387904 : Nat) == some .gt || FloatKind.f64.format.order ((floatBits .sub .f64 ((floatBits .sub .f64 (rdOf (0 : Nat) t194 x13_4) (4607182418800017408 : Nat)).getD 0) (4602678819172646912 : Nat)).getD 0) (4611686018427387904 : Nat) == some .eq)) = false := by simpa using c89
                                              (try (have c89b1 : decide ((rdOf false t197 x13_4) = (FloatKind.f64.format.order ((floatBits .sub .f64 ((floatBits .sub .f64 (rdOf (0 : Nat) t194 x13_4) (4607182418800017408 : Nat)).getD 0) (4602678819172646912 : Nat)).getD 0) (4611686018427387904 : Nat) == some .gt || FloatKind.f64.format.order ((floatBits .sub .f64 ((floatBits .sub .f64 (rdOf (0 : Nat) t194 x13_4) (4607182418800017408 : Nat)).getD 0) (4602678819172646912 : Nat)).getD 0) (4611686018427387904 : Nat) == some .eq)) = true := by simpa using c89))
                                              (try (have c89b2 : ((rdOf false t197 x13_4) == (FloatKind.f64.format.order ((floatBits .sub .f64 ((floatBits .sub .f64 (rdOf (0 : Nat) t194 x13_4) (4607182418800017408 : Nat)).getD 0) (4602678819172646912 : Nat)).getD 0) (4611686018427387904 : Nat) == some .gt || FloatKind.f64.format.order ((floatBits .sub .f64 ((floatBits .sub .f64 (rdOf (0 : Nat) t194 x13_4) (4607182418800017408 : Nat)).getD 0) (4602678819172646912 : Nat)).getD 0) (4611686018427387904 : Nat) == some .eq)) = true := by simpa using c89))
                                              clear c89
                                              have H' := Aside0.mk H
                                              clear H
                                              have p203 : 0 ≤ (x13_4 : Int) := of_decide_eq_true (by first | (with_reducible assumption) | assumption)
                                              have q203 : x13_4 < (t194.length : Int) := of_decide_eq_true (by first | (with_reducible assumption) | assumption)
                                              obtain ⟨ad203, e203, hx203_0⟩ := Kd.at_flt (Kd.R_reads' HO_10.out).2.2 x13_4 p203 q203
                                              cases e203
                                              replace p203 := eq_true p203
                                              replace q203 := eq_true q203
                                              have p204 : 0 ≤ (x13_4 : Int) := of_decide_eq_true (by first | (with_reducible assumption) | assumption)
                                              have q204 : x13_4 < (t185.length : Int) := of_decide_eq_true (by first | (with_reducible assumption) | assumption)
                                              obtain ⟨ad204, e204, hx204_0⟩ := Kd.at_flt (Kd.R_reads' HO_7.out).2.2 x13_4 p204 q204
                                              cases e204
                                              replace p204 := eq_true p204
                                              replace q204 := eq_true q204
                                              have hq94_ : (floatBits .add .f64 (rdOf (0 : Nat) t185 x13_4) (4613937818241073152 : Nat)).isSome = true := (by first | assumption | exact of_eq_true (by assumption) | (simp only [*]))
                                              have hf94_ := fun w_ : World => run_float_arith (P := Try.prog) (w := w_) .add 26 .f64 (rdOf (0 : Nat) t185 x13_4) (4613937818241073152 : Nat) ((floatBits .add .f64 (rdOf (0 : Nat) t185 x13_4) (4613937818241073152 : Nat)).getD 0) (opt_getD_ hq94_)
                                              obtain ⟨Ao95, co95, eo95⟩ := Kd.R_slice HO_11.out
                                              subst eo95
                                              have p205 : 0 ≤ (x13_4 : Int) := of_decide_eq_true (by first | (with_reducible assumption) | assumption)
                                              have q205 : x13_4 < (t197.length : Int) := of_decide_eq_true (by first | (with_reducible assumption) | assumption)
                                              obtain ⟨ad205, e205, hx205_0⟩ := Kd.at_bool (Kd.R_reads' HO_11.out).2.2 x13_4 p205 q205
                                              cases e205
                                              replace p205 := eq_true p205
                                              replace q205 := eq_true q205
                                              have p206 : 0 ≤ (x13_4 : Int) := of_decide_eq_true (by first | (with_reducible assumption) | assumption)
                                              have q206 : x13_4 < (t194.length : Int) := of_decide_eq_true (by first | (with_reducible assumption) | assumption)
                                              obtain ⟨ad206, e206, hx206_0⟩ := Kd.at_flt (Kd.R_reads' HO_10.out).2.2 x13_4 p206 q206
                                              obtain rfl : ad203 = ad206 := (by injection e206)
                                              replace p206 := eq_true p206
                                              replace q206 := eq_true q206
                                              have hq96_ : (floatBits .sub .f64 (rdOf (0 : Nat) t194 x13_4) (4607182418800017408 : Nat)).isSome = true := (by first | assumption | exact of_eq_true (by assumption) | (simp only [*]))
                                              have hf96_ := fun w_ : World => run_float_arith (P := Try.prog) (w := w_) .sub 26 .f64 (rdOf (0 : Nat) t194 x13_4) (4607182418800017408 : Nat) ((floatBits .sub .f64 (rdOf (0 : Nat) t194 x13_4) (4607182418800017408 : Nat)).getD 0) (opt_getD_ hq96_)
                                              have hq97_ : (floatBits .sub .f64 ((floatBits .sub .f64 (rdOf (0 : Nat) t194 x13_4) (4607182418800017408 : Nat)).getD 0) (4602678819172646912 : Nat)).isSome = true := (by first | assumption | exact of_eq_true (by assumption) | (simp only [*]))
                                              have hf97_ := fun w_ : World => run_float_arith (P := Try.prog) (w := w_) .sub 26 .f64 ((floatBits .sub .f64 (rdOf (0 : Nat) t194 x13_4) (4607182418800017408 : Nat)).getD 0) (4602678819172646912 : Nat) ((floatBits .sub .f64 ((floatBits .sub .f64 (rdOf (0 : Nat) t194 x13_4) (4607182418800017408 : Nat)).getD 0) (4602678819172646912 : Nat)).getD 0) (opt_getD_ hq97_)
                                              go_wp2
                                              repeat (go_quiet (fail); try go_wp2)
                                              go_roundg k4
                                              case measure => have := HJ9.out; have := HK2.out; have := HJ70.out; have := HK4.out; omega
                                              case rel => exact ⟨(wrap64 (x13_4 + 1)), (by first | rfl | (simp; done) | (simp [*]; done) | (simp [wrap64]; done)), H', ⟨by have := HJ9.out; have := HK2.out; have := HJ70.out; have := HK4.out; omega⟩, ⟨by (with_reducible repeat (first | apply Kd.R_alloc | apply Kd.R_drewN | apply Kd.R_drew)); exact HO_7.out⟩, ⟨by (with_reducible repeat (first | apply Kd.R_alloc | apply Kd.R_drewN | apply Kd.R_drew)); exact HO_10.out⟩, ⟨by (with_reducible repeat (first | apply Kd.R_alloc | apply Kd.R_drewN | apply Kd.R_drew)); exact HO_11.out⟩, ⟨by (with_reducible repeat (first | apply Kd.R_alloc | apply Kd.R_drewN | apply Kd.R_drew)); exact HO_12.out⟩, ⟨by (with_reducible repeat (first | refine blk_drewN ?_ _ | refine blk_drew ?_ | refine blk_alloc ?_ _)); exact BK174.out⟩, ⟨by repeat (first | (with_reducible first | exact HB.out | apply below_alloc | apply pw_below_drewN | apply below_drew1 | refine below_set ?_ GE174.out) | exact HB.out)⟩⟩
                                          · rw [if_neg c88] at H
                                            exact absurd H (by simp)
                                        · rw [if_neg c87] at H
                                          exact absurd H (by simp)
                                      · rw [if_neg c86] at H
                                        exact absurd H (by simp)
                                  · rw [if_neg c83] at H
                                    exact absurd H (by simp)
                                · rw [if_neg c82] at H
                                  exact absurd H (by simp)
                              · rw [if_neg c81] at H
                                exact absurd H (by simp)
                            · rw [if_neg c80] at H
                              have c80b0 : decide (x13_4 < (t194.length : Int)) = false := decide_eq_false c80
                              clear c80
                              replace H := Option.bind_eq_some_iff.mp H
                              obtain ⟨⟨t207, t208⟩, A980, H⟩ := H
                              replace H : (if (t194.length : Int) = 9 then (if t208 = true then (if (FloatKind.f64.format.order t207 (4604930618986332160 : Nat) == some .eq) = true then (if (FloatKind.f64.format.order (floatOfInt .f64 t172) (0 : Nat) == some .eq) = true then (if (FloatKind.f64.format.order (floatOfInt .f64 t173) (0 : Nat) == some .eq) = true then (some true) else (some (decide ((t200.length : Int) > 0)))) else (some (decide ((t200.length : Int) > 0)))) else (some false)) else (some false)) else (some false)) = some r := H
                              have A98 := Aside0.mk A980
                              clear A980
                              by_cases c99 : (t194.length : Int) = 9
                              · rw [if_pos c99] at H
                                have c99b0 : ((t194.length : Int) == 9) = true := beq_iff_eq.mpr c99
                                have c99b1 : ((t194.length : Int) != 9) = false := bne_eq_false_iff_eq.mpr c99
                                clear c99
                                by_cases c100 : t208 = true
                                · subst c100
                                  have H1 : (if (FloatKind.f64.format.order t207 (4604930618986332160 : Nat) == some .eq) = true then (if (FloatKind.f64.format.order (floatOfInt .f64 t172) (0 : Nat) == some .eq) = true then (if (FloatKind.f64.format.order (floatOfInt .f64 t173) (0 : Nat) == some .eq) = true then (some true) else (some (decide ((t200.length : Int) > 0)))) else (some (decide ((t200.length : Int) > 0)))) else (some false)) = some r := by rw [if_pos rfl] at H; exact H
                                  clear H
                                  have H := H1
                                  clear H1
                                  by_cases c101 : (FloatKind.f64.format.order t207 (4604930618986332160 : Nat) == some .eq) = true
                                  · rw [if_pos c101] at H
                                    have c101b0 : (FloatKind.f64.format.order t207 (4604930618986332160 : Nat) == some .eq) = true := c101
                                    (try (have c101b1 : decide (FloatKind.f64.format.order t207 (4604930618986332160 : Nat) = some .eq) = true := by simpa using c101))
                                    (try (have c101b2 : (FloatKind.f64.format.order t207 (4604930618986332160 : Nat) == some .eq) = true := by simpa using c101))
                                    clear c101
                                    by_cases c102 : (FloatKind.f64.format.order (floatOfInt .f64 t172) (0 : Nat) == some .eq) = true
                                    · rw [if_pos c102] at H
                                      have c102b0 : (FloatKind.f64.format.order (floatOfInt .f64 t172) (0 : Nat) == some .eq) = true := c102
                                      (try (have c102b1 : decide (FloatKind.f64.format.order (floatOfInt .f64 t172) (0 : Nat) = some .eq) = true := by simpa using c102))
                                      (try (have c102b2 : (FloatKind.f64.format.order (floatOfInt .f64 t172) (0 : Nat) == some .eq) = true := by simpa using c102))
                                      clear c102
                                      by_cases c103 : (FloatKind.f64.format.order (floatOfInt .f64 t173) (0 : Nat) == some .eq) = true
                                      · rw [if_pos c103] at H
                                        have c103b0 : (FloatKind.f64.format.order (floatOfInt .f64 t173) (0 : Nat) == some .eq) = true := c103
                                        (try (have c103b1 : decide (FloatKind.f64.format.order (floatOfInt .f64 t173) (0 : Nat) = some .eq) = true := by simpa using c103))
                                        (try (have c103b2 : (FloatKind.f64.format.order (floatOfInt .f64 t173) (0 : Nat) == some .eq) = true := by simpa using c103))
                                        clear c103
                                        obtain rfl := Option.some.inj H
                                        go_wp2_with (first | (go_at_call 20; (with_reducible refine (impl_Squat.calls k4 (4621819117588971520 : Nat) (4602678819172646912 : Nat) (4616189618054758400 : Nat) (4620693217682128896 : Nat) t207 true _ A98.out).mono ?_); rintro e w104 ⟨rfl, hb⟩; have n0_ := Aside0.mk (Kd.R_below (by (with_reducible repeat (first | apply Kd.R_alloc | apply Kd.R_drewN | apply Kd.R_drew)); exact HO_7.out) hb); have n1_ := Aside0.mk (Kd.R_below (by (with_reducible repeat (first | apply Kd.R_alloc | apply Kd.R_drewN | apply Kd.R_drew)); exact HO_10.out) hb); have n2_ := Aside0.mk (Kd.R_below (by (with_reducible repeat (first | apply Kd.R_alloc | apply Kd.R_drewN | apply Kd.R_drew)); exact HO_11.out) hb); have n3_ := Aside0.mk (Kd.R_below (by (with_reducible repeat (first | apply Kd.R_alloc | apply Kd.R_drewN | apply Kd.R_drew)); exact HO_12.out) hb); have n4_ := Aside0.mk (blk_below (g := gb174) (o := .cells #[.float .f64 (floatOfInt .f64 t172), .float .f64 (floatOfInt .f64 t173)] 28 (0, 0)) (by (with_reducible repeat (first | refine blk_drewN ?_ _ | refine blk_drew ?_ | refine blk_alloc ?_ _)); exact BK174.out) hb); have n5_ := Aside0.mk (below_step (by repeat (first | (with_reducible first | exact HB.out | apply below_alloc | apply pw_below_drewN | apply below_drew1 | refine below_set ?_ GE174.out) | exact HB.out)) hb); clear HO_7; clear HO_10; clear HO_11; clear HO_12; clear BK174; clear HB; have HO_7 := n0_; have HO_10 := n1_; have HO_11 := n2_; have HO_12 := n3_; have BK174 := n4_; have HB := n5_; clear n0_ n1_ n2_ n3_ n4_ n5_; (try clear hb); (try clear hb2); (try clear hk); (try clear hi); have hcz105_0 : w104.cell? ⟨gb174, 0, none⟩ = some (.float .f64 (floatOfInt .f64 t172)) := (blk_cell BK174.out 0).trans rfl; have hcz105_1 : w104.cell? ⟨gb174, 1, none⟩ = some (.float .f64 (floatOfInt .f64 t173)) := (blk_cell BK174.out 1).trans rfl; have hfz105_0 := blk_frozen BK174.out 0; have hfz105_1 := blk_frozen BK174.out 1))
                                        repeat (go_quiet (first | (go_at_call 20; (with_reducible refine (impl_Squat.calls k4 (4621819117588971520 : Nat) (4602678819172646912 : Nat) (4616189618054758400 : Nat) (4620693217682128896 : Nat) t207 true _ A98.out).mono ?_); rintro e w104 ⟨rfl, hb⟩; have n0_ := Aside0.mk (Kd.R_below (by (with_reducible repeat (first | apply Kd.R_alloc | apply Kd.R_drewN | apply Kd.R_drew)); exact HO_7.out) hb); have n1_ := Aside0.mk (Kd.R_below (by (with_reducible repeat (first | apply Kd.R_alloc | apply Kd.R_drewN | apply Kd.R_drew)); exact HO_10.out) hb); have n2_ := Aside0.mk (Kd.R_below (by (with_reducible repeat (first | apply Kd.R_alloc | apply Kd.R_drewN | apply Kd.R_drew)); exact HO_11.out) hb); have n3_ := Aside0.mk (Kd.R_below (by (with_reducible repeat (first | apply Kd.R_alloc | apply Kd.R_drewN | apply Kd.R_drew)); exact HO_12.out) hb); have n4_ := Aside0.mk (blk_below (g := gb174) (o := .cells #[.float .f64 (floatOfInt .f64 t172), .float .f64 (floatOfInt .f64 t173)] 28 (0, 0)) (by (with_reducible repeat (first | refine blk_drewN ?_ _ | refine blk_drew ?_ | refine blk_alloc ?_ _)); exact BK174.out) hb); have n5_ := Aside0.mk (below_step (by repeat (first | (with_reducible first | exact HB.out | apply below_alloc | apply pw_below_drewN | apply below_drew1 | refine below_set ?_ GE174.out) | exact HB.out)) hb); clear HO_7; clear HO_10; clear HO_11; clear HO_12; clear BK174; clear HB; have HO_7 := n0_; have HO_10 := n1_; have HO_11 := n2_; have HO_12 := n3_; have BK174 := n4_; have HB := n5_; clear n0_ n1_ n2_ n3_ n4_ n5_; (try clear hb); (try clear hb2); (try clear hk); (try clear hi); have hcz105_0 : w104.cell? ⟨gb174, 0, none⟩ = some (.float .f64 (floatOfInt .f64 t172)) := (blk_cell BK174.out 0).trans rfl; have hcz105_1 : w104.cell? ⟨gb174, 1, none⟩ = some (.float .f64 (floatOfInt .f64 t173)) := (blk_cell BK174.out 1).trans rfl; have hfz105_0 := blk_frozen BK174.out 0; have hfz105_1 := blk_frozen BK174.out 1)); try go_wp2_with (first | (go_at_call 20; (with_reducible refine (impl_Squat.calls k4 (4621819117588971520 : Nat) (4602678819172646912 : Nat) (4616189618054758400 : Nat) (4620693217682128896 : Nat) t207 true _ A98.out).mono ?_); rintro e w104 ⟨rfl, hb⟩; have n0_ := Aside0.mk (Kd.R_below (by (with_reducible repeat (first | apply Kd.R_alloc | apply Kd.R_drewN | apply Kd.R_drew)); exact HO_7.out) hb); have n1_ := Aside0.mk (Kd.R_below (by (with_reducible repeat (first | apply Kd.R_alloc | apply Kd.R_drewN | apply Kd.R_drew)); exact HO_10.out) hb); have n2_ := Aside0.mk (Kd.R_below (by (with_reducible repeat (first | apply Kd.R_alloc | apply Kd.R_drewN | apply Kd.R_drew)); exact HO_11.out) hb); have n3_ := Aside0.mk (Kd.R_below (by (with_reducible repeat (first | apply Kd.R_alloc | apply Kd.R_drewN | apply Kd.R_drew)); exact HO_12.out) hb); have n4_ := Aside0.mk (blk_below (g := gb174) (o := .cells #[.float .f64 (floatOfInt .f64 t172), .float .f64 (floatOfInt .f64 t173)] 28 (0, 0)) (by (with_reducible repeat (first | refine blk_drewN ?_ _ | refine blk_drew ?_ | refine blk_alloc ?_ _)); exact BK174.out) hb); have n5_ := Aside0.mk (below_step (by repeat (first | (with_reducible first | exact HB.out | apply below_alloc | apply pw_below_drewN | apply below_drew1 | refine below_set ?_ GE174.out) | exact HB.out)) hb); clear HO_7; clear HO_10; clear HO_11; clear HO_12; clear BK174; clear HB; have HO_7 := n0_; have HO_10 := n1_; have HO_11 := n2_; have HO_12 := n3_; have BK174 := n4_; have HB := n5_; clear n0_ n1_ n2_ n3_ n4_ n5_; (try clear hb); (try clear hb2); (try clear hk); (try clear hi); have hcz105_0 : w104.cell? ⟨gb174, 0, none⟩ = some (.float .f64 (floatOfInt .f64 t172)) := (blk_cell BK174.out 0).trans rfl; have hcz105_1 : w104.cell? ⟨gb174, 1, none⟩ = some (.float .f64 (floatOfInt .f64 t173)) := (blk_cell BK174.out 1).trans rfl; have hfz105_0 := blk_frozen BK174.out 0; have hfz105_1 := blk_frozen BK174.out 1)))
                                        go_ret
                                        exact ⟨by first | rfl | (simp [errW_none, errW_some] <;> rfl) | (simp [*, errW_none, errW_some] <;> rfl), by repeat (first | (with_reducible first | exact HB.out | apply below_alloc | apply pw_below_drewN | apply below_drew1 | refine below_set ?_ GE174.out) | exact HB.out)⟩
                                      · rw [if_neg c103] at H
                                        have c103b0 : (FloatKind.f64.format.order (floatOfInt .f64 t173) (0 : Nat) == some .eq) = false := by simpa using c103
                                        (try (have c103b1 : decide (FloatKind.f64.format.order (floatOfInt .f64 t173) (0 : Nat) = some .eq) = false := by simpa using c103))
                                        (try (have c103b2 : (FloatKind.f64.format.order (floatOfInt .f64 t173) (0 : Nat) == some .eq) = false := by simpa using c103))
                                        (try (have c103b3 : ¬ (FloatKind.f64.format.order (floatOfInt .f64 t173) (0 : Nat) = some .eq) := by simpa using c103))
                                        clear c103
                                        obtain rfl := Option.some.inj H
                                        go_wp2_with (first | (go_at_call 20; (with_reducible refine (impl_Squat.calls k4 (4621819117588971520 : Nat) (4602678819172646912 : Nat) (4616189618054758400 : Nat) (4620693217682128896 : Nat) t207 true _ A98.out).mono ?_); rintro e w106 ⟨rfl, hb⟩; have n0_ := Aside0.mk (Kd.R_below (by (with_reducible repeat (first | apply Kd.R_alloc | apply Kd.R_drewN | apply Kd.R_drew)); exact HO_7.out) hb); have n1_ := Aside0.mk (Kd.R_below (by (with_reducible repeat (first | apply Kd.R_alloc | apply Kd.R_drewN | apply Kd.R_drew)); exact HO_10.out) hb); have n2_ := Aside0.mk (Kd.R_below (by (with_reducible repeat (first | apply Kd.R_alloc | apply Kd.R_drewN | apply Kd.R_drew)); exact HO_11.out) hb); have n3_ := Aside0.mk (Kd.R_below (by (with_reducible repeat (first | apply Kd.R_alloc | apply Kd.R_drewN | apply Kd.R_drew)); exact HO_12.out) hb); have n4_ := Aside0.mk (blk_below (g := gb174) (o := .cells #[.float .f64 (floatOfInt .f64 t172), .float .f64 (floatOfInt .f64 t173)] 28 (0, 0)) (by (with_reducible repeat (first | refine blk_drewN ?_ _ | refine blk_drew ?_ | refine blk_alloc ?_ _)); exact BK174.out) hb); have n5_ := Aside0.mk (below_step (by repeat (first | (with_reducible first | exact HB.out | apply below_alloc | apply pw_below_drewN | apply below_drew1 | refine below_set ?_ GE174.out) | exact HB.out)) hb); clear HO_7; clear HO_10; clear HO_11; clear HO_12; clear BK174; clear HB; have HO_7 := n0_; have HO_10 := n1_; have HO_11 := n2_; have HO_12 := n3_; have BK174 := n4_; have HB := n5_; clear n0_ n1_ n2_ n3_ n4_ n5_; (try clear hb); (try clear hb2); (try clear hk); (try clear hi); have hcz107_0 : w106.cell? ⟨gb174, 0, none⟩ = some (.float .f64 (floatOfInt .f64 t172)) := (blk_cell BK174.out 0).trans rfl; have hcz107_1 : w106.cell? ⟨gb174, 1, none⟩ = some (.float .f64 (floatOfInt .f64 t173)) := (blk_cell BK174.out 1).trans rfl; have hfz107_0 := blk_frozen BK174.out 0; have hfz107_1 := blk_frozen BK174.out 1; obtain ⟨Ao108, co108, eo108⟩ := Kd.R_slice HO_12.out; subst eo108))
                                        repeat (go_quiet (first | (go_at_call 20; (with_reducible refine (impl_Squat.calls k4 (4621819117588971520 : Nat) (4602678819172646912 : Nat) (4616189618054758400 : Nat) (4620693217682128896 : Nat) t207 true _ A98.out).mono ?_); rintro e w106 ⟨rfl, hb⟩; have n0_ := Aside0.mk (Kd.R_below (by (with_reducible repeat (first | apply Kd.R_alloc | apply Kd.R_drewN | apply Kd.R_drew)); exact HO_7.out) hb); have n1_ := Aside0.mk (Kd.R_below (by (with_reducible repeat (first | apply Kd.R_alloc | apply Kd.R_drewN | apply Kd.R_drew)); exact HO_10.out) hb); have n2_ := Aside0.mk (Kd.R_below (by (with_reducible repeat (first | apply Kd.R_alloc | apply Kd.R_drewN | apply Kd.R_drew)); exact HO_11.out) hb); have n3_ := Aside0.mk (Kd.R_below (by (with_reducible repeat (first | apply Kd.R_alloc | apply Kd.R_drewN | apply Kd.R_drew)); exact HO_12.out) hb); have n4_ := Aside0.mk (blk_below (g := gb174) (o := .cells #[.float .f64 (floatOfInt .f64 t172), .float .f64 (floatOfInt .f64 t173)] 28 (0, 0)) (by (with_reducible repeat (first | refine blk_drewN ?_ _ | refine blk_drew ?_ | refine blk_alloc ?_ _)); exact BK174.out) hb); have n5_ := Aside0.mk (below_step (by repeat (first | (with_reducible first | exact HB.out | apply below_alloc | apply pw_below_drewN | apply below_drew1 | refine below_set ?_ GE174.out) | exact HB.out)) hb); clear HO_7; clear HO_10; clear HO_11; clear HO_12; clear BK174; clear HB; have HO_7 := n0_; have HO_10 := n1_; have HO_11 := n2_; have HO_12 := n3_; have BK174 := n4_; have HB := n5_; clear n0_ n1_ n2_ n3_ n4_ n5_; (try clear hb); (try clear hb2); (try clear hk); (try clear hi); have hcz107_0 : w106.cell? ⟨gb174, 0, none⟩ = some (.float .f64 (floatOfInt .f64 t172)) := (blk_cell BK174.out 0).trans rfl; have hcz107_1 : w106.cell? ⟨gb174, 1, none⟩ = some (.float .f64 (floatOfInt .f64 t173)) := (blk_cell BK174.out 1).trans rfl; have hfz107_0 := blk_frozen BK174.out 0; have hfz107_1 := blk_frozen BK174.out 1; obtain ⟨Ao108, co108, eo108⟩ := Kd.R_slice HO_12.out; subst eo108)); try go_wp2_with (first | (go_at_call 20; (with_reducible refine (impl_Squat.calls k4 (4621819117588971520 : Nat) (4602678819172646912 : Nat) (4616189618054758400 : Nat) (4620693217682128896 : Nat) t207 true _ A98.out).mono ?_); rintro e w106 ⟨rfl, hb⟩; have n0_ := Aside0.mk (Kd.R_below (by (with_reducible repeat (first | apply Kd.R_alloc | apply Kd.R_drewN | apply Kd.R_drew)); exact HO_7.out) hb); have n1_ := Aside0.mk (Kd.R_below (by (with_reducible repeat (first | apply Kd.R_alloc | apply Kd.R_drewN | apply Kd.R_drew)); exact HO_10.out) hb); have n2_ := Aside0.mk (Kd.R_below (by (with_reducible repeat (first | apply Kd.R_alloc | apply Kd.R_drewN | apply Kd.R_drew)); exact HO_11.out) hb); have n3_ := Aside0.mk (Kd.R_below (by (with_reducible repeat (first | apply Kd.R_alloc | apply Kd.R_drewN | apply Kd.R_drew)); exact HO_12.out) hb); have n4_ := Aside0.mk (blk_below (g := gb174) (o := .cells #[.float .f64 (floatOfInt .f64 t172), .float .f64 (floatOfInt .f64 t173)] 28 (0, 0)) (by (with_reducible repeat (first | refine blk_drewN ?_ _ | refine blk_drew ?_ | refine blk_alloc ?_ _)); exact BK174.out) hb); have n5_ := Aside0.mk (below_step (by repeat (first | (with_reducible first | exact HB.out | apply below_alloc | apply pw_below_drewN | apply below_drew1 | refine below_set ?_ GE174.out) | exact HB.out)) hb); clear HO_7; clear HO_10; clear HO_11; clear HO_12; clear BK174; clear HB; have HO_7 := n0_; have HO_10 := n1_; have HO_11 := n2_; have HO_12 := n3_; have BK174 := n4_; have HB := n5_; clear n0_ n1_ n2_ n3_ n4_ n5_; (try clear hb); (try clear hb2); (try clear hk); (try clear hi); have hcz107_0 : w106.cell? ⟨gb174, 0, none⟩ = some (.float .f64 (floatOfInt .f64 t172)) := (blk_cell BK174.out 0).trans rfl; have hcz107_1 : w106.cell? ⟨gb174, 1, none⟩ = some (.float .f64 (floatOfInt .f64 t173)) := (blk_cell BK174.out 1).trans rfl; have hfz107_0 := blk_frozen BK174.out 0; have hfz107_1 := blk_frozen BK174.out 1; obtain ⟨Ao108, co108, eo108⟩ := Kd.R_slice HO_12.out; subst eo108)))
                                        go_ret
                                        exact ⟨by first | rfl | (simp [errW_none, errW_some] <;> rfl) | (simp [*, errW_none, errW_some] <;> rfl), by repeat (first | (with_reducible first | exact HB.out | apply below_alloc | apply pw_below_drewN | apply below_drew1 | refine below_set ?_ GE174.out) | exact HB.out)⟩
                                    · rw [if_neg c102] at H
                                      have c102b0 : (FloatKind.f64.format.order (floatOfInt .f64 t172) (0 : Nat) == some .eq) = false := by simpa using c102
                                      (try (have c102b1 : decide (FloatKind.f64.format.order (floatOfInt .f64 t172) (0 : Nat) = some .eq) = false := by simpa using c102))
                                      (try (have c102b2 : (FloatKind.f64.format.order (floatOfInt .f64 t172) (0 : Nat) == some .eq) = false := by simpa using c102))
                                      (try (have c102b3 : ¬ (FloatKind.f64.format.order (floatOfInt .f64 t172) (0 : Nat) = some .eq) := by simpa using c102))
                                      clear c102
                                      obtain rfl := Option.some.inj H
                                      go_wp2_with (first | (go_at_call 20; (with_reducible refine (impl_Squat.calls k4 (4621819117588971520 : Nat) (4602678819172646912 : Nat) (4616189618054758400 : Nat) (4620693217682128896 : Nat) t207 true _ A98.out).mono ?_); rintro e w109 ⟨rfl, hb⟩; have n0_ := Aside0.mk (Kd.R_below (by (with_reducible repeat (first | apply Kd.R_alloc | apply Kd.R_drewN | apply Kd.R_drew)); exact HO_7.out) hb); have n1_ := Aside0.mk (Kd.R_below (by (with_reducible repeat (first | apply Kd.R_alloc | apply Kd.R_drewN | apply Kd.R_drew)); exact HO_10.out) hb); have n2_ := Aside0.mk (Kd.R_below (by (with_reducible repeat (first | apply Kd.R_alloc | apply Kd.R_drewN | apply Kd.R_drew)); exact HO_11.out) hb); have n3_ := Aside0.mk (Kd.R_below (by (with_reducible repeat (first | apply Kd.R_alloc | apply Kd.R_drewN | apply Kd.R_drew)); exact HO_12.out) hb); have n4_ := Aside0.mk (blk_below (g := gb174) (o := .cells #[.float .f64 (floatOfInt .f64 t172), .float .f64 (floatOfInt .f64 t173)] 28 (0, 0)) (by (with_reducible repeat (first | refine blk_drewN ?_ _ | refine blk_drew ?_ | refine blk_alloc ?_ _)); exact BK174.out) hb); have n5_ := Aside0.mk (below_step (by repeat (first | (with_reducible first | exact HB.out | apply below_alloc | apply pw_below_drewN | apply below_drew1 | refine below_set ?_ GE174.out) | exact HB.out)) hb); clear HO_7; clear HO_10; clear HO_11; clear HO_12; clear BK174; clear HB; have HO_7 := n0_; have HO_10 := n1_; have HO_11 := n2_; have HO_12 := n3_; have BK174 := n4_; have HB := n5_; clear n0_ n1_ n2_ n3_ n4_ n5_; (try clear hb); (try clear hb2); (try clear hk); (try clear hi); have hcz110_0 : w109.cell? ⟨gb174, 0, none⟩ = some (.float .f64 (floatOfInt .f64 t172)) := (blk_cell BK174.out 0).trans rfl; have hcz110_1 : w109.cell? ⟨gb174, 1, none⟩ = some (.float .f64 (floatOfInt .f64 t173)) := (blk_cell BK174.out 1).trans rfl; have hfz110_0 := blk_frozen BK174.out 0; have hfz110_1 := blk_frozen BK174.out 1; obtain ⟨Ao111, co111, eo111⟩ := Kd.R_slice HO_12.out; subst eo111))
                                      repeat (go_quiet (first | (go_at_call 20; (with_reducible refine (impl_Squat.calls k4 (4621819117588971520 : Nat) (4602678819172646912 : Nat) (4616189618054758400 : Nat) (4620693217682128896 : Nat) t207 true _ A98.out).mono ?_); rintro e w109 ⟨rfl, hb⟩; have n0_ := Aside0.mk (Kd.R_below (by (with_reducible repeat (first | apply Kd.R_alloc | apply Kd.R_drewN | apply Kd.R_drew)); exact HO_7.out) hb); have n1_ := Aside0.mk (Kd.R_below (by (with_reducible repeat (first | apply Kd.R_alloc | apply Kd.R_drewN | apply Kd.R_drew)); exact HO_10.out) hb); have n2_ := Aside0.mk (Kd.R_below (by (with_reducible repeat (first | apply Kd.R_alloc | apply Kd.R_drewN | apply Kd.R_drew)); exact HO_11.out) hb); have n3_ := Aside0.mk (Kd.R_below (by (with_reducible repeat (first | apply Kd.R_alloc | apply Kd.R_drewN | apply Kd.R_drew)); exact HO_12.out) hb); have n4_ := Aside0.mk (blk_below (g := gb174) (o := .cells #[.float .f64 (floatOfInt .f64 t172), .float .f64 (floatOfInt .f64 t173)] 28 (0, 0)) (by (with_reducible repeat (first | refine blk_drewN ?_ _ | refine blk_drew ?_ | refine blk_alloc ?_ _)); exact BK174.out) hb); have n5_ := Aside0.mk (below_step (by repeat (first | (with_reducible first | exact HB.out | apply below_alloc | apply pw_below_drewN | apply below_drew1 | refine below_set ?_ GE174.out) | exact HB.out)) hb); clear HO_7; clear HO_10; clear HO_11; clear HO_12; clear BK174; clear HB; have HO_7 := n0_; have HO_10 := n1_; have HO_11 := n2_; have HO_12 := n3_; have BK174 := n4_; have HB := n5_; clear n0_ n1_ n2_ n3_ n4_ n5_; (try clear hb); (try clear hb2); (try clear hk); (try clear hi); have hcz110_0 : w109.cell? ⟨gb174, 0, none⟩ = some (.float .f64 (floatOfInt .f64 t172)) := (blk_cell BK174.out 0).trans rfl; have hcz110_1 : w109.cell? ⟨gb174, 1, none⟩ = some (.float .f64 (floatOfInt .f64 t173)) := (blk_cell BK174.out 1).trans rfl; have hfz110_0 := blk_frozen BK174.out 0; have hfz110_1 := blk_frozen BK174.out 1; obtain ⟨Ao111, co111, eo111⟩ := Kd.R_slice HO_12.out; subst eo111)); try go_wp2_with (first | (go_at_call 20; (with_reducible refine (impl_Squat.calls k4 (4621819117588971520 : Nat) (4602678819172646912 : Nat) (4616189618054758400 : Nat) (4620693217682128896 : Nat) t207 true _ A98.out).mono ?_); rintro e w109 ⟨rfl, hb⟩; have n0_ := Aside0.mk (Kd.R_below (by (with_reducible repeat (first | apply Kd.R_alloc | apply Kd.R_drewN | apply Kd.R_drew)); exact HO_7.out) hb); have n1_ := Aside0.mk (Kd.R_below (by (with_reducible repeat (first | apply Kd.R_alloc | apply Kd.R_drewN | apply Kd.R_drew)); exact HO_10.out) hb); have n2_ := Aside0.mk (Kd.R_below (by (with_reducible repeat (first | apply Kd.R_alloc | apply Kd.R_drewN | apply Kd.R_drew)); exact HO_11.out) hb); have n3_ := Aside0.mk (Kd.R_below (by (with_reducible repeat (first | apply Kd.R_alloc | apply Kd.R_drewN | apply Kd.R_drew)); exact HO_12.out) hb); have n4_ := Aside0.mk (blk_below (g := gb174) (o := .cells #[.float .f64 (floatOfInt .f64 t172), .float .f64 (floatOfInt .f64 t173)] 28 (0, 0)) (by (with_reducible repeat (first | refine blk_drewN ?_ _ | refine blk_drew ?_ | refine blk_alloc ?_ _)); exact BK174.out) hb); have n5_ := Aside0.mk (below_step (by repeat (first | (with_reducible first | exact HB.out | apply below_alloc | apply pw_below_drewN | apply below_drew1 | refine below_set ?_ GE174.out) | exact HB.out)) hb); clear HO_7; clear HO_10; clear HO_11; clear HO_12; clear BK174; clear HB; have HO_7 := n0_; have HO_10 := n1_; have HO_11 := n2_; have HO_12 := n3_; have BK174 := n4_; have HB := n5_; clear n0_ n1_ n2_ n3_ n4_ n5_; (try clear hb); (try clear hb2); (try clear hk); (try clear hi); have hcz110_0 : w109.cell? ⟨gb174, 0, none⟩ = some (.float .f64 (floatOfInt .f64 t172)) := (blk_cell BK174.out 0).trans rfl; have hcz110_1 : w109.cell? ⟨gb174, 1, none⟩ = some (.float .f64 (floatOfInt .f64 t173)) := (blk_cell BK174.out 1).trans rfl; have hfz110_0 := blk_frozen BK174.out 0; have hfz110_1 := blk_frozen BK174.out 1; obtain ⟨Ao111, co111, eo111⟩ := Kd.R_slice HO_12.out; subst eo111)))
                                      go_ret
                                      exact ⟨by first | rfl | (simp [errW_none, errW_some] <;> rfl) | (simp [*, errW_none, errW_some] <;> rfl), by repeat (first | (with_reducible first | exact HB.out | apply below_alloc | apply pw_below_drewN | apply below_drew1 | refine below_set ?_ GE174.out) | exact HB.out)⟩
                                  · rw [if_neg c101] at H
                                    have c101b0 : (FloatKind.f64.format.order t207 (4604930618986332160 : Nat) == some .eq) = false := by simpa using c101
                                    (try (have c101b1 : decide (FloatKind.f64.format.order t207 (4604930618986332160 : Nat) = some .eq) = false := by simpa using c101))
                                    (try (have c101b2 : (FloatKind.f64.format.order t207 (4604930618986332160 : Nat) == some .eq) = false := by simpa using c101))
                                    (try (have c101b3 : ¬ (FloatKind.f64.format.order t207 (4604930618986332160 : Nat) = some .eq) := by simpa using c101))
                                    clear c101
                                    obtain rfl := Option.some.inj H
                                    go_wp2_with (first | (go_at_call 20; (with_reducible refine (impl_Squat.calls k4 (4621819117588971520 : Nat) (4602678819172646912 : Nat) (4616189618054758400 : Nat) (4620693217682128896 : Nat) t207 true _ A98.out).mono ?_); rintro e w112 ⟨rfl, hb⟩; have n0_ := Aside0.mk (Kd.R_below (by (with_reducible repeat (first | apply Kd.R_alloc | apply Kd.R_drewN | apply Kd.R_drew)); exact HO_7.out) hb); have n1_ := Aside0.mk (Kd.R_below (by (with_reducible repeat (first | apply Kd.R_alloc | apply Kd.R_drewN | apply Kd.R_drew)); exact HO_10.out) hb); have n2_ := Aside0.mk (Kd.R_below (by (with_reducible repeat (first | apply Kd.R_alloc | apply Kd.R_drewN | apply Kd.R_drew)); exact HO_11.out) hb); have n3_ := Aside0.mk (Kd.R_below (by (with_reducible repeat (first | apply Kd.R_alloc | apply Kd.R_drewN | apply Kd.R_drew)); exact HO_12.out) hb); have n4_ := Aside0.mk (blk_below (g := gb174) (o := .cells #[.float .f64 (floatOfInt .f64 t172), .float .f64 (floatOfInt .f64 t173)] 28 (0, 0)) (by (with_reducible repeat (first | refine blk_drewN ?_ _ | refine blk_drew ?_ | refine blk_alloc ?_ _)); exact BK174.out) hb); have n5_ := Aside0.mk (below_step (by repeat (first | (with_reducible first | exact HB.out | apply below_alloc | apply pw_below_drewN | apply below_drew1 | refine below_set ?_ GE174.out) | exact HB.out)) hb); clear HO_7; clear HO_10; clear HO_11; clear HO_12; clear BK174; clear HB; have HO_7 := n0_; have HO_10 := n1_; have HO_11 := n2_; have HO_12 := n3_; have BK174 := n4_; have HB := n5_; clear n0_ n1_ n2_ n3_ n4_ n5_; (try clear hb); (try clear hb2); (try clear hk); (try clear hi)))
                                    repeat (go_quiet (first | (go_at_call 20; (with_reducible refine (impl_Squat.calls k4 (4621819117588971520 : Nat) (4602678819172646912 : Nat) (4616189618054758400 : Nat) (4620693217682128896 : Nat) t207 true _ A98.out).mono ?_); rintro e w112 ⟨rfl, hb⟩; have n0_ := Aside0.mk (Kd.R_below (by (with_reducible repeat (first | apply Kd.R_alloc | apply Kd.R_drewN | apply Kd.R_drew)); exact HO_7.out) hb); have n1_ := Aside0.mk (Kd.R_below (by (with_reducible repeat (first | apply Kd.R_alloc | apply Kd.R_drewN | apply Kd.R_drew)); exact HO_10.out) hb); have n2_ := Aside0.mk (Kd.R_below (by (with_reducible repeat (first | apply Kd.R_alloc | apply Kd.R_drewN | apply Kd.R_drew)); exact HO_11.out) hb); have n3_ := Aside0.mk (Kd.R_below (by (with_reducible repeat (first | apply Kd.R_alloc | apply Kd.R_drewN | apply Kd.R_drew)); exact HO_12.out) hb); have n4_ := Aside0.mk (blk_below (g := gb174) (o := .cells #[.float .f64 (floatOfInt .f64 t172), .float .f64 (floatOfInt .f64 t173)] 28 (0, 0)) (by (with_reducible repeat (first | refine blk_drewN ?_ _ | refine blk_drew ?_ | refine blk_alloc ?_ _)); exact BK174.out) hb); have n5_ := Aside0.mk (below_step (by repeat (first | (with_reducible first | exact HB.out | apply below_alloc | apply pw_below_drewN | apply below_drew1 | refine below_set ?_ GE174.out) | exact HB.out)) hb); clear HO_7; clear HO_10; clear HO_11; clear HO_12; clear BK174; clear HB; have HO_7 := n0_; have HO_10 := n1_; have HO_11 := n2_; have HO_12 := n3_; have BK174 := n4_; have HB := n5_; clear n0_ n1_ n2_ n3_ n4_ n5_; (try clear hb); (try clear hb2); (try clear hk); (try clear hi))); try go_wp2_with (first | (go_at_call 20; (with_reducible refine (impl_Squat.calls k4 (4621819117588971520 : Nat) (4602678819172646912 : Nat) (4616189618054758400 : Nat) (4620693217682128896 : Nat) t207 true _ A98.out).mono ?_); rintro e w112 ⟨rfl, hb⟩; have n0_ := Aside0.mk (Kd.R_below (by (with_reducible repeat (first | apply Kd.R_alloc | apply Kd.R_drewN | apply Kd.R_drew)); exact HO_7.out) hb); have n1_ := Aside0.mk (Kd.R_below (by (with_reducible repeat (first | apply Kd.R_alloc | apply Kd.R_drewN | apply Kd.R_drew)); exact HO_10.out) hb); have n2_ := Aside0.mk (Kd.R_below (by (with_reducible repeat (first | apply Kd.R_alloc | apply Kd.R_drewN | apply Kd.R_drew)); exact HO_11.out) hb); have n3_ := Aside0.mk (Kd.R_below (by (with_reducible repeat (first | apply Kd.R_alloc | apply Kd.R_drewN | apply Kd.R_drew)); exact HO_12.out) hb); have n4_ := Aside0.mk (blk_below (g := gb174) (o := .cells #[.float .f64 (floatOfInt .f64 t172), .float .f64 (floatOfInt .f64 t173)] 28 (0, 0)) (by (with_reducible repeat (first | refine blk_drewN ?_ _ | refine blk_drew ?_ | refine blk_alloc ?_ _)); exact BK174.out) hb); have n5_ := Aside0.mk (below_step (by repeat (first | (with_reducible first | exact HB.out | apply below_alloc | apply pw_below_drewN | apply below_drew1 | refine below_set ?_ GE174.out) | exact HB.out)) hb); clear HO_7; clear HO_10; clear HO_11; clear HO_12; clear BK174; clear HB; have HO_7 := n0_; have HO_10 := n1_; have HO_11 := n2_; have HO_12 := n3_; have BK174 := n4_; have HB := n5_; clear n0_ n1_ n2_ n3_ n4_ n5_; (try clear hb); (try clear hb2); (try clear hk); (try clear hi))))
                                    go_ret
                                    exact ⟨by first | rfl | (simp [errW_none, errW_some] <;> rfl) | (simp [*, errW_none, errW_some] <;> rfl), by repeat (first | (with_reducible first | exact HB.out | apply below_alloc | apply pw_below_drewN | apply below_drew1 | refine below_set ?_ GE174.out) | exact HB.out)⟩
                                · replace c100 := Bool.eq_false_iff.mpr c100
                                  subst c100
                                  have H1 : (some false) = some r := by rw [if_neg (show ¬ (false = true) by decide)] at H; exact H
                                  clear H
                                  have H := H1
                                  clear H1
                                  obtain rfl := Option.some.inj H
                                  go_wp2_with (first | (go_at_call 20; (with_reducible refine (impl_Squat.calls k4 (4621819117588971520 : Nat) (4602678819172646912 : Nat) (4616189618054758400 : Nat) (4620693217682128896 : Nat) t207 false _ A98.out).mono ?_); rintro e w113 ⟨rfl, hb⟩; have n0_ := Aside0.mk (Kd.R_below (by (with_reducible repeat (first | apply Kd.R_alloc | apply Kd.R_drewN | apply Kd.R_drew)); exact HO_7.out) hb); have n1_ := Aside0.mk (Kd.R_below (by (with_reducible repeat (first | apply Kd.R_alloc | apply Kd.R_drewN | apply Kd.R_drew)); exact HO_10.out) hb); have n2_ := Aside0.mk (Kd.R_below (by (with_reducible repeat (first | apply Kd.R_alloc | apply Kd.R_drewN | apply Kd.R_drew)); exact HO_11.out) hb); have n3_ := Aside0.mk (Kd.R_below (by (with_reducible repeat (first | apply Kd.R_alloc | apply Kd.R_drewN | apply Kd.R_drew)); exact HO_12.out) hb); have n4_ := Aside0.mk (blk_below (g := gb174) (o := .cells #[.float .f64 (floatOfInt .f64 t172), .float .f64 (floatOfInt .f64 t173)] 28 (0, 0)) (by (with_reducible repeat (first | refine blk_drewN ?_ _ | refine blk_drew ?_ | refine blk_alloc ?_ _)); exact BK174.out) hb); have n5_ := Aside0.mk (below_step (by repeat (first | (with_reducible first | exact HB.out | apply below_alloc | apply pw_below_drewN | apply below_drew1 | refine below_set ?_ GE174.out) | exact HB.out)) hb); clear HO_7; clear HO_10; clear HO_11; clear HO_12; clear BK174; clear HB; have HO_7 := n0_; have HO_10 := n1_; have HO_11 := n2_; have HO_12 := n3_; have BK174 := n4_; have HB := n5_; clear n0_ n1_ n2_ n3_ n4_ n5_; (try clear hb); (try clear hb2); (try clear hk); (try clear hi)))
                                  repeat (go_quiet (first | (go_at_call 20; (with_reducible refine (impl_Squat.calls k4 (4621819117588971520 : Nat) (4602678819172646912 : Nat) (4616189618054758400 : Nat) (4620693217682128896 : Nat) t207 false _ A98.out).mono ?_); rintro e w113 ⟨rfl, hb⟩; have n0_ := Aside0.mk (Kd.R_below (by (with_reducible repeat (first | apply Kd.R_alloc | apply Kd.R_drewN | apply Kd.R_drew)); exact HO_7.out) hb); have n1_ := Aside0.mk (Kd.R_below (by (with_reducible repeat (first | apply Kd.R_alloc | apply Kd.R_drewN | apply Kd.R_drew)); exact HO_10.out) hb); have n2_ := Aside0.mk (Kd.R_below (by (with_reducible repeat (first | apply Kd.R_alloc | apply Kd.R_drewN | apply Kd.R_drew)); exact HO_11.out) hb); have n3_ := Aside0.mk (Kd.R_below (by (with_reducible repeat (first | apply Kd.R_alloc | apply Kd.R_drewN | apply Kd.R_drew)); exact HO_12.out) hb); have n4_ := Aside0.mk (blk_below (g := gb174) (o := .cells #[.float .f64 (floatOfInt .f64 t172), .float .f64 (floatOfInt .f64 t173)] 28 (0, 0)) (by (with_reducible repeat (first | refine blk_drewN ?_ _ | refine blk_drew ?_ | refine blk_alloc ?_ _)); exact BK174.out) hb); have n5_ := Aside0.mk (below_step (by repeat (first | (with_reducible first | exact HB.out | apply below_alloc | apply pw_below_drewN | apply below_drew1 | refine below_set ?_ GE174.out) | exact HB.out)) hb); clear HO_7; clear HO_10; clear HO_11; clear HO_12; clear BK174; clear HB; have HO_7 := n0_; have HO_10 := n1_; have HO_11 := n2_; have HO_12 := n3_; have BK174 := n4_; have HB := n5_; clear n0_ n1_ n2_ n3_ n4_ n5_; (try clear hb); (try clear hb2); (try clear hk); (try clear hi))); try go_wp2_with (first | (go_at_call 20; (with_reducible refine (impl_Squat.calls k4 (4621819117588971520 : Nat) (4602678819172646912 : Nat) (4616189618054758400 : Nat) (4620693217682128896 : Nat) t207 false _ A98.out).mono ?_); rintro e w113 ⟨rfl, hb⟩; have n0_ := Aside0.mk (Kd.R_below (by (with_reducible repeat (first | apply Kd.R_alloc | apply Kd.R_drewN | apply Kd.R_drew)); exact HO_7.out) hb); have n1_ := Aside0.mk (Kd.R_below (by (with_reducible repeat (first | apply Kd.R_alloc | apply Kd.R_drewN | apply Kd.R_drew)); exact HO_10.out) hb); have n2_ := Aside0.mk (Kd.R_below (by (with_reducible repeat (first | apply Kd.R_alloc | apply Kd.R_drewN | apply Kd.R_drew)); exact HO_11.out) hb); have n3_ := Aside0.mk (Kd.R_below (by (with_reducible repeat (first | apply Kd.R_alloc | apply Kd.R_drewN | apply Kd.R_drew)); exact HO_12.out) hb); have n4_ := Aside0.mk (blk_below (g := gb174) (o := .cells #[.float .f64 (floatOfInt .f64 t172), .float .f64 (floatOfInt .f64 t173)] 28 (0, 0)) (by (with_reducible repeat (first | refine blk_drewN ?_ _ | refine blk_drew ?_ | refine blk_alloc ?_ _)); exact BK174.out) hb); have n5_ := Aside0.mk (below_step (by repeat (first | (with_reducible first | exact HB.out | apply below_alloc | apply pw_below_drewN | apply below_drew1 | refine below_set ?_ GE174.out) | exact HB.out)) hb); clear HO_7; clear HO_10; clear HO_11; clear HO_12; clear BK174; clear HB; have HO_7 := n0_; have HO_10 := n1_; have HO_11 := n2_; have HO_12 := n3_; have BK174 := n4_; have HB := n5_; clear n0_ n1_ n2_ n3_ n4_ n5_; (try clear hb); (try clear hb2); (try clear hk); (try clear hi))))
                                  go_ret
                                  exact ⟨by first | rfl | (simp [errW_none, errW_some] <;> rfl) | (simp [*, errW_none, errW_some] <;> rfl), by repeat (first | (with_reducible first | exact HB.out | apply below_alloc | apply pw_below_drewN | apply below_drew1 | refine below_set ?_ GE174.out) | exact HB.out)⟩
                              · rw [if_neg c99] at H
                                have c99b0 : ((t194.length : Int) == 9) = false := beq_eq_false_iff_ne.mpr c99
                                have c99b1 : ((t194.length : Int) != 9) = true := bne_iff_ne.mpr c99
                                obtain rfl := Option.some.inj H
                                go_wp2_with (first | (go_at_call 20; (with_reducible refine (impl_Squat.calls k4 (4621819117588971520 : Nat) (4602678819172646912 : Nat) (4616189618054758400 : Nat) (4620693217682128896 : Nat) t207 t208 _ A98.out).mono ?_); rintro e w114 ⟨rfl, hb⟩; have n0_ := Aside0.mk (Kd.R_below (by (with_reducible repeat (first | apply Kd.R_alloc | apply Kd.R_drewN | apply Kd.R_drew)); exact HO_7.out) hb); have n1_ := Aside0.mk (Kd.R_below (by (with_reducible repeat (first | apply Kd.R_alloc | apply Kd.R_drewN | apply Kd.R_drew)); exact HO_10.out) hb); have n2_ := Aside0.mk (Kd.R_below (by (with_reducible repeat (first | apply Kd.R_alloc | apply Kd.R_drewN | apply Kd.R_drew)); exact HO_11.out) hb); have n3_ := Aside0.mk (Kd.R_below (by (with_reducible repeat (first | apply Kd.R_alloc | apply Kd.R_drewN | apply Kd.R_drew)); exact HO_12.out) hb); have n4_ := Aside0.mk (blk_below (g := gb174) (o := .cells #[.float .f64 (floatOfInt .f64 t172), .float .f64 (floatOfInt .f64 t173)] 28 (0, 0)) (by (with_reducible repeat (first | refine blk_drewN ?_ _ | refine blk_drew ?_ | refine blk_alloc ?_ _)); exact BK174.out) hb); have n5_ := Aside0.mk (below_step (by repeat (first | (with_reducible first | exact HB.out | apply below_alloc | apply pw_below_drewN | apply below_drew1 | refine below_set ?_ GE174.out) | exact HB.out)) hb); clear HO_7; clear HO_10; clear HO_11; clear HO_12; clear BK174; clear HB; have HO_7 := n0_; have HO_10 := n1_; have HO_11 := n2_; have HO_12 := n3_; have BK174 := n4_; have HB := n5_; clear n0_ n1_ n2_ n3_ n4_ n5_; (try clear hb); (try clear hb2); (try clear hk); (try clear hi)))
                                repeat (go_quiet (first | (go_at_call 20; (with_reducible refine (impl_Squat.calls k4 (4621819117588971520 : Nat) (4602678819172646912 : Nat) (4616189618054758400 : Nat) (4620693217682128896 : Nat) t207 t208 _ A98.out).mono ?_); rintro e w114 ⟨rfl, hb⟩; have n0_ := Aside0.mk (Kd.R_below (by (with_reducible repeat (first | apply Kd.R_alloc | apply Kd.R_drewN | apply Kd.R_drew)); exact HO_7.out) hb); have n1_ := Aside0.mk (Kd.R_below (by (with_reducible repeat (first | apply Kd.R_alloc | apply Kd.R_drewN | apply Kd.R_drew)); exact HO_10.out) hb); have n2_ := Aside0.mk (Kd.R_below (by (with_reducible repeat (first | apply Kd.R_alloc | apply Kd.R_drewN | apply Kd.R_drew)); exact HO_11.out) hb); have n3_ := Aside0.mk (Kd.R_below (by (with_reducible repeat (first | apply Kd.R_alloc | apply Kd.R_drewN | apply Kd.R_drew)); exact HO_12.out) hb); have n4_ := Aside0.mk (blk_below (g := gb174) (o := .cells #[.float .f64 (floatOfInt .f64 t172), .float .f64 (floatOfInt .f64 t173)] 28 (0, 0)) (by (with_reducible repeat (first | refine blk_drewN ?_ _ | refine blk_drew ?_ | refine blk_alloc ?_ _)); exact BK174.out) hb); have n5_ := Aside0.mk (below_step (by repeat (first | (with_reducible first | exact HB.out | apply below_alloc | apply pw_below_drewN | apply below_drew1 | refine below_set ?_ GE174.out) | exact HB.out)) hb); clear HO_7; clear HO_10; clear HO_11; clear HO_12; clear BK174; clear HB; have HO_7 := n0_; have HO_10 := n1_; have HO_11 := n2_; have HO_12 := n3_; have BK174 := n4_; have HB := n5_; clear n0_ n1_ n2_ n3_ n4_ n5_; (try clear hb); (try clear hb2); (try clear hk); (try clear hi))); try go_wp2_with (first | (go_at_call 20; (with_reducible refine (impl_Squat.calls k4 (4621819117588971520 : Nat) (4602678819172646912 : Nat) (4616189618054758400 : Nat) (4620693217682128896 : Nat) t207 t208 _ A98.out).mono ?_); rintro e w114 ⟨rfl, hb⟩; have n0_ := Aside0.mk (Kd.R_below (by (with_reducible repeat (first | apply Kd.R_alloc | apply Kd.R_drewN | apply Kd.R_drew)); exact HO_7.out) hb); have n1_ := Aside0.mk (Kd.R_below (by (with_reducible repeat (first | apply Kd.R_alloc | apply Kd.R_drewN | apply Kd.R_drew)); exact HO_10.out) hb); have n2_ := Aside0.mk (Kd.R_below (by (with_reducible repeat (first | apply Kd.R_alloc | apply Kd.R_drewN | apply Kd.R_drew)); exact HO_11.out) hb); have n3_ := Aside0.mk (Kd.R_below (by (with_reducible repeat (first | apply Kd.R_alloc | apply Kd.R_drewN | apply Kd.R_drew)); exact HO_12.out) hb); have n4_ := Aside0.mk (blk_below (g := gb174) (o := .cells #[.float .f64 (floatOfInt .f64 t172), .float .f64 (floatOfInt .f64 t173)] 28 (0, 0)) (by (with_reducible repeat (first | refine blk_drewN ?_ _ | refine blk_drew ?_ | refine blk_alloc ?_ _)); exact BK174.out) hb); have n5_ := Aside0.mk (below_step (by repeat (first | (with_reducible first | exact HB.out | apply below_alloc | apply pw_below_drewN | apply below_drew1 | refine below_set ?_ GE174.out) | exact HB.out)) hb); clear HO_7; clear HO_10; clear HO_11; clear HO_12; clear BK174; clear HB; have HO_7 := n0_; have HO_10 := n1_; have HO_11 := n2_; have HO_12 := n3_; have BK174 := n4_; have HB := n5_; clear n0_ n1_ n2_ n3_ n4_ n5_; (try clear hb); (try clear hb2); (try clear hk); (try clear hi))))
                                go_ret
                                exact ⟨by first | rfl | (simp [errW_none, errW_some] <;> rfl) | (simp [*, errW_none, errW_some] <;> rfl), by repeat (first | (with_reducible first | exact HB.out | apply below_alloc | apply pw_below_drewN | apply below_drew1 | refine below_set ?_ GE174.out) | exact HB.out)⟩
    · rw [if_neg c5] at H
      exact absurd H (by simp)

/-- THE ONE PURE STATEMENT of laws_FnTides: yours. -/
def laws_FnTides.Pure : Prop := ∀ (l0 : List Int), l0.length ≤ maxLen → l0.length * 1 ≤ 140737488351232 → (∀ x ∈ l0, (Lit.int .u8 x).wf = true) → ∃ k, laws_FnTides.f k l0 = some true
theorem laws_FnTides.walk (P : laws_FnTides.Pure) (a0 : Option Addr) (len0 cap0 : Nat) (z0 : List Int) (w : World) (w0 : (a0 = none ∧ len0 = 0 ∧ cap0 = 0 ∧ z0 = []) ∨ ∃ x, a0 = some x ∧ len0 ≤ cap0 ∧ cap0 ≤ maxLen ∧ z0.length = cap0 ∧ (∀ i, i < z0.length → w.cell? (x.add i) = some (.int .u8 (z0.getD i 0))) ∧ ∀ n ∈ z0, (Lit.int .u8 n).wf = true) (y0 : len0 * 1 ≤ 140737488351232) :
    Calls Try.prog 5 #[.slice a0 len0 cap0] w fun e w' => e = .returned (.bool true) ∧ Below w.heap.size w w' := by
  obtain ⟨l0, rfl, hr0, hm0, hw0, hc0⟩ := ReadsInt.ofRowC w0
  obtain ⟨k, h⟩ := P l0 hm0 y0 hw0
  refine (laws_FnTides.calls k _ _ l0 true w (Kd.C_of_reads (d := (0 : Int)) (h1 := fun _ => rfl) hr0) hc0 h).mono ?_
  rintro e w' ⟨rfl, hd⟩
  exact ⟨rfl, hd⟩

end Go.Proofs.Ytchobalepjmeiaa.PFnTides
