/- The Lean side of Go functions of this seat: what each answers, and that its run comes to that answer; written by a program of this work. -/
import Derived.Test.YtchobalepjmeiaaPFnTidesx0
import Derived.Test.YtchobalepjmeiaaPFnTidesx1
import Derived.Test.YtchobalepjmeiaaPFnTidesx3
namespace Go.Proofs.Ytchobalepjmeiaa.PFnTides
open Go.RowKit Go.Proofs.YtchobalepjmeiaaW.PrintWords Go.Proofs.YtchobalepjmeiaaW.PrintLast Go.Proofs.YtchobalepjmeiaaW.PrintMore
attribute [local go_sem] run_store_float un_neg_float_ max2_int min2_int max_two min_two max_three min_three max_four min_four   -- for this text's walks alone
set_option linter.unusedVariables false
set_option linter.unusedSimpArgs false

/-! ### math_IsInf: function 36 -/
def math_IsInf.f (a0 : Nat) (a1 : Int) : Option (Bool) := if a1 = 0 then ((math_Abs.f a0).bind fun t159 => (some (FloatKind.f64.format.order t159 (9218868437227405311 : Nat) == some .gt))) else (if a1 < 0 then (some (FloatKind.f64.format.order (Op.negFloat .f64 a0) (9218868437227405311 : Nat) == some .gt)) else (some (FloatKind.f64.format.order a0 (9218868437227405311 : Nat) == some .gt)))
set_option maxHeartbeats 8000000 in
set_option maxRecDepth 100000 in
theorem math_IsInf.calls (a0 : Nat) (a1 : Int) (r : Bool) (w : World) (h : math_IsInf.f a0 a1 = some r) :
    Calls Try.prog 36 #[.float .f64 a0, .int .i64 a1] w fun e w' => e = .returned (.bool r) ∧ Drawn0 w w' := by
  have H : (if a1 = 0 then ((math_Abs.f a0).bind fun t159 => (some (FloatKind.f64.format.order t159 (9218868437227405311 : Nat) == some .gt))) else (if a1 < 0 then (some (FloatKind.f64.format.order (Op.negFloat .f64 a0) (9218868437227405311 : Nat) == some .gt)) else (some (FloatKind.f64.format.order a0 (9218868437227405311 : Nat) == some .gt)))) = some r := h
  clear h
  by_cases c3 : a1 = 0
  · rw [if_pos c3] at H
    have c3b0 : (a1 == 0) = true := beq_iff_eq.mpr c3
    have c3b1 : (a1 != 0) = false := bne_eq_false_iff_eq.mpr c3
    clear c3
    replace H := Option.bind_eq_some_iff.mp H
    obtain ⟨t159, A40, H⟩ := H
    replace H : (some (FloatKind.f64.format.order t159 (9218868437227405311 : Nat) == some .gt)) = some r := H
    have A4 := Aside0.mk A40
    clear A40
    obtain rfl := Option.some.inj H
    go_enter Try.func36, Try.ntmps36
    go_wp2_with (first | ((with_reducible refine gate_callee (f := 31) rfl ?_); refine goesL_ (some 8) rfl rfl Try.func31 (by kernel_rfl) rfl #[.float .f64 a0] rfl (by (try simp only [List.map_toArray, List.map_cons, List.map_nil]); first | done | rfl | (simp only [List.length_drop, List.length_take]; rfl)) ?_; (with_reducible refine (math_Abs.calls a0 t159 _ A4.out).mono ?_); rintro e w' ⟨rfl, ⟨nd, rfl⟩⟩; refine ⟨_, rfl, ?_⟩))
    go_ret
    exact ⟨by first | rfl | (simp; done) | (simp [*]; done) | (simp [wrap64]; done), by repeat (first | exact Drawn0.refl _ | apply Drawn0.step)⟩
  · rw [if_neg c3] at H
    have c3b0 : (a1 == 0) = false := beq_eq_false_iff_ne.mpr c3
    have c3b1 : (a1 != 0) = true := bne_iff_ne.mpr c3
    by_cases c5 : a1 < 0
    · rw [if_pos c5] at H
      have c5b0 : decide (a1 < 0) = true := decide_eq_true c5
      clear c5
      obtain rfl := Option.some.inj H
      go_enter Try.func36, Try.ntmps36
      go_wp2
      go_ret
      exact ⟨by first | rfl | (simp; done) | (simp [*]; done) | (simp [wrap64]; done), by repeat (first | exact Drawn0.refl _ | apply Drawn0.step)⟩
    · rw [if_neg c5] at H
      have c5b0 : decide (a1 < 0) = false := decide_eq_false c5
      clear c5
      obtain rfl := Option.some.inj H
      go_enter Try.func36, Try.ntmps36
      go_wp2
      go_ret
      exact ⟨by first | rfl | (simp; done) | (simp [*]; done) | (simp [wrap64]; done), by repeat (first | exact Drawn0.refl _ | apply Drawn0.step)⟩

/-! ### impl_finite: function 30 -/
def impl_finite.l0 : Nat → List Nat → Int → Int → Option (Bool)
  | 0, _, _, _ => none
  | k + 1, x5, x6, x7 => if x7 < x6 then (if 0 ≤ x7 then (if x7 < (x5.length : Int) then ((math_IsNaN.f (rdOf (0 : Nat) x5 x7)).bind fun t161 => (if t161 = true then (some false) else ((math_IsInf.f (rdOf (0 : Nat) x5 x7) 0).bind fun t162 => (if t162 = true then (some false) else (impl_finite.l0 k x5 x6 (wrap64 (x7 + 1))))))) else (none)) else (none)) else (some true)
def impl_finite.f (k : Nat) (l0 : List Nat) : Option (Bool) := impl_finite.l0 k l0 (l0.length : Int) 0
theorem impl_finite.mono_l : ∀ k, (∀ y0 y1 y2, LeO (impl_finite.l0 k y0 y1 y2) (impl_finite.l0 (k + 1) y0 y1 y2))
  | 0 => fun _ _ _ r h => by simp [impl_finite.l0] at h
  | k + 1 => by
    have ih0 := impl_finite.mono_l k
    · intro y0 y1 y2
      unfold impl_finite.l0
      repeat' first
      | (with_reducible exact ih0 _ _ _)
      | (with_reducible exact LeO.refl _)
      | (with_reducible exact LeO.none _)
      | (with_reducible refine LeO.ite ?_ ?_)
      | (with_reducible refine LeO.bind ?_ (fun _ => ?_))
      | exact ih0 _ _ _
      | exact LeO.none _
      | refine LeO.ite ?_ ?_
      | refine LeO.bind ?_ (fun _ => ?_)
theorem impl_finite.mono : ∀ a0 k, LeO (impl_finite.f k a0) (impl_finite.f (k + 1) a0) := by
  intro a0 k
  have ih0 := impl_finite.mono_l k
  unfold impl_finite.f
  repeat' first
      | (with_reducible exact ih0 _ _ _)
      | (with_reducible exact LeO.refl _)
      | (with_reducible exact LeO.none _)
      | (with_reducible refine LeO.ite ?_ ?_)
      | (with_reducible refine LeO.bind ?_ (fun _ => ?_))
      | exact ih0 _ _ _
      | exact LeO.none _
      | refine LeO.ite ?_ ?_
      | refine LeO.bind ?_ (fun _ => ?_)
set_option maxHeartbeats 8000000 in
set_option maxRecDepth 100000 in
theorem impl_finite.calls (k : Nat) (A0 : Option Addr) (c0 : Nat) (l0 : List Nat) (r : Bool) (w : World) (hr0 : Kd.C Kd.flt w A0 l0.length l0) (hc0 : l0.length ≤ c0) (h : impl_finite.f k l0 = some r) :
    Calls Try.prog 30 #[.slice A0 l0.length c0] w fun e w' => e = .returned (.bool r) ∧ Drawn0 w w' := by
  have HR0 := Aside0.mk hr0
  have HC0 := Aside0.mk hc0
  clear hr0 hc0
  have H : (impl_finite.l0 k l0 (l0.length : Int) 0) = some r := h
  clear h
  have H' := Aside0.mk H
  clear H
  go_enter Try.func30, Try.ntmps30
  go_wp2
  go_loopg [7] k (fun kq v7 w' => ∃ (x7_1 : Int), v7 = .int .i64 x7_1 ∧ Aside0 (impl_finite.l0 kq l0 (l0.length : Int) x7_1 = some r) ∧ Aside0 (kq ≤ k) ∧ Drawn0 w w')
  case atStart => exact ⟨(0), (by first | rfl | (simp; done) | (simp [*]; done) | (simp [wrap64]; done)), H', ⟨Nat.le_refl _⟩, by repeat (first | exact Drawn0.refl _ | apply Drawn0.step)⟩
  case round =>
    clear H'
    obtain ⟨x7_1, rfl, HA, HK1, ⟨m1, rfl⟩⟩ := hrel
    cases gk with
    | zero => exact absurd HA.out (by simp [impl_finite.l0])
    | succ k1 =>
      have H := HA.out
      clear HA
      simp only [impl_finite.l0] at H
      by_cases c2 : x7_1 < (l0.length : Int)
      · rw [if_pos c2] at H
        have c2b0 : decide (x7_1 < (l0.length : Int)) = true := decide_eq_true c2
        clear c2
        by_cases c3 : 0 ≤ x7_1
        · rw [if_pos c3] at H
          have c3b0 : decide (0 ≤ x7_1) = true := decide_eq_true c3
          clear c3
          by_cases c4 : x7_1 < (l0.length : Int)
          · rw [if_pos c4] at H
            have c4b0 : decide (x7_1 < (l0.length : Int)) = true := decide_eq_true c4
            clear c4
            replace H := Option.bind_eq_some_iff.mp H
            obtain ⟨t161, A50, H⟩ := H
            replace H : (if t161 = true then (some false) else ((math_IsInf.f (rdOf (0 : Nat) l0 x7_1) 0).bind fun t162 => (if t162 = true then (some false) else (impl_finite.l0 k1 l0 (l0.length : Int) (wrap64 (x7_1 + 1)))))) = some r := H
            have A5 := Aside0.mk A50
            clear A50
            by_cases c6 : t161 = true
            · subst c6
              have H1 : (some false) = some r := by rw [if_pos rfl] at H; exact H
              clear H
              have H := H1
              clear H1
              obtain rfl := Option.some.inj H
              have p160 : 0 ≤ (x7_1 : Int) := of_decide_eq_true (by first | (with_reducible assumption) | assumption)
              have q160 : x7_1 < (l0.length : Int) := of_decide_eq_true (by first | (with_reducible assumption) | assumption)
              obtain ⟨ad160, e160, hx160_0⟩ := Kd.at_flt HR0.out x7_1 p160 q160
              cases e160
              replace p160 := eq_true p160
              replace q160 := eq_true q160
              go_wp2_with (first | ((with_reducible refine gate_callee (f := 35) rfl ?_); refine goesL_ (some 12) rfl rfl Try.func35 (by kernel_rfl) rfl #[.float .f64 (rdOf (0 : Nat) l0 x7_1)] rfl (by (try simp only [List.map_toArray, List.map_cons, List.map_nil]); first | done | rfl | (simp only [List.length_drop, List.length_take]; rfl)) ?_; (with_reducible refine (math_IsNaN.calls (rdOf (0 : Nat) l0 x7_1) true _ A5.out).mono ?_); rintro e w' ⟨rfl, ⟨nd, rfl⟩⟩; refine ⟨_, rfl, ?_⟩))
              go_ret
              exact ⟨by first | rfl | (simp; done) | (simp [*]; done) | (simp [wrap64]; done), by repeat (first | exact Drawn0.refl _ | apply Drawn0.step)⟩
            · replace c6 := Bool.eq_false_iff.mpr c6
              subst c6
              have H1 : ((math_IsInf.f (rdOf (0 : Nat) l0 x7_1) 0).bind fun t162 => (if t162 = true then (some false) else (impl_finite.l0 k1 l0 (l0.length : Int) (wrap64 (x7_1 + 1))))) = some r := by rw [if_neg (show ¬ (false = true) by decide)] at H; exact H
              clear H
              have H := H1
              clear H1
              replace H := Option.bind_eq_some_iff.mp H
              obtain ⟨t162, A70, H⟩ := H
              replace H : (if t162 = true then (some false) else (impl_finite.l0 k1 l0 (l0.length : Int) (wrap64 (x7_1 + 1)))) = some r := H
              have A7 := Aside0.mk A70
              clear A70
              by_cases c8 : t162 = true
              · subst c8
                have H1 : (some false) = some r := by rw [if_pos rfl] at H; exact H
                clear H
                have H := H1
                clear H1
                obtain rfl := Option.some.inj H
                have p160 : 0 ≤ (x7_1 : Int) := of_decide_eq_true (by first | (with_reducible assumption) | assumption)
                have q160 : x7_1 < (l0.length : Int) := of_decide_eq_true (by first | (with_reducible assumption) | assumption)
                obtain ⟨ad160, e160, hx160_0⟩ := Kd.at_flt HR0.out x7_1 p160 q160
                cases e160
                replace p160 := eq_true p160
                replace q160 := eq_true q160
                go_wp2_with (first | ((with_reducible refine gate_callee (f := 35) rfl ?_); refine goesL_ (some 12) rfl rfl Try.func35 (by kernel_rfl) rfl #[.float .f64 (rdOf (0 : Nat) l0 x7_1)] rfl (by (try simp only [List.map_toArray, List.map_cons, List.map_nil]); first | done | rfl | (simp only [List.length_drop, List.length_take]; rfl)) ?_; (with_reducible refine (math_IsNaN.calls (rdOf (0 : Nat) l0 x7_1) false _ A5.out).mono ?_); rintro e w' ⟨rfl, ⟨nd, rfl⟩⟩; refine ⟨_, rfl, ?_⟩) | (go_at_call 36; (with_reducible refine (math_IsInf.calls (rdOf (0 : Nat) l0 x7_1) 0 true _ A7.out).mono ?_); rintro e w' ⟨rfl, ⟨nd, rfl⟩⟩))
                go_ret
                exact ⟨by first | rfl | (simp; done) | (simp [*]; done) | (simp [wrap64]; done), by repeat (first | exact Drawn0.refl _ | apply Drawn0.step)⟩
              · replace c8 := Bool.eq_false_iff.mpr c8
                subst c8
                have H1 : (impl_finite.l0 k1 l0 (l0.length : Int) (wrap64 (x7_1 + 1))) = some r := by rw [if_neg (show ¬ (false = true) by decide)] at H; exact H
                clear H
                have H := H1
                clear H1
                have H' := Aside0.mk H
                clear H
                have p160 : 0 ≤ (x7_1 : Int) := of_decide_eq_true (by first | (with_reducible assumption) | assumption)
                have q160 : x7_1 < (l0.length : Int) := of_decide_eq_true (by first | (with_reducible assumption) | assumption)
                obtain ⟨ad160, e160, hx160_0⟩ := Kd.at_flt HR0.out x7_1 p160 q160
                cases e160
                replace p160 := eq_true p160
                replace q160 := eq_true q160
                go_wp2_with (first | ((with_reducible refine gate_callee (f := 35) rfl ?_); refine goesL_ (some 12) rfl rfl Try.func35 (by kernel_rfl) rfl #[.float .f64 (rdOf (0 : Nat) l0 x7_1)] rfl (by (try simp only [List.map_toArray, List.map_cons, List.map_nil]); first | done | rfl | (simp only [List.length_drop, List.length_take]; rfl)) ?_; (with_reducible refine (math_IsNaN.calls (rdOf (0 : Nat) l0 x7_1) false _ A5.out).mono ?_); rintro e w' ⟨rfl, ⟨nd, rfl⟩⟩; refine ⟨_, rfl, ?_⟩) | (go_at_call 36; (with_reducible refine (math_IsInf.calls (rdOf (0 : Nat) l0 x7_1) 0 false _ A7.out).mono ?_); rintro e w' ⟨rfl, ⟨nd, rfl⟩⟩))
                go_roundg k1
                case measure => have := HK1.out; omega
                case rel => exact ⟨(wrap64 (x7_1 + 1)), (by first | rfl | (simp; done) | (simp [*]; done) | (simp [wrap64]; done)), H', ⟨by have := HK1.out; omega⟩, by repeat (first | exact Drawn0.refl _ | apply Drawn0.step)⟩
          · rw [if_neg c4] at H
            exact absurd H (by simp)
        · rw [if_neg c3] at H
          exact absurd H (by simp)
      · rw [if_neg c2] at H
        have c2b0 : decide (x7_1 < (l0.length : Int)) = false := decide_eq_false c2
        clear c2
        obtain rfl := Option.some.inj H
        go_wp2
        go_ret
        exact ⟨by first | rfl | (simp; done) | (simp [*]; done) | (simp [wrap64]; done), by repeat (first | exact Drawn0.refl _ | apply Drawn0.step)⟩

/-! ### impl_Squat: function 20 -/
def impl_Squat.j0 : Nat → Nat → Nat → Nat → Nat → Bool → Option (Nat × Bool)
  | 0, _, _, _, _, _ => none
  | k + 1, x0, x1, x2, x3, x32 => if x32 = true then (some ((0 : Nat), false)) else ((impl_by.f x0 x0).bind fun t167 => ((impl_by.f t167 x1).bind fun t168 => (if (floatBits .quo .f64 x2 x3).isSome = true then (if (floatBits .add .f64 (4607182418800017408 : Nat) ((floatBits .quo .f64 x2 x3).getD 0)).isSome = true then ((impl_by.f t168 ((floatBits .add .f64 (4607182418800017408 : Nat) ((floatBits .quo .f64 x2 x3).getD 0)).getD 0)).bind fun t169 => (if (floatBits .quo .f64 t169 (4636737291354636288 : Nat)).isSome = true then (some (((floatBits .quo .f64 t169 (4636737291354636288 : Nat)).getD 0), true)) else (none))) else (none)) else (none))))
def impl_Squat.f (k : Nat) (a0 : Nat) (a1 : Nat) (a2 : Nat) (a3 : Nat) : Option (Nat × Bool) := (impl_finite.f k (([a0, a1, a2, a3] : List Nat))).bind fun t166 => (if t166 = true then (if (FloatKind.f64.format.order a0 (0 : Nat) == some .lt) = true then (impl_Squat.j0 k a0 a1 a2 a3 true) else (if (FloatKind.f64.format.order a1 (0 : Nat) == some .lt) = true then (impl_Squat.j0 k a0 a1 a2 a3 true) else (if (FloatKind.f64.format.order a2 (0 : Nat) == some .lt) = true then (impl_Squat.j0 k a0 a1 a2 a3 true) else (impl_Squat.j0 k a0 a1 a2 a3 (FloatKind.f64.format.order a3 (0 : Nat) == some .lt || FloatKind.f64.format.order a3 (0 : Nat) == some .eq))))) else (impl_Squat.j0 k a0 a1 a2 a3 true))
theorem impl_Squat.mono_l : ∀ k, (∀ y0 y1 y2 y3 y4, LeO (impl_Squat.j0 k y0 y1 y2 y3 y4) (impl_Squat.j0 (k + 1) y0 y1 y2 y3 y4))
  | 0 => fun _ _ _ _ _ r h => by simp [impl_Squat.j0] at h
  | k + 1 => by
    have ih0 := impl_Squat.mono_l k
    · intro y0 y1 y2 y3 y4
      unfold impl_Squat.j0
      repeat' first
      | (with_reducible exact ih0 _ _ _ _ _)
      | (with_reducible exact impl_finite.mono _ _)
      | (with_reducible exact LeO.refl _)
      | (with_reducible exact LeO.none _)
      | (with_reducible refine LeO.ite ?_ ?_)
      | (with_reducible refine LeO.bind ?_ (fun _ => ?_))
      | exact ih0 _ _ _ _ _
      | exact impl_finite.mono _ _
      | exact LeO.none _
      | refine LeO.ite ?_ ?_
      | refine LeO.bind ?_ (fun _ => ?_)
theorem impl_Squat.mono : ∀ a0 a1 a2 a3 k, LeO (impl_Squat.f k a0 a1 a2 a3) (impl_Squat.f (k + 1) a0 a1 a2 a3) := by
  intro a0 a1 a2 a3 k
  have ih0 := impl_Squat.mono_l k
  unfold impl_Squat.f
  repeat' first
      | (with_reducible exact ih0 _ _ _ _ _)
      | (with_reducible exact impl_finite.mono _ _)
      | (with_reducible exact LeO.refl _)
      | (with_reducible exact LeO.none _)
      | (with_reducible refine LeO.ite ?_ ?_)
      | (with_reducible refine LeO.bind ?_ (fun _ => ?_))
      | exact ih0 _ _ _ _ _
      | exact impl_finite.mono _ _
      | exact LeO.none _
      | refine LeO.ite ?_ ?_
      | refine LeO.bind ?_ (fun _ => ?_)
set_option maxHeartbeats 8000000 in
set_option maxRecDepth 100000 in
theorem impl_Squat.calls (k : Nat) (a0 : Nat) (a1 : Nat) (a2 : Nat) (a3 : Nat) (r1 : Nat) (r2 : Bool) (w : World) (h : impl_Squat.f k a0 a1 a2 a3 = some (r1, r2)) :
    Calls Try.prog 20 #[.float .f64 a0, .float .f64 a1, .float .f64 a2, .float .f64 a3] w fun e w' => e = .returned (.tuple #[.float .f64 r1, .bool r2]) ∧ Below w.heap.size w w' := by
  have HB := Aside0.mk (Below.refl w.heap.size w)
  have H : ((impl_finite.f k (([a0, a1, a2, a3] : List Nat))).bind fun t166 => (if t166 = true then (if (FloatKind.f64.format.order a0 (0 : Nat) == some .lt) = true then (impl_Squat.j0 k a0 a1 a2 a3 true) else (if (FloatKind.f64.format.order a1 (0 : Nat) == some .lt) = true then (impl_Squat.j0 k a0 a1 a2 a3 true) else (if (FloatKind.f64.format.order a2 (0 : Nat) == some .lt) = true then (impl_Squat.j0 k a0 a1 a2 a3 true) else (impl_Squat.j0 k a0 a1 a2 a3 (FloatKind.f64.format.order a3 (0 : Nat) == some .lt || FloatKind.f64.format.order a3 (0 : Nat) == some .eq))))) else (impl_Squat.j0 k a0 a1 a2 a3 true))) = some (r1, r2) := h
  clear h
  have HC5 := Aside0.mk H
  clear H
  go_enter Try.func20, Try.ntmps20
  go_upto_region 1 with (fail)
  go_cut [32] (fun v32 wc => ∃ (kq : Nat) (x32_4 : Bool), v32 = .bool x32_4 ∧ Aside0 (impl_Squat.j0 kq a0 a1 a2 a3 x32_4 = some (r1, r2)) ∧ Aside0 (kq ≤ k) ∧ Aside0 (Below w.heap.size w wc))
  case first =>
    have H := HC5.out
    clear HC5
    obtain ⟨y163, hy163⟩ : ∃ y_ : List Nat, y_ = (([a0, a1, a2, a3] : List Nat)) := ⟨_, rfl⟩
    replace H : ((impl_finite.f k y163).bind fun t166 => (if t166 = true then (if (FloatKind.f64.format.order a0 (0 : Nat) == some .lt) = true then (impl_Squat.j0 k a0 a1 a2 a3 true) else (if (FloatKind.f64.format.order a1 (0 : Nat) == some .lt) = true then (impl_Squat.j0 k a0 a1 a2 a3 true) else (if (FloatKind.f64.format.order a2 (0 : Nat) == some .lt) = true then (impl_Squat.j0 k a0 a1 a2 a3 true) else (impl_Squat.j0 k a0 a1 a2 a3 (FloatKind.f64.format.order a3 (0 : Nat) == some .lt || FloatKind.f64.format.order a3 (0 : Nat) == some .eq))))) else (impl_Squat.j0 k a0 a1 a2 a3 true))) = some (r1, r2) := by first | (rw [hy163]; with_reducible exact H) | (have H2_ := (Option.bind_some _ _).symm.trans H; rw [hy163]; with_reducible exact H2_) | (have H2_ := (Option.bind_some _ _).symm.trans H; with_reducible exact H2_) | with_reducible exact H | (rw [hy163]; exact H) | exact H
    have Ny163 := Aside0.mk hy163
    clear hy163
    replace H := Option.bind_eq_some_iff.mp H
    obtain ⟨t166, A60, H⟩ := H
    replace H : (if t166 = true then (if (FloatKind.f64.format.order a0 (0 : Nat) == some .lt) = true then (impl_Squat.j0 k a0 a1 a2 a3 true) else (if (FloatKind.f64.format.order a1 (0 : Nat) == some .lt) = true then (impl_Squat.j0 k a0 a1 a2 a3 true) else (if (FloatKind.f64.format.order a2 (0 : Nat) == some .lt) = true then (impl_Squat.j0 k a0 a1 a2 a3 true) else (impl_Squat.j0 k a0 a1 a2 a3 (FloatKind.f64.format.order a3 (0 : Nat) == some .lt || FloatKind.f64.format.order a3 (0 : Nat) == some .eq))))) else (impl_Squat.j0 k a0 a1 a2 a3 true)) = some (r1, r2) := H
    have A6 := Aside0.mk A60
    clear A60
    by_cases c7 : t166 = true
    · subst c7
      have H1 : (if (FloatKind.f64.format.order a0 (0 : Nat) == some .lt) = true then (impl_Squat.j0 k a0 a1 a2 a3 true) else (if (FloatKind.f64.format.order a1 (0 : Nat) == some .lt) = true then (impl_Squat.j0 k a0 a1 a2 a3 true) else (if (FloatKind.f64.format.order a2 (0 : Nat) == some .lt) = true then (impl_Squat.j0 k a0 a1 a2 a3 true) else (impl_Squat.j0 k a0 a1 a2 a3 (FloatKind.f64.format.order a3 (0 : Nat) == some .lt || FloatKind.f64.format.order a3 (0 : Nat) == some .eq))))) = some (r1, r2) := by rw [if_pos rfl] at H; exact H
      clear H
      have H := H1
      clear H1
      by_cases c8 : (FloatKind.f64.format.order a0 (0 : Nat) == some .lt) = true
      · rw [if_pos c8] at H
        have c8b0 : (FloatKind.f64.format.order a0 (0 : Nat) == some .lt) = true := c8
        (try (have c8b1 : decide (FloatKind.f64.format.order a0 (0 : Nat) = some .lt) = true := by simpa using c8))
        (try (have c8b2 : (FloatKind.f64.format.order a0 (0 : Nat) == some .lt) = true := by simpa using c8))
        clear c8
        (first | rw [c8b0] | (simp only [i64_w, i32_w]; rw [c8b0]) | skip)
        have H' := Aside0.mk H
        clear H
        go_wp2_with (first | ((with_reducible refine gate_dst (N := 14) rfl ?_); refine Kd.R_lit Kd.flt _ 26 ?hg (N := 14) ?hd (xs := ([a0, a1, a2, a3] : List Nat)) (inner := [.float .f64 a0, .float .f64 a1, .float .f64 a2, .float .f64 a3]) (ok := fun _ => True) (okp := fun _ => True) ?hr ?hp (fun _ hk => hk) trivial (Below.refl _ _) (Nat.le_refl _) (by simp) ?_; (case hd => rfl); (case hg => rfl); (case hr => first | (go_simp; done) | (go_simp; rfl)); (case hp => exact (Reps.one (show Kd.M Kd.flt _ _ _ a0 [.float .f64 a0] from rfl) (Reps.one (show Kd.M Kd.flt _ _ _ a1 [.float .f64 a1] from rfl) (Reps.one (show Kd.M Kd.flt _ _ _ a2 [.float .f64 a2] from rfl) (Reps.one (show Kd.M Kd.flt _ _ _ a3 [.float .f64 a3] from rfl) (Reps.none _ _)))))); intro v164 w9 ho10 hb hg_ hnew_; clear hg_ hnew_; (first | rw [← Ny163.out] at ho10 | (simp only [Int.reduceToNat] at ho10; rw [← Ny163.out] at ho10)); have n0_ := Aside0.mk (Kd.R_lower ho10 (below_size (by repeat (first | (with_reducible first | exact HB.out | apply below_alloc | apply pw_below_drewN | apply below_drew1) | exact HB.out)))); have n1_ := Aside0.mk (below_step (by repeat (first | (with_reducible first | exact HB.out | apply below_alloc | apply pw_below_drewN | apply below_drew1) | exact HB.out)) hb); clear HB; have HO165 := n0_; have HB := n1_; clear n0_ n1_; clear hb ho10; obtain ⟨Ao11, co11, eo11⟩ := Kd.R_slice HO165.out; subst eo11) | ((with_reducible refine gate_callee (f := 30) rfl ?_); refine goesL_ (some 15) rfl rfl Try.func30 (by kernel_rfl) rfl #[.slice Ao11 y163.length co11] rfl (by (try simp only [List.map_toArray, List.map_cons, List.map_nil]); first | done | rfl | (simp only [List.length_drop, List.length_take]; rfl)) ?_; (with_reducible refine (impl_finite.calls k _ _ y163 true _ ?side1 ?side2 A6.out).mono ?_); (case side1 => repeat (first | exact (Kd.R_reads' HO165.out).2.2 | (with_reducible refine Kd.C_alloc ?_ _) | (with_reducible refine Kd.C_drewN ?_ _) | (with_reducible refine Kd.C_drew ?_))); (case side2 => exact (Kd.R_reads' HO165.out).2.1); rintro e w' ⟨rfl, ⟨nd, rfl⟩⟩; refine ⟨_, rfl, ?_⟩))
        go_meet
        case rel => exact ⟨_, (true), (by first | rfl | (simp; done) | (simp [*]; done) | (simp [wrap64]; done)), H', ⟨by first | omega | exact Nat.le_refl _⟩, ⟨by repeat (first | (with_reducible first | exact HB.out | apply below_alloc | apply pw_below_drewN | apply below_drew1) | exact HB.out)⟩⟩
      · rw [if_neg c8] at H
        have c8b0 : (FloatKind.f64.format.order a0 (0 : Nat) == some .lt) = false := by simpa using c8
        (try (have c8b1 : decide (FloatKind.f64.format.order a0 (0 : Nat) = some .lt) = false := by simpa using c8))
        (try (have c8b2 : (FloatKind.f64.format.order a0 (0 : Nat) == some .lt) = false := by simpa using c8))
        (try (have c8b3 : ¬ (FloatKind.f64.format.order a0 (0 : Nat) = some .lt) := by simpa using c8))
        clear c8
        (first | rw [c8b0] | (simp only [i64_w, i32_w]; rw [c8b0]) | skip)
        by_cases c12 : (FloatKind.f64.format.order a1 (0 : Nat) == some .lt) = true
        · rw [if_pos c12] at H
          have c12b0 : (FloatKind.f64.format.order a1 (0 : Nat) == some .lt) = true := c12
          (try (have c12b1 : decide (FloatKind.f64.format.order a1 (0 : Nat) = some .lt) = true := by simpa using c12))
          (try (have c12b2 : (FloatKind.f64.format.order a1 (0 : Nat) == some .lt) = true := by simpa using c12))
          clear c12
          have H' := Aside0.mk H
          clear H
          go_wp2_with (first | ((with_reducible refine gate_dst (N := 14) rfl ?_); refine Kd.R_lit Kd.flt _ 26 ?hg (N := 14) ?hd (xs := ([a0, a1, a2, a3] : List Nat)) (inner := [.float .f64 a0, .float .f64 a1, .float .f64 a2, .float .f64 a3]) (ok := fun _ => True) (okp := fun _ => True) ?hr ?hp (fun _ hk => hk) trivial (Below.refl _ _) (Nat.le_refl _) (by simp) ?_; (case hd => rfl); (case hg => rfl); (case hr => first | (go_simp; done) | (go_simp; rfl)); (case hp => exact (Reps.one (show Kd.M Kd.flt _ _ _ a0 [.float .f64 a0] from rfl) (Reps.one (show Kd.M Kd.flt _ _ _ a1 [.float .f64 a1] from rfl) (Reps.one (show Kd.M Kd.flt _ _ _ a2 [.float .f64 a2] from rfl) (Reps.one (show Kd.M Kd.flt _ _ _ a3 [.float .f64 a3] from rfl) (Reps.none _ _)))))); intro v164 w13 ho14 hb hg_ hnew_; clear hg_ hnew_; (first | rw [← Ny163.out] at ho14 | (simp only [Int.reduceToNat] at ho14; rw [← Ny163.out] at ho14)); have n0_ := Aside0.mk (Kd.R_lower ho14 (below_size (by repeat (first | (with_reducible first | exact HB.out | apply below_alloc | apply pw_below_drewN | apply below_drew1) | exact HB.out)))); have n1_ := Aside0.mk (below_step (by repeat (first | (with_reducible first | exact HB.out | apply below_alloc | apply pw_below_drewN | apply below_drew1) | exact HB.out)) hb); clear HB; have HO165 := n0_; have HB := n1_; clear n0_ n1_; clear hb ho14; obtain ⟨Ao15, co15, eo15⟩ := Kd.R_slice HO165.out; subst eo15) | ((with_reducible refine gate_callee (f := 30) rfl ?_); refine goesL_ (some 15) rfl rfl Try.func30 (by kernel_rfl) rfl #[.slice Ao15 y163.length co15] rfl (by (try simp only [List.map_toArray, List.map_cons, List.map_nil]); first | done | rfl | (simp only [List.length_drop, List.length_take]; rfl)) ?_; (with_reducible refine (impl_finite.calls k _ _ y163 true _ ?side1 ?side2 A6.out).mono ?_); (case side1 => repeat (first | exact (Kd.R_reads' HO165.out).2.2 | (with_reducible refine Kd.C_alloc ?_ _) | (with_reducible refine Kd.C_drewN ?_ _) | (with_reducible refine Kd.C_drew ?_))); (case side2 => exact (Kd.R_reads' HO165.out).2.1); rintro e w' ⟨rfl, ⟨nd, rfl⟩⟩; refine ⟨_, rfl, ?_⟩))
          go_meet
          case rel => exact ⟨_, (true), (by first | rfl | (simp; done) | (simp [*]; done) | (simp [wrap64]; done)), H', ⟨by first | omega | exact Nat.le_refl _⟩, ⟨by repeat (first | (with_reducible first | exact HB.out | apply below_alloc | apply pw_below_drewN | apply below_drew1) | exact HB.out)⟩⟩
        · rw [if_neg c12] at H
          have c12b0 : (FloatKind.f64.format.order a1 (0 : Nat) == some .lt) = false := by simpa using c12
          (try (have c12b1 : decide (FloatKind.f64.format.order a1 (0 : Nat) = some .lt) = false := by simpa using c12))
          (try (have c12b2 : (FloatKind.f64.format.order a1 (0 : Nat) == some .lt) = false := by simpa using c12))
          (try (have c12b3 : ¬ (FloatKind.f64.format.order a1 (0 : Nat) = some .lt) := by simpa using c12))
          clear c12
          by_cases c16 : (FloatKind.f64.format.order a2 (0 : Nat) == some .lt) = true
          · rw [if_pos c16] at H
            have c16b0 : (FloatKind.f64.format.order a2 (0 : Nat) == some .lt) = true := c16
            (try (have c16b1 : decide (FloatKind.f64.format.order a2 (0 : Nat) = some .lt) = true := by simpa using c16))
            (try (have c16b2 : (FloatKind.f64.format.order a2 (0 : Nat) == some .lt) = true := by simpa using c16))
            clear c16
            have H' := Aside0.mk H
            clear H
            go_wp2_with (first | ((with_reducible refine gate_dst (N := 14) rfl ?_); refine Kd.R_lit Kd.flt _ 26 ?hg (N := 14) ?hd (xs := ([a0, a1, a2, a3] : List Nat)) (inner := [.float .f64 a0, .float .f64 a1, .float .f64 a2, .float .f64 a3]) (ok := fun _ => True) (okp := fun _ => True) ?hr ?hp (fun _ hk => hk) trivial (Below.refl _ _) (Nat.le_refl _) (by simp) ?_; (case hd => rfl); (case hg => rfl); (case hr => first | (go_simp; done) | (go_simp; rfl)); (case hp => exact (Reps.one (show Kd.M Kd.flt _ _ _ a0 [.float .f64 a0] from rfl) (Reps.one (show Kd.M Kd.flt _ _ _ a1 [.float .f64 a1] from rfl) (Reps.one (show Kd.M Kd.flt _ _ _ a2 [.float .f64 a2] from rfl) (Reps.one (show Kd.M Kd.flt _ _ _ a3 [.float .f64 a3] from rfl) (Reps.none _ _)))))); intro v164 w17 ho18 hb hg_ hnew_; clear hg_ hnew_; (first | rw [← Ny163.out] at ho18 | (simp only [Int.reduceToNat] at ho18; rw [← Ny163.out] at ho18)); have n0_ := Aside0.mk (Kd.R_lower ho18 (below_size (by repeat (first | (with_reducible first | exact HB.out | apply below_alloc | apply pw_below_drewN | apply below_drew1) | exact HB.out)))); have n1_ := Aside0.mk (below_step (by repeat (first | (with_reducible first | exact HB.out | apply below_alloc | apply pw_below_drewN | apply below_drew1) | exact HB.out)) hb); clear HB; have HO165 := n0_; have HB := n1_; clear n0_ n1_; clear hb ho18; obtain ⟨Ao19, co19, eo19⟩ := Kd.R_slice HO165.out; subst eo19) | ((with_reducible refine gate_callee (f := 30) rfl ?_); refine goesL_ (some 15) rfl rfl Try.func30 (by kernel_rfl) rfl #[.slice Ao19 y163.length co19] rfl (by (try simp only [List.map_toArray, List.map_cons, List.map_nil]); first | done | rfl | (simp only [List.length_drop, List.length_take]; rfl)) ?_; (with_reducible refine (impl_finite.calls k _ _ y163 true _ ?side1 ?side2 A6.out).mono ?_); (case side1 => repeat (first | exact (Kd.R_reads' HO165.out).2.2 | (with_reducible refine Kd.C_alloc ?_ _) | (with_reducible refine Kd.C_drewN ?_ _) | (with_reducible refine Kd.C_drew ?_))); (case side2 => exact (Kd.R_reads' HO165.out).2.1); rintro e w' ⟨rfl, ⟨nd, rfl⟩⟩; refine ⟨_, rfl, ?_⟩))
            go_meet
            case rel => exact ⟨_, (true), (by first | rfl | (simp; done) | (simp [*]; done) | (simp [wrap64]; done)), H', ⟨by first | omega | exact Nat.le_refl _⟩, ⟨by repeat (first | (with_reducible first | exact HB.out | apply below_alloc | apply pw_below_drewN | apply below_drew1) | exact HB.out)⟩⟩
          · rw [if_neg c16] at H
            have c16b0 : (FloatKind.f64.format.order a2 (0 : Nat) == some .lt) = false := by simpa using c16
            (try (have c16b1 : decide (FloatKind.f64.format.order a2 (0 : Nat) = some .lt) = false := by simpa using c16))
            (try (have c16b2 : (FloatKind.f64.format.order a2 (0 : Nat) == some .lt) = false := by simpa using c16))
            (try (have c16b3 : ¬ (FloatKind.f64.format.order a2 (0 : Nat) = some .lt) := by simpa using c16))
            clear c16
            have H' := Aside0.mk H
            clear H
            go_wp2_with (first | ((with_reducible refine gate_dst (N := 14) rfl ?_); refine Kd.R_lit Kd.flt _ 26 ?hg (N := 14) ?hd (xs := ([a0, a1, a2, a3] : List Nat)) (inner := [.float .f64 a0, .float .f64 a1, .float .f64 a2, .float .f64 a3]) (ok := fun _ => True) (okp := fun _ => True) ?hr ?hp (fun _ hk => hk) trivial (Below.refl _ _) (Nat.le_refl _) (by simp) ?_; (case hd => rfl); (case hg => rfl); (case hr => first | (go_simp; done) | (go_simp; rfl)); (case hp => exact (Reps.one (show Kd.M Kd.flt _ _ _ a0 [.float .f64 a0] from rfl) (Reps.one (show Kd.M Kd.flt _ _ _ a1 [.float .f64 a1] from rfl) (Reps.one (show Kd.M Kd.flt _ _ _ a2 [.float .f64 a2] from rfl) (Reps.one (show Kd.M Kd.flt _ _ _ a3 [.float .f64 a3] from rfl) (Reps.none _ _)))))); intro v164 w20 ho21 hb hg_ hnew_; clear hg_ hnew_; (first | rw [← Ny163.out] at ho21 | (simp only [Int.reduceToNat] at ho21; rw [← Ny163.out] at ho21)); have n0_ := Aside0.mk (Kd.R_lower ho21 (below_size (by repeat (first | (with_reducible first | exact HB.out | apply below_alloc | apply pw_below_drewN | apply below_drew1) | exact HB.out)))); have n1_ := Aside0.mk (below_step (by repeat (first | (with_reducible first | exact HB.out | apply below_alloc | apply pw_below_drewN | apply below_drew1) | exact HB.out)) hb); clear HB; have HO165 := n0_; have HB := n1_; clear n0_ n1_; clear hb ho21; obtain ⟨Ao22, co22, eo22⟩ := Kd.R_slice HO165.out; subst eo22) | ((with_reducible refine gate_callee (f := 30) rfl ?_); refine goesL_ (some 15) rfl rfl Try.func30 (by kernel_rfl) rfl #[.slice Ao22 y163.length co22] rfl (by (try simp only [List.map_toArray, List.map_cons, List.map_nil]); first | done | rfl | (simp only [List.length_drop, List.length_take]; rfl)) ?_; (with_reducible refine (impl_finite.calls k _ _ y163 true _ ?side1 ?side2 A6.out).mono ?_); (case side1 => repeat (first | exact (Kd.R_reads' HO165.out).2.2 | (with_reducible refine Kd.C_alloc ?_ _) | (with_reducible refine Kd.C_drewN ?_ _) | (with_reducible refine Kd.C_drew ?_))); (case side2 => exact (Kd.R_reads' HO165.out).2.1); rintro e w' ⟨rfl, ⟨nd, rfl⟩⟩; refine ⟨_, rfl, ?_⟩))
            go_meet
            case rel => exact ⟨_, ((FloatKind.f64.format.order a3 (0 : Nat) == some .lt || FloatKind.f64.format.order a3 (0 : Nat) == some .eq)), (by first | rfl | (simp; done) | (simp [*]; done) | (simp [wrap64]; done)), H', ⟨by first | omega | exact Nat.le_refl _⟩, ⟨by repeat (first | (with_reducible first | exact HB.out | apply below_alloc | apply pw_below_drewN | apply below_drew1) | exact HB.out)⟩⟩
    · replace c7 := Bool.eq_false_iff.mpr c7
      subst c7
      have H1 : (impl_Squat.j0 k a0 a1 a2 a3 true) = some (r1, r2) := by rw [if_neg (show ¬ (false = true) by decide)] at H; exact H
      clear H
      have H := H1
      clear H1
      have H' := Aside0.mk H
      clear H
      go_wp2_with (first | ((with_reducible refine gate_dst (N := 14) rfl ?_); refine Kd.R_lit Kd.flt _ 26 ?hg (N := 14) ?hd (xs := ([a0, a1, a2, a3] : List Nat)) (inner := [.float .f64 a0, .float .f64 a1, .float .f64 a2, .float .f64 a3]) (ok := fun _ => True) (okp := fun _ => True) ?hr ?hp (fun _ hk => hk) trivial (Below.refl _ _) (Nat.le_refl _) (by simp) ?_; (case hd => rfl); (case hg => rfl); (case hr => first | (go_simp; done) | (go_simp; rfl)); (case hp => exact (Reps.one (show Kd.M Kd.flt _ _ _ a0 [.float .f64 a0] from rfl) (Reps.one (show Kd.M Kd.flt _ _ _ a1 [.float .f64 a1] from rfl) (Reps.one (show Kd.M Kd.flt _ _ _ a2 [.float .f64 a2] from rfl) (Reps.one (show Kd.M Kd.flt _ _ _ a3 [.float .f64 a3] from rfl) (Reps.none _ _)))))); intro v164 w23 ho24 hb hg_ hnew_; clear hg_ hnew_; (first | rw [← Ny163.out] at ho24 | (simp only [Int.reduceToNat] at ho24; rw [← Ny163.out] at ho24)); have n0_ := Aside0.mk (Kd.R_lower ho24 (below_size (by repeat (first | (with_reducible first | exact HB.out | apply below_alloc | apply pw_below_drewN | apply below_drew1) | exact HB.out)))); have n1_ := Aside0.mk (below_step (by repeat (first | (with_reducible first | exact HB.out | apply below_alloc | apply pw_below_drewN | apply below_drew1) | exact HB.out)) hb); clear HB; have HO165 := n0_; have HB := n1_; clear n0_ n1_; clear hb ho24; obtain ⟨Ao25, co25, eo25⟩ := Kd.R_slice HO165.out; subst eo25) | ((with_reducible refine gate_callee (f := 30) rfl ?_); refine goesL_ (some 15) rfl rfl Try.func30 (by kernel_rfl) rfl #[.slice Ao25 y163.length co25] rfl (by (try simp only [List.map_toArray, List.map_cons, List.map_nil]); first | done | rfl | (simp only [List.length_drop, List.length_take]; rfl)) ?_; (with_reducible refine (impl_finite.calls k _ _ y163 false _ ?side1 ?side2 A6.out).mono ?_); (case side1 => repeat (first | exact (Kd.R_reads' HO165.out).2.2 | (with_reducible refine Kd.C_alloc ?_ _) | (with_reducible refine Kd.C_drewN ?_ _) | (with_reducible refine Kd.C_drew ?_))); (case side2 => exact (Kd.R_reads' HO165.out).2.1); rintro e w' ⟨rfl, ⟨nd, rfl⟩⟩; refine ⟨_, rfl, ?_⟩))
      go_meet
      case rel => exact ⟨_, (true), (by first | rfl | (simp; done) | (simp [*]; done) | (simp [wrap64]; done)), H', ⟨by first | omega | exact Nat.le_refl _⟩, ⟨by repeat (first | (with_reducible first | exact HB.out | apply below_alloc | apply pw_below_drewN | apply below_drew1) | exact HB.out)⟩⟩
  case rest =>
    clear HC5
    try clear c1
    try clear c2
    try clear p2
    try clear c3
    try clear p6
    try clear c7
    try clear c8
    try clear c8b0
    try clear c8b1
    try clear c8b2
    try clear c12
    try clear c12b0
    try clear c12b1
    try clear c12b2
    try clear c16
    try clear c16b0
    try clear c16b1
    try clear c16b2
    try clear c20
    obtain ⟨kq, x32_4, rfl, HA, HJ4, HB⟩ := hcut
    cases kq with
    | zero => exact absurd HA.out (by simp [impl_Squat.j0])
    | succ kj4 =>
      have H := HA.out
      clear HA
      simp only [impl_Squat.j0] at H
      by_cases c26 : x32_4 = true
      · subst c26
        have H1 : (some ((0 : Nat), false)) = some (r1, r2) := by rw [if_pos rfl] at H; exact H
        clear H
        have H := H1
        clear H1
        simp only [Option.some.injEq, Prod.mk.injEq] at H
        obtain ⟨rfl, rfl⟩ := H
        go_wp2
        go_ret2
        exact ⟨by first | rfl | (simp [errW_none, errW_some] <;> rfl) | (simp [*, errW_none, errW_some] <;> rfl), by repeat (first | (with_reducible first | exact HB.out | apply below_alloc | apply pw_below_drewN | apply below_drew1) | exact HB.out)⟩
      · replace c26 := Bool.eq_false_iff.mpr c26
        subst c26
        have H1 : ((impl_by.f a0 a0).bind fun t167 => ((impl_by.f t167 a1).bind fun t168 => (if (floatBits .quo .f64 a2 a3).isSome = true then (if (floatBits .add .f64 (4607182418800017408 : Nat) ((floatBits .quo .f64 a2 a3).getD 0)).isSome = true then ((impl_by.f t168 ((floatBits .add .f64 (4607182418800017408 : Nat) ((floatBits .quo .f64 a2 a3).getD 0)).getD 0)).bind fun t169 => (if (floatBits .quo .f64 t169 (4636737291354636288 : Nat)).isSome = true then (some (((floatBits .quo .f64 t169 (4636737291354636288 : Nat)).getD 0), true)) else (none))) else (none)) else (none)))) = some (r1, r2) := by rw [if_neg (show ¬ (false = true) by decide)] at H; exact H
        clear H
        have H := H1
        clear H1
        replace H := Option.bind_eq_some_iff.mp H
        obtain ⟨t167, A270, H⟩ := H
        replace H : ((impl_by.f t167 a1).bind fun t168 => (if (floatBits .quo .f64 a2 a3).isSome = true then (if (floatBits .add .f64 (4607182418800017408 : Nat) ((floatBits .quo .f64 a2 a3).getD 0)).isSome = true then ((impl_by.f t168 ((floatBits .add .f64 (4607182418800017408 : Nat) ((floatBits .quo .f64 a2 a3).getD 0)).getD 0)).bind fun t169 => (if (floatBits .quo .f64 t169 (4636737291354636288 : Nat)).isSome = true then (some (((floatBits .quo .f64 t169 (4636737291354636288 : Nat)).getD 0), true)) else (none))) else (none)) else (none))) = some (r1, r2) := H
        have A27 := Aside0.mk A270
        clear A270
        replace H := Option.bind_eq_some_iff.mp H
        obtain ⟨t168, A280, H⟩ := H
        replace H : (if (floatBits .quo .f64 a2 a3).isSome = true then (if (floatBits .add .f64 (4607182418800017408 : Nat) ((floatBits .quo .f64 a2 a3).getD 0)).isSome = true then ((impl_by.f t168 ((floatBits .add .f64 (4607182418800017408 : Nat) ((floatBits .quo .f64 a2 a3).getD 0)).getD 0)).bind fun t169 => (if (floatBits .quo .f64 t169 (4636737291354636288 : Nat)).isSome = true then (some (((floatBits .quo .f64 t169 (4636737291354636288 : Nat)).getD 0), true)) else (none))) else (none)) else (none)) = some (r1, r2) := H
        have A28 := Aside0.mk A280
        clear A280
        by_cases c29 : (floatBits .quo .f64 a2 a3).isSome = true
        · rw [if_pos c29] at H
          have c29b0 := eq_true c29
          have c29b1 : decide ((floatBits .quo .f64 a2 a3).isSome = true) = true := decide_eq_true c29
          clear c29
          by_cases c30 : (floatBits .add .f64 (4607182418800017408 : Nat) ((floatBits .quo .f64 a2 a3).getD 0)).isSome = true
          · rw [if_pos c30] at H
            have c30b0 := eq_true c30
            have c30b1 : decide ((floatBits .add .f64 (4607182418800017408 : Nat) ((floatBits .quo .f64 a2 a3).getD 0)).isSome = true) = true := decide_eq_true c30
            clear c30
            replace H := Option.bind_eq_some_iff.mp H
            obtain ⟨t169, A310, H⟩ := H
            replace H : (if (floatBits .quo .f64 t169 (4636737291354636288 : Nat)).isSome = true then (some (((floatBits .quo .f64 t169 (4636737291354636288 : Nat)).getD 0), true)) else (none)) = some (r1, r2) := H
            have A31 := Aside0.mk A310
            clear A310
            by_cases c32 : (floatBits .quo .f64 t169 (4636737291354636288 : Nat)).isSome = true
            · rw [if_pos c32] at H
              have c32b0 := eq_true c32
              have c32b1 : decide ((floatBits .quo .f64 t169 (4636737291354636288 : Nat)).isSome = true) = true := decide_eq_true c32
              clear c32
              simp only [Option.some.injEq, Prod.mk.injEq] at H
              obtain ⟨rfl, rfl⟩ := H
              go_wp2_with (first | ((with_reducible refine gate_callee (f := 29) rfl ?_); refine goesL_ (some 35) rfl rfl Try.func29 (by kernel_rfl) rfl #[.float .f64 a0, .float .f64 a0] rfl (by (try simp only [List.map_toArray, List.map_cons, List.map_nil]); first | done | rfl | (simp only [List.length_drop, List.length_take]; rfl)) ?_; (with_reducible refine (impl_by.calls a0 a0 t167 _ A27.out).mono ?_); rintro e w' ⟨rfl, ⟨nd, rfl⟩⟩; refine ⟨_, rfl, ?_⟩) | ((with_reducible refine gate_callee (f := 29) rfl ?_); refine goesL_ (some 37) rfl rfl Try.func29 (by kernel_rfl) rfl #[.float .f64 t167, .float .f64 a1] rfl (by (try simp only [List.map_toArray, List.map_cons, List.map_nil]); first | done | rfl | (simp only [List.length_drop, List.length_take]; rfl)) ?_; (with_reducible refine (impl_by.calls t167 a1 t168 _ A28.out).mono ?_); rintro e w' ⟨rfl, ⟨nd, rfl⟩⟩; refine ⟨_, rfl, ?_⟩; have hq33_ : (floatBits .quo .f64 a2 a3).isSome = true := (by first | assumption | exact of_eq_true (by assumption) | (simp only [*])); have hf33_ := fun w_ : World => run_float_arith (P := Try.prog) (w := w_) .quo 26 .f64 a2 a3 ((floatBits .quo .f64 a2 a3).getD 0) (opt_getD_ hq33_); have hq34_ : (floatBits .add .f64 (4607182418800017408 : Nat) ((floatBits .quo .f64 a2 a3).getD 0)).isSome = true := (by first | assumption | exact of_eq_true (by assumption) | (simp only [*])); have hf34_ := fun w_ : World => run_float_arith (P := Try.prog) (w := w_) .add 26 .f64 (4607182418800017408 : Nat) ((floatBits .quo .f64 a2 a3).getD 0) ((floatBits .add .f64 (4607182418800017408 : Nat) ((floatBits .quo .f64 a2 a3).getD 0)).getD 0) (opt_getD_ hq34_)) | ((with_reducible refine gate_callee (f := 29) rfl ?_); refine goesL_ (some 42) rfl rfl Try.func29 (by kernel_rfl) rfl #[.float .f64 t168, .float .f64 ((floatBits .add .f64 (4607182418800017408 : Nat) ((floatBits .quo .f64 a2 a3).getD 0)).getD 0)] rfl (by (try simp only [List.map_toArray, List.map_cons, List.map_nil]); first | done | rfl | (simp only [List.length_drop, List.length_take]; rfl)) ?_; (with_reducible refine (impl_by.calls t168 ((floatBits .add .f64 (4607182418800017408 : Nat) ((floatBits .quo .f64 a2 a3).getD 0)).getD 0) t169 _ A31.out).mono ?_); rintro e w' ⟨rfl, ⟨nd, rfl⟩⟩; refine ⟨_, rfl, ?_⟩; have hq35_ : (floatBits .quo .f64 t169 (4636737291354636288 : Nat)).isSome = true := (by first | assumption | exact of_eq_true (by assumption) | (simp only [*])); have hf35_ := fun w_ : World => run_float_arith (P := Try.prog) (w := w_) .quo 26 .f64 t169 (4636737291354636288 : Nat) ((floatBits .quo .f64 t169 (4636737291354636288 : Nat)).getD 0) (opt_getD_ hq35_)))
              go_ret2
              exact ⟨by first | rfl | (simp [errW_none, errW_some] <;> rfl) | (simp [*, errW_none, errW_some] <;> rfl), by repeat (first | (with_reducible first | exact HB.out | apply below_alloc | apply pw_below_drewN | apply below_drew1) | exact HB.out)⟩
            · rw [if_neg c32] at H
              exact absurd H (by simp)
          · rw [if_neg c30] at H
            exact absurd H (by simp)
        · rw [if_neg c29] at H
          exact absurd H (by simp)

end Go.Proofs.Ytchobalepjmeiaa.PFnTides
