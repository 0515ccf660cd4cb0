/- The Lean side of Go functions of this seat: what each answers, and that its run comes to that answer; written by a program of this work. -/
import Derived.Test.YtchobalepjmeiaaPFnTidesx0
import Derived.Test.YtchobalepjmeiaaPFnTidesx1
namespace Go.Proofs.Ytchobalepjmeiaa.PFnTides
open Go.RowKit Go.Proofs.YtchobalepjmeiaaW.PrintWords Go.Proofs.YtchobalepjmeiaaW.PrintLast Go.Proofs.YtchobalepjmeiaaW.PrintMore
attribute [local go_sem] run_store_float un_neg_float_ max2_int min2_int max_two min_two max_three min_three max_four min_four   -- for this text's walks alone
set_option linter.unusedVariables false
set_option linter.unusedSimpArgs false

/-! ### impl_TideDay: function 16 -/
mutual
def impl_TideDay.j0 : Nat → Nat → List (S42) → Int → Bool → Option (List Nat × Bool)
  | 0, _, _, _, _ => none
  | k + 1, x0, x1, x2, x22 => if x22 = true then (some (([] : List Nat), false)) else (impl_TideDay.l0 k x0 x1 x2 ([] : List (S28)) x1 (x1.length : Int) 0)
def impl_TideDay.l0 : Nat → Nat → List (S42) → Int → List (S28) → List (S42) → Int → Int → Option (List Nat × Bool)
  | 0, _, _, _, _, _, _, _ => none
  | k + 1, x0, x1, x2, x8, x23, x24, x25 => if x25 < x24 then (if 0 ≤ x25 then (if x25 < (x23.length : Int) then (if x8.length < 8796093022208 then (impl_TideDay.l0 k x0 x1 x2 (x8 ++ [(⟨(rd_T42 x23 x25).f0.f0, (rd_T42 x23 x25).f0.f1⟩ : S28)]) x23 x24 (wrap64 (x25 + 1))) else (none)) else (none)) else (none)) else (if 0 ≤ x2 then (if (x2 : Int).toNat ≤ 35184372088832 then ((some (List.replicate (x2 : Int).toNat (0 : Nat) : List Nat)).bind fun y115 => (impl_TideDay.l1 k x0 x1 x8 y115 (y115.length : Int) 0)) else (none)) else (none))
def impl_TideDay.l1 : Nat → Nat → List (S42) → List (S28) → List Nat → Int → Int → Option (List Nat × Bool)
  | 0, _, _, _, _, _, _ => none
  | k + 1, x0, x1, x8, x11, x38, x39 => if x39 < x38 then (if 0 ≤ x39 then (if x39 < (x11.length : Int) then (impl_TideDay.l2 k x0 x1 x8 (x11.set (x39 : Int).toNat x0) x39 x38 x39 x1 (x1.length : Int) 0) else (none)) else (none)) else (some (x11, true))
def impl_TideDay.l2 : Nat → Nat → List (S42) → List (S28) → List Nat → Int → Int → Int → List (S42) → Int → Int → Option (List Nat × Bool)
  | 0, _, _, _, _, _, _, _, _, _, _ => none
  | k + 1, x0, x1, x8, x11, x12, x38, x39, x46, x47, x48 => if x48 < x47 then (if 0 ≤ x48 then (if x48 < (x46.length : Int) then (if 0 ≤ x12 then (if x12 < (x11.length : Int) then (if x48 < (x8.length : Int) then (if (floatBits .add .f64 (rdOf (0 : Nat) x11 x12) ((rd_T28 x8 x48).f0)).isSome = true then ((impl_Times.f ((rd_T28 x8 x48).f0) ((rd_T28 x8 x48).f1) ((rd_T42 x46 x48).f1.f0) ((rd_T42 x46 x48).f1.f1)).bind fun bt125 => (impl_TideDay.l2 k x0 x1 (x8.set (x48 : Int).toNat (⟨bt125.1, bt125.2⟩ : S28)) (x11.set (x12 : Int).toNat ((floatBits .add .f64 (rdOf (0 : Nat) x11 x12) ((rd_T28 x8 x48).f0)).getD 0)) x12 x38 x39 x46 x47 (wrap64 (x48 + 1)))) else (none)) else (none)) else (none)) else (none)) else (none)) else (none)) else (impl_TideDay.l1 k x0 x1 x8 x11 x38 (wrap64 (x39 + 1)))
end
def impl_TideDay.f (k : Nat) (a0 : Nat) (l1 : List (S42)) (a2 : Int) : Option (List Nat × Bool) := if (l1.length : Int) > 8 then (impl_TideDay.j0 k a0 l1 a2 true) else ((impl_in.f a2 0 1500).bind fun t109 => (impl_TideDay.j0 k a0 l1 a2 (!t109)))
theorem impl_TideDay.mono_l : ∀ k, (∀ y0 y1 y2 y3, LeO (impl_TideDay.j0 k y0 y1 y2 y3) (impl_TideDay.j0 (k + 1) y0 y1 y2 y3)) ∧ (∀ y0 y1 y2 y3 y4 y5 y6, LeO (impl_TideDay.l0 k y0 y1 y2 y3 y4 y5 y6) (impl_TideDay.l0 (k + 1) y0 y1 y2 y3 y4 y5 y6)) ∧ (∀ y0 y1 y2 y3 y4 y5, LeO (impl_TideDay.l1 k y0 y1 y2 y3 y4 y5) (impl_TideDay.l1 (k + 1) y0 y1 y2 y3 y4 y5)) ∧ (∀ y0 y1 y2 y3 y4 y5 y6 y7 y8 y9, LeO (impl_TideDay.l2 k y0 y1 y2 y3 y4 y5 y6 y7 y8 y9) (impl_TideDay.l2 (k + 1) y0 y1 y2 y3 y4 y5 y6 y7 y8 y9))
  | 0 => ⟨fun _ _ _ _ r h => by simp [impl_TideDay.j0] at h, fun _ _ _ _ _ _ _ r h => by simp [impl_TideDay.l0] at h, fun _ _ _ _ _ _ r h => by simp [impl_TideDay.l1] at h, fun _ _ _ _ _ _ _ _ _ _ r h => by simp [impl_TideDay.l2] at h⟩
  | k + 1 => by
    obtain ⟨ih0, ih1, ih2, ih3⟩ := impl_TideDay.mono_l k
    refine ⟨?_, ?_, ?_, ?_⟩
    · intro y0 y1 y2 y3
      unfold impl_TideDay.j0
      repeat' first
      | (with_reducible exact ih0 _ _ _ _)
      | (with_reducible exact ih1 _ _ _ _ _ _ _)
      | (with_reducible exact ih2 _ _ _ _ _ _)
      | (with_reducible exact ih3 _ _ _ _ _ _ _ _ _ _)
      | (with_reducible exact LeO.refl _)
      | (with_reducible exact LeO.none _)
      | (with_reducible refine LeO.ite ?_ ?_)
      | (with_reducible refine LeO.bind ?_ (fun _ => ?_))
      | exact ih0 _ _ _ _
      | exact ih1 _ _ _ _ _ _ _
      | exact ih2 _ _ _ _ _ _
      | exact ih3 _ _ _ _ _ _ _ _ _ _
      | exact LeO.none _
      | refine LeO.ite ?_ ?_
      | refine LeO.bind ?_ (fun _ => ?_)
    · intro y0 y1 y2 y3 y4 y5 y6
      unfold impl_TideDay.l0
      repeat' first
      | (with_reducible exact ih0 _ _ _ _)
      | (with_reducible exact ih1 _ _ _ _ _ _ _)
      | (with_reducible exact ih2 _ _ _ _ _ _)
      | (with_reducible exact ih3 _ _ _ _ _ _ _ _ _ _)
      | (with_reducible exact LeO.refl _)
      | (with_reducible exact LeO.none _)
      | (with_reducible refine LeO.ite ?_ ?_)
      | (with_reducible refine LeO.bind ?_ (fun _ => ?_))
      | exact ih0 _ _ _ _
      | exact ih1 _ _ _ _ _ _ _
      | exact ih2 _ _ _ _ _ _
      | exact ih3 _ _ _ _ _ _ _ _ _ _
      | exact LeO.none _
      | refine LeO.ite ?_ ?_
      | refine LeO.bind ?_ (fun _ => ?_)
    · intro y0 y1 y2 y3 y4 y5
      unfold impl_TideDay.l1
      repeat' first
      | (with_reducible exact ih0 _ _ _ _)
      | (with_reducible exact ih1 _ _ _ _ _ _ _)
      | (with_reducible exact ih2 _ _ _ _ _ _)
      | (with_reducible exact ih3 _ _ _ _ _ _ _ _ _ _)
      | (with_reducible exact LeO.refl _)
      | (with_reducible exact LeO.none _)
      | (with_reducible refine LeO.ite ?_ ?_)
      | (with_reducible refine LeO.bind ?_ (fun _ => ?_))
      | exact ih0 _ _ _ _
      | exact ih1 _ _ _ _ _ _ _
      | exact ih2 _ _ _ _ _ _
      | exact ih3 _ _ _ _ _ _ _ _ _ _
      | exact LeO.none _
      | refine LeO.ite ?_ ?_
      | refine LeO.bind ?_ (fun _ => ?_)
    · intro y0 y1 y2 y3 y4 y5 y6 y7 y8 y9
      unfold impl_TideDay.l2
      repeat' first
      | (with_reducible exact ih0 _ _ _ _)
      | (with_reducible exact ih1 _ _ _ _ _ _ _)
      | (with_reducible exact ih2 _ _ _ _ _ _)
      | (with_reducible exact ih3 _ _ _ _ _ _ _ _ _ _)
      | (with_reducible exact LeO.refl _)
      | (with_reducible exact LeO.none _)
      | (with_reducible refine LeO.ite ?_ ?_)
      | (with_reducible refine LeO.bind ?_ (fun _ => ?_))
      | exact ih0 _ _ _ _
      | exact ih1 _ _ _ _ _ _ _
      | exact ih2 _ _ _ _ _ _
      | exact ih3 _ _ _ _ _ _ _ _ _ _
      | exact LeO.none _
      | refine LeO.ite ?_ ?_
      | refine LeO.bind ?_ (fun _ => ?_)
theorem impl_TideDay.mono : ∀ a0 a1 a2 k, LeO (impl_TideDay.f k a0 a1 a2) (impl_TideDay.f (k + 1) a0 a1 a2) := by
  intro a0 a1 a2 k
  obtain ⟨ih0, ih1, ih2, ih3⟩ := impl_TideDay.mono_l k
  unfold impl_TideDay.f
  repeat' first
      | (with_reducible exact ih0 _ _ _ _)
      | (with_reducible exact ih1 _ _ _ _ _ _ _)
      | (with_reducible exact ih2 _ _ _ _ _ _)
      | (with_reducible exact ih3 _ _ _ _ _ _ _ _ _ _)
      | (with_reducible exact LeO.refl _)
      | (with_reducible exact LeO.none _)
      | (with_reducible refine LeO.ite ?_ ?_)
      | (with_reducible refine LeO.bind ?_ (fun _ => ?_))
      | exact ih0 _ _ _ _
      | exact ih1 _ _ _ _ _ _ _
      | exact ih2 _ _ _ _ _ _
      | exact ih3 _ _ _ _ _ _ _ _ _ _
      | exact LeO.none _
      | refine LeO.ite ?_ ?_
      | refine LeO.bind ?_ (fun _ => ?_)
def impl_TideDay.T17 : Bool × List (List Nat × List Nat) := (true, [([], []), ([], []), ([0, 1], [0, 1]), ([2], [2]), ([], []), ([], []), ([4, 5], [4, 5]), ([6], [6]), ([7], [7]), ([3, 8], [3, 8]), ([0, 1, 0, 1, 2, 3, 4, 5, 6, 7, 8, 9], [0, 1]), ([10, 9, 0, 1, 2, 3, 4, 5, 6, 7, 8, 9], [9, 10])])
def impl_TideDay.B17 : List Nat := [0, 0, 3, 7, 0, 0, 48, 112, 240, 511, 1023, 2047]
theorem impl_TideDay.tab17 : rtab .any (opsOf Try.f16 17) = impl_TideDay.T17 := by kernel_rfl
theorem impl_TideDay.bits17 : waitsOk impl_TideDay.T17.2 impl_TideDay.B17 = true := by kernel_rfl
def impl_TideDay.T18 : Bool × List (List Nat × List Nat) := (true, [([], []), ([], []), ([], []), ([], []), ([2, 3], [2, 3]), ([4], [4]), ([], []), ([6], [6]), ([5, 7], [5, 7]), ([0, 1, 0, 1, 2, 3, 4, 5, 6, 7, 8], [0, 1]), ([9, 8, 8, 0, 1, 2, 3, 4, 5, 6, 7, 8], [8, 9])])
def impl_TideDay.B18 : List Nat := [0, 0, 0, 0, 12, 28, 0, 64, 252, 511, 1023]
theorem impl_TideDay.tab18 : rtab .any (opsOf Try.f16 18) = impl_TideDay.T18 := by kernel_rfl
theorem impl_TideDay.bits18 : waitsOk impl_TideDay.T18.2 impl_TideDay.B18 = true := by kernel_rfl
set_option maxHeartbeats 8000000 in
set_option maxRecDepth 100000 in
theorem impl_TideDay.calls (k : Nat) (a0 : Nat) (A1 : Option Addr) (c1 : Nat) (l1 : List (S42)) (a2 : Int) (r1 : List Nat) (r2 : Bool) (w : World) (hr1 : Kd.C k42 w A1 l1.length l1) (hc1 : l1.length ≤ c1) (h : impl_TideDay.f k a0 l1 a2 = some (r1, r2)) :
    Calls Try.prog 16 #[.float .f64 a0, .slice A1 l1.length c1, .int .i64 a2] w fun e w' => ∃ v0_ : Value, e = .returned (.tuple #[v0_, .bool r2]) ∧ Kd.R Kd.flt 26 w' w.heap.size (fun _ => True) v0_ r1 ∧ Below w.heap.size w w' := by
  have hu42 := Try.underlying42
  have hu28 := Try.underlying28
  have HR1 := Aside0.mk hr1
  have HC1 := Aside0.mk hc1
  clear hr1 hc1
  have HB := Aside0.mk (Below.refl w.heap.size w)
  have H : (if (l1.length : Int) > 8 then (impl_TideDay.j0 k a0 l1 a2 true) else ((impl_in.f a2 0 1500).bind fun t109 => (impl_TideDay.j0 k a0 l1 a2 (!t109)))) = some (r1, r2) := h
  clear h
  have HC4 := Aside0.mk H
  clear H
  go_enter Try.func16, Try.ntmps16
  go_upto_region 1 with (fail)
  go_cut [22] (fun v22 wc => ∃ (kq : Nat) (x22_3 : Bool), v22 = .bool x22_3 ∧ Aside0 (impl_TideDay.j0 kq a0 l1 a2 x22_3 = some (r1, r2)) ∧ Aside0 (kq ≤ k) ∧ Aside0 (Below w.heap.size w wc))
  case first =>
    have H := HC4.out
    clear HC4
    by_cases c5 : (l1.length : Int) > 8
    · rw [if_pos c5] at H
      have c5b0 : decide (8 < (l1.length : Int)) = true := decide_eq_true c5
      have c5b1 : decide (8 < l1.length) = true := decide_eq_true (by omega)
      clear c5
      (first | rw [c5b0] | (simp only [i64_w, i32_w]; rw [c5b0]) | skip)
      have H' := Aside0.mk H
      clear H
      go_wp2
      go_meet
      case rel => exact ⟨_, (true), (by first | rfl | (simp; done) | (simp [*]; done) | (simp [wrap64]; done)), H', ⟨by first | omega | exact Nat.le_refl _⟩, ⟨by repeat (first | (with_reducible first | exact HB.out | apply below_alloc | apply pw_below_drewN | apply below_drew1) | exact HB.out)⟩⟩
    · rw [if_neg c5] at H
      have c5b0 : decide (8 < (l1.length : Int)) = false := decide_eq_false c5
      have c5b1 : decide (8 < l1.length) = false := decide_eq_false (by omega)
      clear c5
      (first | rw [c5b0] | (simp only [i64_w, i32_w]; rw [c5b0]) | skip)
      replace H := Option.bind_eq_some_iff.mp H
      obtain ⟨t109, A60, H⟩ := H
      replace H : (impl_TideDay.j0 k a0 l1 a2 (!t109)) = some (r1, r2) := H
      have A6 := Aside0.mk A60
      clear A60
      have H' := Aside0.mk H
      clear H
      go_wp2_with (first | (go_at_call 32; (with_reducible refine (impl_in.calls a2 0 1500 t109 _ A6.out).mono ?_); rintro e w' ⟨rfl, ⟨nd, rfl⟩⟩))
      go_meet
      case rel => exact ⟨_, (!t109), (by first | rfl | (simp; done) | (simp [*]; done) | (simp [wrap64]; done)), H', ⟨by first | omega | exact Nat.le_refl _⟩, ⟨by repeat (first | (with_reducible first | exact HB.out | apply below_alloc | apply pw_below_drewN | apply below_drew1) | exact HB.out)⟩⟩
  case rest =>
    clear HC4
    try clear c1
    try clear p2
    try clear c5
    try clear c5b0
    try clear c5b1
    try clear p6
    obtain ⟨kq, x22_3, rfl, HA, HJ3, HB⟩ := hcut
    cases kq with
    | zero => exact absurd HA.out (by simp [impl_TideDay.j0])
    | succ kj3 =>
      have H := HA.out
      clear HA
      simp only [impl_TideDay.j0] at H
      by_cases c7 : x22_3 = true
      · subst c7
        have H1 : (some (([] : List Nat), false)) = some (r1, r2) := by rw [if_pos rfl] at H; exact H
        clear H
        have H := H1
        clear H1
        simp only [Option.some.injEq, Prod.mk.injEq] at H
        obtain ⟨rfl, rfl⟩ := H
        go_wp2
        go_ret2
        exact ⟨_, by first | rfl | (simp [errW_none, errW_some] <;> rfl) | (simp [*, errW_none, errW_some] <;> rfl), by first | exact Kd.R_nil _ _ _ _ _ | exact Kd.N_nil _ _ _ _ _ | exact Kd.V_nil _ _ _ _ _ | exact Kd.Q_nil _ _ _ _ _ | exact Kd.S_nil _ _ _ _ _, by repeat (first | (with_reducible first | exact HB.out | apply below_alloc | apply pw_below_drewN | apply below_drew1) | exact HB.out)⟩
      · replace c7 := Bool.eq_false_iff.mpr c7
        subst c7
        have H1 : (impl_TideDay.l0 kj3 a0 l1 a2 ([] : List (S28)) l1 (l1.length : Int) 0) = some (r1, r2) := by rw [if_neg (show ¬ (false = true) by decide)] at H; exact H
        clear H
        have H := H1
        clear H1
        have H' := Aside0.mk H
        clear H
        go_wp2
        go_loopg [8, 25] kj3 (fun kq v8 v25 w' => ∃ (x8_2 : List (S28)) (x25_2 : Int), v25 = .int .i64 x25_2 ∧ Aside0 (impl_TideDay.l0 kq a0 l1 a2 x8_2 l1 (l1.length : Int) x25_2 = some (r1, r2)) ∧ Aside0 (kq ≤ kj3) ∧ Aside0 (Kd.R k28 28 w' w.heap.size (fun _ => True) v8 x8_2) ∧ Aside0 (Below w.heap.size w w'))
        case atStart => exact ⟨(([] : List (S28))), (0), (by first | rfl | (simp; done) | (simp [*]; done) | (simp [wrap64]; done)), H', ⟨Nat.le_refl _⟩, ⟨by first | exact Kd.R_nil _ _ _ _ _ | exact Kd.N_nil _ _ _ _ _ | exact Kd.V_nil _ _ _ _ _ | exact Kd.Q_nil _ _ _ _ _ | exact Kd.S_nil _ _ _ _ _⟩, ⟨by repeat (first | (with_reducible first | exact HB.out | apply below_alloc | apply pw_below_drewN | apply below_drew1) | exact HB.out)⟩⟩
        case round =>
          clear H'
          try clear c1
          try clear p2
          try clear c5
          try clear c5b0
          try clear c5b1
          try clear p6
          try clear c7
          try clear p2
          try clear p6
          obtain ⟨x8_2, x25_2, rfl, HA, HK2, HO_8, HB⟩ := hrel
          cases gk with
          | zero => exact absurd HA.out (by simp [impl_TideDay.l0])
          | succ k2 =>
            have H := HA.out
            clear HA
            simp only [impl_TideDay.l0] at H
            by_cases c8 : x25_2 < (l1.length : Int)
            · rw [if_pos c8] at H
              have c8b0 : decide (x25_2 < (l1.length : Int)) = true := decide_eq_true c8
              clear c8
              by_cases c9 : 0 ≤ x25_2
              · rw [if_pos c9] at H
                have c9b0 : decide (0 ≤ x25_2) = true := decide_eq_true c9
                clear c9
                by_cases c10 : x25_2 < (l1.length : Int)
                · rw [if_pos c10] at H
                  have c10b0 : decide (x25_2 < (l1.length : Int)) = true := decide_eq_true c10
                  clear c10
                  by_cases c11 : x8_2.length < 8796093022208
                  · rw [if_pos c11] at H
                    have LMc11 := Aside0.mk c11
                    clear c11
                    obtain ⟨y112, hy112⟩ : ∃ y_ : List (S28), y_ = (x8_2 ++ [(⟨(rd_T42 l1 x25_2).f0.f0, (rd_T42 l1 x25_2).f0.f1⟩ : S28)]) := ⟨_, rfl⟩
                    replace H : (impl_TideDay.l0 k2 a0 l1 a2 y112 l1 (l1.length : Int) (wrap64 (x25_2 + 1))) = some (r1, r2) := by first | (rw [hy112]; with_reducible exact H) | (have H2_ := (Option.bind_some _ _).symm.trans H; rw [hy112]; with_reducible exact H2_) | (have H2_ := (Option.bind_some _ _).symm.trans H; with_reducible exact H2_) | with_reducible exact H | (rw [hy112]; exact H) | exact H
                    have Ny112 := Aside0.mk hy112
                    clear hy112
                    have H' := Aside0.mk H
                    clear H
                    have p110 : 0 ≤ (x25_2 : Int) := of_decide_eq_true (by first | (with_reducible assumption) | assumption)
                    have q110 : x25_2 < (l1.length : Int) := of_decide_eq_true (by first | (with_reducible assumption) | assumption)
                    obtain ⟨ad110, e110, hx110_0, hx110_1, hx110_2, hx110_3⟩ := at_T42 HR1.out x25_2 p110 q110
                    cases e110
                    replace hx110_0 := (HB.out.cell (World.block_lt_of_cell? w _ hx110_0)).trans hx110_0
                    replace hx110_1 := (HB.out.cell (World.block_lt_of_cell? w _ hx110_1)).trans hx110_1
                    replace hx110_2 := (HB.out.cell (World.block_lt_of_cell? w _ hx110_2)).trans hx110_2
                    replace hx110_3 := (HB.out.cell (World.block_lt_of_cell? w _ hx110_3)).trans hx110_3
                    replace p110 := eq_true p110
                    replace q110 := eq_true q110
                    go_wp2_with (first | ((with_reducible refine gate_dst (N := 10) rfl ?_); refine box_event ?hg (N := 10) ?hd (cs := #[.float .f64 (0 : Nat), .float .f64 (0 : Nat), .float .f64 (0 : Nat), .float .f64 (0 : Nat)]) (t := 42) ?hr ?_; (case hd => rfl); (case hg => rfl); (case hr => first | (go_simp; done) | (go_simp; rfl)); intro gb111 hg w12 hbox hb; have n0_ := Aside0.mk (Kd.R_below (by (with_reducible repeat (first | apply Kd.R_alloc | apply Kd.R_drewN | apply Kd.R_drew)); exact HO_8.out) hb); have n1_ := Aside0.mk (below_step (by repeat (first | (with_reducible first | exact HB.out | apply below_alloc | apply pw_below_drewN | apply below_drew1) | exact HB.out)) hb); have n2_ := Aside0.mk (hbox); have n3_ := Aside0.mk ((by rw [hg]; exact (below_size (by repeat (first | (with_reducible first | exact HB.out | apply below_alloc | apply pw_below_drewN | apply below_drew1) | exact HB.out))) : w.heap.size ≤ gb111)); have n4_ := Aside0.mk ((by rw [hg]; exact (below_size (by repeat (first | (with_reducible first | exact HB.out | apply below_alloc | apply pw_below_drewN | apply below_drew1) | exact HB.out))) : w.heap.size ≤ gb111)); clear HO_8; clear HB; have HO_8 := n0_; have HB := n1_; have BK111 := n2_; have GW111 := n3_; have GE111 := n4_; clear n0_ n1_ n2_ n3_ n4_; clear hb hbox hg; have hcz13_0 : w12.cell? ⟨gb111, 0, none⟩ = some (.float .f64 (0 : Nat)) := (blk_cell BK111.out 0).trans rfl; have hcz13_1 : w12.cell? ⟨gb111, 1, none⟩ = some (.float .f64 (0 : Nat)) := (blk_cell BK111.out 1).trans rfl; have hcz13_2 : w12.cell? ⟨gb111, 2, none⟩ = some (.float .f64 (0 : Nat)) := (blk_cell BK111.out 2).trans rfl; have hcz13_3 : w12.cell? ⟨gb111, 3, none⟩ = some (.float .f64 (0 : Nat)) := (blk_cell BK111.out 3).trans rfl; have hfz13_0 := blk_frozen BK111.out 0; have hfz13_1 := blk_frozen BK111.out 1; have hfz13_2 := blk_frozen BK111.out 2; have hfz13_3 := blk_frozen BK111.out 3) | ((with_reducible refine gate_builtin (b := .append) (xs := #[.tmp 29, .tmp 32]) rfl ?_); at_builtin; refine Kd.R_append k28 (w0 := w) w.heap.size rfl (.tmp 29) (.tmp 32) 31 28 (.agg #[(.float .f64 0), (.float .f64 0)]) 16 rfl Try.underlying31 info28 rfl (by decide) (by omega) u8 x8_2 (⟨(rd_T42 l1 x25_2).f0.f0, (rd_T42 l1 x25_2).f0.f1⟩ : S28) [.float .f64 ((rd_T42 l1 x25_2).f0.f0), .float .f64 ((rd_T42 l1 x25_2).f0.f1)] (fun _ => True) (fun _ => False) rfl (by first | (go_simp; done) | (go_simp; rfl)) ?aP (fun _ hk => hk.elim) ?aF ?aO ?aB ?aS ?aL ?_; (case aP => exact k28_mkM _ _ _ (⟨(rd_T42 l1 x25_2).f0.f0, (rd_T42 l1 x25_2).f0.f1⟩ : S28)); (case aB => exact (by repeat (first | (with_reducible first | exact HB.out | apply below_alloc | apply pw_below_drewN | apply below_drew1 | refine below_set ?_ GE111.out) | exact HB.out))); (case aF => exact (fun _ _ => trivial)); (case aO => exact (by (with_reducible repeat (first | apply Kd.R_alloc | apply Kd.R_drewN | apply Kd.R_drew)); exact Kd.R_mono (Kd.R_far (p := ⟨gb111, 3, none⟩) (Kd.R_far (p := ⟨gb111, 2, none⟩) (Kd.R_far (p := ⟨gb111, 1, none⟩) (Kd.R_far (p := ⟨gb111, 0, none⟩) (Kd.R_types HO_8.out BK111.out (by decide)) (fun _ hk => hk.2) (.float .f64 ((rd_T42 l1 x25_2).f0.f0))) (fun _ hk => hk.2) (.float .f64 ((rd_T42 l1 x25_2).f0.f1))) (fun _ hk => hk.2) (.float .f64 ((rd_T42 l1 x25_2).f1.f0))) (fun _ hk => hk.2) (.float .f64 ((rd_T42 l1 x25_2).f1.f1))) (fun _ hk => trivial))); (case aS => exact (below_size (by repeat (first | (with_reducible first | exact HB.out | apply below_alloc | apply pw_below_drewN | apply below_drew1 | refine below_set ?_ GE111.out) | exact HB.out)))); (case aL => have := LMc11.out; omega); intro v113 w14 ho hb hg hat; rw [← Ny112.out] at ho; have n0_ := Aside0.mk (blk_grown (g := gb111) (o := .cells #[.float .f64 ((rd_T42 l1 x25_2).f0.f0), .float .f64 ((rd_T42 l1 x25_2).f0.f1), .float .f64 ((rd_T42 l1 x25_2).f1.f0), .float .f64 ((rd_T42 l1 x25_2).f1.f1)] 42 (0, 0)) (by (with_reducible repeat (first | refine blk_drewN ?_ _ | refine blk_drew ?_ | refine blk_alloc ?_ _)); refine blk_put (cs := #[.float .f64 ((rd_T42 l1 x25_2).f0.f0), .float .f64 ((rd_T42 l1 x25_2).f0.f1), .float .f64 ((rd_T42 l1 x25_2).f1.f0), .float .f64 (0 : Nat)]) ?_ 3 _ rfl; (with_reducible repeat (first | refine blk_drewN ?_ _ | refine blk_drew ?_ | refine blk_alloc ?_ _)); refine blk_put (cs := #[.float .f64 ((rd_T42 l1 x25_2).f0.f0), .float .f64 ((rd_T42 l1 x25_2).f0.f1), .float .f64 (0 : Nat), .float .f64 (0 : Nat)]) ?_ 2 _ rfl; (with_reducible repeat (first | refine blk_drewN ?_ _ | refine blk_drew ?_ | refine blk_alloc ?_ _)); refine blk_put (cs := #[.float .f64 ((rd_T42 l1 x25_2).f0.f0), .float .f64 (0 : Nat), .float .f64 (0 : Nat), .float .f64 (0 : Nat)]) ?_ 1 _ rfl; (with_reducible repeat (first | refine blk_drewN ?_ _ | refine blk_drew ?_ | refine blk_alloc ?_ _)); refine blk_put (cs := #[.float .f64 (0 : Nat), .float .f64 (0 : Nat), .float .f64 (0 : Nat), .float .f64 (0 : Nat)]) ?_ 0 _ rfl; (with_reducible repeat (first | refine blk_drewN ?_ _ | refine blk_drew ?_ | refine blk_alloc ?_ _)); exact BK111.out) hg (Kd.R_ne HO_8.out BK111.out (by decide))); have n1_ := Aside0.mk (hb); have n2_ := Aside0.mk (ho); clear BK111; clear HB; clear HO_8; have BK111 := n0_; have HB := n1_; have HO114 := n2_; clear n0_ n1_ n2_; clear ho hb hg hat))
                    go_roundg k2
                    case measure => have := HJ3.out; have := HK2.out; omega
                    case rel => exact ⟨(y112), (wrap64 (x25_2 + 1)), (by first | rfl | (simp; done) | (simp [*]; done) | (simp [wrap64]; done)), H', ⟨by have := HJ3.out; have := HK2.out; omega⟩, ⟨by (with_reducible repeat (first | apply Kd.R_alloc | apply Kd.R_drewN | apply Kd.R_drew)); exact HO114.out⟩, ⟨by repeat (first | (with_reducible first | exact HB.out | apply below_alloc | apply pw_below_drewN | apply below_drew1 | refine below_set ?_ GE111.out) | exact HB.out)⟩⟩
                  · rw [if_neg c11] at H
                    exact absurd H (by simp)
                · rw [if_neg c10] at H
                  exact absurd H (by simp)
              · rw [if_neg c9] at H
                exact absurd H (by simp)
            · rw [if_neg c8] at H
              have c8b0 : decide (x25_2 < (l1.length : Int)) = false := decide_eq_false c8
              clear c8
              by_cases c15 : 0 ≤ a2
              · rw [if_pos c15] at H
                have c15b0 := eq_true c15
                have c15b1 : decide (0 ≤ a2) = true := decide_eq_true c15
                clear c15
                by_cases c16 : (a2 : Int).toNat ≤ 35184372088832
                · rw [if_pos c16] at H
                  have c16b0 := eq_true c16
                  have c16b1 : decide ((a2 : Int).toNat ≤ 35184372088832) = true := decide_eq_true c16
                  clear c16
                  obtain ⟨y115, hy115⟩ : ∃ y_ : List Nat, y_ = (List.replicate (a2 : Int).toNat (0 : Nat)) := ⟨_, rfl⟩
                  replace H : (impl_TideDay.l1 k2 a0 l1 x8_2 y115 (y115.length : Int) 0) = some (r1, r2) := by first | (rw [hy115]; with_reducible exact H) | (have H2_ := (Option.bind_some _ _).symm.trans H; rw [hy115]; with_reducible exact H2_) | (have H2_ := (Option.bind_some _ _).symm.trans H; with_reducible exact H2_) | with_reducible exact H | (rw [hy115]; exact H) | exact H
                  have Ny115 := Aside0.mk hy115
                  clear hy115
                  have H' := Aside0.mk H
                  clear H
                  go_wp2_with (first | ((with_reducible refine gate_dst (N := 36) rfl ?_); refine Kd.R_make Kd.flt _ 26 rfl (N := 36) rfl 24 _ _ rfl a2 rfl rfl Try.underlying24 (.float .f64 0) 8 info26 rfl (by decide) (by omega) (0 : Nat) (ok := fun _ => True) (okp := fun _ => True) rfl (fun _ hk => hk) trivial (of_decide_eq_true (by first | (with_reducible assumption) | assumption)) (Nat.le_trans (Nat.mul_le_mul_right _ (of_decide_eq_true (by first | (with_reducible assumption) | assumption) : a2.toNat ≤ 35184372088832)) (by omega)) (Below.refl _ _) (Nat.le_refl _) ?_; intro v116 w17 ho18 hb hg_ hnew_; clear hg_ hnew_; (first | rw [← Ny115.out] at ho18 | (simp only [Int.reduceToNat] at ho18; rw [← Ny115.out] at ho18)); have n0_ := Aside0.mk (Kd.R_below (by (with_reducible repeat (first | apply Kd.R_alloc | apply Kd.R_drewN | apply Kd.R_drew)); exact HO_8.out) hb); have n1_ := Aside0.mk (Kd.R_lower ho18 (below_size (by repeat (first | (with_reducible first | exact HB.out | apply below_alloc | apply pw_below_drewN | apply below_drew1) | exact HB.out)))); have n2_ := Aside0.mk (below_step (by repeat (first | (with_reducible first | exact HB.out | apply below_alloc | apply pw_below_drewN | apply below_drew1) | exact HB.out)) hb); clear HO_8; clear HB; have HO_8 := n0_; have HO117 := n1_; have HB := n2_; clear n0_ n1_ n2_; clear hb ho18; obtain ⟨Ao19, co19, eo19⟩ := Kd.R_slice HO117.out; subst eo19))
                  go_loopg [39] k2 (fun kq v39 w' => ∃ (x8_3 : List (S28)) (x11_3 : List Nat) (x39_3 : Int), v39 = .int .i64 x39_3 ∧ Aside0 (impl_TideDay.l1 kq a0 l1 x8_3 x11_3 (y115.length : Int) x39_3 = some (r1, r2)) ∧ Aside0 (kq ≤ k2) ∧ Aside0 (Kd.R k28 28 w' w.heap.size (fun _ => True) u8 x8_3) ∧ Aside0 (Kd.R Kd.flt 26 w' w.heap.size (fun _ => True) (.slice Ao19 y115.length co19) x11_3) ∧ Aside0 (Below w.heap.size w w'))
                  case atStart => exact ⟨(x8_2), (y115), (0), (by first | rfl | (simp; done) | (simp [*]; done) | (simp [wrap64]; done)), H', ⟨Nat.le_refl _⟩, ⟨by (with_reducible repeat (first | apply Kd.R_alloc | apply Kd.R_drewN | apply Kd.R_drew)); exact HO_8.out⟩, ⟨by (with_reducible repeat (first | apply Kd.R_alloc | apply Kd.R_drewN | apply Kd.R_drew)); exact HO117.out⟩, ⟨by repeat (first | (with_reducible first | exact HB.out | apply below_alloc | apply pw_below_drewN | apply below_drew1) | exact HB.out)⟩⟩
                  case round =>
                    clear H'
                    try clear c1
                    try clear p1
                    try clear q1
                    try clear hx1
                    try clear p2
                    try clear c5
                    try clear c5b0
                    try clear c5b1
                    try clear p6
                    try clear c7
                    try clear c8
                    try clear c8b0
                    try clear c9
                    try clear c9b0
                    try clear c10
                    try clear c10b0
                    try clear c11
                    try clear p11
                    try clear q11
                    try clear hx11
                    try clear c15
                    try clear c15b0
                    try clear c15b1
                    try clear c16
                    try clear c16b0
                    try clear c16b1
                    try clear hcz13_0
                    try clear hcz13_1
                    try clear hcz13_2
                    try clear hcz13_3
                    try clear hfz13_0
                    try clear hfz13_1
                    try clear hfz13_2
                    try clear hfz13_3
                    try clear hx110_0
                    try clear hx110_1
                    try clear hx110_2
                    try clear hx110_3
                    try clear p110
                    try clear p2
                    try clear p6
                    try clear q110
                    obtain ⟨x8_3, x11_3, x39_3, rfl, HA, HK3, HO_8, HO_11, HB⟩ := hrel
                    have hl11_3 := (Kd.R_reads' HO_11.out).1
                    rw [hl11_3] at HO_11
                    (try simp only [hl11_3])
                    (try simp only [hl11_3] at HO_8)
                    cases gk with
                    | zero => exact absurd HA.out (by simp [impl_TideDay.l1])
                    | succ k3 =>
                      have H := HA.out
                      clear HA
                      simp only [impl_TideDay.l1] at H
                      by_cases c20 : x39_3 < (y115.length : Int)
                      · rw [if_pos c20] at H
                        have c20b0 : decide (x39_3 < (y115.length : Int)) = true := decide_eq_true c20
                        (try (have c20h := c20b0; simp only [hl11_3] at c20h))
                        clear c20
                        by_cases c21 : 0 ≤ x39_3
                        · rw [if_pos c21] at H
                          have c21b0 : decide (0 ≤ x39_3) = true := decide_eq_true c21
                          clear c21
                          by_cases c22 : x39_3 < (x11_3.length : Int)
                          · rw [if_pos c22] at H
                            have c22b0 : decide (x39_3 < (x11_3.length : Int)) = true := decide_eq_true c22
                            (try (have c22h := c22b0; simp only [hl11_3] at c22h))
                            clear c22
                            obtain ⟨y118, hy118⟩ : ∃ y_ : List Nat, y_ = (x11_3.set (x39_3 : Int).toNat a0) := ⟨_, rfl⟩
                            replace H : (impl_TideDay.l2 k3 a0 l1 x8_3 y118 x39_3 (y115.length : Int) x39_3 l1 (l1.length : Int) 0) = some (r1, r2) := by first | (rw [hy118]; with_reducible exact H) | (have H2_ := (Option.bind_some _ _).symm.trans H; rw [hy118]; with_reducible exact H2_) | (have H2_ := (Option.bind_some _ _).symm.trans H; with_reducible exact H2_) | with_reducible exact H | (rw [hy118]; exact H) | exact H
                            have Ny118 := Aside0.mk hy118
                            clear hy118
                            have H' := Aside0.mk H
                            clear H
                            have p23 : 0 ≤ (x39_3 : Int) := of_decide_eq_true (by first | (with_reducible assumption) | assumption)
                            have q23 : (x39_3 : Int) < ((x11_3.length : Int) : Int) := of_decide_eq_true (by first | (with_reducible assumption) | assumption)
                            obtain ⟨go23, co23, eo23, gb23, gl23, cl23, HG23⟩ := Kd.R_form HO_11.out (by omega)
                            (first | cases eo23 | (injection eo23 with ea_ en_ ec_; (first | subst ea_ | (injection ea_ with ea_; subst ea_)); subst ec_; clear en_))
                            have GB23 := Aside0.mk gb23
                            have GG23 := Aside0.mk HG23
                            clear gb23 gl23 HG23
                            obtain ⟨hx23_0, hf23_0⟩ := Kd.R_celln (0 : Nat) HO_11.out (x39_3 : Int) p23 q23
                            replace p23 := eq_true p23
                            replace q23 := eq_true q23
                            have HP24 := Kd.R_putg HO_11.out (x39_3 : Int) a0
                            go_wp2_with (first | ((with_reducible refine gate_store (t := 26) (p := 45) rfl ?_); refine store_event (t := 26) (p := 45) (v := ?vo_w25) (w1 := (wr.setCell ⟨go23, (x39_3 : Int).toNat, none⟩ (.float .f64 a0))) ?hg ?ho ?hn ?hr ?_; (case ho => rfl); (case hg => rfl); (case hn => rfl); (case hr => first | (go_simp; done) | (go_simp; rfl)); intro w25 hw; have hg : wr.grownBy w25 (some go23) := (by rw [hw]; exact HP24.2); have hp_ : Kd.R Kd.flt 26 w25 w.heap.size (fun _ => True) (.slice (some ⟨go23, 0, none⟩) x11_3.length co19) y118 := (by rw [hw, Ny118.out]; exact HP24.1); clear HP24; have n0_ := Aside0.mk (Kd.R_over' (v := (.slice (some ⟨go23, 0, none⟩) x11_3.length co19)) (by (with_reducible repeat (first | apply Kd.R_alloc | apply Kd.R_drewN | apply Kd.R_drew)); exact HO_8.out) (Kd.R_typed HO_11.out) (by decide) hg); have n1_ := Aside0.mk (hp_); have n2_ := Aside0.mk ((by rw [hw]; exact below_set (HB.out) GB23.out : Below w.heap.size w w25)); clear HO_8; clear HO_11; clear HB; have HO_8 := n0_; have HO_11 := n1_; have HB := n2_; clear n0_ n1_ n2_; clear hg hw hp_))
                            go_loopg [48] k3 (fun kq v48 w' => ∃ (x8_4 : List (S28)) (x11_4 : List Nat) (x48_4 : Int), v48 = .int .i64 x48_4 ∧ Aside0 (impl_TideDay.l2 kq a0 l1 x8_4 x11_4 x39_3 (y115.length : Int) x39_3 l1 (l1.length : Int) x48_4 = some (r1, r2)) ∧ Aside0 (kq ≤ k3) ∧ Aside0 (Kd.R k28 28 w' w.heap.size (fun _ => True) u8 x8_4) ∧ Aside0 (Kd.R Kd.flt 26 w' w.heap.size (fun _ => True) (.slice (some ⟨go23, 0, none⟩) x11_3.length co19) x11_4) ∧ Aside0 (Below w.heap.size w w'))
                            case atStart => exact ⟨(x8_3), (y118), (0), (by first | rfl | (simp; done) | (simp [*]; done) | (simp [wrap64]; done)), H', ⟨Nat.le_refl _⟩, ⟨by (try simp only [hl11_3]); (with_reducible repeat (first | apply Kd.R_alloc | apply Kd.R_drewN | apply Kd.R_drew)); exact HO_8.out⟩, ⟨by (try simp only [hl11_3]); (with_reducible repeat (first | apply Kd.R_alloc | apply Kd.R_drewN | apply Kd.R_drew)); exact HO_11.out⟩, ⟨by repeat (first | (with_reducible first | exact HB.out | apply below_alloc | apply pw_below_drewN | apply below_drew1) | exact HB.out)⟩⟩
                            case round =>
                              clear H'
                              try clear c1
                              try clear p1
                              try clear q1
                              try clear hx1
                              try clear c2
                              try clear p2
                              try clear q2
                              try clear hx2
                              try clear c5
                              try clear c5b0
                              try clear c5b1
                              try clear p6
                              try clear c7
                              try clear c8
                              try clear c8b0
                              try clear c9
                              try clear c9b0
                              try clear c10
                              try clear c10b0
                              try clear c11
                              try clear p11
                              try clear q11
                              try clear hx11
                              try clear c15
                              try clear c15b0
                              try clear c15b1
                              try clear c16
                              try clear c16b0
                              try clear c16b1
                              try clear c20
                              try clear c20b0
                              try clear c20h
                              try clear c21
                              try clear c21b0
                              try clear c22
                              try clear c22b0
                              try clear c22h
                              try clear p23
                              try clear q23
                              try clear hx23
                              try clear hf23
                              try clear hcz13_0
                              try clear hcz13_1
                              try clear hcz13_2
                              try clear hcz13_3
                              try clear hfz13_0
                              try clear hfz13_1
                              try clear hfz13_2
                              try clear hfz13_3
                              try clear hx110_0
                              try clear hx110_1
                              try clear hx110_2
                              try clear hx110_3
                              try clear hx23_0
                              try clear p1
                              try clear p11
                              try clear p110
                              try clear p2
                              try clear p23
                              try clear p6
                              try clear q1
                              try clear q11
                              try clear q110
                              try clear q23
                              obtain ⟨x8_4, x11_4, x48_4, rfl, HA, HK4, HO_8, HO_11, HB⟩ := hrel
                              have hl11_4 := (Kd.R_reads' HO_11.out).1
                              rw [hl11_4] at HO_11
                              (try simp only [hl11_4])
                              (try simp only [hl11_4] at HO_8)
                              cases gk with
                              | zero => exact absurd HA.out (by simp [impl_TideDay.l2])
                              | succ k4 =>
                                have H := HA.out
                                clear HA
                                simp only [impl_TideDay.l2] at H
                                by_cases c26 : x48_4 < (l1.length : Int)
                                · rw [if_pos c26] at H
                                  have c26b0 : decide (x48_4 < (l1.length : Int)) = true := decide_eq_true c26
                                  (try (have c26h := c26b0; simp only [hl11_3, hl11_4] at c26h))
                                  clear c26
                                  by_cases c27 : 0 ≤ x48_4
                                  · rw [if_pos c27] at H
                                    have c27b0 : decide (0 ≤ x48_4) = true := decide_eq_true c27
                                    clear c27
                                    by_cases c28 : x48_4 < (l1.length : Int)
                                    · rw [if_pos c28] at H
                                      have c28b0 : decide (x48_4 < (l1.length : Int)) = true := decide_eq_true c28
                                      (try (have c28h := c28b0; simp only [hl11_3, hl11_4] at c28h))
                                      clear c28
                                      by_cases c29 : 0 ≤ x39_3
                                      · rw [if_pos c29] at H
                                        have c29b0 : decide (0 ≤ x39_3) = true := decide_eq_true c29
                                        clear c29
                                        by_cases c30 : x39_3 < (x11_4.length : Int)
                                        · rw [if_pos c30] at H
                                          have c30b0 : decide (x39_3 < (x11_4.length : Int)) = true := decide_eq_true c30
                                          (try (have c30h := c30b0; simp only [hl11_3, hl11_4] at c30h))
                                          clear c30
                                          by_cases c31 : x48_4 < (x8_4.length : Int)
                                          · rw [if_pos c31] at H
                                            have c31b0 : decide (x48_4 < (x8_4.length : Int)) = true := decide_eq_true c31
                                            (try (have c31h := c31b0; simp only [hl11_3, hl11_4] at c31h))
                                            clear c31
                                            by_cases c32 : (floatBits .add .f64 (rdOf (0 : Nat) x11_4 x39_3) ((rd_T28 x8_4 x48_4).f0)).isSome = true
                                            · rw [if_pos c32] at H
                                              have c32b0 := eq_true c32
                                              have c32b1 : decide ((floatBits .add .f64 (rdOf (0 : Nat) x11_4 x39_3) ((rd_T28 x8_4 x48_4).f0)).isSome = true) = true := decide_eq_true c32
                                              clear c32
                                              obtain ⟨y123, hy123⟩ : ∃ y_ : List Nat, y_ = (x11_4.set (x39_3 : Int).toNat ((floatBits .add .f64 (rdOf (0 : Nat) x11_4 x39_3) ((rd_T28 x8_4 x48_4).f0)).getD 0)) := ⟨_, rfl⟩
                                              replace H : ((impl_Times.f ((rd_T28 x8_4 x48_4).f0) ((rd_T28 x8_4 x48_4).f1) ((rd_T42 l1 x48_4).f1.f0) ((rd_T42 l1 x48_4).f1.f1)).bind fun bt125 => (impl_TideDay.l2 k4 a0 l1 (x8_4.set (x48_4 : Int).toNat (⟨bt125.1, bt125.2⟩ : S28)) y123 x39_3 (y115.length : Int) x39_3 l1 (l1.length : Int) (wrap64 (x48_4 + 1)))) = some (r1, r2) := by first | (rw [hy123]; with_reducible exact H) | (have H2_ := (Option.bind_some _ _).symm.trans H; rw [hy123]; with_reducible exact H2_) | (have H2_ := (Option.bind_some _ _).symm.trans H; with_reducible exact H2_) | with_reducible exact H | (rw [hy123]; exact H) | exact H
                                              have Ny123 := Aside0.mk hy123
                                              clear hy123
                                              replace H := Option.bind_eq_some_iff.mp H
                                              obtain ⟨⟨t125, t126⟩, A340, H⟩ := H
                                              replace H : (impl_TideDay.l2 k4 a0 l1 (x8_4.set (x48_4 : Int).toNat (⟨t125, t126⟩ : S28)) y123 x39_3 (y115.length : Int) x39_3 l1 (l1.length : Int) (wrap64 (x48_4 + 1))) = some (r1, r2) := H
                                              have A34 := Aside0.mk A340
                                              clear A340
                                              obtain ⟨y127, hy127⟩ : ∃ y_ : List (S28), y_ = (x8_4.set (x48_4 : Int).toNat (⟨t125, t126⟩ : S28)) := ⟨_, rfl⟩
                                              replace H : (impl_TideDay.l2 k4 a0 l1 y127 y123 x39_3 (y115.length : Int) x39_3 l1 (l1.length : Int) (wrap64 (x48_4 + 1))) = some (r1, r2) := by first | (rw [hy127]; with_reducible exact H) | (have H2_ := (Option.bind_some _ _).symm.trans H; rw [hy127]; with_reducible exact H2_) | (have H2_ := (Option.bind_some _ _).symm.trans H; with_reducible exact H2_) | with_reducible exact H | (rw [hy127]; exact H) | exact H
                                              have Ny127 := Aside0.mk hy127
                                              clear hy127
                                              have H' := Aside0.mk H
                                              clear H
                                              have p119 : 0 ≤ (x48_4 : Int) := of_decide_eq_true (by first | (with_reducible assumption) | assumption)
                                              have q119 : x48_4 < (l1.length : Int) := of_decide_eq_true (by first | (with_reducible assumption) | assumption)
                                              obtain ⟨ad119, e119, hx119_0, hx119_1, hx119_2, hx119_3⟩ := at_T42 HR1.out x48_4 p119 q119
                                              cases e119
                                              replace hx119_0 := (HB.out.cell (World.block_lt_of_cell? w _ hx119_0)).trans hx119_0
                                              replace hx119_1 := (HB.out.cell (World.block_lt_of_cell? w _ hx119_1)).trans hx119_1
                                              replace hx119_2 := (HB.out.cell (World.block_lt_of_cell? w _ hx119_2)).trans hx119_2
                                              replace hx119_3 := (HB.out.cell (World.block_lt_of_cell? w _ hx119_3)).trans hx119_3
                                              replace p119 := eq_true p119
                                              replace q119 := eq_true q119
                                              try go_wp2_with (first | ((with_reducible refine gate_dst (N := 14) rfl ?_); refine box_event ?hg (N := 14) ?hd (cs := #[.float .f64 (0 : Nat), .float .f64 (0 : Nat), .float .f64 (0 : Nat), .float .f64 (0 : Nat)]) (t := 42) ?hr ?_; (case hd => rfl); (case hg => rfl); (case hr => first | (go_simp; done) | (go_simp; rfl)); intro gb120 hg w36 hbox hb; have n0_ := Aside0.mk (Kd.R_below (by (with_reducible repeat (first | apply Kd.R_alloc | apply Kd.R_drewN | apply Kd.R_drew)); exact HO_8.out) hb); have n1_ := Aside0.mk (Kd.R_below (by (with_reducible repeat (first | apply Kd.R_alloc | apply Kd.R_drewN | apply Kd.R_drew)); exact HO_11.out) hb); have n2_ := Aside0.mk (below_step (by repeat (first | (with_reducible first | exact HB.out | apply below_alloc | apply pw_below_drewN | apply below_drew1) | exact HB.out)) hb); have n3_ := Aside0.mk (hbox); have n4_ := Aside0.mk ((by rw [hg]; exact (below_size (by repeat (first | (with_reducible first | exact HB.out | apply below_alloc | apply pw_below_drewN | apply below_drew1) | exact HB.out))) : w.heap.size ≤ gb120)); have n5_ := Aside0.mk ((by rw [hg]; exact (below_size (by repeat (first | (with_reducible first | exact HB.out | apply below_alloc | apply pw_below_drewN | apply below_drew1) | exact HB.out))) : w.heap.size ≤ gb120)); clear HO_8; clear HO_11; clear HB; have HO_8 := n0_; have HO_11 := n1_; have HB := n2_; have BK120 := n3_; have GW120 := n4_; have GE120 := n5_; clear n0_ n1_ n2_ n3_ n4_ n5_; clear hb hbox hg; have hcz37_0 : w36.cell? ⟨gb120, 0, none⟩ = some (.float .f64 (0 : Nat)) := (blk_cell BK120.out 0).trans rfl; have hcz37_1 : w36.cell? ⟨gb120, 1, none⟩ = some (.float .f64 (0 : Nat)) := (blk_cell BK120.out 1).trans rfl; have hcz37_2 : w36.cell? ⟨gb120, 2, none⟩ = some (.float .f64 (0 : Nat)) := (blk_cell BK120.out 2).trans rfl; have hcz37_3 : w36.cell? ⟨gb120, 3, none⟩ = some (.float .f64 (0 : Nat)) := (blk_cell BK120.out 3).trans rfl; have hfz37_0 := blk_frozen BK120.out 0; have hfz37_1 := blk_frozen BK120.out 1; have hfz37_2 := blk_frozen BK120.out 2; have hfz37_3 := blk_frozen BK120.out 3))
                                              have n0_ : Aside0 (Kd.R k28 28 ((((w36.setCell ⟨gb120, 0, none⟩ (.float .f64 ((rd_T42 l1 x48_4).f0.f0))).setCell ⟨gb120, 1, none⟩ (.float .f64 ((rd_T42 l1 x48_4).f0.f1))).setCell ⟨gb120, 2, none⟩ (.float .f64 ((rd_T42 l1 x48_4).f1.f0))).setCell ⟨gb120, 3, none⟩ (.float .f64 ((rd_T42 l1 x48_4).f1.f1))) w.heap.size (fun _ => True) u8 x8_4) := ⟨by (with_reducible repeat (first | apply Kd.R_alloc | apply Kd.R_drewN | apply Kd.R_drew)); exact Kd.R_mono (Kd.R_far (p := ⟨gb120, 3, none⟩) (Kd.R_far (p := ⟨gb120, 2, none⟩) (Kd.R_far (p := ⟨gb120, 1, none⟩) (Kd.R_far (p := ⟨gb120, 0, none⟩) (Kd.R_types HO_8.out BK120.out (by decide)) (fun _ hk => hk.2) (.float .f64 ((rd_T42 l1 x48_4).f0.f0))) (fun _ hk => hk.2) (.float .f64 ((rd_T42 l1 x48_4).f0.f1))) (fun _ hk => hk.2) (.float .f64 ((rd_T42 l1 x48_4).f1.f0))) (fun _ hk => hk.2) (.float .f64 ((rd_T42 l1 x48_4).f1.f1))) (fun _ hk => trivial)⟩
                                              have n1_ : Aside0 (Kd.R Kd.flt 26 ((((w36.setCell ⟨gb120, 0, none⟩ (.float .f64 ((rd_T42 l1 x48_4).f0.f0))).setCell ⟨gb120, 1, none⟩ (.float .f64 ((rd_T42 l1 x48_4).f0.f1))).setCell ⟨gb120, 2, none⟩ (.float .f64 ((rd_T42 l1 x48_4).f1.f0))).setCell ⟨gb120, 3, none⟩ (.float .f64 ((rd_T42 l1 x48_4).f1.f1))) w.heap.size (fun _ => True) (.slice (some ⟨go23, 0, none⟩) x11_4.length co19) x11_4) := ⟨by (with_reducible repeat (first | apply Kd.R_alloc | apply Kd.R_drewN | apply Kd.R_drew)); exact Kd.R_mono (Kd.R_far (p := ⟨gb120, 3, none⟩) (Kd.R_far (p := ⟨gb120, 2, none⟩) (Kd.R_far (p := ⟨gb120, 1, none⟩) (Kd.R_far (p := ⟨gb120, 0, none⟩) (Kd.R_types HO_11.out BK120.out (by decide)) (fun _ hk => hk.2) (.float .f64 ((rd_T42 l1 x48_4).f0.f0))) (fun _ hk => hk.2) (.float .f64 ((rd_T42 l1 x48_4).f0.f1))) (fun _ hk => hk.2) (.float .f64 ((rd_T42 l1 x48_4).f1.f0))) (fun _ hk => hk.2) (.float .f64 ((rd_T42 l1 x48_4).f1.f1))) (fun _ hk => trivial)⟩
                                              have n2_ : Aside0 (((((w36.setCell ⟨gb120, 0, none⟩ (.float .f64 ((rd_T42 l1 x48_4).f0.f0))).setCell ⟨gb120, 1, none⟩ (.float .f64 ((rd_T42 l1 x48_4).f0.f1))).setCell ⟨gb120, 2, none⟩ (.float .f64 ((rd_T42 l1 x48_4).f1.f0))).setCell ⟨gb120, 3, none⟩ (.float .f64 ((rd_T42 l1 x48_4).f1.f1))).heap[gb120]? = some (.cells #[.float .f64 ((rd_T42 l1 x48_4).f0.f0), .float .f64 ((rd_T42 l1 x48_4).f0.f1), .float .f64 ((rd_T42 l1 x48_4).f1.f0), .float .f64 ((rd_T42 l1 x48_4).f1.f1)] 42 (0, 0))) := ⟨by (with_reducible repeat (first | refine blk_drewN ?_ _ | refine blk_drew ?_ | refine blk_alloc ?_ _)); refine blk_put (cs := #[.float .f64 ((rd_T42 l1 x48_4).f0.f0), .float .f64 ((rd_T42 l1 x48_4).f0.f1), .float .f64 ((rd_T42 l1 x48_4).f1.f0), .float .f64 (0 : Nat)]) ?_ 3 _ rfl; (with_reducible repeat (first | refine blk_drewN ?_ _ | refine blk_drew ?_ | refine blk_alloc ?_ _)); refine blk_put (cs := #[.float .f64 ((rd_T42 l1 x48_4).f0.f0), .float .f64 ((rd_T42 l1 x48_4).f0.f1), .float .f64 (0 : Nat), .float .f64 (0 : Nat)]) ?_ 2 _ rfl; (with_reducible repeat (first | refine blk_drewN ?_ _ | refine blk_drew ?_ | refine blk_alloc ?_ _)); refine blk_put (cs := #[.float .f64 ((rd_T42 l1 x48_4).f0.f0), .float .f64 (0 : Nat), .float .f64 (0 : Nat), .float .f64 (0 : Nat)]) ?_ 1 _ rfl; (with_reducible repeat (first | refine blk_drewN ?_ _ | refine blk_drew ?_ | refine blk_alloc ?_ _)); refine blk_put (cs := #[.float .f64 (0 : Nat), .float .f64 (0 : Nat), .float .f64 (0 : Nat), .float .f64 (0 : Nat)]) ?_ 0 _ rfl; (with_reducible repeat (first | refine blk_drewN ?_ _ | refine blk_drew ?_ | refine blk_alloc ?_ _)); exact BK120.out⟩
                                              have n3_ : Aside0 (Below w.heap.size w ((((w36.setCell ⟨gb120, 0, none⟩ (.float .f64 ((rd_T42 l1 x48_4).f0.f0))).setCell ⟨gb120, 1, none⟩ (.float .f64 ((rd_T42 l1 x48_4).f0.f1))).setCell ⟨gb120, 2, none⟩ (.float .f64 ((rd_T42 l1 x48_4).f1.f0))).setCell ⟨gb120, 3, none⟩ (.float .f64 ((rd_T42 l1 x48_4).f1.f1)))) := ⟨by repeat (first | (with_reducible first | exact HB.out | apply below_alloc | apply pw_below_drewN | apply below_drew1 | refine below_set ?_ GE120.out) | exact HB.out)⟩
                                              (try clear HO_8)
                                              (try clear HO_11)
                                              (try clear BK120)
                                              (try clear HB)
                                              generalize ((((w36.setCell ⟨gb120, 0, none⟩ (.float .f64 ((rd_T42 l1 x48_4).f0.f0))).setCell ⟨gb120, 1, none⟩ (.float .f64 ((rd_T42 l1 x48_4).f0.f1))).setCell ⟨gb120, 2, none⟩ (.float .f64 ((rd_T42 l1 x48_4).f1.f0))).setCell ⟨gb120, 3, none⟩ (.float .f64 ((rd_T42 l1 x48_4).f1.f1))) = w38 at n0_ n1_ n2_ n3_ ⊢
                                              have HO_8 := n0_
                                              have HO_11 := n1_
                                              have BK120 := n2_
                                              have HB := n3_
                                              clear n0_ n1_ n2_ n3_
                                              have n0_ := Aside0.mk (Kd.R_drew HO_8.out)
                                              have n1_ := Aside0.mk (Kd.R_drew HO_11.out)
                                              have n2_ := Aside0.mk (blk_drew BK120.out)
                                              have n3_ := Aside0.mk (below_drew1 HB.out)
                                              clear HO_8
                                              clear HO_11
                                              clear BK120
                                              clear HB
                                              have HO_8 := n0_
                                              have HO_11 := n1_
                                              have BK120 := n2_
                                              have HB := n3_
                                              clear n0_ n1_ n2_ n3_
                                              have p121 : 0 ≤ (x39_3 : Int) := of_decide_eq_true (by first | (with_reducible assumption) | assumption)
                                              have q121 : x39_3 < (x11_4.length : Int) := of_decide_eq_true (by first | (with_reducible assumption) | assumption)
                                              obtain ⟨ad121, e121, hx121_0⟩ := Kd.at_flt (Kd.R_reads' HO_11.out).2.2 x39_3 p121 q121
                                              obtain rfl : (⟨go23, 0, none⟩ : Addr) = ad121 := (by injection e121)
                                              (first | simp only [add_plain] at hx121_0 | simp only [add_at] at hx121_0 | simp only [Addr.add, Nat.zero_add] at hx121_0 | skip)
                                              replace p121 := eq_true p121
                                              replace q121 := eq_true q121
                                              obtain ⟨Ao40, co40, eo40⟩ := Kd.R_slice HO_8.out
                                              (first | subst eo40 | (injection eo40 with f1_ f2_ f3_; have f4_ := f1_.symm; have f5_ := f3_.symm; clear f1_ f2_ f3_; subst f4_; subst f5_))
                                              have p122 : 0 ≤ (x48_4 : Int) := of_decide_eq_true (by first | (with_reducible assumption) | assumption)
                                              have q122 : x48_4 < (x8_4.length : Int) := of_decide_eq_true (by first | (with_reducible assumption) | assumption)
                                              obtain ⟨ad122, e122, hx122_0, hx122_1⟩ := at_T28 (Kd.R_reads' HO_8.out).2.2 x48_4 p122 q122
                                              cases e122
                                              replace p122 := eq_true p122
                                              replace q122 := eq_true q122
                                              have hq41_ : (floatBits .add .f64 (rdOf (0 : Nat) x11_4 x39_3) ((rd_T28 x8_4 x48_4).f0)).isSome = true := (by first | assumption | exact of_eq_true (by assumption) | (simp only [*]))
                                              have hf41_ := fun w_ : World => run_float_arith (P := Try.prog) (w := w_) .add 26 .f64 (rdOf (0 : Nat) x11_4 x39_3) ((rd_T28 x8_4 x48_4).f0) ((floatBits .add .f64 (rdOf (0 : Nat) x11_4 x39_3) ((rd_T28 x8_4 x48_4).f0)).getD 0) (opt_getD_ hq41_)
                                              have p33 : 0 ≤ (x39_3 : Int) := of_decide_eq_true (by first | (with_reducible assumption) | assumption)
                                              have q33 : (x39_3 : Int) < ((x11_4.length : Int) : Int) := of_decide_eq_true (by first | (with_reducible assumption) | assumption)
                                              obtain ⟨hx33_0, hf33_0⟩ := Kd.R_celln (0 : Nat) HO_11.out (x39_3 : Int) p33 q33
                                              replace p33 := eq_true p33
                                              replace q33 := eq_true q33
                                              have HP42 := Kd.R_putn HO_11.out (x39_3 : Int) ((floatBits .add .f64 (rdOf (0 : Nat) x11_4 x39_3) ((rd_T28 x8_4 x48_4).f0)).getD 0)
                                              rw [← Ny123.out] at HP42
                                              have HQ42 := Aside0.mk HP42
                                              clear HP42
                                              refine start_ (n := 12) (S := fun w' => w'.cell? ⟨go23, (x39_3).toNat, none⟩ = some (.float .f64 (rdOf (0 : Nat) x11_4 x39_3)) ∧ w'.cell? (ad122.add ((x48_4).toNat * 2)) = some (.float .f64 ((rd_T28 x8_4 x48_4).f0)) ∧ w'.cell? ⟨(ad122.add ((x48_4).toNat * 2)).block, (ad122.add ((x48_4).toNat * 2)).off + 1, none⟩ = some (.float .f64 ((rd_T28 x8_4 x48_4).f1))) (ds := [11]) #[false, false, false, false, false, false, false, false, false, false, false, false] (by kernel_rfl) rfl rfl ⟨hx121_0, hx122_0, hx122_1⟩ (fun hHeld => ?_); refine with_tabW impl_TideDay.tab17 impl_TideDay.bits17 (fun HT_ HW_ => ?_)
                                              generalize w38.drew = w39 at HO_8 HO_11 BK120 HB HQ42 hf33_0 hx121_0 hx122_0 hx122_1 hx33_0 hHeld ⊢
                                              refine pure_ (i := 0) (N := some 53) (v := ?_) (a' := ?_) #[true, false, false, false, false, false, false, false, false, false, false, false] rfl rfl (any_of HT_.out (by kernel_rfl)) (fun _ _ _ h => h) (Or.inl ⟨by rfl, ?_⟩) ?_ ?_
                                              rotate_left
                                              · intro w'
                                                go_simp
                                                with_reducible rfl
                                              rotate_left
                                              · simp only [Act.put, List.setIfInBounds_toArray, List.set_cons_zero, List.set_cons_succ, i64_w, i32_w]
                                                rfl
                                              refine pure_ (i := 1) (N := some 54) (v := ?_) (a' := ?_) #[true, true, false, false, false, false, false, false, false, false, false, false] rfl rfl (any_of HT_.out (by kernel_rfl)) (fun _ _ _ h => h) (Or.inl ⟨by rfl, ?_⟩) ?_ ?_
                                              rotate_left
                                              · intro w'
                                                go_simp
                                                with_reducible rfl
                                              rotate_left
                                              · simp only [Act.put, List.setIfInBounds_toArray, List.set_cons_zero, List.set_cons_succ, i64_w, i32_w]
                                                rfl
                                              refine pure_ (i := 2) (N := some 55) (v := ?_) (a' := ?_) #[true, true, true, false, false, false, false, false, false, false, false, false] rfl rfl (any_of HT_.out (by kernel_rfl)) (fun _ _ _ h => h) (Or.inl ⟨by rfl, ?_⟩) ?_ ?_
                                              rotate_left
                                              · intro w'
                                                go_simp
                                                with_reducible rfl
                                              rotate_left
                                              · simp only [Act.put, List.setIfInBounds_toArray, List.set_cons_zero, List.set_cons_succ, i64_w, i32_w]
                                                rfl
                                              refine pure_ (i := 4) (N := some 57) (v := ?_) (a' := ?_) #[true, true, true, false, true, false, false, false, false, false, false, false] rfl rfl (any_of HT_.out (by kernel_rfl)) (fun _ _ _ h => h) (Or.inl ⟨by rfl, ?_⟩) ?_ ?_
                                              rotate_left
                                              · intro w'
                                                go_simp
                                                with_reducible rfl
                                              rotate_left
                                              · simp only [Act.put, List.setIfInBounds_toArray, List.set_cons_zero, List.set_cons_succ, i64_w, i32_w]
                                                rfl
                                              refine pure_ (i := 5) (N := some 58) (v := ?_) (a' := ?_) #[true, true, true, false, true, true, false, false, false, false, false, false] rfl rfl (any_of HT_.out (by kernel_rfl)) (fun _ _ _ h => h) (Or.inl ⟨by rfl, ?_⟩) ?_ ?_
                                              rotate_left
                                              · intro w'
                                                go_simp
                                                with_reducible rfl
                                              rotate_left
                                              · simp only [Act.put, List.setIfInBounds_toArray, List.set_cons_zero, List.set_cons_succ, i64_w, i32_w]
                                                rfl
                                              refine pure_ (i := 6) (N := some 59) (v := ?_) (a' := ?_) #[true, true, true, false, true, true, true, false, false, false, false, false] rfl rfl (any_of HT_.out (by kernel_rfl)) (fun _ _ _ h => h) (Or.inl ⟨by rfl, ?_⟩) ?_ ?_
                                              rotate_left
                                              · intro w'
                                                go_simp
                                                with_reducible rfl
                                              rotate_left
                                              · simp only [Act.put, List.setIfInBounds_toArray, List.set_cons_zero, List.set_cons_succ, i64_w, i32_w]
                                                rfl
                                              refine pure_ (i := 7) (N := some 60) (v := ?_) (a' := ?_) #[true, true, true, false, true, true, true, true, false, false, false, false] rfl rfl (any_of HT_.out (by kernel_rfl)) (fun _ _ _ h => h) (Or.inl ⟨by rfl, ?_⟩) ?_ ?_
                                              rotate_left
                                              · intro w'
                                                go_simp
                                                with_reducible rfl
                                              rotate_left
                                              · simp only [Act.put, List.setIfInBounds_toArray, List.set_cons_zero, List.set_cons_succ, i64_w, i32_w]
                                                rfl
                                              refine take_ (i := 3) (N := some 56) (v := ?_) (a' := ?_) #[true, true, true, true, true, true, true, true, false, false, false, false] rfl rfl (take_ofW HT_.out HW_.out (by kernel_rfl)) (fun _ _ _ h => h) (Or.inl ⟨by rfl, ?_⟩) hHeld ?_ ?_
                                              rotate_left
                                              · rintro w' ⟨s0, s1, s2⟩
                                                go_simp
                                                with_reducible rfl
                                              rotate_left
                                              · simp only [Act.put, List.setIfInBounds_toArray, List.set_cons_zero, List.set_cons_succ, i64_w, i32_w]
                                                rfl
                                              refine take_ (i := 8) (N := some 61) (v := ?_) (a' := ?_) #[true, true, true, true, true, true, true, true, true, false, false, false] rfl rfl (take_ofW HT_.out HW_.out (by kernel_rfl)) (fun _ _ _ h => h) (Or.inl ⟨by rfl, ?_⟩) hHeld ?_ ?_
                                              rotate_left
                                              · rintro w' ⟨s0, s1, s2⟩
                                                go_simp
                                                with_reducible rfl
                                              rotate_left
                                              · simp only [Act.put, List.setIfInBounds_toArray, List.set_cons_zero, List.set_cons_succ, i64_w, i32_w]
                                                rfl
                                              refine pure_ (i := 9) (N := some 62) (v := ?_) (a' := ?_) #[true, true, true, true, true, true, true, true, true, true, false, false] rfl rfl (any_of HT_.out (by kernel_rfl)) (fun _ _ _ h => h) (Or.inl ⟨by rfl, ?_⟩) ?_ ?_
                                              rotate_left
                                              · intro w'
                                                go_simp
                                                with_reducible rfl
                                              rotate_left
                                              · simp only [Act.put, List.setIfInBounds_toArray, List.set_cons_zero, List.set_cons_succ, i64_w, i32_w]
                                                rfl
                                              refine pure_ (i := 10) (N := some 63) (v := ?_) (a' := ?_) #[true, true, true, true, true, true, true, true, true, true, true, false] rfl rfl (any_of HT_.out (by kernel_rfl)) (fun _ _ _ h => h) (Or.inl ⟨by rfl, ?_⟩) ?_ ?_
                                              rotate_left
                                              · intro w'
                                                go_simp
                                                with_reducible rfl
                                              rotate_left
                                              · simp only [Act.put, List.setIfInBounds_toArray, List.set_cons_zero, List.set_cons_succ, i64_w, i32_w]
                                                rfl
                                              refine last_ (i := 11) (N := none) #[true, true, true, true, true, true, true, true, true, true, true, true] rfl rfl (one_of HT_.out (by kernel_rfl)) (by decide) (fun K hK => ?_)
                                              refine skip_ (w1 := ?_) (by rfl) rfl ?_ ?_
                                              rotate_left
                                              · go_simp
                                                rfl
                                              refine hK.out _ _ ?_
                                              clear hK K
                                              refine done_ (done_of HT_.out (by kernel_rfl)) ?_
                                              try go_wp2
                                              have n0_ : Aside0 (Kd.R k28 28 (w39.setCell ⟨go23, (x39_3 : Int).toNat, none⟩ (.float .f64 ((floatBits .add .f64 (rdOf (0 : Nat) x11_4 x39_3) ((rd_T28 x8_4 x48_4).f0)).getD 0))) w.heap.size (fun _ => True) (.slice (some ad122) x8_4.length co40) x8_4) := ⟨by (with_reducible repeat (first | apply Kd.R_alloc | apply Kd.R_drewN | apply Kd.R_drew)); exact Kd.R_mono (Kd.R_far (p := ⟨go23, (x39_3 : Int).toNat, none⟩) (Kd.R_types2 HO_8.out HO_11.out (by decide)) (fun _ hk => hk.2) (.float .f64 ((floatBits .add .f64 (rdOf (0 : Nat) x11_4 x39_3) ((rd_T28 x8_4 x48_4).f0)).getD 0))) (fun _ hk => trivial)⟩
                                              have n1_ : Aside0 (Kd.R Kd.flt 26 (w39.setCell ⟨go23, (x39_3 : Int).toNat, none⟩ (.float .f64 ((floatBits .add .f64 (rdOf (0 : Nat) x11_4 x39_3) ((rd_T28 x8_4 x48_4).f0)).getD 0))) w.heap.size (fun _ => True) (.slice (some ⟨go23, 0, none⟩) x11_4.length co19) y123) := ⟨by (with_reducible repeat (first | apply Kd.R_alloc | apply Kd.R_drewN | apply Kd.R_drew)); exact HQ42.out⟩
                                              have n2_ : Aside0 ((w39.setCell ⟨go23, (x39_3 : Int).toNat, none⟩ (.float .f64 ((floatBits .add .f64 (rdOf (0 : Nat) x11_4 x39_3) ((rd_T28 x8_4 x48_4).f0)).getD 0))).heap[gb120]? = some (.cells #[.float .f64 ((rd_T42 l1 x48_4).f0.f0), .float .f64 ((rd_T42 l1 x48_4).f0.f1), .float .f64 ((rd_T42 l1 x48_4).f1.f0), .float .f64 ((rd_T42 l1 x48_4).f1.f1)] 42 (0, 0))) := ⟨by (with_reducible repeat (first | refine blk_drewN ?_ _ | refine blk_drew ?_ | refine blk_alloc ?_ _)); refine blk_far ?_ (by have h_ := Kd.R_ne HO_11.out BK120.out (by decide); intro e_; exact h_ (by rw [e_]; rfl)) _; (with_reducible repeat (first | refine blk_drewN ?_ _ | refine blk_drew ?_ | refine blk_alloc ?_ _)); exact BK120.out⟩
                                              have n3_ : Aside0 (Below w.heap.size w (w39.setCell ⟨go23, (x39_3 : Int).toNat, none⟩ (.float .f64 ((floatBits .add .f64 (rdOf (0 : Nat) x11_4 x39_3) ((rd_T28 x8_4 x48_4).f0)).getD 0)))) := ⟨by repeat (first | (with_reducible first | exact HB.out | apply below_alloc | apply pw_below_drewN | apply below_drew1 | refine below_set ?_ GB23.out | refine below_set ?_ GE120.out) | exact HB.out)⟩
                                              (try clear HO_8)
                                              (try clear HO_11)
                                              (try clear BK120)
                                              (try clear HB)
                                              generalize (w39.setCell ⟨go23, (x39_3 : Int).toNat, none⟩ (.float .f64 ((floatBits .add .f64 (rdOf (0 : Nat) x11_4 x39_3) ((rd_T28 x8_4 x48_4).f0)).getD 0))) = w43 at n0_ n1_ n2_ n3_ ⊢
                                              have HO_8 := n0_
                                              have HO_11 := n1_
                                              have BK120 := n2_
                                              have HB := n3_
                                              clear n0_ n1_ n2_ n3_
                                              have n0_ := Aside0.mk (Kd.R_drew HO_8.out)
                                              have n1_ := Aside0.mk (Kd.R_drew HO_11.out)
                                              have n2_ := Aside0.mk (blk_drew BK120.out)
                                              have n3_ := Aside0.mk (below_drew1 HB.out)
                                              clear HO_8
                                              clear HO_11
                                              clear BK120
                                              clear HB
                                              have HO_8 := n0_
                                              have HO_11 := n1_
                                              have BK120 := n2_
                                              have HB := n3_
                                              clear n0_ n1_ n2_ n3_
                                              have p124 : 0 ≤ (x48_4 : Int) := of_decide_eq_true (by first | (with_reducible assumption) | assumption)
                                              have q124 : x48_4 < (x8_4.length : Int) := of_decide_eq_true (by first | (with_reducible assumption) | assumption)
                                              obtain ⟨ad124, e124, hx124_0, hx124_1⟩ := at_T28 (Kd.R_reads' HO_8.out).2.2 x48_4 p124 q124
                                              obtain rfl : ad122 = ad124 := (by injection e124)
                                              replace p124 := eq_true p124
                                              replace q124 := eq_true q124
                                              refine start_ (n := 11) (S := fun w' => w'.cell? ⟨gb120, 0, none⟩ = some (.float .f64 ((rd_T42 l1 x48_4).f0.f0)) ∧ w'.cell? ⟨gb120, 1, none⟩ = some (.float .f64 ((rd_T42 l1 x48_4).f0.f1)) ∧ w'.cell? ⟨gb120, 2, none⟩ = some (.float .f64 ((rd_T42 l1 x48_4).f1.f0)) ∧ w'.cell? ⟨gb120, 3, none⟩ = some (.float .f64 ((rd_T42 l1 x48_4).f1.f1)) ∧ w'.cell? (ad122.add ((x48_4).toNat * 2)) = some (.float .f64 ((rd_T28 x8_4 x48_4).f0)) ∧ w'.cell? ⟨(ad122.add ((x48_4).toNat * 2)).block, (ad122.add ((x48_4).toNat * 2)).off + 1, none⟩ = some (.float .f64 ((rd_T28 x8_4 x48_4).f1))) (ds := [10]) #[false, false, false, false, false, false, false, false, false, false, false] (by kernel_rfl) rfl rfl ⟨(blk_cell BK120.out 0).trans rfl, (blk_cell BK120.out 1).trans rfl, (blk_cell BK120.out 2).trans rfl, (blk_cell BK120.out 3).trans rfl, hx124_0, hx124_1⟩ (fun hHeld => ?_); refine with_tabW impl_TideDay.tab18 impl_TideDay.bits18 (fun HT_ HW_ => ?_)
                                              generalize w43.drew = w44 at HO_8 HO_11 BK120 HB HQ42 hx124_0 hx124_1 hHeld ⊢
                                              refine pure_ (i := 0) (N := some 64) (v := ?_) (a' := ?_) #[true, false, false, false, false, false, false, false, false, false, false] rfl rfl (any_of HT_.out (by kernel_rfl)) (fun _ _ _ h => h) (Or.inl ⟨by rfl, ?_⟩) ?_ ?_
                                              rotate_left
                                              · intro w'
                                                go_simp
                                                with_reducible rfl
                                              rotate_left
                                              · simp only [Act.put, List.setIfInBounds_toArray, List.set_cons_zero, List.set_cons_succ, i64_w, i32_w]
                                                rfl
                                              refine pure_ (i := 1) (N := some 65) (v := ?_) (a' := ?_) #[true, true, false, false, false, false, false, false, false, false, false] rfl rfl (any_of HT_.out (by kernel_rfl)) (fun _ _ _ h => h) (Or.inl ⟨by rfl, ?_⟩) ?_ ?_
                                              rotate_left
                                              · intro w'
                                                go_simp
                                                with_reducible rfl
                                              rotate_left
                                              · simp only [Act.put, List.setIfInBounds_toArray, List.set_cons_zero, List.set_cons_succ, i64_w, i32_w]
                                                rfl
                                              refine pure_ (i := 2) (N := some 66) (v := ?_) (a' := ?_) #[true, true, true, false, false, false, false, false, false, false, false] rfl rfl (any_of HT_.out (by kernel_rfl)) (fun _ _ _ h => h) (Or.inl ⟨by rfl, ?_⟩) ?_ ?_
                                              rotate_left
                                              · intro w'
                                                go_simp
                                                with_reducible rfl
                                              rotate_left
                                              · simp only [Act.put, List.setIfInBounds_toArray, List.set_cons_zero, List.set_cons_succ, i64_w, i32_w]
                                                rfl
                                              refine pure_ (i := 3) (N := some 67) (v := ?_) (a' := ?_) #[true, true, true, true, false, false, false, false, false, false, false] rfl rfl (any_of HT_.out (by kernel_rfl)) (fun _ _ _ h => h) (Or.inl ⟨by rfl, ?_⟩) ?_ ?_
                                              rotate_left
                                              · intro w'
                                                go_simp
                                                with_reducible rfl
                                              rotate_left
                                              · simp only [Act.put, List.setIfInBounds_toArray, List.set_cons_zero, List.set_cons_succ, i64_w, i32_w]
                                                rfl
                                              refine pure_ (i := 4) (N := some 68) (v := ?_) (a' := ?_) #[true, true, true, true, true, false, false, false, false, false, false] rfl rfl (any_of HT_.out (by kernel_rfl)) (fun _ _ _ h => h) (Or.inl ⟨by rfl, ?_⟩) ?_ ?_
                                              rotate_left
                                              · intro w'
                                                go_simp
                                                with_reducible rfl
                                              rotate_left
                                              · simp only [Act.put, List.setIfInBounds_toArray, List.set_cons_zero, List.set_cons_succ, i64_w, i32_w]
                                                rfl
                                              refine pure_ (i := 6) (N := some 70) (v := ?_) (a' := ?_) #[true, true, true, true, true, false, true, false, false, false, false] rfl rfl (any_of HT_.out (by kernel_rfl)) (fun _ _ _ h => h) (Or.inl ⟨by rfl, ?_⟩) ?_ ?_
                                              rotate_left
                                              · intro w'
                                                go_simp
                                                with_reducible rfl
                                              rotate_left
                                              · simp only [Act.put, List.setIfInBounds_toArray, List.set_cons_zero, List.set_cons_succ, i64_w, i32_w]
                                                rfl
                                              refine take_ (i := 5) (N := some 69) (v := ?_) (a' := ?_) #[true, true, true, true, true, true, true, false, false, false, false] rfl rfl (take_ofW HT_.out HW_.out (by kernel_rfl)) (fun _ _ _ h => h) (Or.inl ⟨by rfl, ?_⟩) hHeld ?_ ?_
                                              rotate_left
                                              · rintro w' ⟨s0, s1, s2, s3, s4, s5⟩
                                                go_simp
                                                with_reducible rfl
                                              rotate_left
                                              · simp only [Act.put, List.setIfInBounds_toArray, List.set_cons_zero, List.set_cons_succ, i64_w, i32_w]
                                                rfl
                                              refine take_ (i := 7) (N := some 71) (v := ?_) (a' := ?_) #[true, true, true, true, true, true, true, true, false, false, false] rfl rfl (take_ofW HT_.out HW_.out (by kernel_rfl)) (fun _ _ _ h => h) (Or.inl ⟨by rfl, ?_⟩) hHeld ?_ ?_
                                              rotate_left
                                              · rintro w' ⟨s0, s1, s2, s3, s4, s5⟩
                                                go_simp
                                                with_reducible rfl
                                              rotate_left
                                              · simp only [Act.put, List.setIfInBounds_toArray, List.set_cons_zero, List.set_cons_succ, i64_w, i32_w]
                                                rfl
                                              refine one_ (i := 8) (N := some 72) #[true, true, true, true, true, true, true, true, true, false, false] rfl rfl (one_of HT_.out (by kernel_rfl)) (by decide) (fun K hK => ?_)
                                              refine goes_ Try.func12 (by kernel_rfl) rfl #[.agg #[.float .f64 ((rd_T28 x8_4 x48_4).f0), .float .f64 ((rd_T28 x8_4 x48_4).f1)], .agg #[.float .f64 ((rd_T42 l1 x48_4).f1.f0), .float .f64 ((rd_T42 l1 x48_4).f1.f1)]] (by rfl) rfl rfl (by (try simp only [List.map_toArray, List.map_cons, List.map_nil]); first | done | rfl | (simp only [List.length_drop, List.length_take]; rfl)) ?_
                                              with_reducible refine (impl_Times.calls ((rd_T28 x8_4 x48_4).f0) ((rd_T28 x8_4 x48_4).f1) ((rd_T42 l1 x48_4).f1.f0) ((rd_T42 l1 x48_4).f1.f1) t125 t126 _ A34.out).mono ?_
                                              rintro e w45 ⟨rfl, hb⟩
                                              have HS4_ := (hb.cell (World.block_lt_of_cell? _ _ (hHeld.2.2.2.2.1))).trans (hHeld.2.2.2.2.1)
                                              have HS5_ := (hb.cell (World.block_lt_of_cell? _ _ (hHeld.2.2.2.2.2))).trans (hHeld.2.2.2.2.2)
                                              refine ⟨_, rfl, ?_⟩
                                              have n0_ := Aside0.mk (Kd.R_below (by (with_reducible repeat (first | apply Kd.R_alloc | apply Kd.R_drewN | apply Kd.R_drew)); exact HO_8.out) hb)
                                              have n1_ := Aside0.mk (Kd.R_below (by (with_reducible repeat (first | apply Kd.R_alloc | apply Kd.R_drewN | apply Kd.R_drew)); exact HO_11.out) hb)
                                              have n2_ := Aside0.mk (blk_below (g := gb120) (o := .cells #[.float .f64 ((rd_T42 l1 x48_4).f0.f0), .float .f64 ((rd_T42 l1 x48_4).f0.f1), .float .f64 ((rd_T42 l1 x48_4).f1.f0), .float .f64 ((rd_T42 l1 x48_4).f1.f1)] 42 (0, 0)) (by (with_reducible repeat (first | refine blk_drewN ?_ _ | refine blk_drew ?_ | refine blk_alloc ?_ _)); exact BK120.out) hb)
                                              have n3_ := Aside0.mk (below_step (by repeat (first | (with_reducible first | exact HB.out | apply below_alloc | apply pw_below_drewN | apply below_drew1 | refine below_set ?_ GE120.out) | exact HB.out)) hb)
                                              clear HO_8
                                              clear HO_11
                                              clear BK120
                                              clear HB
                                              have HO_8 := n0_
                                              have HO_11 := n1_
                                              have BK120 := n2_
                                              have HB := n3_
                                              clear n0_ n1_ n2_ n3_
                                              (try clear hb)
                                              (try clear hb2)
                                              (try clear hk)
                                              (try clear hi)
                                              have p35 : 0 ≤ (x48_4 : Int) := of_decide_eq_true (by first | (with_reducible assumption) | assumption)
                                              have q35 : (x48_4 : Int) < ((x8_4.length : Int) : Int) := of_decide_eq_true (by first | (with_reducible assumption) | assumption)
                                              obtain ⟨go35, co35, eo35, gb35, gl35, cl35, HG35⟩ := Kd.R_form HO_8.out (by omega)
                                              (first | cases eo35 | (injection eo35 with ea_ en_ ec_; (first | subst ea_ | (injection ea_ with ea_; subst ea_)); subst ec_; clear en_))
                                              have GB35 := Aside0.mk gb35
                                              have GG35 := Aside0.mk HG35
                                              clear gb35 gl35 HG35
                                              (first | simp only [add_plain] at hx122_0 | skip)
                                              (first | simp only [add_plain] at hx122_1 | skip)
                                              (first | simp only [add_plain] at hx124_0 | skip)
                                              (first | simp only [add_plain] at hx124_1 | skip)
                                              obtain ⟨ce35, hcl35, hM35, hcc35, hfr35⟩ := Kd.R_elem HO_8.out z28 (x48_4 : Int) p35 q35
                                              obtain rfl := k28_openM hM35
                                              have hx35_0 : World.cell? _ ⟨go35, (x48_4 : Int).toNat * 2, none⟩ = some (.float .f64 ((rd_T28 x8_4 x48_4).f0)) := hcc35 0 _ rfl
                                              have hx35_1 : World.cell? _ ⟨go35, (x48_4 : Int).toNat * 2 + 1, none⟩ = some (.float .f64 ((rd_T28 x8_4 x48_4).f1)) := hcc35 1 _ rfl
                                              have hf35_0 : World.frozen? _ ⟨go35, (x48_4 : Int).toNat * 2, none⟩ = false := hfr35 0
                                              have hf35_1 : World.frozen? _ ⟨go35, (x48_4 : Int).toNat * 2 + 1, none⟩ = false := hfr35 1
                                              clear hcl35 hcc35 hfr35 hM35
                                              replace p35 := eq_true p35
                                              replace q35 := eq_true q35
                                              obtain ⟨ce46, hcl46, hM46, hcc46, hfr46⟩ := Kd.R_elem HO_8.out z28 (x48_4 : Int) (of_decide_eq_true (by first | (with_reducible assumption) | assumption)) (by have h_ : (x48_4 : Int) < ((x8_4.length : Int) : Int) := of_decide_eq_true (by first | (with_reducible assumption) | assumption); first | exact h_ | (have e_ := (Kd.R_reads' HO_8.out).1; omega) | simpa using h_)
                                              obtain rfl := k28_openM hM46
                                              have HP46 := (Kd.R_seg HO_8.out (x48_4 : Int) (of_decide_eq_true (by first | (with_reducible assumption) | assumption)) (by have h_ : (x48_4 : Int) < ((x8_4.length : Int) : Int) := of_decide_eq_true (by first | (with_reducible assumption) | assumption); first | exact h_ | (have e_ := (Kd.R_reads' HO_8.out).1; omega) | simpa using h_) (seg := [.float .f64 t125, .float .f64 t126]) (j := 0) hcl46 hcc46 (show 2 ≤ 2 from by decide) (x' := (⟨t125, t126⟩ : S28)) (k28_mkM _ _ _ (⟨t125, t126⟩ : S28) ) (fun _ hk => hk)).1
                                              rw [← Ny127.out] at HP46
                                              have HQ46 := Aside0.mk HP46
                                              clear hcl46 hcc46 hfr46 hM46 HP46
                                              refine hK.out _ _ ⟨(blk_cell BK120.out 0).trans rfl, (blk_cell BK120.out 1).trans rfl, (blk_cell BK120.out 2).trans rfl, (blk_cell BK120.out 3).trans rfl, HS4_, HS5_⟩ (fun hHeld => ?_)
                                              clear hK K
                                              refine norm_ (a' := ?_) ?_ ?_
                                              rotate_left
                                              · show Act.put _ (some 72) _ = _
                                                simp only [Act.put, List.setIfInBounds_toArray, List.set_cons_zero, List.set_cons_succ, i64_w, i32_w]
                                                rfl
                                              refine pure_ (i := 9) (N := some 73) (v := ?_) (a' := ?_) #[true, true, true, true, true, true, true, true, true, true, false] rfl rfl (any_of HT_.out (by kernel_rfl)) (fun _ _ _ h => h) (Or.inl ⟨by rfl, ?_⟩) ?_ ?_
                                              rotate_left
                                              · intro w'
                                                go_simp
                                                with_reducible rfl
                                              rotate_left
                                              · simp only [Act.put, List.setIfInBounds_toArray, List.set_cons_zero, List.set_cons_succ, i64_w, i32_w]
                                                rfl
                                              refine last_ (i := 10) (N := none) #[true, true, true, true, true, true, true, true, true, true, true] rfl rfl (one_of HT_.out (by kernel_rfl)) (by decide) (fun K hK => ?_)
                                              refine skip_ (w1 := ?_) (by rfl) rfl ?_ ?_
                                              rotate_left
                                              · go_simp
                                                rfl
                                              refine hK.out _ _ ?_
                                              clear hK K
                                              refine done_ (done_of HT_.out (by kernel_rfl)) ?_
                                              try go_wp2
                                              (try simp only [← hl11_4])
                                              (first | go_roundg k4 | (refine Handed.intro k4 ?measure ?_; rotate_left; go_step; (repeat apply Exists.intro); simp only [add_plain]; refine ⟨?rel, rfl⟩))
                                              case measure => have := HJ3.out; have := HK2.out; have := HK3.out; have := HK4.out; omega
                                              case rel => exact ⟨(y127), (y123), (wrap64 (x48_4 + 1)), (by first | rfl | (simp; done) | (simp [*]; done) | (simp [wrap64]; done)), H', ⟨by have := HJ3.out; have := HK2.out; have := HK3.out; have := HK4.out; omega⟩, ⟨by (try simp only [hl11_3]); (try simp only [hl11_4]); (with_reducible repeat (first | apply Kd.R_alloc | apply Kd.R_drewN | apply Kd.R_drew)); exact HQ46.out⟩, ⟨by (try simp only [hl11_3]); (try simp only [hl11_4]); (with_reducible repeat (first | apply Kd.R_alloc | apply Kd.R_drewN | apply Kd.R_drew)); exact Kd.R_mono (Kd.R_far (p := ⟨go35, (x48_4 : Int).toNat * 2 + 1, none⟩) (Kd.R_far (p := ⟨go35, (x48_4 : Int).toNat * 2, none⟩) (Kd.R_types2 HO_11.out HO_8.out (by decide)) (fun _ hk => hk.2) (.float .f64 t125)) (fun _ hk => hk.2) (.float .f64 t126)) (fun _ hk => trivial)⟩, ⟨by repeat (first | (with_reducible first | exact HB.out | apply below_alloc | apply pw_below_drewN | apply below_drew1 | refine below_set ?_ GB35.out | refine below_set ?_ GB35.out | refine below_set ?_ GE120.out) | exact HB.out)⟩⟩
                                            · rw [if_neg c32] at H
                                              exact absurd H (by simp)
                                          · rw [if_neg c31] at H
                                            exact absurd H (by simp)
                                        · rw [if_neg c30] at H
                                          exact absurd H (by simp)
                                      · rw [if_neg c29] at H
                                        exact absurd H (by simp)
                                    · rw [if_neg c28] at H
                                      exact absurd H (by simp)
                                  · rw [if_neg c27] at H
                                    exact absurd H (by simp)
                                · rw [if_neg c26] at H
                                  have c26b0 : decide (x48_4 < (l1.length : Int)) = false := decide_eq_false c26
                                  (try (have c26h := c26b0; simp only [hl11_3, hl11_4] at c26h))
                                  clear c26
                                  have H' := Aside0.mk H
                                  clear H
                                  go_wp2
                                  (try simp only [← hl11_3, ← hl11_4])
                                  (first | go_roundg k4 | (refine Handed.intro k4 ?measure ?_; rotate_left; go_step; (repeat apply Exists.intro); simp only [add_plain]; refine ⟨?rel, rfl⟩))
                                  case measure => have := HJ3.out; have := HK2.out; have := HK3.out; have := HK4.out; omega
                                  case rel => exact ⟨(x8_4), (x11_4), (wrap64 (x39_3 + 1)), (by first | rfl | (simp; done) | (simp [*]; done) | (simp [wrap64]; done)), H', ⟨by have := HJ3.out; have := HK2.out; have := HK3.out; have := HK4.out; omega⟩, ⟨by (try simp only [hl11_3]); (try simp only [hl11_4]); (with_reducible repeat (first | apply Kd.R_alloc | apply Kd.R_drewN | apply Kd.R_drew)); exact HO_8.out⟩, ⟨by (try simp only [hl11_3]); (try simp only [hl11_4]); (with_reducible repeat (first | apply Kd.R_alloc | apply Kd.R_drewN | apply Kd.R_drew)); exact HO_11.out⟩, ⟨by repeat (first | (with_reducible first | exact HB.out | apply below_alloc | apply pw_below_drewN | apply below_drew1) | exact HB.out)⟩⟩
                          · rw [if_neg c22] at H
                            exact absurd H (by simp)
                        · rw [if_neg c21] at H
                          exact absurd H (by simp)
                      · rw [if_neg c20] at H
                        have c20b0 : decide (x39_3 < (y115.length : Int)) = false := decide_eq_false c20
                        (try (have c20h := c20b0; simp only [hl11_3] at c20h))
                        clear c20
                        simp only [Option.some.injEq, Prod.mk.injEq] at H
                        obtain ⟨rfl, rfl⟩ := H
                        go_wp2
                        go_ret2
                        exact ⟨_, by first | rfl | (simp [errW_none, errW_some] <;> rfl) | (simp [*, errW_none, errW_some] <;> rfl), by (with_reducible repeat (first | apply Kd.R_alloc | apply Kd.R_drewN | apply Kd.R_drew)); exact HO_11.out, by repeat (first | (with_reducible first | exact HB.out | apply below_alloc | apply pw_below_drewN | apply below_drew1) | exact HB.out)⟩
                · rw [if_neg c16] at H
                  exact absurd H (by simp)
              · rw [if_neg c15] at H
                exact absurd H (by simp)

end Go.Proofs.Ytchobalepjmeiaa.PFnTides
