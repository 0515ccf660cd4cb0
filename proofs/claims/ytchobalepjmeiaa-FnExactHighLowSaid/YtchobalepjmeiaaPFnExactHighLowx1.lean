/- The Lean side of Go functions of this seat: what each answers, and that its run comes to that answer; written by a program of this work. -/
import Derived.Test.YtchobalepjmeiaaPFnExactHighLowx0
namespace Go.Proofs.Ytchobalepjmeiaa.PFnExactHighLow
open Go.RowKit Go.Proofs.YtchobalepjmeiaaW.PrintWords Go.Proofs.YtchobalepjmeiaaW.PrintLast Go.Proofs.YtchobalepjmeiaaW.PrintMore
attribute [local go_sem] run_store_float max2_int min2_int max_two min_two max_three min_three max_four min_four   -- for this text's walks alone
set_option linter.unusedVariables false
set_option linter.unusedSimpArgs false

/-! ### impl_own_int: function 33 -/
def impl_own_int.f (l0 : List Int) : Option (List Int) := if 0 ≤ (l0.length : Int) then (if ((l0.length : Int) : Int).toNat ≤ 35184372088832 then ((some (([] : List Int) : List Int)).bind fun y101 => (if y101.length + l0.length < 17592186044416 then (some (y101 ++ l0)) else (none))) else (none)) else (none)
set_option maxHeartbeats 8000000 in
set_option maxRecDepth 100000 in
theorem impl_own_int.calls (A0 : Option Addr) (c0 : Nat) (l0 : List Int) (r : List Int) (w : World) (hr0 : Kd.C (Kd.int .i64) w A0 l0.length l0) (hc0 : l0.length ≤ c0) (h : impl_own_int.f l0 = some r) :
    Calls Try.prog 33 #[.slice A0 l0.length c0] w fun e w' => ∃ v0_ : Value, e = .returned (v0_) ∧ Kd.R (Kd.int .i64) 3 w' w.heap.size (fun _ => True) v0_ r ∧ Below w.heap.size w w' := by
  have HR0 := Aside0.mk hr0
  have HC0 := Aside0.mk hc0
  clear hr0 hc0
  have HB := Aside0.mk (Below.refl w.heap.size w)
  have H : (if 0 ≤ (l0.length : Int) then (if ((l0.length : Int) : Int).toNat ≤ 35184372088832 then ((some (([] : List Int) : List Int)).bind fun y101 => (if y101.length + l0.length < 17592186044416 then (some (y101 ++ l0)) else (none))) else (none)) else (none)) = some r := h
  clear h
  by_cases c2 : 0 ≤ (l0.length : Int)
  · rw [if_pos c2] at H
    have c2b0 := eq_true c2
    have c2b1 : decide (0 ≤ (l0.length : Int)) = true := decide_eq_true c2
    clear c2
    by_cases c3 : ((l0.length : Int) : Int).toNat ≤ 35184372088832
    · rw [if_pos c3] at H
      have c3b0 := eq_true c3
      have c3b1 : decide (((l0.length : Int) : Int).toNat ≤ 35184372088832) = true := decide_eq_true c3
      clear c3
      obtain ⟨y101, hy101⟩ : ∃ y_ : List Int, y_ = (([] : List Int)) := ⟨_, rfl⟩
      replace H : (if y101.length + l0.length < 17592186044416 then (some (y101 ++ l0)) else (none)) = some r := by first | (rw [hy101]; with_reducible exact H) | (have H2_ := (Option.bind_some _ _).symm.trans H; rw [hy101]; with_reducible exact H2_) | (have H2_ := (Option.bind_some _ _).symm.trans H; with_reducible exact H2_) | with_reducible exact H | (rw [hy101]; exact H) | exact H
      have Ny101 := Aside0.mk hy101
      clear hy101
      by_cases c4 : y101.length + l0.length < 17592186044416
      · rw [if_pos c4] at H
        have LMc4 := Aside0.mk c4
        clear c4
        obtain ⟨y104, hy104⟩ : ∃ y_ : List Int, y_ = (y101 ++ l0) := ⟨_, rfl⟩
        replace H : (some y104) = some r := by first | (rw [hy104]; with_reducible exact H) | (have H2_ := (Option.bind_some _ _).symm.trans H; rw [hy104]; with_reducible exact H2_) | (have H2_ := (Option.bind_some _ _).symm.trans H; with_reducible exact H2_) | with_reducible exact H | (rw [hy104]; exact H) | exact H
        have Ny104 := Aside0.mk hy104
        clear hy104
        obtain rfl := Option.some.inj H
        go_enter Try.func33, Try.ntmps33
        go_wp2_with (first | ((with_reducible refine gate_dst (N := 5) rfl ?_); refine Kd.R_make0 (Kd.int .i64) _ 3 rfl (N := 5) rfl 47 _ _ rfl (l0.length : Int) rfl rfl Try.underlying47 (.int .i64 0) 8 info3 rfl (by decide) (by omega) 0 (ok := fun _ => True) (okp := fun _ => True) rfl (fun _ hk => hk) trivial (of_decide_eq_true (by first | (with_reducible assumption) | assumption)) (Nat.le_trans (Nat.mul_le_mul_right _ (of_decide_eq_true (by first | (with_reducible assumption) | assumption) : (l0.length : Int).toNat ≤ 35184372088832)) (by omega)) (Below.refl _ _) (Nat.le_refl _) ?_; intro v102 w5 ho6 hb hg_ hnew_; clear hg_ hnew_; (first | rw [← Ny101.out] at ho6 | (simp only [Int.reduceToNat] at ho6; rw [← Ny101.out] at ho6)); have n0_ := Aside0.mk (Kd.R_lower ho6 (below_size (by repeat (first | (with_reducible first | exact HB.out | apply below_alloc | apply pw_below_drewN | apply below_drew1) | exact HB.out)))); have n1_ := Aside0.mk (below_step (by repeat (first | (with_reducible first | exact HB.out | apply below_alloc | apply pw_below_drewN | apply below_drew1) | exact HB.out)) hb); clear HB; have HO103 := n0_; have HB := n1_; clear n0_ n1_; clear hb ho6) | ((with_reducible refine gate_builtin (b := .append) (xs := #[.tmp 5, .tmp 6]) rfl ?_); at_builtin; refine Kd.R_append_rows (Kd.int .i64) (w0 := w) w.heap.size rfl (.tmp 5) (.tmp 6) 47 3 (.int .i64 0) 8 rfl Try.underlying47 info3 rfl (by decide) (by omega) v102 y101 l0 _ _ _ (fun _ => True) (fun _ => False) rfl rfl ?aO ?aR (fun _ _ h => h) (fun _ h => h.elim) ?aF ?aB ?aS ?aL ?_; (case aR => repeat (first | exact (Kd.C_below HR0.out HB.out) | (with_reducible refine Kd.C_alloc ?_ _) | (with_reducible refine Kd.C_drewN ?_ _) | (with_reducible refine Kd.C_drew ?_))); (case aB => exact (by repeat (first | (with_reducible first | exact HB.out | apply below_alloc | apply pw_below_drewN | apply below_drew1) | exact HB.out))); (case aF => exact (fun _ _ => trivial)); (case aO => exact (by (with_reducible repeat (first | apply Kd.R_alloc | apply Kd.R_drewN | apply Kd.R_drew)); exact HO103.out)); (case aS => exact (below_size (by repeat (first | (with_reducible first | exact HB.out | apply below_alloc | apply pw_below_drewN | apply below_drew1) | exact HB.out)))); (case aL => have := LMc4.out; omega); intro v105 w7 ho hb hg hat; rw [← Ny104.out] at ho; have n0_ := Aside0.mk (hb); have n1_ := Aside0.mk (ho); clear HB; clear HO103; have HB := n0_; have HO106 := n1_; clear n0_ n1_; clear ho hb hg hat))
        go_ret
        exact ⟨_, by first | rfl | (simp [errW_none, errW_some] <;> rfl) | (simp [*, errW_none, errW_some] <;> rfl), by (with_reducible repeat (first | apply Kd.R_alloc | apply Kd.R_drewN | apply Kd.R_drew)); exact HO106.out, by repeat (first | (with_reducible first | exact HB.out | apply below_alloc | apply pw_below_drewN | apply below_drew1) | exact HB.out)⟩
      · rw [if_neg c4] at H
        exact absurd H (by simp)
    · rw [if_neg c3] at H
      exact absurd H (by simp)
  · rw [if_neg c2] at H
    exact absurd H (by simp)

/-! ### impl_HighLow: function 19 -/
def impl_HighLow.l0 : Nat → List Nat → List Int → Int → Option (List Int)
  | 0, _, _, _ => none
  | k + 1, x0, x3, x4 => if x4 < (wrap64 ((x0.length : Int) - 1)) then (if 0 ≤ x4 then (if x4 < (x0.length : Int) then (if 0 ≤ (wrap64 (x4 - 1)) then (if (wrap64 (x4 - 1)) < (x0.length : Int) then (if 0 ≤ (wrap64 (x4 + 1)) then (if (wrap64 (x4 + 1)) < (x0.length : Int) then (if (FloatKind.f64.format.order (rdOf (0 : Nat) x0 x4) (rdOf (0 : Nat) x0 (wrap64 (x4 - 1))) == some .gt) = true then (if (FloatKind.f64.format.order (rdOf (0 : Nat) x0 x4) (rdOf (0 : Nat) x0 (wrap64 (x4 + 1))) == some .gt || FloatKind.f64.format.order (rdOf (0 : Nat) x0 x4) (rdOf (0 : Nat) x0 (wrap64 (x4 + 1))) == some .eq) = true then (if x3.length < 17592186044416 then (impl_HighLow.l0 k x0 (x3 ++ [x4]) (wrap64 (x4 + 1))) else (none)) else (if (FloatKind.f64.format.order (rdOf (0 : Nat) x0 x4) (rdOf (0 : Nat) x0 (wrap64 (x4 - 1))) == some .lt) = true then (if (FloatKind.f64.format.order (rdOf (0 : Nat) x0 x4) (rdOf (0 : Nat) x0 (wrap64 (x4 + 1))) == some .lt || FloatKind.f64.format.order (rdOf (0 : Nat) x0 x4) (rdOf (0 : Nat) x0 (wrap64 (x4 + 1))) == some .eq) = true then (if x3.length < 17592186044416 then (impl_HighLow.l0 k x0 (x3 ++ [x4]) (wrap64 (x4 + 1))) else (none)) else (impl_HighLow.l0 k x0 x3 (wrap64 (x4 + 1)))) else (impl_HighLow.l0 k x0 x3 (wrap64 (x4 + 1))))) else (if (FloatKind.f64.format.order (rdOf (0 : Nat) x0 x4) (rdOf (0 : Nat) x0 (wrap64 (x4 - 1))) == some .lt) = true then (if (FloatKind.f64.format.order (rdOf (0 : Nat) x0 x4) (rdOf (0 : Nat) x0 (wrap64 (x4 + 1))) == some .lt || FloatKind.f64.format.order (rdOf (0 : Nat) x0 x4) (rdOf (0 : Nat) x0 (wrap64 (x4 + 1))) == some .eq) = true then (if x3.length < 17592186044416 then (impl_HighLow.l0 k x0 (x3 ++ [x4]) (wrap64 (x4 + 1))) else (none)) else (impl_HighLow.l0 k x0 x3 (wrap64 (x4 + 1)))) else (impl_HighLow.l0 k x0 x3 (wrap64 (x4 + 1))))) else (none)) else (none)) else (none)) else (none)) else (none)) else (none)) else ((impl_own_int.f x3).bind fun t119 => (some t119))
def impl_HighLow.f (k : Nat) (l0 : List Nat) : Option (List Int) := if (l0.length : Int) > 1500 then (some ([] : List Int)) else (impl_HighLow.l0 k l0 ([] : List Int) 1)
theorem impl_HighLow.mono_l : ∀ k, (∀ y0 y1 y2, LeO (impl_HighLow.l0 k y0 y1 y2) (impl_HighLow.l0 (k + 1) y0 y1 y2))
  | 0 => fun _ _ _ r h => by simp [impl_HighLow.l0] at h
  | k + 1 => by
    have ih0 := impl_HighLow.mono_l k
    · intro y0 y1 y2
      unfold impl_HighLow.l0
      repeat' first
      | (with_reducible exact ih0 _ _ _)
      | (with_reducible exact LeO.refl _)
      | (with_reducible exact LeO.none _)
      | (with_reducible refine LeO.ite ?_ ?_)
      | (with_reducible refine LeO.bind ?_ (fun _ => ?_))
      | exact ih0 _ _ _
      | exact LeO.none _
      | refine LeO.ite ?_ ?_
      | refine LeO.bind ?_ (fun _ => ?_)
theorem impl_HighLow.mono : ∀ a0 k, LeO (impl_HighLow.f k a0) (impl_HighLow.f (k + 1) a0) := by
  intro a0 k
  have ih0 := impl_HighLow.mono_l k
  unfold impl_HighLow.f
  repeat' first
      | (with_reducible exact ih0 _ _ _)
      | (with_reducible exact LeO.refl _)
      | (with_reducible exact LeO.none _)
      | (with_reducible refine LeO.ite ?_ ?_)
      | (with_reducible refine LeO.bind ?_ (fun _ => ?_))
      | exact ih0 _ _ _
      | exact LeO.none _
      | refine LeO.ite ?_ ?_
      | refine LeO.bind ?_ (fun _ => ?_)
set_option maxHeartbeats 8000000 in
set_option maxRecDepth 100000 in
theorem impl_HighLow.calls (k : Nat) (A0 : Option Addr) (c0 : Nat) (l0 : List Nat) (r : List Int) (w : World) (hr0 : Kd.C Kd.flt w A0 l0.length l0) (hc0 : l0.length ≤ c0) (h : impl_HighLow.f k l0 = some r) :
    Calls Try.prog 19 #[.slice A0 l0.length c0] w fun e w' => ∃ v0_ : Value, e = .returned (v0_) ∧ Kd.R (Kd.int .i64) 3 w' w.heap.size (fun _ => True) v0_ r ∧ Below w.heap.size w w' := by
  have HR0 := Aside0.mk hr0
  have HC0 := Aside0.mk hc0
  clear hr0 hc0
  have HB := Aside0.mk (Below.refl w.heap.size w)
  have H : (if (l0.length : Int) > 1500 then (some ([] : List Int)) else (impl_HighLow.l0 k l0 ([] : List Int) 1)) = some r := h
  clear h
  by_cases c2 : (l0.length : Int) > 1500
  · rw [if_pos c2] at H
    have c2b0 : decide (1500 < (l0.length : Int)) = true := decide_eq_true c2
    have c2b1 : decide (1500 < l0.length) = true := decide_eq_true (by omega)
    clear c2
    obtain rfl := Option.some.inj H
    go_enter Try.func19, Try.ntmps19
    go_wp2
    repeat (go_quiet (fail); try go_wp2)
    go_ret
    exact ⟨_, by first | rfl | (simp [errW_none, errW_some] <;> rfl) | (simp [*, errW_none, errW_some] <;> rfl), by first | exact Kd.R_nil _ _ _ _ _ | exact Kd.N_nil _ _ _ _ _ | exact Kd.V_nil _ _ _ _ _ | exact Kd.Q_nil _ _ _ _ _ | exact Kd.S_nil _ _ _ _ _, by repeat (first | (with_reducible first | exact HB.out | apply below_alloc | apply pw_below_drewN | apply below_drew1) | exact HB.out)⟩
  · rw [if_neg c2] at H
    have c2b0 : decide (1500 < (l0.length : Int)) = false := decide_eq_false c2
    have c2b1 : decide (1500 < l0.length) = false := decide_eq_false (by omega)
    clear c2
    have H' := Aside0.mk H
    clear H
    go_enter Try.func19, Try.ntmps19
    go_wp2
    repeat (go_quiet (fail); try go_wp2)
    go_loopg [3, 4] k (fun kq v3 v4 w' => ∃ (x3_1 : List Int) (x4_1 : Int), v4 = .int .i64 x4_1 ∧ Aside0 (impl_HighLow.l0 kq l0 x3_1 x4_1 = some r) ∧ Aside0 (kq ≤ k) ∧ Aside0 (Kd.R (Kd.int .i64) 3 w' w.heap.size (fun _ => True) v3 x3_1) ∧ Aside0 (Below w.heap.size w w'))
    case atStart => exact ⟨(([] : List Int)), (1), (by first | rfl | (simp; done) | (simp [*]; done) | (simp [wrap64]; done)), H', ⟨Nat.le_refl _⟩, ⟨by first | exact Kd.R_nil _ _ _ _ _ | exact Kd.N_nil _ _ _ _ _ | exact Kd.V_nil _ _ _ _ _ | exact Kd.Q_nil _ _ _ _ _ | exact Kd.S_nil _ _ _ _ _⟩, ⟨by repeat (first | (with_reducible first | exact HB.out | apply below_alloc | apply pw_below_drewN | apply below_drew1) | exact HB.out)⟩⟩
    case round =>
      clear H'
      try clear c1
      try clear c2
      try clear c2b0
      try clear c2b1
      try clear p2
      obtain ⟨x3_1, x4_1, rfl, HA, HK1, HO_3, HB⟩ := hrel
      cases gk with
      | zero => exact absurd HA.out (by simp [impl_HighLow.l0])
      | succ k1 =>
        have H := HA.out
        clear HA
        simp only [impl_HighLow.l0] at H
        by_cases c3 : x4_1 < (wrap64 ((l0.length : Int) - 1))
        · rw [if_pos c3] at H
          have c3b0 : decide (x4_1 < (wrap64 ((l0.length : Int) - 1))) = true := decide_eq_true c3
          clear c3
          by_cases c4 : 0 ≤ x4_1
          · rw [if_pos c4] at H
            have c4b0 : decide (0 ≤ x4_1) = true := decide_eq_true c4
            clear c4
            by_cases c5 : x4_1 < (l0.length : Int)
            · rw [if_pos c5] at H
              have c5b0 : decide (x4_1 < (l0.length : Int)) = true := decide_eq_true c5
              clear c5
              obtain ⟨ji6, hji6⟩ : ∃ j_ : Int, (wrap64 (x4_1 - 1)) = j_ := ⟨_, rfl⟩
              replace H : (if 0 ≤ (ji6) then (if (ji6) < (l0.length : Int) then (if 0 ≤ (wrap64 (x4_1 + 1)) then (if (wrap64 (x4_1 + 1)) < (l0.length : Int) then (if (FloatKind.f64.format.order (rdOf (0 : Nat) l0 x4_1) (rdOf (0 : Nat) l0 (ji6)) == some .gt) = true then (if (FloatKind.f64.format.order (rdOf (0 : Nat) l0 x4_1) (rdOf (0 : Nat) l0 (wrap64 (x4_1 + 1))) == some .gt || FloatKind.f64.format.order (rdOf (0 : Nat) l0 x4_1) (rdOf (0 : Nat) l0 (wrap64 (x4_1 + 1))) == some .eq) = true then (if x3_1.length < 17592186044416 then (impl_HighLow.l0 k1 l0 (x3_1 ++ [x4_1]) (wrap64 (x4_1 + 1))) else (none)) else (if (FloatKind.f64.format.order (rdOf (0 : Nat) l0 x4_1) (rdOf (0 : Nat) l0 (ji6)) == some .lt) = true then (if (FloatKind.f64.format.order (rdOf (0 : Nat) l0 x4_1) (rdOf (0 : Nat) l0 (wrap64 (x4_1 + 1))) == some .lt || FloatKind.f64.format.order (rdOf (0 : Nat) l0 x4_1) (rdOf (0 : Nat) l0 (wrap64 (x4_1 + 1))) == some .eq) = true then (if x3_1.length < 17592186044416 then (impl_HighLow.l0 k1 l0 (x3_1 ++ [x4_1]) (wrap64 (x4_1 + 1))) else (none)) else (impl_HighLow.l0 k1 l0 x3_1 (wrap64 (x4_1 + 1)))) else (impl_HighLow.l0 k1 l0 x3_1 (wrap64 (x4_1 + 1))))) else (if (FloatKind.f64.format.order (rdOf (0 : Nat) l0 x4_1) (rdOf (0 : Nat) l0 (ji6)) == some .lt) = true then (if (FloatKind.f64.format.order (rdOf (0 : Nat) l0 x4_1) (rdOf (0 : Nat) l0 (wrap64 (x4_1 + 1))) == some .lt || FloatKind.f64.format.order (rdOf (0 : Nat) l0 x4_1) (rdOf (0 : Nat) l0 (wrap64 (x4_1 + 1))) == some .eq) = true then (if x3_1.length < 17592186044416 then (impl_HighLow.l0 k1 l0 (x3_1 ++ [x4_1]) (wrap64 (x4_1 + 1))) else (none)) else (impl_HighLow.l0 k1 l0 x3_1 (wrap64 (x4_1 + 1)))) else (impl_HighLow.l0 k1 l0 x3_1 (wrap64 (x4_1 + 1))))) else (none)) else (none)) else (none)) else (none)) = some r := by first | (rw [hji6] at H; exact H) | (simp only [hji6] at H ⊢; exact H)
              have hji6w : (IntKind.i64.wrap (x4_1 - 1)) = ji6 := (i64_w _).trans hji6
              by_cases c7 : 0 ≤ (ji6)
              · rw [if_pos c7] at H
                have c7b0 : decide (0 ≤ (ji6)) = true := decide_eq_true c7
                clear c7
                by_cases c8 : (ji6) < (l0.length : Int)
                · rw [if_pos c8] at H
                  have c8b0 : decide ((ji6) < (l0.length : Int)) = true := decide_eq_true c8
                  clear c8
                  obtain ⟨ji9, hji9⟩ : ∃ j_ : Int, (wrap64 (x4_1 + 1)) = j_ := ⟨_, rfl⟩
                  replace H : (if 0 ≤ (ji9) then (if (ji9) < (l0.length : Int) then (if (FloatKind.f64.format.order (rdOf (0 : Nat) l0 x4_1) (rdOf (0 : Nat) l0 (ji6)) == some .gt) = true then (if (FloatKind.f64.format.order (rdOf (0 : Nat) l0 x4_1) (rdOf (0 : Nat) l0 (ji9)) == some .gt || FloatKind.f64.format.order (rdOf (0 : Nat) l0 x4_1) (rdOf (0 : Nat) l0 (ji9)) == some .eq) = true then (if x3_1.length < 17592186044416 then (impl_HighLow.l0 k1 l0 (x3_1 ++ [x4_1]) ji9) else (none)) else (if (FloatKind.f64.format.order (rdOf (0 : Nat) l0 x4_1) (rdOf (0 : Nat) l0 (ji6)) == some .lt) = true then (if (FloatKind.f64.format.order (rdOf (0 : Nat) l0 x4_1) (rdOf (0 : Nat) l0 (ji9)) == some .lt || FloatKind.f64.format.order (rdOf (0 : Nat) l0 x4_1) (rdOf (0 : Nat) l0 (ji9)) == some .eq) = true then (if x3_1.length < 17592186044416 then (impl_HighLow.l0 k1 l0 (x3_1 ++ [x4_1]) ji9) else (none)) else (impl_HighLow.l0 k1 l0 x3_1 ji9)) else (impl_HighLow.l0 k1 l0 x3_1 ji9))) else (if (FloatKind.f64.format.order (rdOf (0 : Nat) l0 x4_1) (rdOf (0 : Nat) l0 (ji6)) == some .lt) = true then (if (FloatKind.f64.format.order (rdOf (0 : Nat) l0 x4_1) (rdOf (0 : Nat) l0 (ji9)) == some .lt || FloatKind.f64.format.order (rdOf (0 : Nat) l0 x4_1) (rdOf (0 : Nat) l0 (ji9)) == some .eq) = true then (if x3_1.length < 17592186044416 then (impl_HighLow.l0 k1 l0 (x3_1 ++ [x4_1]) ji9) else (none)) else (impl_HighLow.l0 k1 l0 x3_1 ji9)) else (impl_HighLow.l0 k1 l0 x3_1 ji9))) else (none)) else (none)) = some r := by first | (rw [hji9] at H; exact H) | (simp only [hji9] at H ⊢; exact H)
                  have hji9w : (IntKind.i64.wrap (x4_1 + 1)) = ji9 := (i64_w _).trans hji9
                  by_cases c10 : 0 ≤ (ji9)
                  · rw [if_pos c10] at H
                    have c10b0 : decide (0 ≤ (ji9)) = true := decide_eq_true c10
                    clear c10
                    by_cases c11 : (ji9) < (l0.length : Int)
                    · rw [if_pos c11] at H
                      have c11b0 : decide ((ji9) < (l0.length : Int)) = true := decide_eq_true c11
                      clear c11
                      by_cases c12 : (FloatKind.f64.format.order (rdOf (0 : Nat) l0 x4_1) (rdOf (0 : Nat) l0 (ji6)) == some .gt) = true
                      · rw [if_pos c12] at H
                        have c12b0 : (FloatKind.f64.format.order (rdOf (0 : Nat) l0 x4_1) (rdOf (0 : Nat) l0 (ji6)) == some .gt) = true := c12
                        (try (have c12b1 : decide (FloatKind.f64.format.order (rdOf (0 : Nat) l0 x4_1) (rdOf (0 : Nat) l0 (ji6)) = some .gt) = true := by simpa using c12))
                        (try (have c12b2 : (FloatKind.f64.format.order (rdOf (0 : Nat) l0 x4_1) (rdOf (0 : Nat) l0 (ji6)) == some .gt) = true := by simpa using c12))
                        clear c12
                        by_cases c13 : (FloatKind.f64.format.order (rdOf (0 : Nat) l0 x4_1) (rdOf (0 : Nat) l0 (ji9)) == some .gt || FloatKind.f64.format.order (rdOf (0 : Nat) l0 x4_1) (rdOf (0 : Nat) l0 (ji9)) == some .eq) = true
                        · rw [if_pos c13] at H
                          have c13b0 : (FloatKind.f64.format.order (rdOf (0 : Nat) l0 x4_1) (rdOf (0 : Nat) l0 (ji9)) == some .gt || FloatKind.f64.format.order (rdOf (0 : Nat) l0 x4_1) (rdOf (0 : Nat) l0 (ji9)) == some .eq) = true := c13
                          (try (have c13b1 : decide (FloatKind.f64.format.order (rdOf (0 : Nat) l0 x4_1) (rdOf (0 : Nat) l0 (ji9)) = some .gt || FloatKind.f64.format.order (rdOf (0 : Nat) l0 x4_1) (rdOf (0 : Nat) l0 (ji9)) == some .eq) = true := by simpa using c13))
                          (try (have c13b2 : (FloatKind.f64.format.order (rdOf (0 : Nat) l0 x4_1) (rdOf (0 : Nat) l0 (ji9)) == some .gt || FloatKind.f64.format.order (rdOf (0 : Nat) l0 x4_1) (rdOf (0 : Nat) l0 (ji9)) == some .eq) = true := by simpa using c13))
                          clear c13
                          by_cases c14 : x3_1.length < 17592186044416
                          · rw [if_pos c14] at H
                            have LMc14 := Aside0.mk c14
                            clear c14
                            obtain ⟨y110, hy110⟩ : ∃ y_ : List Int, y_ = (x3_1 ++ [x4_1]) := ⟨_, rfl⟩
                            replace H : (impl_HighLow.l0 k1 l0 y110 ji9) = some r := by first | (rw [hy110]; with_reducible exact H) | (have H2_ := (Option.bind_some _ _).symm.trans H; rw [hy110]; with_reducible exact H2_) | (have H2_ := (Option.bind_some _ _).symm.trans H; with_reducible exact H2_) | with_reducible exact H | (rw [hy110]; exact H) | exact H
                            have Ny110 := Aside0.mk hy110
                            clear hy110
                            have H' := Aside0.mk H
                            clear H
                            have p107 : 0 ≤ (x4_1 : Int) := of_decide_eq_true (by first | (with_reducible assumption) | assumption)
                            have q107 : x4_1 < (l0.length : Int) := of_decide_eq_true (by first | (with_reducible assumption) | assumption)
                            obtain ⟨ad107, e107, hx107_0⟩ := Kd.at_flt HR0.out x4_1 p107 q107
                            cases e107
                            replace hx107_0 := (HB.out.cell (World.block_lt_of_cell? w _ hx107_0)).trans hx107_0
                            replace p107 := eq_true p107
                            replace q107 := eq_true q107
                            have p108 : 0 ≤ ((ji6) : Int) := of_decide_eq_true (by first | (with_reducible assumption) | assumption)
                            have q108 : (ji6) < (l0.length : Int) := of_decide_eq_true (by first | (with_reducible assumption) | assumption)
                            obtain ⟨ad108, e108, hx108_0⟩ := Kd.at_flt HR0.out (ji6) p108 q108
                            obtain rfl : ad107 = ad108 := (by injection e108)
                            replace hx108_0 := (HB.out.cell (World.block_lt_of_cell? w _ hx108_0)).trans hx108_0
                            replace p108 := eq_true p108
                            replace q108 := eq_true q108
                            have p109 : 0 ≤ ((ji9) : Int) := of_decide_eq_true (by first | (with_reducible assumption) | assumption)
                            have q109 : (ji9) < (l0.length : Int) := of_decide_eq_true (by first | (with_reducible assumption) | assumption)
                            obtain ⟨ad109, e109, hx109_0⟩ := Kd.at_flt HR0.out (ji9) p109 q109
                            obtain rfl : ad107 = ad109 := (by injection e109)
                            replace hx109_0 := (HB.out.cell (World.block_lt_of_cell? w _ hx109_0)).trans hx109_0
                            replace p109 := eq_true p109
                            replace q109 := eq_true q109
                            go_wp2_with (first | ((with_reducible refine gate_builtin (b := .append) (xs := #[.tmp 50, .tmp 52]) rfl ?_); at_builtin; refine Kd.R_append (Kd.int .i64) (w0 := w) w.heap.size rfl (.tmp 50) (.tmp 52) 47 3 (.int .i64 0) 8 rfl Try.underlying47 info3 rfl (by decide) (by omega) u3 x3_1 x4_1 [.int .i64 x4_1] (fun _ => True) (fun _ => False) rfl rfl ?aP (fun _ hk => hk.elim) ?aF ?aO ?aB ?aS ?aL ?_; (case aP => exact rfl); (case aB => exact (by repeat (first | (with_reducible first | exact HB.out | apply below_alloc | apply pw_below_drewN | apply below_drew1) | exact HB.out))); (case aF => exact (fun _ _ => trivial)); (case aO => exact (by (with_reducible repeat (first | apply Kd.R_alloc | apply Kd.R_drewN | apply Kd.R_drew)); exact HO_3.out)); (case aS => exact (below_size (by repeat (first | (with_reducible first | exact HB.out | apply below_alloc | apply pw_below_drewN | apply below_drew1) | exact HB.out)))); (case aL => have := LMc14.out; omega); intro v111 w15 ho hb hg hat; rw [← Ny110.out] at ho; have n0_ := Aside0.mk (hb); have n1_ := Aside0.mk (ho); clear HB; clear HO_3; have HB := n0_; have HO112 := n1_; clear n0_ n1_; clear ho hb hg hat))
                            repeat (go_quiet (first | ((with_reducible refine gate_builtin (b := .append) (xs := #[.tmp 50, .tmp 52]) rfl ?_); at_builtin; refine Kd.R_append (Kd.int .i64) (w0 := w) w.heap.size rfl (.tmp 50) (.tmp 52) 47 3 (.int .i64 0) 8 rfl Try.underlying47 info3 rfl (by decide) (by omega) u3 x3_1 x4_1 [.int .i64 x4_1] (fun _ => True) (fun _ => False) rfl rfl ?aP (fun _ hk => hk.elim) ?aF ?aO ?aB ?aS ?aL ?_; (case aP => exact rfl); (case aB => exact (by repeat (first | (with_reducible first | exact HB.out | apply below_alloc | apply pw_below_drewN | apply below_drew1) | exact HB.out))); (case aF => exact (fun _ _ => trivial)); (case aO => exact (by (with_reducible repeat (first | apply Kd.R_alloc | apply Kd.R_drewN | apply Kd.R_drew)); exact HO_3.out)); (case aS => exact (below_size (by repeat (first | (with_reducible first | exact HB.out | apply below_alloc | apply pw_below_drewN | apply below_drew1) | exact HB.out)))); (case aL => have := LMc14.out; omega); intro v111 w15 ho hb hg hat; rw [← Ny110.out] at ho; have n0_ := Aside0.mk (hb); have n1_ := Aside0.mk (ho); clear HB; clear HO_3; have HB := n0_; have HO112 := n1_; clear n0_ n1_; clear ho hb hg hat)); try go_wp2_with (first | ((with_reducible refine gate_builtin (b := .append) (xs := #[.tmp 50, .tmp 52]) rfl ?_); at_builtin; refine Kd.R_append (Kd.int .i64) (w0 := w) w.heap.size rfl (.tmp 50) (.tmp 52) 47 3 (.int .i64 0) 8 rfl Try.underlying47 info3 rfl (by decide) (by omega) u3 x3_1 x4_1 [.int .i64 x4_1] (fun _ => True) (fun _ => False) rfl rfl ?aP (fun _ hk => hk.elim) ?aF ?aO ?aB ?aS ?aL ?_; (case aP => exact rfl); (case aB => exact (by repeat (first | (with_reducible first | exact HB.out | apply below_alloc | apply pw_below_drewN | apply below_drew1) | exact HB.out))); (case aF => exact (fun _ _ => trivial)); (case aO => exact (by (with_reducible repeat (first | apply Kd.R_alloc | apply Kd.R_drewN | apply Kd.R_drew)); exact HO_3.out)); (case aS => exact (below_size (by repeat (first | (with_reducible first | exact HB.out | apply below_alloc | apply pw_below_drewN | apply below_drew1) | exact HB.out)))); (case aL => have := LMc14.out; omega); intro v111 w15 ho hb hg hat; rw [← Ny110.out] at ho; have n0_ := Aside0.mk (hb); have n1_ := Aside0.mk (ho); clear HB; clear HO_3; have HB := n0_; have HO112 := n1_; clear n0_ n1_; clear ho hb hg hat)))
                            (first | go_roundg k1 | (simp only [← hji6, ← hji9]; go_roundg k1))
                            case measure => have := HK1.out; omega
                            case rel => exact ⟨(y110), (ji9), (by first | rfl | (simp; done) | (simp only [← hji9] <;> (first | rfl | simp)) | (simp [*]; done)), H', ⟨by have := HK1.out; omega⟩, ⟨by (with_reducible repeat (first | apply Kd.R_alloc | apply Kd.R_drewN | apply Kd.R_drew)); exact HO112.out⟩, ⟨by repeat (first | (with_reducible first | exact HB.out | apply below_alloc | apply pw_below_drewN | apply below_drew1) | exact HB.out)⟩⟩
                          · rw [if_neg c14] at H
                            exact absurd H (by simp)
                        · rw [if_neg c13] at H
                          have c13b0 : (FloatKind.f64.format.order (rdOf (0 : Nat) l0 x4_1) (rdOf (0 : Nat) l0 (ji9)) == some .gt || FloatKind.f64.format.order (rdOf (0 : Nat) l0 x4_1) (rdOf (0 : Nat) l0 (ji9)) == some .eq) = false := by simpa using c13
                          (try (have c13b1 : decide (FloatKind.f64.format.order (rdOf (0 : Nat) l0 x4_1) (rdOf (0 : Nat) l0 (ji9)) = some .gt || FloatKind.f64.format.order (rdOf (0 : Nat) l0 x4_1) (rdOf (0 : Nat) l0 (ji9)) == some .eq) = false := by simpa using c13))
                          (try (have c13b2 : (FloatKind.f64.format.order (rdOf (0 : Nat) l0 x4_1) (rdOf (0 : Nat) l0 (ji9)) == some .gt || FloatKind.f64.format.order (rdOf (0 : Nat) l0 x4_1) (rdOf (0 : Nat) l0 (ji9)) == some .eq) = false := by simpa using c13))
                          (try (have c13b3 : ¬ (FloatKind.f64.format.order (rdOf (0 : Nat) l0 x4_1) (rdOf (0 : Nat) l0 (ji9)) = some .gt || FloatKind.f64.format.order (rdOf (0 : Nat) l0 x4_1) (rdOf (0 : Nat) l0 (ji9)) == some .eq) := by simpa using c13))
                          clear c13
                          by_cases c16 : (FloatKind.f64.format.order (rdOf (0 : Nat) l0 x4_1) (rdOf (0 : Nat) l0 (ji6)) == some .lt) = true
                          · rw [if_pos c16] at H
                            have c16b0 : (FloatKind.f64.format.order (rdOf (0 : Nat) l0 x4_1) (rdOf (0 : Nat) l0 (ji6)) == some .lt) = true := c16
                            (try (have c16b1 : decide (FloatKind.f64.format.order (rdOf (0 : Nat) l0 x4_1) (rdOf (0 : Nat) l0 (ji6)) = some .lt) = true := by simpa using c16))
                            (try (have c16b2 : (FloatKind.f64.format.order (rdOf (0 : Nat) l0 x4_1) (rdOf (0 : Nat) l0 (ji6)) == some .lt) = true := by simpa using c16))
                            clear c16
                            by_cases c17 : (FloatKind.f64.format.order (rdOf (0 : Nat) l0 x4_1) (rdOf (0 : Nat) l0 (ji9)) == some .lt || FloatKind.f64.format.order (rdOf (0 : Nat) l0 x4_1) (rdOf (0 : Nat) l0 (ji9)) == some .eq) = true
                            · rw [if_pos c17] at H
                              have c17b0 : (FloatKind.f64.format.order (rdOf (0 : Nat) l0 x4_1) (rdOf (0 : Nat) l0 (ji9)) == some .lt || FloatKind.f64.format.order (rdOf (0 : Nat) l0 x4_1) (rdOf (0 : Nat) l0 (ji9)) == some .eq) = true := c17
                              (try (have c17b1 : decide (FloatKind.f64.format.order (rdOf (0 : Nat) l0 x4_1) (rdOf (0 : Nat) l0 (ji9)) = some .lt || FloatKind.f64.format.order (rdOf (0 : Nat) l0 x4_1) (rdOf (0 : Nat) l0 (ji9)) == some .eq) = true := by simpa using c17))
                              (try (have c17b2 : (FloatKind.f64.format.order (rdOf (0 : Nat) l0 x4_1) (rdOf (0 : Nat) l0 (ji9)) == some .lt || FloatKind.f64.format.order (rdOf (0 : Nat) l0 x4_1) (rdOf (0 : Nat) l0 (ji9)) == some .eq) = true := by simpa using c17))
                              clear c17
                              by_cases c18 : x3_1.length < 17592186044416
                              · rw [if_pos c18] at H
                                have LMc18 := Aside0.mk c18
                                clear c18
                                obtain ⟨y113, hy113⟩ : ∃ y_ : List Int, y_ = (x3_1 ++ [x4_1]) := ⟨_, rfl⟩
                                replace H : (impl_HighLow.l0 k1 l0 y113 ji9) = some r := by first | (rw [hy113]; with_reducible exact H) | (have H2_ := (Option.bind_some _ _).symm.trans H; rw [hy113]; with_reducible exact H2_) | (have H2_ := (Option.bind_some _ _).symm.trans H; with_reducible exact H2_) | with_reducible exact H | (rw [hy113]; exact H) | exact H
                                have Ny113 := Aside0.mk hy113
                                clear hy113
                                have H' := Aside0.mk H
                                clear H
                                have p107 : 0 ≤ (x4_1 : Int) := of_decide_eq_true (by first | (with_reducible assumption) | assumption)
                                have q107 : x4_1 < (l0.length : Int) := of_decide_eq_true (by first | (with_reducible assumption) | assumption)
                                obtain ⟨ad107, e107, hx107_0⟩ := Kd.at_flt HR0.out x4_1 p107 q107
                                cases e107
                                replace hx107_0 := (HB.out.cell (World.block_lt_of_cell? w _ hx107_0)).trans hx107_0
                                replace p107 := eq_true p107
                                replace q107 := eq_true q107
                                have p108 : 0 ≤ ((ji6) : Int) := of_decide_eq_true (by first | (with_reducible assumption) | assumption)
                                have q108 : (ji6) < (l0.length : Int) := of_decide_eq_true (by first | (with_reducible assumption) | assumption)
                                obtain ⟨ad108, e108, hx108_0⟩ := Kd.at_flt HR0.out (ji6) p108 q108
                                obtain rfl : ad107 = ad108 := (by injection e108)
                                replace hx108_0 := (HB.out.cell (World.block_lt_of_cell? w _ hx108_0)).trans hx108_0
                                replace p108 := eq_true p108
                                replace q108 := eq_true q108
                                have p109 : 0 ≤ ((ji9) : Int) := of_decide_eq_true (by first | (with_reducible assumption) | assumption)
                                have q109 : (ji9) < (l0.length : Int) := of_decide_eq_true (by first | (with_reducible assumption) | assumption)
                                obtain ⟨ad109, e109, hx109_0⟩ := Kd.at_flt HR0.out (ji9) p109 q109
                                obtain rfl : ad107 = ad109 := (by injection e109)
                                replace hx109_0 := (HB.out.cell (World.block_lt_of_cell? w _ hx109_0)).trans hx109_0
                                replace p109 := eq_true p109
                                replace q109 := eq_true q109
                                go_wp2_with (first | ((with_reducible refine gate_builtin (b := .append) (xs := #[.tmp 50, .tmp 52]) rfl ?_); at_builtin; refine Kd.R_append (Kd.int .i64) (w0 := w) w.heap.size rfl (.tmp 50) (.tmp 52) 47 3 (.int .i64 0) 8 rfl Try.underlying47 info3 rfl (by decide) (by omega) u3 x3_1 x4_1 [.int .i64 x4_1] (fun _ => True) (fun _ => False) rfl rfl ?aP (fun _ hk => hk.elim) ?aF ?aO ?aB ?aS ?aL ?_; (case aP => exact rfl); (case aB => exact (by repeat (first | (with_reducible first | exact HB.out | apply below_alloc | apply pw_below_drewN | apply below_drew1) | exact HB.out))); (case aF => exact (fun _ _ => trivial)); (case aO => exact (by (with_reducible repeat (first | apply Kd.R_alloc | apply Kd.R_drewN | apply Kd.R_drew)); exact HO_3.out)); (case aS => exact (below_size (by repeat (first | (with_reducible first | exact HB.out | apply below_alloc | apply pw_below_drewN | apply below_drew1) | exact HB.out)))); (case aL => have := LMc18.out; omega); intro v114 w19 ho hb hg hat; rw [← Ny113.out] at ho; have n0_ := Aside0.mk (hb); have n1_ := Aside0.mk (ho); clear HB; clear HO_3; have HB := n0_; have HO115 := n1_; clear n0_ n1_; clear ho hb hg hat))
                                repeat (go_quiet (first | ((with_reducible refine gate_builtin (b := .append) (xs := #[.tmp 50, .tmp 52]) rfl ?_); at_builtin; refine Kd.R_append (Kd.int .i64) (w0 := w) w.heap.size rfl (.tmp 50) (.tmp 52) 47 3 (.int .i64 0) 8 rfl Try.underlying47 info3 rfl (by decide) (by omega) u3 x3_1 x4_1 [.int .i64 x4_1] (fun _ => True) (fun _ => False) rfl rfl ?aP (fun _ hk => hk.elim) ?aF ?aO ?aB ?aS ?aL ?_; (case aP => exact rfl); (case aB => exact (by repeat (first | (with_reducible first | exact HB.out | apply below_alloc | apply pw_below_drewN | apply below_drew1) | exact HB.out))); (case aF => exact (fun _ _ => trivial)); (case aO => exact (by (with_reducible repeat (first | apply Kd.R_alloc | apply Kd.R_drewN | apply Kd.R_drew)); exact HO_3.out)); (case aS => exact (below_size (by repeat (first | (with_reducible first | exact HB.out | apply below_alloc | apply pw_below_drewN | apply below_drew1) | exact HB.out)))); (case aL => have := LMc18.out; omega); intro v114 w19 ho hb hg hat; rw [← Ny113.out] at ho; have n0_ := Aside0.mk (hb); have n1_ := Aside0.mk (ho); clear HB; clear HO_3; have HB := n0_; have HO115 := n1_; clear n0_ n1_; clear ho hb hg hat)); try go_wp2_with (first | ((with_reducible refine gate_builtin (b := .append) (xs := #[.tmp 50, .tmp 52]) rfl ?_); at_builtin; refine Kd.R_append (Kd.int .i64) (w0 := w) w.heap.size rfl (.tmp 50) (.tmp 52) 47 3 (.int .i64 0) 8 rfl Try.underlying47 info3 rfl (by decide) (by omega) u3 x3_1 x4_1 [.int .i64 x4_1] (fun _ => True) (fun _ => False) rfl rfl ?aP (fun _ hk => hk.elim) ?aF ?aO ?aB ?aS ?aL ?_; (case aP => exact rfl); (case aB => exact (by repeat (first | (with_reducible first | exact HB.out | apply below_alloc | apply pw_below_drewN | apply below_drew1) | exact HB.out))); (case aF => exact (fun _ _ => trivial)); (case aO => exact (by (with_reducible repeat (first | apply Kd.R_alloc | apply Kd.R_drewN | apply Kd.R_drew)); exact HO_3.out)); (case aS => exact (below_size (by repeat (first | (with_reducible first | exact HB.out | apply below_alloc | apply pw_below_drewN | apply below_drew1) | exact HB.out)))); (case aL => have := LMc18.out; omega); intro v114 w19 ho hb hg hat; rw [← Ny113.out] at ho; have n0_ := Aside0.mk (hb); have n1_ := Aside0.mk (ho); clear HB; clear HO_3; have HB := n0_; have HO115 := n1_; clear n0_ n1_; clear ho hb hg hat)))
                                (first | go_roundg k1 | (simp only [← hji6, ← hji9]; go_roundg k1))
                                case measure => have := HK1.out; omega
                                case rel => exact ⟨(y113), (ji9), (by first | rfl | (simp; done) | (simp only [← hji9] <;> (first | rfl | simp)) | (simp [*]; done)), H', ⟨by have := HK1.out; omega⟩, ⟨by (with_reducible repeat (first | apply Kd.R_alloc | apply Kd.R_drewN | apply Kd.R_drew)); exact HO115.out⟩, ⟨by repeat (first | (with_reducible first | exact HB.out | apply below_alloc | apply pw_below_drewN | apply below_drew1) | exact HB.out)⟩⟩
                              · rw [if_neg c18] at H
                                exact absurd H (by simp)
                            · rw [if_neg c17] at H
                              have c17b0 : (FloatKind.f64.format.order (rdOf (0 : Nat) l0 x4_1) (rdOf (0 : Nat) l0 (ji9)) == some .lt || FloatKind.f64.format.order (rdOf (0 : Nat) l0 x4_1) (rdOf (0 : Nat) l0 (ji9)) == some .eq) = false := by simpa using c17
                              (try (have c17b1 : decide (FloatKind.f64.format.order (rdOf (0 : Nat) l0 x4_1) (rdOf (0 : Nat) l0 (ji9)) = some .lt || FloatKind.f64.format.order (rdOf (0 : Nat) l0 x4_1) (rdOf (0 : Nat) l0 (ji9)) == some .eq) = false := by simpa using c17))
                              (try (have c17b2 : (FloatKind.f64.format.order (rdOf (0 : Nat) l0 x4_1) (rdOf (0 : Nat) l0 (ji9)) == some .lt || FloatKind.f64.format.order (rdOf (0 : Nat) l0 x4_1) (rdOf (0 : Nat) l0 (ji9)) == some .eq) = false := by simpa using c17))
                              (try (have c17b3 : ¬ (FloatKind.f64.format.order (rdOf (0 : Nat) l0 x4_1) (rdOf (0 : Nat) l0 (ji9)) = some .lt || FloatKind.f64.format.order (rdOf (0 : Nat) l0 x4_1) (rdOf (0 : Nat) l0 (ji9)) == some .eq) := by simpa using c17))
                              clear c17
                              have H' := Aside0.mk H
                              clear H
                              have p107 : 0 ≤ (x4_1 : Int) := of_decide_eq_true (by first | (with_reducible assumption) | assumption)
                              have q107 : x4_1 < (l0.length : Int) := of_decide_eq_true (by first | (with_reducible assumption) | assumption)
                              obtain ⟨ad107, e107, hx107_0⟩ := Kd.at_flt HR0.out x4_1 p107 q107
                              cases e107
                              replace hx107_0 := (HB.out.cell (World.block_lt_of_cell? w _ hx107_0)).trans hx107_0
                              replace p107 := eq_true p107
                              replace q107 := eq_true q107
                              have p108 : 0 ≤ ((ji6) : Int) := of_decide_eq_true (by first | (with_reducible assumption) | assumption)
                              have q108 : (ji6) < (l0.length : Int) := of_decide_eq_true (by first | (with_reducible assumption) | assumption)
                              obtain ⟨ad108, e108, hx108_0⟩ := Kd.at_flt HR0.out (ji6) p108 q108
                              obtain rfl : ad107 = ad108 := (by injection e108)
                              replace hx108_0 := (HB.out.cell (World.block_lt_of_cell? w _ hx108_0)).trans hx108_0
                              replace p108 := eq_true p108
                              replace q108 := eq_true q108
                              have p109 : 0 ≤ ((ji9) : Int) := of_decide_eq_true (by first | (with_reducible assumption) | assumption)
                              have q109 : (ji9) < (l0.length : Int) := of_decide_eq_true (by first | (with_reducible assumption) | assumption)
                              obtain ⟨ad109, e109, hx109_0⟩ := Kd.at_flt HR0.out (ji9) p109 q109
                              obtain rfl : ad107 = ad109 := (by injection e109)
                              replace hx109_0 := (HB.out.cell (World.block_lt_of_cell? w _ hx109_0)).trans hx109_0
                              replace p109 := eq_true p109
                              replace q109 := eq_true q109
                              go_wp2
                              repeat (go_quiet (fail); try go_wp2)
                              (first | go_roundg k1 | (simp only [← hji6, ← hji9]; go_roundg k1))
                              case measure => have := HK1.out; omega
                              case rel => exact ⟨(x3_1), (ji9), (by first | rfl | (simp; done) | (simp only [← hji9] <;> (first | rfl | simp)) | (simp [*]; done)), H', ⟨by have := HK1.out; omega⟩, ⟨by (with_reducible repeat (first | apply Kd.R_alloc | apply Kd.R_drewN | apply Kd.R_drew)); exact HO_3.out⟩, ⟨by repeat (first | (with_reducible first | exact HB.out | apply below_alloc | apply pw_below_drewN | apply below_drew1) | exact HB.out)⟩⟩
                          · rw [if_neg c16] at H
                            have c16b0 : (FloatKind.f64.format.order (rdOf (0 : Nat) l0 x4_1) (rdOf (0 : Nat) l0 (ji6)) == some .lt) = false := by simpa using c16
                            (try (have c16b1 : decide (FloatKind.f64.format.order (rdOf (0 : Nat) l0 x4_1) (rdOf (0 : Nat) l0 (ji6)) = some .lt) = false := by simpa using c16))
                            (try (have c16b2 : (FloatKind.f64.format.order (rdOf (0 : Nat) l0 x4_1) (rdOf (0 : Nat) l0 (ji6)) == some .lt) = false := by simpa using c16))
                            (try (have c16b3 : ¬ (FloatKind.f64.format.order (rdOf (0 : Nat) l0 x4_1) (rdOf (0 : Nat) l0 (ji6)) = some .lt) := by simpa using c16))
                            clear c16
                            have H' := Aside0.mk H
                            clear H
                            have p107 : 0 ≤ (x4_1 : Int) := of_decide_eq_true (by first | (with_reducible assumption) | assumption)
                            have q107 : x4_1 < (l0.length : Int) := of_decide_eq_true (by first | (with_reducible assumption) | assumption)
                            obtain ⟨ad107, e107, hx107_0⟩ := Kd.at_flt HR0.out x4_1 p107 q107
                            cases e107
                            replace hx107_0 := (HB.out.cell (World.block_lt_of_cell? w _ hx107_0)).trans hx107_0
                            replace p107 := eq_true p107
                            replace q107 := eq_true q107
                            have p108 : 0 ≤ ((ji6) : Int) := of_decide_eq_true (by first | (with_reducible assumption) | assumption)
                            have q108 : (ji6) < (l0.length : Int) := of_decide_eq_true (by first | (with_reducible assumption) | assumption)
                            obtain ⟨ad108, e108, hx108_0⟩ := Kd.at_flt HR0.out (ji6) p108 q108
                            obtain rfl : ad107 = ad108 := (by injection e108)
                            replace hx108_0 := (HB.out.cell (World.block_lt_of_cell? w _ hx108_0)).trans hx108_0
                            replace p108 := eq_true p108
                            replace q108 := eq_true q108
                            have p109 : 0 ≤ ((ji9) : Int) := of_decide_eq_true (by first | (with_reducible assumption) | assumption)
                            have q109 : (ji9) < (l0.length : Int) := of_decide_eq_true (by first | (with_reducible assumption) | assumption)
                            obtain ⟨ad109, e109, hx109_0⟩ := Kd.at_flt HR0.out (ji9) p109 q109
                            obtain rfl : ad107 = ad109 := (by injection e109)
                            replace hx109_0 := (HB.out.cell (World.block_lt_of_cell? w _ hx109_0)).trans hx109_0
                            replace p109 := eq_true p109
                            replace q109 := eq_true q109
                            go_wp2
                            repeat (go_quiet (fail); try go_wp2)
                            (first | go_roundg k1 | (simp only [← hji6, ← hji9]; go_roundg k1))
                            case measure => have := HK1.out; omega
                            case rel => exact ⟨(x3_1), (ji9), (by first | rfl | (simp; done) | (simp only [← hji9] <;> (first | rfl | simp)) | (simp [*]; done)), H', ⟨by have := HK1.out; omega⟩, ⟨by (with_reducible repeat (first | apply Kd.R_alloc | apply Kd.R_drewN | apply Kd.R_drew)); exact HO_3.out⟩, ⟨by repeat (first | (with_reducible first | exact HB.out | apply below_alloc | apply pw_below_drewN | apply below_drew1) | exact HB.out)⟩⟩
                      · rw [if_neg c12] at H
                        have c12b0 : (FloatKind.f64.format.order (rdOf (0 : Nat) l0 x4_1) (rdOf (0 : Nat) l0 (ji6)) == some .gt) = false := by simpa using c12
                        (try (have c12b1 : decide (FloatKind.f64.format.order (rdOf (0 : Nat) l0 x4_1) (rdOf (0 : Nat) l0 (ji6)) = some .gt) = false := by simpa using c12))
                        (try (have c12b2 : (FloatKind.f64.format.order (rdOf (0 : Nat) l0 x4_1) (rdOf (0 : Nat) l0 (ji6)) == some .gt) = false := by simpa using c12))
                        (try (have c12b3 : ¬ (FloatKind.f64.format.order (rdOf (0 : Nat) l0 x4_1) (rdOf (0 : Nat) l0 (ji6)) = some .gt) := by simpa using c12))
                        clear c12
                        by_cases c20 : (FloatKind.f64.format.order (rdOf (0 : Nat) l0 x4_1) (rdOf (0 : Nat) l0 (ji6)) == some .lt) = true
                        · rw [if_pos c20] at H
                          have c20b0 : (FloatKind.f64.format.order (rdOf (0 : Nat) l0 x4_1) (rdOf (0 : Nat) l0 (ji6)) == some .lt) = true := c20
                          (try (have c20b1 : decide (FloatKind.f64.format.order (rdOf (0 : Nat) l0 x4_1) (rdOf (0 : Nat) l0 (ji6)) = some .lt) = true := by simpa using c20))
                          (try (have c20b2 : (FloatKind.f64.format.order (rdOf (0 : Nat) l0 x4_1) (rdOf (0 : Nat) l0 (ji6)) == some .lt) = true := by simpa using c20))
                          clear c20
                          by_cases c21 : (FloatKind.f64.format.order (rdOf (0 : Nat) l0 x4_1) (rdOf (0 : Nat) l0 (ji9)) == some .lt || FloatKind.f64.format.order (rdOf (0 : Nat) l0 x4_1) (rdOf (0 : Nat) l0 (ji9)) == some .eq) = true
                          · rw [if_pos c21] at H
                            have c21b0 : (FloatKind.f64.format.order (rdOf (0 : Nat) l0 x4_1) (rdOf (0 : Nat) l0 (ji9)) == some .lt || FloatKind.f64.format.order (rdOf (0 : Nat) l0 x4_1) (rdOf (0 : Nat) l0 (ji9)) == some .eq) = true := c21
                            (try (have c21b1 : decide (FloatKind.f64.format.order (rdOf (0 : Nat) l0 x4_1) (rdOf (0 : Nat) l0 (ji9)) = some .lt || FloatKind.f64.format.order (rdOf (0 : Nat) l0 x4_1) (rdOf (0 : Nat) l0 (ji9)) == some .eq) = true := by simpa using c21))
                            (try (have c21b2 : (FloatKind.f64.format.order (rdOf (0 : Nat) l0 x4_1) (rdOf (0 : Nat) l0 (ji9)) == some .lt || FloatKind.f64.format.order (rdOf (0 : Nat) l0 x4_1) (rdOf (0 : Nat) l0 (ji9)) == some .eq) = true := by simpa using c21))
                            clear c21
                            by_cases c22 : x3_1.length < 17592186044416
                            · rw [if_pos c22] at H
                              have LMc22 := Aside0.mk c22
                              clear c22
                              obtain ⟨y116, hy116⟩ : ∃ y_ : List Int, y_ = (x3_1 ++ [x4_1]) := ⟨_, rfl⟩
                              replace H : (impl_HighLow.l0 k1 l0 y116 ji9) = some r := by first | (rw [hy116]; with_reducible exact H) | (have H2_ := (Option.bind_some _ _).symm.trans H; rw [hy116]; with_reducible exact H2_) | (have H2_ := (Option.bind_some _ _).symm.trans H; with_reducible exact H2_) | with_reducible exact H | (rw [hy116]; exact H) | exact H
                              have Ny116 := Aside0.mk hy116
                              clear hy116
                              have H' := Aside0.mk H
                              clear H
                              have p107 : 0 ≤ (x4_1 : Int) := of_decide_eq_true (by first | (with_reducible assumption) | assumption)
                              have q107 : x4_1 < (l0.length : Int) := of_decide_eq_true (by first | (with_reducible assumption) | assumption)
                              obtain ⟨ad107, e107, hx107_0⟩ := Kd.at_flt HR0.out x4_1 p107 q107
                              cases e107
                              replace hx107_0 := (HB.out.cell (World.block_lt_of_cell? w _ hx107_0)).trans hx107_0
                              replace p107 := eq_true p107
                              replace q107 := eq_true q107
                              have p108 : 0 ≤ ((ji6) : Int) := of_decide_eq_true (by first | (with_reducible assumption) | assumption)
                              have q108 : (ji6) < (l0.length : Int) := of_decide_eq_true (by first | (with_reducible assumption) | assumption)
                              obtain ⟨ad108, e108, hx108_0⟩ := Kd.at_flt HR0.out (ji6) p108 q108
                              obtain rfl : ad107 = ad108 := (by injection e108)
                              replace hx108_0 := (HB.out.cell (World.block_lt_of_cell? w _ hx108_0)).trans hx108_0
                              replace p108 := eq_true p108
                              replace q108 := eq_true q108
                              have p109 : 0 ≤ ((ji9) : Int) := of_decide_eq_true (by first | (with_reducible assumption) | assumption)
                              have q109 : (ji9) < (l0.length : Int) := of_decide_eq_true (by first | (with_reducible assumption) | assumption)
                              obtain ⟨ad109, e109, hx109_0⟩ := Kd.at_flt HR0.out (ji9) p109 q109
                              obtain rfl : ad107 = ad109 := (by injection e109)
                              replace hx109_0 := (HB.out.cell (World.block_lt_of_cell? w _ hx109_0)).trans hx109_0
                              replace p109 := eq_true p109
                              replace q109 := eq_true q109
                              go_wp2_with (first | ((with_reducible refine gate_builtin (b := .append) (xs := #[.tmp 50, .tmp 52]) rfl ?_); at_builtin; refine Kd.R_append (Kd.int .i64) (w0 := w) w.heap.size rfl (.tmp 50) (.tmp 52) 47 3 (.int .i64 0) 8 rfl Try.underlying47 info3 rfl (by decide) (by omega) u3 x3_1 x4_1 [.int .i64 x4_1] (fun _ => True) (fun _ => False) rfl rfl ?aP (fun _ hk => hk.elim) ?aF ?aO ?aB ?aS ?aL ?_; (case aP => exact rfl); (case aB => exact (by repeat (first | (with_reducible first | exact HB.out | apply below_alloc | apply pw_below_drewN | apply below_drew1) | exact HB.out))); (case aF => exact (fun _ _ => trivial)); (case aO => exact (by (with_reducible repeat (first | apply Kd.R_alloc | apply Kd.R_drewN | apply Kd.R_drew)); exact HO_3.out)); (case aS => exact (below_size (by repeat (first | (with_reducible first | exact HB.out | apply below_alloc | apply pw_below_drewN | apply below_drew1) | exact HB.out)))); (case aL => have := LMc22.out; omega); intro v117 w23 ho hb hg hat; rw [← Ny116.out] at ho; have n0_ := Aside0.mk (hb); have n1_ := Aside0.mk (ho); clear HB; clear HO_3; have HB := n0_; have HO118 := n1_; clear n0_ n1_; clear ho hb hg hat))
                              repeat (go_quiet (first | ((with_reducible refine gate_builtin (b := .append) (xs := #[.tmp 50, .tmp 52]) rfl ?_); at_builtin; refine Kd.R_append (Kd.int .i64) (w0 := w) w.heap.size rfl (.tmp 50) (.tmp 52) 47 3 (.int .i64 0) 8 rfl Try.underlying47 info3 rfl (by decide) (by omega) u3 x3_1 x4_1 [.int .i64 x4_1] (fun _ => True) (fun _ => False) rfl rfl ?aP (fun _ hk => hk.elim) ?aF ?aO ?aB ?aS ?aL ?_; (case aP => exact rfl); (case aB => exact (by repeat (first | (with_reducible first | exact HB.out | apply below_alloc | apply pw_below_drewN | apply below_drew1) | exact HB.out))); (case aF => exact (fun _ _ => trivial)); (case aO => exact (by (with_reducible repeat (first | apply Kd.R_alloc | apply Kd.R_drewN | apply Kd.R_drew)); exact HO_3.out)); (case aS => exact (below_size (by repeat (first | (with_reducible first | exact HB.out | apply below_alloc | apply pw_below_drewN | apply below_drew1) | exact HB.out)))); (case aL => have := LMc22.out; omega); intro v117 w23 ho hb hg hat; rw [← Ny116.out] at ho; have n0_ := Aside0.mk (hb); have n1_ := Aside0.mk (ho); clear HB; clear HO_3; have HB := n0_; have HO118 := n1_; clear n0_ n1_; clear ho hb hg hat)); try go_wp2_with (first | ((with_reducible refine gate_builtin (b := .append) (xs := #[.tmp 50, .tmp 52]) rfl ?_); at_builtin; refine Kd.R_append (Kd.int .i64) (w0 := w) w.heap.size rfl (.tmp 50) (.tmp 52) 47 3 (.int .i64 0) 8 rfl Try.underlying47 info3 rfl (by decide) (by omega) u3 x3_1 x4_1 [.int .i64 x4_1] (fun _ => True) (fun _ => False) rfl rfl ?aP (fun _ hk => hk.elim) ?aF ?aO ?aB ?aS ?aL ?_; (case aP => exact rfl); (case aB => exact (by repeat (first | (with_reducible first | exact HB.out | apply below_alloc | apply pw_below_drewN | apply below_drew1) | exact HB.out))); (case aF => exact (fun _ _ => trivial)); (case aO => exact (by (with_reducible repeat (first | apply Kd.R_alloc | apply Kd.R_drewN | apply Kd.R_drew)); exact HO_3.out)); (case aS => exact (below_size (by repeat (first | (with_reducible first | exact HB.out | apply below_alloc | apply pw_below_drewN | apply below_drew1) | exact HB.out)))); (case aL => have := LMc22.out; omega); intro v117 w23 ho hb hg hat; rw [← Ny116.out] at ho; have n0_ := Aside0.mk (hb); have n1_ := Aside0.mk (ho); clear HB; clear HO_3; have HB := n0_; have HO118 := n1_; clear n0_ n1_; clear ho hb hg hat)))
                              (first | go_roundg k1 | (simp only [← hji6, ← hji9]; go_roundg k1))
                              case measure => have := HK1.out; omega
                              case rel => exact ⟨(y116), (ji9), (by first | rfl | (simp; done) | (simp only [← hji9] <;> (first | rfl | simp)) | (simp [*]; done)), H', ⟨by have := HK1.out; omega⟩, ⟨by (with_reducible repeat (first | apply Kd.R_alloc | apply Kd.R_drewN | apply Kd.R_drew)); exact HO118.out⟩, ⟨by repeat (first | (with_reducible first | exact HB.out | apply below_alloc | apply pw_below_drewN | apply below_drew1) | exact HB.out)⟩⟩
                            · rw [if_neg c22] at H
                              exact absurd H (by simp)
                          · rw [if_neg c21] at H
                            have c21b0 : (FloatKind.f64.format.order (rdOf (0 : Nat) l0 x4_1) (rdOf (0 : Nat) l0 (ji9)) == some .lt || FloatKind.f64.format.order (rdOf (0 : Nat) l0 x4_1) (rdOf (0 : Nat) l0 (ji9)) == some .eq) = false := by simpa using c21
                            (try (have c21b1 : decide (FloatKind.f64.format.order (rdOf (0 : Nat) l0 x4_1) (rdOf (0 : Nat) l0 (ji9)) = some .lt || FloatKind.f64.format.order (rdOf (0 : Nat) l0 x4_1) (rdOf (0 : Nat) l0 (ji9)) == some .eq) = false := by simpa using c21))
                            (try (have c21b2 : (FloatKind.f64.format.order (rdOf (0 : Nat) l0 x4_1) (rdOf (0 : Nat) l0 (ji9)) == some .lt || FloatKind.f64.format.order (rdOf (0 : Nat) l0 x4_1) (rdOf (0 : Nat) l0 (ji9)) == some .eq) = false := by simpa using c21))
                            (try (have c21b3 : ¬ (FloatKind.f64.format.order (rdOf (0 : Nat) l0 x4_1) (rdOf (0 : Nat) l0 (ji9)) = some .lt || FloatKind.f64.format.order (rdOf (0 : Nat) l0 x4_1) (rdOf (0 : Nat) l0 (ji9)) == some .eq) := by simpa using c21))
                            clear c21
                            have H' := Aside0.mk H
                            clear H
                            have p107 : 0 ≤ (x4_1 : Int) := of_decide_eq_true (by first | (with_reducible assumption) | assumption)
                            have q107 : x4_1 < (l0.length : Int) := of_decide_eq_true (by first | (with_reducible assumption) | assumption)
                            obtain ⟨ad107, e107, hx107_0⟩ := Kd.at_flt HR0.out x4_1 p107 q107
                            cases e107
                            replace hx107_0 := (HB.out.cell (World.block_lt_of_cell? w _ hx107_0)).trans hx107_0
                            replace p107 := eq_true p107
                            replace q107 := eq_true q107
                            have p108 : 0 ≤ ((ji6) : Int) := of_decide_eq_true (by first | (with_reducible assumption) | assumption)
                            have q108 : (ji6) < (l0.length : Int) := of_decide_eq_true (by first | (with_reducible assumption) | assumption)
                            obtain ⟨ad108, e108, hx108_0⟩ := Kd.at_flt HR0.out (ji6) p108 q108
                            obtain rfl : ad107 = ad108 := (by injection e108)
                            replace hx108_0 := (HB.out.cell (World.block_lt_of_cell? w _ hx108_0)).trans hx108_0
                            replace p108 := eq_true p108
                            replace q108 := eq_true q108
                            have p109 : 0 ≤ ((ji9) : Int) := of_decide_eq_true (by first | (with_reducible assumption) | assumption)
                            have q109 : (ji9) < (l0.length : Int) := of_decide_eq_true (by first | (with_reducible assumption) | assumption)
                            obtain ⟨ad109, e109, hx109_0⟩ := Kd.at_flt HR0.out (ji9) p109 q109
                            obtain rfl : ad107 = ad109 := (by injection e109)
                            replace hx109_0 := (HB.out.cell (World.block_lt_of_cell? w _ hx109_0)).trans hx109_0
                            replace p109 := eq_true p109
                            replace q109 := eq_true q109
                            go_wp2
                            repeat (go_quiet (fail); try go_wp2)
                            (first | go_roundg k1 | (simp only [← hji6, ← hji9]; go_roundg k1))
                            case measure => have := HK1.out; omega
                            case rel => exact ⟨(x3_1), (ji9), (by first | rfl | (simp; done) | (simp only [← hji9] <;> (first | rfl | simp)) | (simp [*]; done)), H', ⟨by have := HK1.out; omega⟩, ⟨by (with_reducible repeat (first | apply Kd.R_alloc | apply Kd.R_drewN | apply Kd.R_drew)); exact HO_3.out⟩, ⟨by repeat (first | (with_reducible first | exact HB.out | apply below_alloc | apply pw_below_drewN | apply below_drew1) | exact HB.out)⟩⟩
                        · rw [if_neg c20] at H
                          have c20b0 : (FloatKind.f64.format.order (rdOf (0 : Nat) l0 x4_1) (rdOf (0 : Nat) l0 (ji6)) == some .lt) = false := by simpa using c20
                          (try (have c20b1 : decide (FloatKind.f64.format.order (rdOf (0 : Nat) l0 x4_1) (rdOf (0 : Nat) l0 (ji6)) = some .lt) = false := by simpa using c20))
                          (try (have c20b2 : (FloatKind.f64.format.order (rdOf (0 : Nat) l0 x4_1) (rdOf (0 : Nat) l0 (ji6)) == some .lt) = false := by simpa using c20))
                          (try (have c20b3 : ¬ (FloatKind.f64.format.order (rdOf (0 : Nat) l0 x4_1) (rdOf (0 : Nat) l0 (ji6)) = some .lt) := by simpa using c20))
                          clear c20
                          have H' := Aside0.mk H
                          clear H
                          have p107 : 0 ≤ (x4_1 : Int) := of_decide_eq_true (by first | (with_reducible assumption) | assumption)
                          have q107 : x4_1 < (l0.length : Int) := of_decide_eq_true (by first | (with_reducible assumption) | assumption)
                          obtain ⟨ad107, e107, hx107_0⟩ := Kd.at_flt HR0.out x4_1 p107 q107
                          cases e107
                          replace hx107_0 := (HB.out.cell (World.block_lt_of_cell? w _ hx107_0)).trans hx107_0
                          replace p107 := eq_true p107
                          replace q107 := eq_true q107
                          have p108 : 0 ≤ ((ji6) : Int) := of_decide_eq_true (by first | (with_reducible assumption) | assumption)
                          have q108 : (ji6) < (l0.length : Int) := of_decide_eq_true (by first | (with_reducible assumption) | assumption)
                          obtain ⟨ad108, e108, hx108_0⟩ := Kd.at_flt HR0.out (ji6) p108 q108
                          obtain rfl : ad107 = ad108 := (by injection e108)
                          replace hx108_0 := (HB.out.cell (World.block_lt_of_cell? w _ hx108_0)).trans hx108_0
                          replace p108 := eq_true p108
                          replace q108 := eq_true q108
                          have p109 : 0 ≤ ((ji9) : Int) := of_decide_eq_true (by first | (with_reducible assumption) | assumption)
                          have q109 : (ji9) < (l0.length : Int) := of_decide_eq_true (by first | (with_reducible assumption) | assumption)
                          obtain ⟨ad109, e109, hx109_0⟩ := Kd.at_flt HR0.out (ji9) p109 q109
                          obtain rfl : ad107 = ad109 := (by injection e109)
                          replace hx109_0 := (HB.out.cell (World.block_lt_of_cell? w _ hx109_0)).trans hx109_0
                          replace p109 := eq_true p109
                          replace q109 := eq_true q109
                          go_wp2
                          repeat (go_quiet (fail); try go_wp2)
                          (first | go_roundg k1 | (simp only [← hji6, ← hji9]; go_roundg k1))
                          case measure => have := HK1.out; omega
                          case rel => exact ⟨(x3_1), (ji9), (by first | rfl | (simp; done) | (simp only [← hji9] <;> (first | rfl | simp)) | (simp [*]; done)), H', ⟨by have := HK1.out; omega⟩, ⟨by (with_reducible repeat (first | apply Kd.R_alloc | apply Kd.R_drewN | apply Kd.R_drew)); exact HO_3.out⟩, ⟨by repeat (first | (with_reducible first | exact HB.out | apply below_alloc | apply pw_below_drewN | apply below_drew1) | exact HB.out)⟩⟩
                    · rw [if_neg c11] at H
                      exact absurd H (by simp)
                  · rw [if_neg c10] at H
                    exact absurd H (by simp)
                · rw [if_neg c8] at H
                  exact absurd H (by simp)
              · rw [if_neg c7] at H
                exact absurd H (by simp)
            · rw [if_neg c5] at H
              exact absurd H (by simp)
          · rw [if_neg c4] at H
            exact absurd H (by simp)
        · rw [if_neg c3] at H
          have c3b0 : decide (x4_1 < (wrap64 ((l0.length : Int) - 1))) = false := decide_eq_false c3
          clear c3
          replace H := Option.bind_eq_some_iff.mp H
          obtain ⟨t119, A240, H⟩ := H
          replace H : (some t119) = some r := H
          have A24 := Aside0.mk A240
          clear A240
          obtain rfl := Option.some.inj H
          obtain ⟨Ao25, co25, eo25⟩ := Kd.R_slice HO_3.out
          subst eo25
          go_wp2_with (first | (go_at_call 33; (with_reducible refine (impl_own_int.calls _ _ x3_1 t119 _ ?side1 ?side2 A24.out).mono ?_); (case side1 => repeat (first | exact (Kd.R_reads' HO_3.out).2.2 | (with_reducible refine Kd.C_alloc ?_ _) | (with_reducible refine Kd.C_drewN ?_ _) | (with_reducible refine Kd.C_drew ?_))); (case side2 => exact (Kd.R_reads' HO_3.out).2.1); rintro e w26 ⟨v120, rfl, ho0, hb⟩; have n0_ := Aside0.mk (Kd.R_elder' (by (with_reducible repeat (first | apply Kd.R_alloc | apply Kd.R_drewN | apply Kd.R_drew)); exact HO_3.out) (Kd.R_base ho0) hb); have n1_ := Aside0.mk (Kd.R_lower (Kd.R_new' ho0 (Kd.R_lt (by (with_reducible repeat (first | apply Kd.R_alloc | apply Kd.R_drewN | apply Kd.R_drew)); exact HO_3.out))) (below_size (by repeat (first | (with_reducible first | exact HB.out | apply below_alloc | apply pw_below_drewN | apply below_drew1) | exact HB.out)))); have n2_ := Aside0.mk (below_step (by repeat (first | (with_reducible first | exact HB.out | apply below_alloc | apply pw_below_drewN | apply below_drew1) | exact HB.out)) hb); clear HO_3; clear HB; have HO_3 := n0_; have HO121 := n1_; have HB := n2_; clear n0_ n1_ n2_; (try clear hb); (try clear hb2); (try clear hk); (try clear hi); (try clear ho0)))
          repeat (go_quiet (first | (go_at_call 33; (with_reducible refine (impl_own_int.calls _ _ x3_1 t119 _ ?side1 ?side2 A24.out).mono ?_); (case side1 => repeat (first | exact (Kd.R_reads' HO_3.out).2.2 | (with_reducible refine Kd.C_alloc ?_ _) | (with_reducible refine Kd.C_drewN ?_ _) | (with_reducible refine Kd.C_drew ?_))); (case side2 => exact (Kd.R_reads' HO_3.out).2.1); rintro e w26 ⟨v120, rfl, ho0, hb⟩; have n0_ := Aside0.mk (Kd.R_elder' (by (with_reducible repeat (first | apply Kd.R_alloc | apply Kd.R_drewN | apply Kd.R_drew)); exact HO_3.out) (Kd.R_base ho0) hb); have n1_ := Aside0.mk (Kd.R_lower (Kd.R_new' ho0 (Kd.R_lt (by (with_reducible repeat (first | apply Kd.R_alloc | apply Kd.R_drewN | apply Kd.R_drew)); exact HO_3.out))) (below_size (by repeat (first | (with_reducible first | exact HB.out | apply below_alloc | apply pw_below_drewN | apply below_drew1) | exact HB.out)))); have n2_ := Aside0.mk (below_step (by repeat (first | (with_reducible first | exact HB.out | apply below_alloc | apply pw_below_drewN | apply below_drew1) | exact HB.out)) hb); clear HO_3; clear HB; have HO_3 := n0_; have HO121 := n1_; have HB := n2_; clear n0_ n1_ n2_; (try clear hb); (try clear hb2); (try clear hk); (try clear hi); (try clear ho0))); try go_wp2_with (first | (go_at_call 33; (with_reducible refine (impl_own_int.calls _ _ x3_1 t119 _ ?side1 ?side2 A24.out).mono ?_); (case side1 => repeat (first | exact (Kd.R_reads' HO_3.out).2.2 | (with_reducible refine Kd.C_alloc ?_ _) | (with_reducible refine Kd.C_drewN ?_ _) | (with_reducible refine Kd.C_drew ?_))); (case side2 => exact (Kd.R_reads' HO_3.out).2.1); rintro e w26 ⟨v120, rfl, ho0, hb⟩; have n0_ := Aside0.mk (Kd.R_elder' (by (with_reducible repeat (first | apply Kd.R_alloc | apply Kd.R_drewN | apply Kd.R_drew)); exact HO_3.out) (Kd.R_base ho0) hb); have n1_ := Aside0.mk (Kd.R_lower (Kd.R_new' ho0 (Kd.R_lt (by (with_reducible repeat (first | apply Kd.R_alloc | apply Kd.R_drewN | apply Kd.R_drew)); exact HO_3.out))) (below_size (by repeat (first | (with_reducible first | exact HB.out | apply below_alloc | apply pw_below_drewN | apply below_drew1) | exact HB.out)))); have n2_ := Aside0.mk (below_step (by repeat (first | (with_reducible first | exact HB.out | apply below_alloc | apply pw_below_drewN | apply below_drew1) | exact HB.out)) hb); clear HO_3; clear HB; have HO_3 := n0_; have HO121 := n1_; have HB := n2_; clear n0_ n1_ n2_; (try clear hb); (try clear hb2); (try clear hk); (try clear hi); (try clear ho0))))
          go_ret
          exact ⟨_, by first | rfl | (simp [errW_none, errW_some] <;> rfl) | (simp [*, errW_none, errW_some] <;> rfl), by (with_reducible repeat (first | apply Kd.R_alloc | apply Kd.R_drewN | apply Kd.R_drew)); exact Kd.R_mono HO121.out (fun _ hk => trivial), by repeat (first | (with_reducible first | exact HB.out | apply below_alloc | apply pw_below_drewN | apply below_drew1) | exact HB.out)⟩

end Go.Proofs.Ytchobalepjmeiaa.PFnExactHighLow
