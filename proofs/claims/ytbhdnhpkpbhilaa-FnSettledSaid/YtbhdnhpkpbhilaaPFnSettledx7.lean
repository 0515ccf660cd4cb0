/- The Lean side of Go functions of this seat: what each answers, and that its run comes to that answer; written by a program of this work. -/
import Derived.Test.YtbhdnhpkpbhilaaPFnSettledx0
import Derived.Test.YtbhdnhpkpbhilaaPFnSettledx2
import Derived.Test.YtbhdnhpkpbhilaaPFnSettledx3
namespace Go.Proofs.Ytbhdnhpkpbhilaa.PFnSettled
open Go.RowKit Go.Proofs.YtbhdnhpkpbhilaaW.PrintWords Go.Proofs.YtbhdnhpkpbhilaaW.PrintLast Go.Proofs.YtbhdnhpkpbhilaaW.PrintMore
attribute [local go_sem] max2_int min2_int max_two min_two max_three min_three max_four min_four   -- for this text's walks alone
set_option linter.unusedVariables false
set_option linter.unusedSimpArgs false

/-! ### impl_Relay: function 31 -/
mutual
def impl_Relay.j0 : Nat → List (S58) → Int → Bool → Option (List Int × Bool)
  | 0, _, _, _ => none
  | k + 1, x0, x1, x21 => if x21 = true then (some (([] : List Int), false)) else (if 0 ≤ (x0.length : Int) then (if ((x0.length : Int) : Int).toNat ≤ 35184372088832 then ((some (List.replicate ((x0.length : Int) : Int).toNat 0 : List Int)).bind fun y287 => (impl_Relay.l0 k x0 x1 y287 (y287.length : Int) 0)) else (none)) else (none))
def impl_Relay.l0 : Nat → List (S58) → Int → List Int → Int → Int → Option (List Int × Bool)
  | 0, _, _, _, _, _ => none
  | k + 1, x0, x1, x6, x26, x27 => if x27 < x26 then (if 0 ≤ x27 then (if x27 < (x6.length : Int) then (impl_Relay.l0 k x0 x1 (x6.set (x27 : Int).toNat (-1)) x26 (wrap64 (x27 + 1))) else (none)) else (none)) else (if 0 ≤ x1 then (if x1 < (x6.length : Int) then (impl_Relay.l1 k x0 (x6.set (x1 : Int).toNat 0) (([x1] : List Int))) else (none)) else (none))
def impl_Relay.l1 : Nat → List (S58) → List Int → List Int → Option (List Int × Bool)
  | 0, _, _, _ => none
  | k + 1, x0, x6, x8 => if (x8.length : Int) > 0 then (if 0 < (x8.length : Int) then (if 0 ≤ (rd x8 0) then (if (rd x8 0) < (x0.length : Int) then (impl_Relay.l2 k x0 x6 x8 ((rd_T58 x0 (rd x8 0)).f2) (((rd_T58 x0 (rd x8 0)).f2).length : Int) 0) else (none)) else (none)) else (none)) else (some (x6, true))
def impl_Relay.l2 : Nat → List (S58) → List Int → List Int → List Int → Int → Int → Option (List Int × Bool)
  | 0, _, _, _, _, _, _ => none
  | k + 1, x0, x6, x8, x50, x51, x52 => if x52 < x51 then (if 0 ≤ x52 then (if x52 < (x50.length : Int) then (if 0 ≤ (rd x50 x52) then (if (rd x50 x52) < (x6.length : Int) then (if (rd x6 (rd x50 x52)) < 0 then (if 0 < (x8.length : Int) then (if 0 ≤ (rd x8 0) then (if (rd x8 0) < (x6.length : Int) then (if x8.length < 17592186044416 then (impl_Relay.l2 k x0 (x6.set ((rd x50 x52) : Int).toNat (wrap64 ((rd x6 (rd x8 0)) + 1))) (x8 ++ [rd x50 x52]) x50 x51 (wrap64 (x52 + 1))) else (none)) else (none)) else (none)) else (none)) else (impl_Relay.l2 k x0 x6 x8 x50 x51 (wrap64 (x52 + 1)))) else (none)) else (none)) else (none)) else (none)) else (if 1 ≤ (x8.length : Int) then (impl_Relay.l1 k x0 x6 (x8.drop (1 : Int).toNat)) else (none))
end
def impl_Relay.f (k : Nat) (l0 : List (S58)) (a1 : Int) : Option (List Int × Bool) := (impl_RadiosOk.f k l0).bind fun t285 => (if t285 = true then ((impl_in.f a1 0 (wrap64 ((l0.length : Int) - 1))).bind fun t286 => (impl_Relay.j0 k l0 a1 (!t286))) else (impl_Relay.j0 k l0 a1 true))
theorem impl_Relay.mono_l : ∀ k, (∀ y0 y1 y2, LeO (impl_Relay.j0 k y0 y1 y2) (impl_Relay.j0 (k + 1) y0 y1 y2)) ∧ (∀ y0 y1 y2 y3 y4, LeO (impl_Relay.l0 k y0 y1 y2 y3 y4) (impl_Relay.l0 (k + 1) y0 y1 y2 y3 y4)) ∧ (∀ y0 y1 y2, LeO (impl_Relay.l1 k y0 y1 y2) (impl_Relay.l1 (k + 1) y0 y1 y2)) ∧ (∀ y0 y1 y2 y3 y4 y5, LeO (impl_Relay.l2 k y0 y1 y2 y3 y4 y5) (impl_Relay.l2 (k + 1) y0 y1 y2 y3 y4 y5))
  | 0 => ⟨fun _ _ _ r h => by simp [impl_Relay.j0] at h, fun _ _ _ _ _ r h => by simp [impl_Relay.l0] at h, fun _ _ _ r h => by simp [impl_Relay.l1] at h, fun _ _ _ _ _ _ r h => by simp [impl_Relay.l2] at h⟩
  | k + 1 => by
    obtain ⟨ih0, ih1, ih2, ih3⟩ := impl_Relay.mono_l k
    refine ⟨?_, ?_, ?_, ?_⟩
    · intro y0 y1 y2
      unfold impl_Relay.j0
      repeat' first
      | (with_reducible exact ih0 _ _ _)
      | (with_reducible exact ih1 _ _ _ _ _)
      | (with_reducible exact ih2 _ _ _)
      | (with_reducible exact ih3 _ _ _ _ _ _)
      | (with_reducible exact impl_RadiosOk.mono _ _)
      | (with_reducible exact LeO.refl _)
      | (with_reducible exact LeO.none _)
      | (with_reducible refine LeO.ite ?_ ?_)
      | (with_reducible refine LeO.bind ?_ (fun _ => ?_))
      | exact ih0 _ _ _
      | exact ih1 _ _ _ _ _
      | exact ih2 _ _ _
      | exact ih3 _ _ _ _ _ _
      | exact impl_RadiosOk.mono _ _
      | exact LeO.none _
      | refine LeO.ite ?_ ?_
      | refine LeO.bind ?_ (fun _ => ?_)
    · intro y0 y1 y2 y3 y4
      unfold impl_Relay.l0
      repeat' first
      | (with_reducible exact ih0 _ _ _)
      | (with_reducible exact ih1 _ _ _ _ _)
      | (with_reducible exact ih2 _ _ _)
      | (with_reducible exact ih3 _ _ _ _ _ _)
      | (with_reducible exact impl_RadiosOk.mono _ _)
      | (with_reducible exact LeO.refl _)
      | (with_reducible exact LeO.none _)
      | (with_reducible refine LeO.ite ?_ ?_)
      | (with_reducible refine LeO.bind ?_ (fun _ => ?_))
      | exact ih0 _ _ _
      | exact ih1 _ _ _ _ _
      | exact ih2 _ _ _
      | exact ih3 _ _ _ _ _ _
      | exact impl_RadiosOk.mono _ _
      | exact LeO.none _
      | refine LeO.ite ?_ ?_
      | refine LeO.bind ?_ (fun _ => ?_)
    · intro y0 y1 y2
      unfold impl_Relay.l1
      repeat' first
      | (with_reducible exact ih0 _ _ _)
      | (with_reducible exact ih1 _ _ _ _ _)
      | (with_reducible exact ih2 _ _ _)
      | (with_reducible exact ih3 _ _ _ _ _ _)
      | (with_reducible exact impl_RadiosOk.mono _ _)
      | (with_reducible exact LeO.refl _)
      | (with_reducible exact LeO.none _)
      | (with_reducible refine LeO.ite ?_ ?_)
      | (with_reducible refine LeO.bind ?_ (fun _ => ?_))
      | exact ih0 _ _ _
      | exact ih1 _ _ _ _ _
      | exact ih2 _ _ _
      | exact ih3 _ _ _ _ _ _
      | exact impl_RadiosOk.mono _ _
      | exact LeO.none _
      | refine LeO.ite ?_ ?_
      | refine LeO.bind ?_ (fun _ => ?_)
    · intro y0 y1 y2 y3 y4 y5
      unfold impl_Relay.l2
      repeat' first
      | (with_reducible exact ih0 _ _ _)
      | (with_reducible exact ih1 _ _ _ _ _)
      | (with_reducible exact ih2 _ _ _)
      | (with_reducible exact ih3 _ _ _ _ _ _)
      | (with_reducible exact impl_RadiosOk.mono _ _)
      | (with_reducible exact LeO.refl _)
      | (with_reducible exact LeO.none _)
      | (with_reducible refine LeO.ite ?_ ?_)
      | (with_reducible refine LeO.bind ?_ (fun _ => ?_))
      | exact ih0 _ _ _
      | exact ih1 _ _ _ _ _
      | exact ih2 _ _ _
      | exact ih3 _ _ _ _ _ _
      | exact impl_RadiosOk.mono _ _
      | exact LeO.none _
      | refine LeO.ite ?_ ?_
      | refine LeO.bind ?_ (fun _ => ?_)
theorem impl_Relay.mono : ∀ a0 a1 k, LeO (impl_Relay.f k a0 a1) (impl_Relay.f (k + 1) a0 a1) := by
  intro a0 a1 k
  obtain ⟨ih0, ih1, ih2, ih3⟩ := impl_Relay.mono_l k
  unfold impl_Relay.f
  repeat' first
      | (with_reducible exact ih0 _ _ _)
      | (with_reducible exact ih1 _ _ _ _ _)
      | (with_reducible exact ih2 _ _ _)
      | (with_reducible exact ih3 _ _ _ _ _ _)
      | (with_reducible exact impl_RadiosOk.mono _ _)
      | (with_reducible exact LeO.refl _)
      | (with_reducible exact LeO.none _)
      | (with_reducible refine LeO.ite ?_ ?_)
      | (with_reducible refine LeO.bind ?_ (fun _ => ?_))
      | exact ih0 _ _ _
      | exact ih1 _ _ _ _ _
      | exact ih2 _ _ _
      | exact ih3 _ _ _ _ _ _
      | exact impl_RadiosOk.mono _ _
      | exact LeO.none _
      | refine LeO.ite ?_ ?_
      | refine LeO.bind ?_ (fun _ => ?_)
set_option maxHeartbeats 8000000 in
set_option maxRecDepth 100000 in
theorem impl_Relay.calls (k : Nat) (A0 : Option Addr) (c0 : Nat) (l0 : List (S58)) (a1 : Int) (r1 : List Int) (r2 : Bool) (w : World) (hr0 : Kd.C k58 w A0 l0.length l0) (hc0 : l0.length ≤ c0) (h : impl_Relay.f k l0 a1 = some (r1, r2)) :
    Calls Try.prog 31 #[.slice A0 l0.length c0, .int .i64 a1] w fun e w' => ∃ v0_ : Value, e = .returned (.tuple #[v0_, .bool r2]) ∧ Kd.R (Kd.int .i64) 3 w' w.heap.size (fun _ => True) v0_ r1 ∧ Below w.heap.size w w' := by
  have HR0 := Aside0.mk hr0
  have HC0 := Aside0.mk hc0
  clear hr0 hc0
  have HB := Aside0.mk (Below.refl w.heap.size w)
  have H : ((impl_RadiosOk.f k l0).bind fun t285 => (if t285 = true then ((impl_in.f a1 0 (wrap64 ((l0.length : Int) - 1))).bind fun t286 => (impl_Relay.j0 k l0 a1 (!t286))) else (impl_Relay.j0 k l0 a1 true))) = some (r1, r2) := h
  clear h
  have HC3 := Aside0.mk H
  clear H
  go_enter Try.func31, Try.ntmps31
  go_upto_region 1 with (fail)
  go_cut [21] (fun v21 wc => ∃ (kq : Nat) (x21_2 : Bool), v21 = .bool x21_2 ∧ Aside0 (impl_Relay.j0 kq l0 a1 x21_2 = some (r1, r2)) ∧ Aside0 (kq ≤ k) ∧ Aside0 (Below w.heap.size w wc))
  case first =>
    have H := HC3.out
    clear HC3
    replace H := Option.bind_eq_some_iff.mp H
    obtain ⟨t285, A40, H⟩ := H
    replace H : (if t285 = true then ((impl_in.f a1 0 (wrap64 ((l0.length : Int) - 1))).bind fun t286 => (impl_Relay.j0 k l0 a1 (!t286))) else (impl_Relay.j0 k l0 a1 true)) = some (r1, r2) := H
    have A4 := Aside0.mk A40
    clear A40
    by_cases c5 : t285 = true
    · subst c5
      have H1 : ((impl_in.f a1 0 (wrap64 ((l0.length : Int) - 1))).bind fun t286 => (impl_Relay.j0 k l0 a1 (!t286))) = some (r1, r2) := by rw [if_pos rfl] at H; exact H
      clear H
      have H := H1
      clear H1
      replace H := Option.bind_eq_some_iff.mp H
      obtain ⟨t286, A60, H⟩ := H
      replace H : (impl_Relay.j0 k l0 a1 (!t286)) = some (r1, r2) := H
      have A6 := Aside0.mk A60
      clear A60
      have H' := Aside0.mk H
      clear H
      go_wp2_with (first | ((with_reducible refine gate_callee (f := 30) rfl ?_); refine goesL_ (some 12) rfl rfl Try.func30 (by kernel_rfl) rfl #[.slice A0 l0.length c0] rfl (by (try simp only [List.map_toArray, List.map_cons, List.map_nil]); first | done | rfl | (simp only [List.length_drop, List.length_take]; rfl)) ?_; (with_reducible refine (impl_RadiosOk.calls k _ _ l0 true _ ?side1 ?side2 A4.out).mono ?_); (case side1 => repeat (first | exact (Kd.C_below HR0.out HB.out) | (with_reducible refine Kd.C_alloc ?_ _) | (with_reducible refine Kd.C_drewN ?_ _) | (with_reducible refine Kd.C_drew ?_))); (case side2 => exact HC0.out); rintro e w7 ⟨rfl, hb⟩; refine ⟨_, rfl, ?_⟩; have n0_ := Aside0.mk (below_step (by repeat (first | (with_reducible first | exact HB.out | apply below_alloc | apply pw_below_drewN | apply below_drew1) | exact HB.out)) hb); clear HB; have HB := n0_; clear n0_; (try clear hb); (try clear hb2); (try clear hk); (try clear hi)) | (go_at_call 46; (with_reducible refine (impl_in.calls a1 0 (wrap64 ((l0.length : Int) - 1)) t286 _ A6.out).mono ?_); rintro e w' ⟨rfl, ⟨nd, rfl⟩⟩))
      go_meet
      case rel => exact ⟨_, (!t286), (by first | rfl | (simp; done) | (simp [*]; done) | (simp [wrap64]; done)), H', ⟨by first | omega | exact Nat.le_refl _⟩, ⟨by repeat (first | (with_reducible first | exact HB.out | apply below_alloc | apply pw_below_drewN | apply below_drew1) | exact HB.out)⟩⟩
    · replace c5 := Bool.eq_false_iff.mpr c5
      subst c5
      have H1 : (impl_Relay.j0 k l0 a1 true) = some (r1, r2) := by rw [if_neg (show ¬ (false = true) by decide)] at H; exact H
      clear H
      have H := H1
      clear H1
      have H' := Aside0.mk H
      clear H
      go_wp2_with (first | ((with_reducible refine gate_callee (f := 30) rfl ?_); refine goesL_ (some 12) rfl rfl Try.func30 (by kernel_rfl) rfl #[.slice A0 l0.length c0] rfl (by (try simp only [List.map_toArray, List.map_cons, List.map_nil]); first | done | rfl | (simp only [List.length_drop, List.length_take]; rfl)) ?_; (with_reducible refine (impl_RadiosOk.calls k _ _ l0 false _ ?side1 ?side2 A4.out).mono ?_); (case side1 => repeat (first | exact (Kd.C_below HR0.out HB.out) | (with_reducible refine Kd.C_alloc ?_ _) | (with_reducible refine Kd.C_drewN ?_ _) | (with_reducible refine Kd.C_drew ?_))); (case side2 => exact HC0.out); rintro e w8 ⟨rfl, hb⟩; refine ⟨_, rfl, ?_⟩; have n0_ := Aside0.mk (below_step (by repeat (first | (with_reducible first | exact HB.out | apply below_alloc | apply pw_below_drewN | apply below_drew1) | exact HB.out)) hb); clear HB; have HB := n0_; clear n0_; (try clear hb); (try clear hb2); (try clear hk); (try clear hi)))
      go_meet
      case rel => exact ⟨_, (true), (by first | rfl | (simp; done) | (simp [*]; done) | (simp [wrap64]; done)), H', ⟨by first | omega | exact Nat.le_refl _⟩, ⟨by repeat (first | (with_reducible first | exact HB.out | apply below_alloc | apply pw_below_drewN | apply below_drew1) | exact HB.out)⟩⟩
  case rest =>
    clear HC3
    try clear p2
    try clear c3
    try clear c5
    try clear p6
    obtain ⟨kq, x21_2, rfl, HA, HJ2, HB⟩ := hcut
    cases kq with
    | zero => exact absurd HA.out (by simp [impl_Relay.j0])
    | succ kj2 =>
      have H := HA.out
      clear HA
      simp only [impl_Relay.j0] at H
      by_cases c9 : x21_2 = true
      · subst c9
        have H1 : (some (([] : List Int), false)) = some (r1, r2) := by rw [if_pos rfl] at H; exact H
        clear H
        have H := H1
        clear H1
        simp only [Option.some.injEq, Prod.mk.injEq] at H
        obtain ⟨rfl, rfl⟩ := H
        go_wp2
        go_ret2
        exact ⟨_, by first | rfl | (simp [errW_none, errW_some] <;> rfl) | (simp [*, errW_none, errW_some] <;> rfl), by first | exact Kd.R_nil _ _ _ _ _ | exact Kd.N_nil _ _ _ _ _ | exact Kd.V_nil _ _ _ _ _ | exact Kd.Q_nil _ _ _ _ _ | exact Kd.S_nil _ _ _ _ _, by repeat (first | (with_reducible first | exact HB.out | apply below_alloc | apply pw_below_drewN | apply below_drew1) | exact HB.out)⟩
      · replace c9 := Bool.eq_false_iff.mpr c9
        subst c9
        have H1 : (if 0 ≤ (l0.length : Int) then (if ((l0.length : Int) : Int).toNat ≤ 35184372088832 then ((some (List.replicate ((l0.length : Int) : Int).toNat 0 : List Int)).bind fun y287 => (impl_Relay.l0 kj2 l0 a1 y287 (y287.length : Int) 0)) else (none)) else (none)) = some (r1, r2) := by rw [if_neg (show ¬ (false = true) by decide)] at H; exact H
        clear H
        have H := H1
        clear H1
        by_cases c10 : 0 ≤ (l0.length : Int)
        · rw [if_pos c10] at H
          have c10b0 := eq_true c10
          have c10b1 : decide (0 ≤ (l0.length : Int)) = true := decide_eq_true c10
          clear c10
          by_cases c11 : ((l0.length : Int) : Int).toNat ≤ 35184372088832
          · rw [if_pos c11] at H
            have c11b0 := eq_true c11
            have c11b1 : decide (((l0.length : Int) : Int).toNat ≤ 35184372088832) = true := decide_eq_true c11
            clear c11
            obtain ⟨y287, hy287⟩ : ∃ y_ : List Int, y_ = (List.replicate ((l0.length : Int) : Int).toNat 0) := ⟨_, rfl⟩
            replace H : (impl_Relay.l0 kj2 l0 a1 y287 (y287.length : Int) 0) = some (r1, r2) := by first | (rw [hy287]; with_reducible exact H) | (have H2_ := (Option.bind_some _ _).symm.trans H; rw [hy287]; with_reducible exact H2_) | (have H2_ := (Option.bind_some _ _).symm.trans H; with_reducible exact H2_) | with_reducible exact H | (rw [hy287]; exact H) | exact H
            have Ny287 := Aside0.mk hy287
            clear hy287
            have H' := Aside0.mk H
            clear H
            go_wp2_with (first | ((with_reducible refine gate_dst (N := 24) rfl ?_); (try (refine gate_guard (by rfl) ?_; dsimp only)); refine Kd.R_make (Kd.int .i64) _ 3 rfl (N := 24) rfl 47 _ _ rfl (l0.length : Int) rfl rfl Try.underlying47 (.int .i64 0) 8 info3 rfl (by decide) (by omega) 0 (ok := fun _ => True) (okp := fun _ => True) rfl (fun _ hk => hk) trivial (of_decide_eq_true (by first | (with_reducible assumption) | assumption)) (Nat.le_trans (Nat.mul_le_mul_right _ (of_decide_eq_true (by first | (with_reducible assumption) | assumption) : (l0.length : Int).toNat ≤ 35184372088832)) (by omega)) (Below.refl _ _) (Nat.le_refl _) ?_; intro v288 w12 ho13 hb hg_ hnew_; clear hg_ hnew_; (first | rw [← Ny287.out] at ho13 | (simp only [Int.reduceToNat] at ho13; rw [← Ny287.out] at ho13)); have n0_ := Aside0.mk (Kd.R_lower ho13 (below_size (by repeat (first | (with_reducible first | exact HB.out | apply below_alloc | apply pw_below_drewN | apply below_drew1) | exact HB.out)))); have n1_ := Aside0.mk (below_step (by repeat (first | (with_reducible first | exact HB.out | apply below_alloc | apply pw_below_drewN | apply below_drew1) | exact HB.out)) hb); clear HB; have HO289 := n0_; have HB := n1_; clear n0_ n1_; clear hb ho13; obtain ⟨Ao14, co14, eo14⟩ := Kd.R_slice HO289.out; subst eo14))
            go_loopg [27] kj2 (fun kq v27 w' => ∃ (x6_2 : List Int) (x27_2 : Int), v27 = .int .i64 x27_2 ∧ Aside0 (impl_Relay.l0 kq l0 a1 x6_2 (y287.length : Int) x27_2 = some (r1, r2)) ∧ Aside0 (kq ≤ kj2) ∧ Aside0 (Kd.R (Kd.int .i64) 3 w' w.heap.size (fun _ => True) (.slice Ao14 y287.length co14) x6_2) ∧ Aside0 (Below w.heap.size w w'))
            case atStart => exact ⟨(y287), (0), (by first | rfl | (simp; done) | (simp [*]; done) | (simp [wrap64]; done)), H', ⟨Nat.le_refl _⟩, ⟨by (with_reducible repeat (first | apply Kd.R_alloc | apply Kd.R_drewN | apply Kd.R_drew)); exact HO289.out⟩, ⟨by repeat (first | (with_reducible first | exact HB.out | apply below_alloc | apply pw_below_drewN | apply below_drew1) | exact HB.out)⟩⟩
            case round =>
              clear H'
              try clear c1
              try clear p2
              try clear c3
              try clear c5
              try clear p6
              try clear c9
              try clear c10
              try clear c10b0
              try clear c10b1
              try clear c11
              try clear c11b0
              try clear c11b1
              try clear p2
              try clear p6
              obtain ⟨x6_2, x27_2, rfl, HA, HK2, HO_6, HB⟩ := hrel
              have hl6_2 := (Kd.R_reads' HO_6.out).1
              rw [hl6_2] at HO_6
              (try simp only [hl6_2])
              cases gk with
              | zero => exact absurd HA.out (by simp [impl_Relay.l0])
              | succ k2 =>
                have H := HA.out
                clear HA
                simp only [impl_Relay.l0] at H
                by_cases c15 : x27_2 < (y287.length : Int)
                · rw [if_pos c15] at H
                  have c15b0 : decide (x27_2 < (y287.length : Int)) = true := decide_eq_true c15
                  (try (have c15h := c15b0; simp only [hl6_2] at c15h))
                  clear c15
                  by_cases c16 : 0 ≤ x27_2
                  · rw [if_pos c16] at H
                    have c16b0 : decide (0 ≤ x27_2) = true := decide_eq_true c16
                    clear c16
                    by_cases c17 : x27_2 < (x6_2.length : Int)
                    · rw [if_pos c17] at H
                      have c17b0 : decide (x27_2 < (x6_2.length : Int)) = true := decide_eq_true c17
                      (try (have c17h := c17b0; simp only [hl6_2] at c17h))
                      clear c17
                      obtain ⟨y290, hy290⟩ : ∃ y_ : List Int, y_ = (x6_2.set (x27_2 : Int).toNat (-1)) := ⟨_, rfl⟩
                      replace H : (impl_Relay.l0 k2 l0 a1 y290 (y287.length : Int) (wrap64 (x27_2 + 1))) = some (r1, r2) := by first | (rw [hy290]; with_reducible exact H) | (have H2_ := (Option.bind_some _ _).symm.trans H; rw [hy290]; with_reducible exact H2_) | (have H2_ := (Option.bind_some _ _).symm.trans H; with_reducible exact H2_) | with_reducible exact H | (rw [hy290]; exact H) | exact H
                      have Ny290 := Aside0.mk hy290
                      clear hy290
                      have H' := Aside0.mk H
                      clear H
                      have p18 : 0 ≤ (x27_2 : Int) := of_decide_eq_true (by first | (with_reducible assumption) | assumption)
                      have q18 : (x27_2 : Int) < ((x6_2.length : Int) : Int) := of_decide_eq_true (by first | (with_reducible assumption) | assumption)
                      obtain ⟨go18, co18, eo18, gb18, gl18, cl18, HG18⟩ := Kd.R_form HO_6.out (by omega)
                      (first | cases eo18 | (injection eo18 with ea_ en_ ec_; (first | subst ea_ | (injection ea_ with ea_; subst ea_)); subst ec_; clear en_))
                      have GB18 := Aside0.mk gb18
                      have GG18 := Aside0.mk HG18
                      clear gb18 gl18 HG18
                      obtain ⟨hx18_0, hf18_0⟩ := Kd.R_celln 0 HO_6.out (x27_2 : Int) p18 q18
                      replace p18 := eq_true p18
                      replace q18 := eq_true q18
                      have HP19 := Kd.R_putg HO_6.out (x27_2 : Int) (-1)
                      go_wp2_with (first | ((with_reducible refine gate_store (t := 3) (p := 32) rfl ?_); refine store_event (t := 3) (p := 32) (v := ?vo_w20) (w1 := (wr.setCell ⟨go18, (x27_2 : Int).toNat, none⟩ (.int .i64 (-1)))) ?hg ?ho ?hn ?hr ?_; (case ho => rfl); (case hg => rfl); (case hn => rfl); (case hr => first | (go_simp; done) | (go_simp; rfl)); intro w20 hw; have hg : wr.grownBy w20 (some go18) := (by rw [hw]; exact HP19.2); have hp_ : Kd.R (Kd.int .i64) 3 w20 w.heap.size (fun _ => True) (.slice (some ⟨go18, 0, none⟩) x6_2.length co14) y290 := (by rw [hw, Ny290.out]; exact HP19.1); clear HP19; have n0_ := Aside0.mk (hp_); have n1_ := Aside0.mk ((by rw [hw]; exact below_set (HB.out) GB18.out : Below w.heap.size w w20)); clear HO_6; clear HB; have HO_6 := n0_; have HB := n1_; clear n0_ n1_; clear hg hw hp_))
                      (try simp only [← hl6_2])
                      (first | go_roundg k2 | (refine Handed.intro k2 ?measure ?_; rotate_left; go_step; (repeat apply Exists.intro); simp only [add_plain]; refine ⟨?rel, rfl⟩))
                      case measure => have := HJ2.out; have := HK2.out; omega
                      case rel => exact ⟨(y290), (wrap64 (x27_2 + 1)), (by first | rfl | (simp; done) | (simp [*]; done) | (simp [wrap64]; done)), H', ⟨by have := HJ2.out; have := HK2.out; omega⟩, ⟨by (try simp only [hl6_2]); (with_reducible repeat (first | apply Kd.R_alloc | apply Kd.R_drewN | apply Kd.R_drew)); exact HO_6.out⟩, ⟨by repeat (first | (with_reducible first | exact HB.out | apply below_alloc | apply pw_below_drewN | apply below_drew1) | exact HB.out)⟩⟩
                    · rw [if_neg c17] at H
                      exact absurd H (by simp)
                  · rw [if_neg c16] at H
                    exact absurd H (by simp)
                · rw [if_neg c15] at H
                  have c15b0 : decide (x27_2 < (y287.length : Int)) = false := decide_eq_false c15
                  (try (have c15h := c15b0; simp only [hl6_2] at c15h))
                  clear c15
                  by_cases c21 : 0 ≤ a1
                  · rw [if_pos c21] at H
                    have c21b0 : decide (0 ≤ a1) = true := decide_eq_true c21
                    clear c21
                    by_cases c22 : a1 < (x6_2.length : Int)
                    · rw [if_pos c22] at H
                      have c22b0 : decide (a1 < (x6_2.length : Int)) = true := decide_eq_true c22
                      (try (have c22h := c22b0; simp only [hl6_2] at c22h))
                      clear c22
                      obtain ⟨y291, hy291⟩ : ∃ y_ : List Int, y_ = (x6_2.set (a1 : Int).toNat 0) := ⟨_, rfl⟩
                      replace H : (impl_Relay.l1 k2 l0 y291 (([a1] : List Int))) = some (r1, r2) := by first | (rw [hy291]; with_reducible exact H) | (have H2_ := (Option.bind_some _ _).symm.trans H; rw [hy291]; with_reducible exact H2_) | (have H2_ := (Option.bind_some _ _).symm.trans H; with_reducible exact H2_) | with_reducible exact H | (rw [hy291]; exact H) | exact H
                      have Ny291 := Aside0.mk hy291
                      clear hy291
                      obtain ⟨y292, hy292⟩ : ∃ y_ : List Int, y_ = (([a1] : List Int)) := ⟨_, rfl⟩
                      replace H : (impl_Relay.l1 k2 l0 y291 y292) = some (r1, r2) := by first | (rw [hy292]; with_reducible exact H) | (have H2_ := (Option.bind_some _ _).symm.trans H; rw [hy292]; with_reducible exact H2_) | (have H2_ := (Option.bind_some _ _).symm.trans H; with_reducible exact H2_) | with_reducible exact H | (rw [hy292]; exact H) | exact H
                      have Ny292 := Aside0.mk hy292
                      clear hy292
                      have H' := Aside0.mk H
                      clear H
                      have p23 : 0 ≤ (a1 : Int) := of_decide_eq_true (by first | (with_reducible assumption) | assumption)
                      have q23 : (a1 : Int) < ((x6_2.length : Int) : Int) := of_decide_eq_true (by first | (with_reducible assumption) | assumption)
                      obtain ⟨go23, co23, eo23, gb23, gl23, cl23, HG23⟩ := Kd.R_form HO_6.out (by omega)
                      (first | cases eo23 | (injection eo23 with ea_ en_ ec_; (first | subst ea_ | (injection ea_ with ea_; subst ea_)); subst ec_; clear en_))
                      have GB23 := Aside0.mk gb23
                      have GG23 := Aside0.mk HG23
                      clear gb23 gl23 HG23
                      obtain ⟨hx23_0, hf23_0⟩ := Kd.R_celln 0 HO_6.out (a1 : Int) p23 q23
                      replace p23 := eq_true p23
                      replace q23 := eq_true q23
                      have HP24 := Kd.R_putg HO_6.out (a1 : Int) 0
                      go_wp2_with (first | ((with_reducible refine gate_store (t := 3) (p := 36) rfl ?_); refine store_event (t := 3) (p := 36) (v := ?vo_w25) (w1 := (wr.setCell ⟨go23, (a1 : Int).toNat, none⟩ (.int .i64 0))) ?hg ?ho ?hn ?hr ?_; (case ho => rfl); (case hg => rfl); (case hn => rfl); (case hr => first | (go_simp; done) | (go_simp; rfl)); intro w25 hw; have hg : wr.grownBy w25 (some go23) := (by rw [hw]; exact HP24.2); have hp_ : Kd.R (Kd.int .i64) 3 w25 w.heap.size (fun _ => True) (.slice (some ⟨go23, 0, none⟩) x6_2.length co14) y291 := (by rw [hw, Ny291.out]; exact HP24.1); clear HP24; have n0_ := Aside0.mk (hp_); have n1_ := Aside0.mk ((by rw [hw]; exact below_set (HB.out) GB23.out : Below w.heap.size w w25)); clear HO_6; clear HB; have HO_6 := n0_; have HB := n1_; clear n0_ n1_; clear hg hw hp_) | ((with_reducible refine gate_dst (N := 38) rfl ?_); (try (refine gate_guard (by rfl) ?_; dsimp only)); refine Kd.R_lit (Kd.int .i64) _ 3 ?hg (N := 38) ?hd (xs := ([a1] : List Int)) (inner := [.int .i64 a1]) (ok := fun _ => True) (okp := fun _ => True) ?hr ?hp (fun _ hk => hk) trivial (Below.refl _ _) (Nat.le_refl _) (by simp) ?_; (case hd => rfl); (case hg => rfl); (case hr => first | (go_simp; done) | (go_simp; rfl)); (case hp => exact (Reps.one (show Kd.M (Kd.int .i64) _ _ _ a1 [.int .i64 a1] from rfl) (Reps.none _ _))); intro v293 w26 ho27 hb hg_ hnew_; clear hg_ hnew_; (first | rw [← Ny292.out] at ho27 | (simp only [Int.reduceToNat] at ho27; rw [← Ny292.out] at ho27)); have n0_ := Aside0.mk (Kd.R_elder' (by (with_reducible repeat (first | apply Kd.R_alloc | apply Kd.R_drewN | apply Kd.R_drew)); exact HO_6.out) (Kd.R_base ho27) hb); have n1_ := Aside0.mk (Kd.R_lower (Kd.R_new' ho27 (Kd.R_lt (by (with_reducible repeat (first | apply Kd.R_alloc | apply Kd.R_drewN | apply Kd.R_drew)); exact HO_6.out))) (below_size (by repeat (first | (with_reducible first | exact HB.out | apply below_alloc | apply pw_below_drewN | apply below_drew1) | exact HB.out)))); have n2_ := Aside0.mk (below_step (by repeat (first | (with_reducible first | exact HB.out | apply below_alloc | apply pw_below_drewN | apply below_drew1) | exact HB.out)) hb); clear HO_6; clear HB; have HO_6 := n0_; have HO294 := n1_; have HB := n2_; clear n0_ n1_ n2_; clear hb ho27))
                      go_loopg [8] k2 (fun kq v8 w' => ∃ (x6_3 : List Int) (x8_3 : List Int), Aside0 (impl_Relay.l1 kq l0 x6_3 x8_3 = some (r1, r2)) ∧ Aside0 (kq ≤ k2) ∧ Aside0 (Kd.R (Kd.int .i64) 3 w' w.heap.size (fun k_ => some k_ ≠ (v8 : Value).ownBlock) (.slice (some ⟨go23, 0, none⟩) x6_2.length co14) x6_3) ∧ Aside0 (Kd.Q (Kd.int .i64) 3 w' w.heap.size (fun k_ => some k_ ≠ ((.slice (some ⟨go23, 0, none⟩) x6_2.length co14) : Value).ownBlock) v8 x8_3) ∧ Aside0 (Below w.heap.size w w'))
                      case atStart => exact ⟨(y291), (y292), H', ⟨Nat.le_refl _⟩, ⟨by (try simp only [hl6_2]); (with_reducible repeat (first | apply Kd.R_alloc | apply Kd.R_drewN | apply Kd.R_drew)); exact Kd.R_mono HO_6.out (fun _ hk => hk.2)⟩, ⟨Kd.Q_of_R (by (try simp only [hl6_2]); (with_reducible repeat (first | apply Kd.R_alloc | apply Kd.R_drewN | apply Kd.R_drew)); exact Kd.R_mono HO294.out (fun _ hk => hk.2))⟩, ⟨by repeat (first | (with_reducible first | exact HB.out | apply below_alloc | apply pw_below_drewN | apply below_drew1) | exact HB.out)⟩⟩
                      case round =>
                        clear H'
                        try clear c1
                        try clear p1
                        try clear q1
                        try clear hx1
                        try clear c2
                        try clear p2
                        try clear q2
                        try clear hx2
                        try clear hf2
                        try clear c3
                        try clear c5
                        try clear p6
                        try clear c9
                        try clear c10
                        try clear c10b0
                        try clear c10b1
                        try clear c11
                        try clear c11b0
                        try clear c11b1
                        try clear c15
                        try clear c15b0
                        try clear c15h
                        try clear c16
                        try clear c16b0
                        try clear c17
                        try clear c17b0
                        try clear c17h
                        try clear p18
                        try clear q18
                        try clear hx18
                        try clear hf18
                        try clear c21
                        try clear c21b0
                        try clear c22
                        try clear c22b0
                        try clear c22h
                        try clear p23
                        try clear q23
                        try clear hx23
                        try clear hf23
                        try clear hx18_0
                        try clear hx23_0
                        try clear p18
                        try clear p2
                        try clear p23
                        try clear p6
                        try clear q18
                        try clear q23
                        obtain ⟨x6_3, x8_3, HA, HK3, HO_6, HO_8, HB⟩ := hrel
                        have hl6_3 := (Kd.R_reads' HO_6.out).1
                        rw [hl6_3] at HO_6
                        (try simp only [hl6_3])
                        (try simp only [hl6_3] at HO_8)
                        cases gk with
                        | zero => exact absurd HA.out (by simp [impl_Relay.l1])
                        | succ k3 =>
                          have H := HA.out
                          clear HA
                          simp only [impl_Relay.l1] at H
                          by_cases c28 : (x8_3.length : Int) > 0
                          · rw [if_pos c28] at H
                            have c28b0 : decide (0 < (x8_3.length : Int)) = true := decide_eq_true c28
                            have c28b1 : decide (0 < x8_3.length) = true := decide_eq_true (by omega)
                            (try (have c28h := c28b0; simp only [hl6_2, hl6_3] at c28h))
                            clear c28
                            by_cases c29 : 0 < (x8_3.length : Int)
                            · rw [if_pos c29] at H
                              have c29b0 : decide (0 < (x8_3.length : Int)) = true := decide_eq_true c29
                              have c29b1 : decide (0 < x8_3.length) = true := decide_eq_true (by omega)
                              (try (have c29h := c29b0; simp only [hl6_2, hl6_3] at c29h))
                              clear c29
                              by_cases c30 : 0 ≤ (rd x8_3 0)
                              · rw [if_pos c30] at H
                                have c30b0 : decide (0 ≤ (rd x8_3 0)) = true := decide_eq_true c30
                                clear c30
                                by_cases c31 : (rd x8_3 0) < (l0.length : Int)
                                · rw [if_pos c31] at H
                                  have c31b0 : decide ((rd x8_3 0) < (l0.length : Int)) = true := decide_eq_true c31
                                  (try (have c31h := c31b0; simp only [hl6_2, hl6_3] at c31h))
                                  clear c31
                                  have H' := Aside0.mk H
                                  clear H
                                  obtain ⟨Ao32, co32, eo32, _⟩ := Kd.Q_slice HO_8.out
                                  subst eo32
                                  have p295 : 0 ≤ (0 : Int) := (by omega)
                                  have q295 : 0 < (x8_3.length : Int) := of_decide_eq_true (by first | (with_reducible assumption) | assumption)
                                  obtain ⟨ad295, e295, hx295_0⟩ := Kd.at_int (Kd.Q_reads' HO_8.out).2.2 0 p295 q295
                                  cases e295
                                  have qi295 : (0 < x8_3.length) = True := eq_true (by omega)
                                  (try rw [show ((0 : Int)).toNat = 0 from rfl] at hx295_0)
                                  (try rw [Addr.add_zero'] at hx295_0)
                                  replace p295 := eq_true p295
                                  replace q295 := eq_true q295
                                  have p296 : 0 ≤ ((rd x8_3 0) : Int) := of_decide_eq_true (by first | (with_reducible assumption) | assumption)
                                  have q296 : (rd x8_3 0) < (l0.length : Int) := of_decide_eq_true (by first | (with_reducible assumption) | assumption)
                                  obtain ⟨ad296, A296_2, c296_2, e296, hx296_0, hx296_1, hx296_2, hl296_2, hi296_2⟩ := at_T58 HR0.out (rd x8_3 0) p296 q296
                                  cases e296
                                  replace hx296_0 := (HB.out.cell (World.block_lt_of_cell? w _ hx296_0)).trans hx296_0
                                  replace hx296_1 := (HB.out.cell (World.block_lt_of_cell? w _ hx296_1)).trans hx296_1
                                  replace hx296_2 := (HB.out.cell (World.block_lt_of_cell? w _ hx296_2)).trans hx296_2
                                  have HR296_2 := Aside0.mk hi296_2
                                  have HC296_2 := Aside0.mk hl296_2
                                  clear hi296_2 hl296_2
                                  replace p296 := eq_true p296
                                  replace q296 := eq_true q296
                                  go_wp2
                                  go_loopg [8, 52] k3 (fun kq v8 v52 w' => ∃ (x6_4 : List Int) (x8_4 : List Int) (x52_4 : Int), v52 = .int .i64 x52_4 ∧ Aside0 (impl_Relay.l2 kq l0 x6_4 x8_4 ((rd_T58 l0 (rd x8_3 0)).f2) (((rd_T58 l0 (rd x8_3 0)).f2).length : Int) x52_4 = some (r1, r2)) ∧ Aside0 (kq ≤ k3) ∧ Aside0 (Kd.R (Kd.int .i64) 3 w' w.heap.size (fun k_ => some k_ ≠ (v8 : Value).ownBlock) (.slice (some ⟨go23, 0, none⟩) x6_3.length co14) x6_4) ∧ Aside0 (Kd.Q (Kd.int .i64) 3 w' w.heap.size (fun k_ => some k_ ≠ ((.slice (some ⟨go23, 0, none⟩) x6_3.length co14) : Value).ownBlock) v8 x8_4) ∧ Aside0 (Below w.heap.size w w'))
                                  case atStart => exact ⟨(x6_3), (x8_3), (0), (by first | rfl | (simp; done) | (simp [*]; done) | (simp [wrap64]; done)), H', ⟨Nat.le_refl _⟩, ⟨by (try simp only [hl6_2]); (try simp only [hl6_3]); (with_reducible repeat (first | apply Kd.R_alloc | apply Kd.R_drewN | apply Kd.R_drew)); exact HO_6.out⟩, ⟨by (try simp only [hl6_2]); (try simp only [hl6_3]); (with_reducible repeat (first | apply Kd.Q_alloc | apply Kd.Q_drewN | apply Kd.Q_drew)); exact HO_8.out⟩, ⟨by repeat (first | (with_reducible first | exact HB.out | apply below_alloc | apply pw_below_drewN | apply below_drew1) | exact HB.out)⟩⟩
                                  case round =>
                                    clear H'
                                    try clear c1
                                    try clear p1
                                    try clear q1
                                    try clear hx1
                                    try clear c2
                                    try clear p2
                                    try clear q2
                                    try clear hx2
                                    try clear qi2
                                    try clear hf2
                                    try clear c3
                                    try clear c5
                                    try clear p6
                                    try clear c9
                                    try clear c10
                                    try clear c10b0
                                    try clear c10b1
                                    try clear c11
                                    try clear c11b0
                                    try clear c11b1
                                    try clear c15
                                    try clear c15b0
                                    try clear c15h
                                    try clear c16
                                    try clear c16b0
                                    try clear c17
                                    try clear c17b0
                                    try clear c17h
                                    try clear p18
                                    try clear q18
                                    try clear hx18
                                    try clear hf18
                                    try clear c21
                                    try clear c21b0
                                    try clear c22
                                    try clear c22b0
                                    try clear c22h
                                    try clear p23
                                    try clear q23
                                    try clear hx23
                                    try clear hf23
                                    try clear c28
                                    try clear c28b0
                                    try clear c28b1
                                    try clear c28h
                                    try clear c29
                                    try clear c29b0
                                    try clear c29b1
                                    try clear c29h
                                    try clear p29
                                    try clear q29
                                    try clear hx29
                                    try clear qi29
                                    try clear c30
                                    try clear c30b0
                                    try clear c31
                                    try clear c31b0
                                    try clear c31h
                                    try clear hx18_0
                                    try clear hx23_0
                                    try clear hx295_0
                                    try clear hx296_0
                                    try clear hx296_1
                                    try clear hx296_2
                                    try clear p1
                                    try clear p18
                                    try clear p2
                                    try clear p23
                                    try clear p295
                                    try clear p296
                                    try clear p6
                                    try clear q1
                                    try clear q18
                                    try clear q2
                                    try clear q23
                                    try clear q295
                                    try clear q296
                                    obtain ⟨x6_4, x8_4, x52_4, rfl, HA, HK4, HO_6, HO_8, HB⟩ := hrel
                                    have hl6_4 := (Kd.R_reads' HO_6.out).1
                                    rw [hl6_4] at HO_6
                                    (try simp only [hl6_4])
                                    (try simp only [hl6_4] at HO_8)
                                    cases gk with
                                    | zero => exact absurd HA.out (by simp [impl_Relay.l2])
                                    | succ k4 =>
                                      have H := HA.out
                                      clear HA
                                      simp only [impl_Relay.l2] at H
                                      by_cases c33 : x52_4 < (((rd_T58 l0 (rd x8_3 0)).f2).length : Int)
                                      · rw [if_pos c33] at H
                                        have c33b0 : decide (x52_4 < (((rd_T58 l0 (rd x8_3 0)).f2).length : Int)) = true := decide_eq_true c33
                                        (try (have c33h := c33b0; simp only [hl6_2, hl6_3, hl6_4] at c33h))
                                        clear c33
                                        by_cases c34 : 0 ≤ x52_4
                                        · rw [if_pos c34] at H
                                          have c34b0 : decide (0 ≤ x52_4) = true := decide_eq_true c34
                                          clear c34
                                          by_cases c35 : x52_4 < (((rd_T58 l0 (rd x8_3 0)).f2).length : Int)
                                          · rw [if_pos c35] at H
                                            have c35b0 : decide (x52_4 < (((rd_T58 l0 (rd x8_3 0)).f2).length : Int)) = true := decide_eq_true c35
                                            (try (have c35h := c35b0; simp only [hl6_2, hl6_3, hl6_4] at c35h))
                                            clear c35
                                            by_cases c36 : 0 ≤ (rd ((rd_T58 l0 (rd x8_3 0)).f2) x52_4)
                                            · rw [if_pos c36] at H
                                              have c36b0 : decide (0 ≤ (rd ((rd_T58 l0 (rd x8_3 0)).f2) x52_4)) = true := decide_eq_true c36
                                              clear c36
                                              by_cases c37 : (rd ((rd_T58 l0 (rd x8_3 0)).f2) x52_4) < (x6_4.length : Int)
                                              · rw [if_pos c37] at H
                                                have c37b0 : decide ((rd ((rd_T58 l0 (rd x8_3 0)).f2) x52_4) < (x6_4.length : Int)) = true := decide_eq_true c37
                                                (try (have c37h := c37b0; simp only [hl6_2, hl6_3, hl6_4] at c37h))
                                                clear c37
                                                by_cases c38 : (rd x6_4 (rd ((rd_T58 l0 (rd x8_3 0)).f2) x52_4)) < 0
                                                · rw [if_pos c38] at H
                                                  have c38b0 : decide ((rd x6_4 (rd ((rd_T58 l0 (rd x8_3 0)).f2) x52_4)) < 0) = true := decide_eq_true c38
                                                  clear c38
                                                  by_cases c39 : 0 < (x8_4.length : Int)
                                                  · rw [if_pos c39] at H
                                                    have c39b0 : decide (0 < (x8_4.length : Int)) = true := decide_eq_true c39
                                                    have c39b1 : decide (0 < x8_4.length) = true := decide_eq_true (by omega)
                                                    (try (have c39h := c39b0; simp only [hl6_2, hl6_3, hl6_4] at c39h))
                                                    clear c39
                                                    by_cases c40 : 0 ≤ (rd x8_4 0)
                                                    · rw [if_pos c40] at H
                                                      have c40b0 : decide (0 ≤ (rd x8_4 0)) = true := decide_eq_true c40
                                                      clear c40
                                                      by_cases c41 : (rd x8_4 0) < (x6_4.length : Int)
                                                      · rw [if_pos c41] at H
                                                        have c41b0 : decide ((rd x8_4 0) < (x6_4.length : Int)) = true := decide_eq_true c41
                                                        (try (have c41h := c41b0; simp only [hl6_2, hl6_3, hl6_4] at c41h))
                                                        clear c41
                                                        obtain ⟨y301, hy301⟩ : ∃ y_ : List Int, y_ = (x6_4.set ((rd ((rd_T58 l0 (rd x8_3 0)).f2) x52_4) : Int).toNat (wrap64 ((rd x6_4 (rd x8_4 0)) + 1))) := ⟨_, rfl⟩
                                                        replace H : (if x8_4.length < 17592186044416 then (impl_Relay.l2 k4 l0 y301 (x8_4 ++ [rd ((rd_T58 l0 (rd x8_3 0)).f2) x52_4]) ((rd_T58 l0 (rd x8_3 0)).f2) (((rd_T58 l0 (rd x8_3 0)).f2).length : Int) (wrap64 (x52_4 + 1))) else (none)) = some (r1, r2) := by first | (rw [hy301]; with_reducible exact H) | (have H2_ := (Option.bind_some _ _).symm.trans H; rw [hy301]; with_reducible exact H2_) | (have H2_ := (Option.bind_some _ _).symm.trans H; with_reducible exact H2_) | with_reducible exact H | (rw [hy301]; exact H) | exact H
                                                        have Ny301 := Aside0.mk hy301
                                                        clear hy301
                                                        by_cases c43 : x8_4.length < 17592186044416
                                                        · rw [if_pos c43] at H
                                                          have LMc43 := Aside0.mk c43
                                                          clear c43
                                                          obtain ⟨y302, hy302⟩ : ∃ y_ : List Int, y_ = (x8_4 ++ [rd ((rd_T58 l0 (rd x8_3 0)).f2) x52_4]) := ⟨_, rfl⟩
                                                          replace H : (impl_Relay.l2 k4 l0 y301 y302 ((rd_T58 l0 (rd x8_3 0)).f2) (((rd_T58 l0 (rd x8_3 0)).f2).length : Int) (wrap64 (x52_4 + 1))) = some (r1, r2) := by first | (rw [hy302]; with_reducible exact H) | (have H2_ := (Option.bind_some _ _).symm.trans H; rw [hy302]; with_reducible exact H2_) | (have H2_ := (Option.bind_some _ _).symm.trans H; with_reducible exact H2_) | with_reducible exact H | (rw [hy302]; exact H) | exact H
                                                          have Ny302 := Aside0.mk hy302
                                                          clear hy302
                                                          have H' := Aside0.mk H
                                                          clear H
                                                          have p297 : 0 ≤ (x52_4 : Int) := of_decide_eq_true (by first | (with_reducible assumption) | assumption)
                                                          have q297 : x52_4 < (((rd_T58 l0 (rd x8_3 0)).f2).length : Int) := of_decide_eq_true (by first | (with_reducible assumption) | assumption)
                                                          obtain ⟨ad297, e297, hx297_0⟩ := Kd.at_int HR296_2.out x52_4 p297 q297
                                                          cases e297
                                                          replace hx297_0 := (HB.out.cell (World.block_lt_of_cell? w _ hx297_0)).trans hx297_0
                                                          replace p297 := eq_true p297
                                                          replace q297 := eq_true q297
                                                          have p298 : 0 ≤ ((rd ((rd_T58 l0 (rd x8_3 0)).f2) x52_4) : Int) := of_decide_eq_true (by first | (with_reducible assumption) | assumption)
                                                          have q298 : (rd ((rd_T58 l0 (rd x8_3 0)).f2) x52_4) < (x6_4.length : Int) := of_decide_eq_true (by first | (with_reducible assumption) | assumption)
                                                          obtain ⟨ad298, e298, hx298_0⟩ := Kd.at_int (Kd.R_reads' HO_6.out).2.2 (rd ((rd_T58 l0 (rd x8_3 0)).f2) x52_4) p298 q298
                                                          obtain rfl : (⟨go23, 0, none⟩ : Addr) = ad298 := (by injection e298)
                                                          (first | simp only [add_plain] at hx298_0 | simp only [add_at] at hx298_0 | simp only [Addr.add, Nat.zero_add] at hx298_0 | skip)
                                                          replace p298 := eq_true p298
                                                          replace q298 := eq_true q298
                                                          obtain ⟨Ao44, co44, eo44, _⟩ := Kd.Q_slice HO_8.out
                                                          subst eo44
                                                          have p299 : 0 ≤ (0 : Int) := (by omega)
                                                          have q299 : 0 < (x8_4.length : Int) := of_decide_eq_true (by first | (with_reducible assumption) | assumption)
                                                          obtain ⟨ad299, e299, hx299_0⟩ := Kd.at_int (Kd.Q_reads' HO_8.out).2.2 0 p299 q299
                                                          cases e299
                                                          have qi299 : (0 < x8_4.length) = True := eq_true (by omega)
                                                          (try rw [show ((0 : Int)).toNat = 0 from rfl] at hx299_0)
                                                          (try rw [Addr.add_zero'] at hx299_0)
                                                          replace p299 := eq_true p299
                                                          replace q299 := eq_true q299
                                                          have p300 : 0 ≤ ((rd x8_4 0) : Int) := of_decide_eq_true (by first | (with_reducible assumption) | assumption)
                                                          have q300 : (rd x8_4 0) < (x6_4.length : Int) := of_decide_eq_true (by first | (with_reducible assumption) | assumption)
                                                          obtain ⟨ad300, e300, hx300_0⟩ := Kd.at_int (Kd.R_reads' HO_6.out).2.2 (rd x8_4 0) p300 q300
                                                          obtain rfl : (⟨go23, 0, none⟩ : Addr) = ad300 := (by injection e300)
                                                          (first | simp only [add_plain] at hx300_0 | simp only [add_at] at hx300_0 | simp only [Addr.add, Nat.zero_add] at hx300_0 | skip)
                                                          replace p300 := eq_true p300
                                                          replace q300 := eq_true q300
                                                          have p42 : 0 ≤ ((rd ((rd_T58 l0 (rd x8_3 0)).f2) x52_4) : Int) := of_decide_eq_true (by first | (with_reducible assumption) | assumption)
                                                          have q42 : ((rd ((rd_T58 l0 (rd x8_3 0)).f2) x52_4) : Int) < ((x6_4.length : Int) : Int) := of_decide_eq_true (by first | (with_reducible assumption) | assumption)
                                                          obtain ⟨hx42_0, hf42_0⟩ := Kd.R_celln 0 HO_6.out ((rd ((rd_T58 l0 (rd x8_3 0)).f2) x52_4) : Int) p42 q42
                                                          replace p42 := eq_true p42
                                                          replace q42 := eq_true q42
                                                          have HP45 := Kd.R_putg HO_6.out ((rd ((rd_T58 l0 (rd x8_3 0)).f2) x52_4) : Int) (wrap64 ((rd x6_4 (rd x8_4 0)) + 1))
                                                          go_wp2_with (first | ((with_reducible refine gate_store (t := 3) (p := 70) rfl ?_); refine store_event (t := 3) (p := 70) (v := ?vo_w46) (w1 := (wr.setCell ⟨go23, ((rd ((rd_T58 l0 (rd x8_3 0)).f2) x52_4) : Int).toNat, none⟩ (.int .i64 (wrap64 ((rd x6_4 (rd x8_4 0)) + 1))))) ?hg ?ho ?hn ?hr ?_; (case ho => rfl); (case hg => rfl); (case hn => rfl); (case hr => first | (go_simp; done) | (go_simp; rfl)); intro w46 hw; have hg : wr.grownBy w46 (some go23) := (by rw [hw]; exact HP45.2); have hp_ : Kd.R (Kd.int .i64) 3 w46 w.heap.size (fun k_ => some k_ ≠ (.slice (some ad299) x8_4.length co44 : Value).ownBlock) (.slice (some ⟨go23, 0, none⟩) x6_4.length co14) y301 := (by rw [hw, Ny301.out]; exact HP45.1); clear HP45; have n0_ := Aside0.mk (hp_); have n1_ := Aside0.mk (Kd.Q_after (v := (.slice (some ⟨go23, 0, none⟩) x6_4.length co14)) (v1 := (.slice (some ⟨go23, 0, none⟩) x6_4.length co14)) (ok := (fun _ => True)) (by (with_reducible repeat (first | apply Kd.Q_alloc | apply Kd.Q_drewN | apply Kd.Q_drew)); exact Kd.Q_mono HO_8.out (fun _ hk => ⟨trivial, hk⟩)) hg (.inl rfl)); have n2_ := Aside0.mk ((by rw [hw]; exact below_set (HB.out) GB23.out : Below w.heap.size w w46)); clear HO_6; clear HO_8; clear HB; have HO_6 := n0_; have HO_8 := n1_; have HB := n2_; clear n0_ n1_ n2_; clear hg hw hp_) | ((with_reducible refine gate_builtin (b := .append) (xs := #[.tmp 71, .tmp 73]) rfl ?_); (try (refine gate_guard (by rfl) ?_; dsimp only)); at_builtin; refine Kd.Q_append (Kd.int .i64) (w0 := w) w.heap.size rfl (.tmp 71) (.tmp 73) 47 3 (.int .i64 0) 8 rfl Try.underlying47 info3 rfl (by decide) (by omega) (.slice (some ad299) x8_4.length co44) x8_4 (rd ((rd_T58 l0 (rd x8_3 0)).f2) x52_4) [.int .i64 (rd ((rd_T58 l0 (rd x8_3 0)).f2) x52_4)] (fun k_ => some k_ ≠ (.slice (some ⟨go23, 0, none⟩) x6_4.length co14 : Value).ownBlock) (fun _ => False) rfl rfl ?aP (fun _ hk => hk.elim) ?aF ?aO ?aB ?aS ?aL ?_; (case aP => exact rfl); (case aB => exact (by repeat (first | (with_reducible first | exact HB.out | apply below_alloc | apply pw_below_drewN | apply below_drew1) | exact HB.out))); (case aF => exact (fun k_ hk => Kd.fresh' (Kd.R_lt (by (with_reducible repeat (first | apply Kd.R_alloc | apply Kd.R_drewN | apply Kd.R_drew)); exact HO_6.out)) k_ hk)); (case aO => exact (by (with_reducible repeat (first | apply Kd.Q_alloc | apply Kd.Q_drewN | apply Kd.Q_drew)); exact Kd.Q_mono HO_8.out (fun _ hk => hk.2))); (case aS => exact (below_size (by repeat (first | (with_reducible first | exact HB.out | apply below_alloc | apply pw_below_drewN | apply below_drew1) | exact HB.out)))); (case aL => have := LMc43.out; omega); intro v303 w47 ho hb hg hat; rw [← Ny302.out] at ho; have n0_ := Aside0.mk (Kd.R_after (ok := (fun _ => True)) (by (with_reducible repeat (first | apply Kd.R_alloc | apply Kd.R_drewN | apply Kd.R_drew)); exact Kd.R_mono HO_6.out (fun _ hk => ⟨trivial, hk⟩)) hg hat); have n1_ := Aside0.mk (hb); have n2_ := Aside0.mk (ho); clear HO_6; clear HB; clear HO_8; have HO_6 := n0_; have HB := n1_; have HO304 := n2_; clear n0_ n1_ n2_; clear ho hb hg hat))
                                                          (try simp only [← hl6_4])
                                                          (first | go_roundg k4 | (refine Handed.intro k4 ?measure ?_; rotate_left; go_step; (repeat apply Exists.intro); simp only [add_plain]; refine ⟨?rel, rfl⟩))
                                                          case measure => have := HJ2.out; have := HK2.out; have := HK3.out; have := HK4.out; omega
                                                          case rel => exact ⟨(y301), (y302), (wrap64 (x52_4 + 1)), (by first | rfl | (simp; done) | (simp [*]; done) | (simp [wrap64]; done)), H', ⟨by have := HJ2.out; have := HK2.out; have := HK3.out; have := HK4.out; omega⟩, ⟨by (try simp only [hl6_2]); (try simp only [hl6_3]); (try simp only [hl6_4]); (with_reducible repeat (first | apply Kd.R_alloc | apply Kd.R_drewN | apply Kd.R_drew)); exact Kd.R_mono HO_6.out (fun _ hk => hk.2)⟩, ⟨by (try simp only [hl6_2]); (try simp only [hl6_3]); (try simp only [hl6_4]); (with_reducible repeat (first | apply Kd.Q_alloc | apply Kd.Q_drewN | apply Kd.Q_drew)); exact HO304.out⟩, ⟨by repeat (first | (with_reducible first | exact HB.out | apply below_alloc | apply pw_below_drewN | apply below_drew1) | exact HB.out)⟩⟩
                                                        · rw [if_neg c43] at H
                                                          exact absurd H (by simp)
                                                      · rw [if_neg c41] at H
                                                        exact absurd H (by simp)
                                                    · rw [if_neg c40] at H
                                                      exact absurd H (by simp)
                                                  · rw [if_neg c39] at H
                                                    exact absurd H (by simp)
                                                · rw [if_neg c38] at H
                                                  have c38b0 : decide ((rd x6_4 (rd ((rd_T58 l0 (rd x8_3 0)).f2) x52_4)) < 0) = false := decide_eq_false c38
                                                  clear c38
                                                  have H' := Aside0.mk H
                                                  clear H
                                                  have p297 : 0 ≤ (x52_4 : Int) := of_decide_eq_true (by first | (with_reducible assumption) | assumption)
                                                  have q297 : x52_4 < (((rd_T58 l0 (rd x8_3 0)).f2).length : Int) := of_decide_eq_true (by first | (with_reducible assumption) | assumption)
                                                  obtain ⟨ad297, e297, hx297_0⟩ := Kd.at_int HR296_2.out x52_4 p297 q297
                                                  cases e297
                                                  replace hx297_0 := (HB.out.cell (World.block_lt_of_cell? w _ hx297_0)).trans hx297_0
                                                  replace p297 := eq_true p297
                                                  replace q297 := eq_true q297
                                                  have p298 : 0 ≤ ((rd ((rd_T58 l0 (rd x8_3 0)).f2) x52_4) : Int) := of_decide_eq_true (by first | (with_reducible assumption) | assumption)
                                                  have q298 : (rd ((rd_T58 l0 (rd x8_3 0)).f2) x52_4) < (x6_4.length : Int) := of_decide_eq_true (by first | (with_reducible assumption) | assumption)
                                                  obtain ⟨ad298, e298, hx298_0⟩ := Kd.at_int (Kd.R_reads' HO_6.out).2.2 (rd ((rd_T58 l0 (rd x8_3 0)).f2) x52_4) p298 q298
                                                  obtain rfl : (⟨go23, 0, none⟩ : Addr) = ad298 := (by injection e298)
                                                  (first | simp only [add_plain] at hx298_0 | simp only [add_at] at hx298_0 | simp only [Addr.add, Nat.zero_add] at hx298_0 | skip)
                                                  replace p298 := eq_true p298
                                                  replace q298 := eq_true q298
                                                  go_wp2
                                                  (try simp only [← hl6_4])
                                                  (first | go_roundg k4 | (refine Handed.intro k4 ?measure ?_; rotate_left; go_step; (repeat apply Exists.intro); simp only [add_plain]; refine ⟨?rel, rfl⟩))
                                                  case measure => have := HJ2.out; have := HK2.out; have := HK3.out; have := HK4.out; omega
                                                  case rel => exact ⟨(x6_4), (x8_4), (wrap64 (x52_4 + 1)), (by first | rfl | (simp; done) | (simp [*]; done) | (simp [wrap64]; done)), H', ⟨by have := HJ2.out; have := HK2.out; have := HK3.out; have := HK4.out; omega⟩, ⟨by (try simp only [hl6_2]); (try simp only [hl6_3]); (try simp only [hl6_4]); (with_reducible repeat (first | apply Kd.R_alloc | apply Kd.R_drewN | apply Kd.R_drew)); exact HO_6.out⟩, ⟨by (try simp only [hl6_2]); (try simp only [hl6_3]); (try simp only [hl6_4]); (with_reducible repeat (first | apply Kd.Q_alloc | apply Kd.Q_drewN | apply Kd.Q_drew)); exact HO_8.out⟩, ⟨by repeat (first | (with_reducible first | exact HB.out | apply below_alloc | apply pw_below_drewN | apply below_drew1) | exact HB.out)⟩⟩
                                              · rw [if_neg c37] at H
                                                exact absurd H (by simp)
                                            · rw [if_neg c36] at H
                                              exact absurd H (by simp)
                                          · rw [if_neg c35] at H
                                            exact absurd H (by simp)
                                        · rw [if_neg c34] at H
                                          exact absurd H (by simp)
                                      · rw [if_neg c33] at H
                                        have c33b0 : decide (x52_4 < (((rd_T58 l0 (rd x8_3 0)).f2).length : Int)) = false := decide_eq_false c33
                                        (try (have c33h := c33b0; simp only [hl6_2, hl6_3, hl6_4] at c33h))
                                        clear c33
                                        by_cases c48 : 1 ≤ (x8_4.length : Int)
                                        · rw [if_pos c48] at H
                                          have c48b0 := eq_true c48
                                          have c48b1 : decide (1 ≤ (x8_4.length : Int)) = true := decide_eq_true c48
                                          clear c48
                                          obtain ⟨y305, hy305⟩ : ∃ y_ : List Int, y_ = (x8_4.drop (1 : Int).toNat) := ⟨_, rfl⟩
                                          replace H : (impl_Relay.l1 k4 l0 x6_4 y305) = some (r1, r2) := by first | (rw [hy305]; with_reducible exact H) | (have H2_ := (Option.bind_some _ _).symm.trans H; rw [hy305]; with_reducible exact H2_) | (have H2_ := (Option.bind_some _ _).symm.trans H; with_reducible exact H2_) | with_reducible exact H | (rw [hy305]; exact H) | exact H
                                          have Ny305 := Aside0.mk hy305
                                          clear hy305
                                          have H' := Aside0.mk H
                                          clear H
                                          obtain ⟨Ao49, co49, eo49, _⟩ := Kd.Q_slice HO_8.out
                                          subst eo49
                                          have q50 : (1 : Int) ≤ ((x8_4.length : Int) : Int) := of_decide_eq_true (by first | (with_reducible assumption) | assumption)
                                          obtain ⟨i050, hi050, _, hsz50, _⟩ := info_parts info3
                                          have hcut50 := cut_from (P := Try.prog) 47 3 .i64 Try.underlying47 hi050 1 hsz50 Ao49 x8_4.length co49 1 (by omega) q50
                                          have hr50 := Kd.Q_drop (k := (1 : Int).toNat) HO_8.out (by omega)
                                          obtain ⟨A50, hA50⟩ : ∃ A1, A1 = (if co49 = (1 : Int).toNat then Ao49 else (Ao49 : Option Addr).map (·.add ((1 : Int).toNat * 1))) := ⟨_, rfl⟩
                                          obtain ⟨c50, hc50⟩ : ∃ c1, c1 = co49 - (1 : Int).toNat := ⟨_, rfl⟩
                                          have hy50 : y305.length = x8_4.length - (1 : Int).toNat := (by rw [Ny305.out, List.length_drop])
                                          rw [← Ny305.out] at hr50
                                          rw [← hy50, ← hA50, ← hc50] at hcut50
                                          replace hr50 : Kd.Q (Kd.int .i64) 3 wr w.heap.size (fun k_ => some k_ ≠ (.slice (some ⟨go23, 0, none⟩) x6_4.length co14 : Value).ownBlock) (.slice A50 y305.length c50) y305 := (by rw [hA50, hc50, hy50]; exact hr50)
                                          have HE50 : Aside0 ((Value.slice A50 y305.length c50).ownBlock = (.slice Ao49 x8_4.length co49 : Value).ownBlock) := ⟨by rw [hA50]; split <;> (cases (Ao49 : Option Addr) <;> rfl)⟩
                                          clear hy50 hi050 hsz50 HO_8 hA50 hc50
                                          have HO307 := Aside0.mk hr50
                                          clear hr50
                                          replace q50 := eq_true q50
                                          have n_ := Aside0.mk (Kd.R_mono (ok' := fun k_ => some k_ ≠ (.slice A50 y305.length c50 : Value).ownBlock) HO_6.out (fun k_ hk => (by rw [HE50.out]; exact hk)))
                                          clear HO_6
                                          have HO_6 := n_
                                          clear n_
                                          go_wp2
                                          (try simp only [← hl6_3, ← hl6_4])
                                          (first | go_roundg k4 | (refine Handed.intro k4 ?measure ?_; rotate_left; go_step; (repeat apply Exists.intro); simp only [add_plain]; refine ⟨?rel, rfl⟩))
                                          case measure => have := HJ2.out; have := HK2.out; have := HK3.out; have := HK4.out; omega
                                          case rel => exact ⟨(x6_4), (y305), H', ⟨by have := HJ2.out; have := HK2.out; have := HK3.out; have := HK4.out; omega⟩, ⟨by (try simp only [hl6_2]); (try simp only [hl6_3]); (try simp only [hl6_4]); (with_reducible repeat (first | apply Kd.R_alloc | apply Kd.R_drewN | apply Kd.R_drew)); exact HO_6.out⟩, ⟨by (try simp only [hl6_2]); (try simp only [hl6_3]); (try simp only [hl6_4]); (with_reducible repeat (first | apply Kd.Q_alloc | apply Kd.Q_drewN | apply Kd.Q_drew)); exact HO307.out⟩, ⟨by repeat (first | (with_reducible first | exact HB.out | apply below_alloc | apply pw_below_drewN | apply below_drew1) | exact HB.out)⟩⟩
                                        · rw [if_neg c48] at H
                                          exact absurd H (by simp)
                                · rw [if_neg c31] at H
                                  exact absurd H (by simp)
                              · rw [if_neg c30] at H
                                exact absurd H (by simp)
                            · rw [if_neg c29] at H
                              exact absurd H (by simp)
                          · rw [if_neg c28] at H
                            have c28b0 : decide (0 < (x8_3.length : Int)) = false := decide_eq_false c28
                            have c28b1 : decide (0 < x8_3.length) = false := decide_eq_false (by omega)
                            (try (have c28h := c28b0; simp only [hl6_2, hl6_3] at c28h))
                            clear c28
                            simp only [Option.some.injEq, Prod.mk.injEq] at H
                            obtain ⟨rfl, rfl⟩ := H
                            obtain ⟨Ao51, co51, eo51, _⟩ := Kd.Q_slice HO_8.out
                            subst eo51
                            go_wp2
                            go_ret2
                            exact ⟨_, by first | rfl | (simp [errW_none, errW_some] <;> rfl) | (simp [*, errW_none, errW_some] <;> rfl), by (with_reducible repeat (first | apply Kd.R_alloc | apply Kd.R_drewN | apply Kd.R_drew)); exact Kd.R_mono HO_6.out (fun _ hk => trivial), by repeat (first | (with_reducible first | exact HB.out | apply below_alloc | apply pw_below_drewN | apply below_drew1) | exact HB.out)⟩
                    · rw [if_neg c22] at H
                      exact absurd H (by simp)
                  · rw [if_neg c21] at H
                    exact absurd H (by simp)
          · rw [if_neg c11] at H
            exact absurd H (by simp)
        · rw [if_neg c10] at H
          exact absurd H (by simp)

/-! ### laws_within: function 32 -/
def laws_within.l0 : Nat → List Int → Int → Int → Option (Bool)
  | 0, _, _, _ => none
  | k + 1, x0, x1, x5 => if x5 < (x0.length : Int) then (if 0 ≤ x5 then (if (rd x0 x5) = x1 then (some true) else (laws_within.l0 k x0 x1 (wrap64 (x5 + 1)))) else (none)) else (some false)
def laws_within.f (k : Nat) (l0 : List Int) (a1 : Int) : Option (Bool) := laws_within.l0 k l0 a1 0
theorem laws_within.mono_l : ∀ k, (∀ y0 y1 y2, LeO (laws_within.l0 k y0 y1 y2) (laws_within.l0 (k + 1) y0 y1 y2))
  | 0 => fun _ _ _ r h => by simp [laws_within.l0] at h
  | k + 1 => by
    have ih0 := laws_within.mono_l k
    · intro y0 y1 y2
      unfold laws_within.l0
      repeat' first
      | (with_reducible exact ih0 _ _ _)
      | (with_reducible exact LeO.refl _)
      | (with_reducible exact LeO.none _)
      | (with_reducible refine LeO.ite ?_ ?_)
      | (with_reducible refine LeO.bind ?_ (fun _ => ?_))
      | exact ih0 _ _ _
      | exact LeO.none _
      | refine LeO.ite ?_ ?_
      | refine LeO.bind ?_ (fun _ => ?_)
theorem laws_within.mono : ∀ a0 a1 k, LeO (laws_within.f k a0 a1) (laws_within.f (k + 1) a0 a1) := by
  intro a0 a1 k
  have ih0 := laws_within.mono_l k
  unfold laws_within.f
  repeat' first
      | (with_reducible exact ih0 _ _ _)
      | (with_reducible exact LeO.refl _)
      | (with_reducible exact LeO.none _)
      | (with_reducible refine LeO.ite ?_ ?_)
      | (with_reducible refine LeO.bind ?_ (fun _ => ?_))
      | exact ih0 _ _ _
      | exact LeO.none _
      | refine LeO.ite ?_ ?_
      | refine LeO.bind ?_ (fun _ => ?_)
set_option maxHeartbeats 8000000 in
set_option maxRecDepth 100000 in
theorem laws_within.calls (k : Nat) (A0 : Option Addr) (c0 : Nat) (l0 : List Int) (a1 : Int) (r : Bool) (w : World) (hr0 : Kd.C (Kd.int .i64) w A0 l0.length l0) (hc0 : l0.length ≤ c0) (h : laws_within.f k l0 a1 = some r) :
    Calls Try.prog 32 #[.slice A0 l0.length c0, .int .i64 a1] w fun e w' => e = .returned (.bool r) ∧ Drawn0 w w' := by
  have HR0 := Aside0.mk hr0
  have HC0 := Aside0.mk hc0
  clear hr0 hc0
  have H : (laws_within.l0 k l0 a1 0) = some r := h
  clear h
  have H' := Aside0.mk H
  clear H
  go_enter Try.func32, Try.ntmps32
  go_wp2
  go_loopg [5] k (fun kq v5 w' => ∃ (x5_1 : Int), v5 = .int .i64 x5_1 ∧ Aside0 (laws_within.l0 kq l0 a1 x5_1 = some r) ∧ Aside0 (kq ≤ k) ∧ Drawn0 w w')
  case atStart => exact ⟨(0), (by first | rfl | (simp; done) | (simp [*]; done) | (simp [wrap64]; done)), H', ⟨Nat.le_refl _⟩, by repeat (first | exact Drawn0.refl _ | apply Drawn0.step)⟩
  case round =>
    clear H'
    try clear p2
    obtain ⟨x5_1, rfl, HA, HK1, ⟨m1, rfl⟩⟩ := hrel
    cases gk with
    | zero => exact absurd HA.out (by simp [laws_within.l0])
    | succ k1 =>
      have H := HA.out
      clear HA
      simp only [laws_within.l0] at H
      by_cases c3 : x5_1 < (l0.length : Int)
      · rw [if_pos c3] at H
        have c3b0 : decide (x5_1 < (l0.length : Int)) = true := decide_eq_true c3
        clear c3
        by_cases c4 : 0 ≤ x5_1
        · rw [if_pos c4] at H
          have c4b0 : decide (0 ≤ x5_1) = true := decide_eq_true c4
          clear c4
          by_cases c5 : (rd l0 x5_1) = a1
          · rw [if_pos c5] at H
            have c5b0 : ((rd l0 x5_1) == a1) = true := beq_iff_eq.mpr c5
            have c5b1 : ((rd l0 x5_1) != a1) = false := bne_eq_false_iff_eq.mpr c5
            clear c5
            obtain rfl := Option.some.inj H
            have p308 : 0 ≤ (x5_1 : Int) := of_decide_eq_true (by first | (with_reducible assumption) | assumption)
            have q308 : x5_1 < (l0.length : Int) := of_decide_eq_true (by first | (with_reducible assumption) | assumption)
            obtain ⟨ad308, e308, hx308_0⟩ := Kd.at_int HR0.out x5_1 p308 q308
            cases e308
            replace p308 := eq_true p308
            replace q308 := eq_true q308
            go_wp2
            go_ret
            exact ⟨by first | rfl | (simp; done) | (simp [*]; done) | (simp [wrap64]; done), by repeat (first | exact Drawn0.refl _ | apply Drawn0.step)⟩
          · rw [if_neg c5] at H
            have c5b0 : ((rd l0 x5_1) == a1) = false := beq_eq_false_iff_ne.mpr c5
            have c5b1 : ((rd l0 x5_1) != a1) = true := bne_iff_ne.mpr c5
            have H' := Aside0.mk H
            clear H
            have p308 : 0 ≤ (x5_1 : Int) := of_decide_eq_true (by first | (with_reducible assumption) | assumption)
            have q308 : x5_1 < (l0.length : Int) := of_decide_eq_true (by first | (with_reducible assumption) | assumption)
            obtain ⟨ad308, e308, hx308_0⟩ := Kd.at_int HR0.out x5_1 p308 q308
            cases e308
            replace p308 := eq_true p308
            replace q308 := eq_true q308
            go_wp2
            go_roundg k1
            case measure => have := HK1.out; omega
            case rel => exact ⟨(wrap64 (x5_1 + 1)), (by first | rfl | (simp; done) | (simp [*]; done) | (simp [wrap64]; done)), H', ⟨by have := HK1.out; omega⟩, by repeat (first | exact Drawn0.refl _ | apply Drawn0.step)⟩
        · rw [if_neg c4] at H
          exact absurd H (by simp)
      · rw [if_neg c3] at H
        have c3b0 : decide (x5_1 < (l0.length : Int)) = false := decide_eq_false c3
        clear c3
        obtain rfl := Option.some.inj H
        go_wp2
        go_ret
        exact ⟨by first | rfl | (simp; done) | (simp [*]; done) | (simp [wrap64]; done), by repeat (first | exact Drawn0.refl _ | apply Drawn0.step)⟩

/-! ### laws_size: function 33 -/
def laws_size.f (a0 : Int) : Option (Int) := if a0 < 0 then (some (wrap64 (-a0))) else (some a0)
set_option maxHeartbeats 8000000 in
set_option maxRecDepth 100000 in
theorem laws_size.calls (a0 : Int) (r : Int) (w : World) (h : laws_size.f a0 = some r) :
    Calls Try.prog 33 #[.int .i64 a0] w fun e w' => e = .returned (.int .i64 r) ∧ Drawn0 w w' := by
  have H : (if a0 < 0 then (some (wrap64 (-a0))) else (some a0)) = some r := h
  clear h
  by_cases c2 : a0 < 0
  · rw [if_pos c2] at H
    have c2b0 : decide (a0 < 0) = true := decide_eq_true c2
    clear c2
    obtain rfl := Option.some.inj H
    go_enter Try.func33, Try.ntmps33
    go_wp2
    go_ret
    exact ⟨by first | rfl | (simp; done) | (simp [*]; done) | (simp [wrap64]; done), by repeat (first | exact Drawn0.refl _ | apply Drawn0.step)⟩
  · rw [if_neg c2] at H
    have c2b0 : decide (a0 < 0) = false := decide_eq_false c2
    clear c2
    obtain rfl := Option.some.inj H
    go_enter Try.func33, Try.ntmps33
    go_wp2
    go_ret
    exact ⟨by first | rfl | (simp; done) | (simp [*]; done) | (simp [wrap64]; done), by repeat (first | exact Drawn0.refl _ | apply Drawn0.step)⟩

end Go.Proofs.Ytbhdnhpkpbhilaa.PFnSettled
