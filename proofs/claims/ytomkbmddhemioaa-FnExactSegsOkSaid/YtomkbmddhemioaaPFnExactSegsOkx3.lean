/- The Lean side of Go functions of this seat: what each answers, and that its run comes to that answer; written by a program of this work. -/
import Derived.Test.YtomkbmddhemioaaPFnExactSegsOkx0
import Derived.Test.YtomkbmddhemioaaPFnExactSegsOkx2
namespace Go.Proofs.Ytomkbmddhemioaa.PFnExactSegsOk
open Go.RowKit Go.Proofs.YtomkbmddhemioaaW.PrintWords Go.Proofs.YtomkbmddhemioaaW.PrintLast Go.Proofs.YtomkbmddhemioaaW.PrintMore
attribute [local go_sem] max2_int min2_int max_two min_two max_three min_three max_four min_four   -- for this text's walks alone
set_option linter.unusedVariables false
set_option linter.unusedSimpArgs false

/-! ### spec_l21Write: function 14 -/
mutual
def spec_l21Write.l0 : Nat → List (S36) → List Int → Int → Option (List Int)
  | 0, _, _, _ => none
  | k + 1, x0, x3, x4 => if x4 < (x0.length : Int) then (if 0 ≤ x4 then (if x3.length + ((rd_T36 x0 x4).f0).size < 140737488355328 then (spec_l21Write.l1 k x0 (x3 ++ bytesOf ((rd_T36 x0 x4).f0)) x4 0) else (none)) else (none)) else (some x3)
def spec_l21Write.l1 : Nat → List (S36) → List Int → Int → Int → Option (List Int)
  | 0, _, _, _, _ => none
  | k + 1, x0, x3, x4, x5 => if 0 ≤ x4 then (if x4 < (x0.length : Int) then (if x5 < (((rd_T36 x0 x4).f1).length : Int) then (spec_l21Write.l2 k x0 x3 x4 x5 0) else (if x3.length < 140737488355328 then (spec_l21Write.l0 k x0 (x3 ++ [39]) (wrap64 (x4 + 1))) else (none))) else (none)) else (none)
def spec_l21Write.l2 : Nat → List (S36) → List Int → Int → Int → Int → Option (List Int)
  | 0, _, _, _, _, _ => none
  | k + 1, x0, x3, x4, x5, x6 => if 0 ≤ x4 then (if x4 < (x0.length : Int) then (if 0 ≤ x5 then (if x5 < (((rd_T36 x0 x4).f1).length : Int) then (if x6 < ((rd_L1 ((rd_T36 x0 x4).f1) x5).length : Int) then (if x6 = 0 then (spec_l21Write.j3 k x0 x3 x4 x5 x6 43) else (spec_l21Write.j3 k x0 x3 x4 x5 x6 58)) else (spec_l21Write.l1 k x0 x3 x4 (wrap64 (x5 + 1)))) else (none)) else (none)) else (none)) else (none)
def spec_l21Write.j3 : Nat → List (S36) → List Int → Int → Int → Int → Int → Option (List Int)
  | 0, _, _, _, _, _, _ => none
  | k + 1, x0, x3, x4, x5, x6, x7 => if x3.length < 140737488355328 then (if 0 ≤ x4 then (if x4 < (x0.length : Int) then (if 0 ≤ x5 then (if x5 < (((rd_T36 x0 x4).f1).length : Int) then (if 0 ≤ x6 then (if x6 < ((rd_L1 ((rd_T36 x0 x4).f1) x5).length : Int) then (spec_l21Write.l3 k x0 (x3 ++ [x7]) x4 x5 x6 (rdOf ByteArray.empty (rd_L1 ((rd_T36 x0 x4).f1) x5) x6) 0) else (none)) else (none)) else (none)) else (none)) else (none)) else (none)) else (none)
def spec_l21Write.l3 : Nat → List (S36) → List Int → Int → Int → Int → ByteArray → Int → Option (List Int)
  | 0, _, _, _, _, _, _, _ => none
  | k + 1, x0, x3, x4, x5, x6, x8, x9 => if x9 < (x8.size : Int) then (if 0 ≤ x9 then ((spec_l21Mark.f (bt x8 x9)).bind fun t135 => (if t135 = true then (if x3.length < 140737488355328 then ((some (x3 ++ [63] : List Int)).bind fun y136 => (if y136.length < 140737488355328 then (spec_l21Write.l3 k x0 (y136 ++ [bt x8 x9]) x4 x5 x6 x8 (wrap64 (x9 + 1))) else (none))) else (none)) else (if x3.length < 140737488355328 then (spec_l21Write.l3 k x0 (x3 ++ [bt x8 x9]) x4 x5 x6 x8 (wrap64 (x9 + 1))) else (none)))) else (none)) else (spec_l21Write.l2 k x0 x3 x4 x5 (wrap64 (x6 + 1)))
end
def spec_l21Write.f (k : Nat) (l0 : List (S36)) : Option (List Int) := spec_l21Write.l0 k l0 (([] : List Int)) 0
theorem spec_l21Write.mono_l : ∀ k, (∀ y0 y1 y2, LeO (spec_l21Write.l0 k y0 y1 y2) (spec_l21Write.l0 (k + 1) y0 y1 y2)) ∧ (∀ y0 y1 y2 y3, LeO (spec_l21Write.l1 k y0 y1 y2 y3) (spec_l21Write.l1 (k + 1) y0 y1 y2 y3)) ∧ (∀ y0 y1 y2 y3 y4, LeO (spec_l21Write.l2 k y0 y1 y2 y3 y4) (spec_l21Write.l2 (k + 1) y0 y1 y2 y3 y4)) ∧ (∀ y0 y1 y2 y3 y4 y5, LeO (spec_l21Write.j3 k y0 y1 y2 y3 y4 y5) (spec_l21Write.j3 (k + 1) y0 y1 y2 y3 y4 y5)) ∧ (∀ y0 y1 y2 y3 y4 y5 y6, LeO (spec_l21Write.l3 k y0 y1 y2 y3 y4 y5 y6) (spec_l21Write.l3 (k + 1) y0 y1 y2 y3 y4 y5 y6))
  | 0 => ⟨fun _ _ _ r h => by simp [spec_l21Write.l0] at h, fun _ _ _ _ r h => by simp [spec_l21Write.l1] at h, fun _ _ _ _ _ r h => by simp [spec_l21Write.l2] at h, fun _ _ _ _ _ _ r h => by simp [spec_l21Write.j3] at h, fun _ _ _ _ _ _ _ r h => by simp [spec_l21Write.l3] at h⟩
  | k + 1 => by
    obtain ⟨ih0, ih1, ih2, ih3, ih4⟩ := spec_l21Write.mono_l k
    refine ⟨?_, ?_, ?_, ?_, ?_⟩
    · intro y0 y1 y2
      unfold spec_l21Write.l0
      repeat' first
      | (with_reducible exact ih0 _ _ _)
      | (with_reducible exact ih1 _ _ _ _)
      | (with_reducible exact ih2 _ _ _ _ _)
      | (with_reducible exact ih3 _ _ _ _ _ _)
      | (with_reducible exact ih4 _ _ _ _ _ _ _)
      | (with_reducible exact LeO.refl _)
      | (with_reducible exact LeO.none _)
      | (with_reducible refine LeO.ite ?_ ?_)
      | (with_reducible refine LeO.bind ?_ (fun _ => ?_))
      | exact ih0 _ _ _
      | exact ih1 _ _ _ _
      | exact ih2 _ _ _ _ _
      | exact ih3 _ _ _ _ _ _
      | exact ih4 _ _ _ _ _ _ _
      | exact LeO.none _
      | refine LeO.ite ?_ ?_
      | refine LeO.bind ?_ (fun _ => ?_)
    · intro y0 y1 y2 y3
      unfold spec_l21Write.l1
      repeat' first
      | (with_reducible exact ih0 _ _ _)
      | (with_reducible exact ih1 _ _ _ _)
      | (with_reducible exact ih2 _ _ _ _ _)
      | (with_reducible exact ih3 _ _ _ _ _ _)
      | (with_reducible exact ih4 _ _ _ _ _ _ _)
      | (with_reducible exact LeO.refl _)
      | (with_reducible exact LeO.none _)
      | (with_reducible refine LeO.ite ?_ ?_)
      | (with_reducible refine LeO.bind ?_ (fun _ => ?_))
      | exact ih0 _ _ _
      | exact ih1 _ _ _ _
      | exact ih2 _ _ _ _ _
      | exact ih3 _ _ _ _ _ _
      | exact ih4 _ _ _ _ _ _ _
      | exact LeO.none _
      | refine LeO.ite ?_ ?_
      | refine LeO.bind ?_ (fun _ => ?_)
    · intro y0 y1 y2 y3 y4
      unfold spec_l21Write.l2
      repeat' first
      | (with_reducible exact ih0 _ _ _)
      | (with_reducible exact ih1 _ _ _ _)
      | (with_reducible exact ih2 _ _ _ _ _)
      | (with_reducible exact ih3 _ _ _ _ _ _)
      | (with_reducible exact ih4 _ _ _ _ _ _ _)
      | (with_reducible exact LeO.refl _)
      | (with_reducible exact LeO.none _)
      | (with_reducible refine LeO.ite ?_ ?_)
      | (with_reducible refine LeO.bind ?_ (fun _ => ?_))
      | exact ih0 _ _ _
      | exact ih1 _ _ _ _
      | exact ih2 _ _ _ _ _
      | exact ih3 _ _ _ _ _ _
      | exact ih4 _ _ _ _ _ _ _
      | exact LeO.none _
      | refine LeO.ite ?_ ?_
      | refine LeO.bind ?_ (fun _ => ?_)
    · intro y0 y1 y2 y3 y4 y5
      unfold spec_l21Write.j3
      repeat' first
      | (with_reducible exact ih0 _ _ _)
      | (with_reducible exact ih1 _ _ _ _)
      | (with_reducible exact ih2 _ _ _ _ _)
      | (with_reducible exact ih3 _ _ _ _ _ _)
      | (with_reducible exact ih4 _ _ _ _ _ _ _)
      | (with_reducible exact LeO.refl _)
      | (with_reducible exact LeO.none _)
      | (with_reducible refine LeO.ite ?_ ?_)
      | (with_reducible refine LeO.bind ?_ (fun _ => ?_))
      | exact ih0 _ _ _
      | exact ih1 _ _ _ _
      | exact ih2 _ _ _ _ _
      | exact ih3 _ _ _ _ _ _
      | exact ih4 _ _ _ _ _ _ _
      | exact LeO.none _
      | refine LeO.ite ?_ ?_
      | refine LeO.bind ?_ (fun _ => ?_)
    · intro y0 y1 y2 y3 y4 y5 y6
      unfold spec_l21Write.l3
      repeat' first
      | (with_reducible exact ih0 _ _ _)
      | (with_reducible exact ih1 _ _ _ _)
      | (with_reducible exact ih2 _ _ _ _ _)
      | (with_reducible exact ih3 _ _ _ _ _ _)
      | (with_reducible exact ih4 _ _ _ _ _ _ _)
      | (with_reducible exact LeO.refl _)
      | (with_reducible exact LeO.none _)
      | (with_reducible refine LeO.ite ?_ ?_)
      | (with_reducible refine LeO.bind ?_ (fun _ => ?_))
      | exact ih0 _ _ _
      | exact ih1 _ _ _ _
      | exact ih2 _ _ _ _ _
      | exact ih3 _ _ _ _ _ _
      | exact ih4 _ _ _ _ _ _ _
      | exact LeO.none _
      | refine LeO.ite ?_ ?_
      | refine LeO.bind ?_ (fun _ => ?_)
theorem spec_l21Write.mono : ∀ a0 k, LeO (spec_l21Write.f k a0) (spec_l21Write.f (k + 1) a0) := by
  intro a0 k
  obtain ⟨ih0, ih1, ih2, ih3, ih4⟩ := spec_l21Write.mono_l k
  unfold spec_l21Write.f
  repeat' first
      | (with_reducible exact ih0 _ _ _)
      | (with_reducible exact ih1 _ _ _ _)
      | (with_reducible exact ih2 _ _ _ _ _)
      | (with_reducible exact ih3 _ _ _ _ _ _)
      | (with_reducible exact ih4 _ _ _ _ _ _ _)
      | (with_reducible exact LeO.refl _)
      | (with_reducible exact LeO.none _)
      | (with_reducible refine LeO.ite ?_ ?_)
      | (with_reducible refine LeO.bind ?_ (fun _ => ?_))
      | exact ih0 _ _ _
      | exact ih1 _ _ _ _
      | exact ih2 _ _ _ _ _
      | exact ih3 _ _ _ _ _ _
      | exact ih4 _ _ _ _ _ _ _
      | exact LeO.none _
      | refine LeO.ite ?_ ?_
      | refine LeO.bind ?_ (fun _ => ?_)
set_option maxHeartbeats 8000000 in
set_option maxRecDepth 100000 in
theorem spec_l21Write.calls (k : Nat) (A0 : Option Addr) (c0 : Nat) (l0 : List (S36)) (r : List Int) (w : World) (hr0 : Kd.C k36 w A0 l0.length l0) (hc0 : l0.length ≤ c0) (h : spec_l21Write.f k l0 = some r) :
    Calls Try.prog 14 #[.slice A0 l0.length c0] w fun e w' => ∃ v0_ : Value, e = .returned (v0_) ∧ Kd.R (Kd.int .u8) 5 w' w.heap.size (fun _ => True) v0_ r ∧ Below w.heap.size w w' := by
  have HR0 := Aside0.mk hr0
  have HC0 := Aside0.mk hc0
  clear hr0 hc0
  have HB := Aside0.mk (Below.refl w.heap.size w)
  have H : (spec_l21Write.l0 k l0 (([] : List Int)) 0) = some r := h
  clear h
  obtain ⟨y116, hy116⟩ : ∃ y_ : List Int, y_ = (([] : List Int)) := ⟨_, rfl⟩
  replace H : (spec_l21Write.l0 k l0 y116 0) = some r := by first | (rw [hy116]; with_reducible exact H) | (have H2_ := (Option.bind_some _ _).symm.trans H; rw [hy116]; with_reducible exact H2_) | (have H2_ := (Option.bind_some _ _).symm.trans H; with_reducible exact H2_) | with_reducible exact H | (rw [hy116]; exact H) | exact H
  have Ny116 := Aside0.mk hy116
  clear hy116
  have H' := Aside0.mk H
  clear H
  go_enter Try.func14, Try.ntmps14
  go_wp2_with (first | ((with_reducible refine gate_dst (N := 10) rfl ?_); refine Kd.R_lit (Kd.int .u8) _ 5 ?hg (N := 10) ?hd (xs := ([] : List Int)) (inner := []) (ok := fun _ => True) (okp := fun _ => True) ?hr ?hp (fun _ hk => hk) trivial (Below.refl _ _) (Nat.le_refl _) (by simp) ?_; (case hd => rfl); (case hg => rfl); (case hr => first | (go_simp; done) | (go_simp; rfl)); (case hp => exact (Reps.none _ _)); intro v117 w2 ho3 hb hg_ hnew_; clear hg_ hnew_; (first | rw [← Ny116.out] at ho3 | (simp only [Int.reduceToNat] at ho3; rw [← Ny116.out] at ho3)); have n0_ := Aside0.mk (Kd.R_lower ho3 (below_size (by repeat (first | (with_reducible first | exact HB.out | apply below_alloc | apply pw_below_drewN | apply below_drew1) | exact HB.out)))); have n1_ := Aside0.mk (below_step (by repeat (first | (with_reducible first | exact HB.out | apply below_alloc | apply pw_below_drewN | apply below_drew1) | exact HB.out)) hb); clear HB; have HO118 := n0_; have HB := n1_; clear n0_ n1_; clear hb ho3))
  go_loopg [3, 4] k (fun kq v3 v4 w' => ∃ (x3_1 : List Int) (x4_1 : Int), v4 = .int .i64 x4_1 ∧ Aside0 (spec_l21Write.l0 kq l0 x3_1 x4_1 = some r) ∧ Aside0 (kq ≤ k) ∧ Aside0 (Kd.R (Kd.int .u8) 5 w' w.heap.size (fun _ => True) v3 x3_1) ∧ Aside0 (Below w.heap.size w w'))
  case atStart => exact ⟨(y116), (0), (by first | rfl | (simp; done) | (simp [*]; done) | (simp [wrap64]; done)), H', ⟨Nat.le_refl _⟩, ⟨by (with_reducible repeat (first | apply Kd.R_alloc | apply Kd.R_drewN | apply Kd.R_drew)); exact HO118.out⟩, ⟨by repeat (first | (with_reducible first | exact HB.out | apply below_alloc | apply pw_below_drewN | apply below_drew1) | exact HB.out)⟩⟩
  case round =>
    clear H'
    try clear c1
    try clear p2
    obtain ⟨x3_1, x4_1, rfl, HA, HK1, HO_3, HB⟩ := hrel
    cases gk with
    | zero => exact absurd HA.out (by simp [spec_l21Write.l0])
    | succ k1 =>
      have H := HA.out
      clear HA
      simp only [spec_l21Write.l0] at H
      by_cases c4 : x4_1 < (l0.length : Int)
      · rw [if_pos c4] at H
        have c4b0 : decide (x4_1 < (l0.length : Int)) = true := decide_eq_true c4
        clear c4
        by_cases c5 : 0 ≤ x4_1
        · rw [if_pos c5] at H
          have c5b0 : decide (0 ≤ x4_1) = true := decide_eq_true c5
          clear c5
          by_cases c6 : x3_1.length + ((rd_T36 l0 x4_1).f0).size < 140737488355328
          · rw [if_pos c6] at H
            have LMc6 := Aside0.mk c6
            clear c6
            obtain ⟨y120, hy120⟩ : ∃ y_ : List Int, y_ = (x3_1 ++ bytesOf ((rd_T36 l0 x4_1).f0)) := ⟨_, rfl⟩
            replace H : (spec_l21Write.l1 k1 l0 y120 x4_1 0) = some r := by first | (rw [hy120]; with_reducible exact H) | (have H2_ := (Option.bind_some _ _).symm.trans H; rw [hy120]; with_reducible exact H2_) | (have H2_ := (Option.bind_some _ _).symm.trans H; with_reducible exact H2_) | with_reducible exact H | (rw [hy120]; exact H) | exact H
            have Ny120 := Aside0.mk hy120
            clear hy120
            have H' := Aside0.mk H
            clear H
            have p119 : 0 ≤ (x4_1 : Int) := of_decide_eq_true (by first | (with_reducible assumption) | assumption)
            have q119 : x4_1 < (l0.length : Int) := of_decide_eq_true (by first | (with_reducible assumption) | assumption)
            obtain ⟨ad119, A119_1, c119_1, e119, hx119_0, hx119_1, hl119_1, hi119_1⟩ := at_T36 HR0.out x4_1 p119 q119
            cases e119
            replace hx119_0 := (HB.out.cell (World.block_lt_of_cell? w _ hx119_0)).trans hx119_0
            replace hx119_1 := (HB.out.cell (World.block_lt_of_cell? w _ hx119_1)).trans hx119_1
            have HR119_1 := Aside0.mk hi119_1
            have HC119_1 := Aside0.mk hl119_1
            clear hi119_1 hl119_1
            replace p119 := eq_true p119
            replace q119 := eq_true q119
            go_wp2_with (first | (at_builtin; refine print_append_str (w0 := w) w.heap.size rfl (.tmp 17) _ 37 9 5 rfl Try.underlying37 Try.underlying9 info5 u3 x3_1 ((rd_T36 l0 x4_1).f0) rfl rfl ?aO ?aB ?aS ?aL ?_; (case aB => exact (by repeat (first | (with_reducible first | exact HB.out | apply below_alloc | apply pw_below_drewN | apply below_drew1) | exact HB.out))); (case aO => exact (Kd.own_of_R (by (with_reducible repeat (first | apply Kd.R_alloc | apply Kd.R_drewN | apply Kd.R_drew)); exact HO_3.out))); (case aS => exact (below_size (by repeat (first | (with_reducible first | exact HB.out | apply below_alloc | apply pw_below_drewN | apply below_drew1) | exact HB.out)))); (case aL => have := LMc6.out; omega); intro v121 w7 ho0 hb hg; have ho := Kd.R_of_own (h1 := fun _ => rfl) (ok := fun _ => True) ho0 (fun _ _ => trivial); clear ho0; have hat := True.intro; rw [← Ny120.out] at ho; change Kd.R (Kd.int .u8) 5 w7 w.heap.size (fun _ => True) v121 y120 at ho; have n0_ := Aside0.mk (hb); have n1_ := Aside0.mk (ho); clear HB; clear HO_3; have HB := n0_; have HO122 := n1_; clear n0_ n1_; clear ho hb hg hat))
            go_loopg [3, 5] k1 (fun kq v3 v5 w' => ∃ (x3_2 : List Int) (x5_2 : Int), v5 = .int .i64 x5_2 ∧ Aside0 (spec_l21Write.l1 kq l0 x3_2 x4_1 x5_2 = some r) ∧ Aside0 (kq ≤ k1) ∧ Aside0 (Kd.R (Kd.int .u8) 5 w' w.heap.size (fun _ => True) v3 x3_2) ∧ Aside0 (Below w.heap.size w w'))
            case atStart => exact ⟨(y120), (0), (by first | rfl | (simp; done) | (simp [*]; done) | (simp [wrap64]; done)), H', ⟨Nat.le_refl _⟩, ⟨by (with_reducible repeat (first | apply Kd.R_alloc | apply Kd.R_drewN | apply Kd.R_drew)); exact HO122.out⟩, ⟨by repeat (first | (with_reducible first | exact HB.out | apply below_alloc | apply pw_below_drewN | apply below_drew1) | exact HB.out)⟩⟩
            case round =>
              clear H'
              try clear c1
              try clear p1
              try clear q1
              try clear hx1
              try clear p2
              try clear c4
              try clear c4b0
              try clear c5
              try clear c5b0
              try clear c6
              try clear p6
              try clear hx119_0
              try clear hx119_1
              try clear p119
              try clear p2
              try clear q119
              obtain ⟨x3_2, x5_2, rfl, HA, HK2, HO_3, HB⟩ := hrel
              cases gk with
              | zero => exact absurd HA.out (by simp [spec_l21Write.l1])
              | succ k2 =>
                have H := HA.out
                clear HA
                simp only [spec_l21Write.l1] at H
                by_cases c8 : 0 ≤ x4_1
                · rw [if_pos c8] at H
                  have c8b0 : decide (0 ≤ x4_1) = true := decide_eq_true c8
                  clear c8
                  by_cases c9 : x4_1 < (l0.length : Int)
                  · rw [if_pos c9] at H
                    have c9b0 : decide (x4_1 < (l0.length : Int)) = true := decide_eq_true c9
                    clear c9
                    by_cases c10 : x5_2 < (((rd_T36 l0 x4_1).f1).length : Int)
                    · rw [if_pos c10] at H
                      have c10b0 : decide (x5_2 < (((rd_T36 l0 x4_1).f1).length : Int)) = true := decide_eq_true c10
                      clear c10
                      have H' := Aside0.mk H
                      clear H
                      have p123 : 0 ≤ (x4_1 : Int) := of_decide_eq_true (by first | (with_reducible assumption) | assumption)
                      have q123 : x4_1 < (l0.length : Int) := of_decide_eq_true (by first | (with_reducible assumption) | assumption)
                      obtain ⟨ad123, A123_1, c123_1, e123, hx123_0, hx123_1, hl123_1, hi123_1⟩ := at_T36 HR0.out x4_1 p123 q123
                      obtain rfl : ad119 = ad123 := (by injection e123)
                      replace hx123_0 := (HB.out.cell (World.block_lt_of_cell? w _ hx123_0)).trans hx123_0
                      replace hx123_1 := (HB.out.cell (World.block_lt_of_cell? w _ hx123_1)).trans hx123_1
                      have HR123_1 := Aside0.mk hi123_1
                      have HC123_1 := Aside0.mk hl123_1
                      clear hi123_1 hl123_1
                      replace p123 := eq_true p123
                      replace q123 := eq_true q123
                      go_wp2
                      go_loopg [3, 6] k2 (fun kq v3 v6 w' => ∃ (x3_3 : List Int) (x6_3 : Int), v6 = .int .i64 x6_3 ∧ Aside0 (spec_l21Write.l2 kq l0 x3_3 x4_1 x5_2 x6_3 = some r) ∧ Aside0 (kq ≤ k2) ∧ Aside0 (Kd.R (Kd.int .u8) 5 w' w.heap.size (fun _ => True) v3 x3_3) ∧ Aside0 (Below w.heap.size w w'))
                      case atStart => exact ⟨(x3_2), (0), (by first | rfl | (simp; done) | (simp [*]; done) | (simp [wrap64]; done)), H', ⟨Nat.le_refl _⟩, ⟨by (with_reducible repeat (first | apply Kd.R_alloc | apply Kd.R_drewN | apply Kd.R_drew)); exact HO_3.out⟩, ⟨by repeat (first | (with_reducible first | exact HB.out | apply below_alloc | apply pw_below_drewN | apply below_drew1) | exact HB.out)⟩⟩
                      case round =>
                        clear H'
                        try clear c1
                        try clear p1
                        try clear q1
                        try clear hx1
                        try clear p2
                        try clear c4
                        try clear c4b0
                        try clear c5
                        try clear c5b0
                        try clear c6
                        try clear p6
                        try clear c8
                        try clear c8b0
                        try clear c9
                        try clear c9b0
                        try clear c10
                        try clear c10b0
                        try clear hx119_0
                        try clear hx119_1
                        try clear hx123_0
                        try clear hx123_1
                        try clear p1
                        try clear p119
                        try clear p123
                        try clear p2
                        try clear p6
                        try clear q1
                        try clear q119
                        try clear q123
                        obtain ⟨x3_3, x6_3, rfl, HA, HK3, HO_3, HB⟩ := hrel
                        cases gk with
                        | zero => exact absurd HA.out (by simp [spec_l21Write.l2])
                        | succ k3 =>
                          have H := HA.out
                          clear HA
                          simp only [spec_l21Write.l2] at H
                          by_cases c11 : 0 ≤ x4_1
                          · rw [if_pos c11] at H
                            have c11b0 : decide (0 ≤ x4_1) = true := decide_eq_true c11
                            clear c11
                            by_cases c12 : x4_1 < (l0.length : Int)
                            · rw [if_pos c12] at H
                              have c12b0 : decide (x4_1 < (l0.length : Int)) = true := decide_eq_true c12
                              clear c12
                              by_cases c13 : 0 ≤ x5_2
                              · rw [if_pos c13] at H
                                have c13b0 : decide (0 ≤ x5_2) = true := decide_eq_true c13
                                clear c13
                                by_cases c14 : x5_2 < (((rd_T36 l0 x4_1).f1).length : Int)
                                · rw [if_pos c14] at H
                                  have c14b0 : decide (x5_2 < (((rd_T36 l0 x4_1).f1).length : Int)) = true := decide_eq_true c14
                                  clear c14
                                  by_cases c15 : x6_3 < ((rd_L1 ((rd_T36 l0 x4_1).f1) x5_2).length : Int)
                                  · rw [if_pos c15] at H
                                    have c15b0 : decide (x6_3 < ((rd_L1 ((rd_T36 l0 x4_1).f1) x5_2).length : Int)) = true := decide_eq_true c15
                                    clear c15
                                    have HC16 := Aside0.mk H
                                    clear H
                                    have p127 : 0 ≤ (x4_1 : Int) := of_decide_eq_true (by first | (with_reducible assumption) | assumption)
                                    have q127 : x4_1 < (l0.length : Int) := of_decide_eq_true (by first | (with_reducible assumption) | assumption)
                                    obtain ⟨ad127, A127_1, c127_1, e127, hx127_0, hx127_1, hl127_1, hi127_1⟩ := at_T36 HR0.out x4_1 p127 q127
                                    obtain rfl : ad119 = ad127 := (by injection e127)
                                    replace hx127_0 := (HB.out.cell (World.block_lt_of_cell? w _ hx127_0)).trans hx127_0
                                    replace hx127_1 := (HB.out.cell (World.block_lt_of_cell? w _ hx127_1)).trans hx127_1
                                    have HR127_1 := Aside0.mk hi127_1
                                    have HC127_1 := Aside0.mk hl127_1
                                    clear hi127_1 hl127_1
                                    replace p127 := eq_true p127
                                    replace q127 := eq_true q127
                                    have p128 : 0 ≤ (x5_2 : Int) := of_decide_eq_true (by first | (with_reducible assumption) | assumption)
                                    have q128 : x5_2 < (((rd_T36 l0 x4_1).f1).length : Int) := of_decide_eq_true (by first | (with_reducible assumption) | assumption)
                                    obtain ⟨ad128, A128_0, c128_0, e128, hx128_0, hl128_0, hi128_0⟩ := at_L1 HR127_1.out x5_2 p128 q128
                                    cases e128
                                    replace hx128_0 := (HB.out.cell (World.block_lt_of_cell? w _ hx128_0)).trans hx128_0
                                    have HR128_0 := Aside0.mk hi128_0
                                    have HC128_0 := Aside0.mk hl128_0
                                    clear hi128_0 hl128_0
                                    replace p128 := eq_true p128
                                    replace q128 := eq_true q128
                                    go_upto_if 48 with (fail)
                                    go_cut [7] (fun v7 wc => ∃ (kq : Nat) (x7_15 : Int), v7 = .int .u8 x7_15 ∧ Aside0 (spec_l21Write.j3 kq l0 x3_3 x4_1 x5_2 x6_3 x7_15 = some r) ∧ Aside0 (kq ≤ k3) ∧ Aside0 (Kd.R (Kd.int .u8) 5 wc w.heap.size (fun _ => True) u3 x3_3) ∧ Aside0 (Below w.heap.size w wc))
                                    case first =>
                                      have H := HC16.out
                                      clear HC16
                                      by_cases c17 : x6_3 = 0
                                      · rw [if_pos c17] at H
                                        have c17b0 : (x6_3 == 0) = true := beq_iff_eq.mpr c17
                                        have c17b1 : (x6_3 != 0) = false := bne_eq_false_iff_eq.mpr c17
                                        clear c17
                                        (first | rw [c17b0] | (simp only [i64_w, i32_w]; rw [c17b0]) | skip)
                                        have H' := Aside0.mk H
                                        clear H
                                        go_wp2
                                        go_meet
                                        case rel => exact ⟨_, (43), (by first | rfl | (simp; done) | (simp [*]; done) | (simp [wrap64]; done)), H', ⟨by have := HK1.out; have := HK2.out; have := HK3.out; first | omega | exact Nat.le_refl _⟩, ⟨by (with_reducible repeat (first | apply Kd.R_alloc | apply Kd.R_drewN | apply Kd.R_drew)); exact HO_3.out⟩, ⟨by repeat (first | (with_reducible first | exact HB.out | apply below_alloc | apply pw_below_drewN | apply below_drew1) | exact HB.out)⟩⟩
                                      · rw [if_neg c17] at H
                                        have c17b0 : (x6_3 == 0) = false := beq_eq_false_iff_ne.mpr c17
                                        have c17b1 : (x6_3 != 0) = true := bne_iff_ne.mpr c17
                                        (first | rw [c17b0] | (simp only [i64_w, i32_w]; rw [c17b0]) | skip)
                                        have H' := Aside0.mk H
                                        clear H
                                        go_wp2
                                        go_meet
                                        case rel => exact ⟨_, (58), (by first | rfl | (simp; done) | (simp [*]; done) | (simp [wrap64]; done)), H', ⟨by have := HK1.out; have := HK2.out; have := HK3.out; first | omega | exact Nat.le_refl _⟩, ⟨by (with_reducible repeat (first | apply Kd.R_alloc | apply Kd.R_drewN | apply Kd.R_drew)); exact HO_3.out⟩, ⟨by repeat (first | (with_reducible first | exact HB.out | apply below_alloc | apply pw_below_drewN | apply below_drew1) | exact HB.out)⟩⟩
                                    case rest =>
                                      clear HC16
                                      try clear c1
                                      try clear p1
                                      try clear q1
                                      try clear hx1
                                      try clear p2
                                      try clear c4
                                      try clear c4b0
                                      try clear c5
                                      try clear c5b0
                                      try clear c6
                                      try clear p6
                                      try clear c8
                                      try clear c8b0
                                      try clear c9
                                      try clear c9b0
                                      try clear c10
                                      try clear c10b0
                                      try clear c11
                                      try clear c11b0
                                      try clear p11
                                      try clear q11
                                      try clear hx11
                                      try clear c12
                                      try clear c12b0
                                      try clear p12
                                      try clear q12
                                      try clear hx12
                                      try clear c13
                                      try clear c13b0
                                      try clear c14
                                      try clear c14b0
                                      try clear c15
                                      try clear c15b0
                                      try clear c17
                                      try clear c17b0
                                      try clear c17b1
                                      try clear hx119_0
                                      try clear hx119_1
                                      try clear hx123_0
                                      try clear hx123_1
                                      try clear hx127_0
                                      try clear hx127_1
                                      try clear hx128_0
                                      try clear p1
                                      try clear p119
                                      try clear p123
                                      try clear p127
                                      try clear p128
                                      try clear p2
                                      try clear p6
                                      try clear q1
                                      try clear q119
                                      try clear q123
                                      try clear q127
                                      try clear q128
                                      obtain ⟨kq, x7_15, rfl, HA, HJ15, HO_3, HB⟩ := hcut
                                      cases kq with
                                      | zero => exact absurd HA.out (by simp [spec_l21Write.j3])
                                      | succ kj15 =>
                                        have H := HA.out
                                        clear HA
                                        simp only [spec_l21Write.j3] at H
                                        by_cases c18 : x3_3.length < 140737488355328
                                        · rw [if_pos c18] at H
                                          have LMc18 := Aside0.mk c18
                                          clear c18
                                          obtain ⟨y129, hy129⟩ : ∃ y_ : List Int, y_ = (x3_3 ++ [x7_15]) := ⟨_, rfl⟩
                                          replace H : (if 0 ≤ x4_1 then (if x4_1 < (l0.length : Int) then (if 0 ≤ x5_2 then (if x5_2 < (((rd_T36 l0 x4_1).f1).length : Int) then (if 0 ≤ x6_3 then (if x6_3 < ((rd_L1 ((rd_T36 l0 x4_1).f1) x5_2).length : Int) then (spec_l21Write.l3 kj15 l0 y129 x4_1 x5_2 x6_3 (rdOf ByteArray.empty (rd_L1 ((rd_T36 l0 x4_1).f1) x5_2) x6_3) 0) else (none)) else (none)) else (none)) else (none)) else (none)) else (none)) = some r := by first | (rw [hy129]; with_reducible exact H) | (have H2_ := (Option.bind_some _ _).symm.trans H; rw [hy129]; with_reducible exact H2_) | (have H2_ := (Option.bind_some _ _).symm.trans H; with_reducible exact H2_) | with_reducible exact H | (rw [hy129]; exact H) | exact H
                                          have Ny129 := Aside0.mk hy129
                                          clear hy129
                                          by_cases c19 : 0 ≤ x4_1
                                          · rw [if_pos c19] at H
                                            have c19b0 : decide (0 ≤ x4_1) = true := decide_eq_true c19
                                            clear c19
                                            by_cases c20 : x4_1 < (l0.length : Int)
                                            · rw [if_pos c20] at H
                                              have c20b0 : decide (x4_1 < (l0.length : Int)) = true := decide_eq_true c20
                                              clear c20
                                              by_cases c21 : 0 ≤ x5_2
                                              · rw [if_pos c21] at H
                                                have c21b0 : decide (0 ≤ x5_2) = true := decide_eq_true c21
                                                clear c21
                                                by_cases c22 : x5_2 < (((rd_T36 l0 x4_1).f1).length : Int)
                                                · rw [if_pos c22] at H
                                                  have c22b0 : decide (x5_2 < (((rd_T36 l0 x4_1).f1).length : Int)) = true := decide_eq_true c22
                                                  clear c22
                                                  by_cases c23 : 0 ≤ x6_3
                                                  · rw [if_pos c23] at H
                                                    have c23b0 : decide (0 ≤ x6_3) = true := decide_eq_true c23
                                                    clear c23
                                                    by_cases c24 : x6_3 < ((rd_L1 ((rd_T36 l0 x4_1).f1) x5_2).length : Int)
                                                    · rw [if_pos c24] at H
                                                      have c24b0 : decide (x6_3 < ((rd_L1 ((rd_T36 l0 x4_1).f1) x5_2).length : Int)) = true := decide_eq_true c24
                                                      clear c24
                                                      have H' := Aside0.mk H
                                                      clear H
                                                      go_wp2_with (first | ((with_reducible refine gate_builtin (b := .append) (xs := #[.tmp 49, .tmp 51]) rfl ?_); at_builtin; refine Kd.R_append (Kd.int .u8) (w0 := w) w.heap.size rfl (.tmp 49) (.tmp 51) 37 5 (.int .u8 0) 1 rfl Try.underlying37 info5 rfl (by decide) (by omega) u3 x3_3 x7_15 [.int .u8 x7_15] (fun _ => True) (fun _ => False) rfl rfl ?aP (fun _ hk => hk.elim) ?aF ?aO ?aB ?aS ?aL ?_; (case aP => exact rfl); (case aB => exact (by repeat (first | (with_reducible first | exact HB.out | apply below_alloc | apply pw_below_drewN | apply below_drew1) | exact HB.out))); (case aF => exact (fun _ _ => trivial)); (case aO => exact (by (with_reducible repeat (first | apply Kd.R_alloc | apply Kd.R_drewN | apply Kd.R_drew)); exact HO_3.out)); (case aS => exact (below_size (by repeat (first | (with_reducible first | exact HB.out | apply below_alloc | apply pw_below_drewN | apply below_drew1) | exact HB.out)))); (case aL => have := LMc18.out; omega); intro v130 w25 ho hb hg hat; rw [← Ny129.out] at ho; have n0_ := Aside0.mk (hb); have n1_ := Aside0.mk (ho); clear HB; clear HO_3; have HB := n0_; have HO131 := n1_; clear n0_ n1_; clear ho hb hg hat; have p132 : 0 ≤ (x4_1 : Int) := of_decide_eq_true (by first | (with_reducible assumption) | assumption); have q132 : x4_1 < (l0.length : Int) := of_decide_eq_true (by first | (with_reducible assumption) | assumption); obtain ⟨ad132, A132_1, c132_1, e132, hx132_0, hx132_1, hl132_1, hi132_1⟩ := at_T36 HR0.out x4_1 p132 q132; obtain rfl : ad119 = ad132 := (by injection e132); replace hx132_0 := (HB.out.cell (World.block_lt_of_cell? w _ hx132_0)).trans hx132_0; replace hx132_1 := (HB.out.cell (World.block_lt_of_cell? w _ hx132_1)).trans hx132_1; have HR132_1 := Aside0.mk hi132_1; have HC132_1 := Aside0.mk hl132_1; clear hi132_1 hl132_1; replace p132 := eq_true p132; replace q132 := eq_true q132; have p133 : 0 ≤ (x5_2 : Int) := of_decide_eq_true (by first | (with_reducible assumption) | assumption); have q133 : x5_2 < (((rd_T36 l0 x4_1).f1).length : Int) := of_decide_eq_true (by first | (with_reducible assumption) | assumption); obtain ⟨ad133, A133_0, c133_0, e133, hx133_0, hl133_0, hi133_0⟩ := at_L1 HR132_1.out x5_2 p133 q133; cases e133; replace hx133_0 := (HB.out.cell (World.block_lt_of_cell? w _ hx133_0)).trans hx133_0; have HR133_0 := Aside0.mk hi133_0; have HC133_0 := Aside0.mk hl133_0; clear hi133_0 hl133_0; replace p133 := eq_true p133; replace q133 := eq_true q133; have p134 : 0 ≤ (x6_3 : Int) := of_decide_eq_true (by first | (with_reducible assumption) | assumption); have q134 : x6_3 < ((rd_L1 ((rd_T36 l0 x4_1).f1) x5_2).length : Int) := of_decide_eq_true (by first | (with_reducible assumption) | assumption); obtain ⟨ad134, e134, hx134_0⟩ := Kd.at_string HR133_0.out x6_3 p134 q134; cases e134; replace hx134_0 := (HB.out.cell (World.block_lt_of_cell? w _ hx134_0)).trans hx134_0; replace p134 := eq_true p134; replace q134 := eq_true q134))
                                                      go_loopg [3, 9] kj15 (fun kq v3 v9 w' => ∃ (x3_5 : List Int) (x9_5 : Int), v9 = .int .i64 x9_5 ∧ Aside0 (spec_l21Write.l3 kq l0 x3_5 x4_1 x5_2 x6_3 (rdOf ByteArray.empty (rd_L1 ((rd_T36 l0 x4_1).f1) x5_2) x6_3) x9_5 = some r) ∧ Aside0 (kq ≤ kj15) ∧ Aside0 (Kd.R (Kd.int .u8) 5 w' w.heap.size (fun _ => True) v3 x3_5) ∧ Aside0 (Below w.heap.size w w'))
                                                      case atStart => exact ⟨(y129), (0), (by first | rfl | (simp; done) | (simp [*]; done) | (simp [wrap64]; done)), H', ⟨Nat.le_refl _⟩, ⟨by (with_reducible repeat (first | apply Kd.R_alloc | apply Kd.R_drewN | apply Kd.R_drew)); exact HO131.out⟩, ⟨by repeat (first | (with_reducible first | exact HB.out | apply below_alloc | apply pw_below_drewN | apply below_drew1) | exact HB.out)⟩⟩
                                                      case round =>
                                                        clear H'
                                                        try clear c1
                                                        try clear p1
                                                        try clear q1
                                                        try clear hx1
                                                        try clear c2
                                                        try clear p2
                                                        try clear c4
                                                        try clear c4b0
                                                        try clear c5
                                                        try clear c5b0
                                                        try clear c6
                                                        try clear p6
                                                        try clear c8
                                                        try clear c8b0
                                                        try clear c9
                                                        try clear c9b0
                                                        try clear c10
                                                        try clear c10b0
                                                        try clear c11
                                                        try clear c11b0
                                                        try clear p11
                                                        try clear q11
                                                        try clear hx11
                                                        try clear c12
                                                        try clear c12b0
                                                        try clear p12
                                                        try clear q12
                                                        try clear hx12
                                                        try clear c13
                                                        try clear c13b0
                                                        try clear p13
                                                        try clear q13
                                                        try clear hx13
                                                        try clear c14
                                                        try clear c14b0
                                                        try clear c15
                                                        try clear c15b0
                                                        try clear c17
                                                        try clear c17b0
                                                        try clear c17b1
                                                        try clear c18
                                                        try clear c19
                                                        try clear c19b0
                                                        try clear c20
                                                        try clear c20b0
                                                        try clear c21
                                                        try clear c21b0
                                                        try clear c22
                                                        try clear c22b0
                                                        try clear c23
                                                        try clear c23b0
                                                        try clear c24
                                                        try clear c24b0
                                                        try clear hx119_0
                                                        try clear hx119_1
                                                        try clear hx123_0
                                                        try clear hx123_1
                                                        try clear hx127_0
                                                        try clear hx127_1
                                                        try clear hx128_0
                                                        try clear hx132_0
                                                        try clear hx132_1
                                                        try clear hx133_0
                                                        try clear hx134_0
                                                        try clear p1
                                                        try clear p11
                                                        try clear p119
                                                        try clear p12
                                                        try clear p123
                                                        try clear p127
                                                        try clear p128
                                                        try clear p132
                                                        try clear p133
                                                        try clear p134
                                                        try clear p2
                                                        try clear p6
                                                        try clear q1
                                                        try clear q11
                                                        try clear q119
                                                        try clear q12
                                                        try clear q123
                                                        try clear q127
                                                        try clear q128
                                                        try clear q132
                                                        try clear q133
                                                        try clear q134
                                                        obtain ⟨x3_5, x9_5, rfl, HA, HK5, HO_3, HB⟩ := hrel
                                                        cases gk with
                                                        | zero => exact absurd HA.out (by simp [spec_l21Write.l3])
                                                        | succ k5 =>
                                                          have H := HA.out
                                                          clear HA
                                                          simp only [spec_l21Write.l3] at H
                                                          by_cases c26 : x9_5 < ((rdOf ByteArray.empty (rd_L1 ((rd_T36 l0 x4_1).f1) x5_2) x6_3).size : Int)
                                                          · rw [if_pos c26] at H
                                                            have c26b0 : decide (x9_5 < ((rdOf ByteArray.empty (rd_L1 ((rd_T36 l0 x4_1).f1) x5_2) x6_3).size : Int)) = true := decide_eq_true c26
                                                            clear c26
                                                            by_cases c27 : 0 ≤ x9_5
                                                            · rw [if_pos c27] at H
                                                              have c27b0 : decide (0 ≤ x9_5) = true := decide_eq_true c27
                                                              clear c27
                                                              replace H := Option.bind_eq_some_iff.mp H
                                                              obtain ⟨t135, A290, H⟩ := H
                                                              replace H : (if t135 = true then (if x3_5.length < 140737488355328 then ((some (x3_5 ++ [63] : List Int)).bind fun y136 => (if y136.length < 140737488355328 then (spec_l21Write.l3 k5 l0 (y136 ++ [bt (rdOf ByteArray.empty (rd_L1 ((rd_T36 l0 x4_1).f1) x5_2) x6_3) x9_5]) x4_1 x5_2 x6_3 (rdOf ByteArray.empty (rd_L1 ((rd_T36 l0 x4_1).f1) x5_2) x6_3) (wrap64 (x9_5 + 1))) else (none))) else (none)) else (if x3_5.length < 140737488355328 then (spec_l21Write.l3 k5 l0 (x3_5 ++ [bt (rdOf ByteArray.empty (rd_L1 ((rd_T36 l0 x4_1).f1) x5_2) x6_3) x9_5]) x4_1 x5_2 x6_3 (rdOf ByteArray.empty (rd_L1 ((rd_T36 l0 x4_1).f1) x5_2) x6_3) (wrap64 (x9_5 + 1))) else (none))) = some r := H
                                                              have A29 := Aside0.mk A290
                                                              clear A290
                                                              by_cases c30 : t135 = true
                                                              · subst c30
                                                                have H1 : (if x3_5.length < 140737488355328 then ((some (x3_5 ++ [63] : List Int)).bind fun y136 => (if y136.length < 140737488355328 then (spec_l21Write.l3 k5 l0 (y136 ++ [bt (rdOf ByteArray.empty (rd_L1 ((rd_T36 l0 x4_1).f1) x5_2) x6_3) x9_5]) x4_1 x5_2 x6_3 (rdOf ByteArray.empty (rd_L1 ((rd_T36 l0 x4_1).f1) x5_2) x6_3) (wrap64 (x9_5 + 1))) else (none))) else (none)) = some r := by rw [if_pos rfl] at H; exact H
                                                                clear H
                                                                have H := H1
                                                                clear H1
                                                                by_cases c31 : x3_5.length < 140737488355328
                                                                · rw [if_pos c31] at H
                                                                  have LMc31 := Aside0.mk c31
                                                                  clear c31
                                                                  obtain ⟨y136, hy136⟩ : ∃ y_ : List Int, y_ = (x3_5 ++ [63]) := ⟨_, rfl⟩
                                                                  replace H : (if y136.length < 140737488355328 then (spec_l21Write.l3 k5 l0 (y136 ++ [bt (rdOf ByteArray.empty (rd_L1 ((rd_T36 l0 x4_1).f1) x5_2) x6_3) x9_5]) x4_1 x5_2 x6_3 (rdOf ByteArray.empty (rd_L1 ((rd_T36 l0 x4_1).f1) x5_2) x6_3) (wrap64 (x9_5 + 1))) else (none)) = some r := by first | (rw [hy136]; with_reducible exact H) | (have H2_ := (Option.bind_some _ _).symm.trans H; rw [hy136]; with_reducible exact H2_) | (have H2_ := (Option.bind_some _ _).symm.trans H; with_reducible exact H2_) | with_reducible exact H | (rw [hy136]; exact H) | exact H
                                                                  have Ny136 := Aside0.mk hy136
                                                                  clear hy136
                                                                  by_cases c33 : y136.length < 140737488355328
                                                                  · rw [if_pos c33] at H
                                                                    have LMc33 := Aside0.mk c33
                                                                    clear c33
                                                                    obtain ⟨y139, hy139⟩ : ∃ y_ : List Int, y_ = (y136 ++ [bt (rdOf ByteArray.empty (rd_L1 ((rd_T36 l0 x4_1).f1) x5_2) x6_3) x9_5]) := ⟨_, rfl⟩
                                                                    replace H : (spec_l21Write.l3 k5 l0 y139 x4_1 x5_2 x6_3 (rdOf ByteArray.empty (rd_L1 ((rd_T36 l0 x4_1).f1) x5_2) x6_3) (wrap64 (x9_5 + 1))) = some r := by first | (rw [hy139]; with_reducible exact H) | (have H2_ := (Option.bind_some _ _).symm.trans H; rw [hy139]; with_reducible exact H2_) | (have H2_ := (Option.bind_some _ _).symm.trans H; with_reducible exact H2_) | with_reducible exact H | (rw [hy139]; exact H) | exact H
                                                                    have Ny139 := Aside0.mk hy139
                                                                    clear hy139
                                                                    have H' := Aside0.mk H
                                                                    clear H
                                                                    have p28 : 0 ≤ (x9_5 : Int) := of_decide_eq_true (by first | (with_reducible assumption) | assumption)
                                                                    have q28 : x9_5 < ((rdOf ByteArray.empty (rd_L1 ((rd_T36 l0 x4_1).f1) x5_2) x6_3).size : Int) := of_decide_eq_true (by first | (with_reducible assumption) | assumption)
                                                                    have hx28 := bt_at (rdOf ByteArray.empty (rd_L1 ((rd_T36 l0 x4_1).f1) x5_2) x6_3) x9_5
                                                                    replace p28 := eq_true p28
                                                                    replace q28 := eq_true q28
                                                                    go_wp2_with (first | ((with_reducible refine gate_callee (f := 23) rfl ?_); refine goesL_ (some 73) rfl rfl Try.func23 (by kernel_rfl) rfl #[.int .u8 (bt (rdOf ByteArray.empty (rd_L1 ((rd_T36 l0 x4_1).f1) x5_2) x6_3) x9_5)] rfl (by (try simp only [List.map_toArray, List.map_cons, List.map_nil]); first | done | rfl | (simp only [List.length_drop, List.length_take]; rfl)) ?_; (with_reducible refine (spec_l21Mark.calls (bt (rdOf ByteArray.empty (rd_L1 ((rd_T36 l0 x4_1).f1) x5_2) x6_3) x9_5) true _ A29.out).mono ?_); rintro e w' ⟨rfl, ⟨nd, rfl⟩⟩; refine ⟨_, rfl, ?_⟩) | ((with_reducible refine gate_builtin (b := .append) (xs := #[.tmp 74, .tmp 75]) rfl ?_); at_builtin; refine Kd.R_append (Kd.int .u8) (w0 := w) w.heap.size rfl (.tmp 74) (.tmp 75) 37 5 (.int .u8 0) 1 rfl Try.underlying37 info5 rfl (by decide) (by omega) u3 x3_5 63 [.int .u8 63] (fun _ => True) (fun _ => False) rfl rfl ?aP (fun _ hk => hk.elim) ?aF ?aO ?aB ?aS ?aL ?_; (case aP => exact rfl); (case aB => exact (by repeat (first | (with_reducible first | exact HB.out | apply below_alloc | apply pw_below_drewN | apply below_drew1) | exact HB.out))); (case aF => exact (fun _ _ => trivial)); (case aO => exact (by (with_reducible repeat (first | apply Kd.R_alloc | apply Kd.R_drewN | apply Kd.R_drew)); exact HO_3.out)); (case aS => exact (below_size (by repeat (first | (with_reducible first | exact HB.out | apply below_alloc | apply pw_below_drewN | apply below_drew1) | exact HB.out)))); (case aL => have := LMc31.out; omega); intro v137 w34 ho hb hg hat; rw [← Ny136.out] at ho; have n0_ := Aside0.mk (hb); have n1_ := Aside0.mk (ho); clear HB; clear HO_3; have HB := n0_; have HO138 := n1_; clear n0_ n1_; clear ho hb hg hat; have p32 : 0 ≤ (x9_5 : Int) := of_decide_eq_true (by first | (with_reducible assumption) | assumption); have q32 : x9_5 < ((rdOf ByteArray.empty (rd_L1 ((rd_T36 l0 x4_1).f1) x5_2) x6_3).size : Int) := of_decide_eq_true (by first | (with_reducible assumption) | assumption); have hx32 := bt_at (rdOf ByteArray.empty (rd_L1 ((rd_T36 l0 x4_1).f1) x5_2) x6_3) x9_5; replace p32 := eq_true p32; replace q32 := eq_true q32) | ((with_reducible refine gate_builtin (b := .append) (xs := #[.tmp 77, .tmp 81]) rfl ?_); at_builtin; refine Kd.R_append (Kd.int .u8) (w0 := w) w.heap.size rfl (.tmp 77) (.tmp 81) 37 5 (.int .u8 0) 1 rfl Try.underlying37 info5 rfl (by decide) (by omega) v137 y136 (bt (rdOf ByteArray.empty (rd_L1 ((rd_T36 l0 x4_1).f1) x5_2) x6_3) x9_5) [.int .u8 (bt (rdOf ByteArray.empty (rd_L1 ((rd_T36 l0 x4_1).f1) x5_2) x6_3) x9_5)] (fun _ => True) (fun _ => False) rfl rfl ?aP (fun _ hk => hk.elim) ?aF ?aO ?aB ?aS ?aL ?_; (case aP => exact rfl); (case aB => exact (by repeat (first | (with_reducible first | exact HB.out | apply below_alloc | apply pw_below_drewN | apply below_drew1) | exact HB.out))); (case aF => exact (fun _ _ => trivial)); (case aO => exact (by (with_reducible repeat (first | apply Kd.R_alloc | apply Kd.R_drewN | apply Kd.R_drew)); exact HO138.out)); (case aS => exact (below_size (by repeat (first | (with_reducible first | exact HB.out | apply below_alloc | apply pw_below_drewN | apply below_drew1) | exact HB.out)))); (case aL => have := LMc33.out; omega); intro v140 w35 ho hb hg hat; rw [← Ny139.out] at ho; have n0_ := Aside0.mk (hb); have n1_ := Aside0.mk (ho); clear HB; clear HO138; have HB := n0_; have HO141 := n1_; clear n0_ n1_; clear ho hb hg hat))
                                                                    go_roundg k5
                                                                    case measure => have := HK1.out; have := HK2.out; have := HK3.out; have := HJ15.out; have := HK5.out; omega
                                                                    case rel => exact ⟨(y139), (wrap64 (x9_5 + 1)), (by first | rfl | (simp; done) | (simp [*]; done) | (simp [wrap64]; done)), H', ⟨by have := HK1.out; have := HK2.out; have := HK3.out; have := HJ15.out; have := HK5.out; omega⟩, ⟨by (with_reducible repeat (first | apply Kd.R_alloc | apply Kd.R_drewN | apply Kd.R_drew)); exact HO141.out⟩, ⟨by repeat (first | (with_reducible first | exact HB.out | apply below_alloc | apply pw_below_drewN | apply below_drew1) | exact HB.out)⟩⟩
                                                                  · rw [if_neg c33] at H
                                                                    exact absurd H (by simp)
                                                                · rw [if_neg c31] at H
                                                                  exact absurd H (by simp)
                                                              · replace c30 := Bool.eq_false_iff.mpr c30
                                                                subst c30
                                                                have H1 : (if x3_5.length < 140737488355328 then (spec_l21Write.l3 k5 l0 (x3_5 ++ [bt (rdOf ByteArray.empty (rd_L1 ((rd_T36 l0 x4_1).f1) x5_2) x6_3) x9_5]) x4_1 x5_2 x6_3 (rdOf ByteArray.empty (rd_L1 ((rd_T36 l0 x4_1).f1) x5_2) x6_3) (wrap64 (x9_5 + 1))) else (none)) = some r := by rw [if_neg (show ¬ (false = true) by decide)] at H; exact H
                                                                clear H
                                                                have H := H1
                                                                clear H1
                                                                by_cases c37 : x3_5.length < 140737488355328
                                                                · rw [if_pos c37] at H
                                                                  have LMc37 := Aside0.mk c37
                                                                  clear c37
                                                                  obtain ⟨y142, hy142⟩ : ∃ y_ : List Int, y_ = (x3_5 ++ [bt (rdOf ByteArray.empty (rd_L1 ((rd_T36 l0 x4_1).f1) x5_2) x6_3) x9_5]) := ⟨_, rfl⟩
                                                                  replace H : (spec_l21Write.l3 k5 l0 y142 x4_1 x5_2 x6_3 (rdOf ByteArray.empty (rd_L1 ((rd_T36 l0 x4_1).f1) x5_2) x6_3) (wrap64 (x9_5 + 1))) = some r := by first | (rw [hy142]; with_reducible exact H) | (have H2_ := (Option.bind_some _ _).symm.trans H; rw [hy142]; with_reducible exact H2_) | (have H2_ := (Option.bind_some _ _).symm.trans H; with_reducible exact H2_) | with_reducible exact H | (rw [hy142]; exact H) | exact H
                                                                  have Ny142 := Aside0.mk hy142
                                                                  clear hy142
                                                                  have H' := Aside0.mk H
                                                                  clear H
                                                                  have p28 : 0 ≤ (x9_5 : Int) := of_decide_eq_true (by first | (with_reducible assumption) | assumption)
                                                                  have q28 : x9_5 < ((rdOf ByteArray.empty (rd_L1 ((rd_T36 l0 x4_1).f1) x5_2) x6_3).size : Int) := of_decide_eq_true (by first | (with_reducible assumption) | assumption)
                                                                  have hx28 := bt_at (rdOf ByteArray.empty (rd_L1 ((rd_T36 l0 x4_1).f1) x5_2) x6_3) x9_5
                                                                  replace p28 := eq_true p28
                                                                  replace q28 := eq_true q28
                                                                  go_wp2_with (first | ((with_reducible refine gate_callee (f := 23) rfl ?_); refine goesL_ (some 73) rfl rfl Try.func23 (by kernel_rfl) rfl #[.int .u8 (bt (rdOf ByteArray.empty (rd_L1 ((rd_T36 l0 x4_1).f1) x5_2) x6_3) x9_5)] rfl (by (try simp only [List.map_toArray, List.map_cons, List.map_nil]); first | done | rfl | (simp only [List.length_drop, List.length_take]; rfl)) ?_; (with_reducible refine (spec_l21Mark.calls (bt (rdOf ByteArray.empty (rd_L1 ((rd_T36 l0 x4_1).f1) x5_2) x6_3) x9_5) false _ A29.out).mono ?_); rintro e w' ⟨rfl, ⟨nd, rfl⟩⟩; refine ⟨_, rfl, ?_⟩; have p36 : 0 ≤ (x9_5 : Int) := of_decide_eq_true (by first | (with_reducible assumption) | assumption); have q36 : x9_5 < ((rdOf ByteArray.empty (rd_L1 ((rd_T36 l0 x4_1).f1) x5_2) x6_3).size : Int) := of_decide_eq_true (by first | (with_reducible assumption) | assumption); have hx36 := bt_at (rdOf ByteArray.empty (rd_L1 ((rd_T36 l0 x4_1).f1) x5_2) x6_3) x9_5; replace p36 := eq_true p36; replace q36 := eq_true q36) | ((with_reducible refine gate_builtin (b := .append) (xs := #[.tmp 77, .tmp 81]) rfl ?_); at_builtin; refine Kd.R_append (Kd.int .u8) (w0 := w) w.heap.size rfl (.tmp 77) (.tmp 81) 37 5 (.int .u8 0) 1 rfl Try.underlying37 info5 rfl (by decide) (by omega) u3 x3_5 (bt (rdOf ByteArray.empty (rd_L1 ((rd_T36 l0 x4_1).f1) x5_2) x6_3) x9_5) [.int .u8 (bt (rdOf ByteArray.empty (rd_L1 ((rd_T36 l0 x4_1).f1) x5_2) x6_3) x9_5)] (fun _ => True) (fun _ => False) rfl rfl ?aP (fun _ hk => hk.elim) ?aF ?aO ?aB ?aS ?aL ?_; (case aP => exact rfl); (case aB => exact (by repeat (first | (with_reducible first | exact HB.out | apply below_alloc | apply pw_below_drewN | apply below_drew1) | exact HB.out))); (case aF => exact (fun _ _ => trivial)); (case aO => exact (by (with_reducible repeat (first | apply Kd.R_alloc | apply Kd.R_drewN | apply Kd.R_drew)); exact HO_3.out)); (case aS => exact (below_size (by repeat (first | (with_reducible first | exact HB.out | apply below_alloc | apply pw_below_drewN | apply below_drew1) | exact HB.out)))); (case aL => have := LMc37.out; omega); intro v143 w38 ho hb hg hat; rw [← Ny142.out] at ho; have n0_ := Aside0.mk (hb); have n1_ := Aside0.mk (ho); clear HB; clear HO_3; have HB := n0_; have HO144 := n1_; clear n0_ n1_; clear ho hb hg hat))
                                                                  go_roundg k5
                                                                  case measure => have := HK1.out; have := HK2.out; have := HK3.out; have := HJ15.out; have := HK5.out; omega
                                                                  case rel => exact ⟨(y142), (wrap64 (x9_5 + 1)), (by first | rfl | (simp; done) | (simp [*]; done) | (simp [wrap64]; done)), H', ⟨by have := HK1.out; have := HK2.out; have := HK3.out; have := HJ15.out; have := HK5.out; omega⟩, ⟨by (with_reducible repeat (first | apply Kd.R_alloc | apply Kd.R_drewN | apply Kd.R_drew)); exact HO144.out⟩, ⟨by repeat (first | (with_reducible first | exact HB.out | apply below_alloc | apply pw_below_drewN | apply below_drew1) | exact HB.out)⟩⟩
                                                                · rw [if_neg c37] at H
                                                                  exact absurd H (by simp)
                                                            · rw [if_neg c27] at H
                                                              exact absurd H (by simp)
                                                          · rw [if_neg c26] at H
                                                            have c26b0 : decide (x9_5 < ((rdOf ByteArray.empty (rd_L1 ((rd_T36 l0 x4_1).f1) x5_2) x6_3).size : Int)) = false := decide_eq_false c26
                                                            clear c26
                                                            have H' := Aside0.mk H
                                                            clear H
                                                            go_wp2
                                                            go_roundg k5
                                                            case measure => have := HK1.out; have := HK2.out; have := HK3.out; have := HJ15.out; have := HK5.out; omega
                                                            case rel => exact ⟨(x3_5), (wrap64 (x6_3 + 1)), (by first | rfl | (simp; done) | (simp [*]; done) | (simp [wrap64]; done)), H', ⟨by have := HK1.out; have := HK2.out; have := HK3.out; have := HJ15.out; have := HK5.out; omega⟩, ⟨by (with_reducible repeat (first | apply Kd.R_alloc | apply Kd.R_drewN | apply Kd.R_drew)); exact HO_3.out⟩, ⟨by repeat (first | (with_reducible first | exact HB.out | apply below_alloc | apply pw_below_drewN | apply below_drew1) | exact HB.out)⟩⟩
                                                    · rw [if_neg c24] at H
                                                      exact absurd H (by simp)
                                                  · rw [if_neg c23] at H
                                                    exact absurd H (by simp)
                                                · rw [if_neg c22] at H
                                                  exact absurd H (by simp)
                                              · rw [if_neg c21] at H
                                                exact absurd H (by simp)
                                            · rw [if_neg c20] at H
                                              exact absurd H (by simp)
                                          · rw [if_neg c19] at H
                                            exact absurd H (by simp)
                                        · rw [if_neg c18] at H
                                          exact absurd H (by simp)
                                  · rw [if_neg c15] at H
                                    have c15b0 : decide (x6_3 < ((rd_L1 ((rd_T36 l0 x4_1).f1) x5_2).length : Int)) = false := decide_eq_false c15
                                    clear c15
                                    have H' := Aside0.mk H
                                    clear H
                                    have p127 : 0 ≤ (x4_1 : Int) := of_decide_eq_true (by first | (with_reducible assumption) | assumption)
                                    have q127 : x4_1 < (l0.length : Int) := of_decide_eq_true (by first | (with_reducible assumption) | assumption)
                                    obtain ⟨ad127, A127_1, c127_1, e127, hx127_0, hx127_1, hl127_1, hi127_1⟩ := at_T36 HR0.out x4_1 p127 q127
                                    obtain rfl : ad119 = ad127 := (by injection e127)
                                    replace hx127_0 := (HB.out.cell (World.block_lt_of_cell? w _ hx127_0)).trans hx127_0
                                    replace hx127_1 := (HB.out.cell (World.block_lt_of_cell? w _ hx127_1)).trans hx127_1
                                    have HR127_1 := Aside0.mk hi127_1
                                    have HC127_1 := Aside0.mk hl127_1
                                    clear hi127_1 hl127_1
                                    replace p127 := eq_true p127
                                    replace q127 := eq_true q127
                                    have p128 : 0 ≤ (x5_2 : Int) := of_decide_eq_true (by first | (with_reducible assumption) | assumption)
                                    have q128 : x5_2 < (((rd_T36 l0 x4_1).f1).length : Int) := of_decide_eq_true (by first | (with_reducible assumption) | assumption)
                                    obtain ⟨ad128, A128_0, c128_0, e128, hx128_0, hl128_0, hi128_0⟩ := at_L1 HR127_1.out x5_2 p128 q128
                                    cases e128
                                    replace hx128_0 := (HB.out.cell (World.block_lt_of_cell? w _ hx128_0)).trans hx128_0
                                    have HR128_0 := Aside0.mk hi128_0
                                    have HC128_0 := Aside0.mk hl128_0
                                    clear hi128_0 hl128_0
                                    replace p128 := eq_true p128
                                    replace q128 := eq_true q128
                                    go_wp2
                                    go_roundg k3
                                    case measure => have := HK1.out; have := HK2.out; have := HK3.out; omega
                                    case rel => exact ⟨(x3_3), (wrap64 (x5_2 + 1)), (by first | rfl | (simp; done) | (simp [*]; done) | (simp [wrap64]; done)), H', ⟨by have := HK1.out; have := HK2.out; have := HK3.out; omega⟩, ⟨by (with_reducible repeat (first | apply Kd.R_alloc | apply Kd.R_drewN | apply Kd.R_drew)); exact HO_3.out⟩, ⟨by repeat (first | (with_reducible first | exact HB.out | apply below_alloc | apply pw_below_drewN | apply below_drew1) | exact HB.out)⟩⟩
                                · rw [if_neg c14] at H
                                  exact absurd H (by simp)
                              · rw [if_neg c13] at H
                                exact absurd H (by simp)
                            · rw [if_neg c12] at H
                              exact absurd H (by simp)
                          · rw [if_neg c11] at H
                            exact absurd H (by simp)
                    · rw [if_neg c10] at H
                      have c10b0 : decide (x5_2 < (((rd_T36 l0 x4_1).f1).length : Int)) = false := decide_eq_false c10
                      clear c10
                      by_cases c39 : x3_2.length < 140737488355328
                      · rw [if_pos c39] at H
                        have LMc39 := Aside0.mk c39
                        clear c39
                        obtain ⟨y124, hy124⟩ : ∃ y_ : List Int, y_ = (x3_2 ++ [39]) := ⟨_, rfl⟩
                        replace H : (spec_l21Write.l0 k2 l0 y124 (wrap64 (x4_1 + 1))) = some r := by first | (rw [hy124]; with_reducible exact H) | (have H2_ := (Option.bind_some _ _).symm.trans H; rw [hy124]; with_reducible exact H2_) | (have H2_ := (Option.bind_some _ _).symm.trans H; with_reducible exact H2_) | with_reducible exact H | (rw [hy124]; exact H) | exact H
                        have Ny124 := Aside0.mk hy124
                        clear hy124
                        have H' := Aside0.mk H
                        clear H
                        have p123 : 0 ≤ (x4_1 : Int) := of_decide_eq_true (by first | (with_reducible assumption) | assumption)
                        have q123 : x4_1 < (l0.length : Int) := of_decide_eq_true (by first | (with_reducible assumption) | assumption)
                        obtain ⟨ad123, A123_1, c123_1, e123, hx123_0, hx123_1, hl123_1, hi123_1⟩ := at_T36 HR0.out x4_1 p123 q123
                        obtain rfl : ad119 = ad123 := (by injection e123)
                        replace hx123_0 := (HB.out.cell (World.block_lt_of_cell? w _ hx123_0)).trans hx123_0
                        replace hx123_1 := (HB.out.cell (World.block_lt_of_cell? w _ hx123_1)).trans hx123_1
                        have HR123_1 := Aside0.mk hi123_1
                        have HC123_1 := Aside0.mk hl123_1
                        clear hi123_1 hl123_1
                        replace p123 := eq_true p123
                        replace q123 := eq_true q123
                        go_wp2_with (first | ((with_reducible refine gate_builtin (b := .append) (xs := #[.tmp 83, .tmp 84]) rfl ?_); at_builtin; refine Kd.R_append (Kd.int .u8) (w0 := w) w.heap.size rfl (.tmp 83) (.tmp 84) 37 5 (.int .u8 0) 1 rfl Try.underlying37 info5 rfl (by decide) (by omega) u3 x3_2 39 [.int .u8 39] (fun _ => True) (fun _ => False) rfl rfl ?aP (fun _ hk => hk.elim) ?aF ?aO ?aB ?aS ?aL ?_; (case aP => exact rfl); (case aB => exact (by repeat (first | (with_reducible first | exact HB.out | apply below_alloc | apply pw_below_drewN | apply below_drew1) | exact HB.out))); (case aF => exact (fun _ _ => trivial)); (case aO => exact (by (with_reducible repeat (first | apply Kd.R_alloc | apply Kd.R_drewN | apply Kd.R_drew)); exact HO_3.out)); (case aS => exact (below_size (by repeat (first | (with_reducible first | exact HB.out | apply below_alloc | apply pw_below_drewN | apply below_drew1) | exact HB.out)))); (case aL => have := LMc39.out; omega); intro v125 w40 ho hb hg hat; rw [← Ny124.out] at ho; have n0_ := Aside0.mk (hb); have n1_ := Aside0.mk (ho); clear HB; clear HO_3; have HB := n0_; have HO126 := n1_; clear n0_ n1_; clear ho hb hg hat))
                        go_roundg k2
                        case measure => have := HK1.out; have := HK2.out; omega
                        case rel => exact ⟨(y124), (wrap64 (x4_1 + 1)), (by first | rfl | (simp; done) | (simp [*]; done) | (simp [wrap64]; done)), H', ⟨by have := HK1.out; have := HK2.out; omega⟩, ⟨by (with_reducible repeat (first | apply Kd.R_alloc | apply Kd.R_drewN | apply Kd.R_drew)); exact HO126.out⟩, ⟨by repeat (first | (with_reducible first | exact HB.out | apply below_alloc | apply pw_below_drewN | apply below_drew1) | exact HB.out)⟩⟩
                      · rw [if_neg c39] at H
                        exact absurd H (by simp)
                  · rw [if_neg c9] at H
                    exact absurd H (by simp)
                · rw [if_neg c8] at H
                  exact absurd H (by simp)
          · rw [if_neg c6] at H
            exact absurd H (by simp)
        · rw [if_neg c5] at H
          exact absurd H (by simp)
      · rw [if_neg c4] at H
        have c4b0 : decide (x4_1 < (l0.length : Int)) = false := decide_eq_false c4
        clear c4
        obtain rfl := Option.some.inj H
        go_wp2
        go_ret
        exact ⟨_, by first | rfl | (simp [errW_none, errW_some] <;> rfl) | (simp [*, errW_none, errW_some] <;> rfl), by (with_reducible repeat (first | apply Kd.R_alloc | apply Kd.R_drewN | apply Kd.R_drew)); exact HO_3.out, by repeat (first | (with_reducible first | exact HB.out | apply below_alloc | apply pw_below_drewN | apply below_drew1) | exact HB.out)⟩

end Go.Proofs.Ytomkbmddhemioaa.PFnExactSegsOk
