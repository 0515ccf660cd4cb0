/- The Lean side of Go functions of this seat: what each answers, and that its run comes to that answer; written by a program of this work. -/
import Derived.Test.YtomkbmddhemioaaPFnExactWriteSegsx0
import Derived.Test.YtomkbmddhemioaaPFnExactWriteSegsx4
namespace Go.Proofs.Ytomkbmddhemioaa.PFnExactWriteSegs
open Go.RowKit Go.Proofs.YtomkbmddhemioaaW.PrintWords Go.Proofs.YtomkbmddhemioaaW.PrintLast Go.Proofs.YtomkbmddhemioaaW.PrintMore
attribute [local go_sem] max2_int min2_int max_two min_two max_three min_three max_four min_four   -- for this text's walks alone
set_option linter.unusedVariables false
set_option linter.unusedSimpArgs false

/-! ### spec_l21Write: function 14 -/
mutual
def spec_l21Write.l0 : Nat → List (S36) → List Int → Int → Option (List Int)
  | 0, _, _, _ => none
  | k + 1, x0, x3, x4 => if x4 < (x0.length : Int) then (if 0 ≤ x4 then (if x3.length + ((rd_T36 x0 x4).f0).size < 140737488355328 then (spec_l21Write.l1 k x0 (x3 ++ bytesOf ((rd_T36 x0 x4).f0)) x4 0) else (none)) else (none)) else (some x3)
def spec_l21Write.l1 : Nat → List (S36) → List Int → Int → Int → Option (List Int)
  | 0, _, _, _, _ => none
  | k + 1, x0, x3, x4, x5 => if 0 ≤ x4 then (if x4 < (x0.length : Int) then (if x5 < (((rd_T36 x0 x4).f1).length : Int) then (spec_l21Write.l2 k x0 x3 x4 x5 0) else (if x3.length < 140737488355328 then (spec_l21Write.l0 k x0 (x3 ++ [39]) (wrap64 (x4 + 1))) else (none))) else (none)) else (none)
def spec_l21Write.l2 : Nat → List (S36) → List Int → Int → Int → Int → Option (List Int)
  | 0, _, _, _, _, _ => none
  | k + 1, x0, x3, x4, x5, x6 => if 0 ≤ x4 then (if x4 < (x0.length : Int) then (if 0 ≤ x5 then (if x5 < (((rd_T36 x0 x4).f1).length : Int) then (if x6 < ((rd_L1 ((rd_T36 x0 x4).f1) x5).length : Int) then (if x6 = 0 then (spec_l21Write.j3 k x0 x3 x4 x5 x6 43) else (spec_l21Write.j3 k x0 x3 x4 x5 x6 58)) else (spec_l21Write.l1 k x0 x3 x4 (wrap64 (x5 + 1)))) else (none)) else (none)) else (none)) else (none)
def spec_l21Write.j3 : Nat → List (S36) → List Int → Int → Int → Int → Int → Option (List Int)
  | 0, _, _, _, _, _, _ => none
  | k + 1, x0, x3, x4, x5, x6, x7 => if x3.length < 140737488355328 then (if 0 ≤ x4 then (if x4 < (x0.length : Int) then (if 0 ≤ x5 then (if x5 < (((rd_T36 x0 x4).f1).length : Int) then (if 0 ≤ x6 then (if x6 < ((rd_L1 ((rd_T36 x0 x4).f1) x5).length : Int) then (spec_l21Write.l3 k x0 (x3 ++ [x7]) x4 x5 x6 (rdOf ByteArray.empty (rd_L1 ((rd_T36 x0 x4).f1) x5) x6) 0) else (none)) else (none)) else (none)) else (none)) else (none)) else (none)) else (none)
def spec_l21Write.l3 : Nat → List (S36) → List Int → Int → Int → Int → ByteArray → Int → Option (List Int)
  | 0, _, _, _, _, _, _, _ => none
  | k + 1, x0, x3, x4, x5, x6, x8, x9 => if x9 < (x8.size : Int) then (if 0 ≤ x9 then ((spec_l21Mark.f (bt x8 x9)).bind fun t174 => (if t174 = true then (if x3.length < 140737488355328 then ((some (x3 ++ [63] : List Int)).bind fun y175 => (if y175.length < 140737488355328 then (spec_l21Write.l3 k x0 (y175 ++ [bt x8 x9]) x4 x5 x6 x8 (wrap64 (x9 + 1))) else (none))) else (none)) else (if x3.length < 140737488355328 then (spec_l21Write.l3 k x0 (x3 ++ [bt x8 x9]) x4 x5 x6 x8 (wrap64 (x9 + 1))) else (none)))) else (none)) else (spec_l21Write.l2 k x0 x3 x4 x5 (wrap64 (x6 + 1)))
end
def spec_l21Write.f (k : Nat) (l0 : List (S36)) : Option (List Int) := spec_l21Write.l0 k l0 (([] : List Int)) 0
theorem spec_l21Write.mono_l : ∀ k, (∀ y0 y1 y2, LeO (spec_l21Write.l0 k y0 y1 y2) (spec_l21Write.l0 (k + 1) y0 y1 y2)) ∧ (∀ y0 y1 y2 y3, LeO (spec_l21Write.l1 k y0 y1 y2 y3) (spec_l21Write.l1 (k + 1) y0 y1 y2 y3)) ∧ (∀ y0 y1 y2 y3 y4, LeO (spec_l21Write.l2 k y0 y1 y2 y3 y4) (spec_l21Write.l2 (k + 1) y0 y1 y2 y3 y4)) ∧ (∀ y0 y1 y2 y3 y4 y5, LeO (spec_l21Write.j3 k y0 y1 y2 y3 y4 y5) (spec_l21Write.j3 (k + 1) y0 y1 y2 y3 y4 y5)) ∧ (∀ y0 y1 y2 y3 y4 y5 y6, LeO (spec_l21Write.l3 k y0 y1 y2 y3 y4 y5 y6) (spec_l21Write.l3 (k + 1) y0 y1 y2 y3 y4 y5 y6))
  | 0 => ⟨fun _ _ _ r h => by simp [spec_l21Write.l0] at h, fun _ _ _ _ r h => by simp [spec_l21Write.l1] at h, fun _ _ _ _ _ r h => by simp [spec_l21Write.l2] at h, fun _ _ _ _ _ _ r h => by simp [spec_l21Write.j3] at h, fun _ _ _ _ _ _ _ r h => by simp [spec_l21Write.l3] at h⟩
  | k + 1 => by
    obtain ⟨ih0, ih1, ih2, ih3, ih4⟩ := spec_l21Write.mono_l k
    refine ⟨?_, ?_, ?_, ?_, ?_⟩
    · intro y0 y1 y2
      unfold spec_l21Write.l0
      repeat' first
      | (with_reducible exact ih0 _ _ _)
      | (with_reducible exact ih1 _ _ _ _)
      | (with_reducible exact ih2 _ _ _ _ _)
      | (with_reducible exact ih3 _ _ _ _ _ _)
      | (with_reducible exact ih4 _ _ _ _ _ _ _)
      | (with_reducible exact LeO.refl _)
      | (with_reducible exact LeO.none _)
      | (with_reducible refine LeO.ite ?_ ?_)
      | (with_reducible refine LeO.bind ?_ (fun _ => ?_))
      | exact ih0 _ _ _
      | exact ih1 _ _ _ _
      | exact ih2 _ _ _ _ _
      | exact ih3 _ _ _ _ _ _
      | exact ih4 _ _ _ _ _ _ _
      | exact LeO.none _
      | refine LeO.ite ?_ ?_
      | refine LeO.bind ?_ (fun _ => ?_)
    · intro y0 y1 y2 y3
      unfold spec_l21Write.l1
      repeat' first
      | (with_reducible exact ih0 _ _ _)
      | (with_reducible exact ih1 _ _ _ _)
      | (with_reducible exact ih2 _ _ _ _ _)
      | (with_reducible exact ih3 _ _ _ _ _ _)
      | (with_reducible exact ih4 _ _ _ _ _ _ _)
      | (with_reducible exact LeO.refl _)
      | (with_reducible exact LeO.none _)
      | (with_reducible refine LeO.ite ?_ ?_)
      | (with_reducible refine LeO.bind ?_ (fun _ => ?_))
      | exact ih0 _ _ _
      | exact ih1 _ _ _ _
      | exact ih2 _ _ _ _ _
      | exact ih3 _ _ _ _ _ _
      | exact ih4 _ _ _ _ _ _ _
      | exact LeO.none _
      | refine LeO.ite ?_ ?_
      | refine LeO.bind ?_ (fun _ => ?_)
    · intro y0 y1 y2 y3 y4
      unfold spec_l21Write.l2
      repeat' first
      | (with_reducible exact ih0 _ _ _)
      | (with_reducible exact ih1 _ _ _ _)
      | (with_reducible exact ih2 _ _ _ _ _)
      | (with_reducible exact ih3 _ _ _ _ _ _)
      | (with_reducible exact ih4 _ _ _ _ _ _ _)
      | (with_reducible exact LeO.refl _)
      | (with_reducible exact LeO.none _)
      | (with_reducible refine LeO.ite ?_ ?_)
      | (with_reducible refine LeO.bind ?_ (fun _ => ?_))
      | exact ih0 _ _ _
      | exact ih1 _ _ _ _
      | exact ih2 _ _ _ _ _
      | exact ih3 _ _ _ _ _ _
      | exact ih4 _ _ _ _ _ _ _
      | exact LeO.none _
      | refine LeO.ite ?_ ?_
      | refine LeO.bind ?_ (fun _ => ?_)
    · intro y0 y1 y2 y3 y4 y5
      unfold spec_l21Write.j3
      repeat' first
      | (with_reducible exact ih0 _ _ _)
      | (with_reducible exact ih1 _ _ _ _)
      | (with_reducible exact ih2 _ _ _ _ _)
      | (with_reducible exact ih3 _ _ _ _ _ _)
      | (with_reducible exact ih4 _ _ _ _ _ _ _)
      | (with_reducible exact LeO.refl _)
      | (with_reducible exact LeO.none _)
      | (with_reducible refine LeO.ite ?_ ?_)
      | (with_reducible refine LeO.bind ?_ (fun _ => ?_))
      | exact ih0 _ _ _
      | exact ih1 _ _ _ _
      | exact ih2 _ _ _ _ _
      | exact ih3 _ _ _ _ _ _
      | exact ih4 _ _ _ _ _ _ _
      | exact LeO.none _
      | refine LeO.ite ?_ ?_
      | refine LeO.bind ?_ (fun _ => ?_)
    · intro y0 y1 y2 y3 y4 y5 y6
      unfold spec_l21Write.l3
      repeat' first
      | (with_reducible exact ih0 _ _ _)
      | (with_reducible exact ih1 _ _ _ _)
      | (with_reducible exact ih2 _ _ _ _ _)
      | (with_reducible exact ih3 _ _ _ _ _ _)
      | (with_reducible exact ih4 _ _ _ _ _ _ _)
      | (with_reducible exact LeO.refl _)
      | (with_reducible exact LeO.none _)
      | (with_reducible refine LeO.ite ?_ ?_)
      | (with_reducible refine LeO.bind ?_ (fun _ => ?_))
      | exact ih0 _ _ _
      | exact ih1 _ _ _ _
      | exact ih2 _ _ _ _ _
      | exact ih3 _ _ _ _ _ _
      | exact ih4 _ _ _ _ _ _ _
      | exact LeO.none _
      | refine LeO.ite ?_ ?_
      | refine LeO.bind ?_ (fun _ => ?_)
theorem spec_l21Write.mono : ∀ a0 k, LeO (spec_l21Write.f k a0) (spec_l21Write.f (k + 1) a0) := by
  intro a0 k
  obtain ⟨ih0, ih1, ih2, ih3, ih4⟩ := spec_l21Write.mono_l k
  unfold spec_l21Write.f
  repeat' first
      | (with_reducible exact ih0 _ _ _)
      | (with_reducible exact ih1 _ _ _ _)
      | (with_reducible exact ih2 _ _ _ _ _)
      | (with_reducible exact ih3 _ _ _ _ _ _)
      | (with_reducible exact ih4 _ _ _ _ _ _ _)
      | (with_reducible exact LeO.refl _)
      | (with_reducible exact LeO.none _)
      | (with_reducible refine LeO.ite ?_ ?_)
      | (with_reducible refine LeO.bind ?_ (fun _ => ?_))
      | exact ih0 _ _ _
      | exact ih1 _ _ _ _
      | exact ih2 _ _ _ _ _
      | exact ih3 _ _ _ _ _ _
      | exact ih4 _ _ _ _ _ _ _
      | exact LeO.none _
      | refine LeO.ite ?_ ?_
      | refine LeO.bind ?_ (fun _ => ?_)
set_option maxHeartbeats 8000000 in
set_option maxRecDepth 100000 in
theorem spec_l21Write.calls (k : Nat) (A0 : Option Addr) (c0 : Nat) (l0 : List (S36)) (r : List Int) (w : World) (hr0 : Kd.C k36 w A0 l0.length l0) (hc0 : l0.length ≤ c0) (h : spec_l21Write.f k l0 = some r) :
    Calls Try.prog 14 #[.slice A0 l0.length c0] w fun e w' => ∃ v0_ : Value, e = .returned (v0_) ∧ Kd.R (Kd.int .u8) 5 w' w.heap.size (fun _ => True) v0_ r ∧ Below w.heap.size w w' := by
  have HR0 := Aside0.mk hr0
  have HC0 := Aside0.mk hc0
  clear hr0 hc0
  have HB := Aside0.mk (Below.refl w.heap.size w)
  have H : (spec_l21Write.l0 k l0 (([] : List Int)) 0) = some r := h
  clear h
  obtain ⟨y155, hy155⟩ : ∃ y_ : List Int, y_ = (([] : List Int)) := ⟨_, rfl⟩
  replace H : (spec_l21Write.l0 k l0 y155 0) = some r := by first | (rw [hy155]; with_reducible exact H) | (have H2_ := (Option.bind_some _ _).symm.trans H; rw [hy155]; with_reducible exact H2_) | (have H2_ := (Option.bind_some _ _).symm.trans H; with_reducible exact H2_) | with_reducible exact H | (rw [hy155]; exact H) | exact H
  have Ny155 := Aside0.mk hy155
  clear hy155
  have H' := Aside0.mk H
  clear H
  go_enter Try.func14, Try.ntmps14
  go_wp2_with (first | ((with_reducible refine gate_dst (N := 10) rfl ?_); refine Kd.R_lit (Kd.int .u8) _ 5 ?hg (N := 10) ?hd (xs := ([] : List Int)) (inner := []) (ok := fun _ => True) (okp := fun _ => True) ?hr ?hp (fun _ hk => hk) trivial (Below.refl _ _) (Nat.le_refl _) (by simp) ?_; (case hd => rfl); (case hg => rfl); (case hr => first | (go_simp; done) | (go_simp; rfl)); (case hp => exact (Reps.none _ _)); intro v156 w2 ho3 hb hg_ hnew_; clear hg_ hnew_; (first | rw [← Ny155.out] at ho3 | (simp only [Int.reduceToNat] at ho3; rw [← Ny155.out] at ho3)); have n0_ := Aside0.mk (Kd.R_lower ho3 (below_size (by repeat (first | (with_reducible first | exact HB.out | apply below_alloc | apply pw_below_drewN | apply below_drew1) | exact HB.out)))); have n1_ := Aside0.mk (below_step (by repeat (first | (with_reducible first | exact HB.out | apply below_alloc | apply pw_below_drewN | apply below_drew1) | exact HB.out)) hb); clear HB; have HO157 := n0_; have HB := n1_; clear n0_ n1_; clear hb ho3))
  go_loopg [3, 4] k (fun kq v3 v4 w' => ∃ (x3_1 : List Int) (x4_1 : Int), v4 = .int .i64 x4_1 ∧ Aside0 (spec_l21Write.l0 kq l0 x3_1 x4_1 = some r) ∧ Aside0 (kq ≤ k) ∧ Aside0 (Kd.R (Kd.int .u8) 5 w' w.heap.size (fun _ => True) v3 x3_1) ∧ Aside0 (Below w.heap.size w w'))
  case atStart => exact ⟨(y155), (0), (by first | rfl | (simp; done) | (simp [*]; done) | (simp [wrap64]; done)), H', ⟨Nat.le_refl _⟩, ⟨by (with_reducible repeat (first | apply Kd.R_alloc | apply Kd.R_drewN | apply Kd.R_drew)); exact HO157.out⟩, ⟨by repeat (first | (with_reducible first | exact HB.out | apply below_alloc | apply pw_below_drewN | apply below_drew1) | exact HB.out)⟩⟩
  case round =>
    clear H'
    try clear c1
    try clear p2
    obtain ⟨x3_1, x4_1, rfl, HA, HK1, HO_3, HB⟩ := hrel
    cases gk with
    | zero => exact absurd HA.out (by simp [spec_l21Write.l0])
    | succ k1 =>
      have H := HA.out
      clear HA
      simp only [spec_l21Write.l0] at H
      by_cases c4 : x4_1 < (l0.length : Int)
      · rw [if_pos c4] at H
        have c4b0 : decide (x4_1 < (l0.length : Int)) = true := decide_eq_true c4
        clear c4
        by_cases c5 : 0 ≤ x4_1
        · rw [if_pos c5] at H
          have c5b0 : decide (0 ≤ x4_1) = true := decide_eq_true c5
          clear c5
          by_cases c6 : x3_1.length + ((rd_T36 l0 x4_1).f0).size < 140737488355328
          · rw [if_pos c6] at H
            have LMc6 := Aside0.mk c6
            clear c6
            obtain ⟨y159, hy159⟩ : ∃ y_ : List Int, y_ = (x3_1 ++ bytesOf ((rd_T36 l0 x4_1).f0)) := ⟨_, rfl⟩
            replace H : (spec_l21Write.l1 k1 l0 y159 x4_1 0) = some r := by first | (rw [hy159]; with_reducible exact H) | (have H2_ := (Option.bind_some _ _).symm.trans H; rw [hy159]; with_reducible exact H2_) | (have H2_ := (Option.bind_some _ _).symm.trans H; with_reducible exact H2_) | with_reducible exact H | (rw [hy159]; exact H) | exact H
            have Ny159 := Aside0.mk hy159
            clear hy159
            have H' := Aside0.mk H
            clear H
            have p158 : 0 ≤ (x4_1 : Int) := of_decide_eq_true (by first | (with_reducible assumption) | assumption)
            have q158 : x4_1 < (l0.length : Int) := of_decide_eq_true (by first | (with_reducible assumption) | assumption)
            obtain ⟨ad158, A158_1, c158_1, e158, hx158_0, hx158_1, hl158_1, hi158_1⟩ := at_T36 HR0.out x4_1 p158 q158
            cases e158
            replace hx158_0 := (HB.out.cell (World.block_lt_of_cell? w _ hx158_0)).trans hx158_0
            replace hx158_1 := (HB.out.cell (World.block_lt_of_cell? w _ hx158_1)).trans hx158_1
            have HR158_1 := Aside0.mk hi158_1
            have HC158_1 := Aside0.mk hl158_1
            clear hi158_1 hl158_1
            replace p158 := eq_true p158
            replace q158 := eq_true q158
            go_wp2_with (first | (at_builtin; refine print_append_str (w0 := w) w.heap.size rfl (.tmp 17) _ 37 9 5 rfl Try.underlying37 Try.underlying9 info5 u3 x3_1 ((rd_T36 l0 x4_1).f0) rfl rfl ?aO ?aB ?aS ?aL ?_; (case aB => exact (by repeat (first | (with_reducible first | exact HB.out | apply below_alloc | apply pw_below_drewN | apply below_drew1) | exact HB.out))); (case aO => exact (Kd.own_of_R (by (with_reducible repeat (first | apply Kd.R_alloc | apply Kd.R_drewN | apply Kd.R_drew)); exact HO_3.out))); (case aS => exact (below_size (by repeat (first | (with_reducible first | exact HB.out | apply below_alloc | apply pw_below_drewN | apply below_drew1) | exact HB.out)))); (case aL => have := LMc6.out; omega); intro v160 w7 ho0 hb hg; have ho := Kd.R_of_own (h1 := fun _ => rfl) (ok := fun _ => True) ho0 (fun _ _ => trivial); clear ho0; have hat := True.intro; rw [← Ny159.out] at ho; change Kd.R (Kd.int .u8) 5 w7 w.heap.size (fun _ => True) v160 y159 at ho; have n0_ := Aside0.mk (hb); have n1_ := Aside0.mk (ho); clear HB; clear HO_3; have HB := n0_; have HO161 := n1_; clear n0_ n1_; clear ho hb hg hat))
            go_loopg [3, 5] k1 (fun kq v3 v5 w' => ∃ (x3_2 : List Int) (x5_2 : Int), v5 = .int .i64 x5_2 ∧ Aside0 (spec_l21Write.l1 kq l0 x3_2 x4_1 x5_2 = some r) ∧ Aside0 (kq ≤ k1) ∧ Aside0 (Kd.R (Kd.int .u8) 5 w' w.heap.size (fun _ => True) v3 x3_2) ∧ Aside0 (Below w.heap.size w w'))
            case atStart => exact ⟨(y159), (0), (by first | rfl | (simp; done) | (simp [*]; done) | (simp [wrap64]; done)), H', ⟨Nat.le_refl _⟩, ⟨by (with_reducible repeat (first | apply Kd.R_alloc | apply Kd.R_drewN | apply Kd.R_drew)); exact HO161.out⟩, ⟨by repeat (first | (with_reducible first | exact HB.out | apply below_alloc | apply pw_below_drewN | apply below_drew1) | exact HB.out)⟩⟩
            case round =>
              clear H'
              try clear c1
              try clear p1
              try clear q1
              try clear hx1
              try clear p2
              try clear c4
              try clear c4b0
              try clear c5
              try clear c5b0
              try clear c6
              try clear p6
              try clear hx158_0
              try clear hx158_1
              try clear p158
              try clear p2
              try clear q158
              obtain ⟨x3_2, x5_2, rfl, HA, HK2, HO_3, HB⟩ := hrel
              cases gk with
              | zero => exact absurd HA.out (by simp [spec_l21Write.l1])
              | succ k2 =>
                have H := HA.out
                clear HA
                simp only [spec_l21Write.l1] at H
                by_cases c8 : 0 ≤ x4_1
                · rw [if_pos c8] at H
                  have c8b0 : decide (0 ≤ x4_1) = true := decide_eq_true c8
                  clear c8
                  by_cases c9 : x4_1 < (l0.length : Int)
                  · rw [if_pos c9] at H
                    have c9b0 : decide (x4_1 < (l0.length : Int)) = true := decide_eq_true c9
                    clear c9
                    by_cases c10 : x5_2 < (((rd_T36 l0 x4_1).f1).length : Int)
                    · rw [if_pos c10] at H
                      have c10b0 : decide (x5_2 < (((rd_T36 l0 x4_1).f1).length : Int)) = true := decide_eq_true c10
                      clear c10
                      have H' := Aside0.mk H
                      clear H
                      have p162 : 0 ≤ (x4_1 : Int) := of_decide_eq_true (by first | (with_reducible assumption) | assumption)
                      have q162 : x4_1 < (l0.length : Int) := of_decide_eq_true (by first | (with_reducible assumption) | assumption)
                      obtain ⟨ad162, A162_1, c162_1, e162, hx162_0, hx162_1, hl162_1, hi162_1⟩ := at_T36 HR0.out x4_1 p162 q162
                      obtain rfl : ad158 = ad162 := (by injection e162)
                      replace hx162_0 := (HB.out.cell (World.block_lt_of_cell? w _ hx162_0)).trans hx162_0
                      replace hx162_1 := (HB.out.cell (World.block_lt_of_cell? w _ hx162_1)).trans hx162_1
                      have HR162_1 := Aside0.mk hi162_1
                      have HC162_1 := Aside0.mk hl162_1
                      clear hi162_1 hl162_1
                      replace p162 := eq_true p162
                      replace q162 := eq_true q162
                      go_wp2
                      go_loopg [3, 6] k2 (fun kq v3 v6 w' => ∃ (x3_3 : List Int) (x6_3 : Int), v6 = .int .i64 x6_3 ∧ Aside0 (spec_l21Write.l2 kq l0 x3_3 x4_1 x5_2 x6_3 = some r) ∧ Aside0 (kq ≤ k2) ∧ Aside0 (Kd.R (Kd.int .u8) 5 w' w.heap.size (fun _ => True) v3 x3_3) ∧ Aside0 (Below w.heap.size w w'))
                      case atStart => exact ⟨(x3_2), (0), (by first | rfl | (simp; done) | (simp [*]; done) | (simp [wrap64]; done)), H', ⟨Nat.le_refl _⟩, ⟨by (with_reducible repeat (first | apply Kd.R_alloc | apply Kd.R_drewN | apply Kd.R_drew)); exact HO_3.out⟩, ⟨by repeat (first | (with_reducible first | exact HB.out | apply below_alloc | apply pw_below_drewN | apply below_drew1) | exact HB.out)⟩⟩
                      case round =>
                        clear H'
                        try clear c1
                        try clear p1
                        try clear q1
                        try clear hx1
                        try clear p2
                        try clear c4
                        try clear c4b0
                        try clear c5
                        try clear c5b0
                        try clear c6
                        try clear p6
                        try clear c8
                        try clear c8b0
                        try clear c9
                        try clear c9b0
                        try clear c10
                        try clear c10b0
                        try clear hx158_0
                        try clear hx158_1
                        try clear hx162_0
                        try clear hx162_1
                        try clear p1
                        try clear p158
                        try clear p162
                        try clear p2
                        try clear p6
                        try clear q1
                        try clear q158
                        try clear q162
                        obtain ⟨x3_3, x6_3, rfl, HA, HK3, HO_3, HB⟩ := hrel
                        cases gk with
                        | zero => exact absurd HA.out (by simp [spec_l21Write.l2])
                        | succ k3 =>
                          have H := HA.out
                          clear HA
                          simp only [spec_l21Write.l2] at H
                          by_cases c11 : 0 ≤ x4_1
                          · rw [if_pos c11] at H
                            have c11b0 : decide (0 ≤ x4_1) = true := decide_eq_true c11
                            clear c11
                            by_cases c12 : x4_1 < (l0.length : Int)
                            · rw [if_pos c12] at H
                              have c12b0 : decide (x4_1 < (l0.length : Int)) = true := decide_eq_true c12
                              clear c12
                              by_cases c13 : 0 ≤ x5_2
                              · rw [if_pos c13] at H
                                have c13b0 : decide (0 ≤ x5_2) = true := decide_eq_true c13
                                clear c13
                                by_cases c14 : x5_2 < (((rd_T36 l0 x4_1).f1).length : Int)
                                · rw [if_pos c14] at H
                                  have c14b0 : decide (x5_2 < (((rd_T36 l0 x4_1).f1).length : Int)) = true := decide_eq_true c14
                                  clear c14
                                  by_cases c15 : x6_3 < ((rd_L1 ((rd_T36 l0 x4_1).f1) x5_2).length : Int)
                                  · rw [if_pos c15] at H
                                    have c15b0 : decide (x6_3 < ((rd_L1 ((rd_T36 l0 x4_1).f1) x5_2).length : Int)) = true := decide_eq_true c15
                                    clear c15
                                    have HC16 := Aside0.mk H
                                    clear H
                                    have p166 : 0 ≤ (x4_1 : Int) := of_decide_eq_true (by first | (with_reducible assumption) | assumption)
                                    have q166 : x4_1 < (l0.length : Int) := of_decide_eq_true (by first | (with_reducible assumption) | assumption)
                                    obtain ⟨ad166, A166_1, c166_1, e166, hx166_0, hx166_1, hl166_1, hi166_1⟩ := at_T36 HR0.out x4_1 p166 q166
                                    obtain rfl : ad158 = ad166 := (by injection e166)
                                    replace hx166_0 := (HB.out.cell (World.block_lt_of_cell? w _ hx166_0)).trans hx166_0
                                    replace hx166_1 := (HB.out.cell (World.block_lt_of_cell? w _ hx166_1)).trans hx166_1
                                    have HR166_1 := Aside0.mk hi166_1
                                    have HC166_1 := Aside0.mk hl166_1
                                    clear hi166_1 hl166_1
                                    replace p166 := eq_true p166
                                    replace q166 := eq_true q166
                                    have p167 : 0 ≤ (x5_2 : Int) := of_decide_eq_true (by first | (with_reducible assumption) | assumption)
                                    have q167 : x5_2 < (((rd_T36 l0 x4_1).f1).length : Int) := of_decide_eq_true (by first | (with_reducible assumption) | assumption)
                                    obtain ⟨ad167, A167_0, c167_0, e167, hx167_0, hl167_0, hi167_0⟩ := at_L1 HR166_1.out x5_2 p167 q167
                                    cases e167
                                    replace hx167_0 := (HB.out.cell (World.block_lt_of_cell? w _ hx167_0)).trans hx167_0
                                    have HR167_0 := Aside0.mk hi167_0
                                    have HC167_0 := Aside0.mk hl167_0
                                    clear hi167_0 hl167_0
                                    replace p167 := eq_true p167
                                    replace q167 := eq_true q167
                                    go_upto_if 48 with (fail)
                                    go_cut [7] (fun v7 wc => ∃ (kq : Nat) (x7_15 : Int), v7 = .int .u8 x7_15 ∧ Aside0 (spec_l21Write.j3 kq l0 x3_3 x4_1 x5_2 x6_3 x7_15 = some r) ∧ Aside0 (kq ≤ k3) ∧ Aside0 (Kd.R (Kd.int .u8) 5 wc w.heap.size (fun _ => True) u3 x3_3) ∧ Aside0 (Below w.heap.size w wc))
                                    case first =>
                                      have H := HC16.out
                                      clear HC16
                                      by_cases c17 : x6_3 = 0
                                      · rw [if_pos c17] at H
                                        have c17b0 : (x6_3 == 0) = true := beq_iff_eq.mpr c17
                                        have c17b1 : (x6_3 != 0) = false := bne_eq_false_iff_eq.mpr c17
                                        clear c17
                                        (first | rw [c17b0] | (simp only [i64_w, i32_w]; rw [c17b0]) | skip)
                                        have H' := Aside0.mk H
                                        clear H
                                        go_wp2
                                        go_meet
                                        case rel => exact ⟨_, (43), (by first | rfl | (simp; done) | (simp [*]; done) | (simp [wrap64]; done)), H', ⟨by have := HK1.out; have := HK2.out; have := HK3.out; first | omega | exact Nat.le_refl _⟩, ⟨by (with_reducible repeat (first | apply Kd.R_alloc | apply Kd.R_drewN | apply Kd.R_drew)); exact HO_3.out⟩, ⟨by repeat (first | (with_reducible first | exact HB.out | apply below_alloc | apply pw_below_drewN | apply below_drew1) | exact HB.out)⟩⟩
                                      · rw [if_neg c17] at H
                                        have c17b0 : (x6_3 == 0) = false := beq_eq_false_iff_ne.mpr c17
                                        have c17b1 : (x6_3 != 0) = true := bne_iff_ne.mpr c17
                                        (first | rw [c17b0] | (simp only [i64_w, i32_w]; rw [c17b0]) | skip)
                                        have H' := Aside0.mk H
                                        clear H
                                        go_wp2
                                        go_meet
                                        case rel => exact ⟨_, (58), (by first | rfl | (simp; done) | (simp [*]; done) | (simp [wrap64]; done)), H', ⟨by have := HK1.out; have := HK2.out; have := HK3.out; first | omega | exact Nat.le_refl _⟩, ⟨by (with_reducible repeat (first | apply Kd.R_alloc | apply Kd.R_drewN | apply Kd.R_drew)); exact HO_3.out⟩, ⟨by repeat (first | (with_reducible first | exact HB.out | apply below_alloc | apply pw_below_drewN | apply below_drew1) | exact HB.out)⟩⟩
                                    case rest =>
                                      clear HC16
                                      try clear c1
                                      try clear p1
                                      try clear q1
                                      try clear hx1
                                      try clear p2
                                      try clear c4
                                      try clear c4b0
                                      try clear c5
                                      try clear c5b0
                                      try clear c6
                                      try clear p6
                                      try clear c8
                                      try clear c8b0
                                      try clear c9
                                      try clear c9b0
                                      try clear c10
                                      try clear c10b0
                                      try clear c11
                                      try clear c11b0
                                      try clear c12
                                      try clear c12b0
                                      try clear c13
                                      try clear c13b0
                                      try clear c14
                                      try clear c14b0
                                      try clear c15
                                      try clear c15b0
                                      try clear p15
                                      try clear q15
                                      try clear hx15
                                      try clear c16
                                      try clear p16
                                      try clear q16
                                      try clear hx16
                                      try clear c17
                                      try clear c17b0
                                      try clear c17b1
                                      try clear hx158_0
                                      try clear hx158_1
                                      try clear hx162_0
                                      try clear hx162_1
                                      try clear hx166_0
                                      try clear hx166_1
                                      try clear hx167_0
                                      try clear p1
                                      try clear p158
                                      try clear p162
                                      try clear p166
                                      try clear p167
                                      try clear p2
                                      try clear p6
                                      try clear q1
                                      try clear q158
                                      try clear q162
                                      try clear q166
                                      try clear q167
                                      obtain ⟨kq, x7_15, rfl, HA, HJ15, HO_3, HB⟩ := hcut
                                      cases kq with
                                      | zero => exact absurd HA.out (by simp [spec_l21Write.j3])
                                      | succ kj15 =>
                                        have H := HA.out
                                        clear HA
                                        simp only [spec_l21Write.j3] at H
                                        by_cases c18 : x3_3.length < 140737488355328
                                        · rw [if_pos c18] at H
                                          have LMc18 := Aside0.mk c18
                                          clear c18
                                          obtain ⟨y168, hy168⟩ : ∃ y_ : List Int, y_ = (x3_3 ++ [x7_15]) := ⟨_, rfl⟩
                                          replace H : (if 0 ≤ x4_1 then (if x4_1 < (l0.length : Int) then (if 0 ≤ x5_2 then (if x5_2 < (((rd_T36 l0 x4_1).f1).length : Int) then (if 0 ≤ x6_3 then (if x6_3 < ((rd_L1 ((rd_T36 l0 x4_1).f1) x5_2).length : Int) then (spec_l21Write.l3 kj15 l0 y168 x4_1 x5_2 x6_3 (rdOf ByteArray.empty (rd_L1 ((rd_T36 l0 x4_1).f1) x5_2) x6_3) 0) else (none)) else (none)) else (none)) else (none)) else (none)) else (none)) = some r := by first | (rw [hy168]; with_reducible exact H) | (have H2_ := (Option.bind_some _ _).symm.trans H; rw [hy168]; with_reducible exact H2_) | (have H2_ := (Option.bind_some _ _).symm.trans H; with_reducible exact H2_) | with_reducible exact H | (rw [hy168]; exact H) | exact H
                                          have Ny168 := Aside0.mk hy168
                                          clear hy168
                                          by_cases c19 : 0 ≤ x4_1
                                          · rw [if_pos c19] at H
                                            have c19b0 : decide (0 ≤ x4_1) = true := decide_eq_true c19
                                            clear c19
                                            by_cases c20 : x4_1 < (l0.length : Int)
                                            · rw [if_pos c20] at H
                                              have c20b0 : decide (x4_1 < (l0.length : Int)) = true := decide_eq_true c20
                                              clear c20
                                              by_cases c21 : 0 ≤ x5_2
                                              · rw [if_pos c21] at H
                                                have c21b0 : decide (0 ≤ x5_2) = true := decide_eq_true c21
                                                clear c21
                                                by_cases c22 : x5_2 < (((rd_T36 l0 x4_1).f1).length : Int)
                                                · rw [if_pos c22] at H
                                                  have c22b0 : decide (x5_2 < (((rd_T36 l0 x4_1).f1).length : Int)) = true := decide_eq_true c22
                                                  clear c22
                                                  by_cases c23 : 0 ≤ x6_3
                                                  · rw [if_pos c23] at H
                                                    have c23b0 : decide (0 ≤ x6_3) = true := decide_eq_true c23
                                                    clear c23
                                                    by_cases c24 : x6_3 < ((rd_L1 ((rd_T36 l0 x4_1).f1) x5_2).length : Int)
                                                    · rw [if_pos c24] at H
                                                      have c24b0 : decide (x6_3 < ((rd_L1 ((rd_T36 l0 x4_1).f1) x5_2).length : Int)) = true := decide_eq_true c24
                                                      clear c24
                                                      have H' := Aside0.mk H
                                                      clear H
                                                      go_wp2_with (first | ((with_reducible refine gate_builtin (b := .append) (xs := #[.tmp 49, .tmp 51]) rfl ?_); at_builtin; refine Kd.R_append (Kd.int .u8) (w0 := w) w.heap.size rfl (.tmp 49) (.tmp 51) 37 5 (.int .u8 0) 1 rfl Try.underlying37 info5 rfl (by decide) (by omega) u3 x3_3 x7_15 [.int .u8 x7_15] (fun _ => True) (fun _ => False) rfl rfl ?aP (fun _ hk => hk.elim) ?aF ?aO ?aB ?aS ?aL ?_; (case aP => exact rfl); (case aB => exact (by repeat (first | (with_reducible first | exact HB.out | apply below_alloc | apply pw_below_drewN | apply below_drew1) | exact HB.out))); (case aF => exact (fun _ _ => trivial)); (case aO => exact (by (with_reducible repeat (first | apply Kd.R_alloc | apply Kd.R_drewN | apply Kd.R_drew)); exact HO_3.out)); (case aS => exact (below_size (by repeat (first | (with_reducible first | exact HB.out | apply below_alloc | apply pw_below_drewN | apply below_drew1) | exact HB.out)))); (case aL => have := LMc18.out; omega); intro v169 w25 ho hb hg hat; rw [← Ny168.out] at ho; have n0_ := Aside0.mk (hb); have n1_ := Aside0.mk (ho); clear HB; clear HO_3; have HB := n0_; have HO170 := n1_; clear n0_ n1_; clear ho hb hg hat; have p171 : 0 ≤ (x4_1 : Int) := of_decide_eq_true (by first | (with_reducible assumption) | assumption); have q171 : x4_1 < (l0.length : Int) := of_decide_eq_true (by first | (with_reducible assumption) | assumption); obtain ⟨ad171, A171_1, c171_1, e171, hx171_0, hx171_1, hl171_1, hi171_1⟩ := at_T36 HR0.out x4_1 p171 q171; obtain rfl : ad158 = ad171 := (by injection e171); replace hx171_0 := (HB.out.cell (World.block_lt_of_cell? w _ hx171_0)).trans hx171_0; replace hx171_1 := (HB.out.cell (World.block_lt_of_cell? w _ hx171_1)).trans hx171_1; have HR171_1 := Aside0.mk hi171_1; have HC171_1 := Aside0.mk hl171_1; clear hi171_1 hl171_1; replace p171 := eq_true p171; replace q171 := eq_true q171; have p172 : 0 ≤ (x5_2 : Int) := of_decide_eq_true (by first | (with_reducible assumption) | assumption); have q172 : x5_2 < (((rd_T36 l0 x4_1).f1).length : Int) := of_decide_eq_true (by first | (with_reducible assumption) | assumption); obtain ⟨ad172, A172_0, c172_0, e172, hx172_0, hl172_0, hi172_0⟩ := at_L1 HR171_1.out x5_2 p172 q172; cases e172; replace hx172_0 := (HB.out.cell (World.block_lt_of_cell? w _ hx172_0)).trans hx172_0; have HR172_0 := Aside0.mk hi172_0; have HC172_0 := Aside0.mk hl172_0; clear hi172_0 hl172_0; replace p172 := eq_true p172; replace q172 := eq_true q172; have p173 : 0 ≤ (x6_3 : Int) := of_decide_eq_true (by first | (with_reducible assumption) | assumption); have q173 : x6_3 < ((rd_L1 ((rd_T36 l0 x4_1).f1) x5_2).length : Int) := of_decide_eq_true (by first | (with_reducible assumption) | assumption); obtain ⟨ad173, e173, hx173_0⟩ := Kd.at_string HR172_0.out x6_3 p173 q173; cases e173; replace hx173_0 := (HB.out.cell (World.block_lt_of_cell? w _ hx173_0)).trans hx173_0; replace p173 := eq_true p173; replace q173 := eq_true q173))
                                                      go_loopg [3, 9] kj15 (fun kq v3 v9 w' => ∃ (x3_5 : List Int) (x9_5 : Int), v9 = .int .i64 x9_5 ∧ Aside0 (spec_l21Write.l3 kq l0 x3_5 x4_1 x5_2 x6_3 (rdOf ByteArray.empty (rd_L1 ((rd_T36 l0 x4_1).f1) x5_2) x6_3) x9_5 = some r) ∧ Aside0 (kq ≤ kj15) ∧ Aside0 (Kd.R (Kd.int .u8) 5 w' w.heap.size (fun _ => True) v3 x3_5) ∧ Aside0 (Below w.heap.size w w'))
                                                      case atStart => exact ⟨(y168), (0), (by first | rfl | (simp; done) | (simp [*]; done) | (simp [wrap64]; done)), H', ⟨Nat.le_refl _⟩, ⟨by (with_reducible repeat (first | apply Kd.R_alloc | apply Kd.R_drewN | apply Kd.R_drew)); exact HO170.out⟩, ⟨by repeat (first | (with_reducible first | exact HB.out | apply below_alloc | apply pw_below_drewN | apply below_drew1) | exact HB.out)⟩⟩
                                                      case round =>
                                                        clear H'
                                                        try clear c1
                                                        try clear p1
                                                        try clear q1
                                                        try clear hx1
                                                        try clear c2
                                                        try clear p2
                                                        try clear c4
                                                        try clear c4b0
                                                        try clear c5
                                                        try clear c5b0
                                                        try clear c6
                                                        try clear p6
                                                        try clear c8
                                                        try clear c8b0
                                                        try clear c9
                                                        try clear c9b0
                                                        try clear c10
                                                        try clear c10b0
                                                        try clear c11
                                                        try clear c11b0
                                                        try clear c12
                                                        try clear c12b0
                                                        try clear c13
                                                        try clear c13b0
                                                        try clear c14
                                                        try clear c14b0
                                                        try clear c15
                                                        try clear c15b0
                                                        try clear p15
                                                        try clear q15
                                                        try clear hx15
                                                        try clear c16
                                                        try clear p16
                                                        try clear q16
                                                        try clear hx16
                                                        try clear c17
                                                        try clear c17b0
                                                        try clear c17b1
                                                        try clear p17
                                                        try clear q17
                                                        try clear hx17
                                                        try clear c18
                                                        try clear c19
                                                        try clear c19b0
                                                        try clear c20
                                                        try clear c20b0
                                                        try clear c21
                                                        try clear c21b0
                                                        try clear c22
                                                        try clear c22b0
                                                        try clear c23
                                                        try clear c23b0
                                                        try clear c24
                                                        try clear c24b0
                                                        try clear hx158_0
                                                        try clear hx158_1
                                                        try clear hx162_0
                                                        try clear hx162_1
                                                        try clear hx166_0
                                                        try clear hx166_1
                                                        try clear hx167_0
                                                        try clear hx171_0
                                                        try clear hx171_1
                                                        try clear hx172_0
                                                        try clear hx173_0
                                                        try clear p1
                                                        try clear p15
                                                        try clear p158
                                                        try clear p16
                                                        try clear p162
                                                        try clear p166
                                                        try clear p167
                                                        try clear p171
                                                        try clear p172
                                                        try clear p173
                                                        try clear p2
                                                        try clear p6
                                                        try clear q1
                                                        try clear q15
                                                        try clear q158
                                                        try clear q16
                                                        try clear q162
                                                        try clear q166
                                                        try clear q167
                                                        try clear q171
                                                        try clear q172
                                                        try clear q173
                                                        obtain ⟨x3_5, x9_5, rfl, HA, HK5, HO_3, HB⟩ := hrel
                                                        cases gk with
                                                        | zero => exact absurd HA.out (by simp [spec_l21Write.l3])
                                                        | succ k5 =>
                                                          have H := HA.out
                                                          clear HA
                                                          simp only [spec_l21Write.l3] at H
                                                          by_cases c26 : x9_5 < ((rdOf ByteArray.empty (rd_L1 ((rd_T36 l0 x4_1).f1) x5_2) x6_3).size : Int)
                                                          · rw [if_pos c26] at H
                                                            have c26b0 : decide (x9_5 < ((rdOf ByteArray.empty (rd_L1 ((rd_T36 l0 x4_1).f1) x5_2) x6_3).size : Int)) = true := decide_eq_true c26
                                                            clear c26
                                                            by_cases c27 : 0 ≤ x9_5
                                                            · rw [if_pos c27] at H
                                                              have c27b0 : decide (0 ≤ x9_5) = true := decide_eq_true c27
                                                              clear c27
                                                              replace H := Option.bind_eq_some_iff.mp H
                                                              obtain ⟨t174, A290, H⟩ := H
                                                              replace H : (if t174 = true then (if x3_5.length < 140737488355328 then ((some (x3_5 ++ [63] : List Int)).bind fun y175 => (if y175.length < 140737488355328 then (spec_l21Write.l3 k5 l0 (y175 ++ [bt (rdOf ByteArray.empty (rd_L1 ((rd_T36 l0 x4_1).f1) x5_2) x6_3) x9_5]) x4_1 x5_2 x6_3 (rdOf ByteArray.empty (rd_L1 ((rd_T36 l0 x4_1).f1) x5_2) x6_3) (wrap64 (x9_5 + 1))) else (none))) else (none)) else (if x3_5.length < 140737488355328 then (spec_l21Write.l3 k5 l0 (x3_5 ++ [bt (rdOf ByteArray.empty (rd_L1 ((rd_T36 l0 x4_1).f1) x5_2) x6_3) x9_5]) x4_1 x5_2 x6_3 (rdOf ByteArray.empty (rd_L1 ((rd_T36 l0 x4_1).f1) x5_2) x6_3) (wrap64 (x9_5 + 1))) else (none))) = some r := H
                                                              have A29 := Aside0.mk A290
                                                              clear A290
                                                              by_cases c30 : t174 = true
                                                              · subst c30
                                                                have H1 : (if x3_5.length < 140737488355328 then ((some (x3_5 ++ [63] : List Int)).bind fun y175 => (if y175.length < 140737488355328 then (spec_l21Write.l3 k5 l0 (y175 ++ [bt (rdOf ByteArray.empty (rd_L1 ((rd_T36 l0 x4_1).f1) x5_2) x6_3) x9_5]) x4_1 x5_2 x6_3 (rdOf ByteArray.empty (rd_L1 ((rd_T36 l0 x4_1).f1) x5_2) x6_3) (wrap64 (x9_5 + 1))) else (none))) else (none)) = some r := by rw [if_pos rfl] at H; exact H
                                                                clear H
                                                                have H := H1
                                                                clear H1
                                                                by_cases c31 : x3_5.length < 140737488355328
                                                                · rw [if_pos c31] at H
                                                                  have LMc31 := Aside0.mk c31
                                                                  clear c31
                                                                  obtain ⟨y175, hy175⟩ : ∃ y_ : List Int, y_ = (x3_5 ++ [63]) := ⟨_, rfl⟩
                                                                  replace H : (if y175.length < 140737488355328 then (spec_l21Write.l3 k5 l0 (y175 ++ [bt (rdOf ByteArray.empty (rd_L1 ((rd_T36 l0 x4_1).f1) x5_2) x6_3) x9_5]) x4_1 x5_2 x6_3 (rdOf ByteArray.empty (rd_L1 ((rd_T36 l0 x4_1).f1) x5_2) x6_3) (wrap64 (x9_5 + 1))) else (none)) = some r := by first | (rw [hy175]; with_reducible exact H) | (have H2_ := (Option.bind_some _ _).symm.trans H; rw [hy175]; with_reducible exact H2_) | (have H2_ := (Option.bind_some _ _).symm.trans H; with_reducible exact H2_) | with_reducible exact H | (rw [hy175]; exact H) | exact H
                                                                  have Ny175 := Aside0.mk hy175
                                                                  clear hy175
                                                                  by_cases c33 : y175.length < 140737488355328
                                                                  · rw [if_pos c33] at H
                                                                    have LMc33 := Aside0.mk c33
                                                                    clear c33
                                                                    obtain ⟨y178, hy178⟩ : ∃ y_ : List Int, y_ = (y175 ++ [bt (rdOf ByteArray.empty (rd_L1 ((rd_T36 l0 x4_1).f1) x5_2) x6_3) x9_5]) := ⟨_, rfl⟩
                                                                    replace H : (spec_l21Write.l3 k5 l0 y178 x4_1 x5_2 x6_3 (rdOf ByteArray.empty (rd_L1 ((rd_T36 l0 x4_1).f1) x5_2) x6_3) (wrap64 (x9_5 + 1))) = some r := by first | (rw [hy178]; with_reducible exact H) | (have H2_ := (Option.bind_some _ _).symm.trans H; rw [hy178]; with_reducible exact H2_) | (have H2_ := (Option.bind_some _ _).symm.trans H; with_reducible exact H2_) | with_reducible exact H | (rw [hy178]; exact H) | exact H
                                                                    have Ny178 := Aside0.mk hy178
                                                                    clear hy178
                                                                    have H' := Aside0.mk H
                                                                    clear H
                                                                    have p28 : 0 ≤ (x9_5 : Int) := of_decide_eq_true (by first | (with_reducible assumption) | assumption)
                                                                    have q28 : x9_5 < ((rdOf ByteArray.empty (rd_L1 ((rd_T36 l0 x4_1).f1) x5_2) x6_3).size : Int) := of_decide_eq_true (by first | (with_reducible assumption) | assumption)
                                                                    have hx28 := bt_at (rdOf ByteArray.empty (rd_L1 ((rd_T36 l0 x4_1).f1) x5_2) x6_3) x9_5
                                                                    replace p28 := eq_true p28
                                                                    replace q28 := eq_true q28
                                                                    go_wp2_with (first | ((with_reducible refine gate_callee (f := 23) rfl ?_); refine goesL_ (some 73) rfl rfl Try.func23 (by kernel_rfl) rfl #[.int .u8 (bt (rdOf ByteArray.empty (rd_L1 ((rd_T36 l0 x4_1).f1) x5_2) x6_3) x9_5)] rfl (by (try simp only [List.map_toArray, List.map_cons, List.map_nil]); first | done | rfl | (simp only [List.length_drop, List.length_take]; rfl)) ?_; (with_reducible refine (spec_l21Mark.calls (bt (rdOf ByteArray.empty (rd_L1 ((rd_T36 l0 x4_1).f1) x5_2) x6_3) x9_5) true _ A29.out).mono ?_); rintro e w' ⟨rfl, ⟨nd, rfl⟩⟩; refine ⟨_, rfl, ?_⟩) | ((with_reducible refine gate_builtin (b := .append) (xs := #[.tmp 74, .tmp 75]) rfl ?_); at_builtin; refine Kd.R_append (Kd.int .u8) (w0 := w) w.heap.size rfl (.tmp 74) (.tmp 75) 37 5 (.int .u8 0) 1 rfl Try.underlying37 info5 rfl (by decide) (by omega) u3 x3_5 63 [.int .u8 63] (fun _ => True) (fun _ => False) rfl rfl ?aP (fun _ hk => hk.elim) ?aF ?aO ?aB ?aS ?aL ?_; (case aP => exact rfl); (case aB => exact (by repeat (first | (with_reducible first | exact HB.out | apply below_alloc | apply pw_below_drewN | apply below_drew1) | exact HB.out))); (case aF => exact (fun _ _ => trivial)); (case aO => exact (by (with_reducible repeat (first | apply Kd.R_alloc | apply Kd.R_drewN | apply Kd.R_drew)); exact HO_3.out)); (case aS => exact (below_size (by repeat (first | (with_reducible first | exact HB.out | apply below_alloc | apply pw_below_drewN | apply below_drew1) | exact HB.out)))); (case aL => have := LMc31.out; omega); intro v176 w34 ho hb hg hat; rw [← Ny175.out] at ho; have n0_ := Aside0.mk (hb); have n1_ := Aside0.mk (ho); clear HB; clear HO_3; have HB := n0_; have HO177 := n1_; clear n0_ n1_; clear ho hb hg hat; have p32 : 0 ≤ (x9_5 : Int) := of_decide_eq_true (by first | (with_reducible assumption) | assumption); have q32 : x9_5 < ((rdOf ByteArray.empty (rd_L1 ((rd_T36 l0 x4_1).f1) x5_2) x6_3).size : Int) := of_decide_eq_true (by first | (with_reducible assumption) | assumption); have hx32 := bt_at (rdOf ByteArray.empty (rd_L1 ((rd_T36 l0 x4_1).f1) x5_2) x6_3) x9_5; replace p32 := eq_true p32; replace q32 := eq_true q32) | ((with_reducible refine gate_builtin (b := .append) (xs := #[.tmp 77, .tmp 81]) rfl ?_); at_builtin; refine Kd.R_append (Kd.int .u8) (w0 := w) w.heap.size rfl (.tmp 77) (.tmp 81) 37 5 (.int .u8 0) 1 rfl Try.underlying37 info5 rfl (by decide) (by omega) v176 y175 (bt (rdOf ByteArray.empty (rd_L1 ((rd_T36 l0 x4_1).f1) x5_2) x6_3) x9_5) [.int .u8 (bt (rdOf ByteArray.empty (rd_L1 ((rd_T36 l0 x4_1).f1) x5_2) x6_3) x9_5)] (fun _ => True) (fun _ => False) rfl rfl ?aP (fun _ hk => hk.elim) ?aF ?aO ?aB ?aS ?aL ?_; (case aP => exact rfl); (case aB => exact (by repeat (first | (with_reducible first | exact HB.out | apply below_alloc | apply pw_below_drewN | apply below_drew1) | exact HB.out))); (case aF => exact (fun _ _ => trivial)); (case aO => exact (by (with_reducible repeat (first | apply Kd.R_alloc | apply Kd.R_drewN | apply Kd.R_drew)); exact HO177.out)); (case aS => exact (below_size (by repeat (first | (with_reducible first | exact HB.out | apply below_alloc | apply pw_below_drewN | apply below_drew1) | exact HB.out)))); (case aL => have := LMc33.out; omega); intro v179 w35 ho hb hg hat; rw [← Ny178.out] at ho; have n0_ := Aside0.mk (hb); have n1_ := Aside0.mk (ho); clear HB; clear HO177; have HB := n0_; have HO180 := n1_; clear n0_ n1_; clear ho hb hg hat))
                                                                    go_roundg k5
                                                                    case measure => have := HK1.out; have := HK2.out; have := HK3.out; have := HJ15.out; have := HK5.out; omega
                                                                    case rel => exact ⟨(y178), (wrap64 (x9_5 + 1)), (by first | rfl | (simp; done) | (simp [*]; done) | (simp [wrap64]; done)), H', ⟨by have := HK1.out; have := HK2.out; have := HK3.out; have := HJ15.out; have := HK5.out; omega⟩, ⟨by (with_reducible repeat (first | apply Kd.R_alloc | apply Kd.R_drewN | apply Kd.R_drew)); exact HO180.out⟩, ⟨by repeat (first | (with_reducible first | exact HB.out | apply below_alloc | apply pw_below_drewN | apply below_drew1) | exact HB.out)⟩⟩
                                                                  · rw [if_neg c33] at H
                                                                    exact absurd H (by simp)
                                                                · rw [if_neg c31] at H
                                                                  exact absurd H (by simp)
                                                              · replace c30 := Bool.eq_false_iff.mpr c30
                                                                subst c30
                                                                have H1 : (if x3_5.length < 140737488355328 then (spec_l21Write.l3 k5 l0 (x3_5 ++ [bt (rdOf ByteArray.empty (rd_L1 ((rd_T36 l0 x4_1).f1) x5_2) x6_3) x9_5]) x4_1 x5_2 x6_3 (rdOf ByteArray.empty (rd_L1 ((rd_T36 l0 x4_1).f1) x5_2) x6_3) (wrap64 (x9_5 + 1))) else (none)) = some r := by rw [if_neg (show ¬ (false = true) by decide)] at H; exact H
                                                                clear H
                                                                have H := H1
                                                                clear H1
                                                                by_cases c37 : x3_5.length < 140737488355328
                                                                · rw [if_pos c37] at H
                                                                  have LMc37 := Aside0.mk c37
                                                                  clear c37
                                                                  obtain ⟨y181, hy181⟩ : ∃ y_ : List Int, y_ = (x3_5 ++ [bt (rdOf ByteArray.empty (rd_L1 ((rd_T36 l0 x4_1).f1) x5_2) x6_3) x9_5]) := ⟨_, rfl⟩
                                                                  replace H : (spec_l21Write.l3 k5 l0 y181 x4_1 x5_2 x6_3 (rdOf ByteArray.empty (rd_L1 ((rd_T36 l0 x4_1).f1) x5_2) x6_3) (wrap64 (x9_5 + 1))) = some r := by first | (rw [hy181]; with_reducible exact H) | (have H2_ := (Option.bind_some _ _).symm.trans H; rw [hy181]; with_reducible exact H2_) | (have H2_ := (Option.bind_some _ _).symm.trans H; with_reducible exact H2_) | with_reducible exact H | (rw [hy181]; exact H) | exact H
                                                                  have Ny181 := Aside0.mk hy181
                                                                  clear hy181
                                                                  have H' := Aside0.mk H
                                                                  clear H
                                                                  have p28 : 0 ≤ (x9_5 : Int) := of_decide_eq_true (by first | (with_reducible assumption) | assumption)
                                                                  have q28 : x9_5 < ((rdOf ByteArray.empty (rd_L1 ((rd_T36 l0 x4_1).f1) x5_2) x6_3).size : Int) := of_decide_eq_true (by first | (with_reducible assumption) | assumption)
                                                                  have hx28 := bt_at (rdOf ByteArray.empty (rd_L1 ((rd_T36 l0 x4_1).f1) x5_2) x6_3) x9_5
                                                                  replace p28 := eq_true p28
                                                                  replace q28 := eq_true q28
                                                                  go_wp2_with (first | ((with_reducible refine gate_callee (f := 23) rfl ?_); refine goesL_ (some 73) rfl rfl Try.func23 (by kernel_rfl) rfl #[.int .u8 (bt (rdOf ByteArray.empty (rd_L1 ((rd_T36 l0 x4_1).f1) x5_2) x6_3) x9_5)] rfl (by (try simp only [List.map_toArray, List.map_cons, List.map_nil]); first | done | rfl | (simp only [List.length_drop, List.length_take]; rfl)) ?_; (with_reducible refine (spec_l21Mark.calls (bt (rdOf ByteArray.empty (rd_L1 ((rd_T36 l0 x4_1).f1) x5_2) x6_3) x9_5) false _ A29.out).mono ?_); rintro e w' ⟨rfl, ⟨nd, rfl⟩⟩; refine ⟨_, rfl, ?_⟩; have p36 : 0 ≤ (x9_5 : Int) := of_decide_eq_true (by first | (with_reducible assumption) | assumption); have q36 : x9_5 < ((rdOf ByteArray.empty (rd_L1 ((rd_T36 l0 x4_1).f1) x5_2) x6_3).size : Int) := of_decide_eq_true (by first | (with_reducible assumption) | assumption); have hx36 := bt_at (rdOf ByteArray.empty (rd_L1 ((rd_T36 l0 x4_1).f1) x5_2) x6_3) x9_5; replace p36 := eq_true p36; replace q36 := eq_true q36) | ((with_reducible refine gate_builtin (b := .append) (xs := #[.tmp 77, .tmp 81]) rfl ?_); at_builtin; refine Kd.R_append (Kd.int .u8) (w0 := w) w.heap.size rfl (.tmp 77) (.tmp 81) 37 5 (.int .u8 0) 1 rfl Try.underlying37 info5 rfl (by decide) (by omega) u3 x3_5 (bt (rdOf ByteArray.empty (rd_L1 ((rd_T36 l0 x4_1).f1) x5_2) x6_3) x9_5) [.int .u8 (bt (rdOf ByteArray.empty (rd_L1 ((rd_T36 l0 x4_1).f1) x5_2) x6_3) x9_5)] (fun _ => True) (fun _ => False) rfl rfl ?aP (fun _ hk => hk.elim) ?aF ?aO ?aB ?aS ?aL ?_; (case aP => exact rfl); (case aB => exact (by repeat (first | (with_reducible first | exact HB.out | apply below_alloc | apply pw_below_drewN | apply below_drew1) | exact HB.out))); (case aF => exact (fun _ _ => trivial)); (case aO => exact (by (with_reducible repeat (first | apply Kd.R_alloc | apply Kd.R_drewN | apply Kd.R_drew)); exact HO_3.out)); (case aS => exact (below_size (by repeat (first | (with_reducible first | exact HB.out | apply below_alloc | apply pw_below_drewN | apply below_drew1) | exact HB.out)))); (case aL => have := LMc37.out; omega); intro v182 w38 ho hb hg hat; rw [← Ny181.out] at ho; have n0_ := Aside0.mk (hb); have n1_ := Aside0.mk (ho); clear HB; clear HO_3; have HB := n0_; have HO183 := n1_; clear n0_ n1_; clear ho hb hg hat))
                                                                  go_roundg k5
                                                                  case measure => have := HK1.out; have := HK2.out; have := HK3.out; have := HJ15.out; have := HK5.out; omega
                                                                  case rel => exact ⟨(y181), (wrap64 (x9_5 + 1)), (by first | rfl | (simp; done) | (simp [*]; done) | (simp [wrap64]; done)), H', ⟨by have := HK1.out; have := HK2.out; have := HK3.out; have := HJ15.out; have := HK5.out; omega⟩, ⟨by (with_reducible repeat (first | apply Kd.R_alloc | apply Kd.R_drewN | apply Kd.R_drew)); exact HO183.out⟩, ⟨by repeat (first | (with_reducible first | exact HB.out | apply below_alloc | apply pw_below_drewN | apply below_drew1) | exact HB.out)⟩⟩
                                                                · rw [if_neg c37] at H
                                                                  exact absurd H (by simp)
                                                            · rw [if_neg c27] at H
                                                              exact absurd H (by simp)
                                                          · rw [if_neg c26] at H
                                                            have c26b0 : decide (x9_5 < ((rdOf ByteArray.empty (rd_L1 ((rd_T36 l0 x4_1).f1) x5_2) x6_3).size : Int)) = false := decide_eq_false c26
                                                            clear c26
                                                            have H' := Aside0.mk H
                                                            clear H
                                                            go_wp2
                                                            go_roundg k5
                                                            case measure => have := HK1.out; have := HK2.out; have := HK3.out; have := HJ15.out; have := HK5.out; omega
                                                            case rel => exact ⟨(x3_5), (wrap64 (x6_3 + 1)), (by first | rfl | (simp; done) | (simp [*]; done) | (simp [wrap64]; done)), H', ⟨by have := HK1.out; have := HK2.out; have := HK3.out; have := HJ15.out; have := HK5.out; omega⟩, ⟨by (with_reducible repeat (first | apply Kd.R_alloc | apply Kd.R_drewN | apply Kd.R_drew)); exact HO_3.out⟩, ⟨by repeat (first | (with_reducible first | exact HB.out | apply below_alloc | apply pw_below_drewN | apply below_drew1) | exact HB.out)⟩⟩
                                                    · rw [if_neg c24] at H
                                                      exact absurd H (by simp)
                                                  · rw [if_neg c23] at H
                                                    exact absurd H (by simp)
                                                · rw [if_neg c22] at H
                                                  exact absurd H (by simp)
                                              · rw [if_neg c21] at H
                                                exact absurd H (by simp)
                                            · rw [if_neg c20] at H
                                              exact absurd H (by simp)
                                          · rw [if_neg c19] at H
                                            exact absurd H (by simp)
                                        · rw [if_neg c18] at H
                                          exact absurd H (by simp)
                                  · rw [if_neg c15] at H
                                    have c15b0 : decide (x6_3 < ((rd_L1 ((rd_T36 l0 x4_1).f1) x5_2).length : Int)) = false := decide_eq_false c15
                                    clear c15
                                    have H' := Aside0.mk H
                                    clear H
                                    have p166 : 0 ≤ (x4_1 : Int) := of_decide_eq_true (by first | (with_reducible assumption) | assumption)
                                    have q166 : x4_1 < (l0.length : Int) := of_decide_eq_true (by first | (with_reducible assumption) | assumption)
                                    obtain ⟨ad166, A166_1, c166_1, e166, hx166_0, hx166_1, hl166_1, hi166_1⟩ := at_T36 HR0.out x4_1 p166 q166
                                    obtain rfl : ad158 = ad166 := (by injection e166)
                                    replace hx166_0 := (HB.out.cell (World.block_lt_of_cell? w _ hx166_0)).trans hx166_0
                                    replace hx166_1 := (HB.out.cell (World.block_lt_of_cell? w _ hx166_1)).trans hx166_1
                                    have HR166_1 := Aside0.mk hi166_1
                                    have HC166_1 := Aside0.mk hl166_1
                                    clear hi166_1 hl166_1
                                    replace p166 := eq_true p166
                                    replace q166 := eq_true q166
                                    have p167 : 0 ≤ (x5_2 : Int) := of_decide_eq_true (by first | (with_reducible assumption) | assumption)
                                    have q167 : x5_2 < (((rd_T36 l0 x4_1).f1).length : Int) := of_decide_eq_true (by first | (with_reducible assumption) | assumption)
                                    obtain ⟨ad167, A167_0, c167_0, e167, hx167_0, hl167_0, hi167_0⟩ := at_L1 HR166_1.out x5_2 p167 q167
                                    cases e167
                                    replace hx167_0 := (HB.out.cell (World.block_lt_of_cell? w _ hx167_0)).trans hx167_0
                                    have HR167_0 := Aside0.mk hi167_0
                                    have HC167_0 := Aside0.mk hl167_0
                                    clear hi167_0 hl167_0
                                    replace p167 := eq_true p167
                                    replace q167 := eq_true q167
                                    go_wp2
                                    go_roundg k3
                                    case measure => have := HK1.out; have := HK2.out; have := HK3.out; omega
                                    case rel => exact ⟨(x3_3), (wrap64 (x5_2 + 1)), (by first | rfl | (simp; done) | (simp [*]; done) | (simp [wrap64]; done)), H', ⟨by have := HK1.out; have := HK2.out; have := HK3.out; omega⟩, ⟨by (with_reducible repeat (first | apply Kd.R_alloc | apply Kd.R_drewN | apply Kd.R_drew)); exact HO_3.out⟩, ⟨by repeat (first | (with_reducible first | exact HB.out | apply below_alloc | apply pw_below_drewN | apply below_drew1) | exact HB.out)⟩⟩
                                · rw [if_neg c14] at H
                                  exact absurd H (by simp)
                              · rw [if_neg c13] at H
                                exact absurd H (by simp)
                            · rw [if_neg c12] at H
                              exact absurd H (by simp)
                          · rw [if_neg c11] at H
                            exact absurd H (by simp)
                    · rw [if_neg c10] at H
                      have c10b0 : decide (x5_2 < (((rd_T36 l0 x4_1).f1).length : Int)) = false := decide_eq_false c10
                      clear c10
                      by_cases c39 : x3_2.length < 140737488355328
                      · rw [if_pos c39] at H
                        have LMc39 := Aside0.mk c39
                        clear c39
                        obtain ⟨y163, hy163⟩ : ∃ y_ : List Int, y_ = (x3_2 ++ [39]) := ⟨_, rfl⟩
                        replace H : (spec_l21Write.l0 k2 l0 y163 (wrap64 (x4_1 + 1))) = some r := by first | (rw [hy163]; with_reducible exact H) | (have H2_ := (Option.bind_some _ _).symm.trans H; rw [hy163]; with_reducible exact H2_) | (have H2_ := (Option.bind_some _ _).symm.trans H; with_reducible exact H2_) | with_reducible exact H | (rw [hy163]; exact H) | exact H
                        have Ny163 := Aside0.mk hy163
                        clear hy163
                        have H' := Aside0.mk H
                        clear H
                        have p162 : 0 ≤ (x4_1 : Int) := of_decide_eq_true (by first | (with_reducible assumption) | assumption)
                        have q162 : x4_1 < (l0.length : Int) := of_decide_eq_true (by first | (with_reducible assumption) | assumption)
                        obtain ⟨ad162, A162_1, c162_1, e162, hx162_0, hx162_1, hl162_1, hi162_1⟩ := at_T36 HR0.out x4_1 p162 q162
                        obtain rfl : ad158 = ad162 := (by injection e162)
                        replace hx162_0 := (HB.out.cell (World.block_lt_of_cell? w _ hx162_0)).trans hx162_0
                        replace hx162_1 := (HB.out.cell (World.block_lt_of_cell? w _ hx162_1)).trans hx162_1
                        have HR162_1 := Aside0.mk hi162_1
                        have HC162_1 := Aside0.mk hl162_1
                        clear hi162_1 hl162_1
                        replace p162 := eq_true p162
                        replace q162 := eq_true q162
                        go_wp2_with (first | ((with_reducible refine gate_builtin (b := .append) (xs := #[.tmp 83, .tmp 84]) rfl ?_); at_builtin; refine Kd.R_append (Kd.int .u8) (w0 := w) w.heap.size rfl (.tmp 83) (.tmp 84) 37 5 (.int .u8 0) 1 rfl Try.underlying37 info5 rfl (by decide) (by omega) u3 x3_2 39 [.int .u8 39] (fun _ => True) (fun _ => False) rfl rfl ?aP (fun _ hk => hk.elim) ?aF ?aO ?aB ?aS ?aL ?_; (case aP => exact rfl); (case aB => exact (by repeat (first | (with_reducible first | exact HB.out | apply below_alloc | apply pw_below_drewN | apply below_drew1) | exact HB.out))); (case aF => exact (fun _ _ => trivial)); (case aO => exact (by (with_reducible repeat (first | apply Kd.R_alloc | apply Kd.R_drewN | apply Kd.R_drew)); exact HO_3.out)); (case aS => exact (below_size (by repeat (first | (with_reducible first | exact HB.out | apply below_alloc | apply pw_below_drewN | apply below_drew1) | exact HB.out)))); (case aL => have := LMc39.out; omega); intro v164 w40 ho hb hg hat; rw [← Ny163.out] at ho; have n0_ := Aside0.mk (hb); have n1_ := Aside0.mk (ho); clear HB; clear HO_3; have HB := n0_; have HO165 := n1_; clear n0_ n1_; clear ho hb hg hat))
                        go_roundg k2
                        case measure => have := HK1.out; have := HK2.out; omega
                        case rel => exact ⟨(y163), (wrap64 (x4_1 + 1)), (by first | rfl | (simp; done) | (simp [*]; done) | (simp [wrap64]; done)), H', ⟨by have := HK1.out; have := HK2.out; omega⟩, ⟨by (with_reducible repeat (first | apply Kd.R_alloc | apply Kd.R_drewN | apply Kd.R_drew)); exact HO165.out⟩, ⟨by repeat (first | (with_reducible first | exact HB.out | apply below_alloc | apply pw_below_drewN | apply below_drew1) | exact HB.out)⟩⟩
                      · rw [if_neg c39] at H
                        exact absurd H (by simp)
                  · rw [if_neg c9] at H
                    exact absurd H (by simp)
                · rw [if_neg c8] at H
                  exact absurd H (by simp)
          · rw [if_neg c6] at H
            exact absurd H (by simp)
        · rw [if_neg c5] at H
          exact absurd H (by simp)
      · rw [if_neg c4] at H
        have c4b0 : decide (x4_1 < (l0.length : Int)) = false := decide_eq_false c4
        clear c4
        obtain rfl := Option.some.inj H
        go_wp2
        go_ret
        exact ⟨_, by first | rfl | (simp [errW_none, errW_some] <;> rfl) | (simp [*, errW_none, errW_some] <;> rfl), by (with_reducible repeat (first | apply Kd.R_alloc | apply Kd.R_drewN | apply Kd.R_drew)); exact HO_3.out, by repeat (first | (with_reducible first | exact HB.out | apply below_alloc | apply pw_below_drewN | apply below_drew1) | exact HB.out)⟩

end Go.Proofs.Ytomkbmddhemioaa.PFnExactWriteSegs
