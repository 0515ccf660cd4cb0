/- The Lean side of Go functions of this seat: what each answers, and that its run comes to that answer; written by a program of this work. -/
import Derived.Test.YtlphfhibnbhkfaaPFnRingx0
import Derived.Test.YtlphfhibnbhkfaaPFnRingx4
import Derived.Test.YtlphfhibnbhkfaaPFnRingx5
import Derived.Test.YtlphfhibnbhkfaaPFnRingx6
namespace Go.Proofs.Ytlphfhibnbhkfaa.PFnRing
open Go.RowKit Go.Proofs.YtlphfhibnbhkfaaW.PrintWords Go.Proofs.YtlphfhibnbhkfaaW.PrintLast Go.Proofs.YtlphfhibnbhkfaaW.PrintMore
attribute [local go_sem] max2_int min2_int max_two min_two max_three min_three max_four min_four   -- for this text's walks alone
set_option linter.unusedVariables false
set_option linter.unusedSimpArgs false

/-! ### impl_Round: function 81 -/
mutual
def impl_Round.l0 : Nat → List (S92) → Int → Int → Int → Int → List Int → List (S92) → List Int → Option ((List (S92)) × List Int × Bool)
  | 0, _, _, _, _, _, _, _, _ => none
  | k + 1, x23, x24, x25, x221000, x221001, x221002, x222000, x227000 => if x25 < x24 then (if 0 ≤ x25 then (if x25 < (x23.length : Int) then ((impl_Floor_want.f k x221000 x221001 x221002 ((rd_T92 x23 x25).f0) ((rd_T92 x23 x25).f1)).bind fun t229 => (if x25 < (x227000.length : Int) then (impl_Round.l0 k x23 x24 (wrap64 (x25 + 1)) x221000 x221001 x221002 x222000 (x227000.set (x25 : Int).toNat t229)) else (none))) else (none)) else (none)) else (impl_Round.l1 k x222000 x227000)
def impl_Round.j3 : Nat → List (S92) → List Int → Option ((List (S92)) × List Int × Bool)
  | 0, _, _ => none
  | k + 1, x222000, x227000 => (impl_Cart_80.f x222000).bind fun t234 => (impl_Round.l3 k t234 ([] : List Int) x227000 (x227000.length : Int) 0)
def impl_Round.l3 : Nat → List (S92) → List Int → List Int → Int → Int → Option ((List (S92)) × List Int × Bool)
  | 0, _, _, _, _, _ => none
  | k + 1, x12, x13, x59, x60, x61 => if x61 < x60 then (if 0 ≤ x61 then (if x61 < (x59.length : Int) then (if (rd x59 x61) ≥ 0 then (if x61 < (x12.length : Int) then (if x13.length < 17592186044416 then (impl_Round.l3 k (x12.set (x61 : Int).toNat (⟨rd x59 x61, (rd_T92 x12 x61).f1⟩ : S92)) (x13 ++ [x61]) x59 x60 (wrap64 (x61 + 1))) else (none)) else (none)) else (impl_Round.l3 k x12 x13 x59 x60 (wrap64 (x61 + 1)))) else (none)) else (none)) else ((impl_own_int.f x13).bind fun t242 => (some (x12, t242, true)))
def impl_Round.l1 : Nat → List (S92) → List Int → Option ((List (S92)) × List Int × Bool)
  | 0, _, _ => none
  | k + 1, x222000, x227000 => impl_Round.l2 k 0 x222000 x227000
def impl_Round.l2 : Nat → Int → List (S92) → List Int → Option ((List (S92)) × List Int × Bool)
  | 0, _, _, _ => none
  | k + 1, x11, x222000, x227000 => if x11 < (x222000.length : Int) then ((impl_Round_1_c.f k x11 [x227000] [x222000]).bind fun t231 => (if t231 = true then (if x11 = (x222000.length : Int) then (impl_Round.j3 k x222000 x227000) else (if 0 ≤ x11 then (if x11 < (x227000.length : Int) then (impl_Round.l1 k x222000 (x227000.set (x11 : Int).toNat (-1))) else (none)) else (none))) else (impl_Round.l2 k (wrap64 (x11 + 1)) x222000 x227000))) else (if x11 = (x222000.length : Int) then (impl_Round.j3 k x222000 x227000) else (if 0 ≤ x11 then (if x11 < (x227000.length : Int) then (impl_Round.l1 k x222000 (x227000.set (x11 : Int).toNat (-1))) else (none)) else (none)))
end
def impl_Round.f (k : Nat) (a0_0 : Int) (a0_1 : Int) (l0_2 : List Int) (l1 : List (S92)) : Option ((List (S92)) × List Int × Bool) := (impl_CartsOk.f k a0_0 a0_1 l0_2 l1).bind fun t222 => (if t222 = true then (if 0 ≤ (l1.length : Int) then (if ((l1.length : Int) : Int).toNat ≤ 35184372088832 then (impl_Round.l0 k l1 (l1.length : Int) 0 a0_0 a0_1 l0_2 l1 (List.replicate ((l1.length : Int) : Int).toNat 0)) else (none)) else (none)) else (some (([] : List (S92)), ([] : List Int), false)))
theorem impl_Round.mono_l : ∀ k, (∀ y0 y1 y2 y3 y4 y5 y6 y7, LeO (impl_Round.l0 k y0 y1 y2 y3 y4 y5 y6 y7) (impl_Round.l0 (k + 1) y0 y1 y2 y3 y4 y5 y6 y7)) ∧ (∀ y0 y1, LeO (impl_Round.j3 k y0 y1) (impl_Round.j3 (k + 1) y0 y1)) ∧ (∀ y0 y1 y2 y3 y4, LeO (impl_Round.l3 k y0 y1 y2 y3 y4) (impl_Round.l3 (k + 1) y0 y1 y2 y3 y4)) ∧ (∀ y0 y1, LeO (impl_Round.l1 k y0 y1) (impl_Round.l1 (k + 1) y0 y1)) ∧ (∀ y0 y1 y2, LeO (impl_Round.l2 k y0 y1 y2) (impl_Round.l2 (k + 1) y0 y1 y2))
  | 0 => ⟨fun _ _ _ _ _ _ _ _ r h => by simp [impl_Round.l0] at h, fun _ _ r h => by simp [impl_Round.j3] at h, fun _ _ _ _ _ r h => by simp [impl_Round.l3] at h, fun _ _ r h => by simp [impl_Round.l1] at h, fun _ _ _ r h => by simp [impl_Round.l2] at h⟩
  | k + 1 => by
    obtain ⟨ih0, ih1, ih2, ih3, ih4⟩ := impl_Round.mono_l k
    refine ⟨?_, ?_, ?_, ?_, ?_⟩
    · intro y0 y1 y2 y3 y4 y5 y6 y7
      unfold impl_Round.l0
      repeat' first
      | (with_reducible exact ih0 _ _ _ _ _ _ _ _)
      | (with_reducible exact ih1 _ _)
      | (with_reducible exact ih2 _ _ _ _ _)
      | (with_reducible exact ih3 _ _)
      | (with_reducible exact ih4 _ _ _)
      | (with_reducible exact impl_CartsOk.mono _ _ _ _ _)
      | (with_reducible exact impl_Floor_want.mono _ _ _ _ _ _)
      | (with_reducible exact impl_Round_1_c.mono _ _ _ _)
      | (with_reducible exact LeO.refl _)
      | (with_reducible exact LeO.none _)
      | (with_reducible refine LeO.ite ?_ ?_)
      | (with_reducible refine LeO.bind ?_ (fun _ => ?_))
      | exact ih0 _ _ _ _ _ _ _ _
      | exact ih1 _ _
      | exact ih2 _ _ _ _ _
      | exact ih3 _ _
      | exact ih4 _ _ _
      | exact impl_CartsOk.mono _ _ _ _ _
      | exact impl_Floor_want.mono _ _ _ _ _ _
      | exact impl_Round_1_c.mono _ _ _ _
      | exact LeO.none _
      | refine LeO.ite ?_ ?_
      | refine LeO.bind ?_ (fun _ => ?_)
    · intro y0 y1
      unfold impl_Round.j3
      repeat' first
      | (with_reducible exact ih0 _ _ _ _ _ _ _ _)
      | (with_reducible exact ih1 _ _)
      | (with_reducible exact ih2 _ _ _ _ _)
      | (with_reducible exact ih3 _ _)
      | (with_reducible exact ih4 _ _ _)
      | (with_reducible exact impl_CartsOk.mono _ _ _ _ _)
      | (with_reducible exact impl_Floor_want.mono _ _ _ _ _ _)
      | (with_reducible exact impl_Round_1_c.mono _ _ _ _)
      | (with_reducible exact LeO.refl _)
      | (with_reducible exact LeO.none _)
      | (with_reducible refine LeO.ite ?_ ?_)
      | (with_reducible refine LeO.bind ?_ (fun _ => ?_))
      | exact ih0 _ _ _ _ _ _ _ _
      | exact ih1 _ _
      | exact ih2 _ _ _ _ _
      | exact ih3 _ _
      | exact ih4 _ _ _
      | exact impl_CartsOk.mono _ _ _ _ _
      | exact impl_Floor_want.mono _ _ _ _ _ _
      | exact impl_Round_1_c.mono _ _ _ _
      | exact LeO.none _
      | refine LeO.ite ?_ ?_
      | refine LeO.bind ?_ (fun _ => ?_)
    · intro y0 y1 y2 y3 y4
      unfold impl_Round.l3
      repeat' first
      | (with_reducible exact ih0 _ _ _ _ _ _ _ _)
      | (with_reducible exact ih1 _ _)
      | (with_reducible exact ih2 _ _ _ _ _)
      | (with_reducible exact ih3 _ _)
      | (with_reducible exact ih4 _ _ _)
      | (with_reducible exact impl_CartsOk.mono _ _ _ _ _)
      | (with_reducible exact impl_Floor_want.mono _ _ _ _ _ _)
      | (with_reducible exact impl_Round_1_c.mono _ _ _ _)
      | (with_reducible exact LeO.refl _)
      | (with_reducible exact LeO.none _)
      | (with_reducible refine LeO.ite ?_ ?_)
      | (with_reducible refine LeO.bind ?_ (fun _ => ?_))
      | exact ih0 _ _ _ _ _ _ _ _
      | exact ih1 _ _
      | exact ih2 _ _ _ _ _
      | exact ih3 _ _
      | exact ih4 _ _ _
      | exact impl_CartsOk.mono _ _ _ _ _
      | exact impl_Floor_want.mono _ _ _ _ _ _
      | exact impl_Round_1_c.mono _ _ _ _
      | exact LeO.none _
      | refine LeO.ite ?_ ?_
      | refine LeO.bind ?_ (fun _ => ?_)
    · intro y0 y1
      unfold impl_Round.l1
      repeat' first
      | (with_reducible exact ih0 _ _ _ _ _ _ _ _)
      | (with_reducible exact ih1 _ _)
      | (with_reducible exact ih2 _ _ _ _ _)
      | (with_reducible exact ih3 _ _)
      | (with_reducible exact ih4 _ _ _)
      | (with_reducible exact impl_CartsOk.mono _ _ _ _ _)
      | (with_reducible exact impl_Floor_want.mono _ _ _ _ _ _)
      | (with_reducible exact impl_Round_1_c.mono _ _ _ _)
      | (with_reducible exact LeO.refl _)
      | (with_reducible exact LeO.none _)
      | (with_reducible refine LeO.ite ?_ ?_)
      | (with_reducible refine LeO.bind ?_ (fun _ => ?_))
      | exact ih0 _ _ _ _ _ _ _ _
      | exact ih1 _ _
      | exact ih2 _ _ _ _ _
      | exact ih3 _ _
      | exact ih4 _ _ _
      | exact impl_CartsOk.mono _ _ _ _ _
      | exact impl_Floor_want.mono _ _ _ _ _ _
      | exact impl_Round_1_c.mono _ _ _ _
      | exact LeO.none _
      | refine LeO.ite ?_ ?_
      | refine LeO.bind ?_ (fun _ => ?_)
    · intro y0 y1 y2
      unfold impl_Round.l2
      repeat' first
      | (with_reducible exact ih0 _ _ _ _ _ _ _ _)
      | (with_reducible exact ih1 _ _)
      | (with_reducible exact ih2 _ _ _ _ _)
      | (with_reducible exact ih3 _ _)
      | (with_reducible exact ih4 _ _ _)
      | (with_reducible exact impl_CartsOk.mono _ _ _ _ _)
      | (with_reducible exact impl_Floor_want.mono _ _ _ _ _ _)
      | (with_reducible exact impl_Round_1_c.mono _ _ _ _)
      | (with_reducible exact LeO.refl _)
      | (with_reducible exact LeO.none _)
      | (with_reducible refine LeO.ite ?_ ?_)
      | (with_reducible refine LeO.bind ?_ (fun _ => ?_))
      | exact ih0 _ _ _ _ _ _ _ _
      | exact ih1 _ _
      | exact ih2 _ _ _ _ _
      | exact ih3 _ _
      | exact ih4 _ _ _
      | exact impl_CartsOk.mono _ _ _ _ _
      | exact impl_Floor_want.mono _ _ _ _ _ _
      | exact impl_Round_1_c.mono _ _ _ _
      | exact LeO.none _
      | refine LeO.ite ?_ ?_
      | refine LeO.bind ?_ (fun _ => ?_)
theorem impl_Round.mono : ∀ a0 a1 a2 a3 k, LeO (impl_Round.f k a0 a1 a2 a3) (impl_Round.f (k + 1) a0 a1 a2 a3) := by
  intro a0 a1 a2 a3 k
  obtain ⟨ih0, ih1, ih2, ih3, ih4⟩ := impl_Round.mono_l k
  unfold impl_Round.f
  repeat' first
      | (with_reducible exact ih0 _ _ _ _ _ _ _ _)
      | (with_reducible exact ih1 _ _)
      | (with_reducible exact ih2 _ _ _ _ _)
      | (with_reducible exact ih3 _ _)
      | (with_reducible exact ih4 _ _ _)
      | (with_reducible exact impl_CartsOk.mono _ _ _ _ _)
      | (with_reducible exact impl_Floor_want.mono _ _ _ _ _ _)
      | (with_reducible exact impl_Round_1_c.mono _ _ _ _)
      | (with_reducible exact LeO.refl _)
      | (with_reducible exact LeO.none _)
      | (with_reducible refine LeO.ite ?_ ?_)
      | (with_reducible refine LeO.bind ?_ (fun _ => ?_))
      | exact ih0 _ _ _ _ _ _ _ _
      | exact ih1 _ _
      | exact ih2 _ _ _ _ _
      | exact ih3 _ _
      | exact ih4 _ _ _
      | exact impl_CartsOk.mono _ _ _ _ _
      | exact impl_Floor_want.mono _ _ _ _ _ _
      | exact impl_Round_1_c.mono _ _ _ _
      | exact LeO.none _
      | refine LeO.ite ?_ ?_
      | refine LeO.bind ?_ (fun _ => ?_)
set_option maxHeartbeats 8000000 in
set_option maxRecDepth 100000 in
theorem impl_Round.calls (k : Nat) (a0_0 : Int) (a0_1 : Int) (A0_2 : Option Addr) (c0_2 : Nat) (l0_2 : List Int) (A1 : Option Addr) (c1 : Nat) (l1 : List (S92)) (r1 : List (S92)) (r2 : List Int) (r3 : Bool) (w : World) (hr0_2 : Kd.C (Kd.int .i64) w A0_2 l0_2.length l0_2) (hc0_2 : l0_2.length ≤ c0_2) (hr1 : Kd.C k92 w A1 l1.length l1) (hc1 : l1.length ≤ c1) (h : impl_Round.f k a0_0 a0_1 l0_2 l1 = some (r1, r2, r3)) :
    Calls Try.prog 81 #[.agg #[.int .i64 a0_0, .int .i64 a0_1, .slice A0_2 l0_2.length c0_2], .slice A1 l1.length c1] w fun e w' => ∃ v0_ v1_ : Value, e = .returned (.tuple #[v0_, v1_, .bool r3]) ∧ Kd.R k92 92 w' w.heap.size (fun _ => True) v0_ r1 ∧ Kd.R (Kd.int .i64) 3 w' w.heap.size (fun _ => True) v1_ r2 ∧ Below w.heap.size w w' := by
  have hu84 := Try.underlying84
  have hu92 := Try.underlying92
  have HR0_2 := Aside0.mk hr0_2
  have HC0_2 := Aside0.mk hc0_2
  clear hr0_2 hc0_2
  have HR1 := Aside0.mk hr1
  have HC1 := Aside0.mk hc1
  clear hr1 hc1
  have HB := Aside0.mk (Below.refl w.heap.size w)
  have H : ((impl_CartsOk.f k a0_0 a0_1 l0_2 l1).bind fun t222 => (if t222 = true then (if 0 ≤ (l1.length : Int) then (if ((l1.length : Int) : Int).toNat ≤ 35184372088832 then (impl_Round.l0 k l1 (l1.length : Int) 0 a0_0 a0_1 l0_2 l1 (List.replicate ((l1.length : Int) : Int).toNat 0)) else (none)) else (none)) else (some (([] : List (S92)), ([] : List Int), false)))) = some (r1, r2, r3) := h
  clear h
  replace H := Option.bind_eq_some_iff.mp H
  obtain ⟨t222, A30, H⟩ := H
  replace H : (if t222 = true then (if 0 ≤ (l1.length : Int) then (if ((l1.length : Int) : Int).toNat ≤ 35184372088832 then (impl_Round.l0 k l1 (l1.length : Int) 0 a0_0 a0_1 l0_2 l1 (List.replicate ((l1.length : Int) : Int).toNat 0)) else (none)) else (none)) else (some (([] : List (S92)), ([] : List Int), false))) = some (r1, r2, r3) := H
  have A3 := Aside0.mk A30
  clear A30
  by_cases c4 : t222 = true
  · subst c4
    have H1 : (if 0 ≤ (l1.length : Int) then (if ((l1.length : Int) : Int).toNat ≤ 35184372088832 then (impl_Round.l0 k l1 (l1.length : Int) 0 a0_0 a0_1 l0_2 l1 (List.replicate ((l1.length : Int) : Int).toNat 0)) else (none)) else (none)) = some (r1, r2, r3) := by rw [if_pos rfl] at H; exact H
    clear H
    have H := H1
    clear H1
    by_cases c5 : 0 ≤ (l1.length : Int)
    · rw [if_pos c5] at H
      have c5b0 := eq_true c5
      have c5b1 : decide (0 ≤ (l1.length : Int)) = true := decide_eq_true c5
      clear c5
      by_cases c6 : ((l1.length : Int) : Int).toNat ≤ 35184372088832
      · rw [if_pos c6] at H
        have c6b0 := eq_true c6
        have c6b1 : decide (((l1.length : Int) : Int).toNat ≤ 35184372088832) = true := decide_eq_true c6
        clear c6
        obtain ⟨y223, hy223⟩ : ∃ y_ : List Int, y_ = (List.replicate ((l1.length : Int) : Int).toNat 0) := ⟨_, rfl⟩
        replace H : (impl_Round.l0 k l1 (l1.length : Int) 0 a0_0 a0_1 l0_2 l1 y223) = some (r1, r2, r3) := by first | (rw [hy223]; with_reducible exact H) | (have H2_ := (Option.bind_some _ _).symm.trans H; rw [hy223]; with_reducible exact H2_) | (have H2_ := (Option.bind_some _ _).symm.trans H; with_reducible exact H2_) | with_reducible exact H | (rw [hy223]; exact H) | exact H
        have Ny223 := Aside0.mk hy223
        clear hy223
        have H' := Aside0.mk H
        clear H
        go_enter Try.func81, Try.ntmps81
        go_wp2_with (first | ((with_reducible refine gate_dst (N := 2) rfl ?_); refine box_event ?hg (N := 2) ?hd (cs := #[.int .i64 a0_0, .int .i64 a0_1, .slice A0_2 l0_2.length c0_2]) (t := 84) ?hr ?_; (case hd => rfl); (case hg => rfl); (case hr => first | (go_simp; done) | (go_simp; rfl)); intro gb220 hg w7 hbox hb; have n0_ := Aside0.mk (below_step (by repeat (first | (with_reducible first | exact HB.out | apply below_alloc | apply pw_below_drewN | apply below_drew1) | exact HB.out)) hb); have n1_ := Aside0.mk (hbox); have n2_ := Aside0.mk ((by rw [hg]; exact (below_size (by repeat (first | (with_reducible first | exact HB.out | apply below_alloc | apply pw_below_drewN | apply below_drew1) | exact HB.out))) : w.heap.size ≤ gb220)); have n3_ := Aside0.mk ((by rw [hg]; exact (below_size (by repeat (first | (with_reducible first | exact HB.out | apply below_alloc | apply pw_below_drewN | apply below_drew1) | exact HB.out))) : w.heap.size ≤ gb220)); clear HB; have HB := n0_; have BK220 := n1_; have GW220 := n2_; have GE220 := n3_; clear n0_ n1_ n2_ n3_; clear hb hbox hg) | ((with_reducible refine gate_dst (N := 3) rfl ?_); refine box_event ?hg (N := 3) ?hd (cs := #[.slice A1 l1.length c1]) (t := 90) ?hr ?_; (case hd => rfl); (case hg => rfl); (case hr => first | (go_simp; done) | (go_simp; rfl)); intro gb221 hg w8 hbox hb; have n0_ := Aside0.mk (blk_below (g := gb220) (o := .cells #[.int .i64 a0_0, .int .i64 a0_1, .slice A0_2 l0_2.length c0_2] 84 (0, 0)) (by (with_reducible repeat (first | refine blk_drewN ?_ _ | refine blk_drew ?_ | refine blk_alloc ?_ _)); exact BK220.out) hb); have n1_ := Aside0.mk (below_step (by repeat (first | (with_reducible first | exact HB.out | apply below_alloc | apply pw_below_drewN | apply below_drew1 | refine below_set ?_ GE220.out) | exact HB.out)) hb); have n2_ := Aside0.mk (hbox); have n3_ := Aside0.mk ((by rw [hg]; exact (below_size (by repeat (first | (with_reducible first | exact HB.out | apply below_alloc | apply pw_below_drewN | apply below_drew1 | refine below_set ?_ GE220.out) | exact HB.out))) : w.heap.size ≤ gb221)); have n4_ := Aside0.mk ((by rw [hg]; exact (below_size (by repeat (first | (with_reducible first | exact HB.out | apply below_alloc | apply pw_below_drewN | apply below_drew1 | refine below_set ?_ GE220.out) | exact HB.out))) : w.heap.size ≤ gb221)); have n5_ := Aside0.mk ((by rw [hg]; exact Nat.ne_of_lt (blk_lt (g := gb220) (o := .cells #[.int .i64 a0_0, .int .i64 a0_1, .slice A0_2 l0_2.length c0_2] 84 (0, 0)) (by (with_reducible repeat (first | refine blk_drewN ?_ _ | refine blk_drew ?_ | refine blk_alloc ?_ _)); exact BK220.out)) : gb220 ≠ gb221)); have n6_ := Aside0.mk ((by rw [hg]; exact Nat.ne_of_gt (blk_lt (g := gb220) (o := .cells #[.int .i64 a0_0, .int .i64 a0_1, .slice A0_2 l0_2.length c0_2] 84 (0, 0)) (by (with_reducible repeat (first | refine blk_drewN ?_ _ | refine blk_drew ?_ | refine blk_alloc ?_ _)); exact BK220.out)) : gb221 ≠ gb220)); clear BK220; clear HB; have BK220 := n0_; have HB := n1_; have BK221 := n2_; have GW221 := n3_; have GE221 := n4_; have NB220_221 := n5_; have NB221_220 := n6_; clear n0_ n1_ n2_ n3_ n4_ n5_ n6_; clear hb hbox hg; have hnb9 := NB220_221.out; have hnc9 := NB221_220.out; have hcz10_0 : w8.cell? ⟨gb220, 0, none⟩ = some (.int .i64 a0_0) := (blk_cell BK220.out 0).trans rfl; have hcz10_1 : w8.cell? ⟨gb220, 1, none⟩ = some (.int .i64 a0_1) := (blk_cell BK220.out 1).trans rfl; have hcz10_2 : w8.cell? ⟨gb220, 2, none⟩ = some (.slice A0_2 l0_2.length c0_2) := (blk_cell BK220.out 2).trans rfl; have hfz10_0 := blk_frozen BK220.out 0; have hfz10_1 := blk_frozen BK220.out 1; have hfz10_2 := blk_frozen BK220.out 2; have hcz11_0 : w8.cell? ⟨gb221, 0, none⟩ = some (.slice A1 l1.length c1) := (blk_cell BK221.out 0).trans rfl; have hfz11_0 := blk_frozen BK221.out 0) | ((with_reducible refine gate_callee (f := 79) rfl ?_); refine goesL_ (some 18) rfl rfl Try.func79 (by kernel_rfl) rfl #[.agg #[.int .i64 a0_0, .int .i64 a0_1, .slice A0_2 l0_2.length c0_2], .slice A1 l1.length c1] rfl (by (try simp only [List.map_toArray, List.map_cons, List.map_nil]); first | done | rfl | (simp only [List.length_drop, List.length_take]; rfl)) ?_; (with_reducible refine (impl_CartsOk.calls k a0_0 a0_1 _ _ l0_2 _ _ l1 true _ ?side1 ?side2 ?side3 ?side4 A3.out).mono ?_); (case side1 => repeat (first | exact (Kd.C_below HR0_2.out HB.out) | (with_reducible refine Kd.C_alloc ?_ _) | (with_reducible refine Kd.C_drewN ?_ _) | (with_reducible refine Kd.C_drew ?_))); (case side2 => exact HC0_2.out); (case side3 => repeat (first | exact (Kd.C_below HR1.out HB.out) | (with_reducible refine Kd.C_alloc ?_ _) | (with_reducible refine Kd.C_drewN ?_ _) | (with_reducible refine Kd.C_drew ?_))); (case side4 => exact HC1.out); rintro e w12 ⟨rfl, hb⟩; refine ⟨_, rfl, ?_⟩; have n0_ := Aside0.mk (blk_below (g := gb220) (o := .cells #[.int .i64 a0_0, .int .i64 a0_1, .slice A0_2 l0_2.length c0_2] 84 (0, 0)) (by (with_reducible repeat (first | refine blk_drewN ?_ _ | refine blk_drew ?_ | refine blk_alloc ?_ _)); exact BK220.out) hb); have n1_ := Aside0.mk (blk_below (g := gb221) (o := .cells #[.slice A1 l1.length c1] 90 (0, 0)) (by (with_reducible repeat (first | refine blk_drewN ?_ _ | refine blk_drew ?_ | refine blk_alloc ?_ _)); exact BK221.out) hb); have n2_ := Aside0.mk (below_step (by repeat (first | (with_reducible first | exact HB.out | apply below_alloc | apply pw_below_drewN | apply below_drew1 | refine below_set ?_ GE220.out | refine below_set ?_ GE221.out) | exact HB.out)) hb); clear BK220; clear BK221; clear HB; have BK220 := n0_; have BK221 := n1_; have HB := n2_; clear n0_ n1_ n2_; (try clear hb); (try clear hb2); (try clear hk); (try clear hi); have hcz13_0 : w12.cell? ⟨gb221, 0, none⟩ = some (.slice A1 l1.length c1) := (blk_cell BK221.out 0).trans rfl; have hfz13_0 := blk_frozen BK221.out 0) | ((with_reducible refine gate_dst (N := 22) rfl ?_); refine Kd.R_make (Kd.int .i64) _ 3 rfl (N := 22) rfl 28 _ _ rfl (l1.length : Int) rfl rfl Try.underlying28 (.int .i64 0) 8 info3 rfl (by decide) (by omega) 0 (ok := fun _ => True) (okp := fun _ => True) rfl (fun _ hk => hk) trivial (of_decide_eq_true (by first | (with_reducible assumption) | assumption)) (Nat.le_trans (Nat.mul_le_mul_right _ (of_decide_eq_true (by first | (with_reducible assumption) | assumption) : (l1.length : Int).toNat ≤ 35184372088832)) (by omega)) (Below.refl _ _) (Nat.le_refl _) ?_; intro v224 w14 ho15 hb hg_ hnew_; clear hg_ hnew_; (first | rw [← Ny223.out] at ho15 | (simp only [Int.reduceToNat] at ho15; rw [← Ny223.out] at ho15)); have n0_ := Aside0.mk (Kd.R_lower ho15 (below_size (by repeat (first | (with_reducible first | exact HB.out | apply below_alloc | apply pw_below_drewN | apply below_drew1 | refine below_set ?_ GE220.out | refine below_set ?_ GE221.out) | exact HB.out)))); have n1_ := Aside0.mk (blk_below (g := gb220) (o := .cells #[.int .i64 a0_0, .int .i64 a0_1, .slice A0_2 l0_2.length c0_2] 84 (0, 0)) (by (with_reducible repeat (first | refine blk_drewN ?_ _ | refine blk_drew ?_ | refine blk_alloc ?_ _)); exact BK220.out) hb); have n2_ := Aside0.mk (blk_below (g := gb221) (o := .cells #[.slice A1 l1.length c1] 90 (0, 0)) (by (with_reducible repeat (first | refine blk_drewN ?_ _ | refine blk_drew ?_ | refine blk_alloc ?_ _)); exact BK221.out) hb); have n3_ := Aside0.mk (below_step (by repeat (first | (with_reducible first | exact HB.out | apply below_alloc | apply pw_below_drewN | apply below_drew1 | refine below_set ?_ GE220.out | refine below_set ?_ GE221.out) | exact HB.out)) hb); clear BK220; clear BK221; clear HB; have HO225 := n0_; have BK220 := n1_; have BK221 := n2_; have HB := n3_; clear n0_ n1_ n2_ n3_; clear hb ho15) | ((with_reducible refine gate_dst (N := 7) rfl ?_); refine box_event ?hg (N := 7) ?hd (cs := #[.slice none 0 0]) (t := 28) ?hr ?_; (case hd => rfl); (case hg => rfl); (case hr => first | (go_simp; done) | (go_simp; rfl)); intro gb226 hg w16 hbox hb; have n0_ := Aside0.mk (Kd.R_below (by (with_reducible repeat (first | apply Kd.R_alloc | apply Kd.R_drewN | apply Kd.R_drew)); exact HO225.out) hb); have n1_ := Aside0.mk (blk_below (g := gb220) (o := .cells #[.int .i64 a0_0, .int .i64 a0_1, .slice A0_2 l0_2.length c0_2] 84 (0, 0)) (by (with_reducible repeat (first | refine blk_drewN ?_ _ | refine blk_drew ?_ | refine blk_alloc ?_ _)); exact BK220.out) hb); have n2_ := Aside0.mk (blk_below (g := gb221) (o := .cells #[.slice A1 l1.length c1] 90 (0, 0)) (by (with_reducible repeat (first | refine blk_drewN ?_ _ | refine blk_drew ?_ | refine blk_alloc ?_ _)); exact BK221.out) hb); have n3_ := Aside0.mk (below_step (by repeat (first | (with_reducible first | exact HB.out | apply below_alloc | apply pw_below_drewN | apply below_drew1 | refine below_set ?_ GE220.out | refine below_set ?_ GE221.out) | exact HB.out)) hb); have n4_ := Aside0.mk (hbox); have n5_ := Aside0.mk ((by rw [hg]; exact (below_size (by repeat (first | (with_reducible first | exact HB.out | apply below_alloc | apply pw_below_drewN | apply below_drew1 | refine below_set ?_ GE220.out | refine below_set ?_ GE221.out) | exact HB.out))) : w.heap.size ≤ gb226)); have n6_ := Aside0.mk ((by rw [hg]; exact (below_size (by repeat (first | (with_reducible first | exact HB.out | apply below_alloc | apply pw_below_drewN | apply below_drew1 | refine below_set ?_ GE220.out | refine below_set ?_ GE221.out) | exact HB.out))) : w.heap.size ≤ gb226)); have n7_ := Aside0.mk ((by rw [hg]; exact Nat.ne_of_lt (blk_lt (g := gb220) (o := .cells #[.int .i64 a0_0, .int .i64 a0_1, .slice A0_2 l0_2.length c0_2] 84 (0, 0)) (by (with_reducible repeat (first | refine blk_drewN ?_ _ | refine blk_drew ?_ | refine blk_alloc ?_ _)); exact BK220.out)) : gb220 ≠ gb226)); have n8_ := Aside0.mk ((by rw [hg]; exact Nat.ne_of_gt (blk_lt (g := gb220) (o := .cells #[.int .i64 a0_0, .int .i64 a0_1, .slice A0_2 l0_2.length c0_2] 84 (0, 0)) (by (with_reducible repeat (first | refine blk_drewN ?_ _ | refine blk_drew ?_ | refine blk_alloc ?_ _)); exact BK220.out)) : gb226 ≠ gb220)); have n9_ := Aside0.mk ((by rw [hg]; exact Nat.ne_of_lt (blk_lt (g := gb221) (o := .cells #[.slice A1 l1.length c1] 90 (0, 0)) (by (with_reducible repeat (first | refine blk_drewN ?_ _ | refine blk_drew ?_ | refine blk_alloc ?_ _)); exact BK221.out)) : gb221 ≠ gb226)); have n10_ := Aside0.mk ((by rw [hg]; exact Nat.ne_of_gt (blk_lt (g := gb221) (o := .cells #[.slice A1 l1.length c1] 90 (0, 0)) (by (with_reducible repeat (first | refine blk_drewN ?_ _ | refine blk_drew ?_ | refine blk_alloc ?_ _)); exact BK221.out)) : gb226 ≠ gb221)); clear HO225; clear BK220; clear BK221; clear HB; have HO225 := n0_; have BK220 := n1_; have BK221 := n2_; have HB := n3_; have BK226 := n4_; have GW226 := n5_; have GE226 := n6_; have NB220_226 := n7_; have NB226_220 := n8_; have NB221_226 := n9_; have NB226_221 := n10_; clear n0_ n1_ n2_ n3_ n4_ n5_ n6_ n7_ n8_ n9_ n10_; clear hb hbox hg; obtain ⟨Ao17, co17, eo17⟩ := Kd.R_slice HO225.out; subst eo17; have hnb18 := NB226_220.out; have hnc18 := NB220_226.out; have hnb19 := NB226_221.out; have hnc19 := NB221_226.out; have hcz20_0 : w16.cell? ⟨gb226, 0, none⟩ = some (.slice none 0 0) := (blk_cell BK226.out 0).trans rfl; have hfz20_0 := blk_frozen BK226.out 0; have hcz21_0 : w16.cell? ⟨gb221, 0, none⟩ = some (.slice A1 l1.length c1) := (blk_cell BK221.out 0).trans rfl; have hfz21_0 := blk_frozen BK221.out 0))
        go_loopg [25] k (fun kq v25 w' => ∃ (x25_1 : Int) (x227000_1 : List Int) (u227000 : Value), v25 = .int .i64 x25_1 ∧ Aside0 (impl_Round.l0 kq l1 (l1.length : Int) x25_1 a0_0 a0_1 l0_2 l1 x227000_1 = some (r1, r2, r3)) ∧ Aside0 (kq ≤ k) ∧ Aside0 (Kd.R (Kd.int .i64) 3 w' w.heap.size (fun _ => True) u227000 x227000_1) ∧ Aside0 (w'.heap[gb220]? = some (.cells #[.int .i64 a0_0, .int .i64 a0_1, (.slice A0_2 l0_2.length c0_2)] 84 (0, 0))) ∧ Aside0 (w'.heap[gb221]? = some (.cells #[(.slice A1 l1.length c1)] 90 (0, 0))) ∧ Aside0 (w'.heap[gb226]? = some (.cells #[u227000] 28 (0, 0))) ∧ Aside0 (Below w.heap.size w w'))
        case atStart => exact ⟨(0), (y223), (.slice Ao17 y223.length co17), (by first | rfl | (simp; done) | (simp [*]; done) | (simp [wrap64]; done)), H', ⟨Nat.le_refl _⟩, ⟨by (with_reducible repeat (first | apply Kd.R_alloc | apply Kd.R_drewN | apply Kd.R_drew)); exact Kd.R_mono (Kd.R_far (p := ⟨gb226, 0, none⟩) (Kd.R_types HO225.out BK226.out (by decide)) (fun _ hk => hk.2) (.slice Ao17 y223.length co17)) (fun _ hk => trivial)⟩, ⟨by (with_reducible repeat (first | refine blk_drewN ?_ _ | refine blk_drew ?_ | refine blk_alloc ?_ _)); refine blk_far ?_ NB220_226.out _; (with_reducible repeat (first | refine blk_drewN ?_ _ | refine blk_drew ?_ | refine blk_alloc ?_ _)); exact BK220.out⟩, ⟨by (with_reducible repeat (first | refine blk_drewN ?_ _ | refine blk_drew ?_ | refine blk_alloc ?_ _)); refine blk_far ?_ NB221_226.out _; (with_reducible repeat (first | refine blk_drewN ?_ _ | refine blk_drew ?_ | refine blk_alloc ?_ _)); exact BK221.out⟩, ⟨by (with_reducible repeat (first | refine blk_drewN ?_ _ | refine blk_drew ?_ | refine blk_alloc ?_ _)); refine blk_put (cs := #[.slice none 0 0]) ?_ 0 _ rfl; (with_reducible repeat (first | refine blk_drewN ?_ _ | refine blk_drew ?_ | refine blk_alloc ?_ _)); exact BK226.out⟩, ⟨by repeat (first | (with_reducible first | exact HB.out | apply below_alloc | apply pw_below_drewN | apply below_drew1 | refine below_set ?_ GE220.out | refine below_set ?_ GE221.out | refine below_set ?_ GE226.out) | exact HB.out)⟩⟩
        case round =>
          clear H'
          try clear c1
          try clear p2
          try clear c4
          try clear c5
          try clear c5b0
          try clear c5b1
          try clear c6
          try clear c6b0
          try clear c6b1
          try clear p6
          try clear c7
          try clear c8
          try clear c9
          try clear c18
          try clear c19
          try clear hcz10_0
          try clear hcz10_1
          try clear hcz10_2
          try clear hcz11_0
          try clear hcz13_0
          try clear hcz20_0
          try clear hcz21_0
          try clear hfz10_0
          try clear hfz10_1
          try clear hfz10_2
          try clear hfz11_0
          try clear hfz13_0
          try clear hfz20_0
          try clear hfz21_0
          obtain ⟨x25_1, x227000_1, u227000, rfl, HA, HK1, HO_227000, BK220, BK221, BK226, HB⟩ := hrel
          cases gk with
          | zero => exact absurd HA.out (by simp [impl_Round.l0])
          | succ k1 =>
            have H := HA.out
            clear HA
            simp only [impl_Round.l0] at H
            by_cases c22 : x25_1 < (l1.length : Int)
            · rw [if_pos c22] at H
              have c22b0 : decide (x25_1 < (l1.length : Int)) = true := decide_eq_true c22
              clear c22
              by_cases c23 : 0 ≤ x25_1
              · rw [if_pos c23] at H
                have c23b0 : decide (0 ≤ x25_1) = true := decide_eq_true c23
                clear c23
                by_cases c24 : x25_1 < (l1.length : Int)
                · rw [if_pos c24] at H
                  have c24b0 : decide (x25_1 < (l1.length : Int)) = true := decide_eq_true c24
                  clear c24
                  replace H := Option.bind_eq_some_iff.mp H
                  obtain ⟨t229, A250, H⟩ := H
                  replace H : (if x25_1 < (x227000_1.length : Int) then (impl_Round.l0 k1 l1 (l1.length : Int) (wrap64 (x25_1 + 1)) a0_0 a0_1 l0_2 l1 (x227000_1.set (x25_1 : Int).toNat t229)) else (none)) = some (r1, r2, r3) := H
                  have A25 := Aside0.mk A250
                  clear A250
                  by_cases c26 : x25_1 < (x227000_1.length : Int)
                  · rw [if_pos c26] at H
                    have c26b0 : decide (x25_1 < (x227000_1.length : Int)) = true := decide_eq_true c26
                    clear c26
                    obtain ⟨y230, hy230⟩ : ∃ y_ : List Int, y_ = (x227000_1.set (x25_1 : Int).toNat t229) := ⟨_, rfl⟩
                    replace H : (impl_Round.l0 k1 l1 (l1.length : Int) (wrap64 (x25_1 + 1)) a0_0 a0_1 l0_2 l1 y230) = some (r1, r2, r3) := by first | (rw [hy230]; with_reducible exact H) | (have H2_ := (Option.bind_some _ _).symm.trans H; rw [hy230]; with_reducible exact H2_) | (have H2_ := (Option.bind_some _ _).symm.trans H; with_reducible exact H2_) | with_reducible exact H | (rw [hy230]; exact H) | exact H
                    have Ny230 := Aside0.mk hy230
                    clear hy230
                    have H' := Aside0.mk H
                    clear H
                    have p227 : 0 ≤ (x25_1 : Int) := of_decide_eq_true (by first | (with_reducible assumption) | assumption)
                    have q227 : x25_1 < (l1.length : Int) := of_decide_eq_true (by first | (with_reducible assumption) | assumption)
                    obtain ⟨ad227, e227, hx227_0, hx227_1⟩ := at_T92 HR1.out x25_1 p227 q227
                    cases e227
                    replace hx227_0 := (HB.out.cell (World.block_lt_of_cell? w _ hx227_0)).trans hx227_0
                    replace hx227_1 := (HB.out.cell (World.block_lt_of_cell? w _ hx227_1)).trans hx227_1
                    replace p227 := eq_true p227
                    replace q227 := eq_true q227
                    try go_wp2_with (first | ((with_reducible refine gate_dst (N := 9) rfl ?_); refine box_event ?hg (N := 9) ?hd (cs := #[.int .i64 0, .int .i64 0]) (t := 92) ?hr ?_; (case hd => rfl); (case hg => rfl); (case hr => first | (go_simp; done) | (go_simp; rfl)); intro gb228 hg w28 hbox hb; have n0_ := Aside0.mk (Kd.R_below (by (with_reducible repeat (first | apply Kd.R_alloc | apply Kd.R_drewN | apply Kd.R_drew)); exact HO_227000.out) hb); have n1_ := Aside0.mk (blk_below (g := gb220) (o := .cells #[.int .i64 a0_0, .int .i64 a0_1, .slice A0_2 l0_2.length c0_2] 84 (0, 0)) (by (with_reducible repeat (first | refine blk_drewN ?_ _ | refine blk_drew ?_ | refine blk_alloc ?_ _)); exact BK220.out) hb); have n2_ := Aside0.mk (blk_below (g := gb221) (o := .cells #[.slice (some ad227) l1.length c1] 90 (0, 0)) (by (with_reducible repeat (first | refine blk_drewN ?_ _ | refine blk_drew ?_ | refine blk_alloc ?_ _)); exact BK221.out) hb); have n3_ := Aside0.mk (blk_below (g := gb226) (o := .cells #[u227000] 28 (0, 0)) (by (with_reducible repeat (first | refine blk_drewN ?_ _ | refine blk_drew ?_ | refine blk_alloc ?_ _)); exact BK226.out) hb); have n4_ := Aside0.mk (below_step (by repeat (first | (with_reducible first | exact HB.out | apply below_alloc | apply pw_below_drewN | apply below_drew1 | refine below_set ?_ GE220.out | refine below_set ?_ GE221.out | refine below_set ?_ GE226.out) | exact HB.out)) hb); have n5_ := Aside0.mk (hbox); have n6_ := Aside0.mk ((by rw [hg]; exact (below_size (by repeat (first | (with_reducible first | exact HB.out | apply below_alloc | apply pw_below_drewN | apply below_drew1 | refine below_set ?_ GE220.out | refine below_set ?_ GE221.out | refine below_set ?_ GE226.out) | exact HB.out))) : w.heap.size ≤ gb228)); have n7_ := Aside0.mk ((by rw [hg]; exact (below_size (by repeat (first | (with_reducible first | exact HB.out | apply below_alloc | apply pw_below_drewN | apply below_drew1 | refine below_set ?_ GE220.out | refine below_set ?_ GE221.out | refine below_set ?_ GE226.out) | exact HB.out))) : w.heap.size ≤ gb228)); have n8_ := Aside0.mk ((by rw [hg]; exact Nat.ne_of_lt (blk_lt (g := gb220) (o := .cells #[.int .i64 a0_0, .int .i64 a0_1, .slice A0_2 l0_2.length c0_2] 84 (0, 0)) (by (with_reducible repeat (first | refine blk_drewN ?_ _ | refine blk_drew ?_ | refine blk_alloc ?_ _)); exact BK220.out)) : gb220 ≠ gb228)); have n9_ := Aside0.mk ((by rw [hg]; exact Nat.ne_of_gt (blk_lt (g := gb220) (o := .cells #[.int .i64 a0_0, .int .i64 a0_1, .slice A0_2 l0_2.length c0_2] 84 (0, 0)) (by (with_reducible repeat (first | refine blk_drewN ?_ _ | refine blk_drew ?_ | refine blk_alloc ?_ _)); exact BK220.out)) : gb228 ≠ gb220)); have n10_ := Aside0.mk ((by rw [hg]; exact Nat.ne_of_lt (blk_lt (g := gb221) (o := .cells #[.slice (some ad227) l1.length c1] 90 (0, 0)) (by (with_reducible repeat (first | refine blk_drewN ?_ _ | refine blk_drew ?_ | refine blk_alloc ?_ _)); exact BK221.out)) : gb221 ≠ gb228)); have n11_ := Aside0.mk ((by rw [hg]; exact Nat.ne_of_gt (blk_lt (g := gb221) (o := .cells #[.slice (some ad227) l1.length c1] 90 (0, 0)) (by (with_reducible repeat (first | refine blk_drewN ?_ _ | refine blk_drew ?_ | refine blk_alloc ?_ _)); exact BK221.out)) : gb228 ≠ gb221)); have n12_ := Aside0.mk ((by rw [hg]; exact Nat.ne_of_lt (blk_lt (g := gb226) (o := .cells #[u227000] 28 (0, 0)) (by (with_reducible repeat (first | refine blk_drewN ?_ _ | refine blk_drew ?_ | refine blk_alloc ?_ _)); exact BK226.out)) : gb226 ≠ gb228)); have n13_ := Aside0.mk ((by rw [hg]; exact Nat.ne_of_gt (blk_lt (g := gb226) (o := .cells #[u227000] 28 (0, 0)) (by (with_reducible repeat (first | refine blk_drewN ?_ _ | refine blk_drew ?_ | refine blk_alloc ?_ _)); exact BK226.out)) : gb228 ≠ gb226)); clear HO_227000; clear BK220; clear BK221; clear BK226; clear HB; have HO_227000 := n0_; have BK220 := n1_; have BK221 := n2_; have BK226 := n3_; have HB := n4_; have BK228 := n5_; have GW228 := n6_; have GE228 := n7_; have NB220_228 := n8_; have NB228_220 := n9_; have NB221_228 := n10_; have NB228_221 := n11_; have NB226_228 := n12_; have NB228_226 := n13_; clear n0_ n1_ n2_ n3_ n4_ n5_ n6_ n7_ n8_ n9_ n10_ n11_ n12_ n13_; clear hb hbox hg; have hnb29 := NB228_220.out; have hnc29 := NB220_228.out; have hnb30 := NB228_221.out; have hnc30 := NB221_228.out; have hnb31 := NB228_226.out; have hnc31 := NB226_228.out; have hcz32_0 : w28.cell? ⟨gb228, 0, none⟩ = some (.int .i64 0) := (blk_cell BK228.out 0).trans rfl; have hcz32_1 : w28.cell? ⟨gb228, 1, none⟩ = some (.int .i64 0) := (blk_cell BK228.out 1).trans rfl; have hfz32_0 := blk_frozen BK228.out 0; have hfz32_1 := blk_frozen BK228.out 1))
                    have n0_ : Aside0 (Kd.R (Kd.int .i64) 3 ((w28.setCell ⟨gb228, 0, none⟩ (.int .i64 ((rd_T92 l1 x25_1).f0))).setCell ⟨gb228, 1, none⟩ (.int .i64 ((rd_T92 l1 x25_1).f1))) w.heap.size (fun _ => True) u227000 x227000_1) := ⟨by (with_reducible repeat (first | apply Kd.R_alloc | apply Kd.R_drewN | apply Kd.R_drew)); exact Kd.R_mono (Kd.R_far (p := ⟨gb228, 1, none⟩) (Kd.R_far (p := ⟨gb228, 0, none⟩) (Kd.R_types HO_227000.out BK228.out (by decide)) (fun _ hk => hk.2) (.int .i64 ((rd_T92 l1 x25_1).f0))) (fun _ hk => hk.2) (.int .i64 ((rd_T92 l1 x25_1).f1))) (fun _ hk => trivial)⟩
                    have n1_ : Aside0 (((w28.setCell ⟨gb228, 0, none⟩ (.int .i64 ((rd_T92 l1 x25_1).f0))).setCell ⟨gb228, 1, none⟩ (.int .i64 ((rd_T92 l1 x25_1).f1))).heap[gb220]? = some (.cells #[.int .i64 a0_0, .int .i64 a0_1, .slice A0_2 l0_2.length c0_2] 84 (0, 0))) := ⟨by (with_reducible repeat (first | refine blk_drewN ?_ _ | refine blk_drew ?_ | refine blk_alloc ?_ _)); refine blk_far ?_ NB220_228.out _; (with_reducible repeat (first | refine blk_drewN ?_ _ | refine blk_drew ?_ | refine blk_alloc ?_ _)); refine blk_far ?_ NB220_228.out _; (with_reducible repeat (first | refine blk_drewN ?_ _ | refine blk_drew ?_ | refine blk_alloc ?_ _)); exact BK220.out⟩
                    have n2_ : Aside0 (((w28.setCell ⟨gb228, 0, none⟩ (.int .i64 ((rd_T92 l1 x25_1).f0))).setCell ⟨gb228, 1, none⟩ (.int .i64 ((rd_T92 l1 x25_1).f1))).heap[gb221]? = some (.cells #[.slice (some ad227) l1.length c1] 90 (0, 0))) := ⟨by (with_reducible repeat (first | refine blk_drewN ?_ _ | refine blk_drew ?_ | refine blk_alloc ?_ _)); refine blk_far ?_ NB221_228.out _; (with_reducible repeat (first | refine blk_drewN ?_ _ | refine blk_drew ?_ | refine blk_alloc ?_ _)); refine blk_far ?_ NB221_228.out _; (with_reducible repeat (first | refine blk_drewN ?_ _ | refine blk_drew ?_ | refine blk_alloc ?_ _)); exact BK221.out⟩
                    have n3_ : Aside0 (((w28.setCell ⟨gb228, 0, none⟩ (.int .i64 ((rd_T92 l1 x25_1).f0))).setCell ⟨gb228, 1, none⟩ (.int .i64 ((rd_T92 l1 x25_1).f1))).heap[gb226]? = some (.cells #[u227000] 28 (0, 0))) := ⟨by (with_reducible repeat (first | refine blk_drewN ?_ _ | refine blk_drew ?_ | refine blk_alloc ?_ _)); refine blk_far ?_ NB226_228.out _; (with_reducible repeat (first | refine blk_drewN ?_ _ | refine blk_drew ?_ | refine blk_alloc ?_ _)); refine blk_far ?_ NB226_228.out _; (with_reducible repeat (first | refine blk_drewN ?_ _ | refine blk_drew ?_ | refine blk_alloc ?_ _)); exact BK226.out⟩
                    have n4_ : Aside0 (((w28.setCell ⟨gb228, 0, none⟩ (.int .i64 ((rd_T92 l1 x25_1).f0))).setCell ⟨gb228, 1, none⟩ (.int .i64 ((rd_T92 l1 x25_1).f1))).heap[gb228]? = some (.cells #[.int .i64 ((rd_T92 l1 x25_1).f0), .int .i64 ((rd_T92 l1 x25_1).f1)] 92 (0, 0))) := ⟨by (with_reducible repeat (first | refine blk_drewN ?_ _ | refine blk_drew ?_ | refine blk_alloc ?_ _)); refine blk_put (cs := #[.int .i64 ((rd_T92 l1 x25_1).f0), .int .i64 0]) ?_ 1 _ rfl; (with_reducible repeat (first | refine blk_drewN ?_ _ | refine blk_drew ?_ | refine blk_alloc ?_ _)); refine blk_put (cs := #[.int .i64 0, .int .i64 0]) ?_ 0 _ rfl; (with_reducible repeat (first | refine blk_drewN ?_ _ | refine blk_drew ?_ | refine blk_alloc ?_ _)); exact BK228.out⟩
                    have n5_ : Aside0 (Below w.heap.size w ((w28.setCell ⟨gb228, 0, none⟩ (.int .i64 ((rd_T92 l1 x25_1).f0))).setCell ⟨gb228, 1, none⟩ (.int .i64 ((rd_T92 l1 x25_1).f1)))) := ⟨by repeat (first | (with_reducible first | exact HB.out | apply below_alloc | apply pw_below_drewN | apply below_drew1 | refine below_set ?_ GE220.out | refine below_set ?_ GE221.out | refine below_set ?_ GE226.out | refine below_set ?_ GE228.out) | exact HB.out)⟩
                    (try clear HO_227000)
                    (try clear BK220)
                    (try clear BK221)
                    (try clear BK226)
                    (try clear BK228)
                    (try clear HB)
                    generalize ((w28.setCell ⟨gb228, 0, none⟩ (.int .i64 ((rd_T92 l1 x25_1).f0))).setCell ⟨gb228, 1, none⟩ (.int .i64 ((rd_T92 l1 x25_1).f1))) = w33 at n0_ n1_ n2_ n3_ n4_ n5_ ⊢
                    have HO_227000 := n0_
                    have BK220 := n1_
                    have BK221 := n2_
                    have BK226 := n3_
                    have BK228 := n4_
                    have HB := n5_
                    clear n0_ n1_ n2_ n3_ n4_ n5_
                    have n0_ := Aside0.mk (Kd.R_drew HO_227000.out)
                    have n1_ := Aside0.mk (blk_drew BK220.out)
                    have n2_ := Aside0.mk (blk_drew BK221.out)
                    have n3_ := Aside0.mk (blk_drew BK226.out)
                    have n4_ := Aside0.mk (blk_drew BK228.out)
                    have n5_ := Aside0.mk (below_drew1 HB.out)
                    clear HO_227000
                    clear BK220
                    clear BK221
                    clear BK226
                    clear BK228
                    clear HB
                    have HO_227000 := n0_
                    have BK220 := n1_
                    have BK221 := n2_
                    have BK226 := n3_
                    have BK228 := n4_
                    have HB := n5_
                    clear n0_ n1_ n2_ n3_ n4_ n5_
                    refine start_ (n := 7) (S := fun w' => w'.cell? ⟨gb226, 0, none⟩ = some (u227000) ∧ w'.cell? ⟨gb220, 0, none⟩ = some (.int .i64 a0_0) ∧ w'.cell? ⟨gb220, 1, none⟩ = some (.int .i64 a0_1) ∧ w'.cell? ⟨gb220, 2, none⟩ = some (.slice A0_2 l0_2.length c0_2) ∧ w'.cell? ⟨gb228, 0, none⟩ = some (.int .i64 ((rd_T92 l1 x25_1).f0)) ∧ w'.cell? ⟨gb228, 1, none⟩ = some (.int .i64 ((rd_T92 l1 x25_1).f1))) (ds := [6]) #[false, false, false, false, false, false, false] (by kernel_rfl) rfl rfl ⟨(blk_cell BK226.out 0).trans rfl, (blk_cell BK220.out 0).trans rfl, (blk_cell BK220.out 1).trans rfl, (blk_cell BK220.out 2).trans rfl, (blk_cell BK228.out 0).trans rfl, (blk_cell BK228.out 1).trans rfl⟩ (fun hHeld => ?_)
                    generalize w33.drew = w34 at HO_227000 BK220 BK221 BK226 BK228 HB hHeld ⊢
                    refine pure_ (i := 1) (N := some 31) (v := ?_) (a' := ?_) #[false, true, false, false, false, false, false] rfl rfl (by kernel_rfl) (fun _ _ _ h => h) (Or.inl ⟨by rfl, ?_⟩) ?_ ?_
                    rotate_left
                    · intro w'
                      go_simp
                      with_reducible rfl
                    rotate_left
                    · simp only [Act.put, List.setIfInBounds_toArray, List.set_cons_zero, List.set_cons_succ, i64_w, i32_w]
                      rfl
                    refine take_ (i := 0) (N := some 30) (v := ?_) (a' := ?_) #[true, true, false, false, false, false, false] rfl rfl (by kernel_rfl) (fun _ _ _ h => h) (Or.inl ⟨by rfl, ?_⟩) hHeld ?_ ?_
                    rotate_left
                    · rintro w' ⟨s0, s1, s2, s3, s4, s5⟩
                      go_simp
                      with_reducible rfl
                    rotate_left
                    · simp only [Act.put, List.setIfInBounds_toArray, List.set_cons_zero, List.set_cons_succ, i64_w, i32_w]
                      rfl
                    refine take_ (i := 2) (N := some 32) (v := ?_) (a' := ?_) #[true, true, true, false, false, false, false] rfl rfl (by kernel_rfl) (fun _ _ _ h => h) (Or.inl ⟨by rfl, ?_⟩) hHeld ?_ ?_
                    rotate_left
                    · rintro w' ⟨s0, s1, s2, s3, s4, s5⟩
                      go_simp
                      with_reducible rfl
                    rotate_left
                    · simp only [Act.put, List.setIfInBounds_toArray, List.set_cons_zero, List.set_cons_succ, i64_w, i32_w]
                      rfl
                    refine take_ (i := 3) (N := some 33) (v := ?_) (a' := ?_) #[true, true, true, true, false, false, false] rfl rfl (by kernel_rfl) (fun _ _ _ h => h) (Or.inl ⟨by rfl, ?_⟩) hHeld ?_ ?_
                    rotate_left
                    · rintro w' ⟨s0, s1, s2, s3, s4, s5⟩
                      go_simp
                      with_reducible rfl
                    rotate_left
                    · simp only [Act.put, List.setIfInBounds_toArray, List.set_cons_zero, List.set_cons_succ, i64_w, i32_w]
                      rfl
                    refine one_ (i := 4) (N := some 34) #[true, true, true, true, true, false, false] rfl rfl (by kernel_rfl) (by decide) (fun K hK => ?_)
                    refine goes_ Try.func93 (by kernel_rfl) rfl #[.agg #[.int .i64 a0_0, .int .i64 a0_1, .slice A0_2 l0_2.length c0_2], .agg #[.int .i64 ((rd_T92 l1 x25_1).f0), .int .i64 ((rd_T92 l1 x25_1).f1)]] (by rfl) rfl rfl (by (try simp only [List.map_toArray, List.map_cons, List.map_nil]); first | done | rfl | (simp only [List.length_drop, List.length_take]; rfl)) ?_
                    with_reducible refine (impl_Floor_want.calls k1 a0_0 a0_1 _ _ l0_2 ((rd_T92 l1 x25_1).f0) ((rd_T92 l1 x25_1).f1) t229 _ ?side1 ?side2 A25.out).mono ?_
                    (case side1 => repeat (first | exact (Kd.C_below HR0_2.out HB.out) | (with_reducible refine Kd.C_alloc ?_ _) | (with_reducible refine Kd.C_drewN ?_ _) | (with_reducible refine Kd.C_drew ?_)))
                    (case side2 => exact HC0_2.out)
                    rintro e w35 ⟨rfl, hb⟩
                    refine ⟨_, rfl, ?_⟩
                    have n0_ := Aside0.mk (Kd.R_below (by (with_reducible repeat (first | apply Kd.R_alloc | apply Kd.R_drewN | apply Kd.R_drew)); exact HO_227000.out) hb)
                    have n1_ := Aside0.mk (blk_below (g := gb220) (o := .cells #[.int .i64 a0_0, .int .i64 a0_1, .slice A0_2 l0_2.length c0_2] 84 (0, 0)) (by (with_reducible repeat (first | refine blk_drewN ?_ _ | refine blk_drew ?_ | refine blk_alloc ?_ _)); exact BK220.out) hb)
                    have n2_ := Aside0.mk (blk_below (g := gb221) (o := .cells #[.slice (some ad227) l1.length c1] 90 (0, 0)) (by (with_reducible repeat (first | refine blk_drewN ?_ _ | refine blk_drew ?_ | refine blk_alloc ?_ _)); exact BK221.out) hb)
                    have n3_ := Aside0.mk (blk_below (g := gb226) (o := .cells #[u227000] 28 (0, 0)) (by (with_reducible repeat (first | refine blk_drewN ?_ _ | refine blk_drew ?_ | refine blk_alloc ?_ _)); exact BK226.out) hb)
                    have n4_ := Aside0.mk (blk_below (g := gb228) (o := .cells #[.int .i64 ((rd_T92 l1 x25_1).f0), .int .i64 ((rd_T92 l1 x25_1).f1)] 92 (0, 0)) (by (with_reducible repeat (first | refine blk_drewN ?_ _ | refine blk_drew ?_ | refine blk_alloc ?_ _)); exact BK228.out) hb)
                    have n5_ := Aside0.mk (below_step (by repeat (first | (with_reducible first | exact HB.out | apply below_alloc | apply pw_below_drewN | apply below_drew1 | refine below_set ?_ GE220.out | refine below_set ?_ GE221.out | refine below_set ?_ GE226.out | refine below_set ?_ GE228.out) | exact HB.out)) hb)
                    clear HO_227000
                    clear BK220
                    clear BK221
                    clear BK226
                    clear BK228
                    clear HB
                    have HO_227000 := n0_
                    have BK220 := n1_
                    have BK221 := n2_
                    have BK226 := n3_
                    have BK228 := n4_
                    have HB := n5_
                    clear n0_ n1_ n2_ n3_ n4_ n5_
                    (try clear hb)
                    (try clear hb2)
                    (try clear hk)
                    (try clear hi)
                    have p27 : 0 ≤ (x25_1 : Int) := of_decide_eq_true (by first | (with_reducible assumption) | assumption)
                    have q27 : (x25_1 : Int) < ((x227000_1.length : Int) : Int) := of_decide_eq_true (by first | (with_reducible assumption) | assumption)
                    obtain ⟨go27, co27, eo27, gb27, gl27, cl27, HG27⟩ := Kd.R_form HO_227000.out (by omega)
                    (first | cases eo27 | (injection eo27 with ea_ en_ ec_; (first | subst ea_ | (injection ea_ with ea_; subst ea_)); subst ec_; clear en_))
                    have GB27 := Aside0.mk gb27
                    have GG27 := Aside0.mk HG27
                    clear gb27 gl27 HG27
                    obtain ⟨hx27_0, hf27_0⟩ := Kd.R_celln 0 HO_227000.out (x25_1 : Int) p27 q27
                    replace p27 := eq_true p27
                    replace q27 := eq_true q27
                    have HP36 := Kd.R_putn HO_227000.out (x25_1 : Int) t229
                    rw [← Ny230.out] at HP36
                    have HQ36 := Aside0.mk HP36
                    clear HP36
                    refine hK.out _ _ ⟨(blk_cell BK226.out 0).trans rfl, (blk_cell BK220.out 0).trans rfl, (blk_cell BK220.out 1).trans rfl, (blk_cell BK220.out 2).trans rfl, (blk_cell BK228.out 0).trans rfl, (blk_cell BK228.out 1).trans rfl⟩ (fun hHeld => ?_)
                    clear hK K
                    refine norm_ (a' := ?_) ?_ ?_
                    rotate_left
                    · show Act.put _ (some 34) _ = _
                      simp only [Act.put, List.setIfInBounds_toArray, List.set_cons_zero, List.set_cons_succ, i64_w, i32_w]
                      rfl
                    refine pure_ (i := 5) (N := some 35) (v := ?_) (a' := ?_) #[true, true, true, true, true, true, false] rfl rfl (by kernel_rfl) (fun _ _ _ h => h) (Or.inl ⟨by rfl, ?_⟩) ?_ ?_
                    rotate_left
                    · intro w'
                      go_simp
                      with_reducible rfl
                    rotate_left
                    · simp only [Act.put, List.setIfInBounds_toArray, List.set_cons_zero, List.set_cons_succ, i64_w, i32_w]
                      rfl
                    refine last_ (i := 6) (N := none) #[true, true, true, true, true, true, true] rfl rfl (by kernel_rfl) (by decide) (fun K hK => ?_)
                    refine skip_ (w1 := ?_) (by rfl) rfl ?_ ?_
                    rotate_left
                    · go_simp
                      rfl
                    refine hK.out _ _ ?_
                    clear hK K
                    refine done_ (by kernel_rfl) ?_
                    try go_wp2
                    (first | go_roundg k1 | (refine Handed.intro k1 ?measure ?_; rotate_left; go_step; (repeat apply Exists.intro); simp only [add_plain]; refine ⟨?rel, rfl⟩))
                    case measure => have := HK1.out; omega
                    case rel => exact ⟨(wrap64 (x25_1 + 1)), (y230), (.slice (some ⟨go27, 0, none⟩) x227000_1.length co27), (by first | rfl | (simp; done) | (simp [*]; done) | (simp [wrap64]; done)), H', ⟨by have := HK1.out; omega⟩, ⟨by (with_reducible repeat (first | apply Kd.R_alloc | apply Kd.R_drewN | apply Kd.R_drew)); exact HQ36.out⟩, ⟨by (with_reducible repeat (first | refine blk_drewN ?_ _ | refine blk_drew ?_ | refine blk_alloc ?_ _)); refine blk_far ?_ (by have h_ := Kd.R_ne HO_227000.out BK220.out (by decide); intro e_; exact h_ (by rw [e_]; rfl)) _; (with_reducible repeat (first | refine blk_drewN ?_ _ | refine blk_drew ?_ | refine blk_alloc ?_ _)); exact BK220.out⟩, ⟨by (with_reducible repeat (first | refine blk_drewN ?_ _ | refine blk_drew ?_ | refine blk_alloc ?_ _)); refine blk_far ?_ (by have h_ := Kd.R_ne HO_227000.out BK221.out (by decide); intro e_; exact h_ (by rw [e_]; rfl)) _; (with_reducible repeat (first | refine blk_drewN ?_ _ | refine blk_drew ?_ | refine blk_alloc ?_ _)); exact BK221.out⟩, ⟨by (with_reducible repeat (first | refine blk_drewN ?_ _ | refine blk_drew ?_ | refine blk_alloc ?_ _)); refine blk_far ?_ (by have h_ := Kd.R_ne HO_227000.out BK226.out (by decide); intro e_; exact h_ (by rw [e_]; rfl)) _; (with_reducible repeat (first | refine blk_drewN ?_ _ | refine blk_drew ?_ | refine blk_alloc ?_ _)); exact BK226.out⟩, ⟨by repeat (first | (with_reducible first | exact HB.out | apply below_alloc | apply pw_below_drewN | apply below_drew1 | refine below_set ?_ GB27.out | refine below_set ?_ GE220.out | refine below_set ?_ GE221.out | refine below_set ?_ GE226.out | refine below_set ?_ GE228.out) | exact HB.out)⟩⟩
                  · rw [if_neg c26] at H
                    exact absurd H (by simp)
                · rw [if_neg c24] at H
                  exact absurd H (by simp)
              · rw [if_neg c23] at H
                exact absurd H (by simp)
            · rw [if_neg c22] at H
              have c22b0 : decide (x25_1 < (l1.length : Int)) = false := decide_eq_false c22
              clear c22
              have HC37 := Aside0.mk H
              clear H
              go_upto_block 2 with (fail)
              go_cut [] (fun wc => ∃ (kq : Nat) (x227000_36 : List Int) (u227000 : Value), Aside0 (impl_Round.j3 kq l1 x227000_36 = some (r1, r2, r3)) ∧ Aside0 (kq ≤ k1) ∧ Aside0 (Kd.R (Kd.int .i64) 3 wc w.heap.size (fun _ => True) u227000 x227000_36) ∧ Aside0 (wc.heap[gb220]? = some (.cells #[.int .i64 a0_0, .int .i64 a0_1, (.slice A0_2 l0_2.length c0_2)] 84 (0, 0))) ∧ Aside0 (wc.heap[gb221]? = some (.cells #[(.slice A1 l1.length c1)] 90 (0, 0))) ∧ Aside0 (wc.heap[gb226]? = some (.cells #[u227000] 28 (0, 0))) ∧ Aside0 (Below w.heap.size w wc))
              case first =>
                have H := HC37.out
                clear HC37
                have H' := Aside0.mk H
                clear H
                go_wp2
                go_loopg [] k1 (fun kq w' => ∃ (x227000_2 : List Int) (u227000 : Value), Aside0 (impl_Round.l1 kq l1 x227000_2 = some (r1, r2, r3)) ∧ Aside0 (kq ≤ k1) ∧ Aside0 (Kd.R (Kd.int .i64) 3 w' w.heap.size (fun _ => True) u227000 x227000_2) ∧ Aside0 (w'.heap[gb220]? = some (.cells #[.int .i64 a0_0, .int .i64 a0_1, (.slice A0_2 l0_2.length c0_2)] 84 (0, 0))) ∧ Aside0 (w'.heap[gb221]? = some (.cells #[(.slice A1 l1.length c1)] 90 (0, 0))) ∧ Aside0 (w'.heap[gb226]? = some (.cells #[u227000] 28 (0, 0))) ∧ Aside0 (Below w.heap.size w w'))
                case atStart => exact ⟨(x227000_1), (u227000), H', ⟨Nat.le_refl _⟩, ⟨by (with_reducible repeat (first | apply Kd.R_alloc | apply Kd.R_drewN | apply Kd.R_drew)); exact HO_227000.out⟩, ⟨by (with_reducible repeat (first | refine blk_drewN ?_ _ | refine blk_drew ?_ | refine blk_alloc ?_ _)); exact BK220.out⟩, ⟨by (with_reducible repeat (first | refine blk_drewN ?_ _ | refine blk_drew ?_ | refine blk_alloc ?_ _)); exact BK221.out⟩, ⟨by (with_reducible repeat (first | refine blk_drewN ?_ _ | refine blk_drew ?_ | refine blk_alloc ?_ _)); exact BK226.out⟩, ⟨by repeat (first | (with_reducible first | exact HB.out | apply below_alloc | apply pw_below_drewN | apply below_drew1 | refine below_set ?_ GE220.out | refine below_set ?_ GE221.out | refine below_set ?_ GE226.out) | exact HB.out)⟩⟩
                case round =>
                  clear H'
                  try clear c1
                  try clear c2
                  try clear p2
                  try clear q2
                  try clear hx2
                  try clear hf2
                  try clear c3
                  try clear c4
                  try clear c5
                  try clear c5b0
                  try clear c5b1
                  try clear c6
                  try clear c6b0
                  try clear c6b1
                  try clear p6
                  try clear c7
                  try clear c8
                  try clear c9
                  try clear c18
                  try clear c19
                  try clear c22
                  try clear c22b0
                  try clear p22
                  try clear q22
                  try clear hx22
                  try clear c23
                  try clear c23b0
                  try clear c24
                  try clear c24b0
                  try clear c26
                  try clear c26b0
                  try clear p27
                  try clear q27
                  try clear hx27
                  try clear hf27
                  try clear c29
                  try clear c30
                  try clear c31
                  try clear hcz10_0
                  try clear hcz10_1
                  try clear hcz10_2
                  try clear hcz11_0
                  try clear hcz13_0
                  try clear hcz20_0
                  try clear hcz21_0
                  try clear hcz32_0
                  try clear hcz32_1
                  try clear hfz10_0
                  try clear hfz10_1
                  try clear hfz10_2
                  try clear hfz11_0
                  try clear hfz13_0
                  try clear hfz20_0
                  try clear hfz21_0
                  try clear hfz32_0
                  try clear hfz32_1
                  try clear hx227_0
                  try clear hx227_1
                  try clear hx27_0
                  try clear p2
                  try clear p227
                  try clear p27
                  try clear p6
                  try clear q227
                  try clear q27
                  obtain ⟨x227000_2, u227000, HA, HK2, HO_227000, BK220, BK221, BK226, HB⟩ := hrel
                  cases gk with
                  | zero => exact absurd HA.out (by simp [impl_Round.l1])
                  | succ k2 =>
                    have H := HA.out
                    clear HA
                    simp only [impl_Round.l1] at H
                    have H' := Aside0.mk H
                    clear H
                    go_wp2
                    go_loopg [11] k2 (fun kq v11 w' => ∃ (x11_3 : Int), v11 = .int .i64 x11_3 ∧ Aside0 (impl_Round.l2 kq x11_3 l1 x227000_2 = some (r1, r2, r3)) ∧ Aside0 (kq ≤ k2) ∧ Aside0 (Kd.R (Kd.int .i64) 3 w' w.heap.size (fun _ => True) u227000 x227000_2) ∧ Aside0 (w'.heap[gb220]? = some (.cells #[.int .i64 a0_0, .int .i64 a0_1, (.slice A0_2 l0_2.length c0_2)] 84 (0, 0))) ∧ Aside0 (w'.heap[gb221]? = some (.cells #[(.slice A1 l1.length c1)] 90 (0, 0))) ∧ Aside0 (w'.heap[gb226]? = some (.cells #[u227000] 28 (0, 0))) ∧ Aside0 (Below w.heap.size w w'))
                    case atStart => exact ⟨(0), (by first | rfl | (simp; done) | (simp [*]; done) | (simp [wrap64]; done)), H', ⟨Nat.le_refl _⟩, ⟨by (with_reducible repeat (first | apply Kd.R_alloc | apply Kd.R_drewN | apply Kd.R_drew)); exact HO_227000.out⟩, ⟨by (with_reducible repeat (first | refine blk_drewN ?_ _ | refine blk_drew ?_ | refine blk_alloc ?_ _)); exact BK220.out⟩, ⟨by (with_reducible repeat (first | refine blk_drewN ?_ _ | refine blk_drew ?_ | refine blk_alloc ?_ _)); exact BK221.out⟩, ⟨by (with_reducible repeat (first | refine blk_drewN ?_ _ | refine blk_drew ?_ | refine blk_alloc ?_ _)); exact BK226.out⟩, ⟨by repeat (first | (with_reducible first | exact HB.out | apply below_alloc | apply pw_below_drewN | apply below_drew1 | refine below_set ?_ GE220.out | refine below_set ?_ GE221.out | refine below_set ?_ GE226.out) | exact HB.out)⟩⟩
                    case round =>
                      clear H'
                      try clear c1
                      try clear c2
                      try clear p2
                      try clear q2
                      try clear hx2
                      try clear hf2
                      try clear c3
                      try clear c4
                      try clear c5
                      try clear c5b0
                      try clear c5b1
                      try clear c6
                      try clear c6b0
                      try clear c6b1
                      try clear p6
                      try clear c7
                      try clear c8
                      try clear c9
                      try clear c18
                      try clear c19
                      try clear c22
                      try clear c22b0
                      try clear p22
                      try clear q22
                      try clear hx22
                      try clear c23
                      try clear c23b0
                      try clear c24
                      try clear c24b0
                      try clear c26
                      try clear c26b0
                      try clear p27
                      try clear q27
                      try clear hx27
                      try clear hf27
                      try clear c29
                      try clear c30
                      try clear c31
                      try clear hcz10_0
                      try clear hcz10_1
                      try clear hcz10_2
                      try clear hcz11_0
                      try clear hcz13_0
                      try clear hcz20_0
                      try clear hcz21_0
                      try clear hcz32_0
                      try clear hcz32_1
                      try clear hfz10_0
                      try clear hfz10_1
                      try clear hfz10_2
                      try clear hfz11_0
                      try clear hfz13_0
                      try clear hfz20_0
                      try clear hfz21_0
                      try clear hfz32_0
                      try clear hfz32_1
                      try clear hx227_0
                      try clear hx227_1
                      try clear hx27_0
                      try clear p2
                      try clear p22
                      try clear p227
                      try clear p27
                      try clear p6
                      try clear q2
                      try clear q22
                      try clear q227
                      try clear q27
                      obtain ⟨x11_3, rfl, HA, HK3, HO_227000, BK220, BK221, BK226, HB⟩ := hrel
                      cases gk with
                      | zero => exact absurd HA.out (by simp [impl_Round.l2])
                      | succ k3 =>
                        have H := HA.out
                        clear HA
                        simp only [impl_Round.l2] at H
                        by_cases c38 : x11_3 < (l1.length : Int)
                        · rw [if_pos c38] at H
                          have c38b0 : decide (x11_3 < (l1.length : Int)) = true := decide_eq_true c38
                          clear c38
                          (first | rw [c38b0] | (simp only [i64_w, i32_w]; rw [c38b0]) | skip)
                          replace H := Option.bind_eq_some_iff.mp H
                          obtain ⟨t231, A390, H⟩ := H
                          replace H : (if t231 = true then (if x11_3 = (l1.length : Int) then (impl_Round.j3 k3 l1 x227000_2) else (if 0 ≤ x11_3 then (if x11_3 < (x227000_2.length : Int) then (impl_Round.l1 k3 l1 (x227000_2.set (x11_3 : Int).toNat (-1))) else (none)) else (none))) else (impl_Round.l2 k3 (wrap64 (x11_3 + 1)) l1 x227000_2)) = some (r1, r2, r3) := H
                          have A39 := Aside0.mk A390
                          clear A390
                          by_cases c40 : t231 = true
                          · subst c40
                            have H1 : (if x11_3 = (l1.length : Int) then (impl_Round.j3 k3 l1 x227000_2) else (if 0 ≤ x11_3 then (if x11_3 < (x227000_2.length : Int) then (impl_Round.l1 k3 l1 (x227000_2.set (x11_3 : Int).toNat (-1))) else (none)) else (none))) = some (r1, r2, r3) := by rw [if_pos rfl] at H; exact H
                            clear H
                            have H := H1
                            clear H1
                            by_cases c41 : x11_3 = (l1.length : Int)
                            · rw [if_pos c41] at H
                              have c41b0 : (x11_3 == (l1.length : Int)) = true := beq_iff_eq.mpr c41
                              have c41b1 : (x11_3 != (l1.length : Int)) = false := bne_eq_false_iff_eq.mpr c41
                              clear c41
                              have H' := Aside0.mk H
                              clear H
                              have hnb42 := NB221_220.out
                              have hnc42 := NB220_221.out
                              have hnb43 := NB221_226.out
                              have hnc43 := NB226_221.out
                              have hcz44_0 : wr.cell? ⟨gb221, 0, none⟩ = some (.slice A1 l1.length c1) := (blk_cell BK221.out 0).trans rfl
                              have hfz44_0 := blk_frozen BK221.out 0
                              go_wp2_with (first | (go_at_call 94; (with_reducible refine (impl_Round_1_c.calls k3 x11_3 (some ⟨gb226, 0, none⟩) 1 [x227000_2] (some ⟨gb221, 0, none⟩) 1 [l1] true _ ?side1 ?side2 ?side3 ?side4 A39.out).mono ?_); (case side1 => exact Kd.C_one (d := (Kd.slice 3 (Kd.int .i64))) (cs := #[u227000]) (t := 28) (by (with_reducible repeat (first | refine blk_drewN ?_ _ | refine blk_drew ?_ | refine blk_alloc ?_ _)); exact BK226.out) (by obtain ⟨A_, c_, e_⟩ := Kd.R_slice HO_227000.out; have h_ := HO_227000.out; rw [e_] at h_ ⊢; exact ⟨_, _, rfl, (Kd.R_reads' h_).2.1, (by repeat (first | exact (Kd.R_reads' h_).2.2 | (with_reducible refine Kd.C_alloc ?_ _) | (with_reducible refine Kd.C_drewN ?_ _) | (with_reducible refine Kd.C_drew ?_)))⟩) rfl); (case side2 => exact Nat.le_refl 1); (case side3 => exact Kd.C_one (d := (Kd.slice 92 k92)) (cs := #[.slice A1 l1.length c1]) (t := 90) (by (with_reducible repeat (first | refine blk_drewN ?_ _ | refine blk_drew ?_ | refine blk_alloc ?_ _)); exact BK221.out) ⟨_, _, rfl, (by exact HC1.out), (by repeat (first | exact (Kd.C_below HR1.out HB.out) | (with_reducible refine Kd.C_alloc ?_ _) | (with_reducible refine Kd.C_drewN ?_ _) | (with_reducible refine Kd.C_drew ?_)))⟩ rfl); (case side4 => exact Nat.le_refl 1); rintro e w45 ⟨rfl, hb⟩; have n0_ := Aside0.mk (Kd.R_below (by (with_reducible repeat (first | apply Kd.R_alloc | apply Kd.R_drewN | apply Kd.R_drew)); exact HO_227000.out) hb); have n1_ := Aside0.mk (blk_below (g := gb220) (o := .cells #[.int .i64 a0_0, .int .i64 a0_1, .slice A0_2 l0_2.length c0_2] 84 (0, 0)) (by (with_reducible repeat (first | refine blk_drewN ?_ _ | refine blk_drew ?_ | refine blk_alloc ?_ _)); exact BK220.out) hb); have n2_ := Aside0.mk (blk_below (g := gb221) (o := .cells #[.slice A1 l1.length c1] 90 (0, 0)) (by (with_reducible repeat (first | refine blk_drewN ?_ _ | refine blk_drew ?_ | refine blk_alloc ?_ _)); exact BK221.out) hb); have n3_ := Aside0.mk (blk_below (g := gb226) (o := .cells #[u227000] 28 (0, 0)) (by (with_reducible repeat (first | refine blk_drewN ?_ _ | refine blk_drew ?_ | refine blk_alloc ?_ _)); exact BK226.out) hb); have n4_ := Aside0.mk (below_step (by repeat (first | (with_reducible first | exact HB.out | apply below_alloc | apply pw_below_drewN | apply below_drew1 | refine below_set ?_ GE220.out | refine below_set ?_ GE221.out | refine below_set ?_ GE226.out) | exact HB.out)) hb); clear HO_227000; clear BK220; clear BK221; clear BK226; clear HB; have HO_227000 := n0_; have BK220 := n1_; have BK221 := n2_; have BK226 := n3_; have HB := n4_; clear n0_ n1_ n2_ n3_ n4_; (try clear hb); (try clear hb2); (try clear hk); (try clear hi); have hcz46_0 : w45.cell? ⟨gb221, 0, none⟩ = some (.slice A1 l1.length c1) := (blk_cell BK221.out 0).trans rfl; have hfz46_0 := blk_frozen BK221.out 0))
                              go_meet
                              case rel => exact ⟨_, (x227000_2), (u227000), H', ⟨by have := HK1.out; have := HK2.out; have := HK3.out; first | omega | exact Nat.le_refl _⟩, ⟨by (with_reducible repeat (first | apply Kd.R_alloc | apply Kd.R_drewN | apply Kd.R_drew)); exact HO_227000.out⟩, ⟨by (with_reducible repeat (first | refine blk_drewN ?_ _ | refine blk_drew ?_ | refine blk_alloc ?_ _)); exact BK220.out⟩, ⟨by (with_reducible repeat (first | refine blk_drewN ?_ _ | refine blk_drew ?_ | refine blk_alloc ?_ _)); exact BK221.out⟩, ⟨by (with_reducible repeat (first | refine blk_drewN ?_ _ | refine blk_drew ?_ | refine blk_alloc ?_ _)); exact BK226.out⟩, ⟨by repeat (first | (with_reducible first | exact HB.out | apply below_alloc | apply pw_below_drewN | apply below_drew1 | refine below_set ?_ GE220.out | refine below_set ?_ GE221.out | refine below_set ?_ GE226.out) | exact HB.out)⟩⟩
                            · rw [if_neg c41] at H
                              have c41b0 : (x11_3 == (l1.length : Int)) = false := beq_eq_false_iff_ne.mpr c41
                              have c41b1 : (x11_3 != (l1.length : Int)) = true := bne_iff_ne.mpr c41
                              by_cases c47 : 0 ≤ x11_3
                              · rw [if_pos c47] at H
                                have c47b0 : decide (0 ≤ x11_3) = true := decide_eq_true c47
                                clear c47
                                by_cases c48 : x11_3 < (x227000_2.length : Int)
                                · rw [if_pos c48] at H
                                  have c48b0 : decide (x11_3 < (x227000_2.length : Int)) = true := decide_eq_true c48
                                  clear c48
                                  obtain ⟨y232, hy232⟩ : ∃ y_ : List Int, y_ = (x227000_2.set (x11_3 : Int).toNat (-1)) := ⟨_, rfl⟩
                                  replace H : (impl_Round.l1 k3 l1 y232) = some (r1, r2, r3) := by first | (rw [hy232]; with_reducible exact H) | (have H2_ := (Option.bind_some _ _).symm.trans H; rw [hy232]; with_reducible exact H2_) | (have H2_ := (Option.bind_some _ _).symm.trans H; with_reducible exact H2_) | with_reducible exact H | (rw [hy232]; exact H) | exact H
                                  have Ny232 := Aside0.mk hy232
                                  clear hy232
                                  have H' := Aside0.mk H
                                  clear H
                                  have hnb50 := NB221_220.out
                                  have hnc50 := NB220_221.out
                                  have hnb51 := NB221_226.out
                                  have hnc51 := NB226_221.out
                                  have hcz52_0 : wr.cell? ⟨gb221, 0, none⟩ = some (.slice A1 l1.length c1) := (blk_cell BK221.out 0).trans rfl
                                  have hfz52_0 := blk_frozen BK221.out 0
                                  go_wp2_with (first | (go_at_call 94; (with_reducible refine (impl_Round_1_c.calls k3 x11_3 (some ⟨gb226, 0, none⟩) 1 [x227000_2] (some ⟨gb221, 0, none⟩) 1 [l1] true _ ?side1 ?side2 ?side3 ?side4 A39.out).mono ?_); (case side1 => exact Kd.C_one (d := (Kd.slice 3 (Kd.int .i64))) (cs := #[u227000]) (t := 28) (by (with_reducible repeat (first | refine blk_drewN ?_ _ | refine blk_drew ?_ | refine blk_alloc ?_ _)); exact BK226.out) (by obtain ⟨A_, c_, e_⟩ := Kd.R_slice HO_227000.out; have h_ := HO_227000.out; rw [e_] at h_ ⊢; exact ⟨_, _, rfl, (Kd.R_reads' h_).2.1, (by repeat (first | exact (Kd.R_reads' h_).2.2 | (with_reducible refine Kd.C_alloc ?_ _) | (with_reducible refine Kd.C_drewN ?_ _) | (with_reducible refine Kd.C_drew ?_)))⟩) rfl); (case side2 => exact Nat.le_refl 1); (case side3 => exact Kd.C_one (d := (Kd.slice 92 k92)) (cs := #[.slice A1 l1.length c1]) (t := 90) (by (with_reducible repeat (first | refine blk_drewN ?_ _ | refine blk_drew ?_ | refine blk_alloc ?_ _)); exact BK221.out) ⟨_, _, rfl, (by exact HC1.out), (by repeat (first | exact (Kd.C_below HR1.out HB.out) | (with_reducible refine Kd.C_alloc ?_ _) | (with_reducible refine Kd.C_drewN ?_ _) | (with_reducible refine Kd.C_drew ?_)))⟩ rfl); (case side4 => exact Nat.le_refl 1); rintro e w53 ⟨rfl, hb⟩; have n0_ := Aside0.mk (Kd.R_below (by (with_reducible repeat (first | apply Kd.R_alloc | apply Kd.R_drewN | apply Kd.R_drew)); exact HO_227000.out) hb); have n1_ := Aside0.mk (blk_below (g := gb220) (o := .cells #[.int .i64 a0_0, .int .i64 a0_1, .slice A0_2 l0_2.length c0_2] 84 (0, 0)) (by (with_reducible repeat (first | refine blk_drewN ?_ _ | refine blk_drew ?_ | refine blk_alloc ?_ _)); exact BK220.out) hb); have n2_ := Aside0.mk (blk_below (g := gb221) (o := .cells #[.slice A1 l1.length c1] 90 (0, 0)) (by (with_reducible repeat (first | refine blk_drewN ?_ _ | refine blk_drew ?_ | refine blk_alloc ?_ _)); exact BK221.out) hb); have n3_ := Aside0.mk (blk_below (g := gb226) (o := .cells #[u227000] 28 (0, 0)) (by (with_reducible repeat (first | refine blk_drewN ?_ _ | refine blk_drew ?_ | refine blk_alloc ?_ _)); exact BK226.out) hb); have n4_ := Aside0.mk (below_step (by repeat (first | (with_reducible first | exact HB.out | apply below_alloc | apply pw_below_drewN | apply below_drew1 | refine below_set ?_ GE220.out | refine below_set ?_ GE221.out | refine below_set ?_ GE226.out) | exact HB.out)) hb); clear HO_227000; clear BK220; clear BK221; clear BK226; clear HB; have HO_227000 := n0_; have BK220 := n1_; have BK221 := n2_; have BK226 := n3_; have HB := n4_; clear n0_ n1_ n2_ n3_ n4_; (try clear hb); (try clear hb2); (try clear hk); (try clear hi); have hcz54_0 : w53.cell? ⟨gb221, 0, none⟩ = some (.slice A1 l1.length c1) := (blk_cell BK221.out 0).trans rfl; have hfz54_0 := blk_frozen BK221.out 0; have hnb55 := NB226_220.out; have hnc55 := NB220_226.out; have hcz56_0 : w53.cell? ⟨gb226, 0, none⟩ = some (u227000) := (blk_cell BK226.out 0).trans rfl; have hfz56_0 := blk_frozen BK226.out 0; have p49 : 0 ≤ (x11_3 : Int) := of_decide_eq_true (by first | (with_reducible assumption) | assumption); have q49 : (x11_3 : Int) < ((x227000_2.length : Int) : Int) := of_decide_eq_true (by first | (with_reducible assumption) | assumption); obtain ⟨go49, co49, eo49, gb49, gl49, cl49, HG49⟩ := Kd.R_form HO_227000.out (by omega); (first | cases eo49 | (injection eo49 with ea_ en_ ec_; (first | subst ea_ | (injection ea_ with ea_; subst ea_)); subst ec_; clear en_)); have GB49 := Aside0.mk gb49; have GG49 := Aside0.mk HG49; clear gb49 gl49 HG49; obtain ⟨hx49_0, hf49_0⟩ := Kd.R_celln 0 HO_227000.out (x11_3 : Int) p49 q49; replace p49 := eq_true p49; replace q49 := eq_true q49; obtain ⟨hy57_, hz57_⟩ := Kd.R_celln 0 HO_227000.out (x11_3 : Int) (of_decide_eq_true (by first | (with_reducible assumption) | assumption)) (of_decide_eq_true (by first | (with_reducible assumption) | assumption)); have HP57 := Kd.R_putg HO_227000.out (x11_3 : Int) (-1)) | ((with_reducible refine gate_store (t := 3) (p := 56) rfl ?_); refine store_event (t := 3) (p := 56) (v := ?vo_w58) (w1 := (w53.setCell ⟨go49, (x11_3 : Int).toNat, none⟩ (.int .i64 (-1)))) ?hg ?ho ?hn ?hr ?_; (case ho => rfl); (case hg => rfl); (case hn => rfl); (case hr => first | (go_simp; done) | (go_simp; rfl)); intro w58 hw; have hg : w53.grownBy w58 (some go49) := (by rw [hw]; exact HP57.2); have hp_ : Kd.R (Kd.int .i64) 3 w58 w.heap.size (fun _ => True) (.slice (some ⟨go49, 0, none⟩) x227000_2.length co49) y232 := (by rw [hw, Ny232.out]; exact HP57.1); clear HP57; have n0_ := Aside0.mk (hp_); have n1_ := Aside0.mk (blk_grown (g := gb220) (o := .cells #[.int .i64 a0_0, .int .i64 a0_1, .slice A0_2 l0_2.length c0_2] 84 (0, 0)) (by (with_reducible repeat (first | refine blk_drewN ?_ _ | refine blk_drew ?_ | refine blk_alloc ?_ _)); exact BK220.out) hg (Kd.R_ne HO_227000.out BK220.out (by decide))); have n2_ := Aside0.mk (blk_grown (g := gb221) (o := .cells #[.slice A1 l1.length c1] 90 (0, 0)) (by (with_reducible repeat (first | refine blk_drewN ?_ _ | refine blk_drew ?_ | refine blk_alloc ?_ _)); exact BK221.out) hg (Kd.R_ne HO_227000.out BK221.out (by decide))); have n3_ := Aside0.mk (blk_grown (g := gb226) (o := .cells #[.slice (some ⟨go49, 0, none⟩) x227000_2.length co49] 28 (0, 0)) (by (with_reducible repeat (first | refine blk_drewN ?_ _ | refine blk_drew ?_ | refine blk_alloc ?_ _)); exact BK226.out) hg (Kd.R_ne HO_227000.out BK226.out (by decide))); have n4_ := Aside0.mk ((by rw [hw]; exact below_set (HB.out) GB49.out : Below w.heap.size w w58)); clear HO_227000; clear BK220; clear BK221; clear BK226; clear HB; have HO_227000 := n0_; have BK220 := n1_; have BK221 := n2_; have BK226 := n3_; have HB := n4_; clear n0_ n1_ n2_ n3_ n4_; clear hg hw hp_))
                                  (first | go_roundg k3 | (refine Handed.intro k3 ?measure ?_; rotate_left; go_step; (repeat apply Exists.intro); simp only [add_plain]; refine ⟨?rel, rfl⟩))
                                  case measure => have := HK1.out; have := HK2.out; have := HK3.out; omega
                                  case rel => exact ⟨(y232), (.slice (some ⟨go49, 0, none⟩) x227000_2.length co49), H', ⟨by have := HK1.out; have := HK2.out; have := HK3.out; omega⟩, ⟨by (with_reducible repeat (first | apply Kd.R_alloc | apply Kd.R_drewN | apply Kd.R_drew)); exact HO_227000.out⟩, ⟨by (with_reducible repeat (first | refine blk_drewN ?_ _ | refine blk_drew ?_ | refine blk_alloc ?_ _)); exact BK220.out⟩, ⟨by (with_reducible repeat (first | refine blk_drewN ?_ _ | refine blk_drew ?_ | refine blk_alloc ?_ _)); exact BK221.out⟩, ⟨by (with_reducible repeat (first | refine blk_drewN ?_ _ | refine blk_drew ?_ | refine blk_alloc ?_ _)); exact BK226.out⟩, ⟨by repeat (first | (with_reducible first | exact HB.out | apply below_alloc | apply pw_below_drewN | apply below_drew1 | refine below_set ?_ GE220.out | refine below_set ?_ GE221.out | refine below_set ?_ GE226.out) | exact HB.out)⟩⟩
                                · rw [if_neg c48] at H
                                  exact absurd H (by simp)
                              · rw [if_neg c47] at H
                                exact absurd H (by simp)
                          · replace c40 := Bool.eq_false_iff.mpr c40
                            subst c40
                            have H1 : (impl_Round.l2 k3 (wrap64 (x11_3 + 1)) l1 x227000_2) = some (r1, r2, r3) := by rw [if_neg (show ¬ (false = true) by decide)] at H; exact H
                            clear H
                            have H := H1
                            clear H1
                            have H' := Aside0.mk H
                            clear H
                            have hnb59 := NB221_220.out
                            have hnc59 := NB220_221.out
                            have hnb60 := NB221_226.out
                            have hnc60 := NB226_221.out
                            have hcz61_0 : wr.cell? ⟨gb221, 0, none⟩ = some (.slice A1 l1.length c1) := (blk_cell BK221.out 0).trans rfl
                            have hfz61_0 := blk_frozen BK221.out 0
                            go_wp2_with (first | (go_at_call 94; (with_reducible refine (impl_Round_1_c.calls k3 x11_3 (some ⟨gb226, 0, none⟩) 1 [x227000_2] (some ⟨gb221, 0, none⟩) 1 [l1] false _ ?side1 ?side2 ?side3 ?side4 A39.out).mono ?_); (case side1 => exact Kd.C_one (d := (Kd.slice 3 (Kd.int .i64))) (cs := #[u227000]) (t := 28) (by (with_reducible repeat (first | refine blk_drewN ?_ _ | refine blk_drew ?_ | refine blk_alloc ?_ _)); exact BK226.out) (by obtain ⟨A_, c_, e_⟩ := Kd.R_slice HO_227000.out; have h_ := HO_227000.out; rw [e_] at h_ ⊢; exact ⟨_, _, rfl, (Kd.R_reads' h_).2.1, (by repeat (first | exact (Kd.R_reads' h_).2.2 | (with_reducible refine Kd.C_alloc ?_ _) | (with_reducible refine Kd.C_drewN ?_ _) | (with_reducible refine Kd.C_drew ?_)))⟩) rfl); (case side2 => exact Nat.le_refl 1); (case side3 => exact Kd.C_one (d := (Kd.slice 92 k92)) (cs := #[.slice A1 l1.length c1]) (t := 90) (by (with_reducible repeat (first | refine blk_drewN ?_ _ | refine blk_drew ?_ | refine blk_alloc ?_ _)); exact BK221.out) ⟨_, _, rfl, (by exact HC1.out), (by repeat (first | exact (Kd.C_below HR1.out HB.out) | (with_reducible refine Kd.C_alloc ?_ _) | (with_reducible refine Kd.C_drewN ?_ _) | (with_reducible refine Kd.C_drew ?_)))⟩ rfl); (case side4 => exact Nat.le_refl 1); rintro e w62 ⟨rfl, hb⟩; have n0_ := Aside0.mk (Kd.R_below (by (with_reducible repeat (first | apply Kd.R_alloc | apply Kd.R_drewN | apply Kd.R_drew)); exact HO_227000.out) hb); have n1_ := Aside0.mk (blk_below (g := gb220) (o := .cells #[.int .i64 a0_0, .int .i64 a0_1, .slice A0_2 l0_2.length c0_2] 84 (0, 0)) (by (with_reducible repeat (first | refine blk_drewN ?_ _ | refine blk_drew ?_ | refine blk_alloc ?_ _)); exact BK220.out) hb); have n2_ := Aside0.mk (blk_below (g := gb221) (o := .cells #[.slice A1 l1.length c1] 90 (0, 0)) (by (with_reducible repeat (first | refine blk_drewN ?_ _ | refine blk_drew ?_ | refine blk_alloc ?_ _)); exact BK221.out) hb); have n3_ := Aside0.mk (blk_below (g := gb226) (o := .cells #[u227000] 28 (0, 0)) (by (with_reducible repeat (first | refine blk_drewN ?_ _ | refine blk_drew ?_ | refine blk_alloc ?_ _)); exact BK226.out) hb); have n4_ := Aside0.mk (below_step (by repeat (first | (with_reducible first | exact HB.out | apply below_alloc | apply pw_below_drewN | apply below_drew1 | refine below_set ?_ GE220.out | refine below_set ?_ GE221.out | refine below_set ?_ GE226.out) | exact HB.out)) hb); clear HO_227000; clear BK220; clear BK221; clear BK226; clear HB; have HO_227000 := n0_; have BK220 := n1_; have BK221 := n2_; have BK226 := n3_; have HB := n4_; clear n0_ n1_ n2_ n3_ n4_; (try clear hb); (try clear hb2); (try clear hk); (try clear hi)))
                            (first | go_roundg k3 | (refine Handed.intro k3 ?measure ?_; rotate_left; go_step; (repeat apply Exists.intro); simp only [add_plain]; refine ⟨?rel, rfl⟩))
                            case measure => have := HK1.out; have := HK2.out; have := HK3.out; omega
                            case rel => exact ⟨(wrap64 (x11_3 + 1)), (by first | rfl | (simp; done) | (simp [*]; done) | (simp [wrap64]; done)), H', ⟨by have := HK1.out; have := HK2.out; have := HK3.out; omega⟩, ⟨by (with_reducible repeat (first | apply Kd.R_alloc | apply Kd.R_drewN | apply Kd.R_drew)); exact HO_227000.out⟩, ⟨by (with_reducible repeat (first | refine blk_drewN ?_ _ | refine blk_drew ?_ | refine blk_alloc ?_ _)); exact BK220.out⟩, ⟨by (with_reducible repeat (first | refine blk_drewN ?_ _ | refine blk_drew ?_ | refine blk_alloc ?_ _)); exact BK221.out⟩, ⟨by (with_reducible repeat (first | refine blk_drewN ?_ _ | refine blk_drew ?_ | refine blk_alloc ?_ _)); exact BK226.out⟩, ⟨by repeat (first | (with_reducible first | exact HB.out | apply below_alloc | apply pw_below_drewN | apply below_drew1 | refine below_set ?_ GE220.out | refine below_set ?_ GE221.out | refine below_set ?_ GE226.out) | exact HB.out)⟩⟩
                        · rw [if_neg c38] at H
                          have c38b0 : decide (x11_3 < (l1.length : Int)) = false := decide_eq_false c38
                          clear c38
                          (first | rw [c38b0] | (simp only [i64_w, i32_w]; rw [c38b0]) | skip)
                          by_cases c63 : x11_3 = (l1.length : Int)
                          · rw [if_pos c63] at H
                            have c63b0 : (x11_3 == (l1.length : Int)) = true := beq_iff_eq.mpr c63
                            have c63b1 : (x11_3 != (l1.length : Int)) = false := bne_eq_false_iff_eq.mpr c63
                            clear c63
                            have H' := Aside0.mk H
                            clear H
                            have hnb64 := NB221_220.out
                            have hnc64 := NB220_221.out
                            have hnb65 := NB221_226.out
                            have hnc65 := NB226_221.out
                            have hcz66_0 : wr.cell? ⟨gb221, 0, none⟩ = some (.slice A1 l1.length c1) := (blk_cell BK221.out 0).trans rfl
                            have hfz66_0 := blk_frozen BK221.out 0
                            go_wp2
                            go_meet
                            case rel => exact ⟨_, (x227000_2), (u227000), H', ⟨by have := HK1.out; have := HK2.out; have := HK3.out; first | omega | exact Nat.le_refl _⟩, ⟨by (with_reducible repeat (first | apply Kd.R_alloc | apply Kd.R_drewN | apply Kd.R_drew)); exact HO_227000.out⟩, ⟨by (with_reducible repeat (first | refine blk_drewN ?_ _ | refine blk_drew ?_ | refine blk_alloc ?_ _)); exact BK220.out⟩, ⟨by (with_reducible repeat (first | refine blk_drewN ?_ _ | refine blk_drew ?_ | refine blk_alloc ?_ _)); exact BK221.out⟩, ⟨by (with_reducible repeat (first | refine blk_drewN ?_ _ | refine blk_drew ?_ | refine blk_alloc ?_ _)); exact BK226.out⟩, ⟨by repeat (first | (with_reducible first | exact HB.out | apply below_alloc | apply pw_below_drewN | apply below_drew1 | refine below_set ?_ GE220.out | refine below_set ?_ GE221.out | refine below_set ?_ GE226.out) | exact HB.out)⟩⟩
                          · rw [if_neg c63] at H
                            have c63b0 : (x11_3 == (l1.length : Int)) = false := beq_eq_false_iff_ne.mpr c63
                            have c63b1 : (x11_3 != (l1.length : Int)) = true := bne_iff_ne.mpr c63
                            by_cases c67 : 0 ≤ x11_3
                            · rw [if_pos c67] at H
                              have c67b0 : decide (0 ≤ x11_3) = true := decide_eq_true c67
                              clear c67
                              by_cases c68 : x11_3 < (x227000_2.length : Int)
                              · rw [if_pos c68] at H
                                have c68b0 : decide (x11_3 < (x227000_2.length : Int)) = true := decide_eq_true c68
                                clear c68
                                obtain ⟨y233, hy233⟩ : ∃ y_ : List Int, y_ = (x227000_2.set (x11_3 : Int).toNat (-1)) := ⟨_, rfl⟩
                                replace H : (impl_Round.l1 k3 l1 y233) = some (r1, r2, r3) := by first | (rw [hy233]; with_reducible exact H) | (have H2_ := (Option.bind_some _ _).symm.trans H; rw [hy233]; with_reducible exact H2_) | (have H2_ := (Option.bind_some _ _).symm.trans H; with_reducible exact H2_) | with_reducible exact H | (rw [hy233]; exact H) | exact H
                                have Ny233 := Aside0.mk hy233
                                clear hy233
                                have H' := Aside0.mk H
                                clear H
                                have hnb70 := NB221_220.out
                                have hnc70 := NB220_221.out
                                have hnb71 := NB221_226.out
                                have hnc71 := NB226_221.out
                                have hcz72_0 : wr.cell? ⟨gb221, 0, none⟩ = some (.slice A1 l1.length c1) := (blk_cell BK221.out 0).trans rfl
                                have hfz72_0 := blk_frozen BK221.out 0
                                have hnb73 := NB226_220.out
                                have hnc73 := NB220_226.out
                                have hcz74_0 : wr.cell? ⟨gb226, 0, none⟩ = some (u227000) := (blk_cell BK226.out 0).trans rfl
                                have hfz74_0 := blk_frozen BK226.out 0
                                have p69 : 0 ≤ (x11_3 : Int) := of_decide_eq_true (by first | (with_reducible assumption) | assumption)
                                have q69 : (x11_3 : Int) < ((x227000_2.length : Int) : Int) := of_decide_eq_true (by first | (with_reducible assumption) | assumption)
                                obtain ⟨go69, co69, eo69, gb69, gl69, cl69, HG69⟩ := Kd.R_form HO_227000.out (by omega)
                                (first | cases eo69 | (injection eo69 with ea_ en_ ec_; (first | subst ea_ | (injection ea_ with ea_; subst ea_)); subst ec_; clear en_))
                                have GB69 := Aside0.mk gb69
                                have GG69 := Aside0.mk HG69
                                clear gb69 gl69 HG69
                                obtain ⟨hx69_0, hf69_0⟩ := Kd.R_celln 0 HO_227000.out (x11_3 : Int) p69 q69
                                replace p69 := eq_true p69
                                replace q69 := eq_true q69
                                have HP75 := Kd.R_putg HO_227000.out (x11_3 : Int) (-1)
                                go_wp2_with (first | ((with_reducible refine gate_store (t := 3) (p := 56) rfl ?_); refine store_event (t := 3) (p := 56) (v := ?vo_w76) (w1 := (wr.setCell ⟨go69, (x11_3 : Int).toNat, none⟩ (.int .i64 (-1)))) ?hg ?ho ?hn ?hr ?_; (case ho => rfl); (case hg => rfl); (case hn => rfl); (case hr => first | (go_simp; done) | (go_simp; rfl)); intro w76 hw; have hg : wr.grownBy w76 (some go69) := (by rw [hw]; exact HP75.2); have hp_ : Kd.R (Kd.int .i64) 3 w76 w.heap.size (fun _ => True) (.slice (some ⟨go69, 0, none⟩) x227000_2.length co69) y233 := (by rw [hw, Ny233.out]; exact HP75.1); clear HP75; have n0_ := Aside0.mk (hp_); have n1_ := Aside0.mk (blk_grown (g := gb220) (o := .cells #[.int .i64 a0_0, .int .i64 a0_1, .slice A0_2 l0_2.length c0_2] 84 (0, 0)) (by (with_reducible repeat (first | refine blk_drewN ?_ _ | refine blk_drew ?_ | refine blk_alloc ?_ _)); exact BK220.out) hg (Kd.R_ne HO_227000.out BK220.out (by decide))); have n2_ := Aside0.mk (blk_grown (g := gb221) (o := .cells #[.slice A1 l1.length c1] 90 (0, 0)) (by (with_reducible repeat (first | refine blk_drewN ?_ _ | refine blk_drew ?_ | refine blk_alloc ?_ _)); exact BK221.out) hg (Kd.R_ne HO_227000.out BK221.out (by decide))); have n3_ := Aside0.mk (blk_grown (g := gb226) (o := .cells #[.slice (some ⟨go69, 0, none⟩) x227000_2.length co69] 28 (0, 0)) (by (with_reducible repeat (first | refine blk_drewN ?_ _ | refine blk_drew ?_ | refine blk_alloc ?_ _)); exact BK226.out) hg (Kd.R_ne HO_227000.out BK226.out (by decide))); have n4_ := Aside0.mk ((by rw [hw]; exact below_set (HB.out) GB69.out : Below w.heap.size w w76)); clear HO_227000; clear BK220; clear BK221; clear BK226; clear HB; have HO_227000 := n0_; have BK220 := n1_; have BK221 := n2_; have BK226 := n3_; have HB := n4_; clear n0_ n1_ n2_ n3_ n4_; clear hg hw hp_))
                                (first | go_roundg k3 | (refine Handed.intro k3 ?measure ?_; rotate_left; go_step; (repeat apply Exists.intro); simp only [add_plain]; refine ⟨?rel, rfl⟩))
                                case measure => have := HK1.out; have := HK2.out; have := HK3.out; omega
                                case rel => exact ⟨(y233), (.slice (some ⟨go69, 0, none⟩) x227000_2.length co69), H', ⟨by have := HK1.out; have := HK2.out; have := HK3.out; omega⟩, ⟨by (with_reducible repeat (first | apply Kd.R_alloc | apply Kd.R_drewN | apply Kd.R_drew)); exact HO_227000.out⟩, ⟨by (with_reducible repeat (first | refine blk_drewN ?_ _ | refine blk_drew ?_ | refine blk_alloc ?_ _)); exact BK220.out⟩, ⟨by (with_reducible repeat (first | refine blk_drewN ?_ _ | refine blk_drew ?_ | refine blk_alloc ?_ _)); exact BK221.out⟩, ⟨by (with_reducible repeat (first | refine blk_drewN ?_ _ | refine blk_drew ?_ | refine blk_alloc ?_ _)); exact BK226.out⟩, ⟨by repeat (first | (with_reducible first | exact HB.out | apply below_alloc | apply pw_below_drewN | apply below_drew1 | refine below_set ?_ GE220.out | refine below_set ?_ GE221.out | refine below_set ?_ GE226.out) | exact HB.out)⟩⟩
                              · rw [if_neg c68] at H
                                exact absurd H (by simp)
                            · rw [if_neg c67] at H
                              exact absurd H (by simp)
              case rest =>
                clear HC37
                try clear c1
                try clear c2
                try clear p2
                try clear q2
                try clear hx2
                try clear hf2
                try clear c3
                try clear c4
                try clear p4
                try clear q4
                try clear hx4
                try clear hf4
                try clear c5
                try clear c5b0
                try clear c5b1
                try clear c6
                try clear c6b0
                try clear c6b1
                try clear p6
                try clear q6
                try clear hx6
                try clear hf6
                try clear c7
                try clear c8
                try clear c9
                try clear c18
                try clear c19
                try clear c22
                try clear c22b0
                try clear p22
                try clear q22
                try clear hx22
                try clear c23
                try clear c23b0
                try clear c24
                try clear c24b0
                try clear c26
                try clear c26b0
                try clear p27
                try clear q27
                try clear hx27
                try clear hf27
                try clear c29
                try clear c30
                try clear c31
                try clear c38
                try clear c38b0
                try clear c40
                try clear c41
                try clear c41b0
                try clear c41b1
                try clear c42
                try clear c43
                try clear c47
                try clear c47b0
                try clear c48
                try clear c48b0
                try clear p49
                try clear q49
                try clear hx49
                try clear hf49
                try clear c50
                try clear c51
                try clear c55
                try clear c59
                try clear c60
                try clear c63
                try clear c63b0
                try clear c63b1
                try clear c64
                try clear p64
                try clear c65
                try clear c67
                try clear c67b0
                try clear c68
                try clear c68b0
                try clear p69
                try clear q69
                try clear hx69
                try clear hf69
                try clear c70
                try clear c71
                try clear c73
                try clear hcz10_0
                try clear hcz10_1
                try clear hcz10_2
                try clear hcz11_0
                try clear hcz13_0
                try clear hcz20_0
                try clear hcz21_0
                try clear hcz32_0
                try clear hcz32_1
                try clear hcz44_0
                try clear hcz46_0
                try clear hcz52_0
                try clear hcz54_0
                try clear hcz56_0
                try clear hcz61_0
                try clear hcz66_0
                try clear hcz72_0
                try clear hcz74_0
                try clear hfz10_0
                try clear hfz10_1
                try clear hfz10_2
                try clear hfz11_0
                try clear hfz13_0
                try clear hfz20_0
                try clear hfz21_0
                try clear hfz32_0
                try clear hfz32_1
                try clear hfz44_0
                try clear hfz46_0
                try clear hfz52_0
                try clear hfz54_0
                try clear hfz56_0
                try clear hfz61_0
                try clear hfz66_0
                try clear hfz72_0
                try clear hfz74_0
                try clear hx227_0
                try clear hx227_1
                try clear hx27_0
                try clear hx49_0
                try clear hx69_0
                try clear p2
                try clear p22
                try clear p227
                try clear p27
                try clear p49
                try clear p6
                try clear p69
                try clear q2
                try clear q22
                try clear q227
                try clear q27
                try clear q49
                try clear q69
                obtain ⟨kq, x227000_36, u227000, HA, HJ36, HO_227000, BK220, BK221, BK226, HB⟩ := hcut
                cases kq with
                | zero => exact absurd HA.out (by simp [impl_Round.j3])
                | succ kj36 =>
                  have H := HA.out
                  clear HA
                  simp only [impl_Round.j3] at H
                  replace H := Option.bind_eq_some_iff.mp H
                  obtain ⟨t234, A770, H⟩ := H
                  replace H : (impl_Round.l3 kj36 t234 ([] : List Int) x227000_36 (x227000_36.length : Int) 0) = some (r1, r2, r3) := H
                  have A77 := Aside0.mk A770
                  clear A770
                  have H' := Aside0.mk H
                  clear H
                  have hnb78 := NB221_220.out
                  have hnc78 := NB220_221.out
                  have hnb79 := NB221_226.out
                  have hnc79 := NB226_221.out
                  have hcz80_0 : wc.cell? ⟨gb221, 0, none⟩ = some (.slice A1 l1.length c1) := (blk_cell BK221.out 0).trans rfl
                  have hfz80_0 := blk_frozen BK221.out 0
                  go_wp2_with (first | ((with_reducible refine gate_callee (f := 80) rfl ?_); refine goesL_ (some 58) rfl rfl Try.func80 (by kernel_rfl) rfl #[.slice A1 l1.length c1] rfl (by (try simp only [List.map_toArray, List.map_cons, List.map_nil]); first | done | rfl | (simp only [List.length_drop, List.length_take]; rfl)) ?_; (with_reducible refine (impl_Cart_80.calls _ _ l1 t234 _ ?side1 ?side2 A77.out).mono ?_); (case side1 => repeat (first | exact (Kd.C_below HR1.out HB.out) | (with_reducible refine Kd.C_alloc ?_ _) | (with_reducible refine Kd.C_drewN ?_ _) | (with_reducible refine Kd.C_drew ?_))); (case side2 => exact HC1.out); rintro e w81 ⟨v235, rfl, ho0, hb⟩; refine ⟨_, rfl, ?_⟩; have n0_ := Aside0.mk (Kd.R_below (by (with_reducible repeat (first | apply Kd.R_alloc | apply Kd.R_drewN | apply Kd.R_drew)); exact HO_227000.out) hb); have n1_ := Aside0.mk (Kd.R_lower ho0 (below_size (by repeat (first | (with_reducible first | exact HB.out | apply below_alloc | apply pw_below_drewN | apply below_drew1 | refine below_set ?_ GE220.out | refine below_set ?_ GE221.out | refine below_set ?_ GE226.out) | exact HB.out)))); have n2_ := Aside0.mk (blk_below (g := gb220) (o := .cells #[.int .i64 a0_0, .int .i64 a0_1, .slice A0_2 l0_2.length c0_2] 84 (0, 0)) (by (with_reducible repeat (first | refine blk_drewN ?_ _ | refine blk_drew ?_ | refine blk_alloc ?_ _)); exact BK220.out) hb); have n3_ := Aside0.mk (blk_below (g := gb221) (o := .cells #[.slice A1 l1.length c1] 90 (0, 0)) (by (with_reducible repeat (first | refine blk_drewN ?_ _ | refine blk_drew ?_ | refine blk_alloc ?_ _)); exact BK221.out) hb); have n4_ := Aside0.mk (blk_below (g := gb226) (o := .cells #[u227000] 28 (0, 0)) (by (with_reducible repeat (first | refine blk_drewN ?_ _ | refine blk_drew ?_ | refine blk_alloc ?_ _)); exact BK226.out) hb); have n5_ := Aside0.mk (below_step (by repeat (first | (with_reducible first | exact HB.out | apply below_alloc | apply pw_below_drewN | apply below_drew1 | refine below_set ?_ GE220.out | refine below_set ?_ GE221.out | refine below_set ?_ GE226.out) | exact HB.out)) hb); clear HO_227000; clear BK220; clear BK221; clear BK226; clear HB; have HO_227000 := n0_; have HO236 := n1_; have BK220 := n2_; have BK221 := n3_; have BK226 := n4_; have HB := n5_; clear n0_ n1_ n2_ n3_ n4_ n5_; (try clear hb); (try clear hb2); (try clear hk); (try clear hi); (try clear ho0); have hnb82 := NB226_220.out; have hnc82 := NB220_226.out; have hcz83_0 : w81.cell? ⟨gb226, 0, none⟩ = some (u227000) := (blk_cell BK226.out 0).trans rfl; have hfz83_0 := blk_frozen BK226.out 0; obtain ⟨Ao84, co84, eo84⟩ := Kd.R_slice HO_227000.out; subst eo84))
                  go_loopg [13, 61] kj36 (fun kq v13 v61 w' => ∃ (x12_3 : List (S92)) (x13_3 : List Int) (x61_3 : Int), v61 = .int .i64 x61_3 ∧ Aside0 (impl_Round.l3 kq x12_3 x13_3 x227000_36 (x227000_36.length : Int) x61_3 = some (r1, r2, r3)) ∧ Aside0 (kq ≤ kj36) ∧ Aside0 (Kd.R k92 92 w' w.heap.size (fun _ => True) v235 x12_3) ∧ Aside0 (Kd.R (Kd.int .i64) 3 w' w.heap.size (fun k_ => some k_ ≠ ((.slice Ao84 x227000_36.length co84) : Value).ownBlock ∧ some k_ ≠ ((.slice Ao84 x227000_36.length co84) : Value).ownBlock) v13 x13_3) ∧ Aside0 (Kd.R (Kd.int .i64) 3 w' w.heap.size (fun k_ => some k_ ≠ (v13 : Value).ownBlock) (.slice Ao84 x227000_36.length co84) x227000_36) ∧ Aside0 (Kd.R (Kd.int .i64) 3 w' w.heap.size (fun k_ => some k_ ≠ (v13 : Value).ownBlock) (.slice Ao84 x227000_36.length co84) x227000_36) ∧ Aside0 (w'.heap[gb220]? = some (.cells #[.int .i64 a0_0, .int .i64 a0_1, (.slice A0_2 l0_2.length c0_2)] 84 (0, 0))) ∧ Aside0 (w'.heap[gb221]? = some (.cells #[(.slice A1 l1.length c1)] 90 (0, 0))) ∧ Aside0 (w'.heap[gb226]? = some (.cells #[(.slice Ao84 x227000_36.length co84)] 28 (0, 0))) ∧ Aside0 (Below w.heap.size w w'))
                  case atStart => exact ⟨(t234), (([] : List Int)), (0), (by first | rfl | (simp; done) | (simp [*]; done) | (simp [wrap64]; done)), H', ⟨Nat.le_refl _⟩, ⟨by (with_reducible repeat (first | apply Kd.R_alloc | apply Kd.R_drewN | apply Kd.R_drew)); exact HO236.out⟩, ⟨by first | exact Kd.R_nil _ _ _ _ _ | exact Kd.N_nil _ _ _ _ _ | exact Kd.V_nil _ _ _ _ _ | exact Kd.Q_nil _ _ _ _ _ | exact Kd.S_nil _ _ _ _ _⟩, ⟨by (with_reducible repeat (first | apply Kd.R_alloc | apply Kd.R_drewN | apply Kd.R_drew)); exact Kd.R_mono HO_227000.out (fun _ hk => (by simp [Value.ownBlock]))⟩, ⟨by (with_reducible repeat (first | apply Kd.R_alloc | apply Kd.R_drewN | apply Kd.R_drew)); exact Kd.R_mono HO_227000.out (fun _ hk => (by simp [Value.ownBlock]))⟩, ⟨by (with_reducible repeat (first | refine blk_drewN ?_ _ | refine blk_drew ?_ | refine blk_alloc ?_ _)); exact BK220.out⟩, ⟨by (with_reducible repeat (first | refine blk_drewN ?_ _ | refine blk_drew ?_ | refine blk_alloc ?_ _)); exact BK221.out⟩, ⟨by (with_reducible repeat (first | refine blk_drewN ?_ _ | refine blk_drew ?_ | refine blk_alloc ?_ _)); exact BK226.out⟩, ⟨by repeat (first | (with_reducible first | exact HB.out | apply below_alloc | apply pw_below_drewN | apply below_drew1 | refine below_set ?_ GE220.out | refine below_set ?_ GE221.out | refine below_set ?_ GE226.out) | exact HB.out)⟩⟩
                  case round =>
                    clear H'
                    try clear c1
                    try clear c2
                    try clear p2
                    try clear q2
                    try clear hx2
                    try clear hf2
                    try clear c3
                    try clear c4
                    try clear p4
                    try clear q4
                    try clear hx4
                    try clear hf4
                    try clear c5
                    try clear c5b0
                    try clear c5b1
                    try clear c6
                    try clear c6b0
                    try clear c6b1
                    try clear p6
                    try clear q6
                    try clear hx6
                    try clear hf6
                    try clear c7
                    try clear c8
                    try clear c9
                    try clear c18
                    try clear c19
                    try clear c22
                    try clear c22b0
                    try clear p22
                    try clear q22
                    try clear hx22
                    try clear c23
                    try clear c23b0
                    try clear c24
                    try clear c24b0
                    try clear c26
                    try clear c26b0
                    try clear p27
                    try clear q27
                    try clear hx27
                    try clear hf27
                    try clear c29
                    try clear c30
                    try clear c31
                    try clear c38
                    try clear c38b0
                    try clear c40
                    try clear c41
                    try clear c41b0
                    try clear c41b1
                    try clear c42
                    try clear c43
                    try clear c47
                    try clear c47b0
                    try clear c48
                    try clear c48b0
                    try clear p49
                    try clear q49
                    try clear hx49
                    try clear hf49
                    try clear c50
                    try clear c51
                    try clear c55
                    try clear c59
                    try clear c60
                    try clear c63
                    try clear c63b0
                    try clear c63b1
                    try clear c64
                    try clear p64
                    try clear c65
                    try clear c67
                    try clear c67b0
                    try clear c68
                    try clear c68b0
                    try clear p69
                    try clear q69
                    try clear hx69
                    try clear hf69
                    try clear c70
                    try clear c71
                    try clear c73
                    try clear c78
                    try clear c79
                    try clear c80
                    try clear c82
                    try clear hcz10_0
                    try clear hcz10_1
                    try clear hcz10_2
                    try clear hcz11_0
                    try clear hcz13_0
                    try clear hcz20_0
                    try clear hcz21_0
                    try clear hcz32_0
                    try clear hcz32_1
                    try clear hcz44_0
                    try clear hcz46_0
                    try clear hcz52_0
                    try clear hcz54_0
                    try clear hcz56_0
                    try clear hcz61_0
                    try clear hcz66_0
                    try clear hcz72_0
                    try clear hcz74_0
                    try clear hcz80_0
                    try clear hcz83_0
                    try clear hfz10_0
                    try clear hfz10_1
                    try clear hfz10_2
                    try clear hfz11_0
                    try clear hfz13_0
                    try clear hfz20_0
                    try clear hfz21_0
                    try clear hfz32_0
                    try clear hfz32_1
                    try clear hfz44_0
                    try clear hfz46_0
                    try clear hfz52_0
                    try clear hfz54_0
                    try clear hfz56_0
                    try clear hfz61_0
                    try clear hfz66_0
                    try clear hfz72_0
                    try clear hfz74_0
                    try clear hfz80_0
                    try clear hfz83_0
                    try clear hx227_0
                    try clear hx227_1
                    try clear hx27_0
                    try clear hx49_0
                    try clear hx69_0
                    try clear p2
                    try clear p22
                    try clear p227
                    try clear p27
                    try clear p4
                    try clear p49
                    try clear p6
                    try clear p64
                    try clear p69
                    try clear q2
                    try clear q22
                    try clear q227
                    try clear q27
                    try clear q4
                    try clear q49
                    try clear q6
                    try clear q69
                    obtain ⟨x12_3, x13_3, x61_3, rfl, HA, HK3, HO_12, HO_13, HO_59, HO_227000, BK220, BK221, BK226, HB⟩ := hrel
                    cases gk with
                    | zero => exact absurd HA.out (by simp [impl_Round.l3])
                    | succ k3 =>
                      have H := HA.out
                      clear HA
                      simp only [impl_Round.l3] at H
                      by_cases c85 : x61_3 < (x227000_36.length : Int)
                      · rw [if_pos c85] at H
                        have c85b0 : decide (x61_3 < (x227000_36.length : Int)) = true := decide_eq_true c85
                        clear c85
                        by_cases c86 : 0 ≤ x61_3
                        · rw [if_pos c86] at H
                          have c86b0 : decide (0 ≤ x61_3) = true := decide_eq_true c86
                          clear c86
                          by_cases c87 : x61_3 < (x227000_36.length : Int)
                          · rw [if_pos c87] at H
                            have c87b0 : decide (x61_3 < (x227000_36.length : Int)) = true := decide_eq_true c87
                            clear c87
                            by_cases c88 : (rd x227000_36 x61_3) ≥ 0
                            · rw [if_pos c88] at H
                              have c88b0 : decide (0 ≤ (rd x227000_36 x61_3)) = true := decide_eq_true c88
                              clear c88
                              by_cases c89 : x61_3 < (x12_3.length : Int)
                              · rw [if_pos c89] at H
                                have c89b0 : decide (x61_3 < (x12_3.length : Int)) = true := decide_eq_true c89
                                clear c89
                                obtain ⟨y238, hy238⟩ : ∃ y_ : List (S92), y_ = (x12_3.set (x61_3 : Int).toNat (⟨rd x227000_36 x61_3, (rd_T92 x12_3 x61_3).f1⟩ : S92)) := ⟨_, rfl⟩
                                replace H : (if x13_3.length < 17592186044416 then (impl_Round.l3 k3 y238 (x13_3 ++ [x61_3]) x227000_36 (x227000_36.length : Int) (wrap64 (x61_3 + 1))) else (none)) = some (r1, r2, r3) := by first | (rw [hy238]; with_reducible exact H) | (have H2_ := (Option.bind_some _ _).symm.trans H; rw [hy238]; with_reducible exact H2_) | (have H2_ := (Option.bind_some _ _).symm.trans H; with_reducible exact H2_) | with_reducible exact H | (rw [hy238]; exact H) | exact H
                                have Ny238 := Aside0.mk hy238
                                clear hy238
                                by_cases c91 : x13_3.length < 17592186044416
                                · rw [if_pos c91] at H
                                  have LMc91 := Aside0.mk c91
                                  clear c91
                                  obtain ⟨y239, hy239⟩ : ∃ y_ : List Int, y_ = (x13_3 ++ [x61_3]) := ⟨_, rfl⟩
                                  replace H : (impl_Round.l3 k3 y238 y239 x227000_36 (x227000_36.length : Int) (wrap64 (x61_3 + 1))) = some (r1, r2, r3) := by first | (rw [hy239]; with_reducible exact H) | (have H2_ := (Option.bind_some _ _).symm.trans H; rw [hy239]; with_reducible exact H2_) | (have H2_ := (Option.bind_some _ _).symm.trans H; with_reducible exact H2_) | with_reducible exact H | (rw [hy239]; exact H) | exact H
                                  have Ny239 := Aside0.mk hy239
                                  clear hy239
                                  have H' := Aside0.mk H
                                  clear H
                                  have p237 : 0 ≤ (x61_3 : Int) := of_decide_eq_true (by first | (with_reducible assumption) | assumption)
                                  have q237 : x61_3 < (x227000_36.length : Int) := of_decide_eq_true (by first | (with_reducible assumption) | assumption)
                                  obtain ⟨ad237, e237, hx237_0⟩ := Kd.at_int (Kd.R_reads' HO_59.out).2.2 x61_3 p237 q237
                                  cases e237
                                  replace p237 := eq_true p237
                                  replace q237 := eq_true q237
                                  have p90 : 0 ≤ (x61_3 : Int) := of_decide_eq_true (by first | (with_reducible assumption) | assumption)
                                  have q90 : (x61_3 : Int) < ((x12_3.length : Int) : Int) := of_decide_eq_true (by first | (with_reducible assumption) | assumption)
                                  obtain ⟨go90, co90, eo90, gb90, gl90, cl90, HG90⟩ := Kd.R_form HO_12.out (by omega)
                                  (first | cases eo90 | (injection eo90 with ea_ en_ ec_; (first | subst ea_ | (injection ea_ with ea_; subst ea_)); subst ec_; clear en_))
                                  have GB90 := Aside0.mk gb90
                                  have GG90 := Aside0.mk HG90
                                  clear gb90 gl90 HG90
                                  obtain ⟨ce90, hcl90, hM90, hcc90, hfr90⟩ := Kd.R_elem HO_12.out z92 (x61_3 : Int) p90 q90
                                  obtain rfl := k92_openM hM90
                                  have hx90_0 : wr.cell? ⟨go90, (x61_3 : Int).toNat * 2, none⟩ = some (.int .i64 ((rd_T92 x12_3 x61_3).f0)) := hcc90 0 _ rfl
                                  have hx90_1 : wr.cell? ⟨go90, (x61_3 : Int).toNat * 2 + 1, none⟩ = some (.int .i64 ((rd_T92 x12_3 x61_3).f1)) := hcc90 1 _ rfl
                                  have hf90_0 : wr.frozen? ⟨go90, (x61_3 : Int).toNat * 2, none⟩ = false := hfr90 0
                                  have hf90_1 : wr.frozen? ⟨go90, (x61_3 : Int).toNat * 2 + 1, none⟩ = false := hfr90 1
                                  (try clear hM90); clear hcl90 hcc90 hfr90
                                  replace p90 := eq_true p90
                                  replace q90 := eq_true q90
                                  have HX92 := Aside0.mk (show Kd.R k92 92 wr w.heap.size (fun _ => True) (.slice (some ⟨go90, 0, none⟩) x12_3.length co90) x12_3 from (by (with_reducible repeat (first | apply Kd.R_alloc | apply Kd.R_drewN | apply Kd.R_drew)); exact HO_12.out))
                                  obtain ⟨ce92, hcl92, hM92, hcc92, hfr92⟩ := Kd.R_elem HX92.out z92 (x61_3 : Int) (of_decide_eq_true (by first | (with_reducible assumption) | assumption)) (by have h_ : (x61_3 : Int) < ((x12_3.length : Int) : Int) := of_decide_eq_true (by first | (with_reducible assumption) | assumption); first | exact h_ | (have e_ := (Kd.R_reads' HO_12.out).1; omega) | simpa using h_)
                                  obtain rfl := k92_openM hM92
                                  have HP92 := Kd.R_seg HX92.out (x61_3 : Int) (of_decide_eq_true (by first | (with_reducible assumption) | assumption)) (by have h_ : (x61_3 : Int) < ((x12_3.length : Int) : Int) := of_decide_eq_true (by first | (with_reducible assumption) | assumption); first | exact h_ | (have e_ := (Kd.R_reads' HO_12.out).1; omega) | simpa using h_) (seg := [.int .i64 (rd x227000_36 x61_3)]) (j := 0) hcl92 hcc92 (show 1 ≤ 2 from by decide) (x' := (⟨rd x227000_36 x61_3, (rd_T92 x12_3 x61_3).f1⟩ : S92)) (k92_mkM _ _ _ (⟨rd x227000_36 x61_3, (rd_T92 x12_3 x61_3).f1⟩ : S92) ) (fun _ hk => hk)
                                  have hx92_0 := hcc92 0 _ rfl
                                  (try simp only [show (k92).sz = 2 from rfl, Nat.mul_one, Nat.add_zero] at hx92_0)
                                  have hf92_0 := hfr92 0
                                  (try simp only [show (k92).sz = 2 from rfl, Nat.mul_one, Nat.add_zero] at hf92_0)
                                  (try clear hM92); clear hcl92 hcc92 hfr92
                                  go_wp2_with (first | ((with_reducible refine gate_store (t := 3) (p := 72) rfl ?_); refine store_event (t := 3) (p := 72) (v := ?vo_w93) (w1 := (wr.setCell ⟨go90, (x61_3 : Int).toNat * 2, none⟩ (.int .i64 (rd x227000_36 x61_3)))) ?hg ?ho ?hn ?hr ?_; (case ho => rfl); (case hg => rfl); (case hn => rfl); (case hr => first | (go_simp; done) | (go_simp; rfl)); intro w93 hw; have hg : wr.grownBy w93 (some go90) := (by rw [hw]; exact HP92.2); have hp_ : Kd.R k92 92 w93 w.heap.size (fun _ => True) (.slice (some ⟨go90, 0, none⟩) x12_3.length co90) y238 := (by rw [hw, Ny238.out]; exact HP92.1); clear HP92; have n0_ := Aside0.mk (hp_); have n1_ := Aside0.mk (Kd.R_over' (v := (.slice (some ⟨go90, 0, none⟩) x12_3.length co90)) (by (with_reducible repeat (first | apply Kd.R_alloc | apply Kd.R_drewN | apply Kd.R_drew)); exact HO_13.out) (Kd.R_typed HO_12.out) (by decide) hg); have n2_ := Aside0.mk (Kd.R_over' (v := (.slice (some ⟨go90, 0, none⟩) x12_3.length co90)) (by (with_reducible repeat (first | apply Kd.R_alloc | apply Kd.R_drewN | apply Kd.R_drew)); exact HO_59.out) (Kd.R_typed HO_12.out) (by decide) hg); have n3_ := Aside0.mk (Kd.R_over' (v := (.slice (some ⟨go90, 0, none⟩) x12_3.length co90)) (by (with_reducible repeat (first | apply Kd.R_alloc | apply Kd.R_drewN | apply Kd.R_drew)); exact HO_227000.out) (Kd.R_typed HO_12.out) (by decide) hg); have n4_ := Aside0.mk (blk_grown (g := gb220) (o := .cells #[.int .i64 a0_0, .int .i64 a0_1, .slice A0_2 l0_2.length c0_2] 84 (0, 0)) (by (with_reducible repeat (first | refine blk_drewN ?_ _ | refine blk_drew ?_ | refine blk_alloc ?_ _)); exact BK220.out) hg (Kd.R_ne HO_12.out BK220.out (by decide))); have n5_ := Aside0.mk (blk_grown (g := gb221) (o := .cells #[.slice A1 l1.length c1] 90 (0, 0)) (by (with_reducible repeat (first | refine blk_drewN ?_ _ | refine blk_drew ?_ | refine blk_alloc ?_ _)); exact BK221.out) hg (Kd.R_ne HO_12.out BK221.out (by decide))); have n6_ := Aside0.mk (blk_grown (g := gb226) (o := .cells #[.slice (some ad237) x227000_36.length co84] 28 (0, 0)) (by (with_reducible repeat (first | refine blk_drewN ?_ _ | refine blk_drew ?_ | refine blk_alloc ?_ _)); exact BK226.out) hg (Kd.R_ne HO_12.out BK226.out (by decide))); have n7_ := Aside0.mk ((by rw [hw]; exact below_set (HB.out) GB90.out : Below w.heap.size w w93)); clear HO_12; clear HO_13; clear HO_59; clear HO_227000; clear BK220; clear BK221; clear BK226; clear HB; have HO_12 := n0_; have HO_13 := n1_; have HO_59 := n2_; have HO_227000 := n3_; have BK220 := n4_; have BK221 := n5_; have BK226 := n6_; have HB := n7_; clear n0_ n1_ n2_ n3_ n4_ n5_ n6_ n7_; clear hg hw hp_) | ((with_reducible refine gate_builtin (b := .append) (xs := #[.tmp 73, .tmp 75]) rfl ?_); at_builtin; refine Kd.R_append (Kd.int .i64) (w0 := w) w.heap.size rfl (.tmp 73) (.tmp 75) 28 3 (.int .i64 0) 8 rfl Try.underlying28 info3 rfl (by decide) (by omega) u13 x13_3 x61_3 [.int .i64 x61_3] (fun k_ => some k_ ≠ (.slice (some ad237) x227000_36.length co84 : Value).ownBlock ∧ some k_ ≠ (.slice (some ad237) x227000_36.length co84 : Value).ownBlock) (fun _ => False) rfl rfl ?aP (fun _ hk => hk.elim) ?aF ?aO ?aB ?aS ?aL ?_; (case aP => exact rfl); (case aB => exact (by repeat (first | (with_reducible first | exact HB.out | apply below_alloc | apply pw_below_drewN | apply below_drew1 | refine below_set ?_ GE220.out | refine below_set ?_ GE221.out | refine below_set ?_ GE226.out) | exact HB.out))); (case aF => exact (fun k_ hk => ⟨Kd.fresh' (Kd.R_lt (by (with_reducible repeat (first | apply Kd.R_alloc | apply Kd.R_drewN | apply Kd.R_drew)); exact HO_59.out)) k_ hk, Kd.fresh' (Kd.R_lt (by (with_reducible repeat (first | apply Kd.R_alloc | apply Kd.R_drewN | apply Kd.R_drew)); exact HO_227000.out)) k_ hk⟩)); (case aO => exact (by (with_reducible repeat (first | apply Kd.R_alloc | apply Kd.R_drewN | apply Kd.R_drew)); exact HO_13.out)); (case aS => exact (below_size (by repeat (first | (with_reducible first | exact HB.out | apply below_alloc | apply pw_below_drewN | apply below_drew1 | refine below_set ?_ GE220.out | refine below_set ?_ GE221.out | refine below_set ?_ GE226.out) | exact HB.out)))); (case aL => have := LMc91.out; omega); intro v240 w94 ho hb hg hat; rw [← Ny239.out] at ho; have n0_ := Aside0.mk (Kd.R_over' (by (with_reducible repeat (first | apply Kd.R_alloc | apply Kd.R_drewN | apply Kd.R_drew)); exact HO_12.out) (Kd.R_typed (by (with_reducible repeat (first | apply Kd.R_alloc | apply Kd.R_drewN | apply Kd.R_drew)); exact HO_13.out)) (by decide) hg); have n1_ := Aside0.mk (Kd.R_after (ok := (fun _ => True)) (by (with_reducible repeat (first | apply Kd.R_alloc | apply Kd.R_drewN | apply Kd.R_drew)); exact Kd.R_mono HO_59.out (fun _ hk => ⟨trivial, hk⟩)) hg hat); have n2_ := Aside0.mk (Kd.R_after (ok := (fun _ => True)) (by (with_reducible repeat (first | apply Kd.R_alloc | apply Kd.R_drewN | apply Kd.R_drew)); exact Kd.R_mono HO_227000.out (fun _ hk => ⟨trivial, hk⟩)) hg hat); have n3_ := Aside0.mk (blk_grown (g := gb220) (o := .cells #[.int .i64 a0_0, .int .i64 a0_1, .slice A0_2 l0_2.length c0_2] 84 (0, 0)) (by (with_reducible repeat (first | refine blk_drewN ?_ _ | refine blk_drew ?_ | refine blk_alloc ?_ _)); exact BK220.out) hg (Kd.R_ne HO_13.out BK220.out (by decide))); have n4_ := Aside0.mk (blk_grown (g := gb221) (o := .cells #[.slice A1 l1.length c1] 90 (0, 0)) (by (with_reducible repeat (first | refine blk_drewN ?_ _ | refine blk_drew ?_ | refine blk_alloc ?_ _)); exact BK221.out) hg (Kd.R_ne HO_13.out BK221.out (by decide))); have n5_ := Aside0.mk (blk_grown (g := gb226) (o := .cells #[.slice (some ad237) x227000_36.length co84] 28 (0, 0)) (by (with_reducible repeat (first | refine blk_drewN ?_ _ | refine blk_drew ?_ | refine blk_alloc ?_ _)); exact BK226.out) hg (Kd.R_ne HO_13.out BK226.out (by decide))); have n6_ := Aside0.mk (hb); have n7_ := Aside0.mk (ho); clear HO_12; clear HO_59; clear HO_227000; clear BK220; clear BK221; clear BK226; clear HB; clear HO_13; have HO_12 := n0_; have HO_59 := n1_; have HO_227000 := n2_; have BK220 := n3_; have BK221 := n4_; have BK226 := n5_; have HB := n6_; have HO241 := n7_; clear n0_ n1_ n2_ n3_ n4_ n5_ n6_ n7_; clear ho hb hg hat))
                                  (first | go_roundg k3 | (refine Handed.intro k3 ?measure ?_; rotate_left; go_step; (repeat apply Exists.intro); simp only [add_plain]; refine ⟨?rel, rfl⟩))
                                  case measure => have := HK1.out; have := HJ36.out; have := HK3.out; omega
                                  case rel => exact ⟨(y238), (y239), (wrap64 (x61_3 + 1)), (by first | rfl | (simp; done) | (simp [*]; done) | (simp [wrap64]; done)), H', ⟨by have := HK1.out; have := HJ36.out; have := HK3.out; omega⟩, ⟨by (with_reducible repeat (first | apply Kd.R_alloc | apply Kd.R_drewN | apply Kd.R_drew)); exact HO_12.out⟩, ⟨by (with_reducible repeat (first | apply Kd.R_alloc | apply Kd.R_drewN | apply Kd.R_drew)); exact HO241.out⟩, ⟨by (with_reducible repeat (first | apply Kd.R_alloc | apply Kd.R_drewN | apply Kd.R_drew)); exact Kd.R_mono HO_59.out (fun _ hk => hk.2)⟩, ⟨by (with_reducible repeat (first | apply Kd.R_alloc | apply Kd.R_drewN | apply Kd.R_drew)); exact Kd.R_mono HO_227000.out (fun _ hk => hk.2)⟩, ⟨by (with_reducible repeat (first | refine blk_drewN ?_ _ | refine blk_drew ?_ | refine blk_alloc ?_ _)); exact BK220.out⟩, ⟨by (with_reducible repeat (first | refine blk_drewN ?_ _ | refine blk_drew ?_ | refine blk_alloc ?_ _)); exact BK221.out⟩, ⟨by (with_reducible repeat (first | refine blk_drewN ?_ _ | refine blk_drew ?_ | refine blk_alloc ?_ _)); exact BK226.out⟩, ⟨by repeat (first | (with_reducible first | exact HB.out | apply below_alloc | apply pw_below_drewN | apply below_drew1 | refine below_set ?_ GE220.out | refine below_set ?_ GE221.out | refine below_set ?_ GE226.out) | exact HB.out)⟩⟩
                                · rw [if_neg c91] at H
                                  exact absurd H (by simp)
                              · rw [if_neg c89] at H
                                exact absurd H (by simp)
                            · rw [if_neg c88] at H
                              have c88b0 : decide (0 ≤ (rd x227000_36 x61_3)) = false := decide_eq_false c88
                              clear c88
                              have H' := Aside0.mk H
                              clear H
                              have p237 : 0 ≤ (x61_3 : Int) := of_decide_eq_true (by first | (with_reducible assumption) | assumption)
                              have q237 : x61_3 < (x227000_36.length : Int) := of_decide_eq_true (by first | (with_reducible assumption) | assumption)
                              obtain ⟨ad237, e237, hx237_0⟩ := Kd.at_int (Kd.R_reads' HO_59.out).2.2 x61_3 p237 q237
                              cases e237
                              replace p237 := eq_true p237
                              replace q237 := eq_true q237
                              go_wp2
                              (first | go_roundg k3 | (refine Handed.intro k3 ?measure ?_; rotate_left; go_step; (repeat apply Exists.intro); simp only [add_plain]; refine ⟨?rel, rfl⟩))
                              case measure => have := HK1.out; have := HJ36.out; have := HK3.out; omega
                              case rel => exact ⟨(x12_3), (x13_3), (wrap64 (x61_3 + 1)), (by first | rfl | (simp; done) | (simp [*]; done) | (simp [wrap64]; done)), H', ⟨by have := HK1.out; have := HJ36.out; have := HK3.out; omega⟩, ⟨by (with_reducible repeat (first | apply Kd.R_alloc | apply Kd.R_drewN | apply Kd.R_drew)); exact HO_12.out⟩, ⟨by (with_reducible repeat (first | apply Kd.R_alloc | apply Kd.R_drewN | apply Kd.R_drew)); exact HO_13.out⟩, ⟨by (with_reducible repeat (first | apply Kd.R_alloc | apply Kd.R_drewN | apply Kd.R_drew)); exact HO_59.out⟩, ⟨by (with_reducible repeat (first | apply Kd.R_alloc | apply Kd.R_drewN | apply Kd.R_drew)); exact HO_227000.out⟩, ⟨by (with_reducible repeat (first | refine blk_drewN ?_ _ | refine blk_drew ?_ | refine blk_alloc ?_ _)); exact BK220.out⟩, ⟨by (with_reducible repeat (first | refine blk_drewN ?_ _ | refine blk_drew ?_ | refine blk_alloc ?_ _)); exact BK221.out⟩, ⟨by (with_reducible repeat (first | refine blk_drewN ?_ _ | refine blk_drew ?_ | refine blk_alloc ?_ _)); exact BK226.out⟩, ⟨by repeat (first | (with_reducible first | exact HB.out | apply below_alloc | apply pw_below_drewN | apply below_drew1 | refine below_set ?_ GE220.out | refine below_set ?_ GE221.out | refine below_set ?_ GE226.out) | exact HB.out)⟩⟩
                          · rw [if_neg c87] at H
                            exact absurd H (by simp)
                        · rw [if_neg c86] at H
                          exact absurd H (by simp)
                      · rw [if_neg c85] at H
                        have c85b0 : decide (x61_3 < (x227000_36.length : Int)) = false := decide_eq_false c85
                        clear c85
                        replace H := Option.bind_eq_some_iff.mp H
                        obtain ⟨t242, A950, H⟩ := H
                        replace H : (some (x12_3, t242, true)) = some (r1, r2, r3) := H
                        have A95 := Aside0.mk A950
                        clear A950
                        simp only [Option.some.injEq, Prod.mk.injEq] at H
                        obtain ⟨rfl, rfl, rfl⟩ := H
                        obtain ⟨Ao96, co96, eo96⟩ := Kd.R_slice HO_13.out
                        subst eo96
                        go_wp2_with (first | ((with_reducible refine gate_callee (f := 46) rfl ?_); refine goesL_ (some 80) rfl rfl Try.func46 (by kernel_rfl) rfl #[.slice Ao96 x13_3.length co96] rfl (by (try simp only [List.map_toArray, List.map_cons, List.map_nil]); first | done | rfl | (simp only [List.length_drop, List.length_take]; rfl)) ?_; (with_reducible refine (impl_own_int.calls _ _ x13_3 t242 _ ?side1 ?side2 A95.out).mono ?_); (case side1 => repeat (first | exact (Kd.R_reads' HO_13.out).2.2 | (with_reducible refine Kd.C_alloc ?_ _) | (with_reducible refine Kd.C_drewN ?_ _) | (with_reducible refine Kd.C_drew ?_))); (case side2 => exact (Kd.R_reads' HO_13.out).2.1); rintro e w97 ⟨v243, rfl, ho0, hb⟩; refine ⟨_, rfl, ?_⟩; have n0_ := Aside0.mk (Kd.R_below (by (with_reducible repeat (first | apply Kd.R_alloc | apply Kd.R_drewN | apply Kd.R_drew)); exact HO_12.out) hb); have n1_ := Aside0.mk (Kd.R_elder' (by (with_reducible repeat (first | apply Kd.R_alloc | apply Kd.R_drewN | apply Kd.R_drew)); exact HO_13.out) (Kd.R_base ho0) hb); have n2_ := Aside0.mk (Kd.R_elder' (by (with_reducible repeat (first | apply Kd.R_alloc | apply Kd.R_drewN | apply Kd.R_drew)); exact HO_59.out) (Kd.R_base ho0) hb); have n3_ := Aside0.mk (Kd.R_elder' (by (with_reducible repeat (first | apply Kd.R_alloc | apply Kd.R_drewN | apply Kd.R_drew)); exact HO_227000.out) (Kd.R_base ho0) hb); have n4_ := Aside0.mk (Kd.R_lower (Kd.R_new' (Kd.R_new' (Kd.R_new' ho0 (Kd.R_lt (by (with_reducible repeat (first | apply Kd.R_alloc | apply Kd.R_drewN | apply Kd.R_drew)); exact HO_13.out))) (Kd.R_lt (by (with_reducible repeat (first | apply Kd.R_alloc | apply Kd.R_drewN | apply Kd.R_drew)); exact HO_59.out))) (Kd.R_lt (by (with_reducible repeat (first | apply Kd.R_alloc | apply Kd.R_drewN | apply Kd.R_drew)); exact HO_227000.out))) (below_size (by repeat (first | (with_reducible first | exact HB.out | apply below_alloc | apply pw_below_drewN | apply below_drew1 | refine below_set ?_ GE220.out | refine below_set ?_ GE221.out | refine below_set ?_ GE226.out) | exact HB.out)))); have n5_ := Aside0.mk (blk_below (g := gb220) (o := .cells #[.int .i64 a0_0, .int .i64 a0_1, .slice A0_2 l0_2.length c0_2] 84 (0, 0)) (by (with_reducible repeat (first | refine blk_drewN ?_ _ | refine blk_drew ?_ | refine blk_alloc ?_ _)); exact BK220.out) hb); have n6_ := Aside0.mk (blk_below (g := gb221) (o := .cells #[.slice A1 l1.length c1] 90 (0, 0)) (by (with_reducible repeat (first | refine blk_drewN ?_ _ | refine blk_drew ?_ | refine blk_alloc ?_ _)); exact BK221.out) hb); have n7_ := Aside0.mk (blk_below (g := gb226) (o := .cells #[.slice Ao84 x227000_36.length co84] 28 (0, 0)) (by (with_reducible repeat (first | refine blk_drewN ?_ _ | refine blk_drew ?_ | refine blk_alloc ?_ _)); exact BK226.out) hb); have n8_ := Aside0.mk (below_step (by repeat (first | (with_reducible first | exact HB.out | apply below_alloc | apply pw_below_drewN | apply below_drew1 | refine below_set ?_ GE220.out | refine below_set ?_ GE221.out | refine below_set ?_ GE226.out) | exact HB.out)) hb); clear HO_12; clear HO_13; clear HO_59; clear HO_227000; clear BK220; clear BK221; clear BK226; clear HB; have HO_12 := n0_; have HO_13 := n1_; have HO_59 := n2_; have HO_227000 := n3_; have HO244 := n4_; have BK220 := n5_; have BK221 := n6_; have BK226 := n7_; have HB := n8_; clear n0_ n1_ n2_ n3_ n4_ n5_ n6_ n7_ n8_; (try clear hb); (try clear hb2); (try clear hk); (try clear hi); (try clear ho0)))
                        go_ret3
                        exact ⟨_, _, by first | rfl | (simp [errW_none, errW_some] <;> rfl) | (simp [*, errW_none, errW_some] <;> rfl), by (with_reducible repeat (first | apply Kd.R_alloc | apply Kd.R_drewN | apply Kd.R_drew)); exact HO_12.out, by (with_reducible repeat (first | apply Kd.R_alloc | apply Kd.R_drewN | apply Kd.R_drew)); exact Kd.R_mono HO244.out (fun _ hk => trivial), by repeat (first | (with_reducible first | exact HB.out | apply below_alloc | apply pw_below_drewN | apply below_drew1 | refine below_set ?_ GE220.out | refine below_set ?_ GE221.out | refine below_set ?_ GE226.out) | exact HB.out)⟩
      · rw [if_neg c6] at H
        exact absurd H (by simp)
    · rw [if_neg c5] at H
      exact absurd H (by simp)
  · replace c4 := Bool.eq_false_iff.mpr c4
    subst c4
    have H1 : (some (([] : List (S92)), ([] : List Int), false)) = some (r1, r2, r3) := by rw [if_neg (show ¬ (false = true) by decide)] at H; exact H
    clear H
    have H := H1
    clear H1
    simp only [Option.some.injEq, Prod.mk.injEq] at H
    obtain ⟨rfl, rfl, rfl⟩ := H
    go_enter Try.func81, Try.ntmps81
    go_wp2_with (first | ((with_reducible refine gate_dst (N := 2) rfl ?_); refine box_event ?hg (N := 2) ?hd (cs := #[.int .i64 a0_0, .int .i64 a0_1, .slice A0_2 l0_2.length c0_2]) (t := 84) ?hr ?_; (case hd => rfl); (case hg => rfl); (case hr => first | (go_simp; done) | (go_simp; rfl)); intro gb220 hg w98 hbox hb; have n0_ := Aside0.mk (below_step (by repeat (first | (with_reducible first | exact HB.out | apply below_alloc | apply pw_below_drewN | apply below_drew1) | exact HB.out)) hb); have n1_ := Aside0.mk (hbox); have n2_ := Aside0.mk ((by rw [hg]; exact (below_size (by repeat (first | (with_reducible first | exact HB.out | apply below_alloc | apply pw_below_drewN | apply below_drew1) | exact HB.out))) : w.heap.size ≤ gb220)); have n3_ := Aside0.mk ((by rw [hg]; exact (below_size (by repeat (first | (with_reducible first | exact HB.out | apply below_alloc | apply pw_below_drewN | apply below_drew1) | exact HB.out))) : w.heap.size ≤ gb220)); clear HB; have HB := n0_; have BK220 := n1_; have GW220 := n2_; have GE220 := n3_; clear n0_ n1_ n2_ n3_; clear hb hbox hg) | ((with_reducible refine gate_dst (N := 3) rfl ?_); refine box_event ?hg (N := 3) ?hd (cs := #[.slice A1 l1.length c1]) (t := 90) ?hr ?_; (case hd => rfl); (case hg => rfl); (case hr => first | (go_simp; done) | (go_simp; rfl)); intro gb221 hg w99 hbox hb; have n0_ := Aside0.mk (blk_below (g := gb220) (o := .cells #[.int .i64 a0_0, .int .i64 a0_1, .slice A0_2 l0_2.length c0_2] 84 (0, 0)) (by (with_reducible repeat (first | refine blk_drewN ?_ _ | refine blk_drew ?_ | refine blk_alloc ?_ _)); exact BK220.out) hb); have n1_ := Aside0.mk (below_step (by repeat (first | (with_reducible first | exact HB.out | apply below_alloc | apply pw_below_drewN | apply below_drew1 | refine below_set ?_ GE220.out) | exact HB.out)) hb); have n2_ := Aside0.mk (hbox); have n3_ := Aside0.mk ((by rw [hg]; exact (below_size (by repeat (first | (with_reducible first | exact HB.out | apply below_alloc | apply pw_below_drewN | apply below_drew1 | refine below_set ?_ GE220.out) | exact HB.out))) : w.heap.size ≤ gb221)); have n4_ := Aside0.mk ((by rw [hg]; exact (below_size (by repeat (first | (with_reducible first | exact HB.out | apply below_alloc | apply pw_below_drewN | apply below_drew1 | refine below_set ?_ GE220.out) | exact HB.out))) : w.heap.size ≤ gb221)); have n5_ := Aside0.mk ((by rw [hg]; exact Nat.ne_of_lt (blk_lt (g := gb220) (o := .cells #[.int .i64 a0_0, .int .i64 a0_1, .slice A0_2 l0_2.length c0_2] 84 (0, 0)) (by (with_reducible repeat (first | refine blk_drewN ?_ _ | refine blk_drew ?_ | refine blk_alloc ?_ _)); exact BK220.out)) : gb220 ≠ gb221)); have n6_ := Aside0.mk ((by rw [hg]; exact Nat.ne_of_gt (blk_lt (g := gb220) (o := .cells #[.int .i64 a0_0, .int .i64 a0_1, .slice A0_2 l0_2.length c0_2] 84 (0, 0)) (by (with_reducible repeat (first | refine blk_drewN ?_ _ | refine blk_drew ?_ | refine blk_alloc ?_ _)); exact BK220.out)) : gb221 ≠ gb220)); clear BK220; clear HB; have BK220 := n0_; have HB := n1_; have BK221 := n2_; have GW221 := n3_; have GE221 := n4_; have NB220_221 := n5_; have NB221_220 := n6_; clear n0_ n1_ n2_ n3_ n4_ n5_ n6_; clear hb hbox hg; have hnb100 := NB220_221.out; have hnc100 := NB221_220.out; have hcz101_0 : w99.cell? ⟨gb220, 0, none⟩ = some (.int .i64 a0_0) := (blk_cell BK220.out 0).trans rfl; have hcz101_1 : w99.cell? ⟨gb220, 1, none⟩ = some (.int .i64 a0_1) := (blk_cell BK220.out 1).trans rfl; have hcz101_2 : w99.cell? ⟨gb220, 2, none⟩ = some (.slice A0_2 l0_2.length c0_2) := (blk_cell BK220.out 2).trans rfl; have hfz101_0 := blk_frozen BK220.out 0; have hfz101_1 := blk_frozen BK220.out 1; have hfz101_2 := blk_frozen BK220.out 2; have hcz102_0 : w99.cell? ⟨gb221, 0, none⟩ = some (.slice A1 l1.length c1) := (blk_cell BK221.out 0).trans rfl; have hfz102_0 := blk_frozen BK221.out 0) | ((with_reducible refine gate_callee (f := 79) rfl ?_); refine goesL_ (some 18) rfl rfl Try.func79 (by kernel_rfl) rfl #[.agg #[.int .i64 a0_0, .int .i64 a0_1, .slice A0_2 l0_2.length c0_2], .slice A1 l1.length c1] rfl (by (try simp only [List.map_toArray, List.map_cons, List.map_nil]); first | done | rfl | (simp only [List.length_drop, List.length_take]; rfl)) ?_; (with_reducible refine (impl_CartsOk.calls k a0_0 a0_1 _ _ l0_2 _ _ l1 false _ ?side1 ?side2 ?side3 ?side4 A3.out).mono ?_); (case side1 => repeat (first | exact (Kd.C_below HR0_2.out HB.out) | (with_reducible refine Kd.C_alloc ?_ _) | (with_reducible refine Kd.C_drewN ?_ _) | (with_reducible refine Kd.C_drew ?_))); (case side2 => exact HC0_2.out); (case side3 => repeat (first | exact (Kd.C_below HR1.out HB.out) | (with_reducible refine Kd.C_alloc ?_ _) | (with_reducible refine Kd.C_drewN ?_ _) | (with_reducible refine Kd.C_drew ?_))); (case side4 => exact HC1.out); rintro e w103 ⟨rfl, hb⟩; refine ⟨_, rfl, ?_⟩; have n0_ := Aside0.mk (blk_below (g := gb220) (o := .cells #[.int .i64 a0_0, .int .i64 a0_1, .slice A0_2 l0_2.length c0_2] 84 (0, 0)) (by (with_reducible repeat (first | refine blk_drewN ?_ _ | refine blk_drew ?_ | refine blk_alloc ?_ _)); exact BK220.out) hb); have n1_ := Aside0.mk (blk_below (g := gb221) (o := .cells #[.slice A1 l1.length c1] 90 (0, 0)) (by (with_reducible repeat (first | refine blk_drewN ?_ _ | refine blk_drew ?_ | refine blk_alloc ?_ _)); exact BK221.out) hb); have n2_ := Aside0.mk (below_step (by repeat (first | (with_reducible first | exact HB.out | apply below_alloc | apply pw_below_drewN | apply below_drew1 | refine below_set ?_ GE220.out | refine below_set ?_ GE221.out) | exact HB.out)) hb); clear BK220; clear BK221; clear HB; have BK220 := n0_; have BK221 := n1_; have HB := n2_; clear n0_ n1_ n2_; (try clear hb); (try clear hb2); (try clear hk); (try clear hi)))
    go_ret3
    exact ⟨_, _, by first | rfl | (simp [errW_none, errW_some] <;> rfl) | (simp [*, errW_none, errW_some] <;> rfl), by first | exact Kd.R_nil _ _ _ _ _ | exact Kd.N_nil _ _ _ _ _ | exact Kd.V_nil _ _ _ _ _ | exact Kd.Q_nil _ _ _ _ _ | exact Kd.S_nil _ _ _ _ _, by first | exact Kd.R_nil _ _ _ _ _ | exact Kd.N_nil _ _ _ _ _ | exact Kd.V_nil _ _ _ _ _ | exact Kd.Q_nil _ _ _ _ _ | exact Kd.S_nil _ _ _ _ _, by repeat (first | (with_reducible first | exact HB.out | apply below_alloc | apply pw_below_drewN | apply below_drew1 | refine below_set ?_ GE220.out | refine below_set ?_ GE221.out) | exact HB.out)⟩

end Go.Proofs.Ytlphfhibnbhkfaa.PFnRing
