/- The Lean side of Go functions of this seat: what each answers, and that its run comes to that answer; written by a program of this work. -/
import Derived.Test.YtchobalepjmeiaaPFnOverx0
import Derived.Test.YtchobalepjmeiaaPFnOverx1
namespace Go.Proofs.Ytchobalepjmeiaa.PFnOver
open Go.RowKit Go.Proofs.YtchobalepjmeiaaW.PrintWords Go.Proofs.YtchobalepjmeiaaW.PrintLast Go.Proofs.YtchobalepjmeiaaW.PrintMore
attribute [local go_sem] run_store_float un_neg_float_ max2_int min2_int max_two min_two max_three min_three max_four min_four   -- for this text's walks alone
set_option linter.unusedVariables false
set_option linter.unusedSimpArgs false

/-! ### impl_Over: function 11 -/
def impl_Over.j0 : Nat → Bool → Nat → Nat → Nat → Nat → Option (Nat × Nat × Bool)
  | 0, _, _, _, _, _ => none
  | k + 1, x30, x107000, x107001, x108000, x108001 => if x30 = true then (some ((0 : Nat), (0 : Nat), false)) else ((math_Abs.f x108000).bind fun t113 => ((math_Abs.f x108001).bind fun t114 => (if (FloatKind.f64.format.order t113 t114 == some .gt || FloatKind.f64.format.order t113 t114 == some .eq) = true then (if (floatBits .quo .f64 x108001 x108000).isSome = true then ((impl_by.f ((floatBits .quo .f64 x108001 x108000).getD 0) x108001).bind fun t115 => (if (floatBits .add .f64 x108000 t115).isSome = true then ((impl_by.f x107001 ((floatBits .quo .f64 x108001 x108000).getD 0)).bind fun t116 => (if (floatBits .add .f64 x107000 t116).isSome = true then (if (floatBits .quo .f64 ((floatBits .add .f64 x107000 t116).getD 0) ((floatBits .add .f64 x108000 t115).getD 0)).isSome = true then ((impl_by.f x107000 ((floatBits .quo .f64 x108001 x108000).getD 0)).bind fun t117 => (if (floatBits .sub .f64 x107001 t117).isSome = true then (if (floatBits .quo .f64 ((floatBits .sub .f64 x107001 t117).getD 0) ((floatBits .add .f64 x108000 t115).getD 0)).isSome = true then (some (((floatBits .quo .f64 ((floatBits .add .f64 x107000 t116).getD 0) ((floatBits .add .f64 x108000 t115).getD 0)).getD 0), ((floatBits .quo .f64 ((floatBits .sub .f64 x107001 t117).getD 0) ((floatBits .add .f64 x108000 t115).getD 0)).getD 0), true)) else (none)) else (none))) else (none)) else (none))) else (none))) else (none)) else (if (floatBits .quo .f64 x108000 x108001).isSome = true then ((impl_by.f ((floatBits .quo .f64 x108000 x108001).getD 0) x108000).bind fun t118 => (if (floatBits .add .f64 x108001 t118).isSome = true then ((impl_by.f x107000 ((floatBits .quo .f64 x108000 x108001).getD 0)).bind fun t119 => (if (floatBits .add .f64 t119 x107001).isSome = true then (if (floatBits .quo .f64 ((floatBits .add .f64 t119 x107001).getD 0) ((floatBits .add .f64 x108001 t118).getD 0)).isSome = true then ((impl_by.f x107001 ((floatBits .quo .f64 x108000 x108001).getD 0)).bind fun t120 => (if (floatBits .sub .f64 t120 x107000).isSome = true then (if (floatBits .quo .f64 ((floatBits .sub .f64 t120 x107000).getD 0) ((floatBits .add .f64 x108001 t118).getD 0)).isSome = true then (some (((floatBits .quo .f64 ((floatBits .add .f64 t119 x107001).getD 0) ((floatBits .add .f64 x108001 t118).getD 0)).getD 0), ((floatBits .quo .f64 ((floatBits .sub .f64 t120 x107000).getD 0) ((floatBits .add .f64 x108001 t118).getD 0)).getD 0), true)) else (none)) else (none))) else (none)) else (none))) else (none))) else (none)))))
def impl_Over.f (k : Nat) (a0_0 : Nat) (a0_1 : Nat) (a1_0 : Nat) (a1_1 : Nat) : Option (Nat × Nat × Bool) := (impl_finite.f k (([a0_0, a0_1, a1_0, a1_1] : List Nat))).bind fun t112 => (if t112 = true then (if (FloatKind.f64.format.order a1_0 (0 : Nat) == some .eq) = true then (impl_Over.j0 k (FloatKind.f64.format.order a1_1 (0 : Nat) == some .eq) a0_0 a0_1 a1_0 a1_1) else (impl_Over.j0 k false a0_0 a0_1 a1_0 a1_1)) else (impl_Over.j0 k true a0_0 a0_1 a1_0 a1_1))
theorem impl_Over.mono_l : ∀ k, (∀ y0 y1 y2 y3 y4, LeO (impl_Over.j0 k y0 y1 y2 y3 y4) (impl_Over.j0 (k + 1) y0 y1 y2 y3 y4))
  | 0 => fun _ _ _ _ _ r h => by simp [impl_Over.j0] at h
  | k + 1 => by
    have ih0 := impl_Over.mono_l k
    · intro y0 y1 y2 y3 y4
      unfold impl_Over.j0
      repeat' first
      | (with_reducible exact ih0 _ _ _ _ _)
      | (with_reducible exact impl_finite.mono _ _)
      | (with_reducible exact LeO.refl _)
      | (with_reducible exact LeO.none _)
      | (with_reducible refine LeO.ite ?_ ?_)
      | (with_reducible refine LeO.bind ?_ (fun _ => ?_))
      | exact ih0 _ _ _ _ _
      | exact impl_finite.mono _ _
      | exact LeO.none _
      | refine LeO.ite ?_ ?_
      | refine LeO.bind ?_ (fun _ => ?_)
theorem impl_Over.mono : ∀ a0 a1 a2 a3 k, LeO (impl_Over.f k a0 a1 a2 a3) (impl_Over.f (k + 1) a0 a1 a2 a3) := by
  intro a0 a1 a2 a3 k
  have ih0 := impl_Over.mono_l k
  unfold impl_Over.f
  repeat' first
      | (with_reducible exact ih0 _ _ _ _ _)
      | (with_reducible exact impl_finite.mono _ _)
      | (with_reducible exact LeO.refl _)
      | (with_reducible exact LeO.none _)
      | (with_reducible refine LeO.ite ?_ ?_)
      | (with_reducible refine LeO.bind ?_ (fun _ => ?_))
      | exact ih0 _ _ _ _ _
      | exact impl_finite.mono _ _
      | exact LeO.none _
      | refine LeO.ite ?_ ?_
      | refine LeO.bind ?_ (fun _ => ?_)
def impl_Over.T5 : Bool × List (List Nat × List Nat) := (true, [([], []), ([0], [0]), ([], []), ([], []), ([3], [3]), ([2, 4], [2, 4]), ([1, 5], [1, 5]), ([6, 5, 0, 1, 2, 3, 4, 5, 6], [6])])
def impl_Over.B5 : List Nat := [0, 1, 0, 0, 8, 28, 63, 127]
theorem impl_Over.tab5 : rtab .any (opsOf Try.f11 5) = impl_Over.T5 := by kernel_rfl
theorem impl_Over.bits5 : waitsOk impl_Over.T5.2 impl_Over.B5 = true := by kernel_rfl
def impl_Over.T6 : Bool × List (List Nat × List Nat) := (true, [([], []), ([0], [0]), ([], []), ([2], [2]), ([], []), ([3, 4], [3, 4]), ([1, 5], [1, 5]), ([], []), ([6, 7], [6, 7]), ([], []), ([9], [9]), ([], []), ([11], [11]), ([], []), ([12, 13, 5], [12, 13]), ([10, 14], [10, 14]), ([], []), ([15, 16], [15, 16]), ([8, 17], [8, 17]), ([18, 14, 0, 1, 2, 3, 4, 5, 6, 7, 8, 9, 10, 11, 12, 13, 14, 15, 16, 17, 18], [18]), ([19, 0, 1, 2, 3, 4, 5, 6, 7, 8, 9, 10, 11, 12, 13, 14, 15, 16, 17, 18, 19], [])])
def impl_Over.B6 : List Nat := [0, 1, 0, 4, 0, 28, 63, 0, 255, 0, 512, 0, 2048, 0, 14396, 32316, 0, 130620, 262143, 524287, 1048575]
theorem impl_Over.tab6 : rtab .any (opsOf Try.f11 6) = impl_Over.T6 := by kernel_rfl
theorem impl_Over.bits6 : waitsOk impl_Over.T6.2 impl_Over.B6 = true := by kernel_rfl
def impl_Over.T8 : Bool × List (List Nat × List Nat) := (true, [([], []), ([0], [0]), ([], []), ([], []), ([3], [3]), ([2, 4], [2, 4]), ([1, 5], [1, 5]), ([6, 5, 0, 1, 2, 3, 4, 5, 6], [6])])
def impl_Over.B8 : List Nat := [0, 1, 0, 0, 8, 28, 63, 127]
theorem impl_Over.tab8 : rtab .any (opsOf Try.f11 8) = impl_Over.T8 := by kernel_rfl
theorem impl_Over.bits8 : waitsOk impl_Over.T8.2 impl_Over.B8 = true := by kernel_rfl
def impl_Over.T9 : Bool × List (List Nat × List Nat) := (true, [([], []), ([0], [0]), ([], []), ([1, 2], [1, 2]), ([], []), ([4], [4]), ([3, 5], [3, 5]), ([], []), ([6, 7], [6, 7]), ([], []), ([9], [9]), ([], []), ([10, 11, 3], [10, 11]), ([], []), ([13], [13]), ([12, 14], [12, 14]), ([], []), ([15, 16], [15, 16]), ([8, 17], [8, 17]), ([18, 12, 0, 1, 2, 3, 4, 5, 6, 7, 8, 9, 10, 11, 12, 13, 14, 15, 16, 17, 18], [18]), ([19, 0, 1, 2, 3, 4, 5, 6, 7, 8, 9, 10, 11, 12, 13, 14, 15, 16, 17, 18, 19], [])])
def impl_Over.B9 : List Nat := [0, 1, 0, 7, 0, 16, 63, 0, 255, 0, 512, 0, 3599, 0, 8192, 32271, 0, 130575, 262143, 524287, 1048575]
theorem impl_Over.tab9 : rtab .any (opsOf Try.f11 9) = impl_Over.T9 := by kernel_rfl
theorem impl_Over.bits9 : waitsOk impl_Over.T9.2 impl_Over.B9 = true := by kernel_rfl
set_option maxHeartbeats 8000000 in
set_option maxRecDepth 100000 in
theorem impl_Over.calls (k : Nat) (a0_0 : Nat) (a0_1 : Nat) (a1_0 : Nat) (a1_1 : Nat) (r1 : Nat) (r2 : Nat) (r3 : Bool) (w : World) (h : impl_Over.f k a0_0 a0_1 a1_0 a1_1 = some (r1, r2, r3)) :
    Calls Try.prog 11 #[.agg #[.float .f64 a0_0, .float .f64 a0_1], .agg #[.float .f64 a1_0, .float .f64 a1_1]] w fun e w' => e = .returned (.tuple #[.agg #[.float .f64 r1, .float .f64 r2], .bool r3]) ∧ Below w.heap.size w w' := by
  have hu28 := Try.underlying28
  have HB := Aside0.mk (Below.refl w.heap.size w)
  have H : ((impl_finite.f k (([a0_0, a0_1, a1_0, a1_1] : List Nat))).bind fun t112 => (if t112 = true then (if (FloatKind.f64.format.order a1_0 (0 : Nat) == some .eq) = true then (impl_Over.j0 k (FloatKind.f64.format.order a1_1 (0 : Nat) == some .eq) a0_0 a0_1 a1_0 a1_1) else (impl_Over.j0 k false a0_0 a0_1 a1_0 a1_1)) else (impl_Over.j0 k true a0_0 a0_1 a1_0 a1_1))) = some (r1, r2, r3) := h
  clear h
  have HC3 := Aside0.mk H
  clear H
  go_enter Try.func11, Try.ntmps11
  go_upto_region 1 with (first | ((with_reducible refine gate_dst (N := 2) rfl ?_); refine box_event ?hg (N := 2) ?hd (cs := #[.float .f64 a0_0, .float .f64 a0_1]) (t := 28) ?hr ?_; (case hd => rfl); (case hg => rfl); (case hr => first | (go_simp; done) | (go_simp; rfl)); intro gb106 hg w4 hbox hb; have n0_ := Aside0.mk (below_step (by repeat (first | (with_reducible first | exact HB.out | apply below_alloc | apply pw_below_drewN | apply below_drew1) | exact HB.out)) hb); have n1_ := Aside0.mk (hbox); have n2_ := Aside0.mk ((by rw [hg]; exact (below_size (by repeat (first | (with_reducible first | exact HB.out | apply below_alloc | apply pw_below_drewN | apply below_drew1) | exact HB.out))) : w.heap.size ≤ gb106)); have n3_ := Aside0.mk ((by rw [hg]; exact (below_size (by repeat (first | (with_reducible first | exact HB.out | apply below_alloc | apply pw_below_drewN | apply below_drew1) | exact HB.out))) : w.heap.size ≤ gb106)); clear HB; have HB := n0_; have BK106 := n1_; have GW106 := n2_; have GE106 := n3_; clear n0_ n1_ n2_ n3_; clear hb hbox hg) | ((with_reducible refine gate_dst (N := 3) rfl ?_); refine box_event ?hg (N := 3) ?hd (cs := #[.float .f64 a1_0, .float .f64 a1_1]) (t := 28) ?hr ?_; (case hd => rfl); (case hg => rfl); (case hr => first | (go_simp; done) | (go_simp; rfl)); intro gb107 hg w5 hbox hb; have n0_ := Aside0.mk (blk_below (g := gb106) (o := .cells #[.float .f64 a0_0, .float .f64 a0_1] 28 (0, 0)) (by (with_reducible repeat (first | refine blk_drewN ?_ _ | refine blk_drew ?_ | refine blk_alloc ?_ _)); exact BK106.out) hb); have n1_ := Aside0.mk (below_step (by repeat (first | (with_reducible first | exact HB.out | apply below_alloc | apply pw_below_drewN | apply below_drew1 | refine below_set ?_ GE106.out) | exact HB.out)) hb); have n2_ := Aside0.mk (hbox); have n3_ := Aside0.mk ((by rw [hg]; exact (below_size (by repeat (first | (with_reducible first | exact HB.out | apply below_alloc | apply pw_below_drewN | apply below_drew1 | refine below_set ?_ GE106.out) | exact HB.out))) : w.heap.size ≤ gb107)); have n4_ := Aside0.mk ((by rw [hg]; exact (below_size (by repeat (first | (with_reducible first | exact HB.out | apply below_alloc | apply pw_below_drewN | apply below_drew1 | refine below_set ?_ GE106.out) | exact HB.out))) : w.heap.size ≤ gb107)); have n5_ := Aside0.mk ((by rw [hg]; exact Nat.ne_of_lt (blk_lt (g := gb106) (o := .cells #[.float .f64 a0_0, .float .f64 a0_1] 28 (0, 0)) (by (with_reducible repeat (first | refine blk_drewN ?_ _ | refine blk_drew ?_ | refine blk_alloc ?_ _)); exact BK106.out)) : gb106 ≠ gb107)); have n6_ := Aside0.mk ((by rw [hg]; exact Nat.ne_of_gt (blk_lt (g := gb106) (o := .cells #[.float .f64 a0_0, .float .f64 a0_1] 28 (0, 0)) (by (with_reducible repeat (first | refine blk_drewN ?_ _ | refine blk_drew ?_ | refine blk_alloc ?_ _)); exact BK106.out)) : gb107 ≠ gb106)); clear BK106; clear HB; have BK106 := n0_; have HB := n1_; have BK107 := n2_; have GW107 := n3_; have GE107 := n4_; have NB106_107 := n5_; have NB107_106 := n6_; clear n0_ n1_ n2_ n3_ n4_ n5_ n6_; clear hb hbox hg) | ((with_reducible refine gate_dst (N := 4) rfl ?_); refine box_event ?hg (N := 4) ?hd (cs := #[.float .f64 (0 : Nat), .float .f64 (0 : Nat)]) (t := 28) ?hr ?_; (case hd => rfl); (case hg => rfl); (case hr => first | (go_simp; done) | (go_simp; rfl)); intro gb108 hg w6 hbox hb; have n0_ := Aside0.mk (blk_below (g := gb106) (o := .cells #[.float .f64 a0_0, .float .f64 a0_1] 28 (0, 0)) (by (with_reducible repeat (first | refine blk_drewN ?_ _ | refine blk_drew ?_ | refine blk_alloc ?_ _)); exact BK106.out) hb); have n1_ := Aside0.mk (blk_below (g := gb107) (o := .cells #[.float .f64 a1_0, .float .f64 a1_1] 28 (0, 0)) (by (with_reducible repeat (first | refine blk_drewN ?_ _ | refine blk_drew ?_ | refine blk_alloc ?_ _)); exact BK107.out) hb); have n2_ := Aside0.mk (below_step (by repeat (first | (with_reducible first | exact HB.out | apply below_alloc | apply pw_below_drewN | apply below_drew1 | refine below_set ?_ GE106.out | refine below_set ?_ GE107.out) | exact HB.out)) hb); have n3_ := Aside0.mk (hbox); have n4_ := Aside0.mk ((by rw [hg]; exact (below_size (by repeat (first | (with_reducible first | exact HB.out | apply below_alloc | apply pw_below_drewN | apply below_drew1 | refine below_set ?_ GE106.out | refine below_set ?_ GE107.out) | exact HB.out))) : w.heap.size ≤ gb108)); have n5_ := Aside0.mk ((by rw [hg]; exact (below_size (by repeat (first | (with_reducible first | exact HB.out | apply below_alloc | apply pw_below_drewN | apply below_drew1 | refine below_set ?_ GE106.out | refine below_set ?_ GE107.out) | exact HB.out))) : w.heap.size ≤ gb108)); have n6_ := Aside0.mk ((by rw [hg]; exact Nat.ne_of_lt (blk_lt (g := gb106) (o := .cells #[.float .f64 a0_0, .float .f64 a0_1] 28 (0, 0)) (by (with_reducible repeat (first | refine blk_drewN ?_ _ | refine blk_drew ?_ | refine blk_alloc ?_ _)); exact BK106.out)) : gb106 ≠ gb108)); have n7_ := Aside0.mk ((by rw [hg]; exact Nat.ne_of_gt (blk_lt (g := gb106) (o := .cells #[.float .f64 a0_0, .float .f64 a0_1] 28 (0, 0)) (by (with_reducible repeat (first | refine blk_drewN ?_ _ | refine blk_drew ?_ | refine blk_alloc ?_ _)); exact BK106.out)) : gb108 ≠ gb106)); have n8_ := Aside0.mk ((by rw [hg]; exact Nat.ne_of_lt (blk_lt (g := gb107) (o := .cells #[.float .f64 a1_0, .float .f64 a1_1] 28 (0, 0)) (by (with_reducible repeat (first | refine blk_drewN ?_ _ | refine blk_drew ?_ | refine blk_alloc ?_ _)); exact BK107.out)) : gb107 ≠ gb108)); have n9_ := Aside0.mk ((by rw [hg]; exact Nat.ne_of_gt (blk_lt (g := gb107) (o := .cells #[.float .f64 a1_0, .float .f64 a1_1] 28 (0, 0)) (by (with_reducible repeat (first | refine blk_drewN ?_ _ | refine blk_drew ?_ | refine blk_alloc ?_ _)); exact BK107.out)) : gb108 ≠ gb107)); clear BK106; clear BK107; clear HB; have BK106 := n0_; have BK107 := n1_; have HB := n2_; have BK108 := n3_; have GW108 := n4_; have GE108 := n5_; have NB106_108 := n6_; have NB108_106 := n7_; have NB107_108 := n8_; have NB108_107 := n9_; clear n0_ n1_ n2_ n3_ n4_ n5_ n6_ n7_ n8_ n9_; clear hb hbox hg))
  (try simp only [Act.put, List.setIfInBounds_toArray, List.set_cons_zero, List.set_cons_succ])
  go_cut [30] (fun v30 wc => ∃ (kq : Nat) (x30_2 : Bool), v30 = .bool x30_2 ∧ Aside0 (impl_Over.j0 kq x30_2 a0_0 a0_1 a1_0 a1_1 = some (r1, r2, r3)) ∧ Aside0 (kq ≤ k) ∧ Aside0 (wc.heap[gb106]? = some (.cells #[.float .f64 a0_0, .float .f64 a0_1] 28 (0, 0))) ∧ Aside0 (wc.heap[gb107]? = some (.cells #[.float .f64 a1_0, .float .f64 a1_1] 28 (0, 0))) ∧ Aside0 (wc.heap[gb108]? = some (.cells #[.float .f64 (0 : Nat), .float .f64 (0 : Nat)] 28 (0, 0))) ∧ Aside0 (Below w.heap.size w wc))
  case first =>
    have H := HC3.out
    clear HC3
    obtain ⟨y109, hy109⟩ : ∃ y_ : List Nat, y_ = (([a0_0, a0_1, a1_0, a1_1] : List Nat)) := ⟨_, rfl⟩
    replace H : ((impl_finite.f k y109).bind fun t112 => (if t112 = true then (if (FloatKind.f64.format.order a1_0 (0 : Nat) == some .eq) = true then (impl_Over.j0 k (FloatKind.f64.format.order a1_1 (0 : Nat) == some .eq) a0_0 a0_1 a1_0 a1_1) else (impl_Over.j0 k false a0_0 a0_1 a1_0 a1_1)) else (impl_Over.j0 k true a0_0 a0_1 a1_0 a1_1))) = some (r1, r2, r3) := by first | (rw [hy109]; with_reducible exact H) | (have H2_ := (Option.bind_some _ _).symm.trans H; rw [hy109]; with_reducible exact H2_) | (have H2_ := (Option.bind_some _ _).symm.trans H; with_reducible exact H2_) | with_reducible exact H | (rw [hy109]; exact H) | exact H
    have Ny109 := Aside0.mk hy109
    clear hy109
    replace H := Option.bind_eq_some_iff.mp H
    obtain ⟨t112, A70, H⟩ := H
    replace H : (if t112 = true then (if (FloatKind.f64.format.order a1_0 (0 : Nat) == some .eq) = true then (impl_Over.j0 k (FloatKind.f64.format.order a1_1 (0 : Nat) == some .eq) a0_0 a0_1 a1_0 a1_1) else (impl_Over.j0 k false a0_0 a0_1 a1_0 a1_1)) else (impl_Over.j0 k true a0_0 a0_1 a1_0 a1_1)) = some (r1, r2, r3) := H
    have A7 := Aside0.mk A70
    clear A70
    by_cases c8 : t112 = true
    · subst c8
      have H1 : (if (FloatKind.f64.format.order a1_0 (0 : Nat) == some .eq) = true then (impl_Over.j0 k (FloatKind.f64.format.order a1_1 (0 : Nat) == some .eq) a0_0 a0_1 a1_0 a1_1) else (impl_Over.j0 k false a0_0 a0_1 a1_0 a1_1)) = some (r1, r2, r3) := by rw [if_pos rfl] at H; exact H
      clear H
      have H := H1
      clear H1
      by_cases c9 : (FloatKind.f64.format.order a1_0 (0 : Nat) == some .eq) = true
      · rw [if_pos c9] at H
        have c9b0 : (FloatKind.f64.format.order a1_0 (0 : Nat) == some .eq) = true := c9
        (try (have c9b1 : decide (FloatKind.f64.format.order a1_0 (0 : Nat) = some .eq) = true := by simpa using c9))
        (try (have c9b2 : (FloatKind.f64.format.order a1_0 (0 : Nat) == some .eq) = true := by simpa using c9))
        clear c9
        (first | rw [c9b0] | (simp only [i64_w, i32_w]; rw [c9b0]) | skip)
        have H' := Aside0.mk H
        clear H
        have hnb10 := NB106_107.out
        have hnc10 := NB107_106.out
        have hnb11 := NB106_108.out
        have hnc11 := NB108_106.out
        have hcz12_0 : w6.cell? ⟨gb106, 0, none⟩ = some (.float .f64 a0_0) := (blk_cell BK106.out 0).trans rfl
        have hcz12_1 : w6.cell? ⟨gb106, 1, none⟩ = some (.float .f64 a0_1) := (blk_cell BK106.out 1).trans rfl
        have hfz12_0 := blk_frozen BK106.out 0
        have hfz12_1 := blk_frozen BK106.out 1
        have hnb13 := NB107_108.out
        have hnc13 := NB108_107.out
        have hcz14_0 : w6.cell? ⟨gb107, 0, none⟩ = some (.float .f64 a1_0) := (blk_cell BK107.out 0).trans rfl
        have hcz14_1 : w6.cell? ⟨gb107, 1, none⟩ = some (.float .f64 a1_1) := (blk_cell BK107.out 1).trans rfl
        have hfz14_0 := blk_frozen BK107.out 0
        have hfz14_1 := blk_frozen BK107.out 1
        go_wp2_with (first | ((with_reducible refine gate_dst (N := 18) rfl ?_); refine Kd.R_lit Kd.flt _ 26 ?hg (N := 18) ?hd (xs := ([a0_0, a0_1, a1_0, a1_1] : List Nat)) (inner := [.float .f64 a0_0, .float .f64 a0_1, .float .f64 a1_0, .float .f64 a1_1]) (ok := fun _ => True) (okp := fun _ => True) ?hr ?hp (fun _ hk => hk) trivial (Below.refl _ _) (Nat.le_refl _) (by simp) ?_; (case hd => rfl); (case hg => rfl); (case hr => first | (go_simp; done) | (go_simp; rfl)); (case hp => exact (Reps.one (show Kd.M Kd.flt _ _ _ a0_0 [.float .f64 a0_0] from rfl) (Reps.one (show Kd.M Kd.flt _ _ _ a0_1 [.float .f64 a0_1] from rfl) (Reps.one (show Kd.M Kd.flt _ _ _ a1_0 [.float .f64 a1_0] from rfl) (Reps.one (show Kd.M Kd.flt _ _ _ a1_1 [.float .f64 a1_1] from rfl) (Reps.none _ _)))))); intro v110 w15 ho16 hb hg_ hnew_; clear hg_ hnew_; (first | rw [← Ny109.out] at ho16 | (simp only [Int.reduceToNat] at ho16; rw [← Ny109.out] at ho16)); have n0_ := Aside0.mk (Kd.R_lower ho16 (below_size (by repeat (first | (with_reducible first | exact HB.out | apply below_alloc | apply pw_below_drewN | apply below_drew1 | refine below_set ?_ GE106.out | refine below_set ?_ GE107.out | refine below_set ?_ GE108.out) | exact HB.out)))); have n1_ := Aside0.mk (blk_below (g := gb106) (o := .cells #[.float .f64 a0_0, .float .f64 a0_1] 28 (0, 0)) (by (with_reducible repeat (first | refine blk_drewN ?_ _ | refine blk_drew ?_ | refine blk_alloc ?_ _)); exact BK106.out) hb); have n2_ := Aside0.mk (blk_below (g := gb107) (o := .cells #[.float .f64 a1_0, .float .f64 a1_1] 28 (0, 0)) (by (with_reducible repeat (first | refine blk_drewN ?_ _ | refine blk_drew ?_ | refine blk_alloc ?_ _)); exact BK107.out) hb); have n3_ := Aside0.mk (blk_below (g := gb108) (o := .cells #[.float .f64 (0 : Nat), .float .f64 (0 : Nat)] 28 (0, 0)) (by (with_reducible repeat (first | refine blk_drewN ?_ _ | refine blk_drew ?_ | refine blk_alloc ?_ _)); exact BK108.out) hb); have n4_ := Aside0.mk (below_step (by repeat (first | (with_reducible first | exact HB.out | apply below_alloc | apply pw_below_drewN | apply below_drew1 | refine below_set ?_ GE106.out | refine below_set ?_ GE107.out | refine below_set ?_ GE108.out) | exact HB.out)) hb); clear BK106; clear BK107; clear BK108; clear HB; have HO111 := n0_; have BK106 := n1_; have BK107 := n2_; have BK108 := n3_; have HB := n4_; clear n0_ n1_ n2_ n3_ n4_; clear hb ho16; obtain ⟨Ao17, co17, eo17⟩ := Kd.R_slice HO111.out; subst eo17) | ((with_reducible refine gate_callee (f := 30) rfl ?_); refine goesL_ (some 19) rfl rfl Try.func30 (by kernel_rfl) rfl #[.slice Ao17 y109.length co17] rfl (by (try simp only [List.map_toArray, List.map_cons, List.map_nil]); first | done | rfl | (simp only [List.length_drop, List.length_take]; rfl)) ?_; (with_reducible refine (impl_finite.calls k _ _ y109 true _ ?side1 ?side2 A7.out).mono ?_); (case side1 => repeat (first | exact (Kd.R_reads' HO111.out).2.2 | (with_reducible refine Kd.C_alloc ?_ _) | (with_reducible refine Kd.C_drewN ?_ _) | (with_reducible refine Kd.C_drew ?_))); (case side2 => exact (Kd.R_reads' HO111.out).2.1); rintro e w' ⟨rfl, ⟨nd, rfl⟩⟩; refine ⟨_, rfl, ?_⟩; have hcz18_0 : w15.cell? ⟨gb107, 0, none⟩ = some (.float .f64 a1_0) := (blk_cell BK107.out 0).trans rfl; have hcz18_1 : w15.cell? ⟨gb107, 1, none⟩ = some (.float .f64 a1_1) := (blk_cell BK107.out 1).trans rfl; have hfz18_0 := blk_frozen BK107.out 0; have hfz18_1 := blk_frozen BK107.out 1))
        go_meet
        case rel => exact ⟨_, ((FloatKind.f64.format.order a1_1 (0 : Nat) == some .eq)), (by first | rfl | (simp; done) | (simp [*]; done) | (simp [wrap64]; done)), H', ⟨by first | omega | exact Nat.le_refl _⟩, ⟨by (with_reducible repeat (first | refine blk_drewN ?_ _ | refine blk_drew ?_ | refine blk_alloc ?_ _)); exact BK106.out⟩, ⟨by (with_reducible repeat (first | refine blk_drewN ?_ _ | refine blk_drew ?_ | refine blk_alloc ?_ _)); exact BK107.out⟩, ⟨by (with_reducible repeat (first | refine blk_drewN ?_ _ | refine blk_drew ?_ | refine blk_alloc ?_ _)); exact BK108.out⟩, ⟨by repeat (first | (with_reducible first | exact HB.out | apply below_alloc | apply pw_below_drewN | apply below_drew1 | refine below_set ?_ GE106.out | refine below_set ?_ GE107.out | refine below_set ?_ GE108.out) | exact HB.out)⟩⟩
      · rw [if_neg c9] at H
        have c9b0 : (FloatKind.f64.format.order a1_0 (0 : Nat) == some .eq) = false := by simpa using c9
        (try (have c9b1 : decide (FloatKind.f64.format.order a1_0 (0 : Nat) = some .eq) = false := by simpa using c9))
        (try (have c9b2 : (FloatKind.f64.format.order a1_0 (0 : Nat) == some .eq) = false := by simpa using c9))
        (try (have c9b3 : ¬ (FloatKind.f64.format.order a1_0 (0 : Nat) = some .eq) := by simpa using c9))
        clear c9
        (first | rw [c9b0] | (simp only [i64_w, i32_w]; rw [c9b0]) | skip)
        have H' := Aside0.mk H
        clear H
        have hnb19 := NB106_107.out
        have hnc19 := NB107_106.out
        have hnb20 := NB106_108.out
        have hnc20 := NB108_106.out
        have hcz21_0 : w6.cell? ⟨gb106, 0, none⟩ = some (.float .f64 a0_0) := (blk_cell BK106.out 0).trans rfl
        have hcz21_1 : w6.cell? ⟨gb106, 1, none⟩ = some (.float .f64 a0_1) := (blk_cell BK106.out 1).trans rfl
        have hfz21_0 := blk_frozen BK106.out 0
        have hfz21_1 := blk_frozen BK106.out 1
        have hnb22 := NB107_108.out
        have hnc22 := NB108_107.out
        have hcz23_0 : w6.cell? ⟨gb107, 0, none⟩ = some (.float .f64 a1_0) := (blk_cell BK107.out 0).trans rfl
        have hcz23_1 : w6.cell? ⟨gb107, 1, none⟩ = some (.float .f64 a1_1) := (blk_cell BK107.out 1).trans rfl
        have hfz23_0 := blk_frozen BK107.out 0
        have hfz23_1 := blk_frozen BK107.out 1
        go_wp2_with (first | ((with_reducible refine gate_dst (N := 18) rfl ?_); refine Kd.R_lit Kd.flt _ 26 ?hg (N := 18) ?hd (xs := ([a0_0, a0_1, a1_0, a1_1] : List Nat)) (inner := [.float .f64 a0_0, .float .f64 a0_1, .float .f64 a1_0, .float .f64 a1_1]) (ok := fun _ => True) (okp := fun _ => True) ?hr ?hp (fun _ hk => hk) trivial (Below.refl _ _) (Nat.le_refl _) (by simp) ?_; (case hd => rfl); (case hg => rfl); (case hr => first | (go_simp; done) | (go_simp; rfl)); (case hp => exact (Reps.one (show Kd.M Kd.flt _ _ _ a0_0 [.float .f64 a0_0] from rfl) (Reps.one (show Kd.M Kd.flt _ _ _ a0_1 [.float .f64 a0_1] from rfl) (Reps.one (show Kd.M Kd.flt _ _ _ a1_0 [.float .f64 a1_0] from rfl) (Reps.one (show Kd.M Kd.flt _ _ _ a1_1 [.float .f64 a1_1] from rfl) (Reps.none _ _)))))); intro v110 w24 ho25 hb hg_ hnew_; clear hg_ hnew_; (first | rw [← Ny109.out] at ho25 | (simp only [Int.reduceToNat] at ho25; rw [← Ny109.out] at ho25)); have n0_ := Aside0.mk (Kd.R_lower ho25 (below_size (by repeat (first | (with_reducible first | exact HB.out | apply below_alloc | apply pw_below_drewN | apply below_drew1 | refine below_set ?_ GE106.out | refine below_set ?_ GE107.out | refine below_set ?_ GE108.out) | exact HB.out)))); have n1_ := Aside0.mk (blk_below (g := gb106) (o := .cells #[.float .f64 a0_0, .float .f64 a0_1] 28 (0, 0)) (by (with_reducible repeat (first | refine blk_drewN ?_ _ | refine blk_drew ?_ | refine blk_alloc ?_ _)); exact BK106.out) hb); have n2_ := Aside0.mk (blk_below (g := gb107) (o := .cells #[.float .f64 a1_0, .float .f64 a1_1] 28 (0, 0)) (by (with_reducible repeat (first | refine blk_drewN ?_ _ | refine blk_drew ?_ | refine blk_alloc ?_ _)); exact BK107.out) hb); have n3_ := Aside0.mk (blk_below (g := gb108) (o := .cells #[.float .f64 (0 : Nat), .float .f64 (0 : Nat)] 28 (0, 0)) (by (with_reducible repeat (first | refine blk_drewN ?_ _ | refine blk_drew ?_ | refine blk_alloc ?_ _)); exact BK108.out) hb); have n4_ := Aside0.mk (below_step (by repeat (first | (with_reducible first | exact HB.out | apply below_alloc | apply pw_below_drewN | apply below_drew1 | refine below_set ?_ GE106.out | refine below_set ?_ GE107.out | refine below_set ?_ GE108.out) | exact HB.out)) hb); clear BK106; clear BK107; clear BK108; clear HB; have HO111 := n0_; have BK106 := n1_; have BK107 := n2_; have BK108 := n3_; have HB := n4_; clear n0_ n1_ n2_ n3_ n4_; clear hb ho25; obtain ⟨Ao26, co26, eo26⟩ := Kd.R_slice HO111.out; subst eo26) | ((with_reducible refine gate_callee (f := 30) rfl ?_); refine goesL_ (some 19) rfl rfl Try.func30 (by kernel_rfl) rfl #[.slice Ao26 y109.length co26] rfl (by (try simp only [List.map_toArray, List.map_cons, List.map_nil]); first | done | rfl | (simp only [List.length_drop, List.length_take]; rfl)) ?_; (with_reducible refine (impl_finite.calls k _ _ y109 true _ ?side1 ?side2 A7.out).mono ?_); (case side1 => repeat (first | exact (Kd.R_reads' HO111.out).2.2 | (with_reducible refine Kd.C_alloc ?_ _) | (with_reducible refine Kd.C_drewN ?_ _) | (with_reducible refine Kd.C_drew ?_))); (case side2 => exact (Kd.R_reads' HO111.out).2.1); rintro e w' ⟨rfl, ⟨nd, rfl⟩⟩; refine ⟨_, rfl, ?_⟩; have hcz27_0 : w24.cell? ⟨gb107, 0, none⟩ = some (.float .f64 a1_0) := (blk_cell BK107.out 0).trans rfl; have hcz27_1 : w24.cell? ⟨gb107, 1, none⟩ = some (.float .f64 a1_1) := (blk_cell BK107.out 1).trans rfl; have hfz27_0 := blk_frozen BK107.out 0; have hfz27_1 := blk_frozen BK107.out 1))
        go_meet
        case rel => exact ⟨_, (false), (by first | rfl | (simp; done) | (simp [*]; done) | (simp [wrap64]; done)), H', ⟨by first | omega | exact Nat.le_refl _⟩, ⟨by (with_reducible repeat (first | refine blk_drewN ?_ _ | refine blk_drew ?_ | refine blk_alloc ?_ _)); exact BK106.out⟩, ⟨by (with_reducible repeat (first | refine blk_drewN ?_ _ | refine blk_drew ?_ | refine blk_alloc ?_ _)); exact BK107.out⟩, ⟨by (with_reducible repeat (first | refine blk_drewN ?_ _ | refine blk_drew ?_ | refine blk_alloc ?_ _)); exact BK108.out⟩, ⟨by repeat (first | (with_reducible first | exact HB.out | apply below_alloc | apply pw_below_drewN | apply below_drew1 | refine below_set ?_ GE106.out | refine below_set ?_ GE107.out | refine below_set ?_ GE108.out) | exact HB.out)⟩⟩
    · replace c8 := Bool.eq_false_iff.mpr c8
      subst c8
      have H1 : (impl_Over.j0 k true a0_0 a0_1 a1_0 a1_1) = some (r1, r2, r3) := by rw [if_neg (show ¬ (false = true) by decide)] at H; exact H
      clear H
      have H := H1
      clear H1
      have H' := Aside0.mk H
      clear H
      have hnb28 := NB106_107.out
      have hnc28 := NB107_106.out
      have hnb29 := NB106_108.out
      have hnc29 := NB108_106.out
      have hcz30_0 : w6.cell? ⟨gb106, 0, none⟩ = some (.float .f64 a0_0) := (blk_cell BK106.out 0).trans rfl
      have hcz30_1 : w6.cell? ⟨gb106, 1, none⟩ = some (.float .f64 a0_1) := (blk_cell BK106.out 1).trans rfl
      have hfz30_0 := blk_frozen BK106.out 0
      have hfz30_1 := blk_frozen BK106.out 1
      have hnb31 := NB107_108.out
      have hnc31 := NB108_107.out
      have hcz32_0 : w6.cell? ⟨gb107, 0, none⟩ = some (.float .f64 a1_0) := (blk_cell BK107.out 0).trans rfl
      have hcz32_1 : w6.cell? ⟨gb107, 1, none⟩ = some (.float .f64 a1_1) := (blk_cell BK107.out 1).trans rfl
      have hfz32_0 := blk_frozen BK107.out 0
      have hfz32_1 := blk_frozen BK107.out 1
      go_wp2_with (first | ((with_reducible refine gate_dst (N := 18) rfl ?_); refine Kd.R_lit Kd.flt _ 26 ?hg (N := 18) ?hd (xs := ([a0_0, a0_1, a1_0, a1_1] : List Nat)) (inner := [.float .f64 a0_0, .float .f64 a0_1, .float .f64 a1_0, .float .f64 a1_1]) (ok := fun _ => True) (okp := fun _ => True) ?hr ?hp (fun _ hk => hk) trivial (Below.refl _ _) (Nat.le_refl _) (by simp) ?_; (case hd => rfl); (case hg => rfl); (case hr => first | (go_simp; done) | (go_simp; rfl)); (case hp => exact (Reps.one (show Kd.M Kd.flt _ _ _ a0_0 [.float .f64 a0_0] from rfl) (Reps.one (show Kd.M Kd.flt _ _ _ a0_1 [.float .f64 a0_1] from rfl) (Reps.one (show Kd.M Kd.flt _ _ _ a1_0 [.float .f64 a1_0] from rfl) (Reps.one (show Kd.M Kd.flt _ _ _ a1_1 [.float .f64 a1_1] from rfl) (Reps.none _ _)))))); intro v110 w33 ho34 hb hg_ hnew_; clear hg_ hnew_; (first | rw [← Ny109.out] at ho34 | (simp only [Int.reduceToNat] at ho34; rw [← Ny109.out] at ho34)); have n0_ := Aside0.mk (Kd.R_lower ho34 (below_size (by repeat (first | (with_reducible first | exact HB.out | apply below_alloc | apply pw_below_drewN | apply below_drew1 | refine below_set ?_ GE106.out | refine below_set ?_ GE107.out | refine below_set ?_ GE108.out) | exact HB.out)))); have n1_ := Aside0.mk (blk_below (g := gb106) (o := .cells #[.float .f64 a0_0, .float .f64 a0_1] 28 (0, 0)) (by (with_reducible repeat (first | refine blk_drewN ?_ _ | refine blk_drew ?_ | refine blk_alloc ?_ _)); exact BK106.out) hb); have n2_ := Aside0.mk (blk_below (g := gb107) (o := .cells #[.float .f64 a1_0, .float .f64 a1_1] 28 (0, 0)) (by (with_reducible repeat (first | refine blk_drewN ?_ _ | refine blk_drew ?_ | refine blk_alloc ?_ _)); exact BK107.out) hb); have n3_ := Aside0.mk (blk_below (g := gb108) (o := .cells #[.float .f64 (0 : Nat), .float .f64 (0 : Nat)] 28 (0, 0)) (by (with_reducible repeat (first | refine blk_drewN ?_ _ | refine blk_drew ?_ | refine blk_alloc ?_ _)); exact BK108.out) hb); have n4_ := Aside0.mk (below_step (by repeat (first | (with_reducible first | exact HB.out | apply below_alloc | apply pw_below_drewN | apply below_drew1 | refine below_set ?_ GE106.out | refine below_set ?_ GE107.out | refine below_set ?_ GE108.out) | exact HB.out)) hb); clear BK106; clear BK107; clear BK108; clear HB; have HO111 := n0_; have BK106 := n1_; have BK107 := n2_; have BK108 := n3_; have HB := n4_; clear n0_ n1_ n2_ n3_ n4_; clear hb ho34; obtain ⟨Ao35, co35, eo35⟩ := Kd.R_slice HO111.out; subst eo35) | ((with_reducible refine gate_callee (f := 30) rfl ?_); refine goesL_ (some 19) rfl rfl Try.func30 (by kernel_rfl) rfl #[.slice Ao35 y109.length co35] rfl (by (try simp only [List.map_toArray, List.map_cons, List.map_nil]); first | done | rfl | (simp only [List.length_drop, List.length_take]; rfl)) ?_; (with_reducible refine (impl_finite.calls k _ _ y109 false _ ?side1 ?side2 A7.out).mono ?_); (case side1 => repeat (first | exact (Kd.R_reads' HO111.out).2.2 | (with_reducible refine Kd.C_alloc ?_ _) | (with_reducible refine Kd.C_drewN ?_ _) | (with_reducible refine Kd.C_drew ?_))); (case side2 => exact (Kd.R_reads' HO111.out).2.1); rintro e w' ⟨rfl, ⟨nd, rfl⟩⟩; refine ⟨_, rfl, ?_⟩))
      go_meet
      case rel => exact ⟨_, (true), (by first | rfl | (simp; done) | (simp [*]; done) | (simp [wrap64]; done)), H', ⟨by first | omega | exact Nat.le_refl _⟩, ⟨by (with_reducible repeat (first | refine blk_drewN ?_ _ | refine blk_drew ?_ | refine blk_alloc ?_ _)); exact BK106.out⟩, ⟨by (with_reducible repeat (first | refine blk_drewN ?_ _ | refine blk_drew ?_ | refine blk_alloc ?_ _)); exact BK107.out⟩, ⟨by (with_reducible repeat (first | refine blk_drewN ?_ _ | refine blk_drew ?_ | refine blk_alloc ?_ _)); exact BK108.out⟩, ⟨by repeat (first | (with_reducible first | exact HB.out | apply below_alloc | apply pw_below_drewN | apply below_drew1 | refine below_set ?_ GE106.out | refine below_set ?_ GE107.out | refine below_set ?_ GE108.out) | exact HB.out)⟩⟩
  case rest =>
    clear HC3
    try clear c1
    try clear c2
    try clear p2
    try clear c3
    try clear p6
    try clear c8
    try clear c9
    try clear c9b0
    try clear c9b1
    try clear c9b2
    try clear c10
    try clear c11
    try clear c13
    try clear c19
    try clear c20
    try clear c22
    try clear c28
    try clear c29
    try clear c30
    try clear c31
    try clear hcz12_0
    try clear hcz12_1
    try clear hcz14_0
    try clear hcz14_1
    try clear hcz18_0
    try clear hcz18_1
    try clear hcz21_0
    try clear hcz21_1
    try clear hcz23_0
    try clear hcz23_1
    try clear hcz27_0
    try clear hcz27_1
    try clear hcz30_0
    try clear hcz30_1
    try clear hcz32_0
    try clear hcz32_1
    try clear hfz12_0
    try clear hfz12_1
    try clear hfz14_0
    try clear hfz14_1
    try clear hfz18_0
    try clear hfz18_1
    try clear hfz21_0
    try clear hfz21_1
    try clear hfz23_0
    try clear hfz23_1
    try clear hfz27_0
    try clear hfz27_1
    try clear hfz30_0
    try clear hfz30_1
    try clear hfz32_0
    try clear hfz32_1
    obtain ⟨kq, x30_2, rfl, HA, HJ2, BK106, BK107, BK108, HB⟩ := hcut
    cases kq with
    | zero => exact absurd HA.out (by simp [impl_Over.j0])
    | succ kj2 =>
      have H := HA.out
      clear HA
      simp only [impl_Over.j0] at H
      by_cases c36 : x30_2 = true
      · subst c36
        have H1 : (some ((0 : Nat), (0 : Nat), false)) = some (r1, r2, r3) := by rw [if_pos rfl] at H; exact H
        clear H
        have H := H1
        clear H1
        simp only [Option.some.injEq, Prod.mk.injEq] at H
        obtain ⟨rfl, rfl, rfl⟩ := H
        have hnb37 := NB108_106.out
        have hnc37 := NB106_108.out
        have hnb38 := NB108_107.out
        have hnc38 := NB107_108.out
        have hcz39_0 : wc.cell? ⟨gb108, 0, none⟩ = some (.float .f64 (0 : Nat)) := (blk_cell BK108.out 0).trans rfl
        have hcz39_1 : wc.cell? ⟨gb108, 1, none⟩ = some (.float .f64 (0 : Nat)) := (blk_cell BK108.out 1).trans rfl
        have hfz39_0 := blk_frozen BK108.out 0
        have hfz39_1 := blk_frozen BK108.out 1
        go_wp2
        refine bodyPost_ret (results_ct rfl _ _ gb108 28 #[.float .f64 (0 : Nat), .float .f64 (0 : Nat)] (0, 0) _ rfl (by (with_reducible repeat (first | refine blk_drewN ?_ _ | refine blk_drew ?_ | refine blk_alloc ?_ _)); refine blk_put (cs := #[.float .f64 (0 : Nat), .float .f64 (0 : Nat)]) ?_ 1 _ rfl; (with_reducible repeat (first | refine blk_drewN ?_ _ | refine blk_drew ?_ | refine blk_alloc ?_ _)); refine blk_put (cs := #[.float .f64 (0 : Nat), .float .f64 (0 : Nat)]) ?_ 0 _ rfl; (with_reducible repeat (first | refine blk_drewN ?_ _ | refine blk_drew ?_ | refine blk_alloc ?_ _)); exact BK108.out) Try.underlying28 rfl (by kernel_rfl)) rfl ?_
        exact ⟨by first | rfl | (simp [errW_none, errW_some] <;> rfl) | (simp [*, errW_none, errW_some] <;> rfl), by repeat (first | (with_reducible first | exact HB.out | apply below_alloc | apply pw_below_drewN | apply below_drew1 | refine below_set ?_ GE106.out | refine below_set ?_ GE107.out | refine below_set ?_ GE108.out) | exact HB.out)⟩
      · replace c36 := Bool.eq_false_iff.mpr c36
        subst c36
        have H1 : ((math_Abs.f a1_0).bind fun t113 => ((math_Abs.f a1_1).bind fun t114 => (if (FloatKind.f64.format.order t113 t114 == some .gt || FloatKind.f64.format.order t113 t114 == some .eq) = true then (if (floatBits .quo .f64 a1_1 a1_0).isSome = true then ((impl_by.f ((floatBits .quo .f64 a1_1 a1_0).getD 0) a1_1).bind fun t115 => (if (floatBits .add .f64 a1_0 t115).isSome = true then ((impl_by.f a0_1 ((floatBits .quo .f64 a1_1 a1_0).getD 0)).bind fun t116 => (if (floatBits .add .f64 a0_0 t116).isSome = true then (if (floatBits .quo .f64 ((floatBits .add .f64 a0_0 t116).getD 0) ((floatBits .add .f64 a1_0 t115).getD 0)).isSome = true then ((impl_by.f a0_0 ((floatBits .quo .f64 a1_1 a1_0).getD 0)).bind fun t117 => (if (floatBits .sub .f64 a0_1 t117).isSome = true then (if (floatBits .quo .f64 ((floatBits .sub .f64 a0_1 t117).getD 0) ((floatBits .add .f64 a1_0 t115).getD 0)).isSome = true then (some (((floatBits .quo .f64 ((floatBits .add .f64 a0_0 t116).getD 0) ((floatBits .add .f64 a1_0 t115).getD 0)).getD 0), ((floatBits .quo .f64 ((floatBits .sub .f64 a0_1 t117).getD 0) ((floatBits .add .f64 a1_0 t115).getD 0)).getD 0), true)) else (none)) else (none))) else (none)) else (none))) else (none))) else (none)) else (if (floatBits .quo .f64 a1_0 a1_1).isSome = true then ((impl_by.f ((floatBits .quo .f64 a1_0 a1_1).getD 0) a1_0).bind fun t118 => (if (floatBits .add .f64 a1_1 t118).isSome = true then ((impl_by.f a0_0 ((floatBits .quo .f64 a1_0 a1_1).getD 0)).bind fun t119 => (if (floatBits .add .f64 t119 a0_1).isSome = true then (if (floatBits .quo .f64 ((floatBits .add .f64 t119 a0_1).getD 0) ((floatBits .add .f64 a1_1 t118).getD 0)).isSome = true then ((impl_by.f a0_1 ((floatBits .quo .f64 a1_0 a1_1).getD 0)).bind fun t120 => (if (floatBits .sub .f64 t120 a0_0).isSome = true then (if (floatBits .quo .f64 ((floatBits .sub .f64 t120 a0_0).getD 0) ((floatBits .add .f64 a1_1 t118).getD 0)).isSome = true then (some (((floatBits .quo .f64 ((floatBits .add .f64 t119 a0_1).getD 0) ((floatBits .add .f64 a1_1 t118).getD 0)).getD 0), ((floatBits .quo .f64 ((floatBits .sub .f64 t120 a0_0).getD 0) ((floatBits .add .f64 a1_1 t118).getD 0)).getD 0), true)) else (none)) else (none))) else (none)) else (none))) else (none))) else (none))))) = some (r1, r2, r3) := by rw [if_neg (show ¬ (false = true) by decide)] at H; exact H
        clear H
        have H := H1
        clear H1
        replace H := Option.bind_eq_some_iff.mp H
        obtain ⟨t113, A400, H⟩ := H
        replace H : ((math_Abs.f a1_1).bind fun t114 => (if (FloatKind.f64.format.order t113 t114 == some .gt || FloatKind.f64.format.order t113 t114 == some .eq) = true then (if (floatBits .quo .f64 a1_1 a1_0).isSome = true then ((impl_by.f ((floatBits .quo .f64 a1_1 a1_0).getD 0) a1_1).bind fun t115 => (if (floatBits .add .f64 a1_0 t115).isSome = true then ((impl_by.f a0_1 ((floatBits .quo .f64 a1_1 a1_0).getD 0)).bind fun t116 => (if (floatBits .add .f64 a0_0 t116).isSome = true then (if (floatBits .quo .f64 ((floatBits .add .f64 a0_0 t116).getD 0) ((floatBits .add .f64 a1_0 t115).getD 0)).isSome = true then ((impl_by.f a0_0 ((floatBits .quo .f64 a1_1 a1_0).getD 0)).bind fun t117 => (if (floatBits .sub .f64 a0_1 t117).isSome = true then (if (floatBits .quo .f64 ((floatBits .sub .f64 a0_1 t117).getD 0) ((floatBits .add .f64 a1_0 t115).getD 0)).isSome = true then (some (((floatBits .quo .f64 ((floatBits .add .f64 a0_0 t116).getD 0) ((floatBits .add .f64 a1_0 t115).getD 0)).getD 0), ((floatBits .quo .f64 ((floatBits .sub .f64 a0_1 t117).getD 0) ((floatBits .add .f64 a1_0 t115).getD 0)).getD 0), true)) else (none)) else (none))) else (none)) else (none))) else (none))) else (none)) else (if (floatBits .quo .f64 a1_0 a1_1).isSome = true then ((impl_by.f ((floatBits .quo .f64 a1_0 a1_1).getD 0) a1_0).bind fun t118 => (if (floatBits .add .f64 a1_1 t118).isSome = true then ((impl_by.f a0_0 ((floatBits .quo .f64 a1_0 a1_1).getD 0)).bind fun t119 => (if (floatBits .add .f64 t119 a0_1).isSome = true then (if (floatBits .quo .f64 ((floatBits .add .f64 t119 a0_1).getD 0) ((floatBits .add .f64 a1_1 t118).getD 0)).isSome = true then ((impl_by.f a0_1 ((floatBits .quo .f64 a1_0 a1_1).getD 0)).bind fun t120 => (if (floatBits .sub .f64 t120 a0_0).isSome = true then (if (floatBits .quo .f64 ((floatBits .sub .f64 t120 a0_0).getD 0) ((floatBits .add .f64 a1_1 t118).getD 0)).isSome = true then (some (((floatBits .quo .f64 ((floatBits .add .f64 t119 a0_1).getD 0) ((floatBits .add .f64 a1_1 t118).getD 0)).getD 0), ((floatBits .quo .f64 ((floatBits .sub .f64 t120 a0_0).getD 0) ((floatBits .add .f64 a1_1 t118).getD 0)).getD 0), true)) else (none)) else (none))) else (none)) else (none))) else (none))) else (none)))) = some (r1, r2, r3) := H
        have A40 := Aside0.mk A400
        clear A400
        replace H := Option.bind_eq_some_iff.mp H
        obtain ⟨t114, A410, H⟩ := H
        replace H : (if (FloatKind.f64.format.order t113 t114 == some .gt || FloatKind.f64.format.order t113 t114 == some .eq) = true then (if (floatBits .quo .f64 a1_1 a1_0).isSome = true then ((impl_by.f ((floatBits .quo .f64 a1_1 a1_0).getD 0) a1_1).bind fun t115 => (if (floatBits .add .f64 a1_0 t115).isSome = true then ((impl_by.f a0_1 ((floatBits .quo .f64 a1_1 a1_0).getD 0)).bind fun t116 => (if (floatBits .add .f64 a0_0 t116).isSome = true then (if (floatBits .quo .f64 ((floatBits .add .f64 a0_0 t116).getD 0) ((floatBits .add .f64 a1_0 t115).getD 0)).isSome = true then ((impl_by.f a0_0 ((floatBits .quo .f64 a1_1 a1_0).getD 0)).bind fun t117 => (if (floatBits .sub .f64 a0_1 t117).isSome = true then (if (floatBits .quo .f64 ((floatBits .sub .f64 a0_1 t117).getD 0) ((floatBits .add .f64 a1_0 t115).getD 0)).isSome = true then (some (((floatBits .quo .f64 ((floatBits .add .f64 a0_0 t116).getD 0) ((floatBits .add .f64 a1_0 t115).getD 0)).getD 0), ((floatBits .quo .f64 ((floatBits .sub .f64 a0_1 t117).getD 0) ((floatBits .add .f64 a1_0 t115).getD 0)).getD 0), true)) else (none)) else (none))) else (none)) else (none))) else (none))) else (none)) else (if (floatBits .quo .f64 a1_0 a1_1).isSome = true then ((impl_by.f ((floatBits .quo .f64 a1_0 a1_1).getD 0) a1_0).bind fun t118 => (if (floatBits .add .f64 a1_1 t118).isSome = true then ((impl_by.f a0_0 ((floatBits .quo .f64 a1_0 a1_1).getD 0)).bind fun t119 => (if (floatBits .add .f64 t119 a0_1).isSome = true then (if (floatBits .quo .f64 ((floatBits .add .f64 t119 a0_1).getD 0) ((floatBits .add .f64 a1_1 t118).getD 0)).isSome = true then ((impl_by.f a0_1 ((floatBits .quo .f64 a1_0 a1_1).getD 0)).bind fun t120 => (if (floatBits .sub .f64 t120 a0_0).isSome = true then (if (floatBits .quo .f64 ((floatBits .sub .f64 t120 a0_0).getD 0) ((floatBits .add .f64 a1_1 t118).getD 0)).isSome = true then (some (((floatBits .quo .f64 ((floatBits .add .f64 t119 a0_1).getD 0) ((floatBits .add .f64 a1_1 t118).getD 0)).getD 0), ((floatBits .quo .f64 ((floatBits .sub .f64 t120 a0_0).getD 0) ((floatBits .add .f64 a1_1 t118).getD 0)).getD 0), true)) else (none)) else (none))) else (none)) else (none))) else (none))) else (none))) = some (r1, r2, r3) := H
        have A41 := Aside0.mk A410
        clear A410
        by_cases c42 : (FloatKind.f64.format.order t113 t114 == some .gt || FloatKind.f64.format.order t113 t114 == some .eq) = true
        · rw [if_pos c42] at H
          have c42b0 : (FloatKind.f64.format.order t113 t114 == some .gt || FloatKind.f64.format.order t113 t114 == some .eq) = true := c42
          (try (have c42b1 : decide (FloatKind.f64.format.order t113 t114 = some .gt || FloatKind.f64.format.order t113 t114 == some .eq) = true := by simpa using c42))
          (try (have c42b2 : (FloatKind.f64.format.order t113 t114 == some .gt || FloatKind.f64.format.order t113 t114 == some .eq) = true := by simpa using c42))
          clear c42
          by_cases c43 : (floatBits .quo .f64 a1_1 a1_0).isSome = true
          · rw [if_pos c43] at H
            have c43b0 := eq_true c43
            have c43b1 : decide ((floatBits .quo .f64 a1_1 a1_0).isSome = true) = true := decide_eq_true c43
            clear c43
            replace H := Option.bind_eq_some_iff.mp H
            obtain ⟨t115, A440, H⟩ := H
            replace H : (if (floatBits .add .f64 a1_0 t115).isSome = true then ((impl_by.f a0_1 ((floatBits .quo .f64 a1_1 a1_0).getD 0)).bind fun t116 => (if (floatBits .add .f64 a0_0 t116).isSome = true then (if (floatBits .quo .f64 ((floatBits .add .f64 a0_0 t116).getD 0) ((floatBits .add .f64 a1_0 t115).getD 0)).isSome = true then ((impl_by.f a0_0 ((floatBits .quo .f64 a1_1 a1_0).getD 0)).bind fun t117 => (if (floatBits .sub .f64 a0_1 t117).isSome = true then (if (floatBits .quo .f64 ((floatBits .sub .f64 a0_1 t117).getD 0) ((floatBits .add .f64 a1_0 t115).getD 0)).isSome = true then (some (((floatBits .quo .f64 ((floatBits .add .f64 a0_0 t116).getD 0) ((floatBits .add .f64 a1_0 t115).getD 0)).getD 0), ((floatBits .quo .f64 ((floatBits .sub .f64 a0_1 t117).getD 0) ((floatBits .add .f64 a1_0 t115).getD 0)).getD 0), true)) else (none)) else (none))) else (none)) else (none))) else (none)) = some (r1, r2, r3) := H
            have A44 := Aside0.mk A440
            clear A440
            by_cases c45 : (floatBits .add .f64 a1_0 t115).isSome = true
            · rw [if_pos c45] at H
              have c45b0 := eq_true c45
              have c45b1 : decide ((floatBits .add .f64 a1_0 t115).isSome = true) = true := decide_eq_true c45
              clear c45
              replace H := Option.bind_eq_some_iff.mp H
              obtain ⟨t116, A460, H⟩ := H
              replace H : (if (floatBits .add .f64 a0_0 t116).isSome = true then (if (floatBits .quo .f64 ((floatBits .add .f64 a0_0 t116).getD 0) ((floatBits .add .f64 a1_0 t115).getD 0)).isSome = true then ((impl_by.f a0_0 ((floatBits .quo .f64 a1_1 a1_0).getD 0)).bind fun t117 => (if (floatBits .sub .f64 a0_1 t117).isSome = true then (if (floatBits .quo .f64 ((floatBits .sub .f64 a0_1 t117).getD 0) ((floatBits .add .f64 a1_0 t115).getD 0)).isSome = true then (some (((floatBits .quo .f64 ((floatBits .add .f64 a0_0 t116).getD 0) ((floatBits .add .f64 a1_0 t115).getD 0)).getD 0), ((floatBits .quo .f64 ((floatBits .sub .f64 a0_1 t117).getD 0) ((floatBits .add .f64 a1_0 t115).getD 0)).getD 0), true)) else (none)) else (none))) else (none)) else (none)) = some (r1, r2, r3) := H
              have A46 := Aside0.mk A460
              clear A460
              by_cases c47 : (floatBits .add .f64 a0_0 t116).isSome = true
              · rw [if_pos c47] at H
                have c47b0 := eq_true c47
                have c47b1 : decide ((floatBits .add .f64 a0_0 t116).isSome = true) = true := decide_eq_true c47
                clear c47
                by_cases c48 : (floatBits .quo .f64 ((floatBits .add .f64 a0_0 t116).getD 0) ((floatBits .add .f64 a1_0 t115).getD 0)).isSome = true
                · rw [if_pos c48] at H
                  have c48b0 := eq_true c48
                  have c48b1 : decide ((floatBits .quo .f64 ((floatBits .add .f64 a0_0 t116).getD 0) ((floatBits .add .f64 a1_0 t115).getD 0)).isSome = true) = true := decide_eq_true c48
                  clear c48
                  replace H := Option.bind_eq_some_iff.mp H
                  obtain ⟨t117, A490, H⟩ := H
                  replace H : (if (floatBits .sub .f64 a0_1 t117).isSome = true then (if (floatBits .quo .f64 ((floatBits .sub .f64 a0_1 t117).getD 0) ((floatBits .add .f64 a1_0 t115).getD 0)).isSome = true then (some (((floatBits .quo .f64 ((floatBits .add .f64 a0_0 t116).getD 0) ((floatBits .add .f64 a1_0 t115).getD 0)).getD 0), ((floatBits .quo .f64 ((floatBits .sub .f64 a0_1 t117).getD 0) ((floatBits .add .f64 a1_0 t115).getD 0)).getD 0), true)) else (none)) else (none)) = some (r1, r2, r3) := H
                  have A49 := Aside0.mk A490
                  clear A490
                  by_cases c50 : (floatBits .sub .f64 a0_1 t117).isSome = true
                  · rw [if_pos c50] at H
                    have c50b0 := eq_true c50
                    have c50b1 : decide ((floatBits .sub .f64 a0_1 t117).isSome = true) = true := decide_eq_true c50
                    clear c50
                    by_cases c51 : (floatBits .quo .f64 ((floatBits .sub .f64 a0_1 t117).getD 0) ((floatBits .add .f64 a1_0 t115).getD 0)).isSome = true
                    · rw [if_pos c51] at H
                      have c51b0 := eq_true c51
                      have c51b1 : decide ((floatBits .quo .f64 ((floatBits .sub .f64 a0_1 t117).getD 0) ((floatBits .add .f64 a1_0 t115).getD 0)).isSome = true) = true := decide_eq_true c51
                      clear c51
                      simp only [Option.some.injEq, Prod.mk.injEq] at H
                      obtain ⟨rfl, rfl, rfl⟩ := H
                      try go_wp2
                      have n0_ := Aside0.mk (blk_drew BK106.out)
                      have n1_ := Aside0.mk (blk_drew BK107.out)
                      have n2_ := Aside0.mk (blk_drew BK108.out)
                      have n3_ := Aside0.mk (below_drew1 HB.out)
                      clear BK106
                      clear BK107
                      clear BK108
                      clear HB
                      have BK106 := n0_
                      have BK107 := n1_
                      have BK108 := n2_
                      have HB := n3_
                      clear n0_ n1_ n2_ n3_
                      refine start_ (n := 7) (S := fun w' => w'.cell? ⟨gb107, 0, none⟩ = some (.float .f64 a1_0) ∧ w'.cell? ⟨gb107, 1, none⟩ = some (.float .f64 a1_1)) (ds := []) #[false, false, false, false, false, false, false] (by kernel_rfl) rfl rfl ⟨(blk_cell BK107.out 0).trans rfl, (blk_cell BK107.out 1).trans rfl⟩ (fun hHeld => ?_)
                      generalize wc.drew = w52 at BK106 BK107 BK108 HB hHeld ⊢
                      refine pure_ (i := 0) (N := some 32) (v := ?_) (a' := ?_) #[true, false, false, false, false, false, false] rfl rfl (by kernel_rfl) (fun _ _ _ h => h) (Or.inl ⟨by rfl, ?_⟩) ?_ ?_
                      rotate_left
                      · intro w'
                        go_simp
                        with_reducible rfl
                      rotate_left
                      · simp only [Act.put, List.setIfInBounds_toArray, List.set_cons_zero, List.set_cons_succ, i64_w, i32_w]
                        rfl
                      refine pure_ (i := 3) (N := some 35) (v := ?_) (a' := ?_) #[true, false, false, true, false, false, false] rfl rfl (by kernel_rfl) (fun _ _ _ h => h) (Or.inl ⟨by rfl, ?_⟩) ?_ ?_
                      rotate_left
                      · intro w'
                        go_simp
                        with_reducible rfl
                      rotate_left
                      · simp only [Act.put, List.setIfInBounds_toArray, List.set_cons_zero, List.set_cons_succ, i64_w, i32_w]
                        rfl
                      refine take_ (i := 1) (N := some 33) (v := ?_) (a' := ?_) #[true, true, false, true, false, false, false] rfl rfl (by kernel_rfl) (fun _ _ _ h => h) (Or.inl ⟨by rfl, ?_⟩) hHeld ?_ ?_
                      rotate_left
                      · rintro w' ⟨s0, s1⟩
                        go_simp
                        with_reducible rfl
                      rotate_left
                      · simp only [Act.put, List.setIfInBounds_toArray, List.set_cons_zero, List.set_cons_succ, i64_w, i32_w]
                        rfl
                      refine take_ (i := 4) (N := some 36) (v := ?_) (a' := ?_) #[true, true, false, true, true, false, false] rfl rfl (by kernel_rfl) (fun _ _ _ h => h) (Or.inl ⟨by rfl, ?_⟩) hHeld ?_ ?_
                      rotate_left
                      · rintro w' ⟨s0, s1⟩
                        go_simp
                        with_reducible rfl
                      rotate_left
                      · simp only [Act.put, List.setIfInBounds_toArray, List.set_cons_zero, List.set_cons_succ, i64_w, i32_w]
                        rfl
                      refine one_ (i := 2) (N := some 34) #[true, true, true, true, true, false, false] rfl rfl (by kernel_rfl) (by decide) (fun K hK => ?_)
                      refine goes_ Try.func31 (by kernel_rfl) rfl #[.float .f64 a1_0] (by rfl) rfl rfl (by (try simp only [List.map_toArray, List.map_cons, List.map_nil]); first | done | rfl | (simp only [List.length_drop, List.length_take]; rfl)) ?_
                      with_reducible refine (math_Abs.calls a1_0 t113 _ A40.out).mono ?_
                      rintro e w' ⟨rfl, ⟨nd, rfl⟩⟩
                      refine ⟨_, rfl, ?_⟩
                      refine hK.out _ _ ⟨(blk_cell BK107.out 0).trans rfl, (blk_cell BK107.out 1).trans rfl⟩ (fun hHeld => ?_)
                      clear hK K
                      refine norm_ (a' := ?_) ?_ ?_
                      rotate_left
                      · show Act.put _ (some 34) _ = _
                        simp only [Act.put, List.setIfInBounds_toArray, List.set_cons_zero, List.set_cons_succ, i64_w, i32_w]
                        rfl
                      refine one_ (i := 5) (N := some 37) #[true, true, true, true, true, true, false] rfl rfl (by kernel_rfl) (by decide) (fun K hK => ?_)
                      refine goes_ Try.func31 (by kernel_rfl) rfl #[.float .f64 a1_1] (by rfl) rfl rfl (by (try simp only [List.map_toArray, List.map_cons, List.map_nil]); first | done | rfl | (simp only [List.length_drop, List.length_take]; rfl)) ?_
                      with_reducible refine (math_Abs.calls a1_1 t114 _ A41.out).mono ?_
                      rintro e w' ⟨rfl, ⟨nd, rfl⟩⟩
                      refine ⟨_, rfl, ?_⟩
                      refine hK.out _ _ ⟨(blk_cell BK107.out 0).trans rfl, (blk_cell BK107.out 1).trans rfl⟩ (fun hHeld => ?_)
                      clear hK K
                      refine norm_ (a' := ?_) ?_ ?_
                      rotate_left
                      · show Act.put _ (some 37) _ = _
                        simp only [Act.put, List.setIfInBounds_toArray, List.set_cons_zero, List.set_cons_succ, i64_w, i32_w]
                        rfl
                      refine pure_ (i := 6) (N := some 38) (v := ?_) (a' := ?_) #[true, true, true, true, true, true, true] rfl rfl (by kernel_rfl) (fun _ _ _ h => h) (Or.inl ⟨by rfl, ?_⟩) ?_ ?_
                      rotate_left
                      · intro w'
                        go_simp
                        with_reducible rfl
                      rotate_left
                      · simp only [Act.put, List.setIfInBounds_toArray, List.set_cons_zero, List.set_cons_succ, i64_w, i32_w]
                        rfl
                      refine done_ (by kernel_rfl) ?_
                      have hnb53 := NB107_106.out
                      have hnc53 := NB106_107.out
                      have hnb54 := NB107_108.out
                      have hnc54 := NB108_107.out
                      have hcz55_0 : w52.cell? ⟨gb107, 0, none⟩ = some (.float .f64 a1_0) := (blk_cell BK107.out 0).trans rfl
                      have hcz55_1 : w52.cell? ⟨gb107, 1, none⟩ = some (.float .f64 a1_1) := (blk_cell BK107.out 1).trans rfl
                      have hfz55_0 := blk_frozen BK107.out 0
                      have hfz55_1 := blk_frozen BK107.out 1
                      have hq56_ : (floatBits .quo .f64 a1_1 a1_0).isSome = true := (by first | assumption | exact of_eq_true (by assumption) | (simp only [*]))
                      have hf56_ := fun w_ : World => run_float_arith (P := Try.prog) (w := w_) .quo 26 .f64 a1_1 a1_0 ((floatBits .quo .f64 a1_1 a1_0).getD 0) (opt_getD_ hq56_)
                      try go_wp2
                      (try ((first | generalize hq_ : World.drewN w52 _ = w52 | (rw [drewN_self w52]; generalize hq_ : World.drewN w52 _ = w52)); have n0_ : Aside0 (w52.heap[gb106]? = some (.cells #[.float .f64 a0_0, .float .f64 a0_1] 28 (0, 0))) := ⟨by rw [← hq_]; exact (by (with_reducible repeat (first | refine blk_drewN ?_ _ | refine blk_drew ?_ | refine blk_alloc ?_ _)); exact BK106.out)⟩; have n1_ : Aside0 (w52.heap[gb107]? = some (.cells #[.float .f64 a1_0, .float .f64 a1_1] 28 (0, 0))) := ⟨by rw [← hq_]; exact (by (with_reducible repeat (first | refine blk_drewN ?_ _ | refine blk_drew ?_ | refine blk_alloc ?_ _)); exact BK107.out)⟩; have n2_ : Aside0 (w52.heap[gb108]? = some (.cells #[.float .f64 (0 : Nat), .float .f64 (0 : Nat)] 28 (0, 0))) := ⟨by rw [← hq_]; exact (by (with_reducible repeat (first | refine blk_drewN ?_ _ | refine blk_drew ?_ | refine blk_alloc ?_ _)); exact BK108.out)⟩; have n3_ : Aside0 (Below w.heap.size w w52) := ⟨by rw [← hq_]; exact (by repeat (first | (with_reducible first | exact HB.out | apply below_alloc | apply pw_below_drewN | apply below_drew1 | refine below_set ?_ GE106.out | refine below_set ?_ GE107.out | refine below_set ?_ GE108.out) | exact HB.out))⟩; clear BK106 BK107 BK108 HB hq_; have BK106 := n0_; have BK107 := n1_; have BK108 := n2_; have HB := n3_; clear n0_ n1_ n2_ n3_))
                      have n0_ := Aside0.mk (blk_drew BK106.out)
                      have n1_ := Aside0.mk (blk_drew BK107.out)
                      have n2_ := Aside0.mk (blk_drew BK108.out)
                      have n3_ := Aside0.mk (below_drew1 HB.out)
                      clear BK106
                      clear BK107
                      clear BK108
                      clear HB
                      have BK106 := n0_
                      have BK107 := n1_
                      have BK108 := n2_
                      have HB := n3_
                      clear n0_ n1_ n2_ n3_
                      refine start_ (n := 8) (S := fun w' => w'.cell? ⟨gb107, 0, none⟩ = some (.float .f64 a1_0) ∧ w'.cell? ⟨gb107, 1, none⟩ = some (.float .f64 a1_1)) (ds := []) #[false, false, false, false, false, false, false, false] (by kernel_rfl) rfl rfl ⟨(blk_cell BK107.out 0).trans rfl, (blk_cell BK107.out 1).trans rfl⟩ (fun hHeld => ?_); refine with_tabW impl_Over.tab5 impl_Over.bits5 (fun HT_ HW_ => ?_)
                      generalize w52.drew = w57 at BK106 BK107 BK108 HB hHeld ⊢
                      refine pure_ (i := 0) (N := some 44) (v := ?_) (a' := ?_) #[true, false, false, false, false, false, false, false] rfl rfl (any_of HT_.out (by kernel_rfl)) (fun _ _ _ h => h) (Or.inl ⟨by rfl, ?_⟩) ?_ ?_
                      rotate_left
                      · intro w'
                        go_simp
                        with_reducible rfl
                      rotate_left
                      · simp only [Act.put, List.setIfInBounds_toArray, List.set_cons_zero, List.set_cons_succ, i64_w, i32_w]
                        rfl
                      refine pure_ (i := 2) (N := some 46) (v := ?_) (a' := ?_) #[true, false, true, false, false, false, false, false] rfl rfl (any_of HT_.out (by kernel_rfl)) (fun _ _ _ h => h) (Or.inl ⟨by rfl, ?_⟩) ?_ ?_
                      rotate_left
                      · intro w'
                        go_simp
                        with_reducible rfl
                      rotate_left
                      · simp only [Act.put, List.setIfInBounds_toArray, List.set_cons_zero, List.set_cons_succ, i64_w, i32_w]
                        rfl
                      refine pure_ (i := 3) (N := some 47) (v := ?_) (a' := ?_) #[true, false, true, true, false, false, false, false] rfl rfl (any_of HT_.out (by kernel_rfl)) (fun _ _ _ h => h) (Or.inl ⟨by rfl, ?_⟩) ?_ ?_
                      rotate_left
                      · intro w'
                        go_simp
                        with_reducible rfl
                      rotate_left
                      · simp only [Act.put, List.setIfInBounds_toArray, List.set_cons_zero, List.set_cons_succ, i64_w, i32_w]
                        rfl
                      refine take_ (i := 1) (N := some 45) (v := ?_) (a' := ?_) #[true, true, true, true, false, false, false, false] rfl rfl (take_ofW HT_.out HW_.out (by kernel_rfl)) (fun _ _ _ h => h) (Or.inl ⟨by rfl, ?_⟩) hHeld ?_ ?_
                      rotate_left
                      · rintro w' ⟨s0, s1⟩
                        go_simp
                        with_reducible rfl
                      rotate_left
                      · simp only [Act.put, List.setIfInBounds_toArray, List.set_cons_zero, List.set_cons_succ, i64_w, i32_w]
                        rfl
                      refine take_ (i := 4) (N := some 48) (v := ?_) (a' := ?_) #[true, true, true, true, true, false, false, false] rfl rfl (take_ofW HT_.out HW_.out (by kernel_rfl)) (fun _ _ _ h => h) (Or.inl ⟨by rfl, ?_⟩) hHeld ?_ ?_
                      rotate_left
                      · rintro w' ⟨s0, s1⟩
                        go_simp
                        with_reducible rfl
                      rotate_left
                      · simp only [Act.put, List.setIfInBounds_toArray, List.set_cons_zero, List.set_cons_succ, i64_w, i32_w]
                        rfl
                      refine one_ (i := 5) (N := some 49) #[true, true, true, true, true, true, false, false] rfl rfl (one_of HT_.out (by kernel_rfl)) (by decide) (fun K hK => ?_)
                      refine goes_ Try.func29 (by kernel_rfl) rfl #[.float .f64 ((floatBits .quo .f64 a1_1 a1_0).getD 0), .float .f64 a1_1] (by rfl) rfl rfl (by (try simp only [List.map_toArray, List.map_cons, List.map_nil]); first | done | rfl | (simp only [List.length_drop, List.length_take]; rfl)) ?_
                      with_reducible refine (impl_by.calls ((floatBits .quo .f64 a1_1 a1_0).getD 0) a1_1 t115 _ A44.out).mono ?_
                      rintro e w' ⟨rfl, ⟨nd, rfl⟩⟩
                      refine ⟨_, rfl, ?_⟩
                      have hq58_ : (floatBits .add .f64 a1_0 t115).isSome = true := (by first | assumption | exact of_eq_true (by assumption) | (simp only [*]))
                      have hf58_ := fun w_ : World => run_float_arith (P := Try.prog) (w := w_) .add 26 .f64 a1_0 t115 ((floatBits .add .f64 a1_0 t115).getD 0) (opt_getD_ hq58_)
                      refine hK.out _ _ ⟨(blk_cell BK107.out 0).trans rfl, (blk_cell BK107.out 1).trans rfl⟩ (fun hHeld => ?_)
                      clear hK K
                      refine norm_ (a' := ?_) ?_ ?_
                      rotate_left
                      · show Act.put _ (some 49) _ = _
                        simp only [Act.put, List.setIfInBounds_toArray, List.set_cons_zero, List.set_cons_succ, i64_w, i32_w]
                        rfl
                      refine pure_ (i := 6) (N := some 50) (v := ?_) (a' := ?_) #[true, true, true, true, true, true, true, false] rfl rfl (any_of HT_.out (by kernel_rfl)) (fun _ _ _ h => h) (Or.inl ⟨by rfl, ?_⟩) ?_ ?_
                      rotate_left
                      · intro w'
                        go_simp
                        with_reducible rfl
                      rotate_left
                      · simp only [Act.put, List.setIfInBounds_toArray, List.set_cons_zero, List.set_cons_succ, i64_w, i32_w]
                        rfl
                      refine pure_ (i := 7) (N := some 7) (v := ?_) (a' := ?_) #[true, true, true, true, true, true, true, true] rfl rfl (any_of HT_.out (by kernel_rfl)) (fun _ _ _ h => h) (Or.inl ⟨by rfl, ?_⟩) ?_ ?_
                      rotate_left
                      · intro w'
                        go_simp
                        with_reducible rfl
                      rotate_left
                      · simp only [Act.put, List.setIfInBounds_toArray, List.set_cons_zero, List.set_cons_succ, i64_w, i32_w]
                        rfl
                      refine done_ (done_of HT_.out (by kernel_rfl)) ?_
                      try go_wp2
                      (try ((first | generalize hq_ : World.drewN w57 _ = w57 | (rw [drewN_self w57]; generalize hq_ : World.drewN w57 _ = w57)); have n0_ : Aside0 (w57.heap[gb106]? = some (.cells #[.float .f64 a0_0, .float .f64 a0_1] 28 (0, 0))) := ⟨by rw [← hq_]; exact (by (with_reducible repeat (first | refine blk_drewN ?_ _ | refine blk_drew ?_ | refine blk_alloc ?_ _)); exact BK106.out)⟩; have n1_ : Aside0 (w57.heap[gb107]? = some (.cells #[.float .f64 a1_0, .float .f64 a1_1] 28 (0, 0))) := ⟨by rw [← hq_]; exact (by (with_reducible repeat (first | refine blk_drewN ?_ _ | refine blk_drew ?_ | refine blk_alloc ?_ _)); exact BK107.out)⟩; have n2_ : Aside0 (w57.heap[gb108]? = some (.cells #[.float .f64 (0 : Nat), .float .f64 (0 : Nat)] 28 (0, 0))) := ⟨by rw [← hq_]; exact (by (with_reducible repeat (first | refine blk_drewN ?_ _ | refine blk_drew ?_ | refine blk_alloc ?_ _)); exact BK108.out)⟩; have n3_ : Aside0 (Below w.heap.size w w57) := ⟨by rw [← hq_]; exact (by repeat (first | (with_reducible first | exact HB.out | apply below_alloc | apply pw_below_drewN | apply below_drew1 | refine below_set ?_ GE106.out | refine below_set ?_ GE107.out | refine below_set ?_ GE108.out) | exact HB.out))⟩; clear BK106 BK107 BK108 HB hq_; have BK106 := n0_; have BK107 := n1_; have BK108 := n2_; have HB := n3_; clear n0_ n1_ n2_ n3_))
                      have n0_ := Aside0.mk (blk_drew BK106.out)
                      have n1_ := Aside0.mk (blk_drew BK107.out)
                      have n2_ := Aside0.mk (blk_drew BK108.out)
                      have n3_ := Aside0.mk (below_drew1 HB.out)
                      clear BK106
                      clear BK107
                      clear BK108
                      clear HB
                      have BK106 := n0_
                      have BK107 := n1_
                      have BK108 := n2_
                      have HB := n3_
                      clear n0_ n1_ n2_ n3_
                      refine start_ (n := 21) (S := fun w' => w'.cell? ⟨gb106, 0, none⟩ = some (.float .f64 a0_0) ∧ w'.cell? ⟨gb106, 1, none⟩ = some (.float .f64 a0_1)) (ds := []) #[false, false, false, false, false, false, false, false, false, false, false, false, false, false, false, false, false, false, false, false, false] (by kernel_rfl) rfl rfl ⟨(blk_cell BK106.out 0).trans rfl, (blk_cell BK106.out 1).trans rfl⟩ (fun hHeld => ?_); refine with_tabW impl_Over.tab6 impl_Over.bits6 (fun HT_ HW_ => ?_)
                      generalize w57.drew = w59 at BK106 BK107 BK108 HB hHeld ⊢
                      refine pure_ (i := 0) (N := some 51) (v := ?_) (a' := ?_) #[true, false, false, false, false, false, false, false, false, false, false, false, false, false, false, false, false, false, false, false, false] rfl rfl (any_of HT_.out (by kernel_rfl)) (fun _ _ _ h => h) (Or.inl ⟨by rfl, ?_⟩) ?_ ?_
                      rotate_left
                      · intro w'
                        go_simp
                        with_reducible rfl
                      rotate_left
                      · simp only [Act.put, List.setIfInBounds_toArray, List.set_cons_zero, List.set_cons_succ, i64_w, i32_w]
                        rfl
                      refine pure_ (i := 2) (N := some 53) (v := ?_) (a' := ?_) #[true, false, true, false, false, false, false, false, false, false, false, false, false, false, false, false, false, false, false, false, false] rfl rfl (any_of HT_.out (by kernel_rfl)) (fun _ _ _ h => h) (Or.inl ⟨by rfl, ?_⟩) ?_ ?_
                      rotate_left
                      · intro w'
                        go_simp
                        with_reducible rfl
                      rotate_left
                      · simp only [Act.put, List.setIfInBounds_toArray, List.set_cons_zero, List.set_cons_succ, i64_w, i32_w]
                        rfl
                      refine pure_ (i := 4) (N := some 55) (v := ?_) (a' := ?_) #[true, false, true, false, true, false, false, false, false, false, false, false, false, false, false, false, false, false, false, false, false] rfl rfl (any_of HT_.out (by kernel_rfl)) (fun _ _ _ h => h) (Or.inl ⟨by rfl, ?_⟩) ?_ ?_
                      rotate_left
                      · intro w'
                        go_simp
                        with_reducible rfl
                      rotate_left
                      · simp only [Act.put, List.setIfInBounds_toArray, List.set_cons_zero, List.set_cons_succ, i64_w, i32_w]
                        rfl
                      refine pure_ (i := 7) (N := some 58) (v := ?_) (a' := ?_) #[true, false, true, false, true, false, false, true, false, false, false, false, false, false, false, false, false, false, false, false, false] rfl rfl (any_of HT_.out (by kernel_rfl)) (fun _ _ _ h => h) (Or.inl ⟨by rfl, ?_⟩) ?_ ?_
                      rotate_left
                      · intro w'
                        go_simp
                        with_reducible rfl
                      rotate_left
                      · simp only [Act.put, List.setIfInBounds_toArray, List.set_cons_zero, List.set_cons_succ, i64_w, i32_w]
                        rfl
                      refine pure_ (i := 9) (N := some 60) (v := ?_) (a' := ?_) #[true, false, true, false, true, false, false, true, false, true, false, false, false, false, false, false, false, false, false, false, false] rfl rfl (any_of HT_.out (by kernel_rfl)) (fun _ _ _ h => h) (Or.inl ⟨by rfl, ?_⟩) ?_ ?_
                      rotate_left
                      · intro w'
                        go_simp
                        with_reducible rfl
                      rotate_left
                      · simp only [Act.put, List.setIfInBounds_toArray, List.set_cons_zero, List.set_cons_succ, i64_w, i32_w]
                        rfl
                      refine pure_ (i := 11) (N := some 62) (v := ?_) (a' := ?_) #[true, false, true, false, true, false, false, true, false, true, false, true, false, false, false, false, false, false, false, false, false] rfl rfl (any_of HT_.out (by kernel_rfl)) (fun _ _ _ h => h) (Or.inl ⟨by rfl, ?_⟩) ?_ ?_
                      rotate_left
                      · intro w'
                        go_simp
                        with_reducible rfl
                      rotate_left
                      · simp only [Act.put, List.setIfInBounds_toArray, List.set_cons_zero, List.set_cons_succ, i64_w, i32_w]
                        rfl
                      refine pure_ (i := 13) (N := some 64) (v := ?_) (a' := ?_) #[true, false, true, false, true, false, false, true, false, true, false, true, false, true, false, false, false, false, false, false, false] rfl rfl (any_of HT_.out (by kernel_rfl)) (fun _ _ _ h => h) (Or.inl ⟨by rfl, ?_⟩) ?_ ?_
                      rotate_left
                      · intro w'
                        go_simp
                        with_reducible rfl
                      rotate_left
                      · simp only [Act.put, List.setIfInBounds_toArray, List.set_cons_zero, List.set_cons_succ, i64_w, i32_w]
                        rfl
                      refine pure_ (i := 16) (N := some 67) (v := ?_) (a' := ?_) #[true, false, true, false, true, false, false, true, false, true, false, true, false, true, false, false, true, false, false, false, false] rfl rfl (any_of HT_.out (by kernel_rfl)) (fun _ _ _ h => h) (Or.inl ⟨by rfl, ?_⟩) ?_ ?_
                      rotate_left
                      · intro w'
                        go_simp
                        with_reducible rfl
                      rotate_left
                      · simp only [Act.put, List.setIfInBounds_toArray, List.set_cons_zero, List.set_cons_succ, i64_w, i32_w]
                        rfl
                      refine take_ (i := 1) (N := some 52) (v := ?_) (a' := ?_) #[true, true, true, false, true, false, false, true, false, true, false, true, false, true, false, false, true, false, false, false, false] rfl rfl (take_ofW HT_.out HW_.out (by kernel_rfl)) (fun _ _ _ h => h) (Or.inl ⟨by rfl, ?_⟩) hHeld ?_ ?_
                      rotate_left
                      · rintro w' ⟨s0, s1⟩
                        go_simp
                        with_reducible rfl
                      rotate_left
                      · simp only [Act.put, List.setIfInBounds_toArray, List.set_cons_zero, List.set_cons_succ, i64_w, i32_w]
                        rfl
                      refine take_ (i := 3) (N := some 54) (v := ?_) (a' := ?_) #[true, true, true, true, true, false, false, true, false, true, false, true, false, true, false, false, true, false, false, false, false] rfl rfl (take_ofW HT_.out HW_.out (by kernel_rfl)) (fun _ _ _ h => h) (Or.inl ⟨by rfl, ?_⟩) hHeld ?_ ?_
                      rotate_left
                      · rintro w' ⟨s0, s1⟩
                        go_simp
                        with_reducible rfl
                      rotate_left
                      · simp only [Act.put, List.setIfInBounds_toArray, List.set_cons_zero, List.set_cons_succ, i64_w, i32_w]
                        rfl
                      refine take_ (i := 10) (N := some 61) (v := ?_) (a' := ?_) #[true, true, true, true, true, false, false, true, false, true, true, true, false, true, false, false, true, false, false, false, false] rfl rfl (take_ofW HT_.out HW_.out (by kernel_rfl)) (fun _ _ _ h => h) (Or.inl ⟨by rfl, ?_⟩) hHeld ?_ ?_
                      rotate_left
                      · rintro w' ⟨s0, s1⟩
                        go_simp
                        with_reducible rfl
                      rotate_left
                      · simp only [Act.put, List.setIfInBounds_toArray, List.set_cons_zero, List.set_cons_succ, i64_w, i32_w]
                        rfl
                      refine take_ (i := 12) (N := some 63) (v := ?_) (a' := ?_) #[true, true, true, true, true, false, false, true, false, true, true, true, true, true, false, false, true, false, false, false, false] rfl rfl (take_ofW HT_.out HW_.out (by kernel_rfl)) (fun _ _ _ h => h) (Or.inl ⟨by rfl, ?_⟩) hHeld ?_ ?_
                      rotate_left
                      · rintro w' ⟨s0, s1⟩
                        go_simp
                        with_reducible rfl
                      rotate_left
                      · simp only [Act.put, List.setIfInBounds_toArray, List.set_cons_zero, List.set_cons_succ, i64_w, i32_w]
                        rfl
                      refine one_ (i := 5) (N := some 56) #[true, true, true, true, true, true, false, true, false, true, true, true, true, true, false, false, true, false, false, false, false] rfl rfl (one_of HT_.out (by kernel_rfl)) (by decide) (fun K hK => ?_)
                      refine goes_ Try.func29 (by kernel_rfl) rfl #[.float .f64 a0_1, .float .f64 ((floatBits .quo .f64 a1_1 a1_0).getD 0)] (by rfl) rfl rfl (by (try simp only [List.map_toArray, List.map_cons, List.map_nil]); first | done | rfl | (simp only [List.length_drop, List.length_take]; rfl)) ?_
                      with_reducible refine (impl_by.calls a0_1 ((floatBits .quo .f64 a1_1 a1_0).getD 0) t116 _ A46.out).mono ?_
                      rintro e w' ⟨rfl, ⟨nd, rfl⟩⟩
                      refine ⟨_, rfl, ?_⟩
                      have hq60_ : (floatBits .add .f64 a0_0 t116).isSome = true := (by first | assumption | exact of_eq_true (by assumption) | (simp only [*]))
                      have hf60_ := fun w_ : World => run_float_arith (P := Try.prog) (w := w_) .add 26 .f64 a0_0 t116 ((floatBits .add .f64 a0_0 t116).getD 0) (opt_getD_ hq60_)
                      have hq61_ : (floatBits .quo .f64 ((floatBits .add .f64 a0_0 t116).getD 0) ((floatBits .add .f64 a1_0 t115).getD 0)).isSome = true := (by first | assumption | exact of_eq_true (by assumption) | (simp only [*]))
                      have hf61_ := fun w_ : World => run_float_arith (P := Try.prog) (w := w_) .quo 26 .f64 ((floatBits .add .f64 a0_0 t116).getD 0) ((floatBits .add .f64 a1_0 t115).getD 0) ((floatBits .quo .f64 ((floatBits .add .f64 a0_0 t116).getD 0) ((floatBits .add .f64 a1_0 t115).getD 0)).getD 0) (opt_getD_ hq61_)
                      refine hK.out _ _ ⟨(blk_cell BK106.out 0).trans rfl, (blk_cell BK106.out 1).trans rfl⟩ (fun hHeld => ?_)
                      clear hK K
                      refine norm_ (a' := ?_) ?_ ?_
                      rotate_left
                      · show Act.put _ (some 56) _ = _
                        simp only [Act.put, List.setIfInBounds_toArray, List.set_cons_zero, List.set_cons_succ, i64_w, i32_w]
                        rfl
                      refine pure_ (i := 6) (N := some 57) (v := ?_) (a' := ?_) #[true, true, true, true, true, true, true, true, false, true, true, true, true, true, false, false, true, false, false, false, false] rfl rfl (any_of HT_.out (by kernel_rfl)) (fun _ _ _ h => h) (Or.inl ⟨by rfl, ?_⟩) ?_ ?_
                      rotate_left
                      · intro w'
                        go_simp
                        with_reducible rfl
                      rotate_left
                      · simp only [Act.put, List.setIfInBounds_toArray, List.set_cons_zero, List.set_cons_succ, i64_w, i32_w]
                        rfl
                      refine pure_ (i := 8) (N := some 59) (v := ?_) (a' := ?_) #[true, true, true, true, true, true, true, true, true, true, true, true, true, true, false, false, true, false, false, false, false] rfl rfl (any_of HT_.out (by kernel_rfl)) (fun _ _ _ h => h) (Or.inl ⟨by rfl, ?_⟩) ?_ ?_
                      rotate_left
                      · intro w'
                        go_simp
                        with_reducible rfl
                      rotate_left
                      · simp only [Act.put, List.setIfInBounds_toArray, List.set_cons_zero, List.set_cons_succ, i64_w, i32_w]
                        rfl
                      refine one_ (i := 14) (N := some 65) #[true, true, true, true, true, true, true, true, true, true, true, true, true, true, true, false, true, false, false, false, false] rfl rfl (one_of HT_.out (by kernel_rfl)) (by decide) (fun K hK => ?_)
                      refine goes_ Try.func29 (by kernel_rfl) rfl #[.float .f64 a0_0, .float .f64 ((floatBits .quo .f64 a1_1 a1_0).getD 0)] (by rfl) rfl rfl (by (try simp only [List.map_toArray, List.map_cons, List.map_nil]); first | done | rfl | (simp only [List.length_drop, List.length_take]; rfl)) ?_
                      with_reducible refine (impl_by.calls a0_0 ((floatBits .quo .f64 a1_1 a1_0).getD 0) t117 _ A49.out).mono ?_
                      rintro e w' ⟨rfl, ⟨nd, rfl⟩⟩
                      refine ⟨_, rfl, ?_⟩
                      have hq62_ : (floatBits .sub .f64 a0_1 t117).isSome = true := (by first | assumption | exact of_eq_true (by assumption) | (simp only [*]))
                      have hf62_ := fun w_ : World => run_float_arith (P := Try.prog) (w := w_) .sub 26 .f64 a0_1 t117 ((floatBits .sub .f64 a0_1 t117).getD 0) (opt_getD_ hq62_)
                      have hq63_ : (floatBits .quo .f64 ((floatBits .sub .f64 a0_1 t117).getD 0) ((floatBits .add .f64 a1_0 t115).getD 0)).isSome = true := (by first | assumption | exact of_eq_true (by assumption) | (simp only [*]))
                      have hf63_ := fun w_ : World => run_float_arith (P := Try.prog) (w := w_) .quo 26 .f64 ((floatBits .sub .f64 a0_1 t117).getD 0) ((floatBits .add .f64 a1_0 t115).getD 0) ((floatBits .quo .f64 ((floatBits .sub .f64 a0_1 t117).getD 0) ((floatBits .add .f64 a1_0 t115).getD 0)).getD 0) (opt_getD_ hq63_)
                      refine hK.out _ _ ⟨(blk_cell BK106.out 0).trans rfl, (blk_cell BK106.out 1).trans rfl⟩ (fun hHeld => ?_)
                      clear hK K
                      refine norm_ (a' := ?_) ?_ ?_
                      rotate_left
                      · show Act.put _ (some 65) _ = _
                        simp only [Act.put, List.setIfInBounds_toArray, List.set_cons_zero, List.set_cons_succ, i64_w, i32_w]
                        rfl
                      refine pure_ (i := 15) (N := some 66) (v := ?_) (a' := ?_) #[true, true, true, true, true, true, true, true, true, true, true, true, true, true, true, true, true, false, false, false, false] rfl rfl (any_of HT_.out (by kernel_rfl)) (fun _ _ _ h => h) (Or.inl ⟨by rfl, ?_⟩) ?_ ?_
                      rotate_left
                      · intro w'
                        go_simp
                        with_reducible rfl
                      rotate_left
                      · simp only [Act.put, List.setIfInBounds_toArray, List.set_cons_zero, List.set_cons_succ, i64_w, i32_w]
                        rfl
                      refine pure_ (i := 17) (N := some 68) (v := ?_) (a' := ?_) #[true, true, true, true, true, true, true, true, true, true, true, true, true, true, true, true, true, true, false, false, false] rfl rfl (any_of HT_.out (by kernel_rfl)) (fun _ _ _ h => h) (Or.inl ⟨by rfl, ?_⟩) ?_ ?_
                      rotate_left
                      · intro w'
                        go_simp
                        with_reducible rfl
                      rotate_left
                      · simp only [Act.put, List.setIfInBounds_toArray, List.set_cons_zero, List.set_cons_succ, i64_w, i32_w]
                        rfl
                      refine pure_ (i := 18) (N := some 69) (v := ?_) (a' := ?_) #[true, true, true, true, true, true, true, true, true, true, true, true, true, true, true, true, true, true, true, false, false] rfl rfl (any_of HT_.out (by kernel_rfl)) (fun _ _ _ h => h) (Or.inl ⟨by rfl, ?_⟩) ?_ ?_
                      rotate_left
                      · intro w'
                        go_simp
                        with_reducible rfl
                      rotate_left
                      · simp only [Act.put, List.setIfInBounds_toArray, List.set_cons_zero, List.set_cons_succ, i64_w, i32_w]
                        rfl
                      refine one_ (i := 19) (N := none) #[true, true, true, true, true, true, true, true, true, true, true, true, true, true, true, true, true, true, true, true, false] rfl rfl (one_of HT_.out (by kernel_rfl)) (by decide) (fun K hK => ?_)
                      have hs64 : w59.cell? ⟨gb108, 0, none⟩ = some (.float .f64 (0 : Nat)) := (blk_cell BK108.out 0).trans rfl
                      have hfs64 := blk_frozen BK108.out 0
                      have hns64_0 := NB106_108.out
                      have hns64_1 := NB107_108.out
                      have hms64_0 := NB108_106.out
                      have hms64_1 := NB108_107.out
                      have hs65 : w59.cell? ⟨gb108, 1, none⟩ = some (.float .f64 (0 : Nat)) := (blk_cell BK108.out 1).trans rfl
                      have hfs65 := blk_frozen BK108.out 1
                      have hns65_0 := NB106_108.out
                      have hns65_1 := NB107_108.out
                      have hms65_0 := NB108_106.out
                      have hms65_1 := NB108_107.out
                      refine skip_ (w1 := ?_) (by rfl) rfl ?_ ?_
                      rotate_left
                      · go_simp
                        rfl
                      refine hK.out _ _ ⟨((cell_far (p := ⟨gb108, _, none⟩) NB106_108.out _).trans (((cell_far (p := ⟨gb108, _, none⟩) NB106_108.out _).trans (hHeld.1)))), ((cell_far (p := ⟨gb108, _, none⟩) NB106_108.out _).trans (((cell_far (p := ⟨gb108, _, none⟩) NB106_108.out _).trans (hHeld.2))))⟩ (fun hHeld => ?_)
                      clear hK K
                      refine pure_ (i := 20) (N := some 5) (v := ?_) (a' := ?_) #[true, true, true, true, true, true, true, true, true, true, true, true, true, true, true, true, true, true, true, true, true] rfl rfl (any_of HT_.out (by kernel_rfl)) (fun _ _ _ h => h) (Or.inl ⟨by rfl, ?_⟩) ?_ ?_
                      rotate_left
                      · intro w'
                        go_simp
                        with_reducible rfl
                      rotate_left
                      · simp only [Act.put, List.setIfInBounds_toArray, List.set_cons_zero, List.set_cons_succ, i64_w, i32_w]
                        rfl
                      refine done_ (done_of HT_.out (by kernel_rfl)) ?_
                      try go_wp2
                      refine bodyPost_ret (results_ct rfl _ _ gb108 28 #[.float .f64 ((floatBits .quo .f64 ((floatBits .add .f64 a0_0 t116).getD 0) ((floatBits .add .f64 a1_0 t115).getD 0)).getD 0), .float .f64 ((floatBits .quo .f64 ((floatBits .sub .f64 a0_1 t117).getD 0) ((floatBits .add .f64 a1_0 t115).getD 0)).getD 0)] (0, 0) _ rfl (by (with_reducible repeat (first | refine blk_drewN ?_ _ | refine blk_drew ?_ | refine blk_alloc ?_ _)); refine blk_put (cs := #[.float .f64 ((floatBits .quo .f64 ((floatBits .add .f64 a0_0 t116).getD 0) ((floatBits .add .f64 a1_0 t115).getD 0)).getD 0), .float .f64 (0 : Nat)]) ?_ 1 _ rfl; (with_reducible repeat (first | refine blk_drewN ?_ _ | refine blk_drew ?_ | refine blk_alloc ?_ _)); refine blk_put (cs := #[.float .f64 (0 : Nat), .float .f64 (0 : Nat)]) ?_ 0 _ rfl; (with_reducible repeat (first | refine blk_drewN ?_ _ | refine blk_drew ?_ | refine blk_alloc ?_ _)); exact BK108.out) Try.underlying28 rfl (by kernel_rfl)) rfl ?_
                      exact ⟨by first | rfl | (simp [errW_none, errW_some] <;> rfl) | (simp [*, errW_none, errW_some] <;> rfl), by repeat (first | (with_reducible first | exact HB.out | apply below_alloc | apply pw_below_drewN | apply below_drew1 | refine below_set ?_ GE106.out | refine below_set ?_ GE107.out | refine below_set ?_ GE108.out) | exact HB.out)⟩
                    · rw [if_neg c51] at H
                      exact absurd H (by simp)
                  · rw [if_neg c50] at H
                    exact absurd H (by simp)
                · rw [if_neg c48] at H
                  exact absurd H (by simp)
              · rw [if_neg c47] at H
                exact absurd H (by simp)
            · rw [if_neg c45] at H
              exact absurd H (by simp)
          · rw [if_neg c43] at H
            exact absurd H (by simp)
        · rw [if_neg c42] at H
          have c42b0 : (FloatKind.f64.format.order t113 t114 == some .gt || FloatKind.f64.format.order t113 t114 == some .eq) = false := by simpa using c42
          (try (have c42b1 : decide (FloatKind.f64.format.order t113 t114 = some .gt || FloatKind.f64.format.order t113 t114 == some .eq) = false := by simpa using c42))
          (try (have c42b2 : (FloatKind.f64.format.order t113 t114 == some .gt || FloatKind.f64.format.order t113 t114 == some .eq) = false := by simpa using c42))
          (try (have c42b3 : ¬ (FloatKind.f64.format.order t113 t114 = some .gt || FloatKind.f64.format.order t113 t114 == some .eq) := by simpa using c42))
          clear c42
          by_cases c66 : (floatBits .quo .f64 a1_0 a1_1).isSome = true
          · rw [if_pos c66] at H
            have c66b0 := eq_true c66
            have c66b1 : decide ((floatBits .quo .f64 a1_0 a1_1).isSome = true) = true := decide_eq_true c66
            clear c66
            replace H := Option.bind_eq_some_iff.mp H
            obtain ⟨t118, A670, H⟩ := H
            replace H : (if (floatBits .add .f64 a1_1 t118).isSome = true then ((impl_by.f a0_0 ((floatBits .quo .f64 a1_0 a1_1).getD 0)).bind fun t119 => (if (floatBits .add .f64 t119 a0_1).isSome = true then (if (floatBits .quo .f64 ((floatBits .add .f64 t119 a0_1).getD 0) ((floatBits .add .f64 a1_1 t118).getD 0)).isSome = true then ((impl_by.f a0_1 ((floatBits .quo .f64 a1_0 a1_1).getD 0)).bind fun t120 => (if (floatBits .sub .f64 t120 a0_0).isSome = true then (if (floatBits .quo .f64 ((floatBits .sub .f64 t120 a0_0).getD 0) ((floatBits .add .f64 a1_1 t118).getD 0)).isSome = true then (some (((floatBits .quo .f64 ((floatBits .add .f64 t119 a0_1).getD 0) ((floatBits .add .f64 a1_1 t118).getD 0)).getD 0), ((floatBits .quo .f64 ((floatBits .sub .f64 t120 a0_0).getD 0) ((floatBits .add .f64 a1_1 t118).getD 0)).getD 0), true)) else (none)) else (none))) else (none)) else (none))) else (none)) = some (r1, r2, r3) := H
            have A67 := Aside0.mk A670
            clear A670
            by_cases c68 : (floatBits .add .f64 a1_1 t118).isSome = true
            · rw [if_pos c68] at H
              have c68b0 := eq_true c68
              have c68b1 : decide ((floatBits .add .f64 a1_1 t118).isSome = true) = true := decide_eq_true c68
              clear c68
              replace H := Option.bind_eq_some_iff.mp H
              obtain ⟨t119, A690, H⟩ := H
              replace H : (if (floatBits .add .f64 t119 a0_1).isSome = true then (if (floatBits .quo .f64 ((floatBits .add .f64 t119 a0_1).getD 0) ((floatBits .add .f64 a1_1 t118).getD 0)).isSome = true then ((impl_by.f a0_1 ((floatBits .quo .f64 a1_0 a1_1).getD 0)).bind fun t120 => (if (floatBits .sub .f64 t120 a0_0).isSome = true then (if (floatBits .quo .f64 ((floatBits .sub .f64 t120 a0_0).getD 0) ((floatBits .add .f64 a1_1 t118).getD 0)).isSome = true then (some (((floatBits .quo .f64 ((floatBits .add .f64 t119 a0_1).getD 0) ((floatBits .add .f64 a1_1 t118).getD 0)).getD 0), ((floatBits .quo .f64 ((floatBits .sub .f64 t120 a0_0).getD 0) ((floatBits .add .f64 a1_1 t118).getD 0)).getD 0), true)) else (none)) else (none))) else (none)) else (none)) = some (r1, r2, r3) := H
              have A69 := Aside0.mk A690
              clear A690
              by_cases c70 : (floatBits .add .f64 t119 a0_1).isSome = true
              · rw [if_pos c70] at H
                have c70b0 := eq_true c70
                have c70b1 : decide ((floatBits .add .f64 t119 a0_1).isSome = true) = true := decide_eq_true c70
                clear c70
                by_cases c71 : (floatBits .quo .f64 ((floatBits .add .f64 t119 a0_1).getD 0) ((floatBits .add .f64 a1_1 t118).getD 0)).isSome = true
                · rw [if_pos c71] at H
                  have c71b0 := eq_true c71
                  have c71b1 : decide ((floatBits .quo .f64 ((floatBits .add .f64 t119 a0_1).getD 0) ((floatBits .add .f64 a1_1 t118).getD 0)).isSome = true) = true := decide_eq_true c71
                  clear c71
                  replace H := Option.bind_eq_some_iff.mp H
                  obtain ⟨t120, A720, H⟩ := H
                  replace H : (if (floatBits .sub .f64 t120 a0_0).isSome = true then (if (floatBits .quo .f64 ((floatBits .sub .f64 t120 a0_0).getD 0) ((floatBits .add .f64 a1_1 t118).getD 0)).isSome = true then (some (((floatBits .quo .f64 ((floatBits .add .f64 t119 a0_1).getD 0) ((floatBits .add .f64 a1_1 t118).getD 0)).getD 0), ((floatBits .quo .f64 ((floatBits .sub .f64 t120 a0_0).getD 0) ((floatBits .add .f64 a1_1 t118).getD 0)).getD 0), true)) else (none)) else (none)) = some (r1, r2, r3) := H
                  have A72 := Aside0.mk A720
                  clear A720
                  by_cases c73 : (floatBits .sub .f64 t120 a0_0).isSome = true
                  · rw [if_pos c73] at H
                    have c73b0 := eq_true c73
                    have c73b1 : decide ((floatBits .sub .f64 t120 a0_0).isSome = true) = true := decide_eq_true c73
                    clear c73
                    by_cases c74 : (floatBits .quo .f64 ((floatBits .sub .f64 t120 a0_0).getD 0) ((floatBits .add .f64 a1_1 t118).getD 0)).isSome = true
                    · rw [if_pos c74] at H
                      have c74b0 := eq_true c74
                      have c74b1 : decide ((floatBits .quo .f64 ((floatBits .sub .f64 t120 a0_0).getD 0) ((floatBits .add .f64 a1_1 t118).getD 0)).isSome = true) = true := decide_eq_true c74
                      clear c74
                      simp only [Option.some.injEq, Prod.mk.injEq] at H
                      obtain ⟨rfl, rfl, rfl⟩ := H
                      try go_wp2
                      have n0_ := Aside0.mk (blk_drew BK106.out)
                      have n1_ := Aside0.mk (blk_drew BK107.out)
                      have n2_ := Aside0.mk (blk_drew BK108.out)
                      have n3_ := Aside0.mk (below_drew1 HB.out)
                      clear BK106
                      clear BK107
                      clear BK108
                      clear HB
                      have BK106 := n0_
                      have BK107 := n1_
                      have BK108 := n2_
                      have HB := n3_
                      clear n0_ n1_ n2_ n3_
                      refine start_ (n := 7) (S := fun w' => w'.cell? ⟨gb107, 0, none⟩ = some (.float .f64 a1_0) ∧ w'.cell? ⟨gb107, 1, none⟩ = some (.float .f64 a1_1)) (ds := []) #[false, false, false, false, false, false, false] (by kernel_rfl) rfl rfl ⟨(blk_cell BK107.out 0).trans rfl, (blk_cell BK107.out 1).trans rfl⟩ (fun hHeld => ?_)
                      generalize wc.drew = w75 at BK106 BK107 BK108 HB hHeld ⊢
                      refine pure_ (i := 0) (N := some 32) (v := ?_) (a' := ?_) #[true, false, false, false, false, false, false] rfl rfl (by kernel_rfl) (fun _ _ _ h => h) (Or.inl ⟨by rfl, ?_⟩) ?_ ?_
                      rotate_left
                      · intro w'
                        go_simp
                        with_reducible rfl
                      rotate_left
                      · simp only [Act.put, List.setIfInBounds_toArray, List.set_cons_zero, List.set_cons_succ, i64_w, i32_w]
                        rfl
                      refine pure_ (i := 3) (N := some 35) (v := ?_) (a' := ?_) #[true, false, false, true, false, false, false] rfl rfl (by kernel_rfl) (fun _ _ _ h => h) (Or.inl ⟨by rfl, ?_⟩) ?_ ?_
                      rotate_left
                      · intro w'
                        go_simp
                        with_reducible rfl
                      rotate_left
                      · simp only [Act.put, List.setIfInBounds_toArray, List.set_cons_zero, List.set_cons_succ, i64_w, i32_w]
                        rfl
                      refine take_ (i := 1) (N := some 33) (v := ?_) (a' := ?_) #[true, true, false, true, false, false, false] rfl rfl (by kernel_rfl) (fun _ _ _ h => h) (Or.inl ⟨by rfl, ?_⟩) hHeld ?_ ?_
                      rotate_left
                      · rintro w' ⟨s0, s1⟩
                        go_simp
                        with_reducible rfl
                      rotate_left
                      · simp only [Act.put, List.setIfInBounds_toArray, List.set_cons_zero, List.set_cons_succ, i64_w, i32_w]
                        rfl
                      refine take_ (i := 4) (N := some 36) (v := ?_) (a' := ?_) #[true, true, false, true, true, false, false] rfl rfl (by kernel_rfl) (fun _ _ _ h => h) (Or.inl ⟨by rfl, ?_⟩) hHeld ?_ ?_
                      rotate_left
                      · rintro w' ⟨s0, s1⟩
                        go_simp
                        with_reducible rfl
                      rotate_left
                      · simp only [Act.put, List.setIfInBounds_toArray, List.set_cons_zero, List.set_cons_succ, i64_w, i32_w]
                        rfl
                      refine one_ (i := 2) (N := some 34) #[true, true, true, true, true, false, false] rfl rfl (by kernel_rfl) (by decide) (fun K hK => ?_)
                      refine goes_ Try.func31 (by kernel_rfl) rfl #[.float .f64 a1_0] (by rfl) rfl rfl (by (try simp only [List.map_toArray, List.map_cons, List.map_nil]); first | done | rfl | (simp only [List.length_drop, List.length_take]; rfl)) ?_
                      with_reducible refine (math_Abs.calls a1_0 t113 _ A40.out).mono ?_
                      rintro e w' ⟨rfl, ⟨nd, rfl⟩⟩
                      refine ⟨_, rfl, ?_⟩
                      refine hK.out _ _ ⟨(blk_cell BK107.out 0).trans rfl, (blk_cell BK107.out 1).trans rfl⟩ (fun hHeld => ?_)
                      clear hK K
                      refine norm_ (a' := ?_) ?_ ?_
                      rotate_left
                      · show Act.put _ (some 34) _ = _
                        simp only [Act.put, List.setIfInBounds_toArray, List.set_cons_zero, List.set_cons_succ, i64_w, i32_w]
                        rfl
                      refine one_ (i := 5) (N := some 37) #[true, true, true, true, true, true, false] rfl rfl (by kernel_rfl) (by decide) (fun K hK => ?_)
                      refine goes_ Try.func31 (by kernel_rfl) rfl #[.float .f64 a1_1] (by rfl) rfl rfl (by (try simp only [List.map_toArray, List.map_cons, List.map_nil]); first | done | rfl | (simp only [List.length_drop, List.length_take]; rfl)) ?_
                      with_reducible refine (math_Abs.calls a1_1 t114 _ A41.out).mono ?_
                      rintro e w' ⟨rfl, ⟨nd, rfl⟩⟩
                      refine ⟨_, rfl, ?_⟩
                      refine hK.out _ _ ⟨(blk_cell BK107.out 0).trans rfl, (blk_cell BK107.out 1).trans rfl⟩ (fun hHeld => ?_)
                      clear hK K
                      refine norm_ (a' := ?_) ?_ ?_
                      rotate_left
                      · show Act.put _ (some 37) _ = _
                        simp only [Act.put, List.setIfInBounds_toArray, List.set_cons_zero, List.set_cons_succ, i64_w, i32_w]
                        rfl
                      refine pure_ (i := 6) (N := some 38) (v := ?_) (a' := ?_) #[true, true, true, true, true, true, true] rfl rfl (by kernel_rfl) (fun _ _ _ h => h) (Or.inl ⟨by rfl, ?_⟩) ?_ ?_
                      rotate_left
                      · intro w'
                        go_simp
                        with_reducible rfl
                      rotate_left
                      · simp only [Act.put, List.setIfInBounds_toArray, List.set_cons_zero, List.set_cons_succ, i64_w, i32_w]
                        rfl
                      refine done_ (by kernel_rfl) ?_
                      have hnb76 := NB107_106.out
                      have hnc76 := NB106_107.out
                      have hnb77 := NB107_108.out
                      have hnc77 := NB108_107.out
                      have hcz78_0 : w75.cell? ⟨gb107, 0, none⟩ = some (.float .f64 a1_0) := (blk_cell BK107.out 0).trans rfl
                      have hcz78_1 : w75.cell? ⟨gb107, 1, none⟩ = some (.float .f64 a1_1) := (blk_cell BK107.out 1).trans rfl
                      have hfz78_0 := blk_frozen BK107.out 0
                      have hfz78_1 := blk_frozen BK107.out 1
                      have hq79_ : (floatBits .quo .f64 a1_0 a1_1).isSome = true := (by first | assumption | exact of_eq_true (by assumption) | (simp only [*]))
                      have hf79_ := fun w_ : World => run_float_arith (P := Try.prog) (w := w_) .quo 26 .f64 a1_0 a1_1 ((floatBits .quo .f64 a1_0 a1_1).getD 0) (opt_getD_ hq79_)
                      try go_wp2
                      (try ((first | generalize hq_ : World.drewN w75 _ = w75 | (rw [drewN_self w75]; generalize hq_ : World.drewN w75 _ = w75)); have n0_ : Aside0 (w75.heap[gb106]? = some (.cells #[.float .f64 a0_0, .float .f64 a0_1] 28 (0, 0))) := ⟨by rw [← hq_]; exact (by (with_reducible repeat (first | refine blk_drewN ?_ _ | refine blk_drew ?_ | refine blk_alloc ?_ _)); exact BK106.out)⟩; have n1_ : Aside0 (w75.heap[gb107]? = some (.cells #[.float .f64 a1_0, .float .f64 a1_1] 28 (0, 0))) := ⟨by rw [← hq_]; exact (by (with_reducible repeat (first | refine blk_drewN ?_ _ | refine blk_drew ?_ | refine blk_alloc ?_ _)); exact BK107.out)⟩; have n2_ : Aside0 (w75.heap[gb108]? = some (.cells #[.float .f64 (0 : Nat), .float .f64 (0 : Nat)] 28 (0, 0))) := ⟨by rw [← hq_]; exact (by (with_reducible repeat (first | refine blk_drewN ?_ _ | refine blk_drew ?_ | refine blk_alloc ?_ _)); exact BK108.out)⟩; have n3_ : Aside0 (Below w.heap.size w w75) := ⟨by rw [← hq_]; exact (by repeat (first | (with_reducible first | exact HB.out | apply below_alloc | apply pw_below_drewN | apply below_drew1 | refine below_set ?_ GE106.out | refine below_set ?_ GE107.out | refine below_set ?_ GE108.out) | exact HB.out))⟩; clear BK106 BK107 BK108 HB hq_; have BK106 := n0_; have BK107 := n1_; have BK108 := n2_; have HB := n3_; clear n0_ n1_ n2_ n3_))
                      have n0_ := Aside0.mk (blk_drew BK106.out)
                      have n1_ := Aside0.mk (blk_drew BK107.out)
                      have n2_ := Aside0.mk (blk_drew BK108.out)
                      have n3_ := Aside0.mk (below_drew1 HB.out)
                      clear BK106
                      clear BK107
                      clear BK108
                      clear HB
                      have BK106 := n0_
                      have BK107 := n1_
                      have BK108 := n2_
                      have HB := n3_
                      clear n0_ n1_ n2_ n3_
                      refine start_ (n := 8) (S := fun w' => w'.cell? ⟨gb107, 0, none⟩ = some (.float .f64 a1_0) ∧ w'.cell? ⟨gb107, 1, none⟩ = some (.float .f64 a1_1)) (ds := []) #[false, false, false, false, false, false, false, false] (by kernel_rfl) rfl rfl ⟨(blk_cell BK107.out 0).trans rfl, (blk_cell BK107.out 1).trans rfl⟩ (fun hHeld => ?_); refine with_tabW impl_Over.tab8 impl_Over.bits8 (fun HT_ HW_ => ?_)
                      generalize w75.drew = w80 at BK106 BK107 BK108 HB hHeld ⊢
                      refine pure_ (i := 0) (N := some 75) (v := ?_) (a' := ?_) #[true, false, false, false, false, false, false, false] rfl rfl (any_of HT_.out (by kernel_rfl)) (fun _ _ _ h => h) (Or.inl ⟨by rfl, ?_⟩) ?_ ?_
                      rotate_left
                      · intro w'
                        go_simp
                        with_reducible rfl
                      rotate_left
                      · simp only [Act.put, List.setIfInBounds_toArray, List.set_cons_zero, List.set_cons_succ, i64_w, i32_w]
                        rfl
                      refine pure_ (i := 2) (N := some 77) (v := ?_) (a' := ?_) #[true, false, true, false, false, false, false, false] rfl rfl (any_of HT_.out (by kernel_rfl)) (fun _ _ _ h => h) (Or.inl ⟨by rfl, ?_⟩) ?_ ?_
                      rotate_left
                      · intro w'
                        go_simp
                        with_reducible rfl
                      rotate_left
                      · simp only [Act.put, List.setIfInBounds_toArray, List.set_cons_zero, List.set_cons_succ, i64_w, i32_w]
                        rfl
                      refine pure_ (i := 3) (N := some 78) (v := ?_) (a' := ?_) #[true, false, true, true, false, false, false, false] rfl rfl (any_of HT_.out (by kernel_rfl)) (fun _ _ _ h => h) (Or.inl ⟨by rfl, ?_⟩) ?_ ?_
                      rotate_left
                      · intro w'
                        go_simp
                        with_reducible rfl
                      rotate_left
                      · simp only [Act.put, List.setIfInBounds_toArray, List.set_cons_zero, List.set_cons_succ, i64_w, i32_w]
                        rfl
                      refine take_ (i := 1) (N := some 76) (v := ?_) (a' := ?_) #[true, true, true, true, false, false, false, false] rfl rfl (take_ofW HT_.out HW_.out (by kernel_rfl)) (fun _ _ _ h => h) (Or.inl ⟨by rfl, ?_⟩) hHeld ?_ ?_
                      rotate_left
                      · rintro w' ⟨s0, s1⟩
                        go_simp
                        with_reducible rfl
                      rotate_left
                      · simp only [Act.put, List.setIfInBounds_toArray, List.set_cons_zero, List.set_cons_succ, i64_w, i32_w]
                        rfl
                      refine take_ (i := 4) (N := some 79) (v := ?_) (a' := ?_) #[true, true, true, true, true, false, false, false] rfl rfl (take_ofW HT_.out HW_.out (by kernel_rfl)) (fun _ _ _ h => h) (Or.inl ⟨by rfl, ?_⟩) hHeld ?_ ?_
                      rotate_left
                      · rintro w' ⟨s0, s1⟩
                        go_simp
                        with_reducible rfl
                      rotate_left
                      · simp only [Act.put, List.setIfInBounds_toArray, List.set_cons_zero, List.set_cons_succ, i64_w, i32_w]
                        rfl
                      refine one_ (i := 5) (N := some 80) #[true, true, true, true, true, true, false, false] rfl rfl (one_of HT_.out (by kernel_rfl)) (by decide) (fun K hK => ?_)
                      refine goes_ Try.func29 (by kernel_rfl) rfl #[.float .f64 ((floatBits .quo .f64 a1_0 a1_1).getD 0), .float .f64 a1_0] (by rfl) rfl rfl (by (try simp only [List.map_toArray, List.map_cons, List.map_nil]); first | done | rfl | (simp only [List.length_drop, List.length_take]; rfl)) ?_
                      with_reducible refine (impl_by.calls ((floatBits .quo .f64 a1_0 a1_1).getD 0) a1_0 t118 _ A67.out).mono ?_
                      rintro e w' ⟨rfl, ⟨nd, rfl⟩⟩
                      refine ⟨_, rfl, ?_⟩
                      have hq81_ : (floatBits .add .f64 a1_1 t118).isSome = true := (by first | assumption | exact of_eq_true (by assumption) | (simp only [*]))
                      have hf81_ := fun w_ : World => run_float_arith (P := Try.prog) (w := w_) .add 26 .f64 a1_1 t118 ((floatBits .add .f64 a1_1 t118).getD 0) (opt_getD_ hq81_)
                      refine hK.out _ _ ⟨(blk_cell BK107.out 0).trans rfl, (blk_cell BK107.out 1).trans rfl⟩ (fun hHeld => ?_)
                      clear hK K
                      refine norm_ (a' := ?_) ?_ ?_
                      rotate_left
                      · show Act.put _ (some 80) _ = _
                        simp only [Act.put, List.setIfInBounds_toArray, List.set_cons_zero, List.set_cons_succ, i64_w, i32_w]
                        rfl
                      refine pure_ (i := 6) (N := some 81) (v := ?_) (a' := ?_) #[true, true, true, true, true, true, true, false] rfl rfl (any_of HT_.out (by kernel_rfl)) (fun _ _ _ h => h) (Or.inl ⟨by rfl, ?_⟩) ?_ ?_
                      rotate_left
                      · intro w'
                        go_simp
                        with_reducible rfl
                      rotate_left
                      · simp only [Act.put, List.setIfInBounds_toArray, List.set_cons_zero, List.set_cons_succ, i64_w, i32_w]
                        rfl
                      refine pure_ (i := 7) (N := some 9) (v := ?_) (a' := ?_) #[true, true, true, true, true, true, true, true] rfl rfl (any_of HT_.out (by kernel_rfl)) (fun _ _ _ h => h) (Or.inl ⟨by rfl, ?_⟩) ?_ ?_
                      rotate_left
                      · intro w'
                        go_simp
                        with_reducible rfl
                      rotate_left
                      · simp only [Act.put, List.setIfInBounds_toArray, List.set_cons_zero, List.set_cons_succ, i64_w, i32_w]
                        rfl
                      refine done_ (done_of HT_.out (by kernel_rfl)) ?_
                      try go_wp2
                      (try ((first | generalize hq_ : World.drewN w80 _ = w80 | (rw [drewN_self w80]; generalize hq_ : World.drewN w80 _ = w80)); have n0_ : Aside0 (w80.heap[gb106]? = some (.cells #[.float .f64 a0_0, .float .f64 a0_1] 28 (0, 0))) := ⟨by rw [← hq_]; exact (by (with_reducible repeat (first | refine blk_drewN ?_ _ | refine blk_drew ?_ | refine blk_alloc ?_ _)); exact BK106.out)⟩; have n1_ : Aside0 (w80.heap[gb107]? = some (.cells #[.float .f64 a1_0, .float .f64 a1_1] 28 (0, 0))) := ⟨by rw [← hq_]; exact (by (with_reducible repeat (first | refine blk_drewN ?_ _ | refine blk_drew ?_ | refine blk_alloc ?_ _)); exact BK107.out)⟩; have n2_ : Aside0 (w80.heap[gb108]? = some (.cells #[.float .f64 (0 : Nat), .float .f64 (0 : Nat)] 28 (0, 0))) := ⟨by rw [← hq_]; exact (by (with_reducible repeat (first | refine blk_drewN ?_ _ | refine blk_drew ?_ | refine blk_alloc ?_ _)); exact BK108.out)⟩; have n3_ : Aside0 (Below w.heap.size w w80) := ⟨by rw [← hq_]; exact (by repeat (first | (with_reducible first | exact HB.out | apply below_alloc | apply pw_below_drewN | apply below_drew1 | refine below_set ?_ GE106.out | refine below_set ?_ GE107.out | refine below_set ?_ GE108.out) | exact HB.out))⟩; clear BK106 BK107 BK108 HB hq_; have BK106 := n0_; have BK107 := n1_; have BK108 := n2_; have HB := n3_; clear n0_ n1_ n2_ n3_))
                      have n0_ := Aside0.mk (blk_drew BK106.out)
                      have n1_ := Aside0.mk (blk_drew BK107.out)
                      have n2_ := Aside0.mk (blk_drew BK108.out)
                      have n3_ := Aside0.mk (below_drew1 HB.out)
                      clear BK106
                      clear BK107
                      clear BK108
                      clear HB
                      have BK106 := n0_
                      have BK107 := n1_
                      have BK108 := n2_
                      have HB := n3_
                      clear n0_ n1_ n2_ n3_
                      refine start_ (n := 21) (S := fun w' => w'.cell? ⟨gb106, 0, none⟩ = some (.float .f64 a0_0) ∧ w'.cell? ⟨gb106, 1, none⟩ = some (.float .f64 a0_1)) (ds := []) #[false, false, false, false, false, false, false, false, false, false, false, false, false, false, false, false, false, false, false, false, false] (by kernel_rfl) rfl rfl ⟨(blk_cell BK106.out 0).trans rfl, (blk_cell BK106.out 1).trans rfl⟩ (fun hHeld => ?_); refine with_tabW impl_Over.tab9 impl_Over.bits9 (fun HT_ HW_ => ?_)
                      generalize w80.drew = w82 at BK106 BK107 BK108 HB hHeld ⊢
                      refine pure_ (i := 0) (N := some 82) (v := ?_) (a' := ?_) #[true, false, false, false, false, false, false, false, false, false, false, false, false, false, false, false, false, false, false, false, false] rfl rfl (any_of HT_.out (by kernel_rfl)) (fun _ _ _ h => h) (Or.inl ⟨by rfl, ?_⟩) ?_ ?_
                      rotate_left
                      · intro w'
                        go_simp
                        with_reducible rfl
                      rotate_left
                      · simp only [Act.put, List.setIfInBounds_toArray, List.set_cons_zero, List.set_cons_succ, i64_w, i32_w]
                        rfl
                      refine pure_ (i := 2) (N := some 84) (v := ?_) (a' := ?_) #[true, false, true, false, false, false, false, false, false, false, false, false, false, false, false, false, false, false, false, false, false] rfl rfl (any_of HT_.out (by kernel_rfl)) (fun _ _ _ h => h) (Or.inl ⟨by rfl, ?_⟩) ?_ ?_
                      rotate_left
                      · intro w'
                        go_simp
                        with_reducible rfl
                      rotate_left
                      · simp only [Act.put, List.setIfInBounds_toArray, List.set_cons_zero, List.set_cons_succ, i64_w, i32_w]
                        rfl
                      refine pure_ (i := 4) (N := some 86) (v := ?_) (a' := ?_) #[true, false, true, false, true, false, false, false, false, false, false, false, false, false, false, false, false, false, false, false, false] rfl rfl (any_of HT_.out (by kernel_rfl)) (fun _ _ _ h => h) (Or.inl ⟨by rfl, ?_⟩) ?_ ?_
                      rotate_left
                      · intro w'
                        go_simp
                        with_reducible rfl
                      rotate_left
                      · simp only [Act.put, List.setIfInBounds_toArray, List.set_cons_zero, List.set_cons_succ, i64_w, i32_w]
                        rfl
                      refine pure_ (i := 7) (N := some 89) (v := ?_) (a' := ?_) #[true, false, true, false, true, false, false, true, false, false, false, false, false, false, false, false, false, false, false, false, false] rfl rfl (any_of HT_.out (by kernel_rfl)) (fun _ _ _ h => h) (Or.inl ⟨by rfl, ?_⟩) ?_ ?_
                      rotate_left
                      · intro w'
                        go_simp
                        with_reducible rfl
                      rotate_left
                      · simp only [Act.put, List.setIfInBounds_toArray, List.set_cons_zero, List.set_cons_succ, i64_w, i32_w]
                        rfl
                      refine pure_ (i := 9) (N := some 91) (v := ?_) (a' := ?_) #[true, false, true, false, true, false, false, true, false, true, false, false, false, false, false, false, false, false, false, false, false] rfl rfl (any_of HT_.out (by kernel_rfl)) (fun _ _ _ h => h) (Or.inl ⟨by rfl, ?_⟩) ?_ ?_
                      rotate_left
                      · intro w'
                        go_simp
                        with_reducible rfl
                      rotate_left
                      · simp only [Act.put, List.setIfInBounds_toArray, List.set_cons_zero, List.set_cons_succ, i64_w, i32_w]
                        rfl
                      refine pure_ (i := 11) (N := some 93) (v := ?_) (a' := ?_) #[true, false, true, false, true, false, false, true, false, true, false, true, false, false, false, false, false, false, false, false, false] rfl rfl (any_of HT_.out (by kernel_rfl)) (fun _ _ _ h => h) (Or.inl ⟨by rfl, ?_⟩) ?_ ?_
                      rotate_left
                      · intro w'
                        go_simp
                        with_reducible rfl
                      rotate_left
                      · simp only [Act.put, List.setIfInBounds_toArray, List.set_cons_zero, List.set_cons_succ, i64_w, i32_w]
                        rfl
                      refine pure_ (i := 13) (N := some 95) (v := ?_) (a' := ?_) #[true, false, true, false, true, false, false, true, false, true, false, true, false, true, false, false, false, false, false, false, false] rfl rfl (any_of HT_.out (by kernel_rfl)) (fun _ _ _ h => h) (Or.inl ⟨by rfl, ?_⟩) ?_ ?_
                      rotate_left
                      · intro w'
                        go_simp
                        with_reducible rfl
                      rotate_left
                      · simp only [Act.put, List.setIfInBounds_toArray, List.set_cons_zero, List.set_cons_succ, i64_w, i32_w]
                        rfl
                      refine pure_ (i := 16) (N := some 98) (v := ?_) (a' := ?_) #[true, false, true, false, true, false, false, true, false, true, false, true, false, true, false, false, true, false, false, false, false] rfl rfl (any_of HT_.out (by kernel_rfl)) (fun _ _ _ h => h) (Or.inl ⟨by rfl, ?_⟩) ?_ ?_
                      rotate_left
                      · intro w'
                        go_simp
                        with_reducible rfl
                      rotate_left
                      · simp only [Act.put, List.setIfInBounds_toArray, List.set_cons_zero, List.set_cons_succ, i64_w, i32_w]
                        rfl
                      refine take_ (i := 1) (N := some 83) (v := ?_) (a' := ?_) #[true, true, true, false, true, false, false, true, false, true, false, true, false, true, false, false, true, false, false, false, false] rfl rfl (take_ofW HT_.out HW_.out (by kernel_rfl)) (fun _ _ _ h => h) (Or.inl ⟨by rfl, ?_⟩) hHeld ?_ ?_
                      rotate_left
                      · rintro w' ⟨s0, s1⟩
                        go_simp
                        with_reducible rfl
                      rotate_left
                      · simp only [Act.put, List.setIfInBounds_toArray, List.set_cons_zero, List.set_cons_succ, i64_w, i32_w]
                        rfl
                      refine take_ (i := 5) (N := some 87) (v := ?_) (a' := ?_) #[true, true, true, false, true, true, false, true, false, true, false, true, false, true, false, false, true, false, false, false, false] rfl rfl (take_ofW HT_.out HW_.out (by kernel_rfl)) (fun _ _ _ h => h) (Or.inl ⟨by rfl, ?_⟩) hHeld ?_ ?_
                      rotate_left
                      · rintro w' ⟨s0, s1⟩
                        go_simp
                        with_reducible rfl
                      rotate_left
                      · simp only [Act.put, List.setIfInBounds_toArray, List.set_cons_zero, List.set_cons_succ, i64_w, i32_w]
                        rfl
                      refine take_ (i := 10) (N := some 92) (v := ?_) (a' := ?_) #[true, true, true, false, true, true, false, true, false, true, true, true, false, true, false, false, true, false, false, false, false] rfl rfl (take_ofW HT_.out HW_.out (by kernel_rfl)) (fun _ _ _ h => h) (Or.inl ⟨by rfl, ?_⟩) hHeld ?_ ?_
                      rotate_left
                      · rintro w' ⟨s0, s1⟩
                        go_simp
                        with_reducible rfl
                      rotate_left
                      · simp only [Act.put, List.setIfInBounds_toArray, List.set_cons_zero, List.set_cons_succ, i64_w, i32_w]
                        rfl
                      refine take_ (i := 14) (N := some 96) (v := ?_) (a' := ?_) #[true, true, true, false, true, true, false, true, false, true, true, true, false, true, true, false, true, false, false, false, false] rfl rfl (take_ofW HT_.out HW_.out (by kernel_rfl)) (fun _ _ _ h => h) (Or.inl ⟨by rfl, ?_⟩) hHeld ?_ ?_
                      rotate_left
                      · rintro w' ⟨s0, s1⟩
                        go_simp
                        with_reducible rfl
                      rotate_left
                      · simp only [Act.put, List.setIfInBounds_toArray, List.set_cons_zero, List.set_cons_succ, i64_w, i32_w]
                        rfl
                      refine one_ (i := 3) (N := some 85) #[true, true, true, true, true, true, false, true, false, true, true, true, false, true, true, false, true, false, false, false, false] rfl rfl (one_of HT_.out (by kernel_rfl)) (by decide) (fun K hK => ?_)
                      refine goes_ Try.func29 (by kernel_rfl) rfl #[.float .f64 a0_0, .float .f64 ((floatBits .quo .f64 a1_0 a1_1).getD 0)] (by rfl) rfl rfl (by (try simp only [List.map_toArray, List.map_cons, List.map_nil]); first | done | rfl | (simp only [List.length_drop, List.length_take]; rfl)) ?_
                      with_reducible refine (impl_by.calls a0_0 ((floatBits .quo .f64 a1_0 a1_1).getD 0) t119 _ A69.out).mono ?_
                      rintro e w' ⟨rfl, ⟨nd, rfl⟩⟩
                      refine ⟨_, rfl, ?_⟩
                      have hq83_ : (floatBits .add .f64 t119 a0_1).isSome = true := (by first | assumption | exact of_eq_true (by assumption) | (simp only [*]))
                      have hf83_ := fun w_ : World => run_float_arith (P := Try.prog) (w := w_) .add 26 .f64 t119 a0_1 ((floatBits .add .f64 t119 a0_1).getD 0) (opt_getD_ hq83_)
                      have hq84_ : (floatBits .quo .f64 ((floatBits .add .f64 t119 a0_1).getD 0) ((floatBits .add .f64 a1_1 t118).getD 0)).isSome = true := (by first | assumption | exact of_eq_true (by assumption) | (simp only [*]))
                      have hf84_ := fun w_ : World => run_float_arith (P := Try.prog) (w := w_) .quo 26 .f64 ((floatBits .add .f64 t119 a0_1).getD 0) ((floatBits .add .f64 a1_1 t118).getD 0) ((floatBits .quo .f64 ((floatBits .add .f64 t119 a0_1).getD 0) ((floatBits .add .f64 a1_1 t118).getD 0)).getD 0) (opt_getD_ hq84_)
                      refine hK.out _ _ ⟨(blk_cell BK106.out 0).trans rfl, (blk_cell BK106.out 1).trans rfl⟩ (fun hHeld => ?_)
                      clear hK K
                      refine norm_ (a' := ?_) ?_ ?_
                      rotate_left
                      · show Act.put _ (some 85) _ = _
                        simp only [Act.put, List.setIfInBounds_toArray, List.set_cons_zero, List.set_cons_succ, i64_w, i32_w]
                        rfl
                      refine pure_ (i := 6) (N := some 88) (v := ?_) (a' := ?_) #[true, true, true, true, true, true, true, true, false, true, true, true, false, true, true, false, true, false, false, false, false] rfl rfl (any_of HT_.out (by kernel_rfl)) (fun _ _ _ h => h) (Or.inl ⟨by rfl, ?_⟩) ?_ ?_
                      rotate_left
                      · intro w'
                        go_simp
                        with_reducible rfl
                      rotate_left
                      · simp only [Act.put, List.setIfInBounds_toArray, List.set_cons_zero, List.set_cons_succ, i64_w, i32_w]
                        rfl
                      refine pure_ (i := 8) (N := some 90) (v := ?_) (a' := ?_) #[true, true, true, true, true, true, true, true, true, true, true, true, false, true, true, false, true, false, false, false, false] rfl rfl (any_of HT_.out (by kernel_rfl)) (fun _ _ _ h => h) (Or.inl ⟨by rfl, ?_⟩) ?_ ?_
                      rotate_left
                      · intro w'
                        go_simp
                        with_reducible rfl
                      rotate_left
                      · simp only [Act.put, List.setIfInBounds_toArray, List.set_cons_zero, List.set_cons_succ, i64_w, i32_w]
                        rfl
                      refine one_ (i := 12) (N := some 94) #[true, true, true, true, true, true, true, true, true, true, true, true, true, true, true, false, true, false, false, false, false] rfl rfl (one_of HT_.out (by kernel_rfl)) (by decide) (fun K hK => ?_)
                      refine goes_ Try.func29 (by kernel_rfl) rfl #[.float .f64 a0_1, .float .f64 ((floatBits .quo .f64 a1_0 a1_1).getD 0)] (by rfl) rfl rfl (by (try simp only [List.map_toArray, List.map_cons, List.map_nil]); first | done | rfl | (simp only [List.length_drop, List.length_take]; rfl)) ?_
                      with_reducible refine (impl_by.calls a0_1 ((floatBits .quo .f64 a1_0 a1_1).getD 0) t120 _ A72.out).mono ?_
                      rintro e w' ⟨rfl, ⟨nd, rfl⟩⟩
                      refine ⟨_, rfl, ?_⟩
                      have hq85_ : (floatBits .sub .f64 t120 a0_0).isSome = true := (by first | assumption | exact of_eq_true (by assumption) | (simp only [*]))
                      have hf85_ := fun w_ : World => run_float_arith (P := Try.prog) (w := w_) .sub 26 .f64 t120 a0_0 ((floatBits .sub .f64 t120 a0_0).getD 0) (opt_getD_ hq85_)
                      have hq86_ : (floatBits .quo .f64 ((floatBits .sub .f64 t120 a0_0).getD 0) ((floatBits .add .f64 a1_1 t118).getD 0)).isSome = true := (by first | assumption | exact of_eq_true (by assumption) | (simp only [*]))
                      have hf86_ := fun w_ : World => run_float_arith (P := Try.prog) (w := w_) .quo 26 .f64 ((floatBits .sub .f64 t120 a0_0).getD 0) ((floatBits .add .f64 a1_1 t118).getD 0) ((floatBits .quo .f64 ((floatBits .sub .f64 t120 a0_0).getD 0) ((floatBits .add .f64 a1_1 t118).getD 0)).getD 0) (opt_getD_ hq86_)
                      refine hK.out _ _ ⟨(blk_cell BK106.out 0).trans rfl, (blk_cell BK106.out 1).trans rfl⟩ (fun hHeld => ?_)
                      clear hK K
                      refine norm_ (a' := ?_) ?_ ?_
                      rotate_left
                      · show Act.put _ (some 94) _ = _
                        simp only [Act.put, List.setIfInBounds_toArray, List.set_cons_zero, List.set_cons_succ, i64_w, i32_w]
                        rfl
                      refine pure_ (i := 15) (N := some 97) (v := ?_) (a' := ?_) #[true, true, true, true, true, true, true, true, true, true, true, true, true, true, true, true, true, false, false, false, false] rfl rfl (any_of HT_.out (by kernel_rfl)) (fun _ _ _ h => h) (Or.inl ⟨by rfl, ?_⟩) ?_ ?_
                      rotate_left
                      · intro w'
                        go_simp
                        with_reducible rfl
                      rotate_left
                      · simp only [Act.put, List.setIfInBounds_toArray, List.set_cons_zero, List.set_cons_succ, i64_w, i32_w]
                        rfl
                      refine pure_ (i := 17) (N := some 99) (v := ?_) (a' := ?_) #[true, true, true, true, true, true, true, true, true, true, true, true, true, true, true, true, true, true, false, false, false] rfl rfl (any_of HT_.out (by kernel_rfl)) (fun _ _ _ h => h) (Or.inl ⟨by rfl, ?_⟩) ?_ ?_
                      rotate_left
                      · intro w'
                        go_simp
                        with_reducible rfl
                      rotate_left
                      · simp only [Act.put, List.setIfInBounds_toArray, List.set_cons_zero, List.set_cons_succ, i64_w, i32_w]
                        rfl
                      refine pure_ (i := 18) (N := some 100) (v := ?_) (a' := ?_) #[true, true, true, true, true, true, true, true, true, true, true, true, true, true, true, true, true, true, true, false, false] rfl rfl (any_of HT_.out (by kernel_rfl)) (fun _ _ _ h => h) (Or.inl ⟨by rfl, ?_⟩) ?_ ?_
                      rotate_left
                      · intro w'
                        go_simp
                        with_reducible rfl
                      rotate_left
                      · simp only [Act.put, List.setIfInBounds_toArray, List.set_cons_zero, List.set_cons_succ, i64_w, i32_w]
                        rfl
                      refine one_ (i := 19) (N := none) #[true, true, true, true, true, true, true, true, true, true, true, true, true, true, true, true, true, true, true, true, false] rfl rfl (one_of HT_.out (by kernel_rfl)) (by decide) (fun K hK => ?_)
                      have hs87 : w82.cell? ⟨gb108, 0, none⟩ = some (.float .f64 (0 : Nat)) := (blk_cell BK108.out 0).trans rfl
                      have hfs87 := blk_frozen BK108.out 0
                      have hns87_0 := NB106_108.out
                      have hns87_1 := NB107_108.out
                      have hms87_0 := NB108_106.out
                      have hms87_1 := NB108_107.out
                      have hs88 : w82.cell? ⟨gb108, 1, none⟩ = some (.float .f64 (0 : Nat)) := (blk_cell BK108.out 1).trans rfl
                      have hfs88 := blk_frozen BK108.out 1
                      have hns88_0 := NB106_108.out
                      have hns88_1 := NB107_108.out
                      have hms88_0 := NB108_106.out
                      have hms88_1 := NB108_107.out
                      refine skip_ (w1 := ?_) (by rfl) rfl ?_ ?_
                      rotate_left
                      · go_simp
                        rfl
                      refine hK.out _ _ ⟨((cell_far (p := ⟨gb108, _, none⟩) NB106_108.out _).trans (((cell_far (p := ⟨gb108, _, none⟩) NB106_108.out _).trans (hHeld.1)))), ((cell_far (p := ⟨gb108, _, none⟩) NB106_108.out _).trans (((cell_far (p := ⟨gb108, _, none⟩) NB106_108.out _).trans (hHeld.2))))⟩ (fun hHeld => ?_)
                      clear hK K
                      refine pure_ (i := 20) (N := some 5) (v := ?_) (a' := ?_) #[true, true, true, true, true, true, true, true, true, true, true, true, true, true, true, true, true, true, true, true, true] rfl rfl (any_of HT_.out (by kernel_rfl)) (fun _ _ _ h => h) (Or.inl ⟨by rfl, ?_⟩) ?_ ?_
                      rotate_left
                      · intro w'
                        go_simp
                        with_reducible rfl
                      rotate_left
                      · simp only [Act.put, List.setIfInBounds_toArray, List.set_cons_zero, List.set_cons_succ, i64_w, i32_w]
                        rfl
                      refine done_ (done_of HT_.out (by kernel_rfl)) ?_
                      try go_wp2
                      refine bodyPost_ret (results_ct rfl _ _ gb108 28 #[.float .f64 ((floatBits .quo .f64 ((floatBits .add .f64 t119 a0_1).getD 0) ((floatBits .add .f64 a1_1 t118).getD 0)).getD 0), .float .f64 ((floatBits .quo .f64 ((floatBits .sub .f64 t120 a0_0).getD 0) ((floatBits .add .f64 a1_1 t118).getD 0)).getD 0)] (0, 0) _ rfl (by (with_reducible repeat (first | refine blk_drewN ?_ _ | refine blk_drew ?_ | refine blk_alloc ?_ _)); refine blk_put (cs := #[.float .f64 ((floatBits .quo .f64 ((floatBits .add .f64 t119 a0_1).getD 0) ((floatBits .add .f64 a1_1 t118).getD 0)).getD 0), .float .f64 (0 : Nat)]) ?_ 1 _ rfl; (with_reducible repeat (first | refine blk_drewN ?_ _ | refine blk_drew ?_ | refine blk_alloc ?_ _)); refine blk_put (cs := #[.float .f64 (0 : Nat), .float .f64 (0 : Nat)]) ?_ 0 _ rfl; (with_reducible repeat (first | refine blk_drewN ?_ _ | refine blk_drew ?_ | refine blk_alloc ?_ _)); exact BK108.out) Try.underlying28 rfl (by kernel_rfl)) rfl ?_
                      exact ⟨by first | rfl | (simp [errW_none, errW_some] <;> rfl) | (simp [*, errW_none, errW_some] <;> rfl), by repeat (first | (with_reducible first | exact HB.out | apply below_alloc | apply pw_below_drewN | apply below_drew1 | refine below_set ?_ GE106.out | refine below_set ?_ GE107.out | refine below_set ?_ GE108.out) | exact HB.out)⟩
                    · rw [if_neg c74] at H
                      exact absurd H (by simp)
                  · rw [if_neg c73] at H
                    exact absurd H (by simp)
                · rw [if_neg c71] at H
                  exact absurd H (by simp)
              · rw [if_neg c70] at H
                exact absurd H (by simp)
            · rw [if_neg c68] at H
              exact absurd H (by simp)
          · rw [if_neg c66] at H
            exact absurd H (by simp)

end Go.Proofs.Ytchobalepjmeiaa.PFnOver
