/- The Lean side of Go functions of this seat: what each answers, and that its run comes to that answer; written by a program of this work. -/
import Derived.Test.YtpepdjghajphlaaPFnLaidx0
import Derived.Test.YtpepdjghajphlaaPFnLaidx5
import Derived.Test.YtpepdjghajphlaaPFnLaidx6
import Derived.Test.YtpepdjghajphlaaPFnLaidx7
namespace Go.Proofs.Ytpepdjghajphlaa.PFnLaid
open Go.RowKit Go.Proofs.YtpepdjghajphlaaW.PrintWords Go.Proofs.YtpepdjghajphlaaW.PrintLast Go.Proofs.YtpepdjghajphlaaW.PrintMore
attribute [local go_sem] max2_int min2_int max_two min_two max_three min_three max_four min_four   -- for this text's walks alone
set_option linter.unusedVariables false
set_option linter.unusedSimpArgs false

/-! ### impl_Counted: function 13 -/
mutual
def impl_Counted.j0 : Nat → Int → Int → List (S42) → Bool → Int → Int → Int → Int → Option (Int × Int × Int × Bool)
  | 0, _, _, _, _, _, _, _, _ => none
  | k + 1, x1, x2, x3, x38, x292000, x292001, x292002, x292003 => if x38 = true then (some (0, 0, 0, false)) else ((impl_Spell.f x3).bind fun t298 => (if t298.length < 8796093022208 then ((some (t298 ++ [(⟨x2, wrap64 (x2 + 1)⟩ : S42)] : List (S42))).bind fun y301 => (impl_Counted.l0 k x2 x1 y301 (y301.length : Int) 0 x292000 x292001 x292002 x292003 0 0 (-1))) else (none)))
def impl_Counted.l0 : Nat → Int → Int → List (S42) → Int → Int → Int → Int → Int → Int → Int → Int → Int → Option (Int × Int × Int × Bool)
  | 0, _, _, _, _, _, _, _, _, _, _, _, _ => none
  | k + 1, x2, x11, x49, x50, x51, x292000, x292001, x292002, x292003, x298000, x298001, x298002 => if x51 < x50 then (if 0 ≤ x51 then (if x51 < (x49.length : Int) then (if x298000 = x292001 then (impl_Counted.j2 k x2 x11 x49 x50 x51 true x292000 x292001 x292002 x292003 x298000 x298001 x298002 ((rd_T42 x49 x51).f0) ((rd_T42 x49 x51).f1)) else (impl_Counted.j2 k x2 x11 x49 x50 x51 (decide (x11 ≥ x2)) x292000 x292001 x292002 x292003 x298000 x298001 x298002 ((rd_T42 x49 x51).f0) ((rd_T42 x49 x51).f1))) else (none)) else (none)) else (if x298000 = x292001 then (if x11 < x2 then (some (x298000, wrap64 (x2 - x11), x11, true)) else (some (x298000, x298001, x298002, true))) else (some (x298000, x298001, x298002, true)))
def impl_Counted.j2 : Nat → Int → Int → List (S42) → Int → Int → Bool → Int → Int → Int → Int → Int → Int → Int → Int → Int → Option (Int × Int × Int × Bool)
  | 0, _, _, _, _, _, _, _, _, _, _, _, _, _, _, _ => none
  | k + 1, x2, x11, x49, x50, x51, x64, x292000, x292001, x292002, x292003, x298000, x298001, x298002, x306000, x306001 => if x64 = true then (if x298000 = x292001 then (if x11 < x2 then (some (x298000, wrap64 (x2 - x11), x11, true)) else (some (x298000, x298001, x298002, true))) else (some (x298000, x298001, x298002, true))) else (if x306001 ≤ x11 then (impl_Counted.l0 k x2 x11 x49 x50 (wrap64 (x51 + 1)) x292000 x292001 x292002 x292003 x298000 x298001 x298002) else (if (wrap64 (x298000 + (mn (mx 0 (wrap64 ((mn x306000 x2) - x11))) (wrap64 (x292001 - x298000))))) < x292001 then (impl_Counted.l0 k x2 (mx (wrap64 (x11 + (mn (mx 0 (wrap64 ((mn x306000 x2) - x11))) (wrap64 (x292001 - x298000))))) x306001) x49 x50 (wrap64 (x51 + 1)) x292000 x292001 x292002 x292003 (wrap64 (x298000 + (mn (mx 0 (wrap64 ((mn x306000 x2) - x11))) (wrap64 (x292001 - x298000))))) x298001 x298002) else (impl_Counted.l0 k x2 (wrap64 (x11 + (mn (mx 0 (wrap64 ((mn x306000 x2) - x11))) (wrap64 (x292001 - x298000))))) x49 x50 (wrap64 (x51 + 1)) x292000 x292001 x292002 x292003 (wrap64 (x298000 + (mn (mx 0 (wrap64 ((mn x306000 x2) - x11))) (wrap64 (x292001 - x298000))))) x298001 x298002)))
end
def impl_Counted.f (k : Nat) (a0_0 : Int) (a0_1 : Int) (a0_2 : Int) (a0_3 : Int) (a1 : Int) (a2 : Int) (l3 : List (S42)) : Option (Int × Int × Int × Bool) := (impl_CharterOk.f a0_0 a0_1 a0_2 a0_3).bind fun t293 => (if t293 = true then ((impl_minuteOk.f a1).bind fun t294 => (if t294 = true then ((impl_minuteOk.f a2).bind fun t295 => (if t295 = true then (if a1 > a2 then (impl_Counted.j0 k a1 a2 l3 true a0_0 a0_1 a0_2 a0_3) else ((impl_SpellsOk.f k l3).bind fun t296 => (impl_Counted.j0 k a1 a2 l3 (!t296) a0_0 a0_1 a0_2 a0_3))) else (impl_Counted.j0 k a1 a2 l3 true a0_0 a0_1 a0_2 a0_3))) else (impl_Counted.j0 k a1 a2 l3 true a0_0 a0_1 a0_2 a0_3))) else (impl_Counted.j0 k a1 a2 l3 true a0_0 a0_1 a0_2 a0_3))
theorem impl_Counted.mono_l : ∀ k, (∀ y0 y1 y2 y3 y4 y5 y6 y7, LeO (impl_Counted.j0 k y0 y1 y2 y3 y4 y5 y6 y7) (impl_Counted.j0 (k + 1) y0 y1 y2 y3 y4 y5 y6 y7)) ∧ (∀ y0 y1 y2 y3 y4 y5 y6 y7 y8 y9 y10 y11, LeO (impl_Counted.l0 k y0 y1 y2 y3 y4 y5 y6 y7 y8 y9 y10 y11) (impl_Counted.l0 (k + 1) y0 y1 y2 y3 y4 y5 y6 y7 y8 y9 y10 y11)) ∧ (∀ y0 y1 y2 y3 y4 y5 y6 y7 y8 y9 y10 y11 y12 y13 y14, LeO (impl_Counted.j2 k y0 y1 y2 y3 y4 y5 y6 y7 y8 y9 y10 y11 y12 y13 y14) (impl_Counted.j2 (k + 1) y0 y1 y2 y3 y4 y5 y6 y7 y8 y9 y10 y11 y12 y13 y14))
  | 0 => ⟨fun _ _ _ _ _ _ _ _ r h => by simp [impl_Counted.j0] at h, fun _ _ _ _ _ _ _ _ _ _ _ _ r h => by simp [impl_Counted.l0] at h, fun _ _ _ _ _ _ _ _ _ _ _ _ _ _ _ r h => by simp [impl_Counted.j2] at h⟩
  | k + 1 => by
    obtain ⟨ih0, ih1, ih2⟩ := impl_Counted.mono_l k
    refine ⟨?_, ?_, ?_⟩
    · intro y0 y1 y2 y3 y4 y5 y6 y7
      unfold impl_Counted.j0
      repeat' first
      | (with_reducible exact ih0 _ _ _ _ _ _ _ _)
      | (with_reducible exact ih1 _ _ _ _ _ _ _ _ _ _ _ _)
      | (with_reducible exact ih2 _ _ _ _ _ _ _ _ _ _ _ _ _ _ _)
      | (with_reducible exact impl_SpellsOk.mono _ _)
      | (with_reducible exact LeO.refl _)
      | (with_reducible exact LeO.none _)
      | (with_reducible refine LeO.ite ?_ ?_)
      | (with_reducible refine LeO.bind ?_ (fun _ => ?_))
      | exact ih0 _ _ _ _ _ _ _ _
      | exact ih1 _ _ _ _ _ _ _ _ _ _ _ _
      | exact ih2 _ _ _ _ _ _ _ _ _ _ _ _ _ _ _
      | exact impl_SpellsOk.mono _ _
      | exact LeO.none _
      | refine LeO.ite ?_ ?_
      | refine LeO.bind ?_ (fun _ => ?_)
    · intro y0 y1 y2 y3 y4 y5 y6 y7 y8 y9 y10 y11
      unfold impl_Counted.l0
      repeat' first
      | (with_reducible exact ih0 _ _ _ _ _ _ _ _)
      | (with_reducible exact ih1 _ _ _ _ _ _ _ _ _ _ _ _)
      | (with_reducible exact ih2 _ _ _ _ _ _ _ _ _ _ _ _ _ _ _)
      | (with_reducible exact impl_SpellsOk.mono _ _)
      | (with_reducible exact LeO.refl _)
      | (with_reducible exact LeO.none _)
      | (with_reducible refine LeO.ite ?_ ?_)
      | (with_reducible refine LeO.bind ?_ (fun _ => ?_))
      | exact ih0 _ _ _ _ _ _ _ _
      | exact ih1 _ _ _ _ _ _ _ _ _ _ _ _
      | exact ih2 _ _ _ _ _ _ _ _ _ _ _ _ _ _ _
      | exact impl_SpellsOk.mono _ _
      | exact LeO.none _
      | refine LeO.ite ?_ ?_
      | refine LeO.bind ?_ (fun _ => ?_)
    · intro y0 y1 y2 y3 y4 y5 y6 y7 y8 y9 y10 y11 y12 y13 y14
      unfold impl_Counted.j2
      repeat' first
      | (with_reducible exact ih0 _ _ _ _ _ _ _ _)
      | (with_reducible exact ih1 _ _ _ _ _ _ _ _ _ _ _ _)
      | (with_reducible exact ih2 _ _ _ _ _ _ _ _ _ _ _ _ _ _ _)
      | (with_reducible exact impl_SpellsOk.mono _ _)
      | (with_reducible exact LeO.refl _)
      | (with_reducible exact LeO.none _)
      | (with_reducible refine LeO.ite ?_ ?_)
      | (with_reducible refine LeO.bind ?_ (fun _ => ?_))
      | exact ih0 _ _ _ _ _ _ _ _
      | exact ih1 _ _ _ _ _ _ _ _ _ _ _ _
      | exact ih2 _ _ _ _ _ _ _ _ _ _ _ _ _ _ _
      | exact impl_SpellsOk.mono _ _
      | exact LeO.none _
      | refine LeO.ite ?_ ?_
      | refine LeO.bind ?_ (fun _ => ?_)
theorem impl_Counted.mono : ∀ a0 a1 a2 a3 a4 a5 a6 k, LeO (impl_Counted.f k a0 a1 a2 a3 a4 a5 a6) (impl_Counted.f (k + 1) a0 a1 a2 a3 a4 a5 a6) := by
  intro a0 a1 a2 a3 a4 a5 a6 k
  obtain ⟨ih0, ih1, ih2⟩ := impl_Counted.mono_l k
  unfold impl_Counted.f
  repeat' first
      | (with_reducible exact ih0 _ _ _ _ _ _ _ _)
      | (with_reducible exact ih1 _ _ _ _ _ _ _ _ _ _ _ _)
      | (with_reducible exact ih2 _ _ _ _ _ _ _ _ _ _ _ _ _ _ _)
      | (with_reducible exact impl_SpellsOk.mono _ _)
      | (with_reducible exact LeO.refl _)
      | (with_reducible exact LeO.none _)
      | (with_reducible refine LeO.ite ?_ ?_)
      | (with_reducible refine LeO.bind ?_ (fun _ => ?_))
      | exact ih0 _ _ _ _ _ _ _ _
      | exact ih1 _ _ _ _ _ _ _ _ _ _ _ _
      | exact ih2 _ _ _ _ _ _ _ _ _ _ _ _ _ _ _
      | exact impl_SpellsOk.mono _ _
      | exact LeO.none _
      | refine LeO.ite ?_ ?_
      | refine LeO.bind ?_ (fun _ => ?_)
set_option maxHeartbeats 8000000 in
set_option maxRecDepth 100000 in
theorem impl_Counted.calls (k : Nat) (a0_0 : Int) (a0_1 : Int) (a0_2 : Int) (a0_3 : Int) (a1 : Int) (a2 : Int) (A3 : Option Addr) (c3 : Nat) (l3 : List (S42)) (r1 : Int) (r2 : Int) (r3 : Int) (r4 : Bool) (w : World) (hr3 : Kd.C k42 w A3 l3.length l3) (hc3 : l3.length ≤ c3) (h : impl_Counted.f k a0_0 a0_1 a0_2 a0_3 a1 a2 l3 = some (r1, r2, r3, r4)) :
    Calls Try.prog 13 #[.agg #[.int .i64 a0_0, .int .i64 a0_1, .int .i64 a0_2, .int .i64 a0_3], .int .i64 a1, .int .i64 a2, .slice A3 l3.length c3] w fun e w' => e = .returned (.tuple #[.agg #[.int .i64 r1, .int .i64 r2, .int .i64 r3], .bool r4]) ∧ Below w.heap.size w w' := by
  have hu29 := Try.underlying29
  have hu37 := Try.underlying37
  have hu42 := Try.underlying42
  have HR3 := Aside0.mk hr3
  have HC3 := Aside0.mk hc3
  clear hr3 hc3
  have HB := Aside0.mk (Below.refl w.heap.size w)
  have H : ((impl_CharterOk.f a0_0 a0_1 a0_2 a0_3).bind fun t293 => (if t293 = true then ((impl_minuteOk.f a1).bind fun t294 => (if t294 = true then ((impl_minuteOk.f a2).bind fun t295 => (if t295 = true then (if a1 > a2 then (impl_Counted.j0 k a1 a2 l3 true a0_0 a0_1 a0_2 a0_3) else ((impl_SpellsOk.f k l3).bind fun t296 => (impl_Counted.j0 k a1 a2 l3 (!t296) a0_0 a0_1 a0_2 a0_3))) else (impl_Counted.j0 k a1 a2 l3 true a0_0 a0_1 a0_2 a0_3))) else (impl_Counted.j0 k a1 a2 l3 true a0_0 a0_1 a0_2 a0_3))) else (impl_Counted.j0 k a1 a2 l3 true a0_0 a0_1 a0_2 a0_3))) = some (r1, r2, r3, r4) := h
  clear h
  have HC5 := Aside0.mk H
  clear H
  go_enter Try.func13, Try.ntmps13
  go_upto_region 1 with (first | ((with_reducible refine gate_dst (N := 4) rfl ?_); refine box_event ?hg (N := 4) ?hd (cs := #[.int .i64 a0_0, .int .i64 a0_1, .int .i64 a0_2, .int .i64 a0_3]) (t := 29) ?hr ?_; (case hd => rfl); (case hg => rfl); (case hr => first | (go_simp; done) | (go_simp; rfl)); intro gb291 hg w6 hbox hb; have n0_ := Aside0.mk (below_step (by repeat (first | (with_reducible first | exact HB.out | apply below_alloc | apply pw_below_drewN | apply below_drew1) | exact HB.out)) hb); have n1_ := Aside0.mk (hbox); have n2_ := Aside0.mk ((by rw [hg]; exact (below_size (by repeat (first | (with_reducible first | exact HB.out | apply below_alloc | apply pw_below_drewN | apply below_drew1) | exact HB.out))) : w.heap.size ≤ gb291)); have n3_ := Aside0.mk ((by rw [hg]; exact (below_size (by repeat (first | (with_reducible first | exact HB.out | apply below_alloc | apply pw_below_drewN | apply below_drew1) | exact HB.out))) : w.heap.size ≤ gb291)); clear HB; have HB := n0_; have BK291 := n1_; have GW291 := n2_; have GE291 := n3_; clear n0_ n1_ n2_ n3_; clear hb hbox hg) | ((with_reducible refine gate_dst (N := 8) rfl ?_); refine box_event ?hg (N := 8) ?hd (cs := #[.int .i64 0, .int .i64 0, .int .i64 0]) (t := 37) ?hr ?_; (case hd => rfl); (case hg => rfl); (case hr => first | (go_simp; done) | (go_simp; rfl)); intro gb292 hg w7 hbox hb; have n0_ := Aside0.mk (blk_below (g := gb291) (o := .cells #[.int .i64 a0_0, .int .i64 a0_1, .int .i64 a0_2, .int .i64 a0_3] 29 (0, 0)) (by (with_reducible repeat (first | refine blk_drewN ?_ _ | refine blk_drew ?_ | refine blk_alloc ?_ _)); exact BK291.out) hb); have n1_ := Aside0.mk (below_step (by repeat (first | (with_reducible first | exact HB.out | apply below_alloc | apply pw_below_drewN | apply below_drew1 | refine below_set ?_ GE291.out) | exact HB.out)) hb); have n2_ := Aside0.mk (hbox); have n3_ := Aside0.mk ((by rw [hg]; exact (below_size (by repeat (first | (with_reducible first | exact HB.out | apply below_alloc | apply pw_below_drewN | apply below_drew1 | refine below_set ?_ GE291.out) | exact HB.out))) : w.heap.size ≤ gb292)); have n4_ := Aside0.mk ((by rw [hg]; exact (below_size (by repeat (first | (with_reducible first | exact HB.out | apply below_alloc | apply pw_below_drewN | apply below_drew1 | refine below_set ?_ GE291.out) | exact HB.out))) : w.heap.size ≤ gb292)); have n5_ := Aside0.mk ((by rw [hg]; exact Nat.ne_of_lt (blk_lt (g := gb291) (o := .cells #[.int .i64 a0_0, .int .i64 a0_1, .int .i64 a0_2, .int .i64 a0_3] 29 (0, 0)) (by (with_reducible repeat (first | refine blk_drewN ?_ _ | refine blk_drew ?_ | refine blk_alloc ?_ _)); exact BK291.out)) : gb291 ≠ gb292)); have n6_ := Aside0.mk ((by rw [hg]; exact Nat.ne_of_gt (blk_lt (g := gb291) (o := .cells #[.int .i64 a0_0, .int .i64 a0_1, .int .i64 a0_2, .int .i64 a0_3] 29 (0, 0)) (by (with_reducible repeat (first | refine blk_drewN ?_ _ | refine blk_drew ?_ | refine blk_alloc ?_ _)); exact BK291.out)) : gb292 ≠ gb291)); clear BK291; clear HB; have BK291 := n0_; have HB := n1_; have BK292 := n2_; have GW292 := n3_; have GE292 := n4_; have NB291_292 := n5_; have NB292_291 := n6_; clear n0_ n1_ n2_ n3_ n4_ n5_ n6_; clear hb hbox hg))
  (try simp only [Act.put, List.setIfInBounds_toArray, List.set_cons_zero, List.set_cons_succ])
  go_cut [38] (fun v38 wc => ∃ (kq : Nat) (x38_4 : Bool), v38 = .bool x38_4 ∧ Aside0 (impl_Counted.j0 kq a1 a2 l3 x38_4 a0_0 a0_1 a0_2 a0_3 = some (r1, r2, r3, r4)) ∧ Aside0 (kq ≤ k) ∧ Aside0 (wc.heap[gb291]? = some (.cells #[.int .i64 a0_0, .int .i64 a0_1, .int .i64 a0_2, .int .i64 a0_3] 29 (0, 0))) ∧ Aside0 (wc.heap[gb292]? = some (.cells #[.int .i64 0, .int .i64 0, .int .i64 0] 37 (0, 0))) ∧ Aside0 (Below w.heap.size w wc))
  case first =>
    have H := HC5.out
    clear HC5
    replace H := Option.bind_eq_some_iff.mp H
    obtain ⟨t293, A80, H⟩ := H
    replace H : (if t293 = true then ((impl_minuteOk.f a1).bind fun t294 => (if t294 = true then ((impl_minuteOk.f a2).bind fun t295 => (if t295 = true then (if a1 > a2 then (impl_Counted.j0 k a1 a2 l3 true a0_0 a0_1 a0_2 a0_3) else ((impl_SpellsOk.f k l3).bind fun t296 => (impl_Counted.j0 k a1 a2 l3 (!t296) a0_0 a0_1 a0_2 a0_3))) else (impl_Counted.j0 k a1 a2 l3 true a0_0 a0_1 a0_2 a0_3))) else (impl_Counted.j0 k a1 a2 l3 true a0_0 a0_1 a0_2 a0_3))) else (impl_Counted.j0 k a1 a2 l3 true a0_0 a0_1 a0_2 a0_3)) = some (r1, r2, r3, r4) := H
    have A8 := Aside0.mk A80
    clear A80
    by_cases c9 : t293 = true
    · subst c9
      have H1 : ((impl_minuteOk.f a1).bind fun t294 => (if t294 = true then ((impl_minuteOk.f a2).bind fun t295 => (if t295 = true then (if a1 > a2 then (impl_Counted.j0 k a1 a2 l3 true a0_0 a0_1 a0_2 a0_3) else ((impl_SpellsOk.f k l3).bind fun t296 => (impl_Counted.j0 k a1 a2 l3 (!t296) a0_0 a0_1 a0_2 a0_3))) else (impl_Counted.j0 k a1 a2 l3 true a0_0 a0_1 a0_2 a0_3))) else (impl_Counted.j0 k a1 a2 l3 true a0_0 a0_1 a0_2 a0_3))) = some (r1, r2, r3, r4) := by rw [if_pos rfl] at H; exact H
      clear H
      have H := H1
      clear H1
      replace H := Option.bind_eq_some_iff.mp H
      obtain ⟨t294, A100, H⟩ := H
      replace H : (if t294 = true then ((impl_minuteOk.f a2).bind fun t295 => (if t295 = true then (if a1 > a2 then (impl_Counted.j0 k a1 a2 l3 true a0_0 a0_1 a0_2 a0_3) else ((impl_SpellsOk.f k l3).bind fun t296 => (impl_Counted.j0 k a1 a2 l3 (!t296) a0_0 a0_1 a0_2 a0_3))) else (impl_Counted.j0 k a1 a2 l3 true a0_0 a0_1 a0_2 a0_3))) else (impl_Counted.j0 k a1 a2 l3 true a0_0 a0_1 a0_2 a0_3)) = some (r1, r2, r3, r4) := H
      have A10 := Aside0.mk A100
      clear A100
      by_cases c11 : t294 = true
      · subst c11
        have H1 : ((impl_minuteOk.f a2).bind fun t295 => (if t295 = true then (if a1 > a2 then (impl_Counted.j0 k a1 a2 l3 true a0_0 a0_1 a0_2 a0_3) else ((impl_SpellsOk.f k l3).bind fun t296 => (impl_Counted.j0 k a1 a2 l3 (!t296) a0_0 a0_1 a0_2 a0_3))) else (impl_Counted.j0 k a1 a2 l3 true a0_0 a0_1 a0_2 a0_3))) = some (r1, r2, r3, r4) := by rw [if_pos rfl] at H; exact H
        clear H
        have H := H1
        clear H1
        replace H := Option.bind_eq_some_iff.mp H
        obtain ⟨t295, A120, H⟩ := H
        replace H : (if t295 = true then (if a1 > a2 then (impl_Counted.j0 k a1 a2 l3 true a0_0 a0_1 a0_2 a0_3) else ((impl_SpellsOk.f k l3).bind fun t296 => (impl_Counted.j0 k a1 a2 l3 (!t296) a0_0 a0_1 a0_2 a0_3))) else (impl_Counted.j0 k a1 a2 l3 true a0_0 a0_1 a0_2 a0_3)) = some (r1, r2, r3, r4) := H
        have A12 := Aside0.mk A120
        clear A120
        by_cases c13 : t295 = true
        · subst c13
          have H1 : (if a1 > a2 then (impl_Counted.j0 k a1 a2 l3 true a0_0 a0_1 a0_2 a0_3) else ((impl_SpellsOk.f k l3).bind fun t296 => (impl_Counted.j0 k a1 a2 l3 (!t296) a0_0 a0_1 a0_2 a0_3))) = some (r1, r2, r3, r4) := by rw [if_pos rfl] at H; exact H
          clear H
          have H := H1
          clear H1
          by_cases c14 : a1 > a2
          · rw [if_pos c14] at H
            have c14b0 : decide (a2 < a1) = true := decide_eq_true c14
            clear c14
            (first | rw [c14b0] | (simp only [i64_w, i32_w]; rw [c14b0]) | skip)
            have H' := Aside0.mk H
            clear H
            have hnb15 := NB291_292.out
            have hnc15 := NB292_291.out
            have hcz16_0 : w7.cell? ⟨gb291, 0, none⟩ = some (.int .i64 a0_0) := (blk_cell BK291.out 0).trans rfl
            have hcz16_1 : w7.cell? ⟨gb291, 1, none⟩ = some (.int .i64 a0_1) := (blk_cell BK291.out 1).trans rfl
            have hcz16_2 : w7.cell? ⟨gb291, 2, none⟩ = some (.int .i64 a0_2) := (blk_cell BK291.out 2).trans rfl
            have hcz16_3 : w7.cell? ⟨gb291, 3, none⟩ = some (.int .i64 a0_3) := (blk_cell BK291.out 3).trans rfl
            have hfz16_0 := blk_frozen BK291.out 0
            have hfz16_1 := blk_frozen BK291.out 1
            have hfz16_2 := blk_frozen BK291.out 2
            have hfz16_3 := blk_frozen BK291.out 3
            go_wp2_with (first | ((with_reducible refine gate_callee (f := 12) rfl ?_); refine goesL_ (some 17) rfl rfl Try.func12 (by kernel_rfl) rfl #[.agg #[.int .i64 a0_0, .int .i64 a0_1, .int .i64 a0_2, .int .i64 a0_3]] rfl (by (try simp only [List.map_toArray, List.map_cons, List.map_nil]); first | done | rfl | (simp only [List.length_drop, List.length_take]; rfl)) ?_; (with_reducible refine (impl_CharterOk.calls a0_0 a0_1 a0_2 a0_3 true _ A8.out).mono ?_); rintro e w17 ⟨rfl, hb⟩; refine ⟨_, rfl, ?_⟩; have n0_ := Aside0.mk (blk_below (g := gb291) (o := .cells #[.int .i64 a0_0, .int .i64 a0_1, .int .i64 a0_2, .int .i64 a0_3] 29 (0, 0)) (by (with_reducible repeat (first | refine blk_drewN ?_ _ | refine blk_drew ?_ | refine blk_alloc ?_ _)); exact BK291.out) hb); have n1_ := Aside0.mk (blk_below (g := gb292) (o := .cells #[.int .i64 0, .int .i64 0, .int .i64 0] 37 (0, 0)) (by (with_reducible repeat (first | refine blk_drewN ?_ _ | refine blk_drew ?_ | refine blk_alloc ?_ _)); exact BK292.out) hb); have n2_ := Aside0.mk (below_step (by repeat (first | (with_reducible first | exact HB.out | apply below_alloc | apply pw_below_drewN | apply below_drew1 | refine below_set ?_ GE291.out | refine below_set ?_ GE292.out) | exact HB.out)) hb); clear BK291; clear BK292; clear HB; have BK291 := n0_; have BK292 := n1_; have HB := n2_; clear n0_ n1_ n2_; (try clear hb); (try clear hb2); (try clear hk); (try clear hi)) | (go_at_call 33; (with_reducible refine (impl_minuteOk.calls a1 true _ A10.out).mono ?_); rintro e w' ⟨rfl, ⟨nd, rfl⟩⟩) | (go_at_call 33; (with_reducible refine (impl_minuteOk.calls a2 true _ A12.out).mono ?_); rintro e w' ⟨rfl, ⟨nd, rfl⟩⟩))
            go_meet
            case rel => exact ⟨_, (true), (by first | rfl | (simp; done) | (simp [*]; done) | (simp [wrap64]; done)), H', ⟨by first | omega | exact Nat.le_refl _⟩, ⟨by (with_reducible repeat (first | refine blk_drewN ?_ _ | refine blk_drew ?_ | refine blk_alloc ?_ _)); exact BK291.out⟩, ⟨by (with_reducible repeat (first | refine blk_drewN ?_ _ | refine blk_drew ?_ | refine blk_alloc ?_ _)); exact BK292.out⟩, ⟨by repeat (first | (with_reducible first | exact HB.out | apply below_alloc | apply pw_below_drewN | apply below_drew1 | refine below_set ?_ GE291.out | refine below_set ?_ GE292.out) | exact HB.out)⟩⟩
          · rw [if_neg c14] at H
            have c14b0 : decide (a2 < a1) = false := decide_eq_false c14
            clear c14
            (first | rw [c14b0] | (simp only [i64_w, i32_w]; rw [c14b0]) | skip)
            replace H := Option.bind_eq_some_iff.mp H
            obtain ⟨t296, A180, H⟩ := H
            replace H : (impl_Counted.j0 k a1 a2 l3 (!t296) a0_0 a0_1 a0_2 a0_3) = some (r1, r2, r3, r4) := H
            have A18 := Aside0.mk A180
            clear A180
            have H' := Aside0.mk H
            clear H
            have hnb19 := NB291_292.out
            have hnc19 := NB292_291.out
            have hcz20_0 : w7.cell? ⟨gb291, 0, none⟩ = some (.int .i64 a0_0) := (blk_cell BK291.out 0).trans rfl
            have hcz20_1 : w7.cell? ⟨gb291, 1, none⟩ = some (.int .i64 a0_1) := (blk_cell BK291.out 1).trans rfl
            have hcz20_2 : w7.cell? ⟨gb291, 2, none⟩ = some (.int .i64 a0_2) := (blk_cell BK291.out 2).trans rfl
            have hcz20_3 : w7.cell? ⟨gb291, 3, none⟩ = some (.int .i64 a0_3) := (blk_cell BK291.out 3).trans rfl
            have hfz20_0 := blk_frozen BK291.out 0
            have hfz20_1 := blk_frozen BK291.out 1
            have hfz20_2 := blk_frozen BK291.out 2
            have hfz20_3 := blk_frozen BK291.out 3
            go_wp2_with (first | ((with_reducible refine gate_callee (f := 12) rfl ?_); refine goesL_ (some 17) rfl rfl Try.func12 (by kernel_rfl) rfl #[.agg #[.int .i64 a0_0, .int .i64 a0_1, .int .i64 a0_2, .int .i64 a0_3]] rfl (by (try simp only [List.map_toArray, List.map_cons, List.map_nil]); first | done | rfl | (simp only [List.length_drop, List.length_take]; rfl)) ?_; (with_reducible refine (impl_CharterOk.calls a0_0 a0_1 a0_2 a0_3 true _ A8.out).mono ?_); rintro e w21 ⟨rfl, hb⟩; refine ⟨_, rfl, ?_⟩; have n0_ := Aside0.mk (blk_below (g := gb291) (o := .cells #[.int .i64 a0_0, .int .i64 a0_1, .int .i64 a0_2, .int .i64 a0_3] 29 (0, 0)) (by (with_reducible repeat (first | refine blk_drewN ?_ _ | refine blk_drew ?_ | refine blk_alloc ?_ _)); exact BK291.out) hb); have n1_ := Aside0.mk (blk_below (g := gb292) (o := .cells #[.int .i64 0, .int .i64 0, .int .i64 0] 37 (0, 0)) (by (with_reducible repeat (first | refine blk_drewN ?_ _ | refine blk_drew ?_ | refine blk_alloc ?_ _)); exact BK292.out) hb); have n2_ := Aside0.mk (below_step (by repeat (first | (with_reducible first | exact HB.out | apply below_alloc | apply pw_below_drewN | apply below_drew1 | refine below_set ?_ GE291.out | refine below_set ?_ GE292.out) | exact HB.out)) hb); clear BK291; clear BK292; clear HB; have BK291 := n0_; have BK292 := n1_; have HB := n2_; clear n0_ n1_ n2_; (try clear hb); (try clear hb2); (try clear hk); (try clear hi)) | (go_at_call 33; (with_reducible refine (impl_minuteOk.calls a1 true _ A10.out).mono ?_); rintro e w' ⟨rfl, ⟨nd, rfl⟩⟩) | (go_at_call 33; (with_reducible refine (impl_minuteOk.calls a2 true _ A12.out).mono ?_); rintro e w' ⟨rfl, ⟨nd, rfl⟩⟩) | (go_at_call 34; (with_reducible refine (impl_SpellsOk.calls k _ _ l3 t296 _ ?side1 ?side2 A18.out).mono ?_); (case side1 => repeat (first | exact (Kd.C_below HR3.out (by repeat (first | (with_reducible first | exact HB.out | apply below_alloc | apply pw_below_drewN | apply below_drew1 | refine below_set ?_ GE291.out | refine below_set ?_ GE292.out) | exact HB.out))) | (with_reducible refine Kd.C_alloc ?_ _) | (with_reducible refine Kd.C_drewN ?_ _) | (with_reducible refine Kd.C_drew ?_))); (case side2 => exact HC3.out); rintro e w22 ⟨rfl, hb⟩; have n0_ := Aside0.mk (blk_below (g := gb291) (o := .cells #[.int .i64 a0_0, .int .i64 a0_1, .int .i64 a0_2, .int .i64 a0_3] 29 (0, 0)) (by (with_reducible repeat (first | refine blk_drewN ?_ _ | refine blk_drew ?_ | refine blk_alloc ?_ _)); exact BK291.out) hb); have n1_ := Aside0.mk (blk_below (g := gb292) (o := .cells #[.int .i64 0, .int .i64 0, .int .i64 0] 37 (0, 0)) (by (with_reducible repeat (first | refine blk_drewN ?_ _ | refine blk_drew ?_ | refine blk_alloc ?_ _)); exact BK292.out) hb); have n2_ := Aside0.mk (below_step (by repeat (first | (with_reducible first | exact HB.out | apply below_alloc | apply pw_below_drewN | apply below_drew1 | refine below_set ?_ GE291.out | refine below_set ?_ GE292.out) | exact HB.out)) hb); clear BK291; clear BK292; clear HB; have BK291 := n0_; have BK292 := n1_; have HB := n2_; clear n0_ n1_ n2_; (try clear hb); (try clear hb2); (try clear hk); (try clear hi)))
            go_meet
            case rel => exact ⟨_, (!t296), (by first | rfl | (simp; done) | (simp [*]; done) | (simp [wrap64]; done)), H', ⟨by first | omega | exact Nat.le_refl _⟩, ⟨by (with_reducible repeat (first | refine blk_drewN ?_ _ | refine blk_drew ?_ | refine blk_alloc ?_ _)); exact BK291.out⟩, ⟨by (with_reducible repeat (first | refine blk_drewN ?_ _ | refine blk_drew ?_ | refine blk_alloc ?_ _)); exact BK292.out⟩, ⟨by repeat (first | (with_reducible first | exact HB.out | apply below_alloc | apply pw_below_drewN | apply below_drew1 | refine below_set ?_ GE291.out | refine below_set ?_ GE292.out) | exact HB.out)⟩⟩
        · replace c13 := Bool.eq_false_iff.mpr c13
          subst c13
          have H1 : (impl_Counted.j0 k a1 a2 l3 true a0_0 a0_1 a0_2 a0_3) = some (r1, r2, r3, r4) := by rw [if_neg (show ¬ (false = true) by decide)] at H; exact H
          clear H
          have H := H1
          clear H1
          have H' := Aside0.mk H
          clear H
          have hnb23 := NB291_292.out
          have hnc23 := NB292_291.out
          have hcz24_0 : w7.cell? ⟨gb291, 0, none⟩ = some (.int .i64 a0_0) := (blk_cell BK291.out 0).trans rfl
          have hcz24_1 : w7.cell? ⟨gb291, 1, none⟩ = some (.int .i64 a0_1) := (blk_cell BK291.out 1).trans rfl
          have hcz24_2 : w7.cell? ⟨gb291, 2, none⟩ = some (.int .i64 a0_2) := (blk_cell BK291.out 2).trans rfl
          have hcz24_3 : w7.cell? ⟨gb291, 3, none⟩ = some (.int .i64 a0_3) := (blk_cell BK291.out 3).trans rfl
          have hfz24_0 := blk_frozen BK291.out 0
          have hfz24_1 := blk_frozen BK291.out 1
          have hfz24_2 := blk_frozen BK291.out 2
          have hfz24_3 := blk_frozen BK291.out 3
          go_wp2_with (first | ((with_reducible refine gate_callee (f := 12) rfl ?_); refine goesL_ (some 17) rfl rfl Try.func12 (by kernel_rfl) rfl #[.agg #[.int .i64 a0_0, .int .i64 a0_1, .int .i64 a0_2, .int .i64 a0_3]] rfl (by (try simp only [List.map_toArray, List.map_cons, List.map_nil]); first | done | rfl | (simp only [List.length_drop, List.length_take]; rfl)) ?_; (with_reducible refine (impl_CharterOk.calls a0_0 a0_1 a0_2 a0_3 true _ A8.out).mono ?_); rintro e w25 ⟨rfl, hb⟩; refine ⟨_, rfl, ?_⟩; have n0_ := Aside0.mk (blk_below (g := gb291) (o := .cells #[.int .i64 a0_0, .int .i64 a0_1, .int .i64 a0_2, .int .i64 a0_3] 29 (0, 0)) (by (with_reducible repeat (first | refine blk_drewN ?_ _ | refine blk_drew ?_ | refine blk_alloc ?_ _)); exact BK291.out) hb); have n1_ := Aside0.mk (blk_below (g := gb292) (o := .cells #[.int .i64 0, .int .i64 0, .int .i64 0] 37 (0, 0)) (by (with_reducible repeat (first | refine blk_drewN ?_ _ | refine blk_drew ?_ | refine blk_alloc ?_ _)); exact BK292.out) hb); have n2_ := Aside0.mk (below_step (by repeat (first | (with_reducible first | exact HB.out | apply below_alloc | apply pw_below_drewN | apply below_drew1 | refine below_set ?_ GE291.out | refine below_set ?_ GE292.out) | exact HB.out)) hb); clear BK291; clear BK292; clear HB; have BK291 := n0_; have BK292 := n1_; have HB := n2_; clear n0_ n1_ n2_; (try clear hb); (try clear hb2); (try clear hk); (try clear hi)) | (go_at_call 33; (with_reducible refine (impl_minuteOk.calls a1 true _ A10.out).mono ?_); rintro e w' ⟨rfl, ⟨nd, rfl⟩⟩) | (go_at_call 33; (with_reducible refine (impl_minuteOk.calls a2 false _ A12.out).mono ?_); rintro e w' ⟨rfl, ⟨nd, rfl⟩⟩))
          go_meet
          case rel => exact ⟨_, (true), (by first | rfl | (simp; done) | (simp [*]; done) | (simp [wrap64]; done)), H', ⟨by first | omega | exact Nat.le_refl _⟩, ⟨by (with_reducible repeat (first | refine blk_drewN ?_ _ | refine blk_drew ?_ | refine blk_alloc ?_ _)); exact BK291.out⟩, ⟨by (with_reducible repeat (first | refine blk_drewN ?_ _ | refine blk_drew ?_ | refine blk_alloc ?_ _)); exact BK292.out⟩, ⟨by repeat (first | (with_reducible first | exact HB.out | apply below_alloc | apply pw_below_drewN | apply below_drew1 | refine below_set ?_ GE291.out | refine below_set ?_ GE292.out) | exact HB.out)⟩⟩
      · replace c11 := Bool.eq_false_iff.mpr c11
        subst c11
        have H1 : (impl_Counted.j0 k a1 a2 l3 true a0_0 a0_1 a0_2 a0_3) = some (r1, r2, r3, r4) := by rw [if_neg (show ¬ (false = true) by decide)] at H; exact H
        clear H
        have H := H1
        clear H1
        have H' := Aside0.mk H
        clear H
        have hnb26 := NB291_292.out
        have hnc26 := NB292_291.out
        have hcz27_0 : w7.cell? ⟨gb291, 0, none⟩ = some (.int .i64 a0_0) := (blk_cell BK291.out 0).trans rfl
        have hcz27_1 : w7.cell? ⟨gb291, 1, none⟩ = some (.int .i64 a0_1) := (blk_cell BK291.out 1).trans rfl
        have hcz27_2 : w7.cell? ⟨gb291, 2, none⟩ = some (.int .i64 a0_2) := (blk_cell BK291.out 2).trans rfl
        have hcz27_3 : w7.cell? ⟨gb291, 3, none⟩ = some (.int .i64 a0_3) := (blk_cell BK291.out 3).trans rfl
        have hfz27_0 := blk_frozen BK291.out 0
        have hfz27_1 := blk_frozen BK291.out 1
        have hfz27_2 := blk_frozen BK291.out 2
        have hfz27_3 := blk_frozen BK291.out 3
        go_wp2_with (first | ((with_reducible refine gate_callee (f := 12) rfl ?_); refine goesL_ (some 17) rfl rfl Try.func12 (by kernel_rfl) rfl #[.agg #[.int .i64 a0_0, .int .i64 a0_1, .int .i64 a0_2, .int .i64 a0_3]] rfl (by (try simp only [List.map_toArray, List.map_cons, List.map_nil]); first | done | rfl | (simp only [List.length_drop, List.length_take]; rfl)) ?_; (with_reducible refine (impl_CharterOk.calls a0_0 a0_1 a0_2 a0_3 true _ A8.out).mono ?_); rintro e w28 ⟨rfl, hb⟩; refine ⟨_, rfl, ?_⟩; have n0_ := Aside0.mk (blk_below (g := gb291) (o := .cells #[.int .i64 a0_0, .int .i64 a0_1, .int .i64 a0_2, .int .i64 a0_3] 29 (0, 0)) (by (with_reducible repeat (first | refine blk_drewN ?_ _ | refine blk_drew ?_ | refine blk_alloc ?_ _)); exact BK291.out) hb); have n1_ := Aside0.mk (blk_below (g := gb292) (o := .cells #[.int .i64 0, .int .i64 0, .int .i64 0] 37 (0, 0)) (by (with_reducible repeat (first | refine blk_drewN ?_ _ | refine blk_drew ?_ | refine blk_alloc ?_ _)); exact BK292.out) hb); have n2_ := Aside0.mk (below_step (by repeat (first | (with_reducible first | exact HB.out | apply below_alloc | apply pw_below_drewN | apply below_drew1 | refine below_set ?_ GE291.out | refine below_set ?_ GE292.out) | exact HB.out)) hb); clear BK291; clear BK292; clear HB; have BK291 := n0_; have BK292 := n1_; have HB := n2_; clear n0_ n1_ n2_; (try clear hb); (try clear hb2); (try clear hk); (try clear hi)) | (go_at_call 33; (with_reducible refine (impl_minuteOk.calls a1 false _ A10.out).mono ?_); rintro e w' ⟨rfl, ⟨nd, rfl⟩⟩))
        go_meet
        case rel => exact ⟨_, (true), (by first | rfl | (simp; done) | (simp [*]; done) | (simp [wrap64]; done)), H', ⟨by first | omega | exact Nat.le_refl _⟩, ⟨by (with_reducible repeat (first | refine blk_drewN ?_ _ | refine blk_drew ?_ | refine blk_alloc ?_ _)); exact BK291.out⟩, ⟨by (with_reducible repeat (first | refine blk_drewN ?_ _ | refine blk_drew ?_ | refine blk_alloc ?_ _)); exact BK292.out⟩, ⟨by repeat (first | (with_reducible first | exact HB.out | apply below_alloc | apply pw_below_drewN | apply below_drew1 | refine below_set ?_ GE291.out | refine below_set ?_ GE292.out) | exact HB.out)⟩⟩
    · replace c9 := Bool.eq_false_iff.mpr c9
      subst c9
      have H1 : (impl_Counted.j0 k a1 a2 l3 true a0_0 a0_1 a0_2 a0_3) = some (r1, r2, r3, r4) := by rw [if_neg (show ¬ (false = true) by decide)] at H; exact H
      clear H
      have H := H1
      clear H1
      have H' := Aside0.mk H
      clear H
      have hnb29 := NB291_292.out
      have hnc29 := NB292_291.out
      have hcz30_0 : w7.cell? ⟨gb291, 0, none⟩ = some (.int .i64 a0_0) := (blk_cell BK291.out 0).trans rfl
      have hcz30_1 : w7.cell? ⟨gb291, 1, none⟩ = some (.int .i64 a0_1) := (blk_cell BK291.out 1).trans rfl
      have hcz30_2 : w7.cell? ⟨gb291, 2, none⟩ = some (.int .i64 a0_2) := (blk_cell BK291.out 2).trans rfl
      have hcz30_3 : w7.cell? ⟨gb291, 3, none⟩ = some (.int .i64 a0_3) := (blk_cell BK291.out 3).trans rfl
      have hfz30_0 := blk_frozen BK291.out 0
      have hfz30_1 := blk_frozen BK291.out 1
      have hfz30_2 := blk_frozen BK291.out 2
      have hfz30_3 := blk_frozen BK291.out 3
      go_wp2_with (first | ((with_reducible refine gate_callee (f := 12) rfl ?_); refine goesL_ (some 17) rfl rfl Try.func12 (by kernel_rfl) rfl #[.agg #[.int .i64 a0_0, .int .i64 a0_1, .int .i64 a0_2, .int .i64 a0_3]] rfl (by (try simp only [List.map_toArray, List.map_cons, List.map_nil]); first | done | rfl | (simp only [List.length_drop, List.length_take]; rfl)) ?_; (with_reducible refine (impl_CharterOk.calls a0_0 a0_1 a0_2 a0_3 false _ A8.out).mono ?_); rintro e w31 ⟨rfl, hb⟩; refine ⟨_, rfl, ?_⟩; have n0_ := Aside0.mk (blk_below (g := gb291) (o := .cells #[.int .i64 a0_0, .int .i64 a0_1, .int .i64 a0_2, .int .i64 a0_3] 29 (0, 0)) (by (with_reducible repeat (first | refine blk_drewN ?_ _ | refine blk_drew ?_ | refine blk_alloc ?_ _)); exact BK291.out) hb); have n1_ := Aside0.mk (blk_below (g := gb292) (o := .cells #[.int .i64 0, .int .i64 0, .int .i64 0] 37 (0, 0)) (by (with_reducible repeat (first | refine blk_drewN ?_ _ | refine blk_drew ?_ | refine blk_alloc ?_ _)); exact BK292.out) hb); have n2_ := Aside0.mk (below_step (by repeat (first | (with_reducible first | exact HB.out | apply below_alloc | apply pw_below_drewN | apply below_drew1 | refine below_set ?_ GE291.out | refine below_set ?_ GE292.out) | exact HB.out)) hb); clear BK291; clear BK292; clear HB; have BK291 := n0_; have BK292 := n1_; have HB := n2_; clear n0_ n1_ n2_; (try clear hb); (try clear hb2); (try clear hk); (try clear hi)))
      go_meet
      case rel => exact ⟨_, (true), (by first | rfl | (simp; done) | (simp [*]; done) | (simp [wrap64]; done)), H', ⟨by first | omega | exact Nat.le_refl _⟩, ⟨by (with_reducible repeat (first | refine blk_drewN ?_ _ | refine blk_drew ?_ | refine blk_alloc ?_ _)); exact BK291.out⟩, ⟨by (with_reducible repeat (first | refine blk_drewN ?_ _ | refine blk_drew ?_ | refine blk_alloc ?_ _)); exact BK292.out⟩, ⟨by repeat (first | (with_reducible first | exact HB.out | apply below_alloc | apply pw_below_drewN | apply below_drew1 | refine below_set ?_ GE291.out | refine below_set ?_ GE292.out) | exact HB.out)⟩⟩
  case rest =>
    clear HC5
    try clear c1
    try clear c2
    try clear p2
    try clear c3
    try clear p6
    try clear c9
    try clear c11
    try clear c12
    try clear c13
    try clear c14
    try clear c14b0
    try clear c15
    try clear c19
    try clear c23
    try clear c26
    try clear c29
    try clear hcz16_0
    try clear hcz16_1
    try clear hcz16_2
    try clear hcz16_3
    try clear hcz20_0
    try clear hcz20_1
    try clear hcz20_2
    try clear hcz20_3
    try clear hcz24_0
    try clear hcz24_1
    try clear hcz24_2
    try clear hcz24_3
    try clear hcz27_0
    try clear hcz27_1
    try clear hcz27_2
    try clear hcz27_3
    try clear hcz30_0
    try clear hcz30_1
    try clear hcz30_2
    try clear hcz30_3
    try clear hfz16_0
    try clear hfz16_1
    try clear hfz16_2
    try clear hfz16_3
    try clear hfz20_0
    try clear hfz20_1
    try clear hfz20_2
    try clear hfz20_3
    try clear hfz24_0
    try clear hfz24_1
    try clear hfz24_2
    try clear hfz24_3
    try clear hfz27_0
    try clear hfz27_1
    try clear hfz27_2
    try clear hfz27_3
    try clear hfz30_0
    try clear hfz30_1
    try clear hfz30_2
    try clear hfz30_3
    obtain ⟨kq, x38_4, rfl, HA, HJ4, BK291, BK292, HB⟩ := hcut
    cases kq with
    | zero => exact absurd HA.out (by simp [impl_Counted.j0])
    | succ kj4 =>
      have H := HA.out
      clear HA
      simp only [impl_Counted.j0] at H
      by_cases c32 : x38_4 = true
      · subst c32
        have H1 : (some (0, 0, 0, false)) = some (r1, r2, r3, r4) := by rw [if_pos rfl] at H; exact H
        clear H
        have H := H1
        clear H1
        simp only [Option.some.injEq, Prod.mk.injEq] at H
        obtain ⟨rfl, rfl, rfl, rfl⟩ := H
        have hnb33 := NB292_291.out
        have hnc33 := NB291_292.out
        have hcz34_0 : wc.cell? ⟨gb292, 0, none⟩ = some (.int .i64 0) := (blk_cell BK292.out 0).trans rfl
        have hcz34_1 : wc.cell? ⟨gb292, 1, none⟩ = some (.int .i64 0) := (blk_cell BK292.out 1).trans rfl
        have hcz34_2 : wc.cell? ⟨gb292, 2, none⟩ = some (.int .i64 0) := (blk_cell BK292.out 2).trans rfl
        have hfz34_0 := blk_frozen BK292.out 0
        have hfz34_1 := blk_frozen BK292.out 1
        have hfz34_2 := blk_frozen BK292.out 2
        go_wp2
        refine bodyPost_ret (results_ct rfl _ _ gb292 37 #[.int .i64 0, .int .i64 0, .int .i64 0] (0, 0) _ rfl (by (with_reducible repeat (first | refine blk_drewN ?_ _ | refine blk_drew ?_ | refine blk_alloc ?_ _)); refine blk_put (cs := #[.int .i64 0, .int .i64 0, .int .i64 0]) ?_ 2 _ rfl; (with_reducible repeat (first | refine blk_drewN ?_ _ | refine blk_drew ?_ | refine blk_alloc ?_ _)); refine blk_put (cs := #[.int .i64 0, .int .i64 0, .int .i64 0]) ?_ 1 _ rfl; (with_reducible repeat (first | refine blk_drewN ?_ _ | refine blk_drew ?_ | refine blk_alloc ?_ _)); refine blk_put (cs := #[.int .i64 0, .int .i64 0, .int .i64 0]) ?_ 0 _ rfl; (with_reducible repeat (first | refine blk_drewN ?_ _ | refine blk_drew ?_ | refine blk_alloc ?_ _)); exact BK292.out) Try.underlying37 rfl (by kernel_rfl)) rfl ?_
        exact ⟨by first | rfl | (simp [errW_none, errW_some] <;> rfl) | (simp [*, errW_none, errW_some] <;> rfl), by repeat (first | (with_reducible first | exact HB.out | apply below_alloc | apply pw_below_drewN | apply below_drew1 | refine below_set ?_ GE291.out | refine below_set ?_ GE292.out) | exact HB.out)⟩
      · replace c32 := Bool.eq_false_iff.mpr c32
        subst c32
        have H1 : ((impl_Spell.f l3).bind fun t298 => (if t298.length < 8796093022208 then ((some (t298 ++ [(⟨a2, wrap64 (a2 + 1)⟩ : S42)] : List (S42))).bind fun y301 => (impl_Counted.l0 kj4 a2 a1 y301 (y301.length : Int) 0 a0_0 a0_1 a0_2 a0_3 0 0 (-1))) else (none))) = some (r1, r2, r3, r4) := by rw [if_neg (show ¬ (false = true) by decide)] at H; exact H
        clear H
        have H := H1
        clear H1
        replace H := Option.bind_eq_some_iff.mp H
        obtain ⟨t298, A350, H⟩ := H
        replace H : (if t298.length < 8796093022208 then ((some (t298 ++ [(⟨a2, wrap64 (a2 + 1)⟩ : S42)] : List (S42))).bind fun y301 => (impl_Counted.l0 kj4 a2 a1 y301 (y301.length : Int) 0 a0_0 a0_1 a0_2 a0_3 0 0 (-1))) else (none)) = some (r1, r2, r3, r4) := H
        have A35 := Aside0.mk A350
        clear A350
        by_cases c36 : t298.length < 8796093022208
        · rw [if_pos c36] at H
          have LMc36 := Aside0.mk c36
          clear c36
          obtain ⟨y301, hy301⟩ : ∃ y_ : List (S42), y_ = (t298 ++ [(⟨a2, wrap64 (a2 + 1)⟩ : S42)]) := ⟨_, rfl⟩
          replace H : (impl_Counted.l0 kj4 a2 a1 y301 (y301.length : Int) 0 a0_0 a0_1 a0_2 a0_3 0 0 (-1)) = some (r1, r2, r3, r4) := by first | (rw [hy301]; with_reducible exact H) | (have H2_ := (Option.bind_some _ _).symm.trans H; rw [hy301]; with_reducible exact H2_) | (have H2_ := (Option.bind_some _ _).symm.trans H; with_reducible exact H2_) | with_reducible exact H | (rw [hy301]; exact H) | exact H
          have Ny301 := Aside0.mk hy301
          clear hy301
          have H' := Aside0.mk H
          clear H
          go_wp2_with (first | ((with_reducible refine gate_dst (N := 10) rfl ?_); refine box_event ?hg (N := 10) ?hd (cs := #[.int .i64 0, .int .i64 0, .int .i64 0]) (t := 37) ?hr ?_; (case hd => rfl); (case hg => rfl); (case hr => first | (go_simp; done) | (go_simp; rfl)); intro gb297 hg w37 hbox hb; have n0_ := Aside0.mk (blk_below (g := gb291) (o := .cells #[.int .i64 a0_0, .int .i64 a0_1, .int .i64 a0_2, .int .i64 a0_3] 29 (0, 0)) (by (with_reducible repeat (first | refine blk_drewN ?_ _ | refine blk_drew ?_ | refine blk_alloc ?_ _)); exact BK291.out) hb); have n1_ := Aside0.mk (blk_below (g := gb292) (o := .cells #[.int .i64 0, .int .i64 0, .int .i64 0] 37 (0, 0)) (by (with_reducible repeat (first | refine blk_drewN ?_ _ | refine blk_drew ?_ | refine blk_alloc ?_ _)); exact BK292.out) hb); have n2_ := Aside0.mk (below_step (by repeat (first | (with_reducible first | exact HB.out | apply below_alloc | apply pw_below_drewN | apply below_drew1 | refine below_set ?_ GE291.out | refine below_set ?_ GE292.out) | exact HB.out)) hb); have n3_ := Aside0.mk (hbox); have n4_ := Aside0.mk ((by rw [hg]; exact (below_size (by repeat (first | (with_reducible first | exact HB.out | apply below_alloc | apply pw_below_drewN | apply below_drew1 | refine below_set ?_ GE291.out | refine below_set ?_ GE292.out) | exact HB.out))) : w.heap.size ≤ gb297)); have n5_ := Aside0.mk ((by rw [hg]; exact (below_size (by repeat (first | (with_reducible first | exact HB.out | apply below_alloc | apply pw_below_drewN | apply below_drew1 | refine below_set ?_ GE291.out | refine below_set ?_ GE292.out) | exact HB.out))) : w.heap.size ≤ gb297)); have n6_ := Aside0.mk ((by rw [hg]; exact Nat.ne_of_lt (blk_lt (g := gb291) (o := .cells #[.int .i64 a0_0, .int .i64 a0_1, .int .i64 a0_2, .int .i64 a0_3] 29 (0, 0)) (by (with_reducible repeat (first | refine blk_drewN ?_ _ | refine blk_drew ?_ | refine blk_alloc ?_ _)); exact BK291.out)) : gb291 ≠ gb297)); have n7_ := Aside0.mk ((by rw [hg]; exact Nat.ne_of_gt (blk_lt (g := gb291) (o := .cells #[.int .i64 a0_0, .int .i64 a0_1, .int .i64 a0_2, .int .i64 a0_3] 29 (0, 0)) (by (with_reducible repeat (first | refine blk_drewN ?_ _ | refine blk_drew ?_ | refine blk_alloc ?_ _)); exact BK291.out)) : gb297 ≠ gb291)); have n8_ := Aside0.mk ((by rw [hg]; exact Nat.ne_of_lt (blk_lt (g := gb292) (o := .cells #[.int .i64 0, .int .i64 0, .int .i64 0] 37 (0, 0)) (by (with_reducible repeat (first | refine blk_drewN ?_ _ | refine blk_drew ?_ | refine blk_alloc ?_ _)); exact BK292.out)) : gb292 ≠ gb297)); have n9_ := Aside0.mk ((by rw [hg]; exact Nat.ne_of_gt (blk_lt (g := gb292) (o := .cells #[.int .i64 0, .int .i64 0, .int .i64 0] 37 (0, 0)) (by (with_reducible repeat (first | refine blk_drewN ?_ _ | refine blk_drew ?_ | refine blk_alloc ?_ _)); exact BK292.out)) : gb297 ≠ gb292)); clear BK291; clear BK292; clear HB; have BK291 := n0_; have BK292 := n1_; have HB := n2_; have BK297 := n3_; have GW297 := n4_; have GE297 := n5_; have NB291_297 := n6_; have NB297_291 := n7_; have NB292_297 := n8_; have NB297_292 := n9_; clear n0_ n1_ n2_ n3_ n4_ n5_ n6_ n7_ n8_ n9_; clear hb hbox hg; have hnb38 := NB297_291.out; have hnc38 := NB291_297.out; have hnb39 := NB297_292.out; have hnc39 := NB292_297.out; have hcz40_0 : w37.cell? ⟨gb297, 0, none⟩ = some (.int .i64 0) := (blk_cell BK297.out 0).trans rfl; have hcz40_1 : w37.cell? ⟨gb297, 1, none⟩ = some (.int .i64 0) := (blk_cell BK297.out 1).trans rfl; have hcz40_2 : w37.cell? ⟨gb297, 2, none⟩ = some (.int .i64 0) := (blk_cell BK297.out 2).trans rfl; have hfz40_0 := blk_frozen BK297.out 0; have hfz40_1 := blk_frozen BK297.out 1; have hfz40_2 := blk_frozen BK297.out 2) | ((with_reducible refine gate_callee (f := 35) rfl ?_); refine goesL_ (some 43) rfl rfl Try.func35 (by kernel_rfl) rfl #[.slice A3 l3.length c3] rfl (by (try simp only [List.map_toArray, List.map_cons, List.map_nil]); first | done | rfl | (simp only [List.length_drop, List.length_take]; rfl)) ?_; (with_reducible refine (impl_Spell.calls _ _ l3 t298 _ ?side1 ?side2 A35.out).mono ?_); (case side1 => exact Kd.C_below HR3.out (by repeat (first | (with_reducible first | exact HB.out | apply below_alloc | apply pw_below_drewN | apply below_drew1 | refine below_set ?_ GE291.out | refine below_set ?_ GE292.out | refine below_set ?_ GE297.out) | exact HB.out))); (case side2 => exact HC3.out); rintro e w41 ⟨v299, rfl, ho0, hb⟩; refine ⟨_, rfl, ?_⟩; have n0_ := Aside0.mk (Kd.R_lower ho0 (below_size (by repeat (first | (with_reducible first | exact HB.out | apply below_alloc | apply pw_below_drewN | apply below_drew1 | refine below_set ?_ GE291.out | refine below_set ?_ GE292.out | refine below_set ?_ GE297.out) | exact HB.out)))); have n1_ := Aside0.mk (blk_below (g := gb291) (o := .cells #[.int .i64 a0_0, .int .i64 a0_1, .int .i64 a0_2, .int .i64 a0_3] 29 (0, 0)) (by (with_reducible repeat (first | refine blk_drewN ?_ _ | refine blk_drew ?_ | refine blk_alloc ?_ _)); refine blk_far ?_ NB291_297.out _; (with_reducible repeat (first | refine blk_drewN ?_ _ | refine blk_drew ?_ | refine blk_alloc ?_ _)); refine blk_far ?_ NB291_297.out _; (with_reducible repeat (first | refine blk_drewN ?_ _ | refine blk_drew ?_ | refine blk_alloc ?_ _)); refine blk_far ?_ NB291_297.out _; (with_reducible repeat (first | refine blk_drewN ?_ _ | refine blk_drew ?_ | refine blk_alloc ?_ _)); exact BK291.out) hb); have n2_ := Aside0.mk (blk_below (g := gb292) (o := .cells #[.int .i64 0, .int .i64 0, .int .i64 0] 37 (0, 0)) (by (with_reducible repeat (first | refine blk_drewN ?_ _ | refine blk_drew ?_ | refine blk_alloc ?_ _)); refine blk_far ?_ NB292_297.out _; (with_reducible repeat (first | refine blk_drewN ?_ _ | refine blk_drew ?_ | refine blk_alloc ?_ _)); refine blk_far ?_ NB292_297.out _; (with_reducible repeat (first | refine blk_drewN ?_ _ | refine blk_drew ?_ | refine blk_alloc ?_ _)); refine blk_far ?_ NB292_297.out _; (with_reducible repeat (first | refine blk_drewN ?_ _ | refine blk_drew ?_ | refine blk_alloc ?_ _)); exact BK292.out) hb); have n3_ := Aside0.mk (blk_below (g := gb297) (o := .cells #[.int .i64 0, .int .i64 0, .int .i64 (-1)] 37 (0, 0)) (by (with_reducible repeat (first | refine blk_drewN ?_ _ | refine blk_drew ?_ | refine blk_alloc ?_ _)); refine blk_put (cs := #[.int .i64 0, .int .i64 0, .int .i64 0]) ?_ 2 _ rfl; (with_reducible repeat (first | refine blk_drewN ?_ _ | refine blk_drew ?_ | refine blk_alloc ?_ _)); refine blk_put (cs := #[.int .i64 0, .int .i64 0, .int .i64 0]) ?_ 1 _ rfl; (with_reducible repeat (first | refine blk_drewN ?_ _ | refine blk_drew ?_ | refine blk_alloc ?_ _)); refine blk_put (cs := #[.int .i64 0, .int .i64 0, .int .i64 0]) ?_ 0 _ rfl; (with_reducible repeat (first | refine blk_drewN ?_ _ | refine blk_drew ?_ | refine blk_alloc ?_ _)); exact BK297.out) hb); have n4_ := Aside0.mk (below_step (by repeat (first | (with_reducible first | exact HB.out | apply below_alloc | apply pw_below_drewN | apply below_drew1 | refine below_set ?_ GE291.out | refine below_set ?_ GE292.out | refine below_set ?_ GE297.out) | exact HB.out)) hb); clear BK291; clear BK292; clear BK297; clear HB; have HO300 := n0_; have BK291 := n1_; have BK292 := n2_; have BK297 := n3_; have HB := n4_; clear n0_ n1_ n2_ n3_ n4_; (try clear hb); (try clear hb2); (try clear hk); (try clear hi); (try clear ho0)) | ((with_reducible refine gate_builtin (b := .append) (xs := #[.tmp 43, .tmp 48]) rfl ?_); at_builtin; refine Kd.R_append k42 (w0 := w) w.heap.size rfl (.tmp 43) (.tmp 48) 30 42 (.agg #[(.int .i64 0), (.int .i64 0)]) 16 rfl Try.underlying30 info42 rfl (by decide) (by omega) v299 t298 (⟨a2, wrap64 (a2 + 1)⟩ : S42) [.int .i64 a2, .int .i64 (wrap64 (a2 + 1))] (fun _ => True) (fun _ => False) rfl rfl ?aP (fun _ hk => hk.elim) ?aF ?aO ?aB ?aS ?aL ?_; (case aP => exact k42_mkM _ _ _ (⟨a2, wrap64 (a2 + 1)⟩ : S42)); (case aB => exact (by repeat (first | (with_reducible first | exact HB.out | apply below_alloc | apply pw_below_drewN | apply below_drew1 | refine below_set ?_ GE291.out | refine below_set ?_ GE292.out | refine below_set ?_ GE297.out) | exact HB.out))); (case aF => exact (fun _ _ => trivial)); (case aO => exact (by (with_reducible repeat (first | apply Kd.R_alloc | apply Kd.R_drewN | apply Kd.R_drew)); exact HO300.out)); (case aS => exact (below_size (by repeat (first | (with_reducible first | exact HB.out | apply below_alloc | apply pw_below_drewN | apply below_drew1 | refine below_set ?_ GE291.out | refine below_set ?_ GE292.out | refine below_set ?_ GE297.out) | exact HB.out)))); (case aL => have := LMc36.out; omega); intro v302 w42 ho hb hg hat; rw [← Ny301.out] at ho; have n0_ := Aside0.mk (blk_grown (g := gb291) (o := .cells #[.int .i64 a0_0, .int .i64 a0_1, .int .i64 a0_2, .int .i64 a0_3] 29 (0, 0)) (by (with_reducible repeat (first | refine blk_drewN ?_ _ | refine blk_drew ?_ | refine blk_alloc ?_ _)); exact BK291.out) hg (Kd.R_ne HO300.out BK291.out (by decide))); have n1_ := Aside0.mk (blk_grown (g := gb292) (o := .cells #[.int .i64 0, .int .i64 0, .int .i64 0] 37 (0, 0)) (by (with_reducible repeat (first | refine blk_drewN ?_ _ | refine blk_drew ?_ | refine blk_alloc ?_ _)); exact BK292.out) hg (Kd.R_ne HO300.out BK292.out (by decide))); have n2_ := Aside0.mk (blk_grown (g := gb297) (o := .cells #[.int .i64 0, .int .i64 0, .int .i64 (-1)] 37 (0, 0)) (by (with_reducible repeat (first | refine blk_drewN ?_ _ | refine blk_drew ?_ | refine blk_alloc ?_ _)); exact BK297.out) hg (Kd.R_ne HO300.out BK297.out (by decide))); have n3_ := Aside0.mk (hb); have n4_ := Aside0.mk (ho); clear BK291; clear BK292; clear BK297; clear HB; clear HO300; have BK291 := n0_; have BK292 := n1_; have BK297 := n2_; have HB := n3_; have HO303 := n4_; clear n0_ n1_ n2_ n3_ n4_; clear ho hb hg hat; obtain ⟨Ao43, co43, eo43⟩ := Kd.R_slice HO303.out; subst eo43))
          go_loopg [11, 51] kj4 (fun kq v11 v51 w' => ∃ (x11_2 : Int) (x51_2 : Int) (x298000_2 : Int), v11 = .int .i64 x11_2 ∧ v51 = .int .i64 x51_2 ∧ Aside0 (impl_Counted.l0 kq a2 x11_2 y301 (y301.length : Int) x51_2 a0_0 a0_1 a0_2 a0_3 x298000_2 0 (-1) = some (r1, r2, r3, r4)) ∧ Aside0 (kq ≤ kj4) ∧ Aside0 (Kd.R k42 42 w' w.heap.size (fun _ => True) (.slice Ao43 y301.length co43) y301) ∧ Aside0 (w'.heap[gb291]? = some (.cells #[.int .i64 a0_0, .int .i64 a0_1, .int .i64 a0_2, .int .i64 a0_3] 29 (0, 0))) ∧ Aside0 (w'.heap[gb292]? = some (.cells #[.int .i64 0, .int .i64 0, .int .i64 0] 37 (0, 0))) ∧ Aside0 (w'.heap[gb297]? = some (.cells #[.int .i64 x298000_2, .int .i64 0, .int .i64 (-1)] 37 (0, 0))) ∧ Aside0 (Below w.heap.size w w'))
          case atStart => exact ⟨(a1), (0), (0), (by first | rfl | (simp; done) | (simp [*]; done) | (simp [wrap64]; done)), (by first | rfl | (simp; done) | (simp [*]; done) | (simp [wrap64]; done)), H', ⟨Nat.le_refl _⟩, ⟨by (with_reducible repeat (first | apply Kd.R_alloc | apply Kd.R_drewN | apply Kd.R_drew)); exact HO303.out⟩, ⟨by (with_reducible repeat (first | refine blk_drewN ?_ _ | refine blk_drew ?_ | refine blk_alloc ?_ _)); exact BK291.out⟩, ⟨by (with_reducible repeat (first | refine blk_drewN ?_ _ | refine blk_drew ?_ | refine blk_alloc ?_ _)); exact BK292.out⟩, ⟨by (with_reducible repeat (first | refine blk_drewN ?_ _ | refine blk_drew ?_ | refine blk_alloc ?_ _)); exact BK297.out⟩, ⟨by repeat (first | (with_reducible first | exact HB.out | apply below_alloc | apply pw_below_drewN | apply below_drew1 | refine below_set ?_ GE291.out | refine below_set ?_ GE292.out | refine below_set ?_ GE297.out) | exact HB.out)⟩⟩
          case round =>
            clear H'
            try clear c1
            try clear c2
            try clear p2
            try clear c3
            try clear p6
            try clear c9
            try clear c11
            try clear c12
            try clear c13
            try clear c14
            try clear c14b0
            try clear c15
            try clear c19
            try clear c23
            try clear c26
            try clear c29
            try clear c32
            try clear c33
            try clear c35
            try clear c36
            try clear c38
            try clear c39
            try clear hcz16_0
            try clear hcz16_1
            try clear hcz16_2
            try clear hcz16_3
            try clear hcz20_0
            try clear hcz20_1
            try clear hcz20_2
            try clear hcz20_3
            try clear hcz24_0
            try clear hcz24_1
            try clear hcz24_2
            try clear hcz24_3
            try clear hcz27_0
            try clear hcz27_1
            try clear hcz27_2
            try clear hcz27_3
            try clear hcz30_0
            try clear hcz30_1
            try clear hcz30_2
            try clear hcz30_3
            try clear hcz34_0
            try clear hcz34_1
            try clear hcz34_2
            try clear hcz40_0
            try clear hcz40_1
            try clear hcz40_2
            try clear hfz16_0
            try clear hfz16_1
            try clear hfz16_2
            try clear hfz16_3
            try clear hfz20_0
            try clear hfz20_1
            try clear hfz20_2
            try clear hfz20_3
            try clear hfz24_0
            try clear hfz24_1
            try clear hfz24_2
            try clear hfz24_3
            try clear hfz27_0
            try clear hfz27_1
            try clear hfz27_2
            try clear hfz27_3
            try clear hfz30_0
            try clear hfz30_1
            try clear hfz30_2
            try clear hfz30_3
            try clear hfz34_0
            try clear hfz34_1
            try clear hfz34_2
            try clear hfz40_0
            try clear hfz40_1
            try clear hfz40_2
            try clear p2
            try clear p6
            obtain ⟨x11_2, x51_2, x298000_2, rfl, rfl, HA, HK2, HO_49, BK291, BK292, BK297, HB⟩ := hrel
            cases gk with
            | zero => exact absurd HA.out (by simp [impl_Counted.l0])
            | succ k2 =>
              have H := HA.out
              clear HA
              simp only [impl_Counted.l0] at H
              by_cases c44 : x51_2 < (y301.length : Int)
              · rw [if_pos c44] at H
                have c44b0 : decide (x51_2 < (y301.length : Int)) = true := decide_eq_true c44
                clear c44
                by_cases c45 : 0 ≤ x51_2
                · rw [if_pos c45] at H
                  have c45b0 : decide (0 ≤ x51_2) = true := decide_eq_true c45
                  clear c45
                  by_cases c46 : x51_2 < (y301.length : Int)
                  · rw [if_pos c46] at H
                    have c46b0 : decide (x51_2 < (y301.length : Int)) = true := decide_eq_true c46
                    clear c46
                    have HC47 := Aside0.mk H
                    clear H
                    have p304 : 0 ≤ (x51_2 : Int) := of_decide_eq_true (by first | (with_reducible assumption) | assumption)
                    have q304 : x51_2 < (y301.length : Int) := of_decide_eq_true (by first | (with_reducible assumption) | assumption)
                    obtain ⟨ad304, e304, hx304_0, hx304_1⟩ := at_T42 (Kd.R_reads' HO_49.out).2.2 x51_2 p304 q304
                    cases e304
                    replace p304 := eq_true p304
                    replace q304 := eq_true q304
                    go_upto_region 8 with (first | ((with_reducible refine gate_dst (N := 13) rfl ?_); refine box_event ?hg (N := 13) ?hd (cs := #[.int .i64 0, .int .i64 0]) (t := 42) ?hr ?_; (case hd => rfl); (case hg => rfl); (case hr => first | (go_simp; done) | (go_simp; rfl)); intro gb305 hg w48 hbox hb; have n0_ := Aside0.mk (Kd.R_below (Kd.R_elderB (by (with_reducible repeat (first | apply Kd.R_alloc | apply Kd.R_drewN | apply Kd.R_drew)); exact HO_49.out) gb305 (Nat.le_of_eq hg.symm)) hb); have n1_ := Aside0.mk (blk_below (g := gb291) (o := .cells #[.int .i64 a0_0, .int .i64 a0_1, .int .i64 a0_2, .int .i64 a0_3] 29 (0, 0)) (by (with_reducible repeat (first | refine blk_drewN ?_ _ | refine blk_drew ?_ | refine blk_alloc ?_ _)); exact BK291.out) hb); have n2_ := Aside0.mk (blk_below (g := gb292) (o := .cells #[.int .i64 0, .int .i64 0, .int .i64 0] 37 (0, 0)) (by (with_reducible repeat (first | refine blk_drewN ?_ _ | refine blk_drew ?_ | refine blk_alloc ?_ _)); exact BK292.out) hb); have n3_ := Aside0.mk (blk_below (g := gb297) (o := .cells #[.int .i64 x298000_2, .int .i64 0, .int .i64 (-1)] 37 (0, 0)) (by (with_reducible repeat (first | refine blk_drewN ?_ _ | refine blk_drew ?_ | refine blk_alloc ?_ _)); exact BK297.out) hb); have n4_ := Aside0.mk (below_step (by repeat (first | (with_reducible first | exact HB.out | apply below_alloc | apply pw_below_drewN | apply below_drew1 | refine below_set ?_ GE291.out | refine below_set ?_ GE292.out | refine below_set ?_ GE297.out) | exact HB.out)) hb); have n5_ := Aside0.mk (hbox); have n6_ := Aside0.mk ((by rw [hg]; exact (below_size (by repeat (first | (with_reducible first | exact HB.out | apply below_alloc | apply pw_below_drewN | apply below_drew1 | refine below_set ?_ GE291.out | refine below_set ?_ GE292.out | refine below_set ?_ GE297.out) | exact HB.out))) : w.heap.size ≤ gb305)); have n7_ := Aside0.mk ((by rw [hg]; exact (below_size (by repeat (first | (with_reducible first | exact HB.out | apply below_alloc | apply pw_below_drewN | apply below_drew1 | refine below_set ?_ GE291.out | refine below_set ?_ GE292.out | refine below_set ?_ GE297.out) | exact HB.out))) : w.heap.size ≤ gb305)); have n8_ := Aside0.mk ((by rw [hg]; exact Nat.ne_of_lt (blk_lt (g := gb291) (o := .cells #[.int .i64 a0_0, .int .i64 a0_1, .int .i64 a0_2, .int .i64 a0_3] 29 (0, 0)) (by (with_reducible repeat (first | refine blk_drewN ?_ _ | refine blk_drew ?_ | refine blk_alloc ?_ _)); exact BK291.out)) : gb291 ≠ gb305)); have n9_ := Aside0.mk ((by rw [hg]; exact Nat.ne_of_gt (blk_lt (g := gb291) (o := .cells #[.int .i64 a0_0, .int .i64 a0_1, .int .i64 a0_2, .int .i64 a0_3] 29 (0, 0)) (by (with_reducible repeat (first | refine blk_drewN ?_ _ | refine blk_drew ?_ | refine blk_alloc ?_ _)); exact BK291.out)) : gb305 ≠ gb291)); have n10_ := Aside0.mk ((by rw [hg]; exact Nat.ne_of_lt (blk_lt (g := gb292) (o := .cells #[.int .i64 0, .int .i64 0, .int .i64 0] 37 (0, 0)) (by (with_reducible repeat (first | refine blk_drewN ?_ _ | refine blk_drew ?_ | refine blk_alloc ?_ _)); exact BK292.out)) : gb292 ≠ gb305)); have n11_ := Aside0.mk ((by rw [hg]; exact Nat.ne_of_gt (blk_lt (g := gb292) (o := .cells #[.int .i64 0, .int .i64 0, .int .i64 0] 37 (0, 0)) (by (with_reducible repeat (first | refine blk_drewN ?_ _ | refine blk_drew ?_ | refine blk_alloc ?_ _)); exact BK292.out)) : gb305 ≠ gb292)); have n12_ := Aside0.mk ((by rw [hg]; exact Nat.ne_of_lt (blk_lt (g := gb297) (o := .cells #[.int .i64 x298000_2, .int .i64 0, .int .i64 (-1)] 37 (0, 0)) (by (with_reducible repeat (first | refine blk_drewN ?_ _ | refine blk_drew ?_ | refine blk_alloc ?_ _)); exact BK297.out)) : gb297 ≠ gb305)); have n13_ := Aside0.mk ((by rw [hg]; exact Nat.ne_of_gt (blk_lt (g := gb297) (o := .cells #[.int .i64 x298000_2, .int .i64 0, .int .i64 (-1)] 37 (0, 0)) (by (with_reducible repeat (first | refine blk_drewN ?_ _ | refine blk_drew ?_ | refine blk_alloc ?_ _)); exact BK297.out)) : gb305 ≠ gb297)); clear HO_49; clear BK291; clear BK292; clear BK297; clear HB; have HO_49 := n0_; have BK291 := n1_; have BK292 := n2_; have BK297 := n3_; have HB := n4_; have BK305 := n5_; have GW305 := n6_; have GE305 := n7_; have NB291_305 := n8_; have NB305_291 := n9_; have NB292_305 := n10_; have NB305_292 := n11_; have NB297_305 := n12_; have NB305_297 := n13_; clear n0_ n1_ n2_ n3_ n4_ n5_ n6_ n7_ n8_ n9_ n10_ n11_ n12_ n13_; clear hb hbox hg; have hnb49 := NB305_291.out; have hnc49 := NB291_305.out; have hnb50 := NB305_292.out; have hnc50 := NB292_305.out; have hnb51 := NB305_297.out; have hnc51 := NB297_305.out; have hcz52_0 : w48.cell? ⟨gb305, 0, none⟩ = some (.int .i64 0) := (blk_cell BK305.out 0).trans rfl; have hcz52_1 : w48.cell? ⟨gb305, 1, none⟩ = some (.int .i64 0) := (blk_cell BK305.out 1).trans rfl; have hfz52_0 := blk_frozen BK305.out 0; have hfz52_1 := blk_frozen BK305.out 1))
                    (try simp only [Act.put, List.setIfInBounds_toArray, List.set_cons_zero, List.set_cons_succ])
                    go_cut [64] (fun v64 wc => ∃ (kq : Nat) (x64_46 : Bool), v64 = .bool x64_46 ∧ Aside0 (impl_Counted.j2 kq a2 x11_2 y301 (y301.length : Int) x51_2 x64_46 a0_0 a0_1 a0_2 a0_3 x298000_2 0 (-1) ((rd_T42 y301 x51_2).f0) ((rd_T42 y301 x51_2).f1) = some (r1, r2, r3, r4)) ∧ Aside0 (kq ≤ k2) ∧ Aside0 (Kd.R k42 42 wc w.heap.size (fun k_ => k_ ≠ gb305) (.slice (some ad304) y301.length co43) y301) ∧ Aside0 (wc.heap[gb291]? = some (.cells #[.int .i64 a0_0, .int .i64 a0_1, .int .i64 a0_2, .int .i64 a0_3] 29 (0, 0))) ∧ Aside0 (wc.heap[gb292]? = some (.cells #[.int .i64 0, .int .i64 0, .int .i64 0] 37 (0, 0))) ∧ Aside0 (wc.heap[gb297]? = some (.cells #[.int .i64 x298000_2, .int .i64 0, .int .i64 (-1)] 37 (0, 0))) ∧ Aside0 (wc.heap[gb305]? = some (.cells #[.int .i64 ((rd_T42 y301 x51_2).f0), .int .i64 ((rd_T42 y301 x51_2).f1)] 42 (0, 0))) ∧ Aside0 (Below w.heap.size w wc))
                    case first =>
                      have H := HC47.out
                      clear HC47
                      by_cases c53 : x298000_2 = a0_1
                      · rw [if_pos c53] at H
                        have c53b0 : (x298000_2 == a0_1) = true := beq_iff_eq.mpr c53
                        have c53b1 : (x298000_2 != a0_1) = false := bne_eq_false_iff_eq.mpr c53
                        clear c53
                        (first | rw [c53b0] | (simp only [i64_w, i32_w]; rw [c53b0]) | skip)
                        have H' := Aside0.mk H
                        clear H
                        have hnb54 := NB297_291.out
                        have hnc54 := NB291_297.out
                        have hnb55 := NB297_292.out
                        have hnc55 := NB292_297.out
                        have hnb56 := NB297_305.out
                        have hnc56 := NB305_297.out
                        have hcz57_0 : w48.cell? ⟨gb297, 0, none⟩ = some (.int .i64 x298000_2) := (blk_cell BK297.out 0).trans rfl
                        have hcz57_1 : w48.cell? ⟨gb297, 1, none⟩ = some (.int .i64 0) := (blk_cell BK297.out 1).trans rfl
                        have hcz57_2 : w48.cell? ⟨gb297, 2, none⟩ = some (.int .i64 (-1)) := (blk_cell BK297.out 2).trans rfl
                        have hfz57_0 := blk_frozen BK297.out 0
                        have hfz57_1 := blk_frozen BK297.out 1
                        have hfz57_2 := blk_frozen BK297.out 2
                        have hnb58 := NB291_292.out
                        have hnc58 := NB292_291.out
                        have hnb59 := NB291_305.out
                        have hnc59 := NB305_291.out
                        have hcz60_0 : w48.cell? ⟨gb291, 0, none⟩ = some (.int .i64 a0_0) := (blk_cell BK291.out 0).trans rfl
                        have hcz60_1 : w48.cell? ⟨gb291, 1, none⟩ = some (.int .i64 a0_1) := (blk_cell BK291.out 1).trans rfl
                        have hcz60_2 : w48.cell? ⟨gb291, 2, none⟩ = some (.int .i64 a0_2) := (blk_cell BK291.out 2).trans rfl
                        have hcz60_3 : w48.cell? ⟨gb291, 3, none⟩ = some (.int .i64 a0_3) := (blk_cell BK291.out 3).trans rfl
                        have hfz60_0 := blk_frozen BK291.out 0
                        have hfz60_1 := blk_frozen BK291.out 1
                        have hfz60_2 := blk_frozen BK291.out 2
                        have hfz60_3 := blk_frozen BK291.out 3
                        go_wp2
                        go_meet
                        case rel => exact ⟨_, (true), (by first | rfl | (simp; done) | (simp [*]; done) | (simp [wrap64]; done)), H', ⟨by have := HJ4.out; have := HK2.out; first | omega | exact Nat.le_refl _⟩, ⟨by (with_reducible repeat (first | apply Kd.R_alloc | apply Kd.R_drewN | apply Kd.R_drew)); exact Kd.R_mono (Kd.R_far (p := ⟨gb305, 1, none⟩) (Kd.R_far (p := ⟨gb305, 0, none⟩) (Kd.R_mono HO_49.out (fun k_ hk => (⟨hk, hk.2⟩ : _ ∧ k_ ≠ gb305))) (fun _ hk => hk.2) (.int .i64 ((rd_T42 y301 x51_2).f0))) (fun _ hk => hk.2) (.int .i64 ((rd_T42 y301 x51_2).f1))) (fun _ hk => hk.1.2)⟩, ⟨by (with_reducible repeat (first | refine blk_drewN ?_ _ | refine blk_drew ?_ | refine blk_alloc ?_ _)); refine blk_far ?_ NB291_305.out _; (with_reducible repeat (first | refine blk_drewN ?_ _ | refine blk_drew ?_ | refine blk_alloc ?_ _)); refine blk_far ?_ NB291_305.out _; (with_reducible repeat (first | refine blk_drewN ?_ _ | refine blk_drew ?_ | refine blk_alloc ?_ _)); exact BK291.out⟩, ⟨by (with_reducible repeat (first | refine blk_drewN ?_ _ | refine blk_drew ?_ | refine blk_alloc ?_ _)); refine blk_far ?_ NB292_305.out _; (with_reducible repeat (first | refine blk_drewN ?_ _ | refine blk_drew ?_ | refine blk_alloc ?_ _)); refine blk_far ?_ NB292_305.out _; (with_reducible repeat (first | refine blk_drewN ?_ _ | refine blk_drew ?_ | refine blk_alloc ?_ _)); exact BK292.out⟩, ⟨by (with_reducible repeat (first | refine blk_drewN ?_ _ | refine blk_drew ?_ | refine blk_alloc ?_ _)); refine blk_far ?_ NB297_305.out _; (with_reducible repeat (first | refine blk_drewN ?_ _ | refine blk_drew ?_ | refine blk_alloc ?_ _)); refine blk_far ?_ NB297_305.out _; (with_reducible repeat (first | refine blk_drewN ?_ _ | refine blk_drew ?_ | refine blk_alloc ?_ _)); exact BK297.out⟩, ⟨by (with_reducible repeat (first | refine blk_drewN ?_ _ | refine blk_drew ?_ | refine blk_alloc ?_ _)); refine blk_put (cs := #[.int .i64 ((rd_T42 y301 x51_2).f0), .int .i64 0]) ?_ 1 _ rfl; (with_reducible repeat (first | refine blk_drewN ?_ _ | refine blk_drew ?_ | refine blk_alloc ?_ _)); refine blk_put (cs := #[.int .i64 0, .int .i64 0]) ?_ 0 _ rfl; (with_reducible repeat (first | refine blk_drewN ?_ _ | refine blk_drew ?_ | refine blk_alloc ?_ _)); exact BK305.out⟩, ⟨by repeat (first | (with_reducible first | exact HB.out | apply below_alloc | apply pw_below_drewN | apply below_drew1 | refine below_set ?_ GE291.out | refine below_set ?_ GE292.out | refine below_set ?_ GE297.out | refine below_set ?_ GE305.out) | exact HB.out)⟩⟩
                      · rw [if_neg c53] at H
                        have c53b0 : (x298000_2 == a0_1) = false := beq_eq_false_iff_ne.mpr c53
                        have c53b1 : (x298000_2 != a0_1) = true := bne_iff_ne.mpr c53
                        (first | rw [c53b0] | (simp only [i64_w, i32_w]; rw [c53b0]) | skip)
                        have H' := Aside0.mk H
                        clear H
                        have hnb61 := NB297_291.out
                        have hnc61 := NB291_297.out
                        have hnb62 := NB297_292.out
                        have hnc62 := NB292_297.out
                        have hnb63 := NB297_305.out
                        have hnc63 := NB305_297.out
                        have hcz64_0 : w48.cell? ⟨gb297, 0, none⟩ = some (.int .i64 x298000_2) := (blk_cell BK297.out 0).trans rfl
                        have hcz64_1 : w48.cell? ⟨gb297, 1, none⟩ = some (.int .i64 0) := (blk_cell BK297.out 1).trans rfl
                        have hcz64_2 : w48.cell? ⟨gb297, 2, none⟩ = some (.int .i64 (-1)) := (blk_cell BK297.out 2).trans rfl
                        have hfz64_0 := blk_frozen BK297.out 0
                        have hfz64_1 := blk_frozen BK297.out 1
                        have hfz64_2 := blk_frozen BK297.out 2
                        have hnb65 := NB291_292.out
                        have hnc65 := NB292_291.out
                        have hnb66 := NB291_305.out
                        have hnc66 := NB305_291.out
                        have hcz67_0 : w48.cell? ⟨gb291, 0, none⟩ = some (.int .i64 a0_0) := (blk_cell BK291.out 0).trans rfl
                        have hcz67_1 : w48.cell? ⟨gb291, 1, none⟩ = some (.int .i64 a0_1) := (blk_cell BK291.out 1).trans rfl
                        have hcz67_2 : w48.cell? ⟨gb291, 2, none⟩ = some (.int .i64 a0_2) := (blk_cell BK291.out 2).trans rfl
                        have hcz67_3 : w48.cell? ⟨gb291, 3, none⟩ = some (.int .i64 a0_3) := (blk_cell BK291.out 3).trans rfl
                        have hfz67_0 := blk_frozen BK291.out 0
                        have hfz67_1 := blk_frozen BK291.out 1
                        have hfz67_2 := blk_frozen BK291.out 2
                        have hfz67_3 := blk_frozen BK291.out 3
                        go_wp2
                        go_meet
                        case rel => exact ⟨_, (decide (x11_2 ≥ a2)), (by first | rfl | (simp; done) | (simp [*]; done) | (simp [wrap64]; done)), H', ⟨by have := HJ4.out; have := HK2.out; first | omega | exact Nat.le_refl _⟩, ⟨by (with_reducible repeat (first | apply Kd.R_alloc | apply Kd.R_drewN | apply Kd.R_drew)); exact Kd.R_mono (Kd.R_far (p := ⟨gb305, 1, none⟩) (Kd.R_far (p := ⟨gb305, 0, none⟩) (Kd.R_mono HO_49.out (fun k_ hk => (⟨hk, hk.2⟩ : _ ∧ k_ ≠ gb305))) (fun _ hk => hk.2) (.int .i64 ((rd_T42 y301 x51_2).f0))) (fun _ hk => hk.2) (.int .i64 ((rd_T42 y301 x51_2).f1))) (fun _ hk => hk.1.2)⟩, ⟨by (with_reducible repeat (first | refine blk_drewN ?_ _ | refine blk_drew ?_ | refine blk_alloc ?_ _)); refine blk_far ?_ NB291_305.out _; (with_reducible repeat (first | refine blk_drewN ?_ _ | refine blk_drew ?_ | refine blk_alloc ?_ _)); refine blk_far ?_ NB291_305.out _; (with_reducible repeat (first | refine blk_drewN ?_ _ | refine blk_drew ?_ | refine blk_alloc ?_ _)); exact BK291.out⟩, ⟨by (with_reducible repeat (first | refine blk_drewN ?_ _ | refine blk_drew ?_ | refine blk_alloc ?_ _)); refine blk_far ?_ NB292_305.out _; (with_reducible repeat (first | refine blk_drewN ?_ _ | refine blk_drew ?_ | refine blk_alloc ?_ _)); refine blk_far ?_ NB292_305.out _; (with_reducible repeat (first | refine blk_drewN ?_ _ | refine blk_drew ?_ | refine blk_alloc ?_ _)); exact BK292.out⟩, ⟨by (with_reducible repeat (first | refine blk_drewN ?_ _ | refine blk_drew ?_ | refine blk_alloc ?_ _)); refine blk_far ?_ NB297_305.out _; (with_reducible repeat (first | refine blk_drewN ?_ _ | refine blk_drew ?_ | refine blk_alloc ?_ _)); refine blk_far ?_ NB297_305.out _; (with_reducible repeat (first | refine blk_drewN ?_ _ | refine blk_drew ?_ | refine blk_alloc ?_ _)); exact BK297.out⟩, ⟨by (with_reducible repeat (first | refine blk_drewN ?_ _ | refine blk_drew ?_ | refine blk_alloc ?_ _)); refine blk_put (cs := #[.int .i64 ((rd_T42 y301 x51_2).f0), .int .i64 0]) ?_ 1 _ rfl; (with_reducible repeat (first | refine blk_drewN ?_ _ | refine blk_drew ?_ | refine blk_alloc ?_ _)); refine blk_put (cs := #[.int .i64 0, .int .i64 0]) ?_ 0 _ rfl; (with_reducible repeat (first | refine blk_drewN ?_ _ | refine blk_drew ?_ | refine blk_alloc ?_ _)); exact BK305.out⟩, ⟨by repeat (first | (with_reducible first | exact HB.out | apply below_alloc | apply pw_below_drewN | apply below_drew1 | refine below_set ?_ GE291.out | refine below_set ?_ GE292.out | refine below_set ?_ GE297.out | refine below_set ?_ GE305.out) | exact HB.out)⟩⟩
                    case rest =>
                      clear HC47
                      try clear c1
                      try clear c2
                      try clear p2
                      try clear c3
                      try clear p3
                      try clear q3
                      try clear hx3
                      try clear c4
                      try clear c5
                      try clear c6
                      try clear p6
                      try clear c9
                      try clear c11
                      try clear c12
                      try clear c13
                      try clear c14
                      try clear c14b0
                      try clear c15
                      try clear c19
                      try clear c23
                      try clear c26
                      try clear c29
                      try clear p30
                      try clear q30
                      try clear hx30
                      try clear c32
                      try clear c33
                      try clear c35
                      try clear c36
                      try clear c38
                      try clear c39
                      try clear c44
                      try clear c44b0
                      try clear c45
                      try clear c45b0
                      try clear c46
                      try clear c46b0
                      try clear c49
                      try clear c50
                      try clear c51
                      try clear c53
                      try clear c53b0
                      try clear c53b1
                      try clear c54
                      try clear c55
                      try clear c56
                      try clear c58
                      try clear c59
                      try clear c61
                      try clear c62
                      try clear c63
                      try clear p64
                      try clear c65
                      try clear c66
                      try clear hcz16_0
                      try clear hcz16_1
                      try clear hcz16_2
                      try clear hcz16_3
                      try clear hcz20_0
                      try clear hcz20_1
                      try clear hcz20_2
                      try clear hcz20_3
                      try clear hcz24_0
                      try clear hcz24_1
                      try clear hcz24_2
                      try clear hcz24_3
                      try clear hcz27_0
                      try clear hcz27_1
                      try clear hcz27_2
                      try clear hcz27_3
                      try clear hcz30_0
                      try clear hcz30_1
                      try clear hcz30_2
                      try clear hcz30_3
                      try clear hcz34_0
                      try clear hcz34_1
                      try clear hcz34_2
                      try clear hcz40_0
                      try clear hcz40_1
                      try clear hcz40_2
                      try clear hcz52_0
                      try clear hcz52_1
                      try clear hcz57_0
                      try clear hcz57_1
                      try clear hcz57_2
                      try clear hcz60_0
                      try clear hcz60_1
                      try clear hcz60_2
                      try clear hcz60_3
                      try clear hcz64_0
                      try clear hcz64_1
                      try clear hcz64_2
                      try clear hcz67_0
                      try clear hcz67_1
                      try clear hcz67_2
                      try clear hcz67_3
                      try clear hfz16_0
                      try clear hfz16_1
                      try clear hfz16_2
                      try clear hfz16_3
                      try clear hfz20_0
                      try clear hfz20_1
                      try clear hfz20_2
                      try clear hfz20_3
                      try clear hfz24_0
                      try clear hfz24_1
                      try clear hfz24_2
                      try clear hfz24_3
                      try clear hfz27_0
                      try clear hfz27_1
                      try clear hfz27_2
                      try clear hfz27_3
                      try clear hfz30_0
                      try clear hfz30_1
                      try clear hfz30_2
                      try clear hfz30_3
                      try clear hfz34_0
                      try clear hfz34_1
                      try clear hfz34_2
                      try clear hfz40_0
                      try clear hfz40_1
                      try clear hfz40_2
                      try clear hfz52_0
                      try clear hfz52_1
                      try clear hfz57_0
                      try clear hfz57_1
                      try clear hfz57_2
                      try clear hfz60_0
                      try clear hfz60_1
                      try clear hfz60_2
                      try clear hfz60_3
                      try clear hfz64_0
                      try clear hfz64_1
                      try clear hfz64_2
                      try clear hfz67_0
                      try clear hfz67_1
                      try clear hfz67_2
                      try clear hfz67_3
                      try clear hx304_0
                      try clear hx304_1
                      try clear p2
                      try clear p304
                      try clear p6
                      try clear q304
                      obtain ⟨kq, x64_46, rfl, HA, HJ46, HO_49, BK291, BK292, BK297, BK305, HB⟩ := hcut
                      cases kq with
                      | zero => exact absurd HA.out (by simp [impl_Counted.j2])
                      | succ kj46 =>
                        have H := HA.out
                        clear HA
                        simp only [impl_Counted.j2] at H
                        by_cases c68 : x64_46 = true
                        · subst c68
                          have H1 : (if x298000_2 = a0_1 then (if x11_2 < a2 then (some (x298000_2, wrap64 (a2 - x11_2), x11_2, true)) else (some (x298000_2, 0, (-1), true))) else (some (x298000_2, 0, (-1), true))) = some (r1, r2, r3, r4) := by rw [if_pos rfl] at H; exact H
                          clear H
                          have H := H1
                          clear H1
                          by_cases c69 : x298000_2 = a0_1
                          · rw [if_pos c69] at H
                            have c69b0 : (x298000_2 == a0_1) = true := beq_iff_eq.mpr c69
                            have c69b1 : (x298000_2 != a0_1) = false := bne_eq_false_iff_eq.mpr c69
                            clear c69
                            by_cases c70 : x11_2 < a2
                            · rw [if_pos c70] at H
                              have c70b0 : decide (x11_2 < a2) = true := decide_eq_true c70
                              clear c70
                              simp only [Option.some.injEq, Prod.mk.injEq] at H
                              obtain ⟨rfl, rfl, rfl, rfl⟩ := H
                              have hnb71 := NB297_291.out
                              have hnc71 := NB291_297.out
                              have hnb72 := NB297_292.out
                              have hnc72 := NB292_297.out
                              have hnb73 := NB297_305.out
                              have hnc73 := NB305_297.out
                              have hcz74_0 : wc.cell? ⟨gb297, 0, none⟩ = some (.int .i64 x298000_2) := (blk_cell BK297.out 0).trans rfl
                              have hcz74_1 : wc.cell? ⟨gb297, 1, none⟩ = some (.int .i64 0) := (blk_cell BK297.out 1).trans rfl
                              have hcz74_2 : wc.cell? ⟨gb297, 2, none⟩ = some (.int .i64 (-1)) := (blk_cell BK297.out 2).trans rfl
                              have hfz74_0 := blk_frozen BK297.out 0
                              have hfz74_1 := blk_frozen BK297.out 1
                              have hfz74_2 := blk_frozen BK297.out 2
                              have hnb75 := NB291_292.out
                              have hnc75 := NB292_291.out
                              have hnb76 := NB291_305.out
                              have hnc76 := NB305_291.out
                              have hcz77_0 : wc.cell? ⟨gb291, 0, none⟩ = some (.int .i64 a0_0) := (blk_cell BK291.out 0).trans rfl
                              have hcz77_1 : wc.cell? ⟨gb291, 1, none⟩ = some (.int .i64 a0_1) := (blk_cell BK291.out 1).trans rfl
                              have hcz77_2 : wc.cell? ⟨gb291, 2, none⟩ = some (.int .i64 a0_2) := (blk_cell BK291.out 2).trans rfl
                              have hcz77_3 : wc.cell? ⟨gb291, 3, none⟩ = some (.int .i64 a0_3) := (blk_cell BK291.out 3).trans rfl
                              have hfz77_0 := blk_frozen BK291.out 0
                              have hfz77_1 := blk_frozen BK291.out 1
                              have hfz77_2 := blk_frozen BK291.out 2
                              have hfz77_3 := blk_frozen BK291.out 3
                              have hnb78 := NB292_305.out
                              have hnc78 := NB305_292.out
                              have hcz79_0 : wc.cell? ⟨gb292, 0, none⟩ = some (.int .i64 0) := (blk_cell BK292.out 0).trans rfl
                              have hcz79_1 : wc.cell? ⟨gb292, 1, none⟩ = some (.int .i64 0) := (blk_cell BK292.out 1).trans rfl
                              have hcz79_2 : wc.cell? ⟨gb292, 2, none⟩ = some (.int .i64 0) := (blk_cell BK292.out 2).trans rfl
                              have hfz79_0 := blk_frozen BK292.out 0
                              have hfz79_1 := blk_frozen BK292.out 1
                              have hfz79_2 := blk_frozen BK292.out 2
                              go_wp2
                              refine bodyPost_ret (results_ct rfl _ _ gb292 37 #[.int .i64 x298000_2, .int .i64 (wrap64 (a2 - x11_2)), .int .i64 x11_2] (0, 0) _ rfl (by (with_reducible repeat (first | refine blk_drewN ?_ _ | refine blk_drew ?_ | refine blk_alloc ?_ _)); refine blk_put (cs := #[.int .i64 x298000_2, .int .i64 (wrap64 (a2 - x11_2)), .int .i64 0]) ?_ 2 _ rfl; (with_reducible repeat (first | refine blk_drewN ?_ _ | refine blk_drew ?_ | refine blk_alloc ?_ _)); refine blk_put (cs := #[.int .i64 x298000_2, .int .i64 0, .int .i64 0]) ?_ 1 _ rfl; (with_reducible repeat (first | refine blk_drewN ?_ _ | refine blk_drew ?_ | refine blk_alloc ?_ _)); refine blk_put (cs := #[.int .i64 0, .int .i64 0, .int .i64 0]) ?_ 0 _ rfl; (with_reducible repeat (first | refine blk_drewN ?_ _ | refine blk_drew ?_ | refine blk_alloc ?_ _)); refine blk_far ?_ NB292_297.out _; (with_reducible repeat (first | refine blk_drewN ?_ _ | refine blk_drew ?_ | refine blk_alloc ?_ _)); refine blk_far ?_ NB292_297.out _; (with_reducible repeat (first | refine blk_drewN ?_ _ | refine blk_drew ?_ | refine blk_alloc ?_ _)); exact BK292.out) Try.underlying37 rfl (by kernel_rfl)) rfl ?_
                              exact ⟨by first | rfl | (simp [errW_none, errW_some] <;> rfl) | (simp [*, errW_none, errW_some] <;> rfl), by repeat (first | (with_reducible first | exact HB.out | apply below_alloc | apply pw_below_drewN | apply below_drew1 | refine below_set ?_ GE291.out | refine below_set ?_ GE292.out | refine below_set ?_ GE297.out | refine below_set ?_ GE305.out) | exact HB.out)⟩
                            · rw [if_neg c70] at H
                              have c70b0 : decide (x11_2 < a2) = false := decide_eq_false c70
                              clear c70
                              simp only [Option.some.injEq, Prod.mk.injEq] at H
                              obtain ⟨rfl, rfl, rfl, rfl⟩ := H
                              have hnb80 := NB297_291.out
                              have hnc80 := NB291_297.out
                              have hnb81 := NB297_292.out
                              have hnc81 := NB292_297.out
                              have hnb82 := NB297_305.out
                              have hnc82 := NB305_297.out
                              have hcz83_0 : wc.cell? ⟨gb297, 0, none⟩ = some (.int .i64 x298000_2) := (blk_cell BK297.out 0).trans rfl
                              have hcz83_1 : wc.cell? ⟨gb297, 1, none⟩ = some (.int .i64 0) := (blk_cell BK297.out 1).trans rfl
                              have hcz83_2 : wc.cell? ⟨gb297, 2, none⟩ = some (.int .i64 (-1)) := (blk_cell BK297.out 2).trans rfl
                              have hfz83_0 := blk_frozen BK297.out 0
                              have hfz83_1 := blk_frozen BK297.out 1
                              have hfz83_2 := blk_frozen BK297.out 2
                              have hnb84 := NB291_292.out
                              have hnc84 := NB292_291.out
                              have hnb85 := NB291_305.out
                              have hnc85 := NB305_291.out
                              have hcz86_0 : wc.cell? ⟨gb291, 0, none⟩ = some (.int .i64 a0_0) := (blk_cell BK291.out 0).trans rfl
                              have hcz86_1 : wc.cell? ⟨gb291, 1, none⟩ = some (.int .i64 a0_1) := (blk_cell BK291.out 1).trans rfl
                              have hcz86_2 : wc.cell? ⟨gb291, 2, none⟩ = some (.int .i64 a0_2) := (blk_cell BK291.out 2).trans rfl
                              have hcz86_3 : wc.cell? ⟨gb291, 3, none⟩ = some (.int .i64 a0_3) := (blk_cell BK291.out 3).trans rfl
                              have hfz86_0 := blk_frozen BK291.out 0
                              have hfz86_1 := blk_frozen BK291.out 1
                              have hfz86_2 := blk_frozen BK291.out 2
                              have hfz86_3 := blk_frozen BK291.out 3
                              have hnb87 := NB292_305.out
                              have hnc87 := NB305_292.out
                              have hcz88_0 : wc.cell? ⟨gb292, 0, none⟩ = some (.int .i64 0) := (blk_cell BK292.out 0).trans rfl
                              have hcz88_1 : wc.cell? ⟨gb292, 1, none⟩ = some (.int .i64 0) := (blk_cell BK292.out 1).trans rfl
                              have hcz88_2 : wc.cell? ⟨gb292, 2, none⟩ = some (.int .i64 0) := (blk_cell BK292.out 2).trans rfl
                              have hfz88_0 := blk_frozen BK292.out 0
                              have hfz88_1 := blk_frozen BK292.out 1
                              have hfz88_2 := blk_frozen BK292.out 2
                              go_wp2
                              refine bodyPost_ret (results_ct rfl _ _ gb292 37 #[.int .i64 x298000_2, .int .i64 0, .int .i64 (-1)] (0, 0) _ rfl (by (with_reducible repeat (first | refine blk_drewN ?_ _ | refine blk_drew ?_ | refine blk_alloc ?_ _)); refine blk_put (cs := #[.int .i64 x298000_2, .int .i64 0, .int .i64 0]) ?_ 2 _ rfl; (with_reducible repeat (first | refine blk_drewN ?_ _ | refine blk_drew ?_ | refine blk_alloc ?_ _)); refine blk_put (cs := #[.int .i64 x298000_2, .int .i64 0, .int .i64 0]) ?_ 1 _ rfl; (with_reducible repeat (first | refine blk_drewN ?_ _ | refine blk_drew ?_ | refine blk_alloc ?_ _)); refine blk_put (cs := #[.int .i64 0, .int .i64 0, .int .i64 0]) ?_ 0 _ rfl; (with_reducible repeat (first | refine blk_drewN ?_ _ | refine blk_drew ?_ | refine blk_alloc ?_ _)); exact BK292.out) Try.underlying37 rfl (by kernel_rfl)) rfl ?_
                              exact ⟨by first | rfl | (simp [errW_none, errW_some] <;> rfl) | (simp [*, errW_none, errW_some] <;> rfl), by repeat (first | (with_reducible first | exact HB.out | apply below_alloc | apply pw_below_drewN | apply below_drew1 | refine below_set ?_ GE291.out | refine below_set ?_ GE292.out | refine below_set ?_ GE297.out | refine below_set ?_ GE305.out) | exact HB.out)⟩
                          · rw [if_neg c69] at H
                            have c69b0 : (x298000_2 == a0_1) = false := beq_eq_false_iff_ne.mpr c69
                            have c69b1 : (x298000_2 != a0_1) = true := bne_iff_ne.mpr c69
                            simp only [Option.some.injEq, Prod.mk.injEq] at H
                            obtain ⟨rfl, rfl, rfl, rfl⟩ := H
                            have hnb89 := NB297_291.out
                            have hnc89 := NB291_297.out
                            have hnb90 := NB297_292.out
                            have hnc90 := NB292_297.out
                            have hnb91 := NB297_305.out
                            have hnc91 := NB305_297.out
                            have hcz92_0 : wc.cell? ⟨gb297, 0, none⟩ = some (.int .i64 x298000_2) := (blk_cell BK297.out 0).trans rfl
                            have hcz92_1 : wc.cell? ⟨gb297, 1, none⟩ = some (.int .i64 0) := (blk_cell BK297.out 1).trans rfl
                            have hcz92_2 : wc.cell? ⟨gb297, 2, none⟩ = some (.int .i64 (-1)) := (blk_cell BK297.out 2).trans rfl
                            have hfz92_0 := blk_frozen BK297.out 0
                            have hfz92_1 := blk_frozen BK297.out 1
                            have hfz92_2 := blk_frozen BK297.out 2
                            have hnb93 := NB291_292.out
                            have hnc93 := NB292_291.out
                            have hnb94 := NB291_305.out
                            have hnc94 := NB305_291.out
                            have hcz95_0 : wc.cell? ⟨gb291, 0, none⟩ = some (.int .i64 a0_0) := (blk_cell BK291.out 0).trans rfl
                            have hcz95_1 : wc.cell? ⟨gb291, 1, none⟩ = some (.int .i64 a0_1) := (blk_cell BK291.out 1).trans rfl
                            have hcz95_2 : wc.cell? ⟨gb291, 2, none⟩ = some (.int .i64 a0_2) := (blk_cell BK291.out 2).trans rfl
                            have hcz95_3 : wc.cell? ⟨gb291, 3, none⟩ = some (.int .i64 a0_3) := (blk_cell BK291.out 3).trans rfl
                            have hfz95_0 := blk_frozen BK291.out 0
                            have hfz95_1 := blk_frozen BK291.out 1
                            have hfz95_2 := blk_frozen BK291.out 2
                            have hfz95_3 := blk_frozen BK291.out 3
                            have hnb96 := NB292_305.out
                            have hnc96 := NB305_292.out
                            have hcz97_0 : wc.cell? ⟨gb292, 0, none⟩ = some (.int .i64 0) := (blk_cell BK292.out 0).trans rfl
                            have hcz97_1 : wc.cell? ⟨gb292, 1, none⟩ = some (.int .i64 0) := (blk_cell BK292.out 1).trans rfl
                            have hcz97_2 : wc.cell? ⟨gb292, 2, none⟩ = some (.int .i64 0) := (blk_cell BK292.out 2).trans rfl
                            have hfz97_0 := blk_frozen BK292.out 0
                            have hfz97_1 := blk_frozen BK292.out 1
                            have hfz97_2 := blk_frozen BK292.out 2
                            go_wp2
                            refine bodyPost_ret (results_ct rfl _ _ gb292 37 #[.int .i64 x298000_2, .int .i64 0, .int .i64 (-1)] (0, 0) _ rfl (by (with_reducible repeat (first | refine blk_drewN ?_ _ | refine blk_drew ?_ | refine blk_alloc ?_ _)); refine blk_put (cs := #[.int .i64 x298000_2, .int .i64 0, .int .i64 0]) ?_ 2 _ rfl; (with_reducible repeat (first | refine blk_drewN ?_ _ | refine blk_drew ?_ | refine blk_alloc ?_ _)); refine blk_put (cs := #[.int .i64 x298000_2, .int .i64 0, .int .i64 0]) ?_ 1 _ rfl; (with_reducible repeat (first | refine blk_drewN ?_ _ | refine blk_drew ?_ | refine blk_alloc ?_ _)); refine blk_put (cs := #[.int .i64 0, .int .i64 0, .int .i64 0]) ?_ 0 _ rfl; (with_reducible repeat (first | refine blk_drewN ?_ _ | refine blk_drew ?_ | refine blk_alloc ?_ _)); exact BK292.out) Try.underlying37 rfl (by kernel_rfl)) rfl ?_
                            exact ⟨by first | rfl | (simp [errW_none, errW_some] <;> rfl) | (simp [*, errW_none, errW_some] <;> rfl), by repeat (first | (with_reducible first | exact HB.out | apply below_alloc | apply pw_below_drewN | apply below_drew1 | refine below_set ?_ GE291.out | refine below_set ?_ GE292.out | refine below_set ?_ GE297.out | refine below_set ?_ GE305.out) | exact HB.out)⟩
                        · replace c68 := Bool.eq_false_iff.mpr c68
                          subst c68
                          have H1 : (if ((rd_T42 y301 x51_2).f1) ≤ x11_2 then (impl_Counted.l0 kj46 a2 x11_2 y301 (y301.length : Int) (wrap64 (x51_2 + 1)) a0_0 a0_1 a0_2 a0_3 x298000_2 0 (-1)) else (if (wrap64 (x298000_2 + (mn (mx 0 (wrap64 ((mn ((rd_T42 y301 x51_2).f0) a2) - x11_2))) (wrap64 (a0_1 - x298000_2))))) < a0_1 then (impl_Counted.l0 kj46 a2 (mx (wrap64 (x11_2 + (mn (mx 0 (wrap64 ((mn ((rd_T42 y301 x51_2).f0) a2) - x11_2))) (wrap64 (a0_1 - x298000_2))))) ((rd_T42 y301 x51_2).f1)) y301 (y301.length : Int) (wrap64 (x51_2 + 1)) a0_0 a0_1 a0_2 a0_3 (wrap64 (x298000_2 + (mn (mx 0 (wrap64 ((mn ((rd_T42 y301 x51_2).f0) a2) - x11_2))) (wrap64 (a0_1 - x298000_2))))) 0 (-1)) else (impl_Counted.l0 kj46 a2 (wrap64 (x11_2 + (mn (mx 0 (wrap64 ((mn ((rd_T42 y301 x51_2).f0) a2) - x11_2))) (wrap64 (a0_1 - x298000_2))))) y301 (y301.length : Int) (wrap64 (x51_2 + 1)) a0_0 a0_1 a0_2 a0_3 (wrap64 (x298000_2 + (mn (mx 0 (wrap64 ((mn ((rd_T42 y301 x51_2).f0) a2) - x11_2))) (wrap64 (a0_1 - x298000_2))))) 0 (-1)))) = some (r1, r2, r3, r4) := by rw [if_neg (show ¬ (false = true) by decide)] at H; exact H
                          clear H
                          have H := H1
                          clear H1
                          by_cases c98 : ((rd_T42 y301 x51_2).f1) ≤ x11_2
                          · rw [if_pos c98] at H
                            have c98b0 : decide (((rd_T42 y301 x51_2).f1) ≤ x11_2) = true := decide_eq_true c98
                            clear c98
                            have H' := Aside0.mk H
                            clear H
                            have hnb99 := NB305_291.out
                            have hnc99 := NB291_305.out
                            have hnb100 := NB305_292.out
                            have hnc100 := NB292_305.out
                            have hnb101 := NB305_297.out
                            have hnc101 := NB297_305.out
                            have hcz102_0 : wc.cell? ⟨gb305, 0, none⟩ = some (.int .i64 ((rd_T42 y301 x51_2).f0)) := (blk_cell BK305.out 0).trans rfl
                            have hcz102_1 : wc.cell? ⟨gb305, 1, none⟩ = some (.int .i64 ((rd_T42 y301 x51_2).f1)) := (blk_cell BK305.out 1).trans rfl
                            have hfz102_0 := blk_frozen BK305.out 0
                            have hfz102_1 := blk_frozen BK305.out 1
                            go_wp2
                            go_roundg kj46
                            case measure => have := HJ4.out; have := HK2.out; have := HJ46.out; omega
                            case rel => exact ⟨(x11_2), (wrap64 (x51_2 + 1)), (x298000_2), (by first | rfl | (simp; done) | (simp [*]; done) | (simp [wrap64]; done)), (by first | rfl | (simp; done) | (simp [*]; done) | (simp [wrap64]; done)), H', ⟨by have := HJ4.out; have := HK2.out; have := HJ46.out; omega⟩, ⟨by (with_reducible repeat (first | apply Kd.R_alloc | apply Kd.R_drewN | apply Kd.R_drew)); exact Kd.R_mono HO_49.out (fun _ hk => trivial)⟩, ⟨by (with_reducible repeat (first | refine blk_drewN ?_ _ | refine blk_drew ?_ | refine blk_alloc ?_ _)); exact BK291.out⟩, ⟨by (with_reducible repeat (first | refine blk_drewN ?_ _ | refine blk_drew ?_ | refine blk_alloc ?_ _)); exact BK292.out⟩, ⟨by (with_reducible repeat (first | refine blk_drewN ?_ _ | refine blk_drew ?_ | refine blk_alloc ?_ _)); exact BK297.out⟩, ⟨by repeat (first | (with_reducible first | exact HB.out | apply below_alloc | apply pw_below_drewN | apply below_drew1 | refine below_set ?_ GE291.out | refine below_set ?_ GE292.out | refine below_set ?_ GE297.out | refine below_set ?_ GE305.out) | exact HB.out)⟩⟩
                          · rw [if_neg c98] at H
                            have c98b0 : decide (((rd_T42 y301 x51_2).f1) ≤ x11_2) = false := decide_eq_false c98
                            clear c98
                            obtain ⟨ji103, hji103⟩ : ∃ j_ : Int, (mn ((rd_T42 y301 x51_2).f0) a2) = j_ := ⟨_, rfl⟩
                            replace H : (if (wrap64 (x298000_2 + (mn (mx 0 (wrap64 ((ji103) - x11_2))) (wrap64 (a0_1 - x298000_2))))) < a0_1 then (impl_Counted.l0 kj46 a2 (mx (wrap64 (x11_2 + (mn (mx 0 (wrap64 ((ji103) - x11_2))) (wrap64 (a0_1 - x298000_2))))) ((rd_T42 y301 x51_2).f1)) y301 (y301.length : Int) (wrap64 (x51_2 + 1)) a0_0 a0_1 a0_2 a0_3 (wrap64 (x298000_2 + (mn (mx 0 (wrap64 ((ji103) - x11_2))) (wrap64 (a0_1 - x298000_2))))) 0 (-1)) else (impl_Counted.l0 kj46 a2 (wrap64 (x11_2 + (mn (mx 0 (wrap64 ((ji103) - x11_2))) (wrap64 (a0_1 - x298000_2))))) y301 (y301.length : Int) (wrap64 (x51_2 + 1)) a0_0 a0_1 a0_2 a0_3 (wrap64 (x298000_2 + (mn (mx 0 (wrap64 ((ji103) - x11_2))) (wrap64 (a0_1 - x298000_2))))) 0 (-1))) = some (r1, r2, r3, r4) := by first | (rw [hji103] at H; exact H) | (simp only [hji103] at H ⊢; exact H)
                            have hji103_ : (if a2 < ((rd_T42 y301 x51_2).f0) then a2 else ((rd_T42 y301 x51_2).f0)) = ji103 := hji103
                            obtain ⟨ji104, hji104⟩ : ∃ j_ : Int, (mx 0 (wrap64 ((ji103) - x11_2))) = j_ := ⟨_, rfl⟩
                            replace H : (if (wrap64 (x298000_2 + (mn (ji104) (wrap64 (a0_1 - x298000_2))))) < a0_1 then (impl_Counted.l0 kj46 a2 (mx (wrap64 (x11_2 + (mn (ji104) (wrap64 (a0_1 - x298000_2))))) ((rd_T42 y301 x51_2).f1)) y301 (y301.length : Int) (wrap64 (x51_2 + 1)) a0_0 a0_1 a0_2 a0_3 (wrap64 (x298000_2 + (mn (ji104) (wrap64 (a0_1 - x298000_2))))) 0 (-1)) else (impl_Counted.l0 kj46 a2 (wrap64 (x11_2 + (mn (ji104) (wrap64 (a0_1 - x298000_2))))) y301 (y301.length : Int) (wrap64 (x51_2 + 1)) a0_0 a0_1 a0_2 a0_3 (wrap64 (x298000_2 + (mn (ji104) (wrap64 (a0_1 - x298000_2))))) 0 (-1))) = some (r1, r2, r3, r4) := by first | (rw [hji104] at H; exact H) | (simp only [hji104] at H ⊢; exact H)
                            have hji104_ : (if 0 < (wrap64 ((ji103) - x11_2)) then (wrap64 ((ji103) - x11_2)) else 0) = ji104 := hji104
                            obtain ⟨ji105, hji105⟩ : ∃ j_ : Int, (mn (ji104) (wrap64 (a0_1 - x298000_2))) = j_ := ⟨_, rfl⟩
                            replace H : (if (wrap64 (x298000_2 + (ji105))) < a0_1 then (impl_Counted.l0 kj46 a2 (mx (wrap64 (x11_2 + (ji105))) ((rd_T42 y301 x51_2).f1)) y301 (y301.length : Int) (wrap64 (x51_2 + 1)) a0_0 a0_1 a0_2 a0_3 (wrap64 (x298000_2 + (ji105))) 0 (-1)) else (impl_Counted.l0 kj46 a2 (wrap64 (x11_2 + (ji105))) y301 (y301.length : Int) (wrap64 (x51_2 + 1)) a0_0 a0_1 a0_2 a0_3 (wrap64 (x298000_2 + (ji105))) 0 (-1))) = some (r1, r2, r3, r4) := by first | (rw [hji105] at H; exact H) | (simp only [hji105] at H ⊢; exact H)
                            have hji105_ : (if (wrap64 (a0_1 - x298000_2)) < (ji104) then (wrap64 (a0_1 - x298000_2)) else (ji104)) = ji105 := hji105
                            by_cases c106 : (wrap64 (x298000_2 + (ji105))) < a0_1
                            · rw [if_pos c106] at H
                              have c106b0 : decide ((wrap64 (x298000_2 + (ji105))) < a0_1) = true := decide_eq_true c106
                              clear c106
                              obtain ⟨ji107, hji107⟩ : ∃ j_ : Int, (mx (wrap64 (x11_2 + (ji105))) ((rd_T42 y301 x51_2).f1)) = j_ := ⟨_, rfl⟩
                              replace H : (impl_Counted.l0 kj46 a2 ji107 y301 (y301.length : Int) (wrap64 (x51_2 + 1)) a0_0 a0_1 a0_2 a0_3 (wrap64 (x298000_2 + (ji105))) 0 (-1)) = some (r1, r2, r3, r4) := by first | (rw [hji107] at H; exact H) | (simp only [hji107] at H ⊢; exact H)
                              have hji107_ : (if (wrap64 (x11_2 + (ji105))) < ((rd_T42 y301 x51_2).f1) then ((rd_T42 y301 x51_2).f1) else (wrap64 (x11_2 + (ji105)))) = ji107 := hji107
                              have H' := Aside0.mk H
                              clear H
                              have hnb108 := NB305_291.out
                              have hnc108 := NB291_305.out
                              have hnb109 := NB305_292.out
                              have hnc109 := NB292_305.out
                              have hnb110 := NB305_297.out
                              have hnc110 := NB297_305.out
                              have hcz111_0 : wc.cell? ⟨gb305, 0, none⟩ = some (.int .i64 ((rd_T42 y301 x51_2).f0)) := (blk_cell BK305.out 0).trans rfl
                              have hcz111_1 : wc.cell? ⟨gb305, 1, none⟩ = some (.int .i64 ((rd_T42 y301 x51_2).f1)) := (blk_cell BK305.out 1).trans rfl
                              have hfz111_0 := blk_frozen BK305.out 0
                              have hfz111_1 := blk_frozen BK305.out 1
                              have hnb112 := NB291_292.out
                              have hnc112 := NB292_291.out
                              have hnb113 := NB291_297.out
                              have hnc113 := NB297_291.out
                              have hcz114_0 : wc.cell? ⟨gb291, 0, none⟩ = some (.int .i64 a0_0) := (blk_cell BK291.out 0).trans rfl
                              have hcz114_1 : wc.cell? ⟨gb291, 1, none⟩ = some (.int .i64 a0_1) := (blk_cell BK291.out 1).trans rfl
                              have hcz114_2 : wc.cell? ⟨gb291, 2, none⟩ = some (.int .i64 a0_2) := (blk_cell BK291.out 2).trans rfl
                              have hcz114_3 : wc.cell? ⟨gb291, 3, none⟩ = some (.int .i64 a0_3) := (blk_cell BK291.out 3).trans rfl
                              have hfz114_0 := blk_frozen BK291.out 0
                              have hfz114_1 := blk_frozen BK291.out 1
                              have hfz114_2 := blk_frozen BK291.out 2
                              have hfz114_3 := blk_frozen BK291.out 3
                              have hnb115 := NB297_292.out
                              have hnc115 := NB292_297.out
                              have hcz116_0 : wc.cell? ⟨gb297, 0, none⟩ = some (.int .i64 x298000_2) := (blk_cell BK297.out 0).trans rfl
                              have hcz116_1 : wc.cell? ⟨gb297, 1, none⟩ = some (.int .i64 0) := (blk_cell BK297.out 1).trans rfl
                              have hcz116_2 : wc.cell? ⟨gb297, 2, none⟩ = some (.int .i64 (-1)) := (blk_cell BK297.out 2).trans rfl
                              have hfz116_0 := blk_frozen BK297.out 0
                              have hfz116_1 := blk_frozen BK297.out 1
                              have hfz116_2 := blk_frozen BK297.out 2
                              go_wp2
                              (first | go_roundg kj46 | (simp only [← hji103, ← hji104, ← hji105, ← hji107]; go_roundg kj46))
                              case measure => have := HJ4.out; have := HK2.out; have := HJ46.out; omega
                              case rel => exact ⟨(ji107), (wrap64 (x51_2 + 1)), (wrap64 (x298000_2 + (ji105))), (by first | rfl | (simp; done) | (simp only [← hji107] <;> (first | rfl | simp)) | (simp [*]; done)), (by first | rfl | (simp; done) | (simp [*]; done) | (simp [wrap64]; done)), H', ⟨by have := HJ4.out; have := HK2.out; have := HJ46.out; omega⟩, ⟨by (with_reducible repeat (first | apply Kd.R_alloc | apply Kd.R_drewN | apply Kd.R_drew)); exact Kd.R_mono (Kd.R_far (p := ⟨gb297, 0, none⟩) (Kd.R_types HO_49.out BK297.out (by decide)) (fun _ hk => hk.2) (.int .i64 (wrap64 (x298000_2 + (ji105))))) (fun _ hk => trivial)⟩, ⟨by (with_reducible repeat (first | refine blk_drewN ?_ _ | refine blk_drew ?_ | refine blk_alloc ?_ _)); refine blk_far ?_ NB291_297.out _; (with_reducible repeat (first | refine blk_drewN ?_ _ | refine blk_drew ?_ | refine blk_alloc ?_ _)); exact BK291.out⟩, ⟨by (with_reducible repeat (first | refine blk_drewN ?_ _ | refine blk_drew ?_ | refine blk_alloc ?_ _)); refine blk_far ?_ NB292_297.out _; (with_reducible repeat (first | refine blk_drewN ?_ _ | refine blk_drew ?_ | refine blk_alloc ?_ _)); exact BK292.out⟩, ⟨by (with_reducible repeat (first | refine blk_drewN ?_ _ | refine blk_drew ?_ | refine blk_alloc ?_ _)); refine blk_put (cs := #[.int .i64 x298000_2, .int .i64 0, .int .i64 (-1)]) ?_ 0 _ (by first | rfl | (have h_ := hji107_; split at h_ <;> first | (rw [h_]; rfl) | (exfalso; omega))); (with_reducible repeat (first | refine blk_drewN ?_ _ | refine blk_drew ?_ | refine blk_alloc ?_ _)); exact BK297.out⟩, ⟨by repeat (first | (with_reducible first | exact HB.out | apply below_alloc | apply pw_below_drewN | apply below_drew1 | refine below_set ?_ GE291.out | refine below_set ?_ GE292.out | refine below_set ?_ GE297.out | refine below_set ?_ GE305.out) | exact HB.out)⟩⟩
                            · rw [if_neg c106] at H
                              have c106b0 : decide ((wrap64 (x298000_2 + (ji105))) < a0_1) = false := decide_eq_false c106
                              clear c106
                              have H' := Aside0.mk H
                              clear H
                              have hnb117 := NB305_291.out
                              have hnc117 := NB291_305.out
                              have hnb118 := NB305_292.out
                              have hnc118 := NB292_305.out
                              have hnb119 := NB305_297.out
                              have hnc119 := NB297_305.out
                              have hcz120_0 : wc.cell? ⟨gb305, 0, none⟩ = some (.int .i64 ((rd_T42 y301 x51_2).f0)) := (blk_cell BK305.out 0).trans rfl
                              have hcz120_1 : wc.cell? ⟨gb305, 1, none⟩ = some (.int .i64 ((rd_T42 y301 x51_2).f1)) := (blk_cell BK305.out 1).trans rfl
                              have hfz120_0 := blk_frozen BK305.out 0
                              have hfz120_1 := blk_frozen BK305.out 1
                              have hnb121 := NB291_292.out
                              have hnc121 := NB292_291.out
                              have hnb122 := NB291_297.out
                              have hnc122 := NB297_291.out
                              have hcz123_0 : wc.cell? ⟨gb291, 0, none⟩ = some (.int .i64 a0_0) := (blk_cell BK291.out 0).trans rfl
                              have hcz123_1 : wc.cell? ⟨gb291, 1, none⟩ = some (.int .i64 a0_1) := (blk_cell BK291.out 1).trans rfl
                              have hcz123_2 : wc.cell? ⟨gb291, 2, none⟩ = some (.int .i64 a0_2) := (blk_cell BK291.out 2).trans rfl
                              have hcz123_3 : wc.cell? ⟨gb291, 3, none⟩ = some (.int .i64 a0_3) := (blk_cell BK291.out 3).trans rfl
                              have hfz123_0 := blk_frozen BK291.out 0
                              have hfz123_1 := blk_frozen BK291.out 1
                              have hfz123_2 := blk_frozen BK291.out 2
                              have hfz123_3 := blk_frozen BK291.out 3
                              have hnb124 := NB297_292.out
                              have hnc124 := NB292_297.out
                              have hcz125_0 : wc.cell? ⟨gb297, 0, none⟩ = some (.int .i64 x298000_2) := (blk_cell BK297.out 0).trans rfl
                              have hcz125_1 : wc.cell? ⟨gb297, 1, none⟩ = some (.int .i64 0) := (blk_cell BK297.out 1).trans rfl
                              have hcz125_2 : wc.cell? ⟨gb297, 2, none⟩ = some (.int .i64 (-1)) := (blk_cell BK297.out 2).trans rfl
                              have hfz125_0 := blk_frozen BK297.out 0
                              have hfz125_1 := blk_frozen BK297.out 1
                              have hfz125_2 := blk_frozen BK297.out 2
                              go_wp2
                              (first | go_roundg kj46 | (simp only [← hji103, ← hji104, ← hji105]; go_roundg kj46))
                              case measure => have := HJ4.out; have := HK2.out; have := HJ46.out; omega
                              case rel => exact ⟨(wrap64 (x11_2 + (ji105))), (wrap64 (x51_2 + 1)), (wrap64 (x298000_2 + (ji105))), (by first | rfl | (simp; done) | (simp only [← hji105] <;> (first | rfl | simp)) | (simp [*]; done)), (by first | rfl | (simp; done) | (simp [*]; done) | (simp [wrap64]; done)), H', ⟨by have := HJ4.out; have := HK2.out; have := HJ46.out; omega⟩, ⟨by (with_reducible repeat (first | apply Kd.R_alloc | apply Kd.R_drewN | apply Kd.R_drew)); exact Kd.R_mono (Kd.R_far (p := ⟨gb297, 0, none⟩) (Kd.R_types HO_49.out BK297.out (by decide)) (fun _ hk => hk.2) (.int .i64 (wrap64 (x298000_2 + (ji105))))) (fun _ hk => trivial)⟩, ⟨by (with_reducible repeat (first | refine blk_drewN ?_ _ | refine blk_drew ?_ | refine blk_alloc ?_ _)); refine blk_far ?_ NB291_297.out _; (with_reducible repeat (first | refine blk_drewN ?_ _ | refine blk_drew ?_ | refine blk_alloc ?_ _)); exact BK291.out⟩, ⟨by (with_reducible repeat (first | refine blk_drewN ?_ _ | refine blk_drew ?_ | refine blk_alloc ?_ _)); refine blk_far ?_ NB292_297.out _; (with_reducible repeat (first | refine blk_drewN ?_ _ | refine blk_drew ?_ | refine blk_alloc ?_ _)); exact BK292.out⟩, ⟨by (with_reducible repeat (first | refine blk_drewN ?_ _ | refine blk_drew ?_ | refine blk_alloc ?_ _)); refine blk_put (cs := #[.int .i64 x298000_2, .int .i64 0, .int .i64 (-1)]) ?_ 0 _ (by first | rfl | (have h_ := hji105_; split at h_ <;> first | (rw [h_]; rfl) | (exfalso; omega))); (with_reducible repeat (first | refine blk_drewN ?_ _ | refine blk_drew ?_ | refine blk_alloc ?_ _)); exact BK297.out⟩, ⟨by repeat (first | (with_reducible first | exact HB.out | apply below_alloc | apply pw_below_drewN | apply below_drew1 | refine below_set ?_ GE291.out | refine below_set ?_ GE292.out | refine below_set ?_ GE297.out | refine below_set ?_ GE305.out) | exact HB.out)⟩⟩
                  · rw [if_neg c46] at H
                    exact absurd H (by simp)
                · rw [if_neg c45] at H
                  exact absurd H (by simp)
              · rw [if_neg c44] at H
                have c44b0 : decide (x51_2 < (y301.length : Int)) = false := decide_eq_false c44
                clear c44
                by_cases c126 : x298000_2 = a0_1
                · rw [if_pos c126] at H
                  have c126b0 : (x298000_2 == a0_1) = true := beq_iff_eq.mpr c126
                  have c126b1 : (x298000_2 != a0_1) = false := bne_eq_false_iff_eq.mpr c126
                  clear c126
                  by_cases c127 : x11_2 < a2
                  · rw [if_pos c127] at H
                    have c127b0 : decide (x11_2 < a2) = true := decide_eq_true c127
                    clear c127
                    simp only [Option.some.injEq, Prod.mk.injEq] at H
                    obtain ⟨rfl, rfl, rfl, rfl⟩ := H
                    have hnb128 := NB297_291.out
                    have hnc128 := NB291_297.out
                    have hnb129 := NB297_292.out
                    have hnc129 := NB292_297.out
                    have hcz130_0 : wr.cell? ⟨gb297, 0, none⟩ = some (.int .i64 x298000_2) := (blk_cell BK297.out 0).trans rfl
                    have hcz130_1 : wr.cell? ⟨gb297, 1, none⟩ = some (.int .i64 0) := (blk_cell BK297.out 1).trans rfl
                    have hcz130_2 : wr.cell? ⟨gb297, 2, none⟩ = some (.int .i64 (-1)) := (blk_cell BK297.out 2).trans rfl
                    have hfz130_0 := blk_frozen BK297.out 0
                    have hfz130_1 := blk_frozen BK297.out 1
                    have hfz130_2 := blk_frozen BK297.out 2
                    have hnb131 := NB291_292.out
                    have hnc131 := NB292_291.out
                    have hcz132_0 : wr.cell? ⟨gb291, 0, none⟩ = some (.int .i64 a0_0) := (blk_cell BK291.out 0).trans rfl
                    have hcz132_1 : wr.cell? ⟨gb291, 1, none⟩ = some (.int .i64 a0_1) := (blk_cell BK291.out 1).trans rfl
                    have hcz132_2 : wr.cell? ⟨gb291, 2, none⟩ = some (.int .i64 a0_2) := (blk_cell BK291.out 2).trans rfl
                    have hcz132_3 : wr.cell? ⟨gb291, 3, none⟩ = some (.int .i64 a0_3) := (blk_cell BK291.out 3).trans rfl
                    have hfz132_0 := blk_frozen BK291.out 0
                    have hfz132_1 := blk_frozen BK291.out 1
                    have hfz132_2 := blk_frozen BK291.out 2
                    have hfz132_3 := blk_frozen BK291.out 3
                    have hcz133_0 : wr.cell? ⟨gb292, 0, none⟩ = some (.int .i64 0) := (blk_cell BK292.out 0).trans rfl
                    have hcz133_1 : wr.cell? ⟨gb292, 1, none⟩ = some (.int .i64 0) := (blk_cell BK292.out 1).trans rfl
                    have hcz133_2 : wr.cell? ⟨gb292, 2, none⟩ = some (.int .i64 0) := (blk_cell BK292.out 2).trans rfl
                    have hfz133_0 := blk_frozen BK292.out 0
                    have hfz133_1 := blk_frozen BK292.out 1
                    have hfz133_2 := blk_frozen BK292.out 2
                    go_wp2
                    refine bodyPost_ret (results_ct rfl _ _ gb292 37 #[.int .i64 x298000_2, .int .i64 (wrap64 (a2 - x11_2)), .int .i64 x11_2] (0, 0) _ rfl (by (with_reducible repeat (first | refine blk_drewN ?_ _ | refine blk_drew ?_ | refine blk_alloc ?_ _)); refine blk_put (cs := #[.int .i64 x298000_2, .int .i64 (wrap64 (a2 - x11_2)), .int .i64 0]) ?_ 2 _ rfl; (with_reducible repeat (first | refine blk_drewN ?_ _ | refine blk_drew ?_ | refine blk_alloc ?_ _)); refine blk_put (cs := #[.int .i64 x298000_2, .int .i64 0, .int .i64 0]) ?_ 1 _ rfl; (with_reducible repeat (first | refine blk_drewN ?_ _ | refine blk_drew ?_ | refine blk_alloc ?_ _)); refine blk_put (cs := #[.int .i64 0, .int .i64 0, .int .i64 0]) ?_ 0 _ rfl; (with_reducible repeat (first | refine blk_drewN ?_ _ | refine blk_drew ?_ | refine blk_alloc ?_ _)); refine blk_far ?_ NB292_297.out _; (with_reducible repeat (first | refine blk_drewN ?_ _ | refine blk_drew ?_ | refine blk_alloc ?_ _)); refine blk_far ?_ NB292_297.out _; (with_reducible repeat (first | refine blk_drewN ?_ _ | refine blk_drew ?_ | refine blk_alloc ?_ _)); exact BK292.out) Try.underlying37 rfl (by kernel_rfl)) rfl ?_
                    exact ⟨by first | rfl | (simp [errW_none, errW_some] <;> rfl) | (simp [*, errW_none, errW_some] <;> rfl), by repeat (first | (with_reducible first | exact HB.out | apply below_alloc | apply pw_below_drewN | apply below_drew1 | refine below_set ?_ GE291.out | refine below_set ?_ GE292.out | refine below_set ?_ GE297.out) | exact HB.out)⟩
                  · rw [if_neg c127] at H
                    have c127b0 : decide (x11_2 < a2) = false := decide_eq_false c127
                    clear c127
                    simp only [Option.some.injEq, Prod.mk.injEq] at H
                    obtain ⟨rfl, rfl, rfl, rfl⟩ := H
                    have hnb134 := NB297_291.out
                    have hnc134 := NB291_297.out
                    have hnb135 := NB297_292.out
                    have hnc135 := NB292_297.out
                    have hcz136_0 : wr.cell? ⟨gb297, 0, none⟩ = some (.int .i64 x298000_2) := (blk_cell BK297.out 0).trans rfl
                    have hcz136_1 : wr.cell? ⟨gb297, 1, none⟩ = some (.int .i64 0) := (blk_cell BK297.out 1).trans rfl
                    have hcz136_2 : wr.cell? ⟨gb297, 2, none⟩ = some (.int .i64 (-1)) := (blk_cell BK297.out 2).trans rfl
                    have hfz136_0 := blk_frozen BK297.out 0
                    have hfz136_1 := blk_frozen BK297.out 1
                    have hfz136_2 := blk_frozen BK297.out 2
                    have hnb137 := NB291_292.out
                    have hnc137 := NB292_291.out
                    have hcz138_0 : wr.cell? ⟨gb291, 0, none⟩ = some (.int .i64 a0_0) := (blk_cell BK291.out 0).trans rfl
                    have hcz138_1 : wr.cell? ⟨gb291, 1, none⟩ = some (.int .i64 a0_1) := (blk_cell BK291.out 1).trans rfl
                    have hcz138_2 : wr.cell? ⟨gb291, 2, none⟩ = some (.int .i64 a0_2) := (blk_cell BK291.out 2).trans rfl
                    have hcz138_3 : wr.cell? ⟨gb291, 3, none⟩ = some (.int .i64 a0_3) := (blk_cell BK291.out 3).trans rfl
                    have hfz138_0 := blk_frozen BK291.out 0
                    have hfz138_1 := blk_frozen BK291.out 1
                    have hfz138_2 := blk_frozen BK291.out 2
                    have hfz138_3 := blk_frozen BK291.out 3
                    have hcz139_0 : wr.cell? ⟨gb292, 0, none⟩ = some (.int .i64 0) := (blk_cell BK292.out 0).trans rfl
                    have hcz139_1 : wr.cell? ⟨gb292, 1, none⟩ = some (.int .i64 0) := (blk_cell BK292.out 1).trans rfl
                    have hcz139_2 : wr.cell? ⟨gb292, 2, none⟩ = some (.int .i64 0) := (blk_cell BK292.out 2).trans rfl
                    have hfz139_0 := blk_frozen BK292.out 0
                    have hfz139_1 := blk_frozen BK292.out 1
                    have hfz139_2 := blk_frozen BK292.out 2
                    go_wp2
                    refine bodyPost_ret (results_ct rfl _ _ gb292 37 #[.int .i64 x298000_2, .int .i64 0, .int .i64 (-1)] (0, 0) _ rfl (by (with_reducible repeat (first | refine blk_drewN ?_ _ | refine blk_drew ?_ | refine blk_alloc ?_ _)); refine blk_put (cs := #[.int .i64 x298000_2, .int .i64 0, .int .i64 0]) ?_ 2 _ rfl; (with_reducible repeat (first | refine blk_drewN ?_ _ | refine blk_drew ?_ | refine blk_alloc ?_ _)); refine blk_put (cs := #[.int .i64 x298000_2, .int .i64 0, .int .i64 0]) ?_ 1 _ rfl; (with_reducible repeat (first | refine blk_drewN ?_ _ | refine blk_drew ?_ | refine blk_alloc ?_ _)); refine blk_put (cs := #[.int .i64 0, .int .i64 0, .int .i64 0]) ?_ 0 _ rfl; (with_reducible repeat (first | refine blk_drewN ?_ _ | refine blk_drew ?_ | refine blk_alloc ?_ _)); exact BK292.out) Try.underlying37 rfl (by kernel_rfl)) rfl ?_
                    exact ⟨by first | rfl | (simp [errW_none, errW_some] <;> rfl) | (simp [*, errW_none, errW_some] <;> rfl), by repeat (first | (with_reducible first | exact HB.out | apply below_alloc | apply pw_below_drewN | apply below_drew1 | refine below_set ?_ GE291.out | refine below_set ?_ GE292.out | refine below_set ?_ GE297.out) | exact HB.out)⟩
                · rw [if_neg c126] at H
                  have c126b0 : (x298000_2 == a0_1) = false := beq_eq_false_iff_ne.mpr c126
                  have c126b1 : (x298000_2 != a0_1) = true := bne_iff_ne.mpr c126
                  simp only [Option.some.injEq, Prod.mk.injEq] at H
                  obtain ⟨rfl, rfl, rfl, rfl⟩ := H
                  have hnb140 := NB297_291.out
                  have hnc140 := NB291_297.out
                  have hnb141 := NB297_292.out
                  have hnc141 := NB292_297.out
                  have hcz142_0 : wr.cell? ⟨gb297, 0, none⟩ = some (.int .i64 x298000_2) := (blk_cell BK297.out 0).trans rfl
                  have hcz142_1 : wr.cell? ⟨gb297, 1, none⟩ = some (.int .i64 0) := (blk_cell BK297.out 1).trans rfl
                  have hcz142_2 : wr.cell? ⟨gb297, 2, none⟩ = some (.int .i64 (-1)) := (blk_cell BK297.out 2).trans rfl
                  have hfz142_0 := blk_frozen BK297.out 0
                  have hfz142_1 := blk_frozen BK297.out 1
                  have hfz142_2 := blk_frozen BK297.out 2
                  have hnb143 := NB291_292.out
                  have hnc143 := NB292_291.out
                  have hcz144_0 : wr.cell? ⟨gb291, 0, none⟩ = some (.int .i64 a0_0) := (blk_cell BK291.out 0).trans rfl
                  have hcz144_1 : wr.cell? ⟨gb291, 1, none⟩ = some (.int .i64 a0_1) := (blk_cell BK291.out 1).trans rfl
                  have hcz144_2 : wr.cell? ⟨gb291, 2, none⟩ = some (.int .i64 a0_2) := (blk_cell BK291.out 2).trans rfl
                  have hcz144_3 : wr.cell? ⟨gb291, 3, none⟩ = some (.int .i64 a0_3) := (blk_cell BK291.out 3).trans rfl
                  have hfz144_0 := blk_frozen BK291.out 0
                  have hfz144_1 := blk_frozen BK291.out 1
                  have hfz144_2 := blk_frozen BK291.out 2
                  have hfz144_3 := blk_frozen BK291.out 3
                  have hcz145_0 : wr.cell? ⟨gb292, 0, none⟩ = some (.int .i64 0) := (blk_cell BK292.out 0).trans rfl
                  have hcz145_1 : wr.cell? ⟨gb292, 1, none⟩ = some (.int .i64 0) := (blk_cell BK292.out 1).trans rfl
                  have hcz145_2 : wr.cell? ⟨gb292, 2, none⟩ = some (.int .i64 0) := (blk_cell BK292.out 2).trans rfl
                  have hfz145_0 := blk_frozen BK292.out 0
                  have hfz145_1 := blk_frozen BK292.out 1
                  have hfz145_2 := blk_frozen BK292.out 2
                  go_wp2
                  refine bodyPost_ret (results_ct rfl _ _ gb292 37 #[.int .i64 x298000_2, .int .i64 0, .int .i64 (-1)] (0, 0) _ rfl (by (with_reducible repeat (first | refine blk_drewN ?_ _ | refine blk_drew ?_ | refine blk_alloc ?_ _)); refine blk_put (cs := #[.int .i64 x298000_2, .int .i64 0, .int .i64 0]) ?_ 2 _ rfl; (with_reducible repeat (first | refine blk_drewN ?_ _ | refine blk_drew ?_ | refine blk_alloc ?_ _)); refine blk_put (cs := #[.int .i64 x298000_2, .int .i64 0, .int .i64 0]) ?_ 1 _ rfl; (with_reducible repeat (first | refine blk_drewN ?_ _ | refine blk_drew ?_ | refine blk_alloc ?_ _)); refine blk_put (cs := #[.int .i64 0, .int .i64 0, .int .i64 0]) ?_ 0 _ rfl; (with_reducible repeat (first | refine blk_drewN ?_ _ | refine blk_drew ?_ | refine blk_alloc ?_ _)); exact BK292.out) Try.underlying37 rfl (by kernel_rfl)) rfl ?_
                  exact ⟨by first | rfl | (simp [errW_none, errW_some] <;> rfl) | (simp [*, errW_none, errW_some] <;> rfl), by repeat (first | (with_reducible first | exact HB.out | apply below_alloc | apply pw_below_drewN | apply below_drew1 | refine below_set ?_ GE291.out | refine below_set ?_ GE292.out | refine below_set ?_ GE297.out) | exact HB.out)⟩
        · rw [if_neg c36] at H
          exact absurd H (by simp)

end Go.Proofs.Ytpepdjghajphlaa.PFnLaid
