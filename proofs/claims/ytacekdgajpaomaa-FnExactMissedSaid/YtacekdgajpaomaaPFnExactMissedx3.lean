/- The Lean side of Go functions of this seat: what each answers, and that its run comes to that answer; written by a program of this work. -/
import Derived.Test.YtacekdgajpaomaaPFnExactMissedx0
import Derived.Test.YtacekdgajpaomaaPFnExactMissedx1
import Derived.Test.YtacekdgajpaomaaPFnExactMissedx2
namespace Go.Proofs.Ytacekdgajpaomaa.PFnExactMissed
open Go.RowKit Go.Proofs.YtacekdgajpaomaaW.PrintWords Go.Proofs.YtacekdgajpaomaaW.PrintLast Go.Proofs.YtacekdgajpaomaaW.PrintMore
attribute [local go_sem] max2_int min2_int max_two min_two max_three min_three max_four min_four   -- for this text's walks alone
set_option linter.unusedVariables false
set_option linter.unusedSimpArgs false

attribute [local go_sem high] eqA31
/-! ### impl_Missed: function 13 -/
mutual
def impl_Missed.j0 : Nat → List (S31) → List (S31) → Int → Bool → Option (List Int × Bool)
 | 0, _, _, _, _ => none
 | k + 1, x0, x1, x2, x35 => if x35 = true then (some (([] : List Int), false)) else (impl_Missed.l0 k x0 x1 x2 x0 (x0.length : Int) 0)
def impl_Missed.l0 : Nat → List (S31) → List (S31) → Int → List (S31) → Int → Int → Option (List Int × Bool)
 | 0, _, _, _, _, _, _ => none
 | k + 1, x0, x1, x2, x36, x37, x38 => if x38 < x37 then (if 0 ≤ x38 then (if x38 < (x36.length : Int) then (if x38 < (x1.length : Int) then (if (!(((rd_T31 x36 x38).f0) == ((rd_T31 x1 x38).f0)) || (!(((rd_T31 x36 x38).f1) == ((rd_T31 x1 x38).f1)) || (!(((rd_T31 x36 x38).f2) == ((rd_T31 x1 x38).f2)) || (!(((rd_T31 x36 x38).f5) == ((rd_T31 x1 x38).f5)))))) = true then (some (([] : List Int), false)) else (impl_Missed.l0 k x0 x1 x2 x36 x37 (wrap64 (x38 + 1)))) else (none)) else (none)) else (none)) else (impl_Missed.l1 k x0 x1 x2 ([] : List Int) x0 (x0.length : Int) 0)
def impl_Missed.l1 : Nat → List (S31) → List (S31) → Int → List Int → List (S31) → Int → Int → Option (List Int × Bool)
 | 0, _, _, _, _, _, _, _ => none
 | k + 1, x0, x1, x2, x11, x57, x58, x59 => if x59 < x58 then (if 0 ≤ x59 then (if x59 < (x57.length : Int) then (impl_Missed.l2 k x0 x1 x2 x11 x59 x57 x58 x59 x0 (x0.length : Int) 0 ((rd_T31 x57 x59).f0) ((rd_T31 x57 x59).f1) ((rd_T31 x57 x59).f2) ((rd_T31 x57 x59).f3) ((rd_T31 x57 x59).f4) ((rd_T31 x57 x59).f5)) else (none)) else (none)) else ((impl_own_int.f x11).bind fun t118 => (some (t118, true)))
def impl_Missed.l2 : Nat → List (S31) → List (S31) → Int → List Int → Int → List (S31) → Int → Int → List (S31) → Int → Int → Int → Int → Int → Int → Int → Int → Option (List Int × Bool)
 | 0, _, _, _, _, _, _, _, _, _, _, _, _, _, _, _, _, _ => none
 | k + 1, x0, x1, x2, x11, x12, x57, x58, x59, x64, x65, x66, x123000, x123001, x123002, x123003, x123004, x123005 => if x66 < x65 then (if 0 ≤ x66 then (if x66 < (x64.length : Int) then (if x123000 = ((rd_T31 x64 x66).f0) then (impl_Missed.l2 k x0 x1 x2 x11 x12 x57 x58 x59 x64 x65 (wrap64 (x66 + 1)) x123000 x123001 x123002 x123003 x123004 x123005) else ((impl_changes.f x123000 x123001 x123002 x123003 x123004 x123005 ((rd_T31 x64 x66).f0) ((rd_T31 x64 x66).f1) ((rd_T31 x64 x66).f2) ((rd_T31 x64 x66).f3) ((rd_T31 x64 x66).f4) ((rd_T31 x64 x66).f5) x2).bind fun t125 => (if t125 = true then (if 0 ≤ x12 then (if x12 < (x1.length : Int) then (if x66 < (x1.length : Int) then ((impl_changes.f ((rd_T31 x1 x12).f0) ((rd_T31 x1 x12).f1) ((rd_T31 x1 x12).f2) ((rd_T31 x1 x12).f3) ((rd_T31 x1 x12).f4) ((rd_T31 x1 x12).f5) ((rd_T31 x1 x66).f0) ((rd_T31 x1 x66).f1) ((rd_T31 x1 x66).f2) ((rd_T31 x1 x66).f3) ((rd_T31 x1 x66).f4) ((rd_T31 x1 x66).f5) x2).bind fun t128 => (if t128 = true then (impl_Missed.l2 k x0 x1 x2 x11 x12 x57 x58 x59 x64 x65 (wrap64 (x66 + 1)) x123000 x123001 x123002 x123003 x123004 x123005) else (if x11.length < 17592186044416 then (impl_Missed.l2 k x0 x1 x2 (x11 ++ [wrap64 ((wrap64 (x12 * (x0.length : Int))) + x66)]) x12 x57 x58 x59 x64 x65 (wrap64 (x66 + 1)) x123000 x123001 x123002 x123003 x123004 x123005) else (none)))) else (none)) else (none)) else (none)) else (impl_Missed.l2 k x0 x1 x2 x11 x12 x57 x58 x59 x64 x65 (wrap64 (x66 + 1)) x123000 x123001 x123002 x123003 x123004 x123005)))) else (none)) else (none)) else (impl_Missed.l1 k x0 x1 x2 x11 x57 x58 (wrap64 (x59 + 1)))
end
def impl_Missed.f (k : Nat) (l0 : List (S31)) (l1 : List (S31)) (a2 : Int) : Option (List Int × Bool) := (impl_LegsOk.f l0).bind fun t111 => (if t111 = true then ((impl_LegsOk.f l1).bind fun t112 => (if t112 = true then (if (l0.length : Int) = (l1.length : Int) then ((impl_in.f a2 0 10000).bind fun t113 => (impl_Missed.j0 k l0 l1 a2 (!t113))) else (impl_Missed.j0 k l0 l1 a2 true)) else (impl_Missed.j0 k l0 l1 a2 true))) else (impl_Missed.j0 k l0 l1 a2 true))
theorem impl_Missed.mono_l : ∀ k, (∀ y0 y1 y2 y3, LeO (impl_Missed.j0 k y0 y1 y2 y3) (impl_Missed.j0 (k + 1) y0 y1 y2 y3)) ∧ (∀ y0 y1 y2 y3 y4 y5, LeO (impl_Missed.l0 k y0 y1 y2 y3 y4 y5) (impl_Missed.l0 (k + 1) y0 y1 y2 y3 y4 y5)) ∧ (∀ y0 y1 y2 y3 y4 y5 y6, LeO (impl_Missed.l1 k y0 y1 y2 y3 y4 y5 y6) (impl_Missed.l1 (k + 1) y0 y1 y2 y3 y4 y5 y6)) ∧ (∀ y0 y1 y2 y3 y4 y5 y6 y7 y8 y9 y10 y11 y12 y13 y14 y15 y16, LeO (impl_Missed.l2 k y0 y1 y2 y3 y4 y5 y6 y7 y8 y9 y10 y11 y12 y13 y14 y15 y16) (impl_Missed.l2 (k + 1) y0 y1 y2 y3 y4 y5 y6 y7 y8 y9 y10 y11 y12 y13 y14 y15 y16))
 | 0 => ⟨fun _ _ _ _ r h => by simp [impl_Missed.j0] at h, fun _ _ _ _ _ _ r h => by simp [impl_Missed.l0] at h, fun _ _ _ _ _ _ _ r h => by simp [impl_Missed.l1] at h, fun _ _ _ _ _ _ _ _ _ _ _ _ _ _ _ _ _ r h => by simp [impl_Missed.l2] at h⟩
 | k + 1 => by
  obtain ⟨ih0, ih1, ih2, ih3⟩ := impl_Missed.mono_l k
  refine ⟨?_, ?_, ?_, ?_⟩
  ·intro y0 y1 y2 y3
   unfold impl_Missed.j0
   repeat' first
   | (with_reducible exact ih0 _ _ _ _)
   | (with_reducible exact ih1 _ _ _ _ _ _)
   | (with_reducible exact ih2 _ _ _ _ _ _ _)
   | (with_reducible exact ih3 _ _ _ _ _ _ _ _ _ _ _ _ _ _ _ _ _)
   | (with_reducible exact LeO.refl _)
   | (with_reducible exact LeO.none _)
   | (with_reducible refine LeO.ite ?_ ?_)
   | (with_reducible refine LeO.bind ?_ (fun _ => ?_))
   | exact ih0 _ _ _ _
   | exact ih1 _ _ _ _ _ _
   | exact ih2 _ _ _ _ _ _ _
   | exact ih3 _ _ _ _ _ _ _ _ _ _ _ _ _ _ _ _ _
   | exact LeO.none _
   | refine LeO.ite ?_ ?_
   | refine LeO.bind ?_ (fun _ => ?_)
  ·intro y0 y1 y2 y3 y4 y5
   unfold impl_Missed.l0
   repeat' first
   | (with_reducible exact ih0 _ _ _ _)
   | (with_reducible exact ih1 _ _ _ _ _ _)
   | (with_reducible exact ih2 _ _ _ _ _ _ _)
   | (with_reducible exact ih3 _ _ _ _ _ _ _ _ _ _ _ _ _ _ _ _ _)
   | (with_reducible exact LeO.refl _)
   | (with_reducible exact LeO.none _)
   | (with_reducible refine LeO.ite ?_ ?_)
   | (with_reducible refine LeO.bind ?_ (fun _ => ?_))
   | exact ih0 _ _ _ _
   | exact ih1 _ _ _ _ _ _
   | exact ih2 _ _ _ _ _ _ _
   | exact ih3 _ _ _ _ _ _ _ _ _ _ _ _ _ _ _ _ _
   | exact LeO.none _
   | refine LeO.ite ?_ ?_
   | refine LeO.bind ?_ (fun _ => ?_)
  ·intro y0 y1 y2 y3 y4 y5 y6
   unfold impl_Missed.l1
   repeat' first
   | (with_reducible exact ih0 _ _ _ _)
   | (with_reducible exact ih1 _ _ _ _ _ _)
   | (with_reducible exact ih2 _ _ _ _ _ _ _)
   | (with_reducible exact ih3 _ _ _ _ _ _ _ _ _ _ _ _ _ _ _ _ _)
   | (with_reducible exact LeO.refl _)
   | (with_reducible exact LeO.none _)
   | (with_reducible refine LeO.ite ?_ ?_)
   | (with_reducible refine LeO.bind ?_ (fun _ => ?_))
   | exact ih0 _ _ _ _
   | exact ih1 _ _ _ _ _ _
   | exact ih2 _ _ _ _ _ _ _
   | exact ih3 _ _ _ _ _ _ _ _ _ _ _ _ _ _ _ _ _
   | exact LeO.none _
   | refine LeO.ite ?_ ?_
   | refine LeO.bind ?_ (fun _ => ?_)
  ·intro y0 y1 y2 y3 y4 y5 y6 y7 y8 y9 y10 y11 y12 y13 y14 y15 y16
   unfold impl_Missed.l2
   repeat' first
   | (with_reducible exact ih0 _ _ _ _)
   | (with_reducible exact ih1 _ _ _ _ _ _)
   | (with_reducible exact ih2 _ _ _ _ _ _ _)
   | (with_reducible exact ih3 _ _ _ _ _ _ _ _ _ _ _ _ _ _ _ _ _)
   | (with_reducible exact LeO.refl _)
   | (with_reducible exact LeO.none _)
   | (with_reducible refine LeO.ite ?_ ?_)
   | (with_reducible refine LeO.bind ?_ (fun _ => ?_))
   | exact ih0 _ _ _ _
   | exact ih1 _ _ _ _ _ _
   | exact ih2 _ _ _ _ _ _ _
   | exact ih3 _ _ _ _ _ _ _ _ _ _ _ _ _ _ _ _ _
   | exact LeO.none _
   | refine LeO.ite ?_ ?_
   | refine LeO.bind ?_ (fun _ => ?_)
theorem impl_Missed.mono : ∀ a0 a1 a2 k, LeO (impl_Missed.f k a0 a1 a2) (impl_Missed.f (k + 1) a0 a1 a2) := by
 intro a0 a1 a2 k
 obtain ⟨ih0, ih1, ih2, ih3⟩ := impl_Missed.mono_l k
 unfold impl_Missed.f
 repeat' first
   | (with_reducible exact ih0 _ _ _ _)
   | (with_reducible exact ih1 _ _ _ _ _ _)
   | (with_reducible exact ih2 _ _ _ _ _ _ _)
   | (with_reducible exact ih3 _ _ _ _ _ _ _ _ _ _ _ _ _ _ _ _ _)
   | (with_reducible exact LeO.refl _)
   | (with_reducible exact LeO.none _)
   | (with_reducible refine LeO.ite ?_ ?_)
   | (with_reducible refine LeO.bind ?_ (fun _ => ?_))
   | exact ih0 _ _ _ _
   | exact ih1 _ _ _ _ _ _
   | exact ih2 _ _ _ _ _ _ _
   | exact ih3 _ _ _ _ _ _ _ _ _ _ _ _ _ _ _ _ _
   | exact LeO.none _
   | refine LeO.ite ?_ ?_
   | refine LeO.bind ?_ (fun _ => ?_)
def impl_Missed.T7 : Bool × List (List Nat × List Nat) := (true, [([], []), ([0], [0]), ([], []), ([2], [2]), ([0, 1], []), ([4, 1, 0, 1], [1, 4]), ([0, 1, 2, 3, 4, 5], []), ([6, 3, 5, 0, 1, 2, 3, 4, 5], [3, 6])])
def impl_Missed.B7 : List Nat := [0, 1, 0, 4, 3, 19, 63, 127]
theorem impl_Missed.tab7 : rtab .any (opsOf Try.f13 7) = impl_Missed.T7 := by kernel_rfl
theorem impl_Missed.bits7 : waitsOk impl_Missed.T7.2 impl_Missed.B7 = true := by kernel_rfl
def impl_Missed.T18 : Bool × List (List Nat × List Nat) := (true, [([], []), ([0], [0]), ([], []), ([2], [2]), ([1, 3], [1, 3]), ([4], [4]), ([5], [5]), ([5], [5]), ([5], [5]), ([6, 7, 8, 5, 5], [5, 6, 7, 8]), ([5, 9], [5, 9]), ([10, 9], [10]), ([11], [11]), ([11], [11]), ([12, 13, 11], [11, 12, 13]), ([14, 11], [11, 14]), ([11], [11]), ([11], [11]), ([16, 17, 11], [11, 16, 17]), ([18, 11], [11, 18]), ([11], [11]), ([15, 19, 20, 11, 11], [11, 15, 19, 20]), ([21, 11], [11, 21]), ([11, 22], [11, 22])])
def impl_Missed.B18 : List Nat := [0, 1, 0, 4, 15, 31, 63, 63, 63, 511, 1023, 2047, 4095, 4095, 16383, 32767, 4095, 4095, 200703, 462847, 4095, 2097151, 4194303, 8388607]
theorem impl_Missed.tab18 : rtab .any (opsOf Try.f13 18) = impl_Missed.T18 := by kernel_rfl
theorem impl_Missed.bits18 : waitsOk impl_Missed.T18.2 impl_Missed.B18 = true := by kernel_rfl
set_option maxHeartbeats 8000000 in
set_option maxRecDepth 100000 in
theorem impl_Missed.calls (k : Nat) (A0 : Option Addr) (c0 : Nat) (l0 : List (S31)) (A1 : Option Addr) (c1 : Nat) (l1 : List (S31)) (a2 : Int) (r1 : List Int) (r2 : Bool) (w : World) (hr0 : Kd.C k31 w A0 l0.length l0) (hc0 : l0.length ≤ c0) (hr1 : Kd.C k31 w A1 l1.length l1) (hc1 : l1.length ≤ c1) (h : impl_Missed.f k l0 l1 a2 = some (r1, r2)) :
  Calls Try.prog 13 #[.slice A0 l0.length c0, .slice A1 l1.length c1, .int .i64 a2] w fun e w' => ∃ v0_ : Value, e = .returned (.tuple #[v0_, .bool r2]) ∧ Kd.R (Kd.int .i64) 3 w' w.heap.size (fun _ => True) v0_ r1 ∧ Below w.heap.size w w' := by
 have hu31 := Try.underlying31
 have HR0 := Aside0.mk hr0
 have HC0 := Aside0.mk hc0
 clear hr0 hc0
 have HR1 := Aside0.mk hr1
 have HC1 := Aside0.mk hc1
 clear hr1 hc1
 have HB := Aside0.mk (Below.refl w.heap.size w)
 have H : ((impl_LegsOk.f l0).bind fun t111 => (if t111 = true then ((impl_LegsOk.f l1).bind fun t112 => (if t112 = true then (if (l0.length : Int) = (l1.length : Int) then ((impl_in.f a2 0 10000).bind fun t113 => (impl_Missed.j0 k l0 l1 a2 (!t113))) else (impl_Missed.j0 k l0 l1 a2 true)) else (impl_Missed.j0 k l0 l1 a2 true))) else (impl_Missed.j0 k l0 l1 a2 true))) = some (r1, r2) := h
 clear h
 have HC4 := Aside0.mk H
 clear H
 go_enter Try.func13, Try.ntmps13
 go_upto_region 1 with (fail)
 go_cut [35] (fun v35 wc => ∃ (kq : Nat) (x35_3 : Bool), v35 = .bool x35_3 ∧ Aside0 (impl_Missed.j0 kq l0 l1 a2 x35_3 = some (r1, r2)) ∧ Aside0 (kq ≤ k) ∧ Aside0 (Below w.heap.size w wc))
 case first =>
  have H := HC4.out
  clear HC4
  replace H := Option.bind_eq_some_iff.mp H
  obtain ⟨t111, A50, H⟩ := H
  replace H : (if t111 = true then ((impl_LegsOk.f l1).bind fun t112 => (if t112 = true then (if (l0.length : Int) = (l1.length : Int) then ((impl_in.f a2 0 10000).bind fun t113 => (impl_Missed.j0 k l0 l1 a2 (!t113))) else (impl_Missed.j0 k l0 l1 a2 true)) else (impl_Missed.j0 k l0 l1 a2 true))) else (impl_Missed.j0 k l0 l1 a2 true)) = some (r1, r2) := H
  have A5 := Aside0.mk A50
  clear A50
  by_cases c6 : t111 = true
  ·subst c6
   have H1 : ((impl_LegsOk.f l1).bind fun t112 => (if t112 = true then (if (l0.length : Int) = (l1.length : Int) then ((impl_in.f a2 0 10000).bind fun t113 => (impl_Missed.j0 k l0 l1 a2 (!t113))) else (impl_Missed.j0 k l0 l1 a2 true)) else (impl_Missed.j0 k l0 l1 a2 true))) = some (r1, r2) := by rw [if_pos rfl] at H; exact H
   clear H
   have H := H1
   clear H1
   replace H := Option.bind_eq_some_iff.mp H
   obtain ⟨t112, A70, H⟩ := H
   replace H : (if t112 = true then (if (l0.length : Int) = (l1.length : Int) then ((impl_in.f a2 0 10000).bind fun t113 => (impl_Missed.j0 k l0 l1 a2 (!t113))) else (impl_Missed.j0 k l0 l1 a2 true)) else (impl_Missed.j0 k l0 l1 a2 true)) = some (r1, r2) := H
   have A7 := Aside0.mk A70
   clear A70
   by_cases c8 : t112 = true
   ·subst c8
    have H1 : (if (l0.length : Int) = (l1.length : Int) then ((impl_in.f a2 0 10000).bind fun t113 => (impl_Missed.j0 k l0 l1 a2 (!t113))) else (impl_Missed.j0 k l0 l1 a2 true)) = some (r1, r2) := by rw [if_pos rfl] at H; exact H
    clear H
    have H := H1
    clear H1
    by_cases c9 : (l0.length : Int) = (l1.length : Int)
    ·rw [if_pos c9] at H
     have c9b0 : ((l0.length : Int) == (l1.length : Int)) = true := beq_iff_eq.mpr c9
     have c9b1 : ((l0.length : Int) != (l1.length : Int)) = false := bne_eq_false_iff_eq.mpr c9
     have c9b2 : (l0.length == l1.length) = true := by first | simpa using c9 | (simp at c9 ⊢; omega)
     clear c9
     (first | rw [c9b0] | (simp only [i64_w, i32_w]; rw [c9b0]) | skip)
     replace H := Option.bind_eq_some_iff.mp H
     obtain ⟨t113, A100, H⟩ := H
     replace H : (impl_Missed.j0 k l0 l1 a2 (!t113)) = some (r1, r2) := H
     have A10 := Aside0.mk A100
     clear A100
     have H' := Aside0.mk H
     clear H
     go_wp2_with (first | ((with_reducible refine gate_callee (f := 12) rfl ?_); refine goesL_ (some 17) rfl rfl Try.func12 (by kernel_rfl) rfl #[.slice A0 l0.length c0] rfl (by (try simp only [List.map_toArray, List.map_cons, List.map_nil]); first | done | rfl | (simp only [List.length_drop, List.length_take]; rfl)) ?_; (with_reducible refine (impl_LegsOk.calls _ _ l0 true _ ?side1 ?side2 A5.out).mono ?_); (case side1 => repeat (first | exact (Kd.C_below HR0.out HB.out) | (with_reducible refine Kd.C_alloc ?_ _) | (with_reducible refine Kd.C_drewN ?_ _) | (with_reducible refine Kd.C_drew ?_))); (case side2 => exact HC0.out); rintro e w11 ⟨rfl, hb⟩; refine ⟨_, rfl, ?_⟩; have n0_ := Aside0.mk (below_step (bel_ HB.out) hb); clear HB; have HB := n0_; clear n0_; (try clear hb); (try clear hb2); (try clear hk); (try clear hi)) | (go_at_call 12; (with_reducible refine (impl_LegsOk.calls _ _ l1 true _ ?side1 ?side2 A7.out).mono ?_); (case side1 => repeat (first | exact (Kd.C_below HR1.out HB.out) | (with_reducible refine Kd.C_alloc ?_ _) | (with_reducible refine Kd.C_drewN ?_ _) | (with_reducible refine Kd.C_drew ?_))); (case side2 => exact HC1.out); rintro e w12 ⟨rfl, hb⟩; have n0_ := Aside0.mk (below_step (bel_ HB.out) hb); clear HB; have HB := n0_; clear n0_; (try clear hb); (try clear hb2); (try clear hk); (try clear hi)) | (go_at_call 30; (with_reducible refine (impl_in.calls a2 0 10000 t113 _ A10.out).mono ?_); rintro e w' ⟨rfl, ⟨nd, rfl⟩⟩))
     go_meet
     case rel => exact ⟨_, (!t113), (by first | rfl | (simp; done) | (simp [*]; done) | (simp [wrap64]; done)), H', ⟨by first | omega | exact Nat.le_refl _⟩, ⟨bel_ HB.out⟩⟩
    ·rw [if_neg c9] at H
     have c9b0 : ((l0.length : Int) == (l1.length : Int)) = false := beq_eq_false_iff_ne.mpr c9
     have c9b1 : ((l0.length : Int) != (l1.length : Int)) = true := bne_iff_ne.mpr c9
     have c9b2 : (l0.length == l1.length) = false := by first | simpa using c9 | (simp at c9 ⊢; omega)
     (first | rw [c9b0] | (simp only [i64_w, i32_w]; rw [c9b0]) | skip)
     have H' := Aside0.mk H
     clear H
     go_wp2_with (first | ((with_reducible refine gate_callee (f := 12) rfl ?_); refine goesL_ (some 17) rfl rfl Try.func12 (by kernel_rfl) rfl #[.slice A0 l0.length c0] rfl (by (try simp only [List.map_toArray, List.map_cons, List.map_nil]); first | done | rfl | (simp only [List.length_drop, List.length_take]; rfl)) ?_; (with_reducible refine (impl_LegsOk.calls _ _ l0 true _ ?side1 ?side2 A5.out).mono ?_); (case side1 => repeat (first | exact (Kd.C_below HR0.out HB.out) | (with_reducible refine Kd.C_alloc ?_ _) | (with_reducible refine Kd.C_drewN ?_ _) | (with_reducible refine Kd.C_drew ?_))); (case side2 => exact HC0.out); rintro e w13 ⟨rfl, hb⟩; refine ⟨_, rfl, ?_⟩; have n0_ := Aside0.mk (below_step (bel_ HB.out) hb); clear HB; have HB := n0_; clear n0_; (try clear hb); (try clear hb2); (try clear hk); (try clear hi)) | (go_at_call 12; (with_reducible refine (impl_LegsOk.calls _ _ l1 true _ ?side1 ?side2 A7.out).mono ?_); (case side1 => repeat (first | exact (Kd.C_below HR1.out HB.out) | (with_reducible refine Kd.C_alloc ?_ _) | (with_reducible refine Kd.C_drewN ?_ _) | (with_reducible refine Kd.C_drew ?_))); (case side2 => exact HC1.out); rintro e w14 ⟨rfl, hb⟩; have n0_ := Aside0.mk (below_step (bel_ HB.out) hb); clear HB; have HB := n0_; clear n0_; (try clear hb); (try clear hb2); (try clear hk); (try clear hi)))
     go_meet
     case rel => exact ⟨_, (true), (by first | rfl | (simp; done) | (simp [*]; done) | (simp [wrap64]; done)), H', ⟨by first | omega | exact Nat.le_refl _⟩, ⟨bel_ HB.out⟩⟩
   ·replace c8 := Bool.eq_false_iff.mpr c8
    subst c8
    have H1 : (impl_Missed.j0 k l0 l1 a2 true) = some (r1, r2) := by rw [if_neg (show ¬ (false = true) by decide)] at H; exact H
    clear H
    have H := H1
    clear H1
    have H' := Aside0.mk H
    clear H
    go_wp2_with (first | ((with_reducible refine gate_callee (f := 12) rfl ?_); refine goesL_ (some 17) rfl rfl Try.func12 (by kernel_rfl) rfl #[.slice A0 l0.length c0] rfl (by (try simp only [List.map_toArray, List.map_cons, List.map_nil]); first | done | rfl | (simp only [List.length_drop, List.length_take]; rfl)) ?_; (with_reducible refine (impl_LegsOk.calls _ _ l0 true _ ?side1 ?side2 A5.out).mono ?_); (case side1 => repeat (first | exact (Kd.C_below HR0.out HB.out) | (with_reducible refine Kd.C_alloc ?_ _) | (with_reducible refine Kd.C_drewN ?_ _) | (with_reducible refine Kd.C_drew ?_))); (case side2 => exact HC0.out); rintro e w15 ⟨rfl, hb⟩; refine ⟨_, rfl, ?_⟩; have n0_ := Aside0.mk (below_step (bel_ HB.out) hb); clear HB; have HB := n0_; clear n0_; (try clear hb); (try clear hb2); (try clear hk); (try clear hi)) | (go_at_call 12; (with_reducible refine (impl_LegsOk.calls _ _ l1 false _ ?side1 ?side2 A7.out).mono ?_); (case side1 => repeat (first | exact (Kd.C_below HR1.out HB.out) | (with_reducible refine Kd.C_alloc ?_ _) | (with_reducible refine Kd.C_drewN ?_ _) | (with_reducible refine Kd.C_drew ?_))); (case side2 => exact HC1.out); rintro e w16 ⟨rfl, hb⟩; have n0_ := Aside0.mk (below_step (bel_ HB.out) hb); clear HB; have HB := n0_; clear n0_; (try clear hb); (try clear hb2); (try clear hk); (try clear hi)))
    go_meet
    case rel => exact ⟨_, (true), (by first | rfl | (simp; done) | (simp [*]; done) | (simp [wrap64]; done)), H', ⟨by first | omega | exact Nat.le_refl _⟩, ⟨bel_ HB.out⟩⟩
  ·replace c6 := Bool.eq_false_iff.mpr c6
   subst c6
   have H1 : (impl_Missed.j0 k l0 l1 a2 true) = some (r1, r2) := by rw [if_neg (show ¬ (false = true) by decide)] at H; exact H
   clear H
   have H := H1
   clear H1
   have H' := Aside0.mk H
   clear H
   go_wp2_with (first | ((with_reducible refine gate_callee (f := 12) rfl ?_); refine goesL_ (some 17) rfl rfl Try.func12 (by kernel_rfl) rfl #[.slice A0 l0.length c0] rfl (by (try simp only [List.map_toArray, List.map_cons, List.map_nil]); first | done | rfl | (simp only [List.length_drop, List.length_take]; rfl)) ?_; (with_reducible refine (impl_LegsOk.calls _ _ l0 false _ ?side1 ?side2 A5.out).mono ?_); (case side1 => repeat (first | exact (Kd.C_below HR0.out HB.out) | (with_reducible refine Kd.C_alloc ?_ _) | (with_reducible refine Kd.C_drewN ?_ _) | (with_reducible refine Kd.C_drew ?_))); (case side2 => exact HC0.out); rintro e w17 ⟨rfl, hb⟩; refine ⟨_, rfl, ?_⟩; have n0_ := Aside0.mk (below_step (bel_ HB.out) hb); clear HB; have HB := n0_; clear n0_; (try clear hb); (try clear hb2); (try clear hk); (try clear hi)))
   go_meet
   case rel => exact ⟨_, (true), (by first | rfl | (simp; done) | (simp [*]; done) | (simp [wrap64]; done)), H', ⟨by first | omega | exact Nat.le_refl _⟩, ⟨bel_ HB.out⟩⟩
 case rest =>
  clear HC4
  try clear c1
  obtain ⟨kq, x35_3, rfl, HA, HJ3, HB⟩ := hcut
  cases kq with
  | zero => exact absurd HA.out (by simp [impl_Missed.j0])
  | succ kj3 =>
   have H := HA.out
   clear HA
   simp only [impl_Missed.j0] at H
   by_cases c18 : x35_3 = true
   ·subst c18
    have H1 : (some (([] : List Int), false)) = some (r1, r2) := by rw [if_pos rfl] at H; exact H
    clear H
    have H := H1
    clear H1
    simp only [Option.some.injEq, Prod.mk.injEq] at H
    obtain ⟨rfl, rfl⟩ := H
    go_wp2
    go_ret2
    exact ⟨_, by first | rfl | (simp [errW_none, errW_some] <;> rfl) | (simp [*, errW_none, errW_some] <;> rfl), by first | exact Kd.R_nil _ _ _ _ _ | exact Kd.N_nil _ _ _ _ _ | exact Kd.V_nil _ _ _ _ _ | exact Kd.Q_nil _ _ _ _ _ | exact Kd.S_nil _ _ _ _ _, bel_ HB.out⟩
   ·replace c18 := Bool.eq_false_iff.mpr c18
    subst c18
    have H1 : (impl_Missed.l0 kj3 l0 l1 a2 l0 (l0.length : Int) 0) = some (r1, r2) := by rw [if_neg (show ¬ (false = true) by decide)] at H; exact H
    clear H
    have H := H1
    clear H1
    have H' := Aside0.mk H
    clear H
    go_wp2
    go_loopg [38] kj3 (fun kq v38 w' => ∃ (x38_2 : Int), v38 = .int .i64 x38_2 ∧ Aside0 (impl_Missed.l0 kq l0 l1 a2 l0 (l0.length : Int) x38_2 = some (r1, r2)) ∧ Aside0 (kq ≤ kj3) ∧ Aside0 (Below w.heap.size w w'))
    case atStart => exact ⟨(0), (by first | rfl | (simp; done) | (simp [*]; done) | (simp [wrap64]; done)), H', ⟨Nat.le_refl _⟩, ⟨bel_ HB.out⟩⟩
    case round =>
     clear H'
     try clear c1
     try clear c18
     obtain ⟨x38_2, rfl, HA, HK2, HB⟩ := hrel
     cases gk with
     | zero => exact absurd HA.out (by simp [impl_Missed.l0])
     | succ k2 =>
      have H := HA.out
      clear HA
      simp only [impl_Missed.l0] at H
      by_cases c19 : x38_2 < (l0.length : Int)
      ·rw [if_pos c19] at H
       have c19b0 : decide (x38_2 < (l0.length : Int)) = true := decide_eq_true c19
       clear c19
       by_cases c20 : 0 ≤ x38_2
       ·rw [if_pos c20] at H
        have c20b0 : decide (0 ≤ x38_2) = true := decide_eq_true c20
        clear c20
        by_cases c21 : x38_2 < (l0.length : Int)
        ·rw [if_pos c21] at H
         have c21b0 : decide (x38_2 < (l0.length : Int)) = true := decide_eq_true c21
         clear c21
         by_cases c22 : x38_2 < (l1.length : Int)
         ·rw [if_pos c22] at H
          have c22b0 : decide (x38_2 < (l1.length : Int)) = true := decide_eq_true c22
          clear c22
          by_cases c23 : (!(((rd_T31 l0 x38_2).f0) == ((rd_T31 l1 x38_2).f0)) || (!(((rd_T31 l0 x38_2).f1) == ((rd_T31 l1 x38_2).f1)) || (!(((rd_T31 l0 x38_2).f2) == ((rd_T31 l1 x38_2).f2)) || (!(((rd_T31 l0 x38_2).f5) == ((rd_T31 l1 x38_2).f5)))))) = true
          ·rw [if_pos c23] at H
           have c23b0 : (!(((rd_T31 l0 x38_2).f0) == ((rd_T31 l1 x38_2).f0)) || (!(((rd_T31 l0 x38_2).f1) == ((rd_T31 l1 x38_2).f1)) || (!(((rd_T31 l0 x38_2).f2) == ((rd_T31 l1 x38_2).f2)) || (!(((rd_T31 l0 x38_2).f5) == ((rd_T31 l1 x38_2).f5)))))) = true := c23
           clear c23
           simp only [Option.some.injEq, Prod.mk.injEq] at H
           obtain ⟨rfl, rfl⟩ := H
           have p114 : 0 ≤ (x38_2 : Int) := of_decide_eq_true (by first | (with_reducible assumption) | assumption)
           have q114 : x38_2 < (l0.length : Int) := of_decide_eq_true (by first | (with_reducible assumption) | assumption)
           obtain ⟨ad114, e114, hx114_0, hx114_1, hx114_2, hx114_3, hx114_4, hx114_5⟩ := at_T31 HR0.out x38_2 p114 q114
           cases e114
           replace hx114_0 := (HB.out.cell (World.block_lt_of_cell? w _ hx114_0)).trans hx114_0
           replace hx114_1 := (HB.out.cell (World.block_lt_of_cell? w _ hx114_1)).trans hx114_1
           replace hx114_2 := (HB.out.cell (World.block_lt_of_cell? w _ hx114_2)).trans hx114_2
           replace hx114_3 := (HB.out.cell (World.block_lt_of_cell? w _ hx114_3)).trans hx114_3
           replace hx114_4 := (HB.out.cell (World.block_lt_of_cell? w _ hx114_4)).trans hx114_4
           replace hx114_5 := (HB.out.cell (World.block_lt_of_cell? w _ hx114_5)).trans hx114_5
           replace p114 := eq_true p114
           replace q114 := eq_true q114
           try go_wp2_with (first | ((with_reducible refine gate_dst (N := 9) rfl ?_); (try (refine gate_guard (by rfl) ?_; dsimp only)); refine box_event ?hg (N := 9) ?hd (cs := #[.int .i64 0, .int .i64 0, .int .i64 0, .int .i64 0, .int .i64 0, .int .i64 0]) (t := 31) ?hr ?_; (case hd => rfl); (case hg => rfl); (case hr => first | (go_simp; done) | (go_simp; rfl)); intro gb115 hg w24 hbox hb; have n0_ := Aside0.mk (below_step (bel_ HB.out) hb); have n1_ := Aside0.mk (hbox); have n2_ := Aside0.mk ((by rw [hg]; exact (below_size (bel_ HB.out)) : w.heap.size ≤ gb115)); have n3_ := Aside0.mk ((by rw [hg]; exact (below_size (bel_ HB.out)) : w.heap.size ≤ gb115)); clear HB; have HB := n0_; have BK115 := n1_; have GW115 := n2_; have GE115 := n3_; clear n0_ n1_ n2_ n3_; clear hb hbox hg; have hcz25_0 : w24.cell? ⟨gb115, 0, none⟩ = some (.int .i64 0) := (blk_cell BK115.out 0).trans rfl; have hcz25_1 : w24.cell? ⟨gb115, 1, none⟩ = some (.int .i64 0) := (blk_cell BK115.out 1).trans rfl; have hcz25_2 : w24.cell? ⟨gb115, 2, none⟩ = some (.int .i64 0) := (blk_cell BK115.out 2).trans rfl; have hcz25_3 : w24.cell? ⟨gb115, 3, none⟩ = some (.int .i64 0) := (blk_cell BK115.out 3).trans rfl; have hcz25_4 : w24.cell? ⟨gb115, 4, none⟩ = some (.int .i64 0) := (blk_cell BK115.out 4).trans rfl; have hcz25_5 : w24.cell? ⟨gb115, 5, none⟩ = some (.int .i64 0) := (blk_cell BK115.out 5).trans rfl; have hfz25_0 := blk_frozen BK115.out 0; have hfz25_1 := blk_frozen BK115.out 1; have hfz25_2 := blk_frozen BK115.out 2; have hfz25_3 := blk_frozen BK115.out 3; have hfz25_4 := blk_frozen BK115.out 4; have hfz25_5 := blk_frozen BK115.out 5; have p116 : 0 ≤ (x38_2 : Int) := of_decide_eq_true (by first | (with_reducible assumption) | assumption); have q116 : x38_2 < (l1.length : Int) := of_decide_eq_true (by first | (with_reducible assumption) | assumption); obtain ⟨ad116, e116, hx116_0, hx116_1, hx116_2, hx116_3, hx116_4, hx116_5⟩ := at_T31 HR1.out x38_2 p116 q116; cases e116; have hn116_0 : ad116.block ≠ gb115 := Nat.ne_of_lt (Nat.lt_of_lt_of_le (by have := World.block_lt_of_cell? _ _ hx116_0; first | rwa [add_block] at this | exact this) GW115.out); have hn116_1 : ad116.block ≠ gb115 := Nat.ne_of_lt (Nat.lt_of_lt_of_le (by have := World.block_lt_of_cell? _ _ hx116_0; first | rwa [add_block] at this | exact this) GW115.out); have hn116_2 : ad116.block ≠ gb115 := Nat.ne_of_lt (Nat.lt_of_lt_of_le (by have := World.block_lt_of_cell? _ _ hx116_0; first | rwa [add_block] at this | exact this) GW115.out); have hn116_3 : ad116.block ≠ gb115 := Nat.ne_of_lt (Nat.lt_of_lt_of_le (by have := World.block_lt_of_cell? _ _ hx116_0; first | rwa [add_block] at this | exact this) GW115.out); have hn116_4 : ad116.block ≠ gb115 := Nat.ne_of_lt (Nat.lt_of_lt_of_le (by have := World.block_lt_of_cell? _ _ hx116_0; first | rwa [add_block] at this | exact this) GW115.out); have hn116_5 : ad116.block ≠ gb115 := Nat.ne_of_lt (Nat.lt_of_lt_of_le (by have := World.block_lt_of_cell? _ _ hx116_0; first | rwa [add_block] at this | exact this) GW115.out); replace hx116_0 := (HB.out.cell (World.block_lt_of_cell? w _ hx116_0)).trans hx116_0; replace hx116_1 := (HB.out.cell (World.block_lt_of_cell? w _ hx116_1)).trans hx116_1; replace hx116_2 := (HB.out.cell (World.block_lt_of_cell? w _ hx116_2)).trans hx116_2; replace hx116_3 := (HB.out.cell (World.block_lt_of_cell? w _ hx116_3)).trans hx116_3; replace hx116_4 := (HB.out.cell (World.block_lt_of_cell? w _ hx116_4)).trans hx116_4; replace hx116_5 := (HB.out.cell (World.block_lt_of_cell? w _ hx116_5)).trans hx116_5; replace hx116_0 := (cell_far (p := ⟨gb115, 0, none⟩) (by first | (rw [add_block]; exact hn116_0) | (show (Addr.add _ _).block ≠ _; rw [add_block]; exact hn116_0) | exact hn116_0) (.int .i64 ((rd_T31 l0 x38_2).f0))).trans hx116_0; replace hx116_1 := (cell_far (p := ⟨gb115, 0, none⟩) (by first | (rw [add_block]; exact hn116_0) | (show (Addr.add _ _).block ≠ _; rw [add_block]; exact hn116_0) | exact hn116_0) (.int .i64 ((rd_T31 l0 x38_2).f0))).trans hx116_1; replace hx116_2 := (cell_far (p := ⟨gb115, 0, none⟩) (by first | (rw [add_block]; exact hn116_0) | (show (Addr.add _ _).block ≠ _; rw [add_block]; exact hn116_0) | exact hn116_0) (.int .i64 ((rd_T31 l0 x38_2).f0))).trans hx116_2; replace hx116_3 := (cell_far (p := ⟨gb115, 0, none⟩) (by first | (rw [add_block]; exact hn116_0) | (show (Addr.add _ _).block ≠ _; rw [add_block]; exact hn116_0) | exact hn116_0) (.int .i64 ((rd_T31 l0 x38_2).f0))).trans hx116_3; replace hx116_4 := (cell_far (p := ⟨gb115, 0, none⟩) (by first | (rw [add_block]; exact hn116_0) | (show (Addr.add _ _).block ≠ _; rw [add_block]; exact hn116_0) | exact hn116_0) (.int .i64 ((rd_T31 l0 x38_2).f0))).trans hx116_4; replace hx116_5 := (cell_far (p := ⟨gb115, 0, none⟩) (by first | (rw [add_block]; exact hn116_0) | (show (Addr.add _ _).block ≠ _; rw [add_block]; exact hn116_0) | exact hn116_0) (.int .i64 ((rd_T31 l0 x38_2).f0))).trans hx116_5; replace hx116_0 := (cell_far (p := ⟨gb115, 1, none⟩) (by first | (rw [add_block]; exact hn116_1) | (show (Addr.add _ _).block ≠ _; rw [add_block]; exact hn116_1) | exact hn116_1) (.int .i64 ((rd_T31 l0 x38_2).f1))).trans hx116_0; replace hx116_1 := (cell_far (p := ⟨gb115, 1, none⟩) (by first | (rw [add_block]; exact hn116_1) | (show (Addr.add _ _).block ≠ _; rw [add_block]; exact hn116_1) | exact hn116_1) (.int .i64 ((rd_T31 l0 x38_2).f1))).trans hx116_1; replace hx116_2 := (cell_far (p := ⟨gb115, 1, none⟩) (by first | (rw [add_block]; exact hn116_1) | (show (Addr.add _ _).block ≠ _; rw [add_block]; exact hn116_1) | exact hn116_1) (.int .i64 ((rd_T31 l0 x38_2).f1))).trans hx116_2; replace hx116_3 := (cell_far (p := ⟨gb115, 1, none⟩) (by first | (rw [add_block]; exact hn116_1) | (show (Addr.add _ _).block ≠ _; rw [add_block]; exact hn116_1) | exact hn116_1) (.int .i64 ((rd_T31 l0 x38_2).f1))).trans hx116_3; replace hx116_4 := (cell_far (p := ⟨gb115, 1, none⟩) (by first | (rw [add_block]; exact hn116_1) | (show (Addr.add _ _).block ≠ _; rw [add_block]; exact hn116_1) | exact hn116_1) (.int .i64 ((rd_T31 l0 x38_2).f1))).trans hx116_4; replace hx116_5 := (cell_far (p := ⟨gb115, 1, none⟩) (by first | (rw [add_block]; exact hn116_1) | (show (Addr.add _ _).block ≠ _; rw [add_block]; exact hn116_1) | exact hn116_1) (.int .i64 ((rd_T31 l0 x38_2).f1))).trans hx116_5; replace hx116_0 := (cell_far (p := ⟨gb115, 2, none⟩) (by first | (rw [add_block]; exact hn116_2) | (show (Addr.add _ _).block ≠ _; rw [add_block]; exact hn116_2) | exact hn116_2) (.int .i64 ((rd_T31 l0 x38_2).f2))).trans hx116_0; replace hx116_1 := (cell_far (p := ⟨gb115, 2, none⟩) (by first | (rw [add_block]; exact hn116_2) | (show (Addr.add _ _).block ≠ _; rw [add_block]; exact hn116_2) | exact hn116_2) (.int .i64 ((rd_T31 l0 x38_2).f2))).trans hx116_1; replace hx116_2 := (cell_far (p := ⟨gb115, 2, none⟩) (by first | (rw [add_block]; exact hn116_2) | (show (Addr.add _ _).block ≠ _; rw [add_block]; exact hn116_2) | exact hn116_2) (.int .i64 ((rd_T31 l0 x38_2).f2))).trans hx116_2; replace hx116_3 := (cell_far (p := ⟨gb115, 2, none⟩) (by first | (rw [add_block]; exact hn116_2) | (show (Addr.add _ _).block ≠ _; rw [add_block]; exact hn116_2) | exact hn116_2) (.int .i64 ((rd_T31 l0 x38_2).f2))).trans hx116_3; replace hx116_4 := (cell_far (p := ⟨gb115, 2, none⟩) (by first | (rw [add_block]; exact hn116_2) | (show (Addr.add _ _).block ≠ _; rw [add_block]; exact hn116_2) | exact hn116_2) (.int .i64 ((rd_T31 l0 x38_2).f2))).trans hx116_4; replace hx116_5 := (cell_far (p := ⟨gb115, 2, none⟩) (by first | (rw [add_block]; exact hn116_2) | (show (Addr.add _ _).block ≠ _; rw [add_block]; exact hn116_2) | exact hn116_2) (.int .i64 ((rd_T31 l0 x38_2).f2))).trans hx116_5; replace hx116_0 := (cell_far (p := ⟨gb115, 3, none⟩) (by first | (rw [add_block]; exact hn116_3) | (show (Addr.add _ _).block ≠ _; rw [add_block]; exact hn116_3) | exact hn116_3) (.int .i64 ((rd_T31 l0 x38_2).f3))).trans hx116_0; replace hx116_1 := (cell_far (p := ⟨gb115, 3, none⟩) (by first | (rw [add_block]; exact hn116_3) | (show (Addr.add _ _).block ≠ _; rw [add_block]; exact hn116_3) | exact hn116_3) (.int .i64 ((rd_T31 l0 x38_2).f3))).trans hx116_1; replace hx116_2 := (cell_far (p := ⟨gb115, 3, none⟩) (by first | (rw [add_block]; exact hn116_3) | (show (Addr.add _ _).block ≠ _; rw [add_block]; exact hn116_3) | exact hn116_3) (.int .i64 ((rd_T31 l0 x38_2).f3))).trans hx116_2; replace hx116_3 := (cell_far (p := ⟨gb115, 3, none⟩) (by first | (rw [add_block]; exact hn116_3) | (show (Addr.add _ _).block ≠ _; rw [add_block]; exact hn116_3) | exact hn116_3) (.int .i64 ((rd_T31 l0 x38_2).f3))).trans hx116_3; replace hx116_4 := (cell_far (p := ⟨gb115, 3, none⟩) (by first | (rw [add_block]; exact hn116_3) | (show (Addr.add _ _).block ≠ _; rw [add_block]; exact hn116_3) | exact hn116_3) (.int .i64 ((rd_T31 l0 x38_2).f3))).trans hx116_4; replace hx116_5 := (cell_far (p := ⟨gb115, 3, none⟩) (by first | (rw [add_block]; exact hn116_3) | (show (Addr.add _ _).block ≠ _; rw [add_block]; exact hn116_3) | exact hn116_3) (.int .i64 ((rd_T31 l0 x38_2).f3))).trans hx116_5; replace hx116_0 := (cell_far (p := ⟨gb115, 4, none⟩) (by first | (rw [add_block]; exact hn116_4) | (show (Addr.add _ _).block ≠ _; rw [add_block]; exact hn116_4) | exact hn116_4) (.int .i64 ((rd_T31 l0 x38_2).f4))).trans hx116_0; replace hx116_1 := (cell_far (p := ⟨gb115, 4, none⟩) (by first | (rw [add_block]; exact hn116_4) | (show (Addr.add _ _).block ≠ _; rw [add_block]; exact hn116_4) | exact hn116_4) (.int .i64 ((rd_T31 l0 x38_2).f4))).trans hx116_1; replace hx116_2 := (cell_far (p := ⟨gb115, 4, none⟩) (by first | (rw [add_block]; exact hn116_4) | (show (Addr.add _ _).block ≠ _; rw [add_block]; exact hn116_4) | exact hn116_4) (.int .i64 ((rd_T31 l0 x38_2).f4))).trans hx116_2; replace hx116_3 := (cell_far (p := ⟨gb115, 4, none⟩) (by first | (rw [add_block]; exact hn116_4) | (show (Addr.add _ _).block ≠ _; rw [add_block]; exact hn116_4) | exact hn116_4) (.int .i64 ((rd_T31 l0 x38_2).f4))).trans hx116_3; replace hx116_4 := (cell_far (p := ⟨gb115, 4, none⟩) (by first | (rw [add_block]; exact hn116_4) | (show (Addr.add _ _).block ≠ _; rw [add_block]; exact hn116_4) | exact hn116_4) (.int .i64 ((rd_T31 l0 x38_2).f4))).trans hx116_4; replace hx116_5 := (cell_far (p := ⟨gb115, 4, none⟩) (by first | (rw [add_block]; exact hn116_4) | (show (Addr.add _ _).block ≠ _; rw [add_block]; exact hn116_4) | exact hn116_4) (.int .i64 ((rd_T31 l0 x38_2).f4))).trans hx116_5; replace hx116_0 := (cell_far (p := ⟨gb115, 5, none⟩) (by first | (rw [add_block]; exact hn116_5) | (show (Addr.add _ _).block ≠ _; rw [add_block]; exact hn116_5) | exact hn116_5) (.int .i64 ((rd_T31 l0 x38_2).f5))).trans hx116_0; replace hx116_1 := (cell_far (p := ⟨gb115, 5, none⟩) (by first | (rw [add_block]; exact hn116_5) | (show (Addr.add _ _).block ≠ _; rw [add_block]; exact hn116_5) | exact hn116_5) (.int .i64 ((rd_T31 l0 x38_2).f5))).trans hx116_1; replace hx116_2 := (cell_far (p := ⟨gb115, 5, none⟩) (by first | (rw [add_block]; exact hn116_5) | (show (Addr.add _ _).block ≠ _; rw [add_block]; exact hn116_5) | exact hn116_5) (.int .i64 ((rd_T31 l0 x38_2).f5))).trans hx116_2; replace hx116_3 := (cell_far (p := ⟨gb115, 5, none⟩) (by first | (rw [add_block]; exact hn116_5) | (show (Addr.add _ _).block ≠ _; rw [add_block]; exact hn116_5) | exact hn116_5) (.int .i64 ((rd_T31 l0 x38_2).f5))).trans hx116_3; replace hx116_4 := (cell_far (p := ⟨gb115, 5, none⟩) (by first | (rw [add_block]; exact hn116_5) | (show (Addr.add _ _).block ≠ _; rw [add_block]; exact hn116_5) | exact hn116_5) (.int .i64 ((rd_T31 l0 x38_2).f5))).trans hx116_4; replace hx116_5 := (cell_far (p := ⟨gb115, 5, none⟩) (by first | (rw [add_block]; exact hn116_5) | (show (Addr.add _ _).block ≠ _; rw [add_block]; exact hn116_5) | exact hn116_5) (.int .i64 ((rd_T31 l0 x38_2).f5))).trans hx116_5; clear hn116_0; clear hn116_1; clear hn116_2; clear hn116_3; clear hn116_4; clear hn116_5; replace p116 := eq_true p116; replace q116 := eq_true q116) | ((with_reducible refine gate_dst (N := 10) rfl ?_); (try (refine gate_guard (by rfl) ?_; dsimp only)); refine box_event ?hg (N := 10) ?hd (cs := #[.int .i64 0, .int .i64 0, .int .i64 0, .int .i64 0, .int .i64 0, .int .i64 0]) (t := 31) ?hr ?_; (case hd => rfl); (case hg => rfl); (case hr => first | (go_simp; done) | (go_simp; rfl)); intro gb117 hg w26 hbox hb; have n0_ := Aside0.mk (blk_below (g := gb115) (o := .cells #[.int .i64 ((rd_T31 l0 x38_2).f0), .int .i64 ((rd_T31 l0 x38_2).f1), .int .i64 ((rd_T31 l0 x38_2).f2), .int .i64 ((rd_T31 l0 x38_2).f3), .int .i64 ((rd_T31 l0 x38_2).f4), .int .i64 ((rd_T31 l0 x38_2).f5)] 31 (0, 0)) (by (with_reducible repeat (first | refine blk_drewN ?_ _ | refine blk_drew ?_ | refine blk_alloc ?_ _)); refine blk_put (cs := #[.int .i64 ((rd_T31 l0 x38_2).f0), .int .i64 ((rd_T31 l0 x38_2).f1), .int .i64 ((rd_T31 l0 x38_2).f2), .int .i64 ((rd_T31 l0 x38_2).f3), .int .i64 ((rd_T31 l0 x38_2).f4), .int .i64 0]) ?_ 5 _ rfl; (with_reducible repeat (first | refine blk_drewN ?_ _ | refine blk_drew ?_ | refine blk_alloc ?_ _)); refine blk_put (cs := #[.int .i64 ((rd_T31 l0 x38_2).f0), .int .i64 ((rd_T31 l0 x38_2).f1), .int .i64 ((rd_T31 l0 x38_2).f2), .int .i64 ((rd_T31 l0 x38_2).f3), .int .i64 0, .int .i64 0]) ?_ 4 _ rfl; (with_reducible repeat (first | refine blk_drewN ?_ _ | refine blk_drew ?_ | refine blk_alloc ?_ _)); refine blk_put (cs := #[.int .i64 ((rd_T31 l0 x38_2).f0), .int .i64 ((rd_T31 l0 x38_2).f1), .int .i64 ((rd_T31 l0 x38_2).f2), .int .i64 0, .int .i64 0, .int .i64 0]) ?_ 3 _ rfl; (with_reducible repeat (first | refine blk_drewN ?_ _ | refine blk_drew ?_ | refine blk_alloc ?_ _)); refine blk_put (cs := #[.int .i64 ((rd_T31 l0 x38_2).f0), .int .i64 ((rd_T31 l0 x38_2).f1), .int .i64 0, .int .i64 0, .int .i64 0, .int .i64 0]) ?_ 2 _ rfl; (with_reducible repeat (first | refine blk_drewN ?_ _ | refine blk_drew ?_ | refine blk_alloc ?_ _)); refine blk_put (cs := #[.int .i64 ((rd_T31 l0 x38_2).f0), .int .i64 0, .int .i64 0, .int .i64 0, .int .i64 0, .int .i64 0]) ?_ 1 _ rfl; (with_reducible repeat (first | refine blk_drewN ?_ _ | refine blk_drew ?_ | refine blk_alloc ?_ _)); refine blk_put (cs := #[.int .i64 0, .int .i64 0, .int .i64 0, .int .i64 0, .int .i64 0, .int .i64 0]) ?_ 0 _ rfl; (with_reducible repeat (first | refine blk_drewN ?_ _ | refine blk_drew ?_ | refine blk_alloc ?_ _)); exact BK115.out) hb); have n1_ := Aside0.mk (below_step (bel_ HB.out) hb); have n2_ := Aside0.mk (hbox); have n3_ := Aside0.mk ((by rw [hg]; exact (below_size (bel_ HB.out)) : w.heap.size ≤ gb117)); have n4_ := Aside0.mk ((by rw [hg]; exact (below_size (bel_ HB.out)) : w.heap.size ≤ gb117)); have n5_ := Aside0.mk ((by rw [hg]; exact Nat.ne_of_lt (blk_lt (g := gb115) (o := .cells #[.int .i64 ((rd_T31 l0 x38_2).f0), .int .i64 ((rd_T31 l0 x38_2).f1), .int .i64 ((rd_T31 l0 x38_2).f2), .int .i64 ((rd_T31 l0 x38_2).f3), .int .i64 ((rd_T31 l0 x38_2).f4), .int .i64 ((rd_T31 l0 x38_2).f5)] 31 (0, 0)) (by (with_reducible repeat (first | refine blk_drewN ?_ _ | refine blk_drew ?_ | refine blk_alloc ?_ _)); refine blk_put (cs := #[.int .i64 ((rd_T31 l0 x38_2).f0), .int .i64 ((rd_T31 l0 x38_2).f1), .int .i64 ((rd_T31 l0 x38_2).f2), .int .i64 ((rd_T31 l0 x38_2).f3), .int .i64 ((rd_T31 l0 x38_2).f4), .int .i64 0]) ?_ 5 _ rfl; (with_reducible repeat (first | refine blk_drewN ?_ _ | refine blk_drew ?_ | refine blk_alloc ?_ _)); refine blk_put (cs := #[.int .i64 ((rd_T31 l0 x38_2).f0), .int .i64 ((rd_T31 l0 x38_2).f1), .int .i64 ((rd_T31 l0 x38_2).f2), .int .i64 ((rd_T31 l0 x38_2).f3), .int .i64 0, .int .i64 0]) ?_ 4 _ rfl; (with_reducible repeat (first | refine blk_drewN ?_ _ | refine blk_drew ?_ | refine blk_alloc ?_ _)); refine blk_put (cs := #[.int .i64 ((rd_T31 l0 x38_2).f0), .int .i64 ((rd_T31 l0 x38_2).f1), .int .i64 ((rd_T31 l0 x38_2).f2), .int .i64 0, .int .i64 0, .int .i64 0]) ?_ 3 _ rfl; (with_reducible repeat (first | refine blk_drewN ?_ _ | refine blk_drew ?_ | refine blk_alloc ?_ _)); refine blk_put (cs := #[.int .i64 ((rd_T31 l0 x38_2).f0), .int .i64 ((rd_T31 l0 x38_2).f1), .int .i64 0, .int .i64 0, .int .i64 0, .int .i64 0]) ?_ 2 _ rfl; (with_reducible repeat (first | refine blk_drewN ?_ _ | refine blk_drew ?_ | refine blk_alloc ?_ _)); refine blk_put (cs := #[.int .i64 ((rd_T31 l0 x38_2).f0), .int .i64 0, .int .i64 0, .int .i64 0, .int .i64 0, .int .i64 0]) ?_ 1 _ rfl; (with_reducible repeat (first | refine blk_drewN ?_ _ | refine blk_drew ?_ | refine blk_alloc ?_ _)); refine blk_put (cs := #[.int .i64 0, .int .i64 0, .int .i64 0, .int .i64 0, .int .i64 0, .int .i64 0]) ?_ 0 _ rfl; (with_reducible repeat (first | refine blk_drewN ?_ _ | refine blk_drew ?_ | refine blk_alloc ?_ _)); exact BK115.out)) : gb115 ≠ gb117)); have n6_ := Aside0.mk ((by rw [hg]; exact Nat.ne_of_gt (blk_lt (g := gb115) (o := .cells #[.int .i64 ((rd_T31 l0 x38_2).f0), .int .i64 ((rd_T31 l0 x38_2).f1), .int .i64 ((rd_T31 l0 x38_2).f2), .int .i64 ((rd_T31 l0 x38_2).f3), .int .i64 ((rd_T31 l0 x38_2).f4), .int .i64 ((rd_T31 l0 x38_2).f5)] 31 (0, 0)) (by (with_reducible repeat (first | refine blk_drewN ?_ _ | refine blk_drew ?_ | refine blk_alloc ?_ _)); refine blk_put (cs := #[.int .i64 ((rd_T31 l0 x38_2).f0), .int .i64 ((rd_T31 l0 x38_2).f1), .int .i64 ((rd_T31 l0 x38_2).f2), .int .i64 ((rd_T31 l0 x38_2).f3), .int .i64 ((rd_T31 l0 x38_2).f4), .int .i64 0]) ?_ 5 _ rfl; (with_reducible repeat (first | refine blk_drewN ?_ _ | refine blk_drew ?_ | refine blk_alloc ?_ _)); refine blk_put (cs := #[.int .i64 ((rd_T31 l0 x38_2).f0), .int .i64 ((rd_T31 l0 x38_2).f1), .int .i64 ((rd_T31 l0 x38_2).f2), .int .i64 ((rd_T31 l0 x38_2).f3), .int .i64 0, .int .i64 0]) ?_ 4 _ rfl; (with_reducible repeat (first | refine blk_drewN ?_ _ | refine blk_drew ?_ | refine blk_alloc ?_ _)); refine blk_put (cs := #[.int .i64 ((rd_T31 l0 x38_2).f0), .int .i64 ((rd_T31 l0 x38_2).f1), .int .i64 ((rd_T31 l0 x38_2).f2), .int .i64 0, .int .i64 0, .int .i64 0]) ?_ 3 _ rfl; (with_reducible repeat (first | refine blk_drewN ?_ _ | refine blk_drew ?_ | refine blk_alloc ?_ _)); refine blk_put (cs := #[.int .i64 ((rd_T31 l0 x38_2).f0), .int .i64 ((rd_T31 l0 x38_2).f1), .int .i64 0, .int .i64 0, .int .i64 0, .int .i64 0]) ?_ 2 _ rfl; (with_reducible repeat (first | refine blk_drewN ?_ _ | refine blk_drew ?_ | refine blk_alloc ?_ _)); refine blk_put (cs := #[.int .i64 ((rd_T31 l0 x38_2).f0), .int .i64 0, .int .i64 0, .int .i64 0, .int .i64 0, .int .i64 0]) ?_ 1 _ rfl; (with_reducible repeat (first | refine blk_drewN ?_ _ | refine blk_drew ?_ | refine blk_alloc ?_ _)); refine blk_put (cs := #[.int .i64 0, .int .i64 0, .int .i64 0, .int .i64 0, .int .i64 0, .int .i64 0]) ?_ 0 _ rfl; (with_reducible repeat (first | refine blk_drewN ?_ _ | refine blk_drew ?_ | refine blk_alloc ?_ _)); exact BK115.out)) : gb117 ≠ gb115)); clear BK115; clear HB; have BK115 := n0_; have HB := n1_; have BK117 := n2_; have GW117 := n3_; have GE117 := n4_; have NB115_117 := n5_; have NB117_115 := n6_; clear n0_ n1_ n2_ n3_ n4_ n5_ n6_; clear hb hbox hg; have hnb27 := NB117_115.out; have hnc27 := NB115_117.out; have hcz28_0 : w26.cell? ⟨gb117, 0, none⟩ = some (.int .i64 0) := (blk_cell BK117.out 0).trans rfl; have hcz28_1 : w26.cell? ⟨gb117, 1, none⟩ = some (.int .i64 0) := (blk_cell BK117.out 1).trans rfl; have hcz28_2 : w26.cell? ⟨gb117, 2, none⟩ = some (.int .i64 0) := (blk_cell BK117.out 2).trans rfl; have hcz28_3 : w26.cell? ⟨gb117, 3, none⟩ = some (.int .i64 0) := (blk_cell BK117.out 3).trans rfl; have hcz28_4 : w26.cell? ⟨gb117, 4, none⟩ = some (.int .i64 0) := (blk_cell BK117.out 4).trans rfl; have hcz28_5 : w26.cell? ⟨gb117, 5, none⟩ = some (.int .i64 0) := (blk_cell BK117.out 5).trans rfl; have hfz28_0 := blk_frozen BK117.out 0; have hfz28_1 := blk_frozen BK117.out 1; have hfz28_2 := blk_frozen BK117.out 2; have hfz28_3 := blk_frozen BK117.out 3; have hfz28_4 := blk_frozen BK117.out 4; have hfz28_5 := blk_frozen BK117.out 5))
           have n0_ : Aside0 (((((((w26.setCell ⟨gb117, 0, none⟩ (.int .i64 ((rd_T31 l1 x38_2).f0))).setCell ⟨gb117, 1, none⟩ (.int .i64 ((rd_T31 l1 x38_2).f1))).setCell ⟨gb117, 2, none⟩ (.int .i64 ((rd_T31 l1 x38_2).f2))).setCell ⟨gb117, 3, none⟩ (.int .i64 ((rd_T31 l1 x38_2).f3))).setCell ⟨gb117, 4, none⟩ (.int .i64 ((rd_T31 l1 x38_2).f4))).setCell ⟨gb117, 5, none⟩ (.int .i64 ((rd_T31 l1 x38_2).f5))).heap[gb115]? = some (.cells #[.int .i64 ((rd_T31 l0 x38_2).f0), .int .i64 ((rd_T31 l0 x38_2).f1), .int .i64 ((rd_T31 l0 x38_2).f2), .int .i64 ((rd_T31 l0 x38_2).f3), .int .i64 ((rd_T31 l0 x38_2).f4), .int .i64 ((rd_T31 l0 x38_2).f5)] 31 (0, 0))) := ⟨by (with_reducible repeat (first | refine blk_drewN ?_ _ | refine blk_drew ?_ | refine blk_alloc ?_ _)); refine blk_far ?_ NB115_117.out _; (with_reducible repeat (first | refine blk_drewN ?_ _ | refine blk_drew ?_ | refine blk_alloc ?_ _)); refine blk_far ?_ NB115_117.out _; (with_reducible repeat (first | refine blk_drewN ?_ _ | refine blk_drew ?_ | refine blk_alloc ?_ _)); refine blk_far ?_ NB115_117.out _; (with_reducible repeat (first | refine blk_drewN ?_ _ | refine blk_drew ?_ | refine blk_alloc ?_ _)); refine blk_far ?_ NB115_117.out _; (with_reducible repeat (first | refine blk_drewN ?_ _ | refine blk_drew ?_ | refine blk_alloc ?_ _)); refine blk_far ?_ NB115_117.out _; (with_reducible repeat (first | refine blk_drewN ?_ _ | refine blk_drew ?_ | refine blk_alloc ?_ _)); refine blk_far ?_ NB115_117.out _; (with_reducible repeat (first | refine blk_drewN ?_ _ | refine blk_drew ?_ | refine blk_alloc ?_ _)); exact BK115.out⟩
           have n1_ : Aside0 (((((((w26.setCell ⟨gb117, 0, none⟩ (.int .i64 ((rd_T31 l1 x38_2).f0))).setCell ⟨gb117, 1, none⟩ (.int .i64 ((rd_T31 l1 x38_2).f1))).setCell ⟨gb117, 2, none⟩ (.int .i64 ((rd_T31 l1 x38_2).f2))).setCell ⟨gb117, 3, none⟩ (.int .i64 ((rd_T31 l1 x38_2).f3))).setCell ⟨gb117, 4, none⟩ (.int .i64 ((rd_T31 l1 x38_2).f4))).setCell ⟨gb117, 5, none⟩ (.int .i64 ((rd_T31 l1 x38_2).f5))).heap[gb117]? = some (.cells #[.int .i64 ((rd_T31 l1 x38_2).f0), .int .i64 ((rd_T31 l1 x38_2).f1), .int .i64 ((rd_T31 l1 x38_2).f2), .int .i64 ((rd_T31 l1 x38_2).f3), .int .i64 ((rd_T31 l1 x38_2).f4), .int .i64 ((rd_T31 l1 x38_2).f5)] 31 (0, 0))) := ⟨by (with_reducible repeat (first | refine blk_drewN ?_ _ | refine blk_drew ?_ | refine blk_alloc ?_ _)); refine blk_put (cs := #[.int .i64 ((rd_T31 l1 x38_2).f0), .int .i64 ((rd_T31 l1 x38_2).f1), .int .i64 ((rd_T31 l1 x38_2).f2), .int .i64 ((rd_T31 l1 x38_2).f3), .int .i64 ((rd_T31 l1 x38_2).f4), .int .i64 0]) ?_ 5 _ rfl; (with_reducible repeat (first | refine blk_drewN ?_ _ | refine blk_drew ?_ | refine blk_alloc ?_ _)); refine blk_put (cs := #[.int .i64 ((rd_T31 l1 x38_2).f0), .int .i64 ((rd_T31 l1 x38_2).f1), .int .i64 ((rd_T31 l1 x38_2).f2), .int .i64 ((rd_T31 l1 x38_2).f3), .int .i64 0, .int .i64 0]) ?_ 4 _ rfl; (with_reducible repeat (first | refine blk_drewN ?_ _ | refine blk_drew ?_ | refine blk_alloc ?_ _)); refine blk_put (cs := #[.int .i64 ((rd_T31 l1 x38_2).f0), .int .i64 ((rd_T31 l1 x38_2).f1), .int .i64 ((rd_T31 l1 x38_2).f2), .int .i64 0, .int .i64 0, .int .i64 0]) ?_ 3 _ rfl; (with_reducible repeat (first | refine blk_drewN ?_ _ | refine blk_drew ?_ | refine blk_alloc ?_ _)); refine blk_put (cs := #[.int .i64 ((rd_T31 l1 x38_2).f0), .int .i64 ((rd_T31 l1 x38_2).f1), .int .i64 0, .int .i64 0, .int .i64 0, .int .i64 0]) ?_ 2 _ rfl; (with_reducible repeat (first | refine blk_drewN ?_ _ | refine blk_drew ?_ | refine blk_alloc ?_ _)); refine blk_put (cs := #[.int .i64 ((rd_T31 l1 x38_2).f0), .int .i64 0, .int .i64 0, .int .i64 0, .int .i64 0, .int .i64 0]) ?_ 1 _ rfl; (with_reducible repeat (first | refine blk_drewN ?_ _ | refine blk_drew ?_ | refine blk_alloc ?_ _)); refine blk_put (cs := #[.int .i64 0, .int .i64 0, .int .i64 0, .int .i64 0, .int .i64 0, .int .i64 0]) ?_ 0 _ rfl; (with_reducible repeat (first | refine blk_drewN ?_ _ | refine blk_drew ?_ | refine blk_alloc ?_ _)); exact BK117.out⟩
           have n2_ : Aside0 (Below w.heap.size w ((((((w26.setCell ⟨gb117, 0, none⟩ (.int .i64 ((rd_T31 l1 x38_2).f0))).setCell ⟨gb117, 1, none⟩ (.int .i64 ((rd_T31 l1 x38_2).f1))).setCell ⟨gb117, 2, none⟩ (.int .i64 ((rd_T31 l1 x38_2).f2))).setCell ⟨gb117, 3, none⟩ (.int .i64 ((rd_T31 l1 x38_2).f3))).setCell ⟨gb117, 4, none⟩ (.int .i64 ((rd_T31 l1 x38_2).f4))).setCell ⟨gb117, 5, none⟩ (.int .i64 ((rd_T31 l1 x38_2).f5)))) := ⟨bel_ HB.out⟩
           (try clear BK115)
           (try clear BK117)
           (try clear HB)
           generalize ((((((w26.setCell ⟨gb117, 0, none⟩ (.int .i64 ((rd_T31 l1 x38_2).f0))).setCell ⟨gb117, 1, none⟩ (.int .i64 ((rd_T31 l1 x38_2).f1))).setCell ⟨gb117, 2, none⟩ (.int .i64 ((rd_T31 l1 x38_2).f2))).setCell ⟨gb117, 3, none⟩ (.int .i64 ((rd_T31 l1 x38_2).f3))).setCell ⟨gb117, 4, none⟩ (.int .i64 ((rd_T31 l1 x38_2).f4))).setCell ⟨gb117, 5, none⟩ (.int .i64 ((rd_T31 l1 x38_2).f5))) = w29 at n0_ n1_ n2_ ⊢
           have BK115 := n0_
           have BK117 := n1_
           have HB := n2_
           clear n0_ n1_ n2_
           have n0_ := Aside0.mk (blk_drew BK115.out)
           have n1_ := Aside0.mk (blk_drew BK117.out)
           have n2_ := Aside0.mk (below_drew1 HB.out)
           clear BK115
           clear BK117
           clear HB
           have BK115 := n0_
           have BK117 := n1_
           have HB := n2_
           clear n0_ n1_ n2_
           refine start_ (n := 8) (S := fun w' => w'.cell? ⟨gb117, 0, none⟩ = some (.int .i64 ((rd_T31 l1 x38_2).f0)) ∧ w'.cell? ⟨gb117, 1, none⟩ = some (.int .i64 ((rd_T31 l1 x38_2).f1)) ∧ w'.cell? ⟨gb117, 2, none⟩ = some (.int .i64 ((rd_T31 l1 x38_2).f2)) ∧ w'.cell? ⟨gb117, 3, none⟩ = some (.int .i64 ((rd_T31 l1 x38_2).f3)) ∧ w'.cell? ⟨gb117, 4, none⟩ = some (.int .i64 ((rd_T31 l1 x38_2).f4)) ∧ w'.cell? ⟨gb117, 5, none⟩ = some (.int .i64 ((rd_T31 l1 x38_2).f5))) (ds := []) (bs 8 0) (by kernel_rfl) rfl rfl ⟨(blk_cell BK117.out 0).trans rfl, (blk_cell BK117.out 1).trans rfl, (blk_cell BK117.out 2).trans rfl, (blk_cell BK117.out 3).trans rfl, (blk_cell BK117.out 4).trans rfl, (blk_cell BK117.out 5).trans rfl⟩ (fun hHeld => ?_); refine with_tabW impl_Missed.tab7 impl_Missed.bits7 (fun HT_ HW_ => ?_)
           generalize w29.drew = w30 at BK115 BK117 HB hHeld ⊢
           refine pu_ 0 47 HT_ (bs 8 1) rfl rfl ?_
           refine pu_ 2 49 HT_ (bs 8 5) rfl rfl ?_
           refine take_ (i := 1) (N := some 48) (v := ?_) (a' := ?_) (bs 8 7) rfl rfl (take_ofW HT_.out HW_.out (by kernel_rfl)) (fun _ _ _ h => h) (Or.inl ⟨by rfl, ?_⟩) hHeld ?_ ?_
           rotate_left
           ·rintro w' ⟨s0, s1, s2, s3, s4, s5⟩
            go_simp
            with_reducible rfl
           rotate_left
           ·simp only [Act.put, sA_, sZ_, sS_, i64_w, i32_w]
            rfl
           refine pu_ 4 51 HT_ (bs 8 23) rfl rfl ?_
           refine take_ (i := 3) (N := some 50) (v := ?_) (a' := ?_) (bs 8 31) rfl rfl (take_ofW HT_.out HW_.out (by kernel_rfl)) (fun _ _ _ h => h) (Or.inl ⟨by rfl, ?_⟩) hHeld ?_ ?_
           rotate_left
           ·rintro w' ⟨s0, s1, s2, s3, s4, s5⟩
            go_simp
            with_reducible rfl
           rotate_left
           ·simp only [Act.put, sA_, sZ_, sS_, i64_w, i32_w]
            rfl
           refine one_ (i := 5) (N := none) (bs 8 63) rfl rfl (one_of HT_.out (by kernel_rfl)) (by decide) (fun K hK => ?_)
           have hs31 : w30.cell? ⟨gb115, 3, none⟩ = some (.int .i64 ((rd_T31 l0 x38_2).f3)) := (blk_cell BK115.out 3).trans rfl
           have hfs31 := blk_frozen BK115.out 3
           have hns31_1 := NB117_115.out
           have hms31_1 := NB115_117.out
           refine skip_ (w1 := ?_) (by rfl) rfl ?_ ?_
           rotate_left
           ·go_simp
            rfl
           refine hK.out _ _ ⟨((cell_far (p := ⟨gb115, _, none⟩) NB117_115.out _).trans (hHeld.1)), ((cell_far (p := ⟨gb115, _, none⟩) NB117_115.out _).trans (hHeld.2.1)), ((cell_far (p := ⟨gb115, _, none⟩) NB117_115.out _).trans (hHeld.2.2.1)), ((cell_far (p := ⟨gb115, _, none⟩) NB117_115.out _).trans (hHeld.2.2.2.1)), ((cell_far (p := ⟨gb115, _, none⟩) NB117_115.out _).trans (hHeld.2.2.2.2.1)), ((cell_far (p := ⟨gb115, _, none⟩) NB117_115.out _).trans (hHeld.2.2.2.2.2))⟩ (fun hHeld => ?_)
           clear hK K
           refine pu_ 6 52 HT_ (bs 8 127) rfl rfl ?_
           refine one_ (i := 7) (N := none) (bs 8 255) rfl rfl (one_of HT_.out (by kernel_rfl)) (by decide) (fun K hK => ?_)
           have hs32 : w30.cell? ⟨gb115, 4, none⟩ = some (.int .i64 ((rd_T31 l0 x38_2).f4)) := (blk_cell BK115.out 4).trans rfl
           have hfs32 := blk_frozen BK115.out 4
           have hns32_1 := NB117_115.out
           have hms32_1 := NB115_117.out
           refine skip_ (w1 := ?_) (by rfl) rfl ?_ ?_
           rotate_left
           ·go_simp
            rfl
           refine hK.out _ _ ⟨((cell_far (p := ⟨gb115, _, none⟩) NB117_115.out _).trans (hHeld.1)), ((cell_far (p := ⟨gb115, _, none⟩) NB117_115.out _).trans (hHeld.2.1)), ((cell_far (p := ⟨gb115, _, none⟩) NB117_115.out _).trans (hHeld.2.2.1)), ((cell_far (p := ⟨gb115, _, none⟩) NB117_115.out _).trans (hHeld.2.2.2.1)), ((cell_far (p := ⟨gb115, _, none⟩) NB117_115.out _).trans (hHeld.2.2.2.2.1)), ((cell_far (p := ⟨gb115, _, none⟩) NB117_115.out _).trans (hHeld.2.2.2.2.2))⟩ (fun hHeld => ?_)
           clear hK K
           refine done_ (done_of HT_.out (by kernel_rfl)) ?_
           have hcz33_0 : w30.cell? ⟨gb115, 0, none⟩ = some (.int .i64 ((rd_T31 l0 x38_2).f0)) := (blk_cell BK115.out 0).trans rfl
           have hcz33_1 : w30.cell? ⟨gb115, 1, none⟩ = some (.int .i64 ((rd_T31 l0 x38_2).f1)) := (blk_cell BK115.out 1).trans rfl
           have hcz33_2 : w30.cell? ⟨gb115, 2, none⟩ = some (.int .i64 ((rd_T31 l0 x38_2).f2)) := (blk_cell BK115.out 2).trans rfl
           have hcz33_3 : w30.cell? ⟨gb115, 3, none⟩ = some (.int .i64 ((rd_T31 l0 x38_2).f3)) := (blk_cell BK115.out 3).trans rfl
           have hcz33_4 : w30.cell? ⟨gb115, 4, none⟩ = some (.int .i64 ((rd_T31 l0 x38_2).f4)) := (blk_cell BK115.out 4).trans rfl
           have hcz33_5 : w30.cell? ⟨gb115, 5, none⟩ = some (.int .i64 ((rd_T31 l0 x38_2).f5)) := (blk_cell BK115.out 5).trans rfl
           have hfz33_0 := blk_frozen BK115.out 0
           have hfz33_1 := blk_frozen BK115.out 1
           have hfz33_2 := blk_frozen BK115.out 2
           have hfz33_3 := blk_frozen BK115.out 3
           have hfz33_4 := blk_frozen BK115.out 4
           have hfz33_5 := blk_frozen BK115.out 5
           have hcz34_0 : w30.cell? ⟨gb117, 0, none⟩ = some (.int .i64 ((rd_T31 l1 x38_2).f0)) := (blk_cell BK117.out 0).trans rfl
           have hcz34_1 : w30.cell? ⟨gb117, 1, none⟩ = some (.int .i64 ((rd_T31 l1 x38_2).f1)) := (blk_cell BK117.out 1).trans rfl
           have hcz34_2 : w30.cell? ⟨gb117, 2, none⟩ = some (.int .i64 ((rd_T31 l1 x38_2).f2)) := (blk_cell BK117.out 2).trans rfl
           have hcz34_3 : w30.cell? ⟨gb117, 3, none⟩ = some (.int .i64 ((rd_T31 l1 x38_2).f3)) := (blk_cell BK117.out 3).trans rfl
           have hcz34_4 : w30.cell? ⟨gb117, 4, none⟩ = some (.int .i64 ((rd_T31 l1 x38_2).f4)) := (blk_cell BK117.out 4).trans rfl
           have hcz34_5 : w30.cell? ⟨gb117, 5, none⟩ = some (.int .i64 ((rd_T31 l1 x38_2).f5)) := (blk_cell BK117.out 5).trans rfl
           have hfz34_0 := blk_frozen BK117.out 0
           have hfz34_1 := blk_frozen BK117.out 1
           have hfz34_2 := blk_frozen BK117.out 2
           have hfz34_3 := blk_frozen BK117.out 3
           have hfz34_4 := blk_frozen BK117.out 4
           have hfz34_5 := blk_frozen BK117.out 5
           try go_wp2
           go_ret2
           exact ⟨_, by first | rfl | (simp [errW_none, errW_some] <;> rfl) | (simp [*, errW_none, errW_some] <;> rfl), by first | exact Kd.R_nil _ _ _ _ _ | exact Kd.N_nil _ _ _ _ _ | exact Kd.V_nil _ _ _ _ _ | exact Kd.Q_nil _ _ _ _ _ | exact Kd.S_nil _ _ _ _ _, bel_ HB.out⟩
          ·rw [if_neg c23] at H
           have c23b0 : (!(((rd_T31 l0 x38_2).f0) == ((rd_T31 l1 x38_2).f0)) || (!(((rd_T31 l0 x38_2).f1) == ((rd_T31 l1 x38_2).f1)) || (!(((rd_T31 l0 x38_2).f2) == ((rd_T31 l1 x38_2).f2)) || (!(((rd_T31 l0 x38_2).f5) == ((rd_T31 l1 x38_2).f5)))))) = false := by simpa using c23
           clear c23
           have H' := Aside0.mk H
           clear H
           have p114 : 0 ≤ (x38_2 : Int) := of_decide_eq_true (by first | (with_reducible assumption) | assumption)
           have q114 : x38_2 < (l0.length : Int) := of_decide_eq_true (by first | (with_reducible assumption) | assumption)
           obtain ⟨ad114, e114, hx114_0, hx114_1, hx114_2, hx114_3, hx114_4, hx114_5⟩ := at_T31 HR0.out x38_2 p114 q114
           cases e114
           replace hx114_0 := (HB.out.cell (World.block_lt_of_cell? w _ hx114_0)).trans hx114_0
           replace hx114_1 := (HB.out.cell (World.block_lt_of_cell? w _ hx114_1)).trans hx114_1
           replace hx114_2 := (HB.out.cell (World.block_lt_of_cell? w _ hx114_2)).trans hx114_2
           replace hx114_3 := (HB.out.cell (World.block_lt_of_cell? w _ hx114_3)).trans hx114_3
           replace hx114_4 := (HB.out.cell (World.block_lt_of_cell? w _ hx114_4)).trans hx114_4
           replace hx114_5 := (HB.out.cell (World.block_lt_of_cell? w _ hx114_5)).trans hx114_5
           replace p114 := eq_true p114
           replace q114 := eq_true q114
           try go_wp2_with (first | ((with_reducible refine gate_dst (N := 9) rfl ?_); (try (refine gate_guard (by rfl) ?_; dsimp only)); refine box_event ?hg (N := 9) ?hd (cs := #[.int .i64 0, .int .i64 0, .int .i64 0, .int .i64 0, .int .i64 0, .int .i64 0]) (t := 31) ?hr ?_; (case hd => rfl); (case hg => rfl); (case hr => first | (go_simp; done) | (go_simp; rfl)); intro gb115 hg w35 hbox hb; have n0_ := Aside0.mk (below_step (bel_ HB.out) hb); have n1_ := Aside0.mk (hbox); have n2_ := Aside0.mk ((by rw [hg]; exact (below_size (bel_ HB.out)) : w.heap.size ≤ gb115)); have n3_ := Aside0.mk ((by rw [hg]; exact (below_size (bel_ HB.out)) : w.heap.size ≤ gb115)); clear HB; have HB := n0_; have BK115 := n1_; have GW115 := n2_; have GE115 := n3_; clear n0_ n1_ n2_ n3_; clear hb hbox hg; have hcz36_0 : w35.cell? ⟨gb115, 0, none⟩ = some (.int .i64 0) := (blk_cell BK115.out 0).trans rfl; have hcz36_1 : w35.cell? ⟨gb115, 1, none⟩ = some (.int .i64 0) := (blk_cell BK115.out 1).trans rfl; have hcz36_2 : w35.cell? ⟨gb115, 2, none⟩ = some (.int .i64 0) := (blk_cell BK115.out 2).trans rfl; have hcz36_3 : w35.cell? ⟨gb115, 3, none⟩ = some (.int .i64 0) := (blk_cell BK115.out 3).trans rfl; have hcz36_4 : w35.cell? ⟨gb115, 4, none⟩ = some (.int .i64 0) := (blk_cell BK115.out 4).trans rfl; have hcz36_5 : w35.cell? ⟨gb115, 5, none⟩ = some (.int .i64 0) := (blk_cell BK115.out 5).trans rfl; have hfz36_0 := blk_frozen BK115.out 0; have hfz36_1 := blk_frozen BK115.out 1; have hfz36_2 := blk_frozen BK115.out 2; have hfz36_3 := blk_frozen BK115.out 3; have hfz36_4 := blk_frozen BK115.out 4; have hfz36_5 := blk_frozen BK115.out 5; have p116 : 0 ≤ (x38_2 : Int) := of_decide_eq_true (by first | (with_reducible assumption) | assumption); have q116 : x38_2 < (l1.length : Int) := of_decide_eq_true (by first | (with_reducible assumption) | assumption); obtain ⟨ad116, e116, hx116_0, hx116_1, hx116_2, hx116_3, hx116_4, hx116_5⟩ := at_T31 HR1.out x38_2 p116 q116; cases e116; have hn116_0 : ad116.block ≠ gb115 := Nat.ne_of_lt (Nat.lt_of_lt_of_le (by have := World.block_lt_of_cell? _ _ hx116_0; first | rwa [add_block] at this | exact this) GW115.out); have hn116_1 : ad116.block ≠ gb115 := Nat.ne_of_lt (Nat.lt_of_lt_of_le (by have := World.block_lt_of_cell? _ _ hx116_0; first | rwa [add_block] at this | exact this) GW115.out); have hn116_2 : ad116.block ≠ gb115 := Nat.ne_of_lt (Nat.lt_of_lt_of_le (by have := World.block_lt_of_cell? _ _ hx116_0; first | rwa [add_block] at this | exact this) GW115.out); have hn116_3 : ad116.block ≠ gb115 := Nat.ne_of_lt (Nat.lt_of_lt_of_le (by have := World.block_lt_of_cell? _ _ hx116_0; first | rwa [add_block] at this | exact this) GW115.out); have hn116_4 : ad116.block ≠ gb115 := Nat.ne_of_lt (Nat.lt_of_lt_of_le (by have := World.block_lt_of_cell? _ _ hx116_0; first | rwa [add_block] at this | exact this) GW115.out); have hn116_5 : ad116.block ≠ gb115 := Nat.ne_of_lt (Nat.lt_of_lt_of_le (by have := World.block_lt_of_cell? _ _ hx116_0; first | rwa [add_block] at this | exact this) GW115.out); replace hx116_0 := (HB.out.cell (World.block_lt_of_cell? w _ hx116_0)).trans hx116_0; replace hx116_1 := (HB.out.cell (World.block_lt_of_cell? w _ hx116_1)).trans hx116_1; replace hx116_2 := (HB.out.cell (World.block_lt_of_cell? w _ hx116_2)).trans hx116_2; replace hx116_3 := (HB.out.cell (World.block_lt_of_cell? w _ hx116_3)).trans hx116_3; replace hx116_4 := (HB.out.cell (World.block_lt_of_cell? w _ hx116_4)).trans hx116_4; replace hx116_5 := (HB.out.cell (World.block_lt_of_cell? w _ hx116_5)).trans hx116_5; replace hx116_0 := (cell_far (p := ⟨gb115, 0, none⟩) (by first | (rw [add_block]; exact hn116_0) | (show (Addr.add _ _).block ≠ _; rw [add_block]; exact hn116_0) | exact hn116_0) (.int .i64 ((rd_T31 l0 x38_2).f0))).trans hx116_0; replace hx116_1 := (cell_far (p := ⟨gb115, 0, none⟩) (by first | (rw [add_block]; exact hn116_0) | (show (Addr.add _ _).block ≠ _; rw [add_block]; exact hn116_0) | exact hn116_0) (.int .i64 ((rd_T31 l0 x38_2).f0))).trans hx116_1; replace hx116_2 := (cell_far (p := ⟨gb115, 0, none⟩) (by first | (rw [add_block]; exact hn116_0) | (show (Addr.add _ _).block ≠ _; rw [add_block]; exact hn116_0) | exact hn116_0) (.int .i64 ((rd_T31 l0 x38_2).f0))).trans hx116_2; replace hx116_3 := (cell_far (p := ⟨gb115, 0, none⟩) (by first | (rw [add_block]; exact hn116_0) | (show (Addr.add _ _).block ≠ _; rw [add_block]; exact hn116_0) | exact hn116_0) (.int .i64 ((rd_T31 l0 x38_2).f0))).trans hx116_3; replace hx116_4 := (cell_far (p := ⟨gb115, 0, none⟩) (by first | (rw [add_block]; exact hn116_0) | (show (Addr.add _ _).block ≠ _; rw [add_block]; exact hn116_0) | exact hn116_0) (.int .i64 ((rd_T31 l0 x38_2).f0))).trans hx116_4; replace hx116_5 := (cell_far (p := ⟨gb115, 0, none⟩) (by first | (rw [add_block]; exact hn116_0) | (show (Addr.add _ _).block ≠ _; rw [add_block]; exact hn116_0) | exact hn116_0) (.int .i64 ((rd_T31 l0 x38_2).f0))).trans hx116_5; replace hx116_0 := (cell_far (p := ⟨gb115, 1, none⟩) (by first | (rw [add_block]; exact hn116_1) | (show (Addr.add _ _).block ≠ _; rw [add_block]; exact hn116_1) | exact hn116_1) (.int .i64 ((rd_T31 l0 x38_2).f1))).trans hx116_0; replace hx116_1 := (cell_far (p := ⟨gb115, 1, none⟩) (by first | (rw [add_block]; exact hn116_1) | (show (Addr.add _ _).block ≠ _; rw [add_block]; exact hn116_1) | exact hn116_1) (.int .i64 ((rd_T31 l0 x38_2).f1))).trans hx116_1; replace hx116_2 := (cell_far (p := ⟨gb115, 1, none⟩) (by first | (rw [add_block]; exact hn116_1) | (show (Addr.add _ _).block ≠ _; rw [add_block]; exact hn116_1) | exact hn116_1) (.int .i64 ((rd_T31 l0 x38_2).f1))).trans hx116_2; replace hx116_3 := (cell_far (p := ⟨gb115, 1, none⟩) (by first | (rw [add_block]; exact hn116_1) | (show (Addr.add _ _).block ≠ _; rw [add_block]; exact hn116_1) | exact hn116_1) (.int .i64 ((rd_T31 l0 x38_2).f1))).trans hx116_3; replace hx116_4 := (cell_far (p := ⟨gb115, 1, none⟩) (by first | (rw [add_block]; exact hn116_1) | (show (Addr.add _ _).block ≠ _; rw [add_block]; exact hn116_1) | exact hn116_1) (.int .i64 ((rd_T31 l0 x38_2).f1))).trans hx116_4; replace hx116_5 := (cell_far (p := ⟨gb115, 1, none⟩) (by first | (rw [add_block]; exact hn116_1) | (show (Addr.add _ _).block ≠ _; rw [add_block]; exact hn116_1) | exact hn116_1) (.int .i64 ((rd_T31 l0 x38_2).f1))).trans hx116_5; replace hx116_0 := (cell_far (p := ⟨gb115, 2, none⟩) (by first | (rw [add_block]; exact hn116_2) | (show (Addr.add _ _).block ≠ _; rw [add_block]; exact hn116_2) | exact hn116_2) (.int .i64 ((rd_T31 l0 x38_2).f2))).trans hx116_0; replace hx116_1 := (cell_far (p := ⟨gb115, 2, none⟩) (by first | (rw [add_block]; exact hn116_2) | (show (Addr.add _ _).block ≠ _; rw [add_block]; exact hn116_2) | exact hn116_2) (.int .i64 ((rd_T31 l0 x38_2).f2))).trans hx116_1; replace hx116_2 := (cell_far (p := ⟨gb115, 2, none⟩) (by first | (rw [add_block]; exact hn116_2) | (show (Addr.add _ _).block ≠ _; rw [add_block]; exact hn116_2) | exact hn116_2) (.int .i64 ((rd_T31 l0 x38_2).f2))).trans hx116_2; replace hx116_3 := (cell_far (p := ⟨gb115, 2, none⟩) (by first | (rw [add_block]; exact hn116_2) | (show (Addr.add _ _).block ≠ _; rw [add_block]; exact hn116_2) | exact hn116_2) (.int .i64 ((rd_T31 l0 x38_2).f2))).trans hx116_3; replace hx116_4 := (cell_far (p := ⟨gb115, 2, none⟩) (by first | (rw [add_block]; exact hn116_2) | (show (Addr.add _ _).block ≠ _; rw [add_block]; exact hn116_2) | exact hn116_2) (.int .i64 ((rd_T31 l0 x38_2).f2))).trans hx116_4; replace hx116_5 := (cell_far (p := ⟨gb115, 2, none⟩) (by first | (rw [add_block]; exact hn116_2) | (show (Addr.add _ _).block ≠ _; rw [add_block]; exact hn116_2) | exact hn116_2) (.int .i64 ((rd_T31 l0 x38_2).f2))).trans hx116_5; replace hx116_0 := (cell_far (p := ⟨gb115, 3, none⟩) (by first | (rw [add_block]; exact hn116_3) | (show (Addr.add _ _).block ≠ _; rw [add_block]; exact hn116_3) | exact hn116_3) (.int .i64 ((rd_T31 l0 x38_2).f3))).trans hx116_0; replace hx116_1 := (cell_far (p := ⟨gb115, 3, none⟩) (by first | (rw [add_block]; exact hn116_3) | (show (Addr.add _ _).block ≠ _; rw [add_block]; exact hn116_3) | exact hn116_3) (.int .i64 ((rd_T31 l0 x38_2).f3))).trans hx116_1; replace hx116_2 := (cell_far (p := ⟨gb115, 3, none⟩) (by first | (rw [add_block]; exact hn116_3) | (show (Addr.add _ _).block ≠ _; rw [add_block]; exact hn116_3) | exact hn116_3) (.int .i64 ((rd_T31 l0 x38_2).f3))).trans hx116_2; replace hx116_3 := (cell_far (p := ⟨gb115, 3, none⟩) (by first | (rw [add_block]; exact hn116_3) | (show (Addr.add _ _).block ≠ _; rw [add_block]; exact hn116_3) | exact hn116_3) (.int .i64 ((rd_T31 l0 x38_2).f3))).trans hx116_3; replace hx116_4 := (cell_far (p := ⟨gb115, 3, none⟩) (by first | (rw [add_block]; exact hn116_3) | (show (Addr.add _ _).block ≠ _; rw [add_block]; exact hn116_3) | exact hn116_3) (.int .i64 ((rd_T31 l0 x38_2).f3))).trans hx116_4; replace hx116_5 := (cell_far (p := ⟨gb115, 3, none⟩) (by first | (rw [add_block]; exact hn116_3) | (show (Addr.add _ _).block ≠ _; rw [add_block]; exact hn116_3) | exact hn116_3) (.int .i64 ((rd_T31 l0 x38_2).f3))).trans hx116_5; replace hx116_0 := (cell_far (p := ⟨gb115, 4, none⟩) (by first | (rw [add_block]; exact hn116_4) | (show (Addr.add _ _).block ≠ _; rw [add_block]; exact hn116_4) | exact hn116_4) (.int .i64 ((rd_T31 l0 x38_2).f4))).trans hx116_0; replace hx116_1 := (cell_far (p := ⟨gb115, 4, none⟩) (by first | (rw [add_block]; exact hn116_4) | (show (Addr.add _ _).block ≠ _; rw [add_block]; exact hn116_4) | exact hn116_4) (.int .i64 ((rd_T31 l0 x38_2).f4))).trans hx116_1; replace hx116_2 := (cell_far (p := ⟨gb115, 4, none⟩) (by first | (rw [add_block]; exact hn116_4) | (show (Addr.add _ _).block ≠ _; rw [add_block]; exact hn116_4) | exact hn116_4) (.int .i64 ((rd_T31 l0 x38_2).f4))).trans hx116_2; replace hx116_3 := (cell_far (p := ⟨gb115, 4, none⟩) (by first | (rw [add_block]; exact hn116_4) | (show (Addr.add _ _).block ≠ _; rw [add_block]; exact hn116_4) | exact hn116_4) (.int .i64 ((rd_T31 l0 x38_2).f4))).trans hx116_3; replace hx116_4 := (cell_far (p := ⟨gb115, 4, none⟩) (by first | (rw [add_block]; exact hn116_4) | (show (Addr.add _ _).block ≠ _; rw [add_block]; exact hn116_4) | exact hn116_4) (.int .i64 ((rd_T31 l0 x38_2).f4))).trans hx116_4; replace hx116_5 := (cell_far (p := ⟨gb115, 4, none⟩) (by first | (rw [add_block]; exact hn116_4) | (show (Addr.add _ _).block ≠ _; rw [add_block]; exact hn116_4) | exact hn116_4) (.int .i64 ((rd_T31 l0 x38_2).f4))).trans hx116_5; replace hx116_0 := (cell_far (p := ⟨gb115, 5, none⟩) (by first | (rw [add_block]; exact hn116_5) | (show (Addr.add _ _).block ≠ _; rw [add_block]; exact hn116_5) | exact hn116_5) (.int .i64 ((rd_T31 l0 x38_2).f5))).trans hx116_0; replace hx116_1 := (cell_far (p := ⟨gb115, 5, none⟩) (by first | (rw [add_block]; exact hn116_5) | (show (Addr.add _ _).block ≠ _; rw [add_block]; exact hn116_5) | exact hn116_5) (.int .i64 ((rd_T31 l0 x38_2).f5))).trans hx116_1; replace hx116_2 := (cell_far (p := ⟨gb115, 5, none⟩) (by first | (rw [add_block]; exact hn116_5) | (show (Addr.add _ _).block ≠ _; rw [add_block]; exact hn116_5) | exact hn116_5) (.int .i64 ((rd_T31 l0 x38_2).f5))).trans hx116_2; replace hx116_3 := (cell_far (p := ⟨gb115, 5, none⟩) (by first | (rw [add_block]; exact hn116_5) | (show (Addr.add _ _).block ≠ _; rw [add_block]; exact hn116_5) | exact hn116_5) (.int .i64 ((rd_T31 l0 x38_2).f5))).trans hx116_3; replace hx116_4 := (cell_far (p := ⟨gb115, 5, none⟩) (by first | (rw [add_block]; exact hn116_5) | (show (Addr.add _ _).block ≠ _; rw [add_block]; exact hn116_5) | exact hn116_5) (.int .i64 ((rd_T31 l0 x38_2).f5))).trans hx116_4; replace hx116_5 := (cell_far (p := ⟨gb115, 5, none⟩) (by first | (rw [add_block]; exact hn116_5) | (show (Addr.add _ _).block ≠ _; rw [add_block]; exact hn116_5) | exact hn116_5) (.int .i64 ((rd_T31 l0 x38_2).f5))).trans hx116_5; clear hn116_0; clear hn116_1; clear hn116_2; clear hn116_3; clear hn116_4; clear hn116_5; replace p116 := eq_true p116; replace q116 := eq_true q116) | ((with_reducible refine gate_dst (N := 10) rfl ?_); (try (refine gate_guard (by rfl) ?_; dsimp only)); refine box_event ?hg (N := 10) ?hd (cs := #[.int .i64 0, .int .i64 0, .int .i64 0, .int .i64 0, .int .i64 0, .int .i64 0]) (t := 31) ?hr ?_; (case hd => rfl); (case hg => rfl); (case hr => first | (go_simp; done) | (go_simp; rfl)); intro gb117 hg w37 hbox hb; have n0_ := Aside0.mk (blk_below (g := gb115) (o := .cells #[.int .i64 ((rd_T31 l0 x38_2).f0), .int .i64 ((rd_T31 l0 x38_2).f1), .int .i64 ((rd_T31 l0 x38_2).f2), .int .i64 ((rd_T31 l0 x38_2).f3), .int .i64 ((rd_T31 l0 x38_2).f4), .int .i64 ((rd_T31 l0 x38_2).f5)] 31 (0, 0)) (by (with_reducible repeat (first | refine blk_drewN ?_ _ | refine blk_drew ?_ | refine blk_alloc ?_ _)); refine blk_put (cs := #[.int .i64 ((rd_T31 l0 x38_2).f0), .int .i64 ((rd_T31 l0 x38_2).f1), .int .i64 ((rd_T31 l0 x38_2).f2), .int .i64 ((rd_T31 l0 x38_2).f3), .int .i64 ((rd_T31 l0 x38_2).f4), .int .i64 0]) ?_ 5 _ rfl; (with_reducible repeat (first | refine blk_drewN ?_ _ | refine blk_drew ?_ | refine blk_alloc ?_ _)); refine blk_put (cs := #[.int .i64 ((rd_T31 l0 x38_2).f0), .int .i64 ((rd_T31 l0 x38_2).f1), .int .i64 ((rd_T31 l0 x38_2).f2), .int .i64 ((rd_T31 l0 x38_2).f3), .int .i64 0, .int .i64 0]) ?_ 4 _ rfl; (with_reducible repeat (first | refine blk_drewN ?_ _ | refine blk_drew ?_ | refine blk_alloc ?_ _)); refine blk_put (cs := #[.int .i64 ((rd_T31 l0 x38_2).f0), .int .i64 ((rd_T31 l0 x38_2).f1), .int .i64 ((rd_T31 l0 x38_2).f2), .int .i64 0, .int .i64 0, .int .i64 0]) ?_ 3 _ rfl; (with_reducible repeat (first | refine blk_drewN ?_ _ | refine blk_drew ?_ | refine blk_alloc ?_ _)); refine blk_put (cs := #[.int .i64 ((rd_T31 l0 x38_2).f0), .int .i64 ((rd_T31 l0 x38_2).f1), .int .i64 0, .int .i64 0, .int .i64 0, .int .i64 0]) ?_ 2 _ rfl; (with_reducible repeat (first | refine blk_drewN ?_ _ | refine blk_drew ?_ | refine blk_alloc ?_ _)); refine blk_put (cs := #[.int .i64 ((rd_T31 l0 x38_2).f0), .int .i64 0, .int .i64 0, .int .i64 0, .int .i64 0, .int .i64 0]) ?_ 1 _ rfl; (with_reducible repeat (first | refine blk_drewN ?_ _ | refine blk_drew ?_ | refine blk_alloc ?_ _)); refine blk_put (cs := #[.int .i64 0, .int .i64 0, .int .i64 0, .int .i64 0, .int .i64 0, .int .i64 0]) ?_ 0 _ rfl; (with_reducible repeat (first | refine blk_drewN ?_ _ | refine blk_drew ?_ | refine blk_alloc ?_ _)); exact BK115.out) hb); have n1_ := Aside0.mk (below_step (bel_ HB.out) hb); have n2_ := Aside0.mk (hbox); have n3_ := Aside0.mk ((by rw [hg]; exact (below_size (bel_ HB.out)) : w.heap.size ≤ gb117)); have n4_ := Aside0.mk ((by rw [hg]; exact (below_size (bel_ HB.out)) : w.heap.size ≤ gb117)); have n5_ := Aside0.mk ((by rw [hg]; exact Nat.ne_of_lt (blk_lt (g := gb115) (o := .cells #[.int .i64 ((rd_T31 l0 x38_2).f0), .int .i64 ((rd_T31 l0 x38_2).f1), .int .i64 ((rd_T31 l0 x38_2).f2), .int .i64 ((rd_T31 l0 x38_2).f3), .int .i64 ((rd_T31 l0 x38_2).f4), .int .i64 ((rd_T31 l0 x38_2).f5)] 31 (0, 0)) (by (with_reducible repeat (first | refine blk_drewN ?_ _ | refine blk_drew ?_ | refine blk_alloc ?_ _)); refine blk_put (cs := #[.int .i64 ((rd_T31 l0 x38_2).f0), .int .i64 ((rd_T31 l0 x38_2).f1), .int .i64 ((rd_T31 l0 x38_2).f2), .int .i64 ((rd_T31 l0 x38_2).f3), .int .i64 ((rd_T31 l0 x38_2).f4), .int .i64 0]) ?_ 5 _ rfl; (with_reducible repeat (first | refine blk_drewN ?_ _ | refine blk_drew ?_ | refine blk_alloc ?_ _)); refine blk_put (cs := #[.int .i64 ((rd_T31 l0 x38_2).f0), .int .i64 ((rd_T31 l0 x38_2).f1), .int .i64 ((rd_T31 l0 x38_2).f2), .int .i64 ((rd_T31 l0 x38_2).f3), .int .i64 0, .int .i64 0]) ?_ 4 _ rfl; (with_reducible repeat (first | refine blk_drewN ?_ _ | refine blk_drew ?_ | refine blk_alloc ?_ _)); refine blk_put (cs := #[.int .i64 ((rd_T31 l0 x38_2).f0), .int .i64 ((rd_T31 l0 x38_2).f1), .int .i64 ((rd_T31 l0 x38_2).f2), .int .i64 0, .int .i64 0, .int .i64 0]) ?_ 3 _ rfl; (with_reducible repeat (first | refine blk_drewN ?_ _ | refine blk_drew ?_ | refine blk_alloc ?_ _)); refine blk_put (cs := #[.int .i64 ((rd_T31 l0 x38_2).f0), .int .i64 ((rd_T31 l0 x38_2).f1), .int .i64 0, .int .i64 0, .int .i64 0, .int .i64 0]) ?_ 2 _ rfl; (with_reducible repeat (first | refine blk_drewN ?_ _ | refine blk_drew ?_ | refine blk_alloc ?_ _)); refine blk_put (cs := #[.int .i64 ((rd_T31 l0 x38_2).f0), .int .i64 0, .int .i64 0, .int .i64 0, .int .i64 0, .int .i64 0]) ?_ 1 _ rfl; (with_reducible repeat (first | refine blk_drewN ?_ _ | refine blk_drew ?_ | refine blk_alloc ?_ _)); refine blk_put (cs := #[.int .i64 0, .int .i64 0, .int .i64 0, .int .i64 0, .int .i64 0, .int .i64 0]) ?_ 0 _ rfl; (with_reducible repeat (first | refine blk_drewN ?_ _ | refine blk_drew ?_ | refine blk_alloc ?_ _)); exact BK115.out)) : gb115 ≠ gb117)); have n6_ := Aside0.mk ((by rw [hg]; exact Nat.ne_of_gt (blk_lt (g := gb115) (o := .cells #[.int .i64 ((rd_T31 l0 x38_2).f0), .int .i64 ((rd_T31 l0 x38_2).f1), .int .i64 ((rd_T31 l0 x38_2).f2), .int .i64 ((rd_T31 l0 x38_2).f3), .int .i64 ((rd_T31 l0 x38_2).f4), .int .i64 ((rd_T31 l0 x38_2).f5)] 31 (0, 0)) (by (with_reducible repeat (first | refine blk_drewN ?_ _ | refine blk_drew ?_ | refine blk_alloc ?_ _)); refine blk_put (cs := #[.int .i64 ((rd_T31 l0 x38_2).f0), .int .i64 ((rd_T31 l0 x38_2).f1), .int .i64 ((rd_T31 l0 x38_2).f2), .int .i64 ((rd_T31 l0 x38_2).f3), .int .i64 ((rd_T31 l0 x38_2).f4), .int .i64 0]) ?_ 5 _ rfl; (with_reducible repeat (first | refine blk_drewN ?_ _ | refine blk_drew ?_ | refine blk_alloc ?_ _)); refine blk_put (cs := #[.int .i64 ((rd_T31 l0 x38_2).f0), .int .i64 ((rd_T31 l0 x38_2).f1), .int .i64 ((rd_T31 l0 x38_2).f2), .int .i64 ((rd_T31 l0 x38_2).f3), .int .i64 0, .int .i64 0]) ?_ 4 _ rfl; (with_reducible repeat (first | refine blk_drewN ?_ _ | refine blk_drew ?_ | refine blk_alloc ?_ _)); refine blk_put (cs := #[.int .i64 ((rd_T31 l0 x38_2).f0), .int .i64 ((rd_T31 l0 x38_2).f1), .int .i64 ((rd_T31 l0 x38_2).f2), .int .i64 0, .int .i64 0, .int .i64 0]) ?_ 3 _ rfl; (with_reducible repeat (first | refine blk_drewN ?_ _ | refine blk_drew ?_ | refine blk_alloc ?_ _)); refine blk_put (cs := #[.int .i64 ((rd_T31 l0 x38_2).f0), .int .i64 ((rd_T31 l0 x38_2).f1), .int .i64 0, .int .i64 0, .int .i64 0, .int .i64 0]) ?_ 2 _ rfl; (with_reducible repeat (first | refine blk_drewN ?_ _ | refine blk_drew ?_ | refine blk_alloc ?_ _)); refine blk_put (cs := #[.int .i64 ((rd_T31 l0 x38_2).f0), .int .i64 0, .int .i64 0, .int .i64 0, .int .i64 0, .int .i64 0]) ?_ 1 _ rfl; (with_reducible repeat (first | refine blk_drewN ?_ _ | refine blk_drew ?_ | refine blk_alloc ?_ _)); refine blk_put (cs := #[.int .i64 0, .int .i64 0, .int .i64 0, .int .i64 0, .int .i64 0, .int .i64 0]) ?_ 0 _ rfl; (with_reducible repeat (first | refine blk_drewN ?_ _ | refine blk_drew ?_ | refine blk_alloc ?_ _)); exact BK115.out)) : gb117 ≠ gb115)); clear BK115; clear HB; have BK115 := n0_; have HB := n1_; have BK117 := n2_; have GW117 := n3_; have GE117 := n4_; have NB115_117 := n5_; have NB117_115 := n6_; clear n0_ n1_ n2_ n3_ n4_ n5_ n6_; clear hb hbox hg; have hnb38 := NB117_115.out; have hnc38 := NB115_117.out; have hcz39_0 : w37.cell? ⟨gb117, 0, none⟩ = some (.int .i64 0) := (blk_cell BK117.out 0).trans rfl; have hcz39_1 : w37.cell? ⟨gb117, 1, none⟩ = some (.int .i64 0) := (blk_cell BK117.out 1).trans rfl; have hcz39_2 : w37.cell? ⟨gb117, 2, none⟩ = some (.int .i64 0) := (blk_cell BK117.out 2).trans rfl; have hcz39_3 : w37.cell? ⟨gb117, 3, none⟩ = some (.int .i64 0) := (blk_cell BK117.out 3).trans rfl; have hcz39_4 : w37.cell? ⟨gb117, 4, none⟩ = some (.int .i64 0) := (blk_cell BK117.out 4).trans rfl; have hcz39_5 : w37.cell? ⟨gb117, 5, none⟩ = some (.int .i64 0) := (blk_cell BK117.out 5).trans rfl; have hfz39_0 := blk_frozen BK117.out 0; have hfz39_1 := blk_frozen BK117.out 1; have hfz39_2 := blk_frozen BK117.out 2; have hfz39_3 := blk_frozen BK117.out 3; have hfz39_4 := blk_frozen BK117.out 4; have hfz39_5 := blk_frozen BK117.out 5))
           have n0_ : Aside0 (((((((w37.setCell ⟨gb117, 0, none⟩ (.int .i64 ((rd_T31 l1 x38_2).f0))).setCell ⟨gb117, 1, none⟩ (.int .i64 ((rd_T31 l1 x38_2).f1))).setCell ⟨gb117, 2, none⟩ (.int .i64 ((rd_T31 l1 x38_2).f2))).setCell ⟨gb117, 3, none⟩ (.int .i64 ((rd_T31 l1 x38_2).f3))).setCell ⟨gb117, 4, none⟩ (.int .i64 ((rd_T31 l1 x38_2).f4))).setCell ⟨gb117, 5, none⟩ (.int .i64 ((rd_T31 l1 x38_2).f5))).heap[gb115]? = some (.cells #[.int .i64 ((rd_T31 l0 x38_2).f0), .int .i64 ((rd_T31 l0 x38_2).f1), .int .i64 ((rd_T31 l0 x38_2).f2), .int .i64 ((rd_T31 l0 x38_2).f3), .int .i64 ((rd_T31 l0 x38_2).f4), .int .i64 ((rd_T31 l0 x38_2).f5)] 31 (0, 0))) := ⟨by (with_reducible repeat (first | refine blk_drewN ?_ _ | refine blk_drew ?_ | refine blk_alloc ?_ _)); refine blk_far ?_ NB115_117.out _; (with_reducible repeat (first | refine blk_drewN ?_ _ | refine blk_drew ?_ | refine blk_alloc ?_ _)); refine blk_far ?_ NB115_117.out _; (with_reducible repeat (first | refine blk_drewN ?_ _ | refine blk_drew ?_ | refine blk_alloc ?_ _)); refine blk_far ?_ NB115_117.out _; (with_reducible repeat (first | refine blk_drewN ?_ _ | refine blk_drew ?_ | refine blk_alloc ?_ _)); refine blk_far ?_ NB115_117.out _; (with_reducible repeat (first | refine blk_drewN ?_ _ | refine blk_drew ?_ | refine blk_alloc ?_ _)); refine blk_far ?_ NB115_117.out _; (with_reducible repeat (first | refine blk_drewN ?_ _ | refine blk_drew ?_ | refine blk_alloc ?_ _)); refine blk_far ?_ NB115_117.out _; (with_reducible repeat (first | refine blk_drewN ?_ _ | refine blk_drew ?_ | refine blk_alloc ?_ _)); exact BK115.out⟩
           have n1_ : Aside0 (((((((w37.setCell ⟨gb117, 0, none⟩ (.int .i64 ((rd_T31 l1 x38_2).f0))).setCell ⟨gb117, 1, none⟩ (.int .i64 ((rd_T31 l1 x38_2).f1))).setCell ⟨gb117, 2, none⟩ (.int .i64 ((rd_T31 l1 x38_2).f2))).setCell ⟨gb117, 3, none⟩ (.int .i64 ((rd_T31 l1 x38_2).f3))).setCell ⟨gb117, 4, none⟩ (.int .i64 ((rd_T31 l1 x38_2).f4))).setCell ⟨gb117, 5, none⟩ (.int .i64 ((rd_T31 l1 x38_2).f5))).heap[gb117]? = some (.cells #[.int .i64 ((rd_T31 l1 x38_2).f0), .int .i64 ((rd_T31 l1 x38_2).f1), .int .i64 ((rd_T31 l1 x38_2).f2), .int .i64 ((rd_T31 l1 x38_2).f3), .int .i64 ((rd_T31 l1 x38_2).f4), .int .i64 ((rd_T31 l1 x38_2).f5)] 31 (0, 0))) := ⟨by (with_reducible repeat (first | refine blk_drewN ?_ _ | refine blk_drew ?_ | refine blk_alloc ?_ _)); refine blk_put (cs := #[.int .i64 ((rd_T31 l1 x38_2).f0), .int .i64 ((rd_T31 l1 x38_2).f1), .int .i64 ((rd_T31 l1 x38_2).f2), .int .i64 ((rd_T31 l1 x38_2).f3), .int .i64 ((rd_T31 l1 x38_2).f4), .int .i64 0]) ?_ 5 _ rfl; (with_reducible repeat (first | refine blk_drewN ?_ _ | refine blk_drew ?_ | refine blk_alloc ?_ _)); refine blk_put (cs := #[.int .i64 ((rd_T31 l1 x38_2).f0), .int .i64 ((rd_T31 l1 x38_2).f1), .int .i64 ((rd_T31 l1 x38_2).f2), .int .i64 ((rd_T31 l1 x38_2).f3), .int .i64 0, .int .i64 0]) ?_ 4 _ rfl; (with_reducible repeat (first | refine blk_drewN ?_ _ | refine blk_drew ?_ | refine blk_alloc ?_ _)); refine blk_put (cs := #[.int .i64 ((rd_T31 l1 x38_2).f0), .int .i64 ((rd_T31 l1 x38_2).f1), .int .i64 ((rd_T31 l1 x38_2).f2), .int .i64 0, .int .i64 0, .int .i64 0]) ?_ 3 _ rfl; (with_reducible repeat (first | refine blk_drewN ?_ _ | refine blk_drew ?_ | refine blk_alloc ?_ _)); refine blk_put (cs := #[.int .i64 ((rd_T31 l1 x38_2).f0), .int .i64 ((rd_T31 l1 x38_2).f1), .int .i64 0, .int .i64 0, .int .i64 0, .int .i64 0]) ?_ 2 _ rfl; (with_reducible repeat (first | refine blk_drewN ?_ _ | refine blk_drew ?_ | refine blk_alloc ?_ _)); refine blk_put (cs := #[.int .i64 ((rd_T31 l1 x38_2).f0), .int .i64 0, .int .i64 0, .int .i64 0, .int .i64 0, .int .i64 0]) ?_ 1 _ rfl; (with_reducible repeat (first | refine blk_drewN ?_ _ | refine blk_drew ?_ | refine blk_alloc ?_ _)); refine blk_put (cs := #[.int .i64 0, .int .i64 0, .int .i64 0, .int .i64 0, .int .i64 0, .int .i64 0]) ?_ 0 _ rfl; (with_reducible repeat (first | refine blk_drewN ?_ _ | refine blk_drew ?_ | refine blk_alloc ?_ _)); exact BK117.out⟩
           have n2_ : Aside0 (Below w.heap.size w ((((((w37.setCell ⟨gb117, 0, none⟩ (.int .i64 ((rd_T31 l1 x38_2).f0))).setCell ⟨gb117, 1, none⟩ (.int .i64 ((rd_T31 l1 x38_2).f1))).setCell ⟨gb117, 2, none⟩ (.int .i64 ((rd_T31 l1 x38_2).f2))).setCell ⟨gb117, 3, none⟩ (.int .i64 ((rd_T31 l1 x38_2).f3))).setCell ⟨gb117, 4, none⟩ (.int .i64 ((rd_T31 l1 x38_2).f4))).setCell ⟨gb117, 5, none⟩ (.int .i64 ((rd_T31 l1 x38_2).f5)))) := ⟨bel_ HB.out⟩
           (try clear BK115)
           (try clear BK117)
           (try clear HB)
           generalize ((((((w37.setCell ⟨gb117, 0, none⟩ (.int .i64 ((rd_T31 l1 x38_2).f0))).setCell ⟨gb117, 1, none⟩ (.int .i64 ((rd_T31 l1 x38_2).f1))).setCell ⟨gb117, 2, none⟩ (.int .i64 ((rd_T31 l1 x38_2).f2))).setCell ⟨gb117, 3, none⟩ (.int .i64 ((rd_T31 l1 x38_2).f3))).setCell ⟨gb117, 4, none⟩ (.int .i64 ((rd_T31 l1 x38_2).f4))).setCell ⟨gb117, 5, none⟩ (.int .i64 ((rd_T31 l1 x38_2).f5))) = w40 at n0_ n1_ n2_ ⊢
           have BK115 := n0_
           have BK117 := n1_
           have HB := n2_
           clear n0_ n1_ n2_
           have n0_ := Aside0.mk (blk_drew BK115.out)
           have n1_ := Aside0.mk (blk_drew BK117.out)
           have n2_ := Aside0.mk (below_drew1 HB.out)
           clear BK115
           clear BK117
           clear HB
           have BK115 := n0_
           have BK117 := n1_
           have HB := n2_
           clear n0_ n1_ n2_
           refine start_ (n := 8) (S := fun w' => w'.cell? ⟨gb117, 0, none⟩ = some (.int .i64 ((rd_T31 l1 x38_2).f0)) ∧ w'.cell? ⟨gb117, 1, none⟩ = some (.int .i64 ((rd_T31 l1 x38_2).f1)) ∧ w'.cell? ⟨gb117, 2, none⟩ = some (.int .i64 ((rd_T31 l1 x38_2).f2)) ∧ w'.cell? ⟨gb117, 3, none⟩ = some (.int .i64 ((rd_T31 l1 x38_2).f3)) ∧ w'.cell? ⟨gb117, 4, none⟩ = some (.int .i64 ((rd_T31 l1 x38_2).f4)) ∧ w'.cell? ⟨gb117, 5, none⟩ = some (.int .i64 ((rd_T31 l1 x38_2).f5))) (ds := []) (bs 8 0) (by kernel_rfl) rfl rfl ⟨(blk_cell BK117.out 0).trans rfl, (blk_cell BK117.out 1).trans rfl, (blk_cell BK117.out 2).trans rfl, (blk_cell BK117.out 3).trans rfl, (blk_cell BK117.out 4).trans rfl, (blk_cell BK117.out 5).trans rfl⟩ (fun hHeld => ?_); refine with_tabW impl_Missed.tab7 impl_Missed.bits7 (fun HT_ HW_ => ?_)
           generalize w40.drew = w41 at BK115 BK117 HB hHeld ⊢
           refine pu_ 0 47 HT_ (bs 8 1) rfl rfl ?_
           refine pu_ 2 49 HT_ (bs 8 5) rfl rfl ?_
           refine take_ (i := 1) (N := some 48) (v := ?_) (a' := ?_) (bs 8 7) rfl rfl (take_ofW HT_.out HW_.out (by kernel_rfl)) (fun _ _ _ h => h) (Or.inl ⟨by rfl, ?_⟩) hHeld ?_ ?_
           rotate_left
           ·rintro w' ⟨s0, s1, s2, s3, s4, s5⟩
            go_simp
            with_reducible rfl
           rotate_left
           ·simp only [Act.put, sA_, sZ_, sS_, i64_w, i32_w]
            rfl
           refine pu_ 4 51 HT_ (bs 8 23) rfl rfl ?_
           refine take_ (i := 3) (N := some 50) (v := ?_) (a' := ?_) (bs 8 31) rfl rfl (take_ofW HT_.out HW_.out (by kernel_rfl)) (fun _ _ _ h => h) (Or.inl ⟨by rfl, ?_⟩) hHeld ?_ ?_
           rotate_left
           ·rintro w' ⟨s0, s1, s2, s3, s4, s5⟩
            go_simp
            with_reducible rfl
           rotate_left
           ·simp only [Act.put, sA_, sZ_, sS_, i64_w, i32_w]
            rfl
           refine one_ (i := 5) (N := none) (bs 8 63) rfl rfl (one_of HT_.out (by kernel_rfl)) (by decide) (fun K hK => ?_)
           have hs42 : w41.cell? ⟨gb115, 3, none⟩ = some (.int .i64 ((rd_T31 l0 x38_2).f3)) := (blk_cell BK115.out 3).trans rfl
           have hfs42 := blk_frozen BK115.out 3
           have hns42_1 := NB117_115.out
           have hms42_1 := NB115_117.out
           refine skip_ (w1 := ?_) (by rfl) rfl ?_ ?_
           rotate_left
           ·go_simp
            rfl
           refine hK.out _ _ ⟨((cell_far (p := ⟨gb115, _, none⟩) NB117_115.out _).trans (hHeld.1)), ((cell_far (p := ⟨gb115, _, none⟩) NB117_115.out _).trans (hHeld.2.1)), ((cell_far (p := ⟨gb115, _, none⟩) NB117_115.out _).trans (hHeld.2.2.1)), ((cell_far (p := ⟨gb115, _, none⟩) NB117_115.out _).trans (hHeld.2.2.2.1)), ((cell_far (p := ⟨gb115, _, none⟩) NB117_115.out _).trans (hHeld.2.2.2.2.1)), ((cell_far (p := ⟨gb115, _, none⟩) NB117_115.out _).trans (hHeld.2.2.2.2.2))⟩ (fun hHeld => ?_)
           clear hK K
           refine pu_ 6 52 HT_ (bs 8 127) rfl rfl ?_
           refine one_ (i := 7) (N := none) (bs 8 255) rfl rfl (one_of HT_.out (by kernel_rfl)) (by decide) (fun K hK => ?_)
           have hs43 : w41.cell? ⟨gb115, 4, none⟩ = some (.int .i64 ((rd_T31 l0 x38_2).f4)) := (blk_cell BK115.out 4).trans rfl
           have hfs43 := blk_frozen BK115.out 4
           have hns43_1 := NB117_115.out
           have hms43_1 := NB115_117.out
           refine skip_ (w1 := ?_) (by rfl) rfl ?_ ?_
           rotate_left
           ·go_simp
            rfl
           refine hK.out _ _ ⟨((cell_far (p := ⟨gb115, _, none⟩) NB117_115.out _).trans (hHeld.1)), ((cell_far (p := ⟨gb115, _, none⟩) NB117_115.out _).trans (hHeld.2.1)), ((cell_far (p := ⟨gb115, _, none⟩) NB117_115.out _).trans (hHeld.2.2.1)), ((cell_far (p := ⟨gb115, _, none⟩) NB117_115.out _).trans (hHeld.2.2.2.1)), ((cell_far (p := ⟨gb115, _, none⟩) NB117_115.out _).trans (hHeld.2.2.2.2.1)), ((cell_far (p := ⟨gb115, _, none⟩) NB117_115.out _).trans (hHeld.2.2.2.2.2))⟩ (fun hHeld => ?_)
           clear hK K
           refine done_ (done_of HT_.out (by kernel_rfl)) ?_
           have hcz44_0 : w41.cell? ⟨gb115, 0, none⟩ = some (.int .i64 ((rd_T31 l0 x38_2).f0)) := (blk_cell BK115.out 0).trans rfl
           have hcz44_1 : w41.cell? ⟨gb115, 1, none⟩ = some (.int .i64 ((rd_T31 l0 x38_2).f1)) := (blk_cell BK115.out 1).trans rfl
           have hcz44_2 : w41.cell? ⟨gb115, 2, none⟩ = some (.int .i64 ((rd_T31 l0 x38_2).f2)) := (blk_cell BK115.out 2).trans rfl
           have hcz44_3 : w41.cell? ⟨gb115, 3, none⟩ = some (.int .i64 ((rd_T31 l0 x38_2).f3)) := (blk_cell BK115.out 3).trans rfl
           have hcz44_4 : w41.cell? ⟨gb115, 4, none⟩ = some (.int .i64 ((rd_T31 l0 x38_2).f4)) := (blk_cell BK115.out 4).trans rfl
           have hcz44_5 : w41.cell? ⟨gb115, 5, none⟩ = some (.int .i64 ((rd_T31 l0 x38_2).f5)) := (blk_cell BK115.out 5).trans rfl
           have hfz44_0 := blk_frozen BK115.out 0
           have hfz44_1 := blk_frozen BK115.out 1
           have hfz44_2 := blk_frozen BK115.out 2
           have hfz44_3 := blk_frozen BK115.out 3
           have hfz44_4 := blk_frozen BK115.out 4
           have hfz44_5 := blk_frozen BK115.out 5
           have hcz45_0 : w41.cell? ⟨gb117, 0, none⟩ = some (.int .i64 ((rd_T31 l1 x38_2).f0)) := (blk_cell BK117.out 0).trans rfl
           have hcz45_1 : w41.cell? ⟨gb117, 1, none⟩ = some (.int .i64 ((rd_T31 l1 x38_2).f1)) := (blk_cell BK117.out 1).trans rfl
           have hcz45_2 : w41.cell? ⟨gb117, 2, none⟩ = some (.int .i64 ((rd_T31 l1 x38_2).f2)) := (blk_cell BK117.out 2).trans rfl
           have hcz45_3 : w41.cell? ⟨gb117, 3, none⟩ = some (.int .i64 ((rd_T31 l1 x38_2).f3)) := (blk_cell BK117.out 3).trans rfl
           have hcz45_4 : w41.cell? ⟨gb117, 4, none⟩ = some (.int .i64 ((rd_T31 l1 x38_2).f4)) := (blk_cell BK117.out 4).trans rfl
           have hcz45_5 : w41.cell? ⟨gb117, 5, none⟩ = some (.int .i64 ((rd_T31 l1 x38_2).f5)) := (blk_cell BK117.out 5).trans rfl
           have hfz45_0 := blk_frozen BK117.out 0
           have hfz45_1 := blk_frozen BK117.out 1
           have hfz45_2 := blk_frozen BK117.out 2
           have hfz45_3 := blk_frozen BK117.out 3
           have hfz45_4 := blk_frozen BK117.out 4
           have hfz45_5 := blk_frozen BK117.out 5
           try go_wp2
           go_roundg k2
           case measure => have := HJ3.out; have := HK2.out; omega
           case rel => exact ⟨(wrap64 (x38_2 + 1)), (by first | rfl | (simp; done) | (simp [*]; done) | (simp [wrap64]; done)), H', ⟨by have := HJ3.out; have := HK2.out; omega⟩, ⟨bel_ HB.out⟩⟩
         ·rw [if_neg c22] at H
          exact absurd H (by simp)
        ·rw [if_neg c21] at H
         exact absurd H (by simp)
       ·rw [if_neg c20] at H
        exact absurd H (by simp)
      ·rw [if_neg c19] at H
       have c19b0 : decide (x38_2 < (l0.length : Int)) = false := decide_eq_false c19
       clear c19
       have H' := Aside0.mk H
       clear H
       go_wp2
       go_loopg [11, 59] k2 (fun kq v11 v59 w' => ∃ (x11_3 : List Int) (x59_3 : Int), v59 = .int .i64 x59_3 ∧ Aside0 (impl_Missed.l1 kq l0 l1 a2 x11_3 l0 (l0.length : Int) x59_3 = some (r1, r2)) ∧ Aside0 (kq ≤ k2) ∧ Aside0 (Kd.R (Kd.int .i64) 3 w' w.heap.size (fun _ => True) v11 x11_3) ∧ Aside0 (Below w.heap.size w w'))
       case atStart => exact ⟨(([] : List Int)), (0), (by first | rfl | (simp; done) | (simp [*]; done) | (simp [wrap64]; done)), H', ⟨Nat.le_refl _⟩, ⟨by first | exact Kd.R_nil _ _ _ _ _ | exact Kd.N_nil _ _ _ _ _ | exact Kd.V_nil _ _ _ _ _ | exact Kd.Q_nil _ _ _ _ _ | exact Kd.S_nil _ _ _ _ _⟩, ⟨bel_ HB.out⟩⟩
       case round =>
        clear H'
        try clear c1
        try clear c18
        try clear c19
        try clear c19b0
        obtain ⟨x11_3, x59_3, rfl, HA, HK3, HO_11, HB⟩ := hrel
        cases gk with
        | zero => exact absurd HA.out (by simp [impl_Missed.l1])
        | succ k3 =>
         have H := HA.out
         clear HA
         simp only [impl_Missed.l1] at H
         by_cases c46 : x59_3 < (l0.length : Int)
         ·rw [if_pos c46] at H
          have c46b0 : decide (x59_3 < (l0.length : Int)) = true := decide_eq_true c46
          clear c46
          by_cases c47 : 0 ≤ x59_3
          ·rw [if_pos c47] at H
           have c47b0 : decide (0 ≤ x59_3) = true := decide_eq_true c47
           clear c47
           by_cases c48 : x59_3 < (l0.length : Int)
           ·rw [if_pos c48] at H
            have c48b0 : decide (x59_3 < (l0.length : Int)) = true := decide_eq_true c48
            clear c48
            have H' := Aside0.mk H
            clear H
            have p121 : 0 ≤ (x59_3 : Int) := of_decide_eq_true (by first | (with_reducible assumption) | assumption)
            have q121 : x59_3 < (l0.length : Int) := of_decide_eq_true (by first | (with_reducible assumption) | assumption)
            obtain ⟨ad121, e121, hx121_0, hx121_1, hx121_2, hx121_3, hx121_4, hx121_5⟩ := at_T31 HR0.out x59_3 p121 q121
            cases e121
            replace hx121_0 := (HB.out.cell (World.block_lt_of_cell? w _ hx121_0)).trans hx121_0
            replace hx121_1 := (HB.out.cell (World.block_lt_of_cell? w _ hx121_1)).trans hx121_1
            replace hx121_2 := (HB.out.cell (World.block_lt_of_cell? w _ hx121_2)).trans hx121_2
            replace hx121_3 := (HB.out.cell (World.block_lt_of_cell? w _ hx121_3)).trans hx121_3
            replace hx121_4 := (HB.out.cell (World.block_lt_of_cell? w _ hx121_4)).trans hx121_4
            replace hx121_5 := (HB.out.cell (World.block_lt_of_cell? w _ hx121_5)).trans hx121_5
            replace p121 := eq_true p121
            replace q121 := eq_true q121
            go_wp2_with (first | ((with_reducible refine gate_dst (N := 13) rfl ?_); (try (refine gate_guard (by rfl) ?_; dsimp only)); refine box_event ?hg (N := 13) ?hd (cs := #[.int .i64 0, .int .i64 0, .int .i64 0, .int .i64 0, .int .i64 0, .int .i64 0]) (t := 31) ?hr ?_; (case hd => rfl); (case hg => rfl); (case hr => first | (go_simp; done) | (go_simp; rfl)); intro gb122 hg w49 hbox hb; have n0_ := Aside0.mk (Kd.R_below (fr_ HO_11.out) hb); have n1_ := Aside0.mk (below_step (bel_ HB.out) hb); have n2_ := Aside0.mk (hbox); have n3_ := Aside0.mk ((by rw [hg]; exact (below_size (bel_ HB.out)) : w.heap.size ≤ gb122)); have n4_ := Aside0.mk ((by rw [hg]; exact (below_size (bel_ HB.out)) : w.heap.size ≤ gb122)); clear HO_11; clear HB; have HO_11 := n0_; have HB := n1_; have BK122 := n2_; have GW122 := n3_; have GE122 := n4_; clear n0_ n1_ n2_ n3_ n4_; clear hb hbox hg; have hcz50_0 : w49.cell? ⟨gb122, 0, none⟩ = some (.int .i64 0) := (blk_cell BK122.out 0).trans rfl; have hcz50_1 : w49.cell? ⟨gb122, 1, none⟩ = some (.int .i64 0) := (blk_cell BK122.out 1).trans rfl; have hcz50_2 : w49.cell? ⟨gb122, 2, none⟩ = some (.int .i64 0) := (blk_cell BK122.out 2).trans rfl; have hcz50_3 : w49.cell? ⟨gb122, 3, none⟩ = some (.int .i64 0) := (blk_cell BK122.out 3).trans rfl; have hcz50_4 : w49.cell? ⟨gb122, 4, none⟩ = some (.int .i64 0) := (blk_cell BK122.out 4).trans rfl; have hcz50_5 : w49.cell? ⟨gb122, 5, none⟩ = some (.int .i64 0) := (blk_cell BK122.out 5).trans rfl; have hfz50_0 := blk_frozen BK122.out 0; have hfz50_1 := blk_frozen BK122.out 1; have hfz50_2 := blk_frozen BK122.out 2; have hfz50_3 := blk_frozen BK122.out 3; have hfz50_4 := blk_frozen BK122.out 4; have hfz50_5 := blk_frozen BK122.out 5))
            go_loopg [11, 66] k3 (fun kq v11 v66 w' => ∃ (x11_4 : List Int) (x66_4 : Int), v66 = .int .i64 x66_4 ∧ Aside0 (impl_Missed.l2 kq l0 l1 a2 x11_4 x59_3 l0 (l0.length : Int) x59_3 l0 (l0.length : Int) x66_4 ((rd_T31 l0 x59_3).f0) ((rd_T31 l0 x59_3).f1) ((rd_T31 l0 x59_3).f2) ((rd_T31 l0 x59_3).f3) ((rd_T31 l0 x59_3).f4) ((rd_T31 l0 x59_3).f5) = some (r1, r2)) ∧ Aside0 (kq ≤ k3) ∧ Aside0 (Kd.R (Kd.int .i64) 3 w' w.heap.size (fun _ => True) v11 x11_4) ∧ Aside0 (w'.heap[gb122]? = some (.cells #[.int .i64 ((rd_T31 l0 x59_3).f0), .int .i64 ((rd_T31 l0 x59_3).f1), .int .i64 ((rd_T31 l0 x59_3).f2), .int .i64 ((rd_T31 l0 x59_3).f3), .int .i64 ((rd_T31 l0 x59_3).f4), .int .i64 ((rd_T31 l0 x59_3).f5)] 31 (0, 0))) ∧ Aside0 (Below w.heap.size w w'))
            case atStart => exact ⟨(x11_3), (0), (by first | rfl | (simp; done) | (simp [*]; done) | (simp [wrap64]; done)), H', ⟨Nat.le_refl _⟩, ⟨by (with_reducible repeat (first | apply Kd.R_alloc | apply Kd.R_drewN | apply Kd.R_drew)); exact Kd.R_mono (Kd.R_far (p := ⟨gb122, 5, none⟩) (Kd.R_far (p := ⟨gb122, 4, none⟩) (Kd.R_far (p := ⟨gb122, 3, none⟩) (Kd.R_far (p := ⟨gb122, 2, none⟩) (Kd.R_far (p := ⟨gb122, 1, none⟩) (Kd.R_far (p := ⟨gb122, 0, none⟩) (Kd.R_types HO_11.out BK122.out (by decide)) (fun _ hk => hk.2) (.int .i64 ((rd_T31 l0 x59_3).f0))) (fun _ hk => hk.2) (.int .i64 ((rd_T31 l0 x59_3).f1))) (fun _ hk => hk.2) (.int .i64 ((rd_T31 l0 x59_3).f2))) (fun _ hk => hk.2) (.int .i64 ((rd_T31 l0 x59_3).f3))) (fun _ hk => hk.2) (.int .i64 ((rd_T31 l0 x59_3).f4))) (fun _ hk => hk.2) (.int .i64 ((rd_T31 l0 x59_3).f5))) (fun _ hk => trivial)⟩, ⟨by (with_reducible repeat (first | refine blk_drewN ?_ _ | refine blk_drew ?_ | refine blk_alloc ?_ _)); refine blk_put (cs := #[.int .i64 ((rd_T31 l0 x59_3).f0), .int .i64 ((rd_T31 l0 x59_3).f1), .int .i64 ((rd_T31 l0 x59_3).f2), .int .i64 ((rd_T31 l0 x59_3).f3), .int .i64 ((rd_T31 l0 x59_3).f4), .int .i64 0]) ?_ 5 _ rfl; (with_reducible repeat (first | refine blk_drewN ?_ _ | refine blk_drew ?_ | refine blk_alloc ?_ _)); refine blk_put (cs := #[.int .i64 ((rd_T31 l0 x59_3).f0), .int .i64 ((rd_T31 l0 x59_3).f1), .int .i64 ((rd_T31 l0 x59_3).f2), .int .i64 ((rd_T31 l0 x59_3).f3), .int .i64 0, .int .i64 0]) ?_ 4 _ rfl; (with_reducible repeat (first | refine blk_drewN ?_ _ | refine blk_drew ?_ | refine blk_alloc ?_ _)); refine blk_put (cs := #[.int .i64 ((rd_T31 l0 x59_3).f0), .int .i64 ((rd_T31 l0 x59_3).f1), .int .i64 ((rd_T31 l0 x59_3).f2), .int .i64 0, .int .i64 0, .int .i64 0]) ?_ 3 _ rfl; (with_reducible repeat (first | refine blk_drewN ?_ _ | refine blk_drew ?_ | refine blk_alloc ?_ _)); refine blk_put (cs := #[.int .i64 ((rd_T31 l0 x59_3).f0), .int .i64 ((rd_T31 l0 x59_3).f1), .int .i64 0, .int .i64 0, .int .i64 0, .int .i64 0]) ?_ 2 _ rfl; (with_reducible repeat (first | refine blk_drewN ?_ _ | refine blk_drew ?_ | refine blk_alloc ?_ _)); refine blk_put (cs := #[.int .i64 ((rd_T31 l0 x59_3).f0), .int .i64 0, .int .i64 0, .int .i64 0, .int .i64 0, .int .i64 0]) ?_ 1 _ rfl; (with_reducible repeat (first | refine blk_drewN ?_ _ | refine blk_drew ?_ | refine blk_alloc ?_ _)); refine blk_put (cs := #[.int .i64 0, .int .i64 0, .int .i64 0, .int .i64 0, .int .i64 0, .int .i64 0]) ?_ 0 _ rfl; (with_reducible repeat (first | refine blk_drewN ?_ _ | refine blk_drew ?_ | refine blk_alloc ?_ _)); exact BK122.out⟩, ⟨bel_ HB.out⟩⟩
            case round =>
             clear H'
             try clear c1
             try clear c18
             try clear c19
             try clear c19b0
             try clear c46
             try clear c46b0
             try clear c47
             try clear c47b0
             try clear c48
             try clear c48b0
             try clear hcz50_0
             try clear hcz50_1
             try clear hcz50_2
             try clear hcz50_3
             try clear hcz50_4
             try clear hcz50_5
             try clear hfz50_0
             try clear hfz50_1
             try clear hfz50_2
             try clear hfz50_3
             try clear hfz50_4
             try clear hfz50_5
             try clear hx121_0
             try clear hx121_1
             try clear hx121_2
             try clear hx121_3
             try clear hx121_4
             try clear hx121_5
             try clear p121
             try clear q121
             obtain ⟨x11_4, x66_4, rfl, HA, HK4, HO_11, BK122, HB⟩ := hrel
             cases gk with
             | zero => exact absurd HA.out (by simp [impl_Missed.l2])
             | succ k4 =>
              have H := HA.out
              clear HA
              simp only [impl_Missed.l2] at H
              by_cases c51 : x66_4 < (l0.length : Int)
              ·rw [if_pos c51] at H
               have c51b0 : decide (x66_4 < (l0.length : Int)) = true := decide_eq_true c51
               clear c51
               by_cases c52 : 0 ≤ x66_4
               ·rw [if_pos c52] at H
                have c52b0 : decide (0 ≤ x66_4) = true := decide_eq_true c52
                clear c52
                by_cases c53 : x66_4 < (l0.length : Int)
                ·rw [if_pos c53] at H
                 have c53b0 : decide (x66_4 < (l0.length : Int)) = true := decide_eq_true c53
                 clear c53
                 by_cases c54 : ((rd_T31 l0 x59_3).f0) = ((rd_T31 l0 x66_4).f0)
                 ·rw [if_pos c54] at H
                  have c54b0 : (((rd_T31 l0 x59_3).f0) == ((rd_T31 l0 x66_4).f0)) = true := beq_iff_eq.mpr c54
                  have c54b1 : (((rd_T31 l0 x59_3).f0) != ((rd_T31 l0 x66_4).f0)) = false := bne_eq_false_iff_eq.mpr c54
                  clear c54
                  have H' := Aside0.mk H
                  clear H
                  have p123 : 0 ≤ (x66_4 : Int) := of_decide_eq_true (by first | (with_reducible assumption) | assumption)
                  have q123 : x66_4 < (l0.length : Int) := of_decide_eq_true (by first | (with_reducible assumption) | assumption)
                  obtain ⟨ad123, e123, hx123_0, hx123_1, hx123_2, hx123_3, hx123_4, hx123_5⟩ := at_T31 HR0.out x66_4 p123 q123
                  obtain rfl : ad121 = ad123 := (by injection e123)
                  replace hx123_0 := (HB.out.cell (World.block_lt_of_cell? w _ hx123_0)).trans hx123_0
                  replace hx123_1 := (HB.out.cell (World.block_lt_of_cell? w _ hx123_1)).trans hx123_1
                  replace hx123_2 := (HB.out.cell (World.block_lt_of_cell? w _ hx123_2)).trans hx123_2
                  replace hx123_3 := (HB.out.cell (World.block_lt_of_cell? w _ hx123_3)).trans hx123_3
                  replace hx123_4 := (HB.out.cell (World.block_lt_of_cell? w _ hx123_4)).trans hx123_4
                  replace hx123_5 := (HB.out.cell (World.block_lt_of_cell? w _ hx123_5)).trans hx123_5
                  replace p123 := eq_true p123
                  replace q123 := eq_true q123
                  try go_wp2_with (first | ((with_reducible refine gate_dst (N := 15) rfl ?_); (try (refine gate_guard (by rfl) ?_; dsimp only)); refine box_event ?hg (N := 15) ?hd (cs := #[.int .i64 0, .int .i64 0, .int .i64 0, .int .i64 0, .int .i64 0, .int .i64 0]) (t := 31) ?hr ?_; (case hd => rfl); (case hg => rfl); (case hr => first | (go_simp; done) | (go_simp; rfl)); intro gb124 hg w55 hbox hb; have n0_ := Aside0.mk (Kd.R_below (fr_ HO_11.out) hb); have n1_ := Aside0.mk (blk_below (g := gb122) (o := .cells #[.int .i64 ((rd_T31 l0 x59_3).f0), .int .i64 ((rd_T31 l0 x59_3).f1), .int .i64 ((rd_T31 l0 x59_3).f2), .int .i64 ((rd_T31 l0 x59_3).f3), .int .i64 ((rd_T31 l0 x59_3).f4), .int .i64 ((rd_T31 l0 x59_3).f5)] 31 (0, 0)) (fb_ BK122.out) hb); have n2_ := Aside0.mk (below_step (bel_ HB.out) hb); have n3_ := Aside0.mk (hbox); have n4_ := Aside0.mk ((by rw [hg]; exact (below_size (bel_ HB.out)) : w.heap.size ≤ gb124)); have n5_ := Aside0.mk ((by rw [hg]; exact (below_size (bel_ HB.out)) : w.heap.size ≤ gb124)); have n6_ := Aside0.mk ((by rw [hg]; exact Nat.ne_of_lt (blk_lt (g := gb122) (o := .cells #[.int .i64 ((rd_T31 l0 x59_3).f0), .int .i64 ((rd_T31 l0 x59_3).f1), .int .i64 ((rd_T31 l0 x59_3).f2), .int .i64 ((rd_T31 l0 x59_3).f3), .int .i64 ((rd_T31 l0 x59_3).f4), .int .i64 ((rd_T31 l0 x59_3).f5)] 31 (0, 0)) (fb_ BK122.out)) : gb122 ≠ gb124)); have n7_ := Aside0.mk ((by rw [hg]; exact Nat.ne_of_gt (blk_lt (g := gb122) (o := .cells #[.int .i64 ((rd_T31 l0 x59_3).f0), .int .i64 ((rd_T31 l0 x59_3).f1), .int .i64 ((rd_T31 l0 x59_3).f2), .int .i64 ((rd_T31 l0 x59_3).f3), .int .i64 ((rd_T31 l0 x59_3).f4), .int .i64 ((rd_T31 l0 x59_3).f5)] 31 (0, 0)) (fb_ BK122.out)) : gb124 ≠ gb122)); clear HO_11; clear BK122; clear HB; have HO_11 := n0_; have BK122 := n1_; have HB := n2_; have BK124 := n3_; have GW124 := n4_; have GE124 := n5_; have NB122_124 := n6_; have NB124_122 := n7_; clear n0_ n1_ n2_ n3_ n4_ n5_ n6_ n7_; clear hb hbox hg; have hnb56 := NB124_122.out; have hnc56 := NB122_124.out; have hcz57_0 : w55.cell? ⟨gb124, 0, none⟩ = some (.int .i64 0) := (blk_cell BK124.out 0).trans rfl; have hcz57_1 : w55.cell? ⟨gb124, 1, none⟩ = some (.int .i64 0) := (blk_cell BK124.out 1).trans rfl; have hcz57_2 : w55.cell? ⟨gb124, 2, none⟩ = some (.int .i64 0) := (blk_cell BK124.out 2).trans rfl; have hcz57_3 : w55.cell? ⟨gb124, 3, none⟩ = some (.int .i64 0) := (blk_cell BK124.out 3).trans rfl; have hcz57_4 : w55.cell? ⟨gb124, 4, none⟩ = some (.int .i64 0) := (blk_cell BK124.out 4).trans rfl; have hcz57_5 : w55.cell? ⟨gb124, 5, none⟩ = some (.int .i64 0) := (blk_cell BK124.out 5).trans rfl; have hfz57_0 := blk_frozen BK124.out 0; have hfz57_1 := blk_frozen BK124.out 1; have hfz57_2 := blk_frozen BK124.out 2; have hfz57_3 := blk_frozen BK124.out 3; have hfz57_4 := blk_frozen BK124.out 4; have hfz57_5 := blk_frozen BK124.out 5))
                  have n0_ : Aside0 (Kd.R (Kd.int .i64) 3 ((((((w55.setCell ⟨gb124, 0, none⟩ (.int .i64 ((rd_T31 l0 x66_4).f0))).setCell ⟨gb124, 1, none⟩ (.int .i64 ((rd_T31 l0 x66_4).f1))).setCell ⟨gb124, 2, none⟩ (.int .i64 ((rd_T31 l0 x66_4).f2))).setCell ⟨gb124, 3, none⟩ (.int .i64 ((rd_T31 l0 x66_4).f3))).setCell ⟨gb124, 4, none⟩ (.int .i64 ((rd_T31 l0 x66_4).f4))).setCell ⟨gb124, 5, none⟩ (.int .i64 ((rd_T31 l0 x66_4).f5))) w.heap.size (fun _ => True) u11 x11_4) := ⟨by (with_reducible repeat (first | apply Kd.R_alloc | apply Kd.R_drewN | apply Kd.R_drew)); exact Kd.R_mono (Kd.R_far (p := ⟨gb124, 5, none⟩) (Kd.R_far (p := ⟨gb124, 4, none⟩) (Kd.R_far (p := ⟨gb124, 3, none⟩) (Kd.R_far (p := ⟨gb124, 2, none⟩) (Kd.R_far (p := ⟨gb124, 1, none⟩) (Kd.R_far (p := ⟨gb124, 0, none⟩) (Kd.R_types HO_11.out BK124.out (by decide)) (fun _ hk => hk.2) (.int .i64 ((rd_T31 l0 x66_4).f0))) (fun _ hk => hk.2) (.int .i64 ((rd_T31 l0 x66_4).f1))) (fun _ hk => hk.2) (.int .i64 ((rd_T31 l0 x66_4).f2))) (fun _ hk => hk.2) (.int .i64 ((rd_T31 l0 x66_4).f3))) (fun _ hk => hk.2) (.int .i64 ((rd_T31 l0 x66_4).f4))) (fun _ hk => hk.2) (.int .i64 ((rd_T31 l0 x66_4).f5))) (fun _ hk => trivial)⟩
                  have n1_ : Aside0 (((((((w55.setCell ⟨gb124, 0, none⟩ (.int .i64 ((rd_T31 l0 x66_4).f0))).setCell ⟨gb124, 1, none⟩ (.int .i64 ((rd_T31 l0 x66_4).f1))).setCell ⟨gb124, 2, none⟩ (.int .i64 ((rd_T31 l0 x66_4).f2))).setCell ⟨gb124, 3, none⟩ (.int .i64 ((rd_T31 l0 x66_4).f3))).setCell ⟨gb124, 4, none⟩ (.int .i64 ((rd_T31 l0 x66_4).f4))).setCell ⟨gb124, 5, none⟩ (.int .i64 ((rd_T31 l0 x66_4).f5))).heap[gb122]? = some (.cells #[.int .i64 ((rd_T31 l0 x59_3).f0), .int .i64 ((rd_T31 l0 x59_3).f1), .int .i64 ((rd_T31 l0 x59_3).f2), .int .i64 ((rd_T31 l0 x59_3).f3), .int .i64 ((rd_T31 l0 x59_3).f4), .int .i64 ((rd_T31 l0 x59_3).f5)] 31 (0, 0))) := ⟨by (with_reducible repeat (first | refine blk_drewN ?_ _ | refine blk_drew ?_ | refine blk_alloc ?_ _)); refine blk_far ?_ NB122_124.out _; (with_reducible repeat (first | refine blk_drewN ?_ _ | refine blk_drew ?_ | refine blk_alloc ?_ _)); refine blk_far ?_ NB122_124.out _; (with_reducible repeat (first | refine blk_drewN ?_ _ | refine blk_drew ?_ | refine blk_alloc ?_ _)); refine blk_far ?_ NB122_124.out _; (with_reducible repeat (first | refine blk_drewN ?_ _ | refine blk_drew ?_ | refine blk_alloc ?_ _)); refine blk_far ?_ NB122_124.out _; (with_reducible repeat (first | refine blk_drewN ?_ _ | refine blk_drew ?_ | refine blk_alloc ?_ _)); refine blk_far ?_ NB122_124.out _; (with_reducible repeat (first | refine blk_drewN ?_ _ | refine blk_drew ?_ | refine blk_alloc ?_ _)); refine blk_far ?_ NB122_124.out _; (with_reducible repeat (first | refine blk_drewN ?_ _ | refine blk_drew ?_ | refine blk_alloc ?_ _)); exact BK122.out⟩
                  have n2_ : Aside0 (((((((w55.setCell ⟨gb124, 0, none⟩ (.int .i64 ((rd_T31 l0 x66_4).f0))).setCell ⟨gb124, 1, none⟩ (.int .i64 ((rd_T31 l0 x66_4).f1))).setCell ⟨gb124, 2, none⟩ (.int .i64 ((rd_T31 l0 x66_4).f2))).setCell ⟨gb124, 3, none⟩ (.int .i64 ((rd_T31 l0 x66_4).f3))).setCell ⟨gb124, 4, none⟩ (.int .i64 ((rd_T31 l0 x66_4).f4))).setCell ⟨gb124, 5, none⟩ (.int .i64 ((rd_T31 l0 x66_4).f5))).heap[gb124]? = some (.cells #[.int .i64 ((rd_T31 l0 x66_4).f0), .int .i64 ((rd_T31 l0 x66_4).f1), .int .i64 ((rd_T31 l0 x66_4).f2), .int .i64 ((rd_T31 l0 x66_4).f3), .int .i64 ((rd_T31 l0 x66_4).f4), .int .i64 ((rd_T31 l0 x66_4).f5)] 31 (0, 0))) := ⟨by (with_reducible repeat (first | refine blk_drewN ?_ _ | refine blk_drew ?_ | refine blk_alloc ?_ _)); refine blk_put (cs := #[.int .i64 ((rd_T31 l0 x66_4).f0), .int .i64 ((rd_T31 l0 x66_4).f1), .int .i64 ((rd_T31 l0 x66_4).f2), .int .i64 ((rd_T31 l0 x66_4).f3), .int .i64 ((rd_T31 l0 x66_4).f4), .int .i64 0]) ?_ 5 _ rfl; (with_reducible repeat (first | refine blk_drewN ?_ _ | refine blk_drew ?_ | refine blk_alloc ?_ _)); refine blk_put (cs := #[.int .i64 ((rd_T31 l0 x66_4).f0), .int .i64 ((rd_T31 l0 x66_4).f1), .int .i64 ((rd_T31 l0 x66_4).f2), .int .i64 ((rd_T31 l0 x66_4).f3), .int .i64 0, .int .i64 0]) ?_ 4 _ rfl; (with_reducible repeat (first | refine blk_drewN ?_ _ | refine blk_drew ?_ | refine blk_alloc ?_ _)); refine blk_put (cs := #[.int .i64 ((rd_T31 l0 x66_4).f0), .int .i64 ((rd_T31 l0 x66_4).f1), .int .i64 ((rd_T31 l0 x66_4).f2), .int .i64 0, .int .i64 0, .int .i64 0]) ?_ 3 _ rfl; (with_reducible repeat (first | refine blk_drewN ?_ _ | refine blk_drew ?_ | refine blk_alloc ?_ _)); refine blk_put (cs := #[.int .i64 ((rd_T31 l0 x66_4).f0), .int .i64 ((rd_T31 l0 x66_4).f1), .int .i64 0, .int .i64 0, .int .i64 0, .int .i64 0]) ?_ 2 _ rfl; (with_reducible repeat (first | refine blk_drewN ?_ _ | refine blk_drew ?_ | refine blk_alloc ?_ _)); refine blk_put (cs := #[.int .i64 ((rd_T31 l0 x66_4).f0), .int .i64 0, .int .i64 0, .int .i64 0, .int .i64 0, .int .i64 0]) ?_ 1 _ rfl; (with_reducible repeat (first | refine blk_drewN ?_ _ | refine blk_drew ?_ | refine blk_alloc ?_ _)); refine blk_put (cs := #[.int .i64 0, .int .i64 0, .int .i64 0, .int .i64 0, .int .i64 0, .int .i64 0]) ?_ 0 _ rfl; (with_reducible repeat (first | refine blk_drewN ?_ _ | refine blk_drew ?_ | refine blk_alloc ?_ _)); exact BK124.out⟩
                  have n3_ : Aside0 (Below w.heap.size w ((((((w55.setCell ⟨gb124, 0, none⟩ (.int .i64 ((rd_T31 l0 x66_4).f0))).setCell ⟨gb124, 1, none⟩ (.int .i64 ((rd_T31 l0 x66_4).f1))).setCell ⟨gb124, 2, none⟩ (.int .i64 ((rd_T31 l0 x66_4).f2))).setCell ⟨gb124, 3, none⟩ (.int .i64 ((rd_T31 l0 x66_4).f3))).setCell ⟨gb124, 4, none⟩ (.int .i64 ((rd_T31 l0 x66_4).f4))).setCell ⟨gb124, 5, none⟩ (.int .i64 ((rd_T31 l0 x66_4).f5)))) := ⟨bel_ HB.out⟩
                  (try clear HO_11)
                  (try clear BK122)
                  (try clear BK124)
                  (try clear HB)
                  generalize ((((((w55.setCell ⟨gb124, 0, none⟩ (.int .i64 ((rd_T31 l0 x66_4).f0))).setCell ⟨gb124, 1, none⟩ (.int .i64 ((rd_T31 l0 x66_4).f1))).setCell ⟨gb124, 2, none⟩ (.int .i64 ((rd_T31 l0 x66_4).f2))).setCell ⟨gb124, 3, none⟩ (.int .i64 ((rd_T31 l0 x66_4).f3))).setCell ⟨gb124, 4, none⟩ (.int .i64 ((rd_T31 l0 x66_4).f4))).setCell ⟨gb124, 5, none⟩ (.int .i64 ((rd_T31 l0 x66_4).f5))) = w58 at n0_ n1_ n2_ n3_ ⊢
                  have HO_11 := n0_
                  have BK122 := n1_
                  have BK124 := n2_
                  have HB := n3_
                  clear n0_ n1_ n2_ n3_
                  have n0_ := Aside0.mk (Kd.R_drew HO_11.out)
                  have n1_ := Aside0.mk (blk_drew BK122.out)
                  have n2_ := Aside0.mk (blk_drew BK124.out)
                  have n3_ := Aside0.mk (below_drew1 HB.out)
                  clear HO_11
                  clear BK122
                  clear BK124
                  clear HB
                  have HO_11 := n0_
                  have BK122 := n1_
                  have BK124 := n2_
                  have HB := n3_
                  clear n0_ n1_ n2_ n3_
                  refine start_ (n := 24) (S := fun w' => w'.cell? ⟨gb122, 0, none⟩ = some (.int .i64 ((rd_T31 l0 x59_3).f0)) ∧ w'.cell? ⟨gb122, 1, none⟩ = some (.int .i64 ((rd_T31 l0 x59_3).f1)) ∧ w'.cell? ⟨gb122, 2, none⟩ = some (.int .i64 ((rd_T31 l0 x59_3).f2)) ∧ w'.cell? ⟨gb122, 3, none⟩ = some (.int .i64 ((rd_T31 l0 x59_3).f3)) ∧ w'.cell? ⟨gb122, 4, none⟩ = some (.int .i64 ((rd_T31 l0 x59_3).f4)) ∧ w'.cell? ⟨gb122, 5, none⟩ = some (.int .i64 ((rd_T31 l0 x59_3).f5)) ∧ w'.cell? ⟨gb124, 0, none⟩ = some (.int .i64 ((rd_T31 l0 x66_4).f0)) ∧ w'.cell? ⟨gb124, 1, none⟩ = some (.int .i64 ((rd_T31 l0 x66_4).f1)) ∧ w'.cell? ⟨gb124, 2, none⟩ = some (.int .i64 ((rd_T31 l0 x66_4).f2)) ∧ w'.cell? ⟨gb124, 3, none⟩ = some (.int .i64 ((rd_T31 l0 x66_4).f3)) ∧ w'.cell? ⟨gb124, 4, none⟩ = some (.int .i64 ((rd_T31 l0 x66_4).f4)) ∧ w'.cell? ⟨gb124, 5, none⟩ = some (.int .i64 ((rd_T31 l0 x66_4).f5))) (ds := []) (bs 24 0) (by kernel_rfl) rfl rfl ⟨(blk_cell BK122.out 0).trans rfl, (blk_cell BK122.out 1).trans rfl, (blk_cell BK122.out 2).trans rfl, (blk_cell BK122.out 3).trans rfl, (blk_cell BK122.out 4).trans rfl, (blk_cell BK122.out 5).trans rfl, (blk_cell BK124.out 0).trans rfl, (blk_cell BK124.out 1).trans rfl, (blk_cell BK124.out 2).trans rfl, (blk_cell BK124.out 3).trans rfl, (blk_cell BK124.out 4).trans rfl, (blk_cell BK124.out 5).trans rfl⟩ (fun hHeld => ?_); refine with_tabW impl_Missed.tab18 impl_Missed.bits18 (fun HT_ HW_ => ?_)
                  generalize w58.drew = w59 at HO_11 BK122 BK124 HB hHeld ⊢
                  refine pu_ 0 71 HT_ (bs 24 1) rfl rfl ?_
                  refine pu_ 2 73 HT_ (bs 24 5) rfl rfl ?_
                  refine take_ (i := 1) (N := some 72) (v := ?_) (a' := ?_) (bs 24 7) rfl rfl (take_ofW HT_.out HW_.out (by kernel_rfl)) (fun _ _ _ h => h) (Or.inl ⟨by rfl, ?_⟩) hHeld ?_ ?_
                  rotate_left
                  ·rintro w' ⟨s0, s1, s2, s3, s4, s5, s6, s7, s8, s9, s10, s11⟩
                   go_simp
                   with_reducible rfl
                  rotate_left
                  ·simp only [Act.put, sA_, sZ_, sS_, i64_w, i32_w]
                   rfl
                  refine take_ (i := 3) (N := some 74) (v := ?_) (a' := ?_) (bs 24 15) rfl rfl (take_ofW HT_.out HW_.out (by kernel_rfl)) (fun _ _ _ h => h) (Or.inl ⟨by rfl, ?_⟩) hHeld ?_ ?_
                  rotate_left
                  ·rintro w' ⟨s0, s1, s2, s3, s4, s5, s6, s7, s8, s9, s10, s11⟩
                   go_simp
                   with_reducible rfl
                  rotate_left
                  ·simp only [Act.put, sA_, sZ_, sS_, i64_w, i32_w]
                   rfl
                  refine pu_ 4 75 HT_ (bs 24 31) rfl rfl ?_
                  refine pu_ 5 76 HT_ (bs 24 63) rfl rfl ?_
                  refine pn_ 6 77 HT_ (bs 24 127) rfl rfl ?_
                  refine pn_ 7 78 HT_ (bs 24 255) rfl rfl ?_
                  refine pn_ 8 79 HT_ (bs 24 511) rfl rfl ?_
                  refine pn_ 9 80 HT_ (bs 24 1023) rfl rfl ?_
                  refine pu_ 10 81 HT_ (bs 24 2047) rfl rfl ?_
                  refine pu_ 11 82 HT_ (bs 24 4095) rfl rfl ?_
                  refine pn_ 12 83 HT_ (bs 24 8191) rfl rfl ?_
                  refine pn_ 13 84 HT_ (bs 24 16383) rfl rfl ?_
                  refine pn_ 14 85 HT_ (bs 24 32767) rfl rfl ?_
                  refine pn_ 15 86 HT_ (bs 24 65535) rfl rfl ?_
                  refine pn_ 16 87 HT_ (bs 24 131071) rfl rfl ?_
                  refine pn_ 17 88 HT_ (bs 24 262143) rfl rfl ?_
                  refine pn_ 18 89 HT_ (bs 24 524287) rfl rfl ?_
                  refine pn_ 19 90 HT_ (bs 24 1048575) rfl rfl ?_
                  refine pn_ 20 91 HT_ (bs 24 2097151) rfl rfl ?_
                  refine pn_ 21 92 HT_ (bs 24 4194303) rfl rfl ?_
                  refine pn_ 22 93 HT_ (bs 24 8388607) rfl rfl ?_
                  refine pu_ 23 94 HT_ (bs 24 16777215) rfl rfl ?_
                  refine done_ (done_of HT_.out (by kernel_rfl)) ?_
                  try go_wp2
                  go_roundg k4
                  case measure => have := HJ3.out; have := HK2.out; have := HK3.out; have := HK4.out; omega
                  case rel => exact ⟨(x11_4), (wrap64 (x66_4 + 1)), (by first | rfl | (simp; done) | (simp [*]; done) | (simp [wrap64]; done)), H', ⟨by have := HJ3.out; have := HK2.out; have := HK3.out; have := HK4.out; omega⟩, ⟨by (with_reducible repeat (first | apply Kd.R_alloc | apply Kd.R_drewN | apply Kd.R_drew)); exact HO_11.out⟩, ⟨by (with_reducible repeat (first | refine blk_drewN ?_ _ | refine blk_drew ?_ | refine blk_alloc ?_ _)); exact BK122.out⟩, ⟨bel_ HB.out⟩⟩
                 ·rw [if_neg c54] at H
                  have c54b0 : (((rd_T31 l0 x59_3).f0) == ((rd_T31 l0 x66_4).f0)) = false := beq_eq_false_iff_ne.mpr c54
                  have c54b1 : (((rd_T31 l0 x59_3).f0) != ((rd_T31 l0 x66_4).f0)) = true := bne_iff_ne.mpr c54
                  replace H := Option.bind_eq_some_iff.mp H
                  obtain ⟨t125, A600, H⟩ := H
                  replace H : (if t125 = true then (if 0 ≤ x59_3 then (if x59_3 < (l1.length : Int) then (if x66_4 < (l1.length : Int) then ((impl_changes.f ((rd_T31 l1 x59_3).f0) ((rd_T31 l1 x59_3).f1) ((rd_T31 l1 x59_3).f2) ((rd_T31 l1 x59_3).f3) ((rd_T31 l1 x59_3).f4) ((rd_T31 l1 x59_3).f5) ((rd_T31 l1 x66_4).f0) ((rd_T31 l1 x66_4).f1) ((rd_T31 l1 x66_4).f2) ((rd_T31 l1 x66_4).f3) ((rd_T31 l1 x66_4).f4) ((rd_T31 l1 x66_4).f5) a2).bind fun t128 => (if t128 = true then (impl_Missed.l2 k4 l0 l1 a2 x11_4 x59_3 l0 (l0.length : Int) x59_3 l0 (l0.length : Int) (wrap64 (x66_4 + 1)) ((rd_T31 l0 x59_3).f0) ((rd_T31 l0 x59_3).f1) ((rd_T31 l0 x59_3).f2) ((rd_T31 l0 x59_3).f3) ((rd_T31 l0 x59_3).f4) ((rd_T31 l0 x59_3).f5)) else (if x11_4.length < 17592186044416 then (impl_Missed.l2 k4 l0 l1 a2 (x11_4 ++ [wrap64 ((wrap64 (x59_3 * (l0.length : Int))) + x66_4)]) x59_3 l0 (l0.length : Int) x59_3 l0 (l0.length : Int) (wrap64 (x66_4 + 1)) ((rd_T31 l0 x59_3).f0) ((rd_T31 l0 x59_3).f1) ((rd_T31 l0 x59_3).f2) ((rd_T31 l0 x59_3).f3) ((rd_T31 l0 x59_3).f4) ((rd_T31 l0 x59_3).f5)) else (none)))) else (none)) else (none)) else (none)) else (impl_Missed.l2 k4 l0 l1 a2 x11_4 x59_3 l0 (l0.length : Int) x59_3 l0 (l0.length : Int) (wrap64 (x66_4 + 1)) ((rd_T31 l0 x59_3).f0) ((rd_T31 l0 x59_3).f1) ((rd_T31 l0 x59_3).f2) ((rd_T31 l0 x59_3).f3) ((rd_T31 l0 x59_3).f4) ((rd_T31 l0 x59_3).f5))) = some (r1, r2) := H
                  have A60 := Aside0.mk A600
                  clear A600
                  by_cases c61 : t125 = true
                  ·subst c61
                   have H1 : (if 0 ≤ x59_3 then (if x59_3 < (l1.length : Int) then (if x66_4 < (l1.length : Int) then ((impl_changes.f ((rd_T31 l1 x59_3).f0) ((rd_T31 l1 x59_3).f1) ((rd_T31 l1 x59_3).f2) ((rd_T31 l1 x59_3).f3) ((rd_T31 l1 x59_3).f4) ((rd_T31 l1 x59_3).f5) ((rd_T31 l1 x66_4).f0) ((rd_T31 l1 x66_4).f1) ((rd_T31 l1 x66_4).f2) ((rd_T31 l1 x66_4).f3) ((rd_T31 l1 x66_4).f4) ((rd_T31 l1 x66_4).f5) a2).bind fun t128 => (if t128 = true then (impl_Missed.l2 k4 l0 l1 a2 x11_4 x59_3 l0 (l0.length : Int) x59_3 l0 (l0.length : Int) (wrap64 (x66_4 + 1)) ((rd_T31 l0 x59_3).f0) ((rd_T31 l0 x59_3).f1) ((rd_T31 l0 x59_3).f2) ((rd_T31 l0 x59_3).f3) ((rd_T31 l0 x59_3).f4) ((rd_T31 l0 x59_3).f5)) else (if x11_4.length < 17592186044416 then (impl_Missed.l2 k4 l0 l1 a2 (x11_4 ++ [wrap64 ((wrap64 (x59_3 * (l0.length : Int))) + x66_4)]) x59_3 l0 (l0.length : Int) x59_3 l0 (l0.length : Int) (wrap64 (x66_4 + 1)) ((rd_T31 l0 x59_3).f0) ((rd_T31 l0 x59_3).f1) ((rd_T31 l0 x59_3).f2) ((rd_T31 l0 x59_3).f3) ((rd_T31 l0 x59_3).f4) ((rd_T31 l0 x59_3).f5)) else (none)))) else (none)) else (none)) else (none)) = some (r1, r2) := by rw [if_pos rfl] at H; exact H
                   clear H
                   have H := H1
                   clear H1
                   by_cases c62 : 0 ≤ x59_3
                   ·rw [if_pos c62] at H
                    have c62b0 : decide (0 ≤ x59_3) = true := decide_eq_true c62
                    clear c62
                    by_cases c63 : x59_3 < (l1.length : Int)
                    ·rw [if_pos c63] at H
                     have c63b0 : decide (x59_3 < (l1.length : Int)) = true := decide_eq_true c63
                     clear c63
                     by_cases c64 : x66_4 < (l1.length : Int)
                     ·rw [if_pos c64] at H
                      have c64b0 : decide (x66_4 < (l1.length : Int)) = true := decide_eq_true c64
                      clear c64
                      replace H := Option.bind_eq_some_iff.mp H
                      obtain ⟨t128, A650, H⟩ := H
                      replace H : (if t128 = true then (impl_Missed.l2 k4 l0 l1 a2 x11_4 x59_3 l0 (l0.length : Int) x59_3 l0 (l0.length : Int) (wrap64 (x66_4 + 1)) ((rd_T31 l0 x59_3).f0) ((rd_T31 l0 x59_3).f1) ((rd_T31 l0 x59_3).f2) ((rd_T31 l0 x59_3).f3) ((rd_T31 l0 x59_3).f4) ((rd_T31 l0 x59_3).f5)) else (if x11_4.length < 17592186044416 then (impl_Missed.l2 k4 l0 l1 a2 (x11_4 ++ [wrap64 ((wrap64 (x59_3 * (l0.length : Int))) + x66_4)]) x59_3 l0 (l0.length : Int) x59_3 l0 (l0.length : Int) (wrap64 (x66_4 + 1)) ((rd_T31 l0 x59_3).f0) ((rd_T31 l0 x59_3).f1) ((rd_T31 l0 x59_3).f2) ((rd_T31 l0 x59_3).f3) ((rd_T31 l0 x59_3).f4) ((rd_T31 l0 x59_3).f5)) else (none))) = some (r1, r2) := H
                      have A65 := Aside0.mk A650
                      clear A650
                      by_cases c66 : t128 = true
                      ·subst c66
                       have H1 : (impl_Missed.l2 k4 l0 l1 a2 x11_4 x59_3 l0 (l0.length : Int) x59_3 l0 (l0.length : Int) (wrap64 (x66_4 + 1)) ((rd_T31 l0 x59_3).f0) ((rd_T31 l0 x59_3).f1) ((rd_T31 l0 x59_3).f2) ((rd_T31 l0 x59_3).f3) ((rd_T31 l0 x59_3).f4) ((rd_T31 l0 x59_3).f5)) = some (r1, r2) := by rw [if_pos rfl] at H; exact H
                       clear H
                       have H := H1
                       clear H1
                       have H' := Aside0.mk H
                       clear H
                       have p123 : 0 ≤ (x66_4 : Int) := of_decide_eq_true (by first | (with_reducible assumption) | assumption)
                       have q123 : x66_4 < (l0.length : Int) := of_decide_eq_true (by first | (with_reducible assumption) | assumption)
                       obtain ⟨ad123, e123, hx123_0, hx123_1, hx123_2, hx123_3, hx123_4, hx123_5⟩ := at_T31 HR0.out x66_4 p123 q123
                       obtain rfl : ad121 = ad123 := (by injection e123)
                       replace hx123_0 := (HB.out.cell (World.block_lt_of_cell? w _ hx123_0)).trans hx123_0
                       replace hx123_1 := (HB.out.cell (World.block_lt_of_cell? w _ hx123_1)).trans hx123_1
                       replace hx123_2 := (HB.out.cell (World.block_lt_of_cell? w _ hx123_2)).trans hx123_2
                       replace hx123_3 := (HB.out.cell (World.block_lt_of_cell? w _ hx123_3)).trans hx123_3
                       replace hx123_4 := (HB.out.cell (World.block_lt_of_cell? w _ hx123_4)).trans hx123_4
                       replace hx123_5 := (HB.out.cell (World.block_lt_of_cell? w _ hx123_5)).trans hx123_5
                       replace p123 := eq_true p123
                       replace q123 := eq_true q123
                       try go_wp2_with (first | ((with_reducible refine gate_dst (N := 15) rfl ?_); (try (refine gate_guard (by rfl) ?_; dsimp only)); refine box_event ?hg (N := 15) ?hd (cs := #[.int .i64 0, .int .i64 0, .int .i64 0, .int .i64 0, .int .i64 0, .int .i64 0]) (t := 31) ?hr ?_; (case hd => rfl); (case hg => rfl); (case hr => first | (go_simp; done) | (go_simp; rfl)); intro gb124 hg w67 hbox hb; have n0_ := Aside0.mk (Kd.R_below (fr_ HO_11.out) hb); have n1_ := Aside0.mk (blk_below (g := gb122) (o := .cells #[.int .i64 ((rd_T31 l0 x59_3).f0), .int .i64 ((rd_T31 l0 x59_3).f1), .int .i64 ((rd_T31 l0 x59_3).f2), .int .i64 ((rd_T31 l0 x59_3).f3), .int .i64 ((rd_T31 l0 x59_3).f4), .int .i64 ((rd_T31 l0 x59_3).f5)] 31 (0, 0)) (fb_ BK122.out) hb); have n2_ := Aside0.mk (below_step (bel_ HB.out) hb); have n3_ := Aside0.mk (hbox); have n4_ := Aside0.mk ((by rw [hg]; exact (below_size (bel_ HB.out)) : w.heap.size ≤ gb124)); have n5_ := Aside0.mk ((by rw [hg]; exact (below_size (bel_ HB.out)) : w.heap.size ≤ gb124)); have n6_ := Aside0.mk ((by rw [hg]; exact Nat.ne_of_lt (blk_lt (g := gb122) (o := .cells #[.int .i64 ((rd_T31 l0 x59_3).f0), .int .i64 ((rd_T31 l0 x59_3).f1), .int .i64 ((rd_T31 l0 x59_3).f2), .int .i64 ((rd_T31 l0 x59_3).f3), .int .i64 ((rd_T31 l0 x59_3).f4), .int .i64 ((rd_T31 l0 x59_3).f5)] 31 (0, 0)) (fb_ BK122.out)) : gb122 ≠ gb124)); have n7_ := Aside0.mk ((by rw [hg]; exact Nat.ne_of_gt (blk_lt (g := gb122) (o := .cells #[.int .i64 ((rd_T31 l0 x59_3).f0), .int .i64 ((rd_T31 l0 x59_3).f1), .int .i64 ((rd_T31 l0 x59_3).f2), .int .i64 ((rd_T31 l0 x59_3).f3), .int .i64 ((rd_T31 l0 x59_3).f4), .int .i64 ((rd_T31 l0 x59_3).f5)] 31 (0, 0)) (fb_ BK122.out)) : gb124 ≠ gb122)); clear HO_11; clear BK122; clear HB; have HO_11 := n0_; have BK122 := n1_; have HB := n2_; have BK124 := n3_; have GW124 := n4_; have GE124 := n5_; have NB122_124 := n6_; have NB124_122 := n7_; clear n0_ n1_ n2_ n3_ n4_ n5_ n6_ n7_; clear hb hbox hg; have hnb68 := NB124_122.out; have hnc68 := NB122_124.out; have hcz69_0 : w67.cell? ⟨gb124, 0, none⟩ = some (.int .i64 0) := (blk_cell BK124.out 0).trans rfl; have hcz69_1 : w67.cell? ⟨gb124, 1, none⟩ = some (.int .i64 0) := (blk_cell BK124.out 1).trans rfl; have hcz69_2 : w67.cell? ⟨gb124, 2, none⟩ = some (.int .i64 0) := (blk_cell BK124.out 2).trans rfl; have hcz69_3 : w67.cell? ⟨gb124, 3, none⟩ = some (.int .i64 0) := (blk_cell BK124.out 3).trans rfl; have hcz69_4 : w67.cell? ⟨gb124, 4, none⟩ = some (.int .i64 0) := (blk_cell BK124.out 4).trans rfl; have hcz69_5 : w67.cell? ⟨gb124, 5, none⟩ = some (.int .i64 0) := (blk_cell BK124.out 5).trans rfl; have hfz69_0 := blk_frozen BK124.out 0; have hfz69_1 := blk_frozen BK124.out 1; have hfz69_2 := blk_frozen BK124.out 2; have hfz69_3 := blk_frozen BK124.out 3; have hfz69_4 := blk_frozen BK124.out 4; have hfz69_5 := blk_frozen BK124.out 5))
                       have n0_ : Aside0 (Kd.R (Kd.int .i64) 3 ((((((w67.setCell ⟨gb124, 0, none⟩ (.int .i64 ((rd_T31 l0 x66_4).f0))).setCell ⟨gb124, 1, none⟩ (.int .i64 ((rd_T31 l0 x66_4).f1))).setCell ⟨gb124, 2, none⟩ (.int .i64 ((rd_T31 l0 x66_4).f2))).setCell ⟨gb124, 3, none⟩ (.int .i64 ((rd_T31 l0 x66_4).f3))).setCell ⟨gb124, 4, none⟩ (.int .i64 ((rd_T31 l0 x66_4).f4))).setCell ⟨gb124, 5, none⟩ (.int .i64 ((rd_T31 l0 x66_4).f5))) w.heap.size (fun _ => True) u11 x11_4) := ⟨by (with_reducible repeat (first | apply Kd.R_alloc | apply Kd.R_drewN | apply Kd.R_drew)); exact Kd.R_mono (Kd.R_far (p := ⟨gb124, 5, none⟩) (Kd.R_far (p := ⟨gb124, 4, none⟩) (Kd.R_far (p := ⟨gb124, 3, none⟩) (Kd.R_far (p := ⟨gb124, 2, none⟩) (Kd.R_far (p := ⟨gb124, 1, none⟩) (Kd.R_far (p := ⟨gb124, 0, none⟩) (Kd.R_types HO_11.out BK124.out (by decide)) (fun _ hk => hk.2) (.int .i64 ((rd_T31 l0 x66_4).f0))) (fun _ hk => hk.2) (.int .i64 ((rd_T31 l0 x66_4).f1))) (fun _ hk => hk.2) (.int .i64 ((rd_T31 l0 x66_4).f2))) (fun _ hk => hk.2) (.int .i64 ((rd_T31 l0 x66_4).f3))) (fun _ hk => hk.2) (.int .i64 ((rd_T31 l0 x66_4).f4))) (fun _ hk => hk.2) (.int .i64 ((rd_T31 l0 x66_4).f5))) (fun _ hk => trivial)⟩
                       have n1_ : Aside0 (((((((w67.setCell ⟨gb124, 0, none⟩ (.int .i64 ((rd_T31 l0 x66_4).f0))).setCell ⟨gb124, 1, none⟩ (.int .i64 ((rd_T31 l0 x66_4).f1))).setCell ⟨gb124, 2, none⟩ (.int .i64 ((rd_T31 l0 x66_4).f2))).setCell ⟨gb124, 3, none⟩ (.int .i64 ((rd_T31 l0 x66_4).f3))).setCell ⟨gb124, 4, none⟩ (.int .i64 ((rd_T31 l0 x66_4).f4))).setCell ⟨gb124, 5, none⟩ (.int .i64 ((rd_T31 l0 x66_4).f5))).heap[gb122]? = some (.cells #[.int .i64 ((rd_T31 l0 x59_3).f0), .int .i64 ((rd_T31 l0 x59_3).f1), .int .i64 ((rd_T31 l0 x59_3).f2), .int .i64 ((rd_T31 l0 x59_3).f3), .int .i64 ((rd_T31 l0 x59_3).f4), .int .i64 ((rd_T31 l0 x59_3).f5)] 31 (0, 0))) := ⟨by (with_reducible repeat (first | refine blk_drewN ?_ _ | refine blk_drew ?_ | refine blk_alloc ?_ _)); refine blk_far ?_ NB122_124.out _; (with_reducible repeat (first | refine blk_drewN ?_ _ | refine blk_drew ?_ | refine blk_alloc ?_ _)); refine blk_far ?_ NB122_124.out _; (with_reducible repeat (first | refine blk_drewN ?_ _ | refine blk_drew ?_ | refine blk_alloc ?_ _)); refine blk_far ?_ NB122_124.out _; (with_reducible repeat (first | refine blk_drewN ?_ _ | refine blk_drew ?_ | refine blk_alloc ?_ _)); refine blk_far ?_ NB122_124.out _; (with_reducible repeat (first | refine blk_drewN ?_ _ | refine blk_drew ?_ | refine blk_alloc ?_ _)); refine blk_far ?_ NB122_124.out _; (with_reducible repeat (first | refine blk_drewN ?_ _ | refine blk_drew ?_ | refine blk_alloc ?_ _)); refine blk_far ?_ NB122_124.out _; (with_reducible repeat (first | refine blk_drewN ?_ _ | refine blk_drew ?_ | refine blk_alloc ?_ _)); exact BK122.out⟩
                       have n2_ : Aside0 (((((((w67.setCell ⟨gb124, 0, none⟩ (.int .i64 ((rd_T31 l0 x66_4).f0))).setCell ⟨gb124, 1, none⟩ (.int .i64 ((rd_T31 l0 x66_4).f1))).setCell ⟨gb124, 2, none⟩ (.int .i64 ((rd_T31 l0 x66_4).f2))).setCell ⟨gb124, 3, none⟩ (.int .i64 ((rd_T31 l0 x66_4).f3))).setCell ⟨gb124, 4, none⟩ (.int .i64 ((rd_T31 l0 x66_4).f4))).setCell ⟨gb124, 5, none⟩ (.int .i64 ((rd_T31 l0 x66_4).f5))).heap[gb124]? = some (.cells #[.int .i64 ((rd_T31 l0 x66_4).f0), .int .i64 ((rd_T31 l0 x66_4).f1), .int .i64 ((rd_T31 l0 x66_4).f2), .int .i64 ((rd_T31 l0 x66_4).f3), .int .i64 ((rd_T31 l0 x66_4).f4), .int .i64 ((rd_T31 l0 x66_4).f5)] 31 (0, 0))) := ⟨by (with_reducible repeat (first | refine blk_drewN ?_ _ | refine blk_drew ?_ | refine blk_alloc ?_ _)); refine blk_put (cs := #[.int .i64 ((rd_T31 l0 x66_4).f0), .int .i64 ((rd_T31 l0 x66_4).f1), .int .i64 ((rd_T31 l0 x66_4).f2), .int .i64 ((rd_T31 l0 x66_4).f3), .int .i64 ((rd_T31 l0 x66_4).f4), .int .i64 0]) ?_ 5 _ rfl; (with_reducible repeat (first | refine blk_drewN ?_ _ | refine blk_drew ?_ | refine blk_alloc ?_ _)); refine blk_put (cs := #[.int .i64 ((rd_T31 l0 x66_4).f0), .int .i64 ((rd_T31 l0 x66_4).f1), .int .i64 ((rd_T31 l0 x66_4).f2), .int .i64 ((rd_T31 l0 x66_4).f3), .int .i64 0, .int .i64 0]) ?_ 4 _ rfl; (with_reducible repeat (first | refine blk_drewN ?_ _ | refine blk_drew ?_ | refine blk_alloc ?_ _)); refine blk_put (cs := #[.int .i64 ((rd_T31 l0 x66_4).f0), .int .i64 ((rd_T31 l0 x66_4).f1), .int .i64 ((rd_T31 l0 x66_4).f2), .int .i64 0, .int .i64 0, .int .i64 0]) ?_ 3 _ rfl; (with_reducible repeat (first | refine blk_drewN ?_ _ | refine blk_drew ?_ | refine blk_alloc ?_ _)); refine blk_put (cs := #[.int .i64 ((rd_T31 l0 x66_4).f0), .int .i64 ((rd_T31 l0 x66_4).f1), .int .i64 0, .int .i64 0, .int .i64 0, .int .i64 0]) ?_ 2 _ rfl; (with_reducible repeat (first | refine blk_drewN ?_ _ | refine blk_drew ?_ | refine blk_alloc ?_ _)); refine blk_put (cs := #[.int .i64 ((rd_T31 l0 x66_4).f0), .int .i64 0, .int .i64 0, .int .i64 0, .int .i64 0, .int .i64 0]) ?_ 1 _ rfl; (with_reducible repeat (first | refine blk_drewN ?_ _ | refine blk_drew ?_ | refine blk_alloc ?_ _)); refine blk_put (cs := #[.int .i64 0, .int .i64 0, .int .i64 0, .int .i64 0, .int .i64 0, .int .i64 0]) ?_ 0 _ rfl; (with_reducible repeat (first | refine blk_drewN ?_ _ | refine blk_drew ?_ | refine blk_alloc ?_ _)); exact BK124.out⟩
                       have n3_ : Aside0 (Below w.heap.size w ((((((w67.setCell ⟨gb124, 0, none⟩ (.int .i64 ((rd_T31 l0 x66_4).f0))).setCell ⟨gb124, 1, none⟩ (.int .i64 ((rd_T31 l0 x66_4).f1))).setCell ⟨gb124, 2, none⟩ (.int .i64 ((rd_T31 l0 x66_4).f2))).setCell ⟨gb124, 3, none⟩ (.int .i64 ((rd_T31 l0 x66_4).f3))).setCell ⟨gb124, 4, none⟩ (.int .i64 ((rd_T31 l0 x66_4).f4))).setCell ⟨gb124, 5, none⟩ (.int .i64 ((rd_T31 l0 x66_4).f5)))) := ⟨bel_ HB.out⟩
                       (try clear HO_11)
                       (try clear BK122)
                       (try clear BK124)
                       (try clear HB)
                       generalize ((((((w67.setCell ⟨gb124, 0, none⟩ (.int .i64 ((rd_T31 l0 x66_4).f0))).setCell ⟨gb124, 1, none⟩ (.int .i64 ((rd_T31 l0 x66_4).f1))).setCell ⟨gb124, 2, none⟩ (.int .i64 ((rd_T31 l0 x66_4).f2))).setCell ⟨gb124, 3, none⟩ (.int .i64 ((rd_T31 l0 x66_4).f3))).setCell ⟨gb124, 4, none⟩ (.int .i64 ((rd_T31 l0 x66_4).f4))).setCell ⟨gb124, 5, none⟩ (.int .i64 ((rd_T31 l0 x66_4).f5))) = w70 at n0_ n1_ n2_ n3_ ⊢
                       have HO_11 := n0_
                       have BK122 := n1_
                       have BK124 := n2_
                       have HB := n3_
                       clear n0_ n1_ n2_ n3_
                       have n0_ := Aside0.mk (Kd.R_drew HO_11.out)
                       have n1_ := Aside0.mk (blk_drew BK122.out)
                       have n2_ := Aside0.mk (blk_drew BK124.out)
                       have n3_ := Aside0.mk (below_drew1 HB.out)
                       clear HO_11
                       clear BK122
                       clear BK124
                       clear HB
                       have HO_11 := n0_
                       have BK122 := n1_
                       have BK124 := n2_
                       have HB := n3_
                       clear n0_ n1_ n2_ n3_
                       have p126 : 0 ≤ (x59_3 : Int) := of_decide_eq_true (by first | (with_reducible assumption) | assumption)
                       have q126 : x59_3 < (l1.length : Int) := of_decide_eq_true (by first | (with_reducible assumption) | assumption)
                       obtain ⟨ad126, e126, hx126_0, hx126_1, hx126_2, hx126_3, hx126_4, hx126_5⟩ := at_T31 HR1.out x59_3 p126 q126
                       have hw126_5 := hx126_5
                       have hw126_4 := hx126_4
                       have hw126_3 := hx126_3
                       have hw126_2 := hx126_2
                       have hw126_1 := hx126_1
                       have hw126_0 := hx126_0
                       cases e126
                       replace hx126_0 := (HB.out.cell (World.block_lt_of_cell? w _ hx126_0)).trans hx126_0
                       replace hx126_1 := (HB.out.cell (World.block_lt_of_cell? w _ hx126_1)).trans hx126_1
                       replace hx126_2 := (HB.out.cell (World.block_lt_of_cell? w _ hx126_2)).trans hx126_2
                       replace hx126_3 := (HB.out.cell (World.block_lt_of_cell? w _ hx126_3)).trans hx126_3
                       replace hx126_4 := (HB.out.cell (World.block_lt_of_cell? w _ hx126_4)).trans hx126_4
                       replace hx126_5 := (HB.out.cell (World.block_lt_of_cell? w _ hx126_5)).trans hx126_5
                       replace p126 := eq_true p126
                       replace q126 := eq_true q126
                       have p127 : 0 ≤ (x66_4 : Int) := of_decide_eq_true (by first | (with_reducible assumption) | assumption)
                       have q127 : x66_4 < (l1.length : Int) := of_decide_eq_true (by first | (with_reducible assumption) | assumption)
                       obtain ⟨ad127, e127, hx127_0, hx127_1, hx127_2, hx127_3, hx127_4, hx127_5⟩ := at_T31 HR1.out x66_4 p127 q127
                       have hw127_5 := hx127_5
                       have hw127_4 := hx127_4
                       have hw127_3 := hx127_3
                       have hw127_2 := hx127_2
                       have hw127_1 := hx127_1
                       have hw127_0 := hx127_0
                       obtain rfl : ad126 = ad127 := (by injection e127)
                       replace hx127_0 := (HB.out.cell (World.block_lt_of_cell? w _ hx127_0)).trans hx127_0
                       replace hx127_1 := (HB.out.cell (World.block_lt_of_cell? w _ hx127_1)).trans hx127_1
                       replace hx127_2 := (HB.out.cell (World.block_lt_of_cell? w _ hx127_2)).trans hx127_2
                       replace hx127_3 := (HB.out.cell (World.block_lt_of_cell? w _ hx127_3)).trans hx127_3
                       replace hx127_4 := (HB.out.cell (World.block_lt_of_cell? w _ hx127_4)).trans hx127_4
                       replace hx127_5 := (HB.out.cell (World.block_lt_of_cell? w _ hx127_5)).trans hx127_5
                       replace p127 := eq_true p127
                       replace q127 := eq_true q127
                       refine start_ (n := 24) (S := fun w' => w'.cell? ⟨gb122, 0, none⟩ = some (.int .i64 ((rd_T31 l0 x59_3).f0)) ∧ w'.cell? ⟨gb122, 1, none⟩ = some (.int .i64 ((rd_T31 l0 x59_3).f1)) ∧ w'.cell? ⟨gb122, 2, none⟩ = some (.int .i64 ((rd_T31 l0 x59_3).f2)) ∧ w'.cell? ⟨gb122, 3, none⟩ = some (.int .i64 ((rd_T31 l0 x59_3).f3)) ∧ w'.cell? ⟨gb122, 4, none⟩ = some (.int .i64 ((rd_T31 l0 x59_3).f4)) ∧ w'.cell? ⟨gb122, 5, none⟩ = some (.int .i64 ((rd_T31 l0 x59_3).f5)) ∧ w'.cell? ⟨gb124, 0, none⟩ = some (.int .i64 ((rd_T31 l0 x66_4).f0)) ∧ w'.cell? ⟨gb124, 1, none⟩ = some (.int .i64 ((rd_T31 l0 x66_4).f1)) ∧ w'.cell? ⟨gb124, 2, none⟩ = some (.int .i64 ((rd_T31 l0 x66_4).f2)) ∧ w'.cell? ⟨gb124, 3, none⟩ = some (.int .i64 ((rd_T31 l0 x66_4).f3)) ∧ w'.cell? ⟨gb124, 4, none⟩ = some (.int .i64 ((rd_T31 l0 x66_4).f4)) ∧ w'.cell? ⟨gb124, 5, none⟩ = some (.int .i64 ((rd_T31 l0 x66_4).f5)) ∧ w'.cell? (ad126.add ((x59_3).toNat * 6)) = some (.int .i64 ((rd_T31 l1 x59_3).f0)) ∧ w'.cell? ⟨(ad126.add ((x59_3).toNat * 6)).block, (ad126.add ((x59_3).toNat * 6)).off + 1, none⟩ = some (.int .i64 ((rd_T31 l1 x59_3).f1)) ∧ w'.cell? ⟨(ad126.add ((x59_3).toNat * 6)).block, (ad126.add ((x59_3).toNat * 6)).off + 2, none⟩ = some (.int .i64 ((rd_T31 l1 x59_3).f2)) ∧ w'.cell? ⟨(ad126.add ((x59_3).toNat * 6)).block, (ad126.add ((x59_3).toNat * 6)).off + 3, none⟩ = some (.int .i64 ((rd_T31 l1 x59_3).f3)) ∧ w'.cell? ⟨(ad126.add ((x59_3).toNat * 6)).block, (ad126.add ((x59_3).toNat * 6)).off + 4, none⟩ = some (.int .i64 ((rd_T31 l1 x59_3).f4)) ∧ w'.cell? ⟨(ad126.add ((x59_3).toNat * 6)).block, (ad126.add ((x59_3).toNat * 6)).off + 5, none⟩ = some (.int .i64 ((rd_T31 l1 x59_3).f5)) ∧ w'.cell? (ad126.add ((x66_4).toNat * 6)) = some (.int .i64 ((rd_T31 l1 x66_4).f0)) ∧ w'.cell? ⟨(ad126.add ((x66_4).toNat * 6)).block, (ad126.add ((x66_4).toNat * 6)).off + 1, none⟩ = some (.int .i64 ((rd_T31 l1 x66_4).f1)) ∧ w'.cell? ⟨(ad126.add ((x66_4).toNat * 6)).block, (ad126.add ((x66_4).toNat * 6)).off + 2, none⟩ = some (.int .i64 ((rd_T31 l1 x66_4).f2)) ∧ w'.cell? ⟨(ad126.add ((x66_4).toNat * 6)).block, (ad126.add ((x66_4).toNat * 6)).off + 3, none⟩ = some (.int .i64 ((rd_T31 l1 x66_4).f3)) ∧ w'.cell? ⟨(ad126.add ((x66_4).toNat * 6)).block, (ad126.add ((x66_4).toNat * 6)).off + 4, none⟩ = some (.int .i64 ((rd_T31 l1 x66_4).f4)) ∧ w'.cell? ⟨(ad126.add ((x66_4).toNat * 6)).block, (ad126.add ((x66_4).toNat * 6)).off + 5, none⟩ = some (.int .i64 ((rd_T31 l1 x66_4).f5))) (ds := []) (bs 24 0) (by kernel_rfl) rfl rfl ⟨(blk_cell BK122.out 0).trans rfl, (blk_cell BK122.out 1).trans rfl, (blk_cell BK122.out 2).trans rfl, (blk_cell BK122.out 3).trans rfl, (blk_cell BK122.out 4).trans rfl, (blk_cell BK122.out 5).trans rfl, (blk_cell BK124.out 0).trans rfl, (blk_cell BK124.out 1).trans rfl, (blk_cell BK124.out 2).trans rfl, (blk_cell BK124.out 3).trans rfl, (blk_cell BK124.out 4).trans rfl, (blk_cell BK124.out 5).trans rfl, ((HB.out.cell (World.block_lt_of_cell? w _ hw126_0)).trans hw126_0), ((HB.out.cell (World.block_lt_of_cell? w _ hw126_1)).trans hw126_1), ((HB.out.cell (World.block_lt_of_cell? w _ hw126_2)).trans hw126_2), ((HB.out.cell (World.block_lt_of_cell? w _ hw126_3)).trans hw126_3), ((HB.out.cell (World.block_lt_of_cell? w _ hw126_4)).trans hw126_4), ((HB.out.cell (World.block_lt_of_cell? w _ hw126_5)).trans hw126_5), ((HB.out.cell (World.block_lt_of_cell? w _ hw127_0)).trans hw127_0), ((HB.out.cell (World.block_lt_of_cell? w _ hw127_1)).trans hw127_1), ((HB.out.cell (World.block_lt_of_cell? w _ hw127_2)).trans hw127_2), ((HB.out.cell (World.block_lt_of_cell? w _ hw127_3)).trans hw127_3), ((HB.out.cell (World.block_lt_of_cell? w _ hw127_4)).trans hw127_4), ((HB.out.cell (World.block_lt_of_cell? w _ hw127_5)).trans hw127_5)⟩ (fun hHeld => ?_); refine with_tabW impl_Missed.tab18 impl_Missed.bits18 (fun HT_ HW_ => ?_)
                       generalize w70.drew = w71 at HO_11 BK122 BK124 HB hx126_0 hx126_1 hx126_2 hx126_3 hx126_4 hx126_5 hx127_0 hx127_1 hx127_2 hx127_3 hx127_4 hx127_5 hHeld ⊢
                       refine pu_ 0 71 HT_ (bs 24 1) rfl rfl ?_
                       refine pu_ 2 73 HT_ (bs 24 5) rfl rfl ?_
                       refine take_ (i := 1) (N := some 72) (v := ?_) (a' := ?_) (bs 24 7) rfl rfl (take_ofW HT_.out HW_.out (by kernel_rfl)) (fun _ _ _ h => h) (Or.inl ⟨by rfl, ?_⟩) hHeld ?_ ?_
                       rotate_left
                       ·rintro w' ⟨s0, s1, s2, s3, s4, s5, s6, s7, s8, s9, s10, s11, s12, s13, s14, s15, s16, s17, s18, s19, s20, s21, s22, s23⟩
                        go_simp
                        with_reducible rfl
                       rotate_left
                       ·simp only [Act.put, sA_, sZ_, sS_, i64_w, i32_w]
                        rfl
                       refine take_ (i := 3) (N := some 74) (v := ?_) (a' := ?_) (bs 24 15) rfl rfl (take_ofW HT_.out HW_.out (by kernel_rfl)) (fun _ _ _ h => h) (Or.inl ⟨by rfl, ?_⟩) hHeld ?_ ?_
                       rotate_left
                       ·rintro w' ⟨s0, s1, s2, s3, s4, s5, s6, s7, s8, s9, s10, s11, s12, s13, s14, s15, s16, s17, s18, s19, s20, s21, s22, s23⟩
                        go_simp
                        with_reducible rfl
                       rotate_left
                       ·simp only [Act.put, sA_, sZ_, sS_, i64_w, i32_w]
                        rfl
                       refine pu_ 4 75 HT_ (bs 24 31) rfl rfl ?_
                       refine pu_ 5 76 HT_ (bs 24 63) rfl rfl ?_
                       refine pu_ 8 79 HT_ (bs 24 319) rfl rfl ?_
                       refine take_ (i := 6) (N := some 77) (v := ?_) (a' := ?_) (bs 24 383) rfl rfl (take_ofW HT_.out HW_.out (by kernel_rfl)) (fun _ _ _ h => h) (Or.inl ⟨by rfl, ?_⟩) hHeld ?_ ?_
                       rotate_left
                       ·rintro w' ⟨s0, s1, s2, s3, s4, s5, s6, s7, s8, s9, s10, s11, s12, s13, s14, s15, s16, s17, s18, s19, s20, s21, s22, s23⟩
                        go_simp
                        with_reducible rfl
                       rotate_left
                       ·simp only [Act.put, sA_, sZ_, sS_, i64_w, i32_w]
                        rfl
                       refine take_ (i := 7) (N := some 78) (v := ?_) (a' := ?_) (bs 24 511) rfl rfl (take_ofW HT_.out HW_.out (by kernel_rfl)) (fun _ _ _ h => h) (Or.inl ⟨by rfl, ?_⟩) hHeld ?_ ?_
                       rotate_left
                       ·rintro w' ⟨s0, s1, s2, s3, s4, s5, s6, s7, s8, s9, s10, s11, s12, s13, s14, s15, s16, s17, s18, s19, s20, s21, s22, s23⟩
                        go_simp
                        with_reducible rfl
                       rotate_left
                       ·simp only [Act.put, sA_, sZ_, sS_, i64_w, i32_w]
                        rfl
                       refine one_ (i := 9) (N := some 80) (bs 24 1023) rfl rfl (one_of HT_.out (by kernel_rfl)) (by decide) (fun K hK => ?_)
                       refine goes_ Try.func34 (by kernel_rfl) rfl #[.agg #[.int .i64 ((rd_T31 l0 x59_3).f0), .int .i64 ((rd_T31 l0 x59_3).f1), .int .i64 ((rd_T31 l0 x59_3).f2), .int .i64 ((rd_T31 l0 x59_3).f3), .int .i64 ((rd_T31 l0 x59_3).f4), .int .i64 ((rd_T31 l0 x59_3).f5)], .agg #[.int .i64 ((rd_T31 l0 x66_4).f0), .int .i64 ((rd_T31 l0 x66_4).f1), .int .i64 ((rd_T31 l0 x66_4).f2), .int .i64 ((rd_T31 l0 x66_4).f3), .int .i64 ((rd_T31 l0 x66_4).f4), .int .i64 ((rd_T31 l0 x66_4).f5)], .int .i64 a2] (by rfl) rfl rfl (by (try simp only [List.map_toArray, List.map_cons, List.map_nil]); first | done | rfl | (simp only [List.length_drop, List.length_take]; rfl)) ?_
                       with_reducible refine (impl_changes.calls ((rd_T31 l0 x59_3).f0) ((rd_T31 l0 x59_3).f1) ((rd_T31 l0 x59_3).f2) ((rd_T31 l0 x59_3).f3) ((rd_T31 l0 x59_3).f4) ((rd_T31 l0 x59_3).f5) ((rd_T31 l0 x66_4).f0) ((rd_T31 l0 x66_4).f1) ((rd_T31 l0 x66_4).f2) ((rd_T31 l0 x66_4).f3) ((rd_T31 l0 x66_4).f4) ((rd_T31 l0 x66_4).f5) a2 true _ A60.out).mono ?_
                       rintro e w72 ⟨rfl, hb⟩
                       refine ⟨_, rfl, ?_⟩
                       have n0_ := Aside0.mk (Kd.R_below (fr_ HO_11.out) hb)
                       have n1_ := Aside0.mk (blk_below (g := gb122) (o := .cells #[.int .i64 ((rd_T31 l0 x59_3).f0), .int .i64 ((rd_T31 l0 x59_3).f1), .int .i64 ((rd_T31 l0 x59_3).f2), .int .i64 ((rd_T31 l0 x59_3).f3), .int .i64 ((rd_T31 l0 x59_3).f4), .int .i64 ((rd_T31 l0 x59_3).f5)] 31 (0, 0)) (fb_ BK122.out) hb)
                       have n2_ := Aside0.mk (blk_below (g := gb124) (o := .cells #[.int .i64 ((rd_T31 l0 x66_4).f0), .int .i64 ((rd_T31 l0 x66_4).f1), .int .i64 ((rd_T31 l0 x66_4).f2), .int .i64 ((rd_T31 l0 x66_4).f3), .int .i64 ((rd_T31 l0 x66_4).f4), .int .i64 ((rd_T31 l0 x66_4).f5)] 31 (0, 0)) (fb_ BK124.out) hb)
                       have n3_ := Aside0.mk (below_step (bel_ HB.out) hb)
                       clear HO_11
                       clear BK122
                       clear BK124
                       clear HB
                       have HO_11 := n0_
                       have BK122 := n1_
                       have BK124 := n2_
                       have HB := n3_
                       clear n0_ n1_ n2_ n3_
                       (try clear hb)
                       (try clear hb2)
                       (try clear hk)
                       (try clear hi)
                       refine hK.out _ _ ⟨(blk_cell BK122.out 0).trans rfl, (blk_cell BK122.out 1).trans rfl, (blk_cell BK122.out 2).trans rfl, (blk_cell BK122.out 3).trans rfl, (blk_cell BK122.out 4).trans rfl, (blk_cell BK122.out 5).trans rfl, (blk_cell BK124.out 0).trans rfl, (blk_cell BK124.out 1).trans rfl, (blk_cell BK124.out 2).trans rfl, (blk_cell BK124.out 3).trans rfl, (blk_cell BK124.out 4).trans rfl, (blk_cell BK124.out 5).trans rfl, ((HB.out.cell (World.block_lt_of_cell? w _ hw126_0)).trans hw126_0), ((HB.out.cell (World.block_lt_of_cell? w _ hw126_1)).trans hw126_1), ((HB.out.cell (World.block_lt_of_cell? w _ hw126_2)).trans hw126_2), ((HB.out.cell (World.block_lt_of_cell? w _ hw126_3)).trans hw126_3), ((HB.out.cell (World.block_lt_of_cell? w _ hw126_4)).trans hw126_4), ((HB.out.cell (World.block_lt_of_cell? w _ hw126_5)).trans hw126_5), ((HB.out.cell (World.block_lt_of_cell? w _ hw127_0)).trans hw127_0), ((HB.out.cell (World.block_lt_of_cell? w _ hw127_1)).trans hw127_1), ((HB.out.cell (World.block_lt_of_cell? w _ hw127_2)).trans hw127_2), ((HB.out.cell (World.block_lt_of_cell? w _ hw127_3)).trans hw127_3), ((HB.out.cell (World.block_lt_of_cell? w _ hw127_4)).trans hw127_4), ((HB.out.cell (World.block_lt_of_cell? w _ hw127_5)).trans hw127_5)⟩ (fun hHeld => ?_)
                       clear hK K
                       refine norm_ (a' := ?_) ?_ ?_
                       rotate_left
                       ·show Act.put _ (some 80) _ = _
                        simp only [Act.put, sA_, sZ_, sS_, i64_w, i32_w]
                        rfl
                       refine pu_ 10 81 HT_ (bs 24 2047) rfl rfl ?_
                       refine pu_ 11 82 HT_ (bs 24 4095) rfl rfl ?_
                       refine pu_ 12 83 HT_ (bs 24 8191) rfl rfl ?_
                       refine pu_ 13 84 HT_ (bs 24 16383) rfl rfl ?_
                       refine pu_ 14 85 HT_ (bs 24 32767) rfl rfl ?_
                       refine pu_ 16 87 HT_ (bs 24 98303) rfl rfl ?_
                       refine pu_ 17 88 HT_ (bs 24 229375) rfl rfl ?_
                       refine pu_ 18 89 HT_ (bs 24 491519) rfl rfl ?_
                       refine pu_ 20 91 HT_ (bs 24 1540095) rfl rfl ?_
                       refine take_ (i := 15) (N := some 86) (v := ?_) (a' := ?_) (bs 24 1572863) rfl rfl (take_ofW HT_.out HW_.out (by kernel_rfl)) (fun _ _ _ h => h) (Or.inl ⟨by rfl, ?_⟩) hHeld ?_ ?_
                       rotate_left
                       ·rintro w' ⟨s0, s1, s2, s3, s4, s5, s6, s7, s8, s9, s10, s11, s12, s13, s14, s15, s16, s17, s18, s19, s20, s21, s22, s23⟩
                        go_simp
                        with_reducible rfl
                       rotate_left
                       ·simp only [Act.put, sA_, sZ_, sS_, i64_w, i32_w]
                        rfl
                       refine take_ (i := 19) (N := some 90) (v := ?_) (a' := ?_) (bs 24 2097151) rfl rfl (take_ofW HT_.out HW_.out (by kernel_rfl)) (fun _ _ _ h => h) (Or.inl ⟨by rfl, ?_⟩) hHeld ?_ ?_
                       rotate_left
                       ·rintro w' ⟨s0, s1, s2, s3, s4, s5, s6, s7, s8, s9, s10, s11, s12, s13, s14, s15, s16, s17, s18, s19, s20, s21, s22, s23⟩
                        go_simp
                        with_reducible rfl
                       rotate_left
                       ·simp only [Act.put, sA_, sZ_, sS_, i64_w, i32_w]
                        rfl
                       refine one_ (i := 21) (N := some 92) (bs 24 4194303) rfl rfl (one_of HT_.out (by kernel_rfl)) (by decide) (fun K hK => ?_)
                       refine goes_ Try.func34 (by kernel_rfl) rfl #[.agg #[.int .i64 ((rd_T31 l1 x59_3).f0), .int .i64 ((rd_T31 l1 x59_3).f1), .int .i64 ((rd_T31 l1 x59_3).f2), .int .i64 ((rd_T31 l1 x59_3).f3), .int .i64 ((rd_T31 l1 x59_3).f4), .int .i64 ((rd_T31 l1 x59_3).f5)], .agg #[.int .i64 ((rd_T31 l1 x66_4).f0), .int .i64 ((rd_T31 l1 x66_4).f1), .int .i64 ((rd_T31 l1 x66_4).f2), .int .i64 ((rd_T31 l1 x66_4).f3), .int .i64 ((rd_T31 l1 x66_4).f4), .int .i64 ((rd_T31 l1 x66_4).f5)], .int .i64 a2] (by rfl) rfl rfl (by (try simp only [List.map_toArray, List.map_cons, List.map_nil]); first | done | rfl | (simp only [List.length_drop, List.length_take]; rfl)) ?_
                       with_reducible refine (impl_changes.calls ((rd_T31 l1 x59_3).f0) ((rd_T31 l1 x59_3).f1) ((rd_T31 l1 x59_3).f2) ((rd_T31 l1 x59_3).f3) ((rd_T31 l1 x59_3).f4) ((rd_T31 l1 x59_3).f5) ((rd_T31 l1 x66_4).f0) ((rd_T31 l1 x66_4).f1) ((rd_T31 l1 x66_4).f2) ((rd_T31 l1 x66_4).f3) ((rd_T31 l1 x66_4).f4) ((rd_T31 l1 x66_4).f5) a2 true _ A65.out).mono ?_
                       rintro e w73 ⟨rfl, hb⟩
                       refine ⟨_, rfl, ?_⟩
                       have n0_ := Aside0.mk (Kd.R_below (fr_ HO_11.out) hb)
                       have n1_ := Aside0.mk (blk_below (g := gb122) (o := .cells #[.int .i64 ((rd_T31 l0 x59_3).f0), .int .i64 ((rd_T31 l0 x59_3).f1), .int .i64 ((rd_T31 l0 x59_3).f2), .int .i64 ((rd_T31 l0 x59_3).f3), .int .i64 ((rd_T31 l0 x59_3).f4), .int .i64 ((rd_T31 l0 x59_3).f5)] 31 (0, 0)) (fb_ BK122.out) hb)
                       have n2_ := Aside0.mk (blk_below (g := gb124) (o := .cells #[.int .i64 ((rd_T31 l0 x66_4).f0), .int .i64 ((rd_T31 l0 x66_4).f1), .int .i64 ((rd_T31 l0 x66_4).f2), .int .i64 ((rd_T31 l0 x66_4).f3), .int .i64 ((rd_T31 l0 x66_4).f4), .int .i64 ((rd_T31 l0 x66_4).f5)] 31 (0, 0)) (fb_ BK124.out) hb)
                       have n3_ := Aside0.mk (below_step (bel_ HB.out) hb)
                       clear HO_11
                       clear BK122
                       clear BK124
                       clear HB
                       have HO_11 := n0_
                       have BK122 := n1_
                       have BK124 := n2_
                       have HB := n3_
                       clear n0_ n1_ n2_ n3_
                       (try clear hb)
                       (try clear hb2)
                       (try clear hk)
                       (try clear hi)
                       refine hK.out _ _ ⟨(blk_cell BK122.out 0).trans rfl, (blk_cell BK122.out 1).trans rfl, (blk_cell BK122.out 2).trans rfl, (blk_cell BK122.out 3).trans rfl, (blk_cell BK122.out 4).trans rfl, (blk_cell BK122.out 5).trans rfl, (blk_cell BK124.out 0).trans rfl, (blk_cell BK124.out 1).trans rfl, (blk_cell BK124.out 2).trans rfl, (blk_cell BK124.out 3).trans rfl, (blk_cell BK124.out 4).trans rfl, (blk_cell BK124.out 5).trans rfl, ((HB.out.cell (World.block_lt_of_cell? w _ hw126_0)).trans hw126_0), ((HB.out.cell (World.block_lt_of_cell? w _ hw126_1)).trans hw126_1), ((HB.out.cell (World.block_lt_of_cell? w _ hw126_2)).trans hw126_2), ((HB.out.cell (World.block_lt_of_cell? w _ hw126_3)).trans hw126_3), ((HB.out.cell (World.block_lt_of_cell? w _ hw126_4)).trans hw126_4), ((HB.out.cell (World.block_lt_of_cell? w _ hw126_5)).trans hw126_5), ((HB.out.cell (World.block_lt_of_cell? w _ hw127_0)).trans hw127_0), ((HB.out.cell (World.block_lt_of_cell? w _ hw127_1)).trans hw127_1), ((HB.out.cell (World.block_lt_of_cell? w _ hw127_2)).trans hw127_2), ((HB.out.cell (World.block_lt_of_cell? w _ hw127_3)).trans hw127_3), ((HB.out.cell (World.block_lt_of_cell? w _ hw127_4)).trans hw127_4), ((HB.out.cell (World.block_lt_of_cell? w _ hw127_5)).trans hw127_5)⟩ (fun hHeld => ?_)
                       clear hK K
                       refine norm_ (a' := ?_) ?_ ?_
                       rotate_left
                       ·show Act.put _ (some 92) _ = _
                        simp only [Act.put, sA_, sZ_, sS_, i64_w, i32_w]
                        rfl
                       refine pu_ 22 93 HT_ (bs 24 8388607) rfl rfl ?_
                       refine pu_ 23 94 HT_ (bs 24 16777215) rfl rfl ?_
                       refine done_ (done_of HT_.out (by kernel_rfl)) ?_
                       try go_wp2
                       go_roundg k4
                       case measure => have := HJ3.out; have := HK2.out; have := HK3.out; have := HK4.out; omega
                       case rel => exact ⟨(x11_4), (wrap64 (x66_4 + 1)), (by first | rfl | (simp; done) | (simp [*]; done) | (simp [wrap64]; done)), H', ⟨by have := HJ3.out; have := HK2.out; have := HK3.out; have := HK4.out; omega⟩, ⟨by (with_reducible repeat (first | apply Kd.R_alloc | apply Kd.R_drewN | apply Kd.R_drew)); exact HO_11.out⟩, ⟨by (with_reducible repeat (first | refine blk_drewN ?_ _ | refine blk_drew ?_ | refine blk_alloc ?_ _)); exact BK122.out⟩, ⟨bel_ HB.out⟩⟩
                      ·replace c66 := Bool.eq_false_iff.mpr c66
                       subst c66
                       have H1 : (if x11_4.length < 17592186044416 then (impl_Missed.l2 k4 l0 l1 a2 (x11_4 ++ [wrap64 ((wrap64 (x59_3 * (l0.length : Int))) + x66_4)]) x59_3 l0 (l0.length : Int) x59_3 l0 (l0.length : Int) (wrap64 (x66_4 + 1)) ((rd_T31 l0 x59_3).f0) ((rd_T31 l0 x59_3).f1) ((rd_T31 l0 x59_3).f2) ((rd_T31 l0 x59_3).f3) ((rd_T31 l0 x59_3).f4) ((rd_T31 l0 x59_3).f5)) else (none)) = some (r1, r2) := by rw [if_neg (show ¬ (false = true) by decide)] at H; exact H
                       clear H
                       have H := H1
                       clear H1
                       by_cases c74 : x11_4.length < 17592186044416
                       ·rw [if_pos c74] at H
                        have LMc74 := Aside0.mk c74
                        clear c74
                        obtain ⟨y129, hy129⟩ : ∃ y_ : List Int, y_ = (x11_4 ++ [wrap64 ((wrap64 (x59_3 * (l0.length : Int))) + x66_4)]) := ⟨_, rfl⟩
                        replace H : (impl_Missed.l2 k4 l0 l1 a2 y129 x59_3 l0 (l0.length : Int) x59_3 l0 (l0.length : Int) (wrap64 (x66_4 + 1)) ((rd_T31 l0 x59_3).f0) ((rd_T31 l0 x59_3).f1) ((rd_T31 l0 x59_3).f2) ((rd_T31 l0 x59_3).f3) ((rd_T31 l0 x59_3).f4) ((rd_T31 l0 x59_3).f5)) = some (r1, r2) := by first | (rw [hy129]; with_reducible exact H) | (have H2_ := (Option.bind_some _ _).symm.trans H; rw [hy129]; with_reducible exact H2_) | (have H2_ := (Option.bind_some _ _).symm.trans H; with_reducible exact H2_) | with_reducible exact H | (rw [hy129]; exact H) | exact H
                        have Ny129 := Aside0.mk hy129
                        clear hy129
                        have H' := Aside0.mk H
                        clear H
                        have p123 : 0 ≤ (x66_4 : Int) := of_decide_eq_true (by first | (with_reducible assumption) | assumption)
                        have q123 : x66_4 < (l0.length : Int) := of_decide_eq_true (by first | (with_reducible assumption) | assumption)
                        obtain ⟨ad123, e123, hx123_0, hx123_1, hx123_2, hx123_3, hx123_4, hx123_5⟩ := at_T31 HR0.out x66_4 p123 q123
                        obtain rfl : ad121 = ad123 := (by injection e123)
                        replace hx123_0 := (HB.out.cell (World.block_lt_of_cell? w _ hx123_0)).trans hx123_0
                        replace hx123_1 := (HB.out.cell (World.block_lt_of_cell? w _ hx123_1)).trans hx123_1
                        replace hx123_2 := (HB.out.cell (World.block_lt_of_cell? w _ hx123_2)).trans hx123_2
                        replace hx123_3 := (HB.out.cell (World.block_lt_of_cell? w _ hx123_3)).trans hx123_3
                        replace hx123_4 := (HB.out.cell (World.block_lt_of_cell? w _ hx123_4)).trans hx123_4
                        replace hx123_5 := (HB.out.cell (World.block_lt_of_cell? w _ hx123_5)).trans hx123_5
                        replace p123 := eq_true p123
                        replace q123 := eq_true q123
                        try go_wp2_with (first | ((with_reducible refine gate_dst (N := 15) rfl ?_); (try (refine gate_guard (by rfl) ?_; dsimp only)); refine box_event ?hg (N := 15) ?hd (cs := #[.int .i64 0, .int .i64 0, .int .i64 0, .int .i64 0, .int .i64 0, .int .i64 0]) (t := 31) ?hr ?_; (case hd => rfl); (case hg => rfl); (case hr => first | (go_simp; done) | (go_simp; rfl)); intro gb124 hg w75 hbox hb; have n0_ := Aside0.mk (Kd.R_below (fr_ HO_11.out) hb); have n1_ := Aside0.mk (blk_below (g := gb122) (o := .cells #[.int .i64 ((rd_T31 l0 x59_3).f0), .int .i64 ((rd_T31 l0 x59_3).f1), .int .i64 ((rd_T31 l0 x59_3).f2), .int .i64 ((rd_T31 l0 x59_3).f3), .int .i64 ((rd_T31 l0 x59_3).f4), .int .i64 ((rd_T31 l0 x59_3).f5)] 31 (0, 0)) (fb_ BK122.out) hb); have n2_ := Aside0.mk (below_step (bel_ HB.out) hb); have n3_ := Aside0.mk (hbox); have n4_ := Aside0.mk ((by rw [hg]; exact (below_size (bel_ HB.out)) : w.heap.size ≤ gb124)); have n5_ := Aside0.mk ((by rw [hg]; exact (below_size (bel_ HB.out)) : w.heap.size ≤ gb124)); have n6_ := Aside0.mk ((by rw [hg]; exact Nat.ne_of_lt (blk_lt (g := gb122) (o := .cells #[.int .i64 ((rd_T31 l0 x59_3).f0), .int .i64 ((rd_T31 l0 x59_3).f1), .int .i64 ((rd_T31 l0 x59_3).f2), .int .i64 ((rd_T31 l0 x59_3).f3), .int .i64 ((rd_T31 l0 x59_3).f4), .int .i64 ((rd_T31 l0 x59_3).f5)] 31 (0, 0)) (fb_ BK122.out)) : gb122 ≠ gb124)); have n7_ := Aside0.mk ((by rw [hg]; exact Nat.ne_of_gt (blk_lt (g := gb122) (o := .cells #[.int .i64 ((rd_T31 l0 x59_3).f0), .int .i64 ((rd_T31 l0 x59_3).f1), .int .i64 ((rd_T31 l0 x59_3).f2), .int .i64 ((rd_T31 l0 x59_3).f3), .int .i64 ((rd_T31 l0 x59_3).f4), .int .i64 ((rd_T31 l0 x59_3).f5)] 31 (0, 0)) (fb_ BK122.out)) : gb124 ≠ gb122)); clear HO_11; clear BK122; clear HB; have HO_11 := n0_; have BK122 := n1_; have HB := n2_; have BK124 := n3_; have GW124 := n4_; have GE124 := n5_; have NB122_124 := n6_; have NB124_122 := n7_; clear n0_ n1_ n2_ n3_ n4_ n5_ n6_ n7_; clear hb hbox hg; have hnb76 := NB124_122.out; have hnc76 := NB122_124.out; have hcz77_0 : w75.cell? ⟨gb124, 0, none⟩ = some (.int .i64 0) := (blk_cell BK124.out 0).trans rfl; have hcz77_1 : w75.cell? ⟨gb124, 1, none⟩ = some (.int .i64 0) := (blk_cell BK124.out 1).trans rfl; have hcz77_2 : w75.cell? ⟨gb124, 2, none⟩ = some (.int .i64 0) := (blk_cell BK124.out 2).trans rfl; have hcz77_3 : w75.cell? ⟨gb124, 3, none⟩ = some (.int .i64 0) := (blk_cell BK124.out 3).trans rfl; have hcz77_4 : w75.cell? ⟨gb124, 4, none⟩ = some (.int .i64 0) := (blk_cell BK124.out 4).trans rfl; have hcz77_5 : w75.cell? ⟨gb124, 5, none⟩ = some (.int .i64 0) := (blk_cell BK124.out 5).trans rfl; have hfz77_0 := blk_frozen BK124.out 0; have hfz77_1 := blk_frozen BK124.out 1; have hfz77_2 := blk_frozen BK124.out 2; have hfz77_3 := blk_frozen BK124.out 3; have hfz77_4 := blk_frozen BK124.out 4; have hfz77_5 := blk_frozen BK124.out 5))
                        have n0_ : Aside0 (Kd.R (Kd.int .i64) 3 ((((((w75.setCell ⟨gb124, 0, none⟩ (.int .i64 ((rd_T31 l0 x66_4).f0))).setCell ⟨gb124, 1, none⟩ (.int .i64 ((rd_T31 l0 x66_4).f1))).setCell ⟨gb124, 2, none⟩ (.int .i64 ((rd_T31 l0 x66_4).f2))).setCell ⟨gb124, 3, none⟩ (.int .i64 ((rd_T31 l0 x66_4).f3))).setCell ⟨gb124, 4, none⟩ (.int .i64 ((rd_T31 l0 x66_4).f4))).setCell ⟨gb124, 5, none⟩ (.int .i64 ((rd_T31 l0 x66_4).f5))) w.heap.size (fun _ => True) u11 x11_4) := ⟨by (with_reducible repeat (first | apply Kd.R_alloc | apply Kd.R_drewN | apply Kd.R_drew)); exact Kd.R_mono (Kd.R_far (p := ⟨gb124, 5, none⟩) (Kd.R_far (p := ⟨gb124, 4, none⟩) (Kd.R_far (p := ⟨gb124, 3, none⟩) (Kd.R_far (p := ⟨gb124, 2, none⟩) (Kd.R_far (p := ⟨gb124, 1, none⟩) (Kd.R_far (p := ⟨gb124, 0, none⟩) (Kd.R_types HO_11.out BK124.out (by decide)) (fun _ hk => hk.2) (.int .i64 ((rd_T31 l0 x66_4).f0))) (fun _ hk => hk.2) (.int .i64 ((rd_T31 l0 x66_4).f1))) (fun _ hk => hk.2) (.int .i64 ((rd_T31 l0 x66_4).f2))) (fun _ hk => hk.2) (.int .i64 ((rd_T31 l0 x66_4).f3))) (fun _ hk => hk.2) (.int .i64 ((rd_T31 l0 x66_4).f4))) (fun _ hk => hk.2) (.int .i64 ((rd_T31 l0 x66_4).f5))) (fun _ hk => trivial)⟩
                        have n1_ : Aside0 (((((((w75.setCell ⟨gb124, 0, none⟩ (.int .i64 ((rd_T31 l0 x66_4).f0))).setCell ⟨gb124, 1, none⟩ (.int .i64 ((rd_T31 l0 x66_4).f1))).setCell ⟨gb124, 2, none⟩ (.int .i64 ((rd_T31 l0 x66_4).f2))).setCell ⟨gb124, 3, none⟩ (.int .i64 ((rd_T31 l0 x66_4).f3))).setCell ⟨gb124, 4, none⟩ (.int .i64 ((rd_T31 l0 x66_4).f4))).setCell ⟨gb124, 5, none⟩ (.int .i64 ((rd_T31 l0 x66_4).f5))).heap[gb122]? = some (.cells #[.int .i64 ((rd_T31 l0 x59_3).f0), .int .i64 ((rd_T31 l0 x59_3).f1), .int .i64 ((rd_T31 l0 x59_3).f2), .int .i64 ((rd_T31 l0 x59_3).f3), .int .i64 ((rd_T31 l0 x59_3).f4), .int .i64 ((rd_T31 l0 x59_3).f5)] 31 (0, 0))) := ⟨by (with_reducible repeat (first | refine blk_drewN ?_ _ | refine blk_drew ?_ | refine blk_alloc ?_ _)); refine blk_far ?_ NB122_124.out _; (with_reducible repeat (first | refine blk_drewN ?_ _ | refine blk_drew ?_ | refine blk_alloc ?_ _)); refine blk_far ?_ NB122_124.out _; (with_reducible repeat (first | refine blk_drewN ?_ _ | refine blk_drew ?_ | refine blk_alloc ?_ _)); refine blk_far ?_ NB122_124.out _; (with_reducible repeat (first | refine blk_drewN ?_ _ | refine blk_drew ?_ | refine blk_alloc ?_ _)); refine blk_far ?_ NB122_124.out _; (with_reducible repeat (first | refine blk_drewN ?_ _ | refine blk_drew ?_ | refine blk_alloc ?_ _)); refine blk_far ?_ NB122_124.out _; (with_reducible repeat (first | refine blk_drewN ?_ _ | refine blk_drew ?_ | refine blk_alloc ?_ _)); refine blk_far ?_ NB122_124.out _; (with_reducible repeat (first | refine blk_drewN ?_ _ | refine blk_drew ?_ | refine blk_alloc ?_ _)); exact BK122.out⟩
                        have n2_ : Aside0 (((((((w75.setCell ⟨gb124, 0, none⟩ (.int .i64 ((rd_T31 l0 x66_4).f0))).setCell ⟨gb124, 1, none⟩ (.int .i64 ((rd_T31 l0 x66_4).f1))).setCell ⟨gb124, 2, none⟩ (.int .i64 ((rd_T31 l0 x66_4).f2))).setCell ⟨gb124, 3, none⟩ (.int .i64 ((rd_T31 l0 x66_4).f3))).setCell ⟨gb124, 4, none⟩ (.int .i64 ((rd_T31 l0 x66_4).f4))).setCell ⟨gb124, 5, none⟩ (.int .i64 ((rd_T31 l0 x66_4).f5))).heap[gb124]? = some (.cells #[.int .i64 ((rd_T31 l0 x66_4).f0), .int .i64 ((rd_T31 l0 x66_4).f1), .int .i64 ((rd_T31 l0 x66_4).f2), .int .i64 ((rd_T31 l0 x66_4).f3), .int .i64 ((rd_T31 l0 x66_4).f4), .int .i64 ((rd_T31 l0 x66_4).f5)] 31 (0, 0))) := ⟨by (with_reducible repeat (first | refine blk_drewN ?_ _ | refine blk_drew ?_ | refine blk_alloc ?_ _)); refine blk_put (cs := #[.int .i64 ((rd_T31 l0 x66_4).f0), .int .i64 ((rd_T31 l0 x66_4).f1), .int .i64 ((rd_T31 l0 x66_4).f2), .int .i64 ((rd_T31 l0 x66_4).f3), .int .i64 ((rd_T31 l0 x66_4).f4), .int .i64 0]) ?_ 5 _ rfl; (with_reducible repeat (first | refine blk_drewN ?_ _ | refine blk_drew ?_ | refine blk_alloc ?_ _)); refine blk_put (cs := #[.int .i64 ((rd_T31 l0 x66_4).f0), .int .i64 ((rd_T31 l0 x66_4).f1), .int .i64 ((rd_T31 l0 x66_4).f2), .int .i64 ((rd_T31 l0 x66_4).f3), .int .i64 0, .int .i64 0]) ?_ 4 _ rfl; (with_reducible repeat (first | refine blk_drewN ?_ _ | refine blk_drew ?_ | refine blk_alloc ?_ _)); refine blk_put (cs := #[.int .i64 ((rd_T31 l0 x66_4).f0), .int .i64 ((rd_T31 l0 x66_4).f1), .int .i64 ((rd_T31 l0 x66_4).f2), .int .i64 0, .int .i64 0, .int .i64 0]) ?_ 3 _ rfl; (with_reducible repeat (first | refine blk_drewN ?_ _ | refine blk_drew ?_ | refine blk_alloc ?_ _)); refine blk_put (cs := #[.int .i64 ((rd_T31 l0 x66_4).f0), .int .i64 ((rd_T31 l0 x66_4).f1), .int .i64 0, .int .i64 0, .int .i64 0, .int .i64 0]) ?_ 2 _ rfl; (with_reducible repeat (first | refine blk_drewN ?_ _ | refine blk_drew ?_ | refine blk_alloc ?_ _)); refine blk_put (cs := #[.int .i64 ((rd_T31 l0 x66_4).f0), .int .i64 0, .int .i64 0, .int .i64 0, .int .i64 0, .int .i64 0]) ?_ 1 _ rfl; (with_reducible repeat (first | refine blk_drewN ?_ _ | refine blk_drew ?_ | refine blk_alloc ?_ _)); refine blk_put (cs := #[.int .i64 0, .int .i64 0, .int .i64 0, .int .i64 0, .int .i64 0, .int .i64 0]) ?_ 0 _ rfl; (with_reducible repeat (first | refine blk_drewN ?_ _ | refine blk_drew ?_ | refine blk_alloc ?_ _)); exact BK124.out⟩
                        have n3_ : Aside0 (Below w.heap.size w ((((((w75.setCell ⟨gb124, 0, none⟩ (.int .i64 ((rd_T31 l0 x66_4).f0))).setCell ⟨gb124, 1, none⟩ (.int .i64 ((rd_T31 l0 x66_4).f1))).setCell ⟨gb124, 2, none⟩ (.int .i64 ((rd_T31 l0 x66_4).f2))).setCell ⟨gb124, 3, none⟩ (.int .i64 ((rd_T31 l0 x66_4).f3))).setCell ⟨gb124, 4, none⟩ (.int .i64 ((rd_T31 l0 x66_4).f4))).setCell ⟨gb124, 5, none⟩ (.int .i64 ((rd_T31 l0 x66_4).f5)))) := ⟨bel_ HB.out⟩
                        (try clear HO_11)
                        (try clear BK122)
                        (try clear BK124)
                        (try clear HB)
                        generalize ((((((w75.setCell ⟨gb124, 0, none⟩ (.int .i64 ((rd_T31 l0 x66_4).f0))).setCell ⟨gb124, 1, none⟩ (.int .i64 ((rd_T31 l0 x66_4).f1))).setCell ⟨gb124, 2, none⟩ (.int .i64 ((rd_T31 l0 x66_4).f2))).setCell ⟨gb124, 3, none⟩ (.int .i64 ((rd_T31 l0 x66_4).f3))).setCell ⟨gb124, 4, none⟩ (.int .i64 ((rd_T31 l0 x66_4).f4))).setCell ⟨gb124, 5, none⟩ (.int .i64 ((rd_T31 l0 x66_4).f5))) = w78 at n0_ n1_ n2_ n3_ ⊢
                        have HO_11 := n0_
                        have BK122 := n1_
                        have BK124 := n2_
                        have HB := n3_
                        clear n0_ n1_ n2_ n3_
                        have n0_ := Aside0.mk (Kd.R_drew HO_11.out)
                        have n1_ := Aside0.mk (blk_drew BK122.out)
                        have n2_ := Aside0.mk (blk_drew BK124.out)
                        have n3_ := Aside0.mk (below_drew1 HB.out)
                        clear HO_11
                        clear BK122
                        clear BK124
                        clear HB
                        have HO_11 := n0_
                        have BK122 := n1_
                        have BK124 := n2_
                        have HB := n3_
                        clear n0_ n1_ n2_ n3_
                        have p126 : 0 ≤ (x59_3 : Int) := of_decide_eq_true (by first | (with_reducible assumption) | assumption)
                        have q126 : x59_3 < (l1.length : Int) := of_decide_eq_true (by first | (with_reducible assumption) | assumption)
                        obtain ⟨ad126, e126, hx126_0, hx126_1, hx126_2, hx126_3, hx126_4, hx126_5⟩ := at_T31 HR1.out x59_3 p126 q126
                        have hw126_5 := hx126_5
                        have hw126_4 := hx126_4
                        have hw126_3 := hx126_3
                        have hw126_2 := hx126_2
                        have hw126_1 := hx126_1
                        have hw126_0 := hx126_0
                        cases e126
                        replace hx126_0 := (HB.out.cell (World.block_lt_of_cell? w _ hx126_0)).trans hx126_0
                        replace hx126_1 := (HB.out.cell (World.block_lt_of_cell? w _ hx126_1)).trans hx126_1
                        replace hx126_2 := (HB.out.cell (World.block_lt_of_cell? w _ hx126_2)).trans hx126_2
                        replace hx126_3 := (HB.out.cell (World.block_lt_of_cell? w _ hx126_3)).trans hx126_3
                        replace hx126_4 := (HB.out.cell (World.block_lt_of_cell? w _ hx126_4)).trans hx126_4
                        replace hx126_5 := (HB.out.cell (World.block_lt_of_cell? w _ hx126_5)).trans hx126_5
                        replace p126 := eq_true p126
                        replace q126 := eq_true q126
                        have p127 : 0 ≤ (x66_4 : Int) := of_decide_eq_true (by first | (with_reducible assumption) | assumption)
                        have q127 : x66_4 < (l1.length : Int) := of_decide_eq_true (by first | (with_reducible assumption) | assumption)
                        obtain ⟨ad127, e127, hx127_0, hx127_1, hx127_2, hx127_3, hx127_4, hx127_5⟩ := at_T31 HR1.out x66_4 p127 q127
                        have hw127_5 := hx127_5
                        have hw127_4 := hx127_4
                        have hw127_3 := hx127_3
                        have hw127_2 := hx127_2
                        have hw127_1 := hx127_1
                        have hw127_0 := hx127_0
                        obtain rfl : ad126 = ad127 := (by injection e127)
                        replace hx127_0 := (HB.out.cell (World.block_lt_of_cell? w _ hx127_0)).trans hx127_0
                        replace hx127_1 := (HB.out.cell (World.block_lt_of_cell? w _ hx127_1)).trans hx127_1
                        replace hx127_2 := (HB.out.cell (World.block_lt_of_cell? w _ hx127_2)).trans hx127_2
                        replace hx127_3 := (HB.out.cell (World.block_lt_of_cell? w _ hx127_3)).trans hx127_3
                        replace hx127_4 := (HB.out.cell (World.block_lt_of_cell? w _ hx127_4)).trans hx127_4
                        replace hx127_5 := (HB.out.cell (World.block_lt_of_cell? w _ hx127_5)).trans hx127_5
                        replace p127 := eq_true p127
                        replace q127 := eq_true q127
                        refine start_ (n := 24) (S := fun w' => w'.cell? ⟨gb122, 0, none⟩ = some (.int .i64 ((rd_T31 l0 x59_3).f0)) ∧ w'.cell? ⟨gb122, 1, none⟩ = some (.int .i64 ((rd_T31 l0 x59_3).f1)) ∧ w'.cell? ⟨gb122, 2, none⟩ = some (.int .i64 ((rd_T31 l0 x59_3).f2)) ∧ w'.cell? ⟨gb122, 3, none⟩ = some (.int .i64 ((rd_T31 l0 x59_3).f3)) ∧ w'.cell? ⟨gb122, 4, none⟩ = some (.int .i64 ((rd_T31 l0 x59_3).f4)) ∧ w'.cell? ⟨gb122, 5, none⟩ = some (.int .i64 ((rd_T31 l0 x59_3).f5)) ∧ w'.cell? ⟨gb124, 0, none⟩ = some (.int .i64 ((rd_T31 l0 x66_4).f0)) ∧ w'.cell? ⟨gb124, 1, none⟩ = some (.int .i64 ((rd_T31 l0 x66_4).f1)) ∧ w'.cell? ⟨gb124, 2, none⟩ = some (.int .i64 ((rd_T31 l0 x66_4).f2)) ∧ w'.cell? ⟨gb124, 3, none⟩ = some (.int .i64 ((rd_T31 l0 x66_4).f3)) ∧ w'.cell? ⟨gb124, 4, none⟩ = some (.int .i64 ((rd_T31 l0 x66_4).f4)) ∧ w'.cell? ⟨gb124, 5, none⟩ = some (.int .i64 ((rd_T31 l0 x66_4).f5)) ∧ w'.cell? (ad126.add ((x59_3).toNat * 6)) = some (.int .i64 ((rd_T31 l1 x59_3).f0)) ∧ w'.cell? ⟨(ad126.add ((x59_3).toNat * 6)).block, (ad126.add ((x59_3).toNat * 6)).off + 1, none⟩ = some (.int .i64 ((rd_T31 l1 x59_3).f1)) ∧ w'.cell? ⟨(ad126.add ((x59_3).toNat * 6)).block, (ad126.add ((x59_3).toNat * 6)).off + 2, none⟩ = some (.int .i64 ((rd_T31 l1 x59_3).f2)) ∧ w'.cell? ⟨(ad126.add ((x59_3).toNat * 6)).block, (ad126.add ((x59_3).toNat * 6)).off + 3, none⟩ = some (.int .i64 ((rd_T31 l1 x59_3).f3)) ∧ w'.cell? ⟨(ad126.add ((x59_3).toNat * 6)).block, (ad126.add ((x59_3).toNat * 6)).off + 4, none⟩ = some (.int .i64 ((rd_T31 l1 x59_3).f4)) ∧ w'.cell? ⟨(ad126.add ((x59_3).toNat * 6)).block, (ad126.add ((x59_3).toNat * 6)).off + 5, none⟩ = some (.int .i64 ((rd_T31 l1 x59_3).f5)) ∧ w'.cell? (ad126.add ((x66_4).toNat * 6)) = some (.int .i64 ((rd_T31 l1 x66_4).f0)) ∧ w'.cell? ⟨(ad126.add ((x66_4).toNat * 6)).block, (ad126.add ((x66_4).toNat * 6)).off + 1, none⟩ = some (.int .i64 ((rd_T31 l1 x66_4).f1)) ∧ w'.cell? ⟨(ad126.add ((x66_4).toNat * 6)).block, (ad126.add ((x66_4).toNat * 6)).off + 2, none⟩ = some (.int .i64 ((rd_T31 l1 x66_4).f2)) ∧ w'.cell? ⟨(ad126.add ((x66_4).toNat * 6)).block, (ad126.add ((x66_4).toNat * 6)).off + 3, none⟩ = some (.int .i64 ((rd_T31 l1 x66_4).f3)) ∧ w'.cell? ⟨(ad126.add ((x66_4).toNat * 6)).block, (ad126.add ((x66_4).toNat * 6)).off + 4, none⟩ = some (.int .i64 ((rd_T31 l1 x66_4).f4)) ∧ w'.cell? ⟨(ad126.add ((x66_4).toNat * 6)).block, (ad126.add ((x66_4).toNat * 6)).off + 5, none⟩ = some (.int .i64 ((rd_T31 l1 x66_4).f5))) (ds := []) (bs 24 0) (by kernel_rfl) rfl rfl ⟨(blk_cell BK122.out 0).trans rfl, (blk_cell BK122.out 1).trans rfl, (blk_cell BK122.out 2).trans rfl, (blk_cell BK122.out 3).trans rfl, (blk_cell BK122.out 4).trans rfl, (blk_cell BK122.out 5).trans rfl, (blk_cell BK124.out 0).trans rfl, (blk_cell BK124.out 1).trans rfl, (blk_cell BK124.out 2).trans rfl, (blk_cell BK124.out 3).trans rfl, (blk_cell BK124.out 4).trans rfl, (blk_cell BK124.out 5).trans rfl, ((HB.out.cell (World.block_lt_of_cell? w _ hw126_0)).trans hw126_0), ((HB.out.cell (World.block_lt_of_cell? w _ hw126_1)).trans hw126_1), ((HB.out.cell (World.block_lt_of_cell? w _ hw126_2)).trans hw126_2), ((HB.out.cell (World.block_lt_of_cell? w _ hw126_3)).trans hw126_3), ((HB.out.cell (World.block_lt_of_cell? w _ hw126_4)).trans hw126_4), ((HB.out.cell (World.block_lt_of_cell? w _ hw126_5)).trans hw126_5), ((HB.out.cell (World.block_lt_of_cell? w _ hw127_0)).trans hw127_0), ((HB.out.cell (World.block_lt_of_cell? w _ hw127_1)).trans hw127_1), ((HB.out.cell (World.block_lt_of_cell? w _ hw127_2)).trans hw127_2), ((HB.out.cell (World.block_lt_of_cell? w _ hw127_3)).trans hw127_3), ((HB.out.cell (World.block_lt_of_cell? w _ hw127_4)).trans hw127_4), ((HB.out.cell (World.block_lt_of_cell? w _ hw127_5)).trans hw127_5)⟩ (fun hHeld => ?_); refine with_tabW impl_Missed.tab18 impl_Missed.bits18 (fun HT_ HW_ => ?_)
                        generalize w78.drew = w79 at HO_11 BK122 BK124 HB hx126_0 hx126_1 hx126_2 hx126_3 hx126_4 hx126_5 hx127_0 hx127_1 hx127_2 hx127_3 hx127_4 hx127_5 hHeld ⊢
                        refine pu_ 0 71 HT_ (bs 24 1) rfl rfl ?_
                        refine pu_ 2 73 HT_ (bs 24 5) rfl rfl ?_
                        refine take_ (i := 1) (N := some 72) (v := ?_) (a' := ?_) (bs 24 7) rfl rfl (take_ofW HT_.out HW_.out (by kernel_rfl)) (fun _ _ _ h => h) (Or.inl ⟨by rfl, ?_⟩) hHeld ?_ ?_
                        rotate_left
                        ·rintro w' ⟨s0, s1, s2, s3, s4, s5, s6, s7, s8, s9, s10, s11, s12, s13, s14, s15, s16, s17, s18, s19, s20, s21, s22, s23⟩
                         go_simp
                         with_reducible rfl
                        rotate_left
                        ·simp only [Act.put, sA_, sZ_, sS_, i64_w, i32_w]
                         rfl
                        refine take_ (i := 3) (N := some 74) (v := ?_) (a' := ?_) (bs 24 15) rfl rfl (take_ofW HT_.out HW_.out (by kernel_rfl)) (fun _ _ _ h => h) (Or.inl ⟨by rfl, ?_⟩) hHeld ?_ ?_
                        rotate_left
                        ·rintro w' ⟨s0, s1, s2, s3, s4, s5, s6, s7, s8, s9, s10, s11, s12, s13, s14, s15, s16, s17, s18, s19, s20, s21, s22, s23⟩
                         go_simp
                         with_reducible rfl
                        rotate_left
                        ·simp only [Act.put, sA_, sZ_, sS_, i64_w, i32_w]
                         rfl
                        refine pu_ 4 75 HT_ (bs 24 31) rfl rfl ?_
                        refine pu_ 5 76 HT_ (bs 24 63) rfl rfl ?_
                        refine pu_ 8 79 HT_ (bs 24 319) rfl rfl ?_
                        refine take_ (i := 6) (N := some 77) (v := ?_) (a' := ?_) (bs 24 383) rfl rfl (take_ofW HT_.out HW_.out (by kernel_rfl)) (fun _ _ _ h => h) (Or.inl ⟨by rfl, ?_⟩) hHeld ?_ ?_
                        rotate_left
                        ·rintro w' ⟨s0, s1, s2, s3, s4, s5, s6, s7, s8, s9, s10, s11, s12, s13, s14, s15, s16, s17, s18, s19, s20, s21, s22, s23⟩
                         go_simp
                         with_reducible rfl
                        rotate_left
                        ·simp only [Act.put, sA_, sZ_, sS_, i64_w, i32_w]
                         rfl
                        refine take_ (i := 7) (N := some 78) (v := ?_) (a' := ?_) (bs 24 511) rfl rfl (take_ofW HT_.out HW_.out (by kernel_rfl)) (fun _ _ _ h => h) (Or.inl ⟨by rfl, ?_⟩) hHeld ?_ ?_
                        rotate_left
                        ·rintro w' ⟨s0, s1, s2, s3, s4, s5, s6, s7, s8, s9, s10, s11, s12, s13, s14, s15, s16, s17, s18, s19, s20, s21, s22, s23⟩
                         go_simp
                         with_reducible rfl
                        rotate_left
                        ·simp only [Act.put, sA_, sZ_, sS_, i64_w, i32_w]
                         rfl
                        refine one_ (i := 9) (N := some 80) (bs 24 1023) rfl rfl (one_of HT_.out (by kernel_rfl)) (by decide) (fun K hK => ?_)
                        refine goes_ Try.func34 (by kernel_rfl) rfl #[.agg #[.int .i64 ((rd_T31 l0 x59_3).f0), .int .i64 ((rd_T31 l0 x59_3).f1), .int .i64 ((rd_T31 l0 x59_3).f2), .int .i64 ((rd_T31 l0 x59_3).f3), .int .i64 ((rd_T31 l0 x59_3).f4), .int .i64 ((rd_T31 l0 x59_3).f5)], .agg #[.int .i64 ((rd_T31 l0 x66_4).f0), .int .i64 ((rd_T31 l0 x66_4).f1), .int .i64 ((rd_T31 l0 x66_4).f2), .int .i64 ((rd_T31 l0 x66_4).f3), .int .i64 ((rd_T31 l0 x66_4).f4), .int .i64 ((rd_T31 l0 x66_4).f5)], .int .i64 a2] (by rfl) rfl rfl (by (try simp only [List.map_toArray, List.map_cons, List.map_nil]); first | done | rfl | (simp only [List.length_drop, List.length_take]; rfl)) ?_
                        with_reducible refine (impl_changes.calls ((rd_T31 l0 x59_3).f0) ((rd_T31 l0 x59_3).f1) ((rd_T31 l0 x59_3).f2) ((rd_T31 l0 x59_3).f3) ((rd_T31 l0 x59_3).f4) ((rd_T31 l0 x59_3).f5) ((rd_T31 l0 x66_4).f0) ((rd_T31 l0 x66_4).f1) ((rd_T31 l0 x66_4).f2) ((rd_T31 l0 x66_4).f3) ((rd_T31 l0 x66_4).f4) ((rd_T31 l0 x66_4).f5) a2 true _ A60.out).mono ?_
                        rintro e w80 ⟨rfl, hb⟩
                        refine ⟨_, rfl, ?_⟩
                        have n0_ := Aside0.mk (Kd.R_below (fr_ HO_11.out) hb)
                        have n1_ := Aside0.mk (blk_below (g := gb122) (o := .cells #[.int .i64 ((rd_T31 l0 x59_3).f0), .int .i64 ((rd_T31 l0 x59_3).f1), .int .i64 ((rd_T31 l0 x59_3).f2), .int .i64 ((rd_T31 l0 x59_3).f3), .int .i64 ((rd_T31 l0 x59_3).f4), .int .i64 ((rd_T31 l0 x59_3).f5)] 31 (0, 0)) (fb_ BK122.out) hb)
                        have n2_ := Aside0.mk (blk_below (g := gb124) (o := .cells #[.int .i64 ((rd_T31 l0 x66_4).f0), .int .i64 ((rd_T31 l0 x66_4).f1), .int .i64 ((rd_T31 l0 x66_4).f2), .int .i64 ((rd_T31 l0 x66_4).f3), .int .i64 ((rd_T31 l0 x66_4).f4), .int .i64 ((rd_T31 l0 x66_4).f5)] 31 (0, 0)) (fb_ BK124.out) hb)
                        have n3_ := Aside0.mk (below_step (bel_ HB.out) hb)
                        clear HO_11
                        clear BK122
                        clear BK124
                        clear HB
                        have HO_11 := n0_
                        have BK122 := n1_
                        have BK124 := n2_
                        have HB := n3_
                        clear n0_ n1_ n2_ n3_
                        (try clear hb)
                        (try clear hb2)
                        (try clear hk)
                        (try clear hi)
                        refine hK.out _ _ ⟨(blk_cell BK122.out 0).trans rfl, (blk_cell BK122.out 1).trans rfl, (blk_cell BK122.out 2).trans rfl, (blk_cell BK122.out 3).trans rfl, (blk_cell BK122.out 4).trans rfl, (blk_cell BK122.out 5).trans rfl, (blk_cell BK124.out 0).trans rfl, (blk_cell BK124.out 1).trans rfl, (blk_cell BK124.out 2).trans rfl, (blk_cell BK124.out 3).trans rfl, (blk_cell BK124.out 4).trans rfl, (blk_cell BK124.out 5).trans rfl, ((HB.out.cell (World.block_lt_of_cell? w _ hw126_0)).trans hw126_0), ((HB.out.cell (World.block_lt_of_cell? w _ hw126_1)).trans hw126_1), ((HB.out.cell (World.block_lt_of_cell? w _ hw126_2)).trans hw126_2), ((HB.out.cell (World.block_lt_of_cell? w _ hw126_3)).trans hw126_3), ((HB.out.cell (World.block_lt_of_cell? w _ hw126_4)).trans hw126_4), ((HB.out.cell (World.block_lt_of_cell? w _ hw126_5)).trans hw126_5), ((HB.out.cell (World.block_lt_of_cell? w _ hw127_0)).trans hw127_0), ((HB.out.cell (World.block_lt_of_cell? w _ hw127_1)).trans hw127_1), ((HB.out.cell (World.block_lt_of_cell? w _ hw127_2)).trans hw127_2), ((HB.out.cell (World.block_lt_of_cell? w _ hw127_3)).trans hw127_3), ((HB.out.cell (World.block_lt_of_cell? w _ hw127_4)).trans hw127_4), ((HB.out.cell (World.block_lt_of_cell? w _ hw127_5)).trans hw127_5)⟩ (fun hHeld => ?_)
                        clear hK K
                        refine norm_ (a' := ?_) ?_ ?_
                        rotate_left
                        ·show Act.put _ (some 80) _ = _
                         simp only [Act.put, sA_, sZ_, sS_, i64_w, i32_w]
                         rfl
                        refine pu_ 10 81 HT_ (bs 24 2047) rfl rfl ?_
                        refine pu_ 11 82 HT_ (bs 24 4095) rfl rfl ?_
                        refine pu_ 12 83 HT_ (bs 24 8191) rfl rfl ?_
                        refine pu_ 13 84 HT_ (bs 24 16383) rfl rfl ?_
                        refine pu_ 14 85 HT_ (bs 24 32767) rfl rfl ?_
                        refine pu_ 16 87 HT_ (bs 24 98303) rfl rfl ?_
                        refine pu_ 17 88 HT_ (bs 24 229375) rfl rfl ?_
                        refine pu_ 18 89 HT_ (bs 24 491519) rfl rfl ?_
                        refine pu_ 20 91 HT_ (bs 24 1540095) rfl rfl ?_
                        refine take_ (i := 15) (N := some 86) (v := ?_) (a' := ?_) (bs 24 1572863) rfl rfl (take_ofW HT_.out HW_.out (by kernel_rfl)) (fun _ _ _ h => h) (Or.inl ⟨by rfl, ?_⟩) hHeld ?_ ?_
                        rotate_left
                        ·rintro w' ⟨s0, s1, s2, s3, s4, s5, s6, s7, s8, s9, s10, s11, s12, s13, s14, s15, s16, s17, s18, s19, s20, s21, s22, s23⟩
                         go_simp
                         with_reducible rfl
                        rotate_left
                        ·simp only [Act.put, sA_, sZ_, sS_, i64_w, i32_w]
                         rfl
                        refine take_ (i := 19) (N := some 90) (v := ?_) (a' := ?_) (bs 24 2097151) rfl rfl (take_ofW HT_.out HW_.out (by kernel_rfl)) (fun _ _ _ h => h) (Or.inl ⟨by rfl, ?_⟩) hHeld ?_ ?_
                        rotate_left
                        ·rintro w' ⟨s0, s1, s2, s3, s4, s5, s6, s7, s8, s9, s10, s11, s12, s13, s14, s15, s16, s17, s18, s19, s20, s21, s22, s23⟩
                         go_simp
                         with_reducible rfl
                        rotate_left
                        ·simp only [Act.put, sA_, sZ_, sS_, i64_w, i32_w]
                         rfl
                        refine one_ (i := 21) (N := some 92) (bs 24 4194303) rfl rfl (one_of HT_.out (by kernel_rfl)) (by decide) (fun K hK => ?_)
                        refine goes_ Try.func34 (by kernel_rfl) rfl #[.agg #[.int .i64 ((rd_T31 l1 x59_3).f0), .int .i64 ((rd_T31 l1 x59_3).f1), .int .i64 ((rd_T31 l1 x59_3).f2), .int .i64 ((rd_T31 l1 x59_3).f3), .int .i64 ((rd_T31 l1 x59_3).f4), .int .i64 ((rd_T31 l1 x59_3).f5)], .agg #[.int .i64 ((rd_T31 l1 x66_4).f0), .int .i64 ((rd_T31 l1 x66_4).f1), .int .i64 ((rd_T31 l1 x66_4).f2), .int .i64 ((rd_T31 l1 x66_4).f3), .int .i64 ((rd_T31 l1 x66_4).f4), .int .i64 ((rd_T31 l1 x66_4).f5)], .int .i64 a2] (by rfl) rfl rfl (by (try simp only [List.map_toArray, List.map_cons, List.map_nil]); first | done | rfl | (simp only [List.length_drop, List.length_take]; rfl)) ?_
                        with_reducible refine (impl_changes.calls ((rd_T31 l1 x59_3).f0) ((rd_T31 l1 x59_3).f1) ((rd_T31 l1 x59_3).f2) ((rd_T31 l1 x59_3).f3) ((rd_T31 l1 x59_3).f4) ((rd_T31 l1 x59_3).f5) ((rd_T31 l1 x66_4).f0) ((rd_T31 l1 x66_4).f1) ((rd_T31 l1 x66_4).f2) ((rd_T31 l1 x66_4).f3) ((rd_T31 l1 x66_4).f4) ((rd_T31 l1 x66_4).f5) a2 false _ A65.out).mono ?_
                        rintro e w81 ⟨rfl, hb⟩
                        refine ⟨_, rfl, ?_⟩
                        have n0_ := Aside0.mk (Kd.R_below (fr_ HO_11.out) hb)
                        have n1_ := Aside0.mk (blk_below (g := gb122) (o := .cells #[.int .i64 ((rd_T31 l0 x59_3).f0), .int .i64 ((rd_T31 l0 x59_3).f1), .int .i64 ((rd_T31 l0 x59_3).f2), .int .i64 ((rd_T31 l0 x59_3).f3), .int .i64 ((rd_T31 l0 x59_3).f4), .int .i64 ((rd_T31 l0 x59_3).f5)] 31 (0, 0)) (fb_ BK122.out) hb)
                        have n2_ := Aside0.mk (blk_below (g := gb124) (o := .cells #[.int .i64 ((rd_T31 l0 x66_4).f0), .int .i64 ((rd_T31 l0 x66_4).f1), .int .i64 ((rd_T31 l0 x66_4).f2), .int .i64 ((rd_T31 l0 x66_4).f3), .int .i64 ((rd_T31 l0 x66_4).f4), .int .i64 ((rd_T31 l0 x66_4).f5)] 31 (0, 0)) (fb_ BK124.out) hb)
                        have n3_ := Aside0.mk (below_step (bel_ HB.out) hb)
                        clear HO_11
                        clear BK122
                        clear BK124
                        clear HB
                        have HO_11 := n0_
                        have BK122 := n1_
                        have BK124 := n2_
                        have HB := n3_
                        clear n0_ n1_ n2_ n3_
                        (try clear hb)
                        (try clear hb2)
                        (try clear hk)
                        (try clear hi)
                        refine hK.out _ _ ⟨(blk_cell BK122.out 0).trans rfl, (blk_cell BK122.out 1).trans rfl, (blk_cell BK122.out 2).trans rfl, (blk_cell BK122.out 3).trans rfl, (blk_cell BK122.out 4).trans rfl, (blk_cell BK122.out 5).trans rfl, (blk_cell BK124.out 0).trans rfl, (blk_cell BK124.out 1).trans rfl, (blk_cell BK124.out 2).trans rfl, (blk_cell BK124.out 3).trans rfl, (blk_cell BK124.out 4).trans rfl, (blk_cell BK124.out 5).trans rfl, ((HB.out.cell (World.block_lt_of_cell? w _ hw126_0)).trans hw126_0), ((HB.out.cell (World.block_lt_of_cell? w _ hw126_1)).trans hw126_1), ((HB.out.cell (World.block_lt_of_cell? w _ hw126_2)).trans hw126_2), ((HB.out.cell (World.block_lt_of_cell? w _ hw126_3)).trans hw126_3), ((HB.out.cell (World.block_lt_of_cell? w _ hw126_4)).trans hw126_4), ((HB.out.cell (World.block_lt_of_cell? w _ hw126_5)).trans hw126_5), ((HB.out.cell (World.block_lt_of_cell? w _ hw127_0)).trans hw127_0), ((HB.out.cell (World.block_lt_of_cell? w _ hw127_1)).trans hw127_1), ((HB.out.cell (World.block_lt_of_cell? w _ hw127_2)).trans hw127_2), ((HB.out.cell (World.block_lt_of_cell? w _ hw127_3)).trans hw127_3), ((HB.out.cell (World.block_lt_of_cell? w _ hw127_4)).trans hw127_4), ((HB.out.cell (World.block_lt_of_cell? w _ hw127_5)).trans hw127_5)⟩ (fun hHeld => ?_)
                        clear hK K
                        refine norm_ (a' := ?_) ?_ ?_
                        rotate_left
                        ·show Act.put _ (some 92) _ = _
                         simp only [Act.put, sA_, sZ_, sS_, i64_w, i32_w]
                         rfl
                        refine pu_ 22 93 HT_ (bs 24 8388607) rfl rfl ?_
                        refine pu_ 23 94 HT_ (bs 24 16777215) rfl rfl ?_
                        refine done_ (done_of HT_.out (by kernel_rfl)) ?_
                        try go_wp2_with (first | ((with_reducible refine gate_builtin (b := .append) (xs := #[.tmp 95, .tmp 102]) rfl ?_); (try (refine gate_guard (by rfl) ?_; dsimp only)); at_builtin; refine Kd.R_append (Kd.int .i64) (w0 := w) w.heap.size rfl (.tmp 95) (.tmp 102) 32 3 (.int .i64 0) 8 rfl Try.underlying32 info3 rfl (by decide) (by omega) u11 x11_4 (wrap64 ((wrap64 (x59_3 * (l0.length : Int))) + x66_4)) [.int .i64 (wrap64 ((wrap64 (x59_3 * (l0.length : Int))) + x66_4))] (fun _ => True) (fun _ => False) rfl rfl ?aP (fun _ hk => hk.elim) ?aF ?aO ?aB ?aS ?aL ?_; (case aP => exact rfl); (case aB => exact (bel_ HB.out)); (case aF => exact (fun _ _ => trivial)); (case aO => exact (fr_ HO_11.out)); (case aS => exact (below_size (bel_ HB.out))); (case aL => have := LMc74.out; omega); intro v130 w82 ho hb hg hat; rw [← Ny129.out] at ho; have n0_ := Aside0.mk (blk_grown (g := gb122) (o := .cells #[.int .i64 ((rd_T31 l0 x59_3).f0), .int .i64 ((rd_T31 l0 x59_3).f1), .int .i64 ((rd_T31 l0 x59_3).f2), .int .i64 ((rd_T31 l0 x59_3).f3), .int .i64 ((rd_T31 l0 x59_3).f4), .int .i64 ((rd_T31 l0 x59_3).f5)] 31 (0, 0)) (fb_ BK122.out) hg (Kd.R_ne HO_11.out BK122.out (by decide))); have n1_ := Aside0.mk (blk_grown (g := gb124) (o := .cells #[.int .i64 ((rd_T31 l0 x66_4).f0), .int .i64 ((rd_T31 l0 x66_4).f1), .int .i64 ((rd_T31 l0 x66_4).f2), .int .i64 ((rd_T31 l0 x66_4).f3), .int .i64 ((rd_T31 l0 x66_4).f4), .int .i64 ((rd_T31 l0 x66_4).f5)] 31 (0, 0)) (fb_ BK124.out) hg (Kd.R_ne HO_11.out BK124.out (by decide))); have n2_ := Aside0.mk (hb); have n3_ := Aside0.mk (ho); clear BK122; clear BK124; clear HB; clear HO_11; have BK122 := n0_; have BK124 := n1_; have HB := n2_; have HO131 := n3_; clear n0_ n1_ n2_ n3_; clear ho hb hg hat))
                        go_roundg k4
                        case measure => have := HJ3.out; have := HK2.out; have := HK3.out; have := HK4.out; omega
                        case rel => exact ⟨(y129), (wrap64 (x66_4 + 1)), (by first | rfl | (simp; done) | (simp [*]; done) | (simp [wrap64]; done)), H', ⟨by have := HJ3.out; have := HK2.out; have := HK3.out; have := HK4.out; omega⟩, ⟨by (with_reducible repeat (first | apply Kd.R_alloc | apply Kd.R_drewN | apply Kd.R_drew)); exact HO131.out⟩, ⟨by (with_reducible repeat (first | refine blk_drewN ?_ _ | refine blk_drew ?_ | refine blk_alloc ?_ _)); exact BK122.out⟩, ⟨bel_ HB.out⟩⟩
                       ·rw [if_neg c74] at H
                        exact absurd H (by simp)
                     ·rw [if_neg c64] at H
                      exact absurd H (by simp)
                    ·rw [if_neg c63] at H
                     exact absurd H (by simp)
                   ·rw [if_neg c62] at H
                    exact absurd H (by simp)
                  ·replace c61 := Bool.eq_false_iff.mpr c61
                   subst c61
                   have H1 : (impl_Missed.l2 k4 l0 l1 a2 x11_4 x59_3 l0 (l0.length : Int) x59_3 l0 (l0.length : Int) (wrap64 (x66_4 + 1)) ((rd_T31 l0 x59_3).f0) ((rd_T31 l0 x59_3).f1) ((rd_T31 l0 x59_3).f2) ((rd_T31 l0 x59_3).f3) ((rd_T31 l0 x59_3).f4) ((rd_T31 l0 x59_3).f5)) = some (r1, r2) := by rw [if_neg (show ¬ (false = true) by decide)] at H; exact H
                   clear H
                   have H := H1
                   clear H1
                   have H' := Aside0.mk H
                   clear H
                   have p123 : 0 ≤ (x66_4 : Int) := of_decide_eq_true (by first | (with_reducible assumption) | assumption)
                   have q123 : x66_4 < (l0.length : Int) := of_decide_eq_true (by first | (with_reducible assumption) | assumption)
                   obtain ⟨ad123, e123, hx123_0, hx123_1, hx123_2, hx123_3, hx123_4, hx123_5⟩ := at_T31 HR0.out x66_4 p123 q123
                   obtain rfl : ad121 = ad123 := (by injection e123)
                   replace hx123_0 := (HB.out.cell (World.block_lt_of_cell? w _ hx123_0)).trans hx123_0
                   replace hx123_1 := (HB.out.cell (World.block_lt_of_cell? w _ hx123_1)).trans hx123_1
                   replace hx123_2 := (HB.out.cell (World.block_lt_of_cell? w _ hx123_2)).trans hx123_2
                   replace hx123_3 := (HB.out.cell (World.block_lt_of_cell? w _ hx123_3)).trans hx123_3
                   replace hx123_4 := (HB.out.cell (World.block_lt_of_cell? w _ hx123_4)).trans hx123_4
                   replace hx123_5 := (HB.out.cell (World.block_lt_of_cell? w _ hx123_5)).trans hx123_5
                   replace p123 := eq_true p123
                   replace q123 := eq_true q123
                   try go_wp2_with (first | ((with_reducible refine gate_dst (N := 15) rfl ?_); (try (refine gate_guard (by rfl) ?_; dsimp only)); refine box_event ?hg (N := 15) ?hd (cs := #[.int .i64 0, .int .i64 0, .int .i64 0, .int .i64 0, .int .i64 0, .int .i64 0]) (t := 31) ?hr ?_; (case hd => rfl); (case hg => rfl); (case hr => first | (go_simp; done) | (go_simp; rfl)); intro gb124 hg w83 hbox hb; have n0_ := Aside0.mk (Kd.R_below (fr_ HO_11.out) hb); have n1_ := Aside0.mk (blk_below (g := gb122) (o := .cells #[.int .i64 ((rd_T31 l0 x59_3).f0), .int .i64 ((rd_T31 l0 x59_3).f1), .int .i64 ((rd_T31 l0 x59_3).f2), .int .i64 ((rd_T31 l0 x59_3).f3), .int .i64 ((rd_T31 l0 x59_3).f4), .int .i64 ((rd_T31 l0 x59_3).f5)] 31 (0, 0)) (fb_ BK122.out) hb); have n2_ := Aside0.mk (below_step (bel_ HB.out) hb); have n3_ := Aside0.mk (hbox); have n4_ := Aside0.mk ((by rw [hg]; exact (below_size (bel_ HB.out)) : w.heap.size ≤ gb124)); have n5_ := Aside0.mk ((by rw [hg]; exact (below_size (bel_ HB.out)) : w.heap.size ≤ gb124)); have n6_ := Aside0.mk ((by rw [hg]; exact Nat.ne_of_lt (blk_lt (g := gb122) (o := .cells #[.int .i64 ((rd_T31 l0 x59_3).f0), .int .i64 ((rd_T31 l0 x59_3).f1), .int .i64 ((rd_T31 l0 x59_3).f2), .int .i64 ((rd_T31 l0 x59_3).f3), .int .i64 ((rd_T31 l0 x59_3).f4), .int .i64 ((rd_T31 l0 x59_3).f5)] 31 (0, 0)) (fb_ BK122.out)) : gb122 ≠ gb124)); have n7_ := Aside0.mk ((by rw [hg]; exact Nat.ne_of_gt (blk_lt (g := gb122) (o := .cells #[.int .i64 ((rd_T31 l0 x59_3).f0), .int .i64 ((rd_T31 l0 x59_3).f1), .int .i64 ((rd_T31 l0 x59_3).f2), .int .i64 ((rd_T31 l0 x59_3).f3), .int .i64 ((rd_T31 l0 x59_3).f4), .int .i64 ((rd_T31 l0 x59_3).f5)] 31 (0, 0)) (fb_ BK122.out)) : gb124 ≠ gb122)); clear HO_11; clear BK122; clear HB; have HO_11 := n0_; have BK122 := n1_; have HB := n2_; have BK124 := n3_; have GW124 := n4_; have GE124 := n5_; have NB122_124 := n6_; have NB124_122 := n7_; clear n0_ n1_ n2_ n3_ n4_ n5_ n6_ n7_; clear hb hbox hg; have hnb84 := NB124_122.out; have hnc84 := NB122_124.out; have hcz85_0 : w83.cell? ⟨gb124, 0, none⟩ = some (.int .i64 0) := (blk_cell BK124.out 0).trans rfl; have hcz85_1 : w83.cell? ⟨gb124, 1, none⟩ = some (.int .i64 0) := (blk_cell BK124.out 1).trans rfl; have hcz85_2 : w83.cell? ⟨gb124, 2, none⟩ = some (.int .i64 0) := (blk_cell BK124.out 2).trans rfl; have hcz85_3 : w83.cell? ⟨gb124, 3, none⟩ = some (.int .i64 0) := (blk_cell BK124.out 3).trans rfl; have hcz85_4 : w83.cell? ⟨gb124, 4, none⟩ = some (.int .i64 0) := (blk_cell BK124.out 4).trans rfl; have hcz85_5 : w83.cell? ⟨gb124, 5, none⟩ = some (.int .i64 0) := (blk_cell BK124.out 5).trans rfl; have hfz85_0 := blk_frozen BK124.out 0; have hfz85_1 := blk_frozen BK124.out 1; have hfz85_2 := blk_frozen BK124.out 2; have hfz85_3 := blk_frozen BK124.out 3; have hfz85_4 := blk_frozen BK124.out 4; have hfz85_5 := blk_frozen BK124.out 5))
                   have n0_ : Aside0 (Kd.R (Kd.int .i64) 3 ((((((w83.setCell ⟨gb124, 0, none⟩ (.int .i64 ((rd_T31 l0 x66_4).f0))).setCell ⟨gb124, 1, none⟩ (.int .i64 ((rd_T31 l0 x66_4).f1))).setCell ⟨gb124, 2, none⟩ (.int .i64 ((rd_T31 l0 x66_4).f2))).setCell ⟨gb124, 3, none⟩ (.int .i64 ((rd_T31 l0 x66_4).f3))).setCell ⟨gb124, 4, none⟩ (.int .i64 ((rd_T31 l0 x66_4).f4))).setCell ⟨gb124, 5, none⟩ (.int .i64 ((rd_T31 l0 x66_4).f5))) w.heap.size (fun _ => True) u11 x11_4) := ⟨by (with_reducible repeat (first | apply Kd.R_alloc | apply Kd.R_drewN | apply Kd.R_drew)); exact Kd.R_mono (Kd.R_far (p := ⟨gb124, 5, none⟩) (Kd.R_far (p := ⟨gb124, 4, none⟩) (Kd.R_far (p := ⟨gb124, 3, none⟩) (Kd.R_far (p := ⟨gb124, 2, none⟩) (Kd.R_far (p := ⟨gb124, 1, none⟩) (Kd.R_far (p := ⟨gb124, 0, none⟩) (Kd.R_types HO_11.out BK124.out (by decide)) (fun _ hk => hk.2) (.int .i64 ((rd_T31 l0 x66_4).f0))) (fun _ hk => hk.2) (.int .i64 ((rd_T31 l0 x66_4).f1))) (fun _ hk => hk.2) (.int .i64 ((rd_T31 l0 x66_4).f2))) (fun _ hk => hk.2) (.int .i64 ((rd_T31 l0 x66_4).f3))) (fun _ hk => hk.2) (.int .i64 ((rd_T31 l0 x66_4).f4))) (fun _ hk => hk.2) (.int .i64 ((rd_T31 l0 x66_4).f5))) (fun _ hk => trivial)⟩
                   have n1_ : Aside0 (((((((w83.setCell ⟨gb124, 0, none⟩ (.int .i64 ((rd_T31 l0 x66_4).f0))).setCell ⟨gb124, 1, none⟩ (.int .i64 ((rd_T31 l0 x66_4).f1))).setCell ⟨gb124, 2, none⟩ (.int .i64 ((rd_T31 l0 x66_4).f2))).setCell ⟨gb124, 3, none⟩ (.int .i64 ((rd_T31 l0 x66_4).f3))).setCell ⟨gb124, 4, none⟩ (.int .i64 ((rd_T31 l0 x66_4).f4))).setCell ⟨gb124, 5, none⟩ (.int .i64 ((rd_T31 l0 x66_4).f5))).heap[gb122]? = some (.cells #[.int .i64 ((rd_T31 l0 x59_3).f0), .int .i64 ((rd_T31 l0 x59_3).f1), .int .i64 ((rd_T31 l0 x59_3).f2), .int .i64 ((rd_T31 l0 x59_3).f3), .int .i64 ((rd_T31 l0 x59_3).f4), .int .i64 ((rd_T31 l0 x59_3).f5)] 31 (0, 0))) := ⟨by (with_reducible repeat (first | refine blk_drewN ?_ _ | refine blk_drew ?_ | refine blk_alloc ?_ _)); refine blk_far ?_ NB122_124.out _; (with_reducible repeat (first | refine blk_drewN ?_ _ | refine blk_drew ?_ | refine blk_alloc ?_ _)); refine blk_far ?_ NB122_124.out _; (with_reducible repeat (first | refine blk_drewN ?_ _ | refine blk_drew ?_ | refine blk_alloc ?_ _)); refine blk_far ?_ NB122_124.out _; (with_reducible repeat (first | refine blk_drewN ?_ _ | refine blk_drew ?_ | refine blk_alloc ?_ _)); refine blk_far ?_ NB122_124.out _; (with_reducible repeat (first | refine blk_drewN ?_ _ | refine blk_drew ?_ | refine blk_alloc ?_ _)); refine blk_far ?_ NB122_124.out _; (with_reducible repeat (first | refine blk_drewN ?_ _ | refine blk_drew ?_ | refine blk_alloc ?_ _)); refine blk_far ?_ NB122_124.out _; (with_reducible repeat (first | refine blk_drewN ?_ _ | refine blk_drew ?_ | refine blk_alloc ?_ _)); exact BK122.out⟩
                   have n2_ : Aside0 (((((((w83.setCell ⟨gb124, 0, none⟩ (.int .i64 ((rd_T31 l0 x66_4).f0))).setCell ⟨gb124, 1, none⟩ (.int .i64 ((rd_T31 l0 x66_4).f1))).setCell ⟨gb124, 2, none⟩ (.int .i64 ((rd_T31 l0 x66_4).f2))).setCell ⟨gb124, 3, none⟩ (.int .i64 ((rd_T31 l0 x66_4).f3))).setCell ⟨gb124, 4, none⟩ (.int .i64 ((rd_T31 l0 x66_4).f4))).setCell ⟨gb124, 5, none⟩ (.int .i64 ((rd_T31 l0 x66_4).f5))).heap[gb124]? = some (.cells #[.int .i64 ((rd_T31 l0 x66_4).f0), .int .i64 ((rd_T31 l0 x66_4).f1), .int .i64 ((rd_T31 l0 x66_4).f2), .int .i64 ((rd_T31 l0 x66_4).f3), .int .i64 ((rd_T31 l0 x66_4).f4), .int .i64 ((rd_T31 l0 x66_4).f5)] 31 (0, 0))) := ⟨by (with_reducible repeat (first | refine blk_drewN ?_ _ | refine blk_drew ?_ | refine blk_alloc ?_ _)); refine blk_put (cs := #[.int .i64 ((rd_T31 l0 x66_4).f0), .int .i64 ((rd_T31 l0 x66_4).f1), .int .i64 ((rd_T31 l0 x66_4).f2), .int .i64 ((rd_T31 l0 x66_4).f3), .int .i64 ((rd_T31 l0 x66_4).f4), .int .i64 0]) ?_ 5 _ rfl; (with_reducible repeat (first | refine blk_drewN ?_ _ | refine blk_drew ?_ | refine blk_alloc ?_ _)); refine blk_put (cs := #[.int .i64 ((rd_T31 l0 x66_4).f0), .int .i64 ((rd_T31 l0 x66_4).f1), .int .i64 ((rd_T31 l0 x66_4).f2), .int .i64 ((rd_T31 l0 x66_4).f3), .int .i64 0, .int .i64 0]) ?_ 4 _ rfl; (with_reducible repeat (first | refine blk_drewN ?_ _ | refine blk_drew ?_ | refine blk_alloc ?_ _)); refine blk_put (cs := #[.int .i64 ((rd_T31 l0 x66_4).f0), .int .i64 ((rd_T31 l0 x66_4).f1), .int .i64 ((rd_T31 l0 x66_4).f2), .int .i64 0, .int .i64 0, .int .i64 0]) ?_ 3 _ rfl; (with_reducible repeat (first | refine blk_drewN ?_ _ | refine blk_drew ?_ | refine blk_alloc ?_ _)); refine blk_put (cs := #[.int .i64 ((rd_T31 l0 x66_4).f0), .int .i64 ((rd_T31 l0 x66_4).f1), .int .i64 0, .int .i64 0, .int .i64 0, .int .i64 0]) ?_ 2 _ rfl; (with_reducible repeat (first | refine blk_drewN ?_ _ | refine blk_drew ?_ | refine blk_alloc ?_ _)); refine blk_put (cs := #[.int .i64 ((rd_T31 l0 x66_4).f0), .int .i64 0, .int .i64 0, .int .i64 0, .int .i64 0, .int .i64 0]) ?_ 1 _ rfl; (with_reducible repeat (first | refine blk_drewN ?_ _ | refine blk_drew ?_ | refine blk_alloc ?_ _)); refine blk_put (cs := #[.int .i64 0, .int .i64 0, .int .i64 0, .int .i64 0, .int .i64 0, .int .i64 0]) ?_ 0 _ rfl; (with_reducible repeat (first | refine blk_drewN ?_ _ | refine blk_drew ?_ | refine blk_alloc ?_ _)); exact BK124.out⟩
                   have n3_ : Aside0 (Below w.heap.size w ((((((w83.setCell ⟨gb124, 0, none⟩ (.int .i64 ((rd_T31 l0 x66_4).f0))).setCell ⟨gb124, 1, none⟩ (.int .i64 ((rd_T31 l0 x66_4).f1))).setCell ⟨gb124, 2, none⟩ (.int .i64 ((rd_T31 l0 x66_4).f2))).setCell ⟨gb124, 3, none⟩ (.int .i64 ((rd_T31 l0 x66_4).f3))).setCell ⟨gb124, 4, none⟩ (.int .i64 ((rd_T31 l0 x66_4).f4))).setCell ⟨gb124, 5, none⟩ (.int .i64 ((rd_T31 l0 x66_4).f5)))) := ⟨bel_ HB.out⟩
                   (try clear HO_11)
                   (try clear BK122)
                   (try clear BK124)
                   (try clear HB)
                   generalize ((((((w83.setCell ⟨gb124, 0, none⟩ (.int .i64 ((rd_T31 l0 x66_4).f0))).setCell ⟨gb124, 1, none⟩ (.int .i64 ((rd_T31 l0 x66_4).f1))).setCell ⟨gb124, 2, none⟩ (.int .i64 ((rd_T31 l0 x66_4).f2))).setCell ⟨gb124, 3, none⟩ (.int .i64 ((rd_T31 l0 x66_4).f3))).setCell ⟨gb124, 4, none⟩ (.int .i64 ((rd_T31 l0 x66_4).f4))).setCell ⟨gb124, 5, none⟩ (.int .i64 ((rd_T31 l0 x66_4).f5))) = w86 at n0_ n1_ n2_ n3_ ⊢
                   have HO_11 := n0_
                   have BK122 := n1_
                   have BK124 := n2_
                   have HB := n3_
                   clear n0_ n1_ n2_ n3_
                   have n0_ := Aside0.mk (Kd.R_drew HO_11.out)
                   have n1_ := Aside0.mk (blk_drew BK122.out)
                   have n2_ := Aside0.mk (blk_drew BK124.out)
                   have n3_ := Aside0.mk (below_drew1 HB.out)
                   clear HO_11
                   clear BK122
                   clear BK124
                   clear HB
                   have HO_11 := n0_
                   have BK122 := n1_
                   have BK124 := n2_
                   have HB := n3_
                   clear n0_ n1_ n2_ n3_
                   refine start_ (n := 24) (S := fun w' => w'.cell? ⟨gb122, 0, none⟩ = some (.int .i64 ((rd_T31 l0 x59_3).f0)) ∧ w'.cell? ⟨gb122, 1, none⟩ = some (.int .i64 ((rd_T31 l0 x59_3).f1)) ∧ w'.cell? ⟨gb122, 2, none⟩ = some (.int .i64 ((rd_T31 l0 x59_3).f2)) ∧ w'.cell? ⟨gb122, 3, none⟩ = some (.int .i64 ((rd_T31 l0 x59_3).f3)) ∧ w'.cell? ⟨gb122, 4, none⟩ = some (.int .i64 ((rd_T31 l0 x59_3).f4)) ∧ w'.cell? ⟨gb122, 5, none⟩ = some (.int .i64 ((rd_T31 l0 x59_3).f5)) ∧ w'.cell? ⟨gb124, 0, none⟩ = some (.int .i64 ((rd_T31 l0 x66_4).f0)) ∧ w'.cell? ⟨gb124, 1, none⟩ = some (.int .i64 ((rd_T31 l0 x66_4).f1)) ∧ w'.cell? ⟨gb124, 2, none⟩ = some (.int .i64 ((rd_T31 l0 x66_4).f2)) ∧ w'.cell? ⟨gb124, 3, none⟩ = some (.int .i64 ((rd_T31 l0 x66_4).f3)) ∧ w'.cell? ⟨gb124, 4, none⟩ = some (.int .i64 ((rd_T31 l0 x66_4).f4)) ∧ w'.cell? ⟨gb124, 5, none⟩ = some (.int .i64 ((rd_T31 l0 x66_4).f5))) (ds := []) (bs 24 0) (by kernel_rfl) rfl rfl ⟨(blk_cell BK122.out 0).trans rfl, (blk_cell BK122.out 1).trans rfl, (blk_cell BK122.out 2).trans rfl, (blk_cell BK122.out 3).trans rfl, (blk_cell BK122.out 4).trans rfl, (blk_cell BK122.out 5).trans rfl, (blk_cell BK124.out 0).trans rfl, (blk_cell BK124.out 1).trans rfl, (blk_cell BK124.out 2).trans rfl, (blk_cell BK124.out 3).trans rfl, (blk_cell BK124.out 4).trans rfl, (blk_cell BK124.out 5).trans rfl⟩ (fun hHeld => ?_); refine with_tabW impl_Missed.tab18 impl_Missed.bits18 (fun HT_ HW_ => ?_)
                   generalize w86.drew = w87 at HO_11 BK122 BK124 HB hHeld ⊢
                   refine pu_ 0 71 HT_ (bs 24 1) rfl rfl ?_
                   refine pu_ 2 73 HT_ (bs 24 5) rfl rfl ?_
                   refine take_ (i := 1) (N := some 72) (v := ?_) (a' := ?_) (bs 24 7) rfl rfl (take_ofW HT_.out HW_.out (by kernel_rfl)) (fun _ _ _ h => h) (Or.inl ⟨by rfl, ?_⟩) hHeld ?_ ?_
                   rotate_left
                   ·rintro w' ⟨s0, s1, s2, s3, s4, s5, s6, s7, s8, s9, s10, s11⟩
                    go_simp
                    with_reducible rfl
                   rotate_left
                   ·simp only [Act.put, sA_, sZ_, sS_, i64_w, i32_w]
                    rfl
                   refine take_ (i := 3) (N := some 74) (v := ?_) (a' := ?_) (bs 24 15) rfl rfl (take_ofW HT_.out HW_.out (by kernel_rfl)) (fun _ _ _ h => h) (Or.inl ⟨by rfl, ?_⟩) hHeld ?_ ?_
                   rotate_left
                   ·rintro w' ⟨s0, s1, s2, s3, s4, s5, s6, s7, s8, s9, s10, s11⟩
                    go_simp
                    with_reducible rfl
                   rotate_left
                   ·simp only [Act.put, sA_, sZ_, sS_, i64_w, i32_w]
                    rfl
                   refine pu_ 4 75 HT_ (bs 24 31) rfl rfl ?_
                   refine pu_ 5 76 HT_ (bs 24 63) rfl rfl ?_
                   refine pu_ 8 79 HT_ (bs 24 319) rfl rfl ?_
                   refine take_ (i := 6) (N := some 77) (v := ?_) (a' := ?_) (bs 24 383) rfl rfl (take_ofW HT_.out HW_.out (by kernel_rfl)) (fun _ _ _ h => h) (Or.inl ⟨by rfl, ?_⟩) hHeld ?_ ?_
                   rotate_left
                   ·rintro w' ⟨s0, s1, s2, s3, s4, s5, s6, s7, s8, s9, s10, s11⟩
                    go_simp
                    with_reducible rfl
                   rotate_left
                   ·simp only [Act.put, sA_, sZ_, sS_, i64_w, i32_w]
                    rfl
                   refine take_ (i := 7) (N := some 78) (v := ?_) (a' := ?_) (bs 24 511) rfl rfl (take_ofW HT_.out HW_.out (by kernel_rfl)) (fun _ _ _ h => h) (Or.inl ⟨by rfl, ?_⟩) hHeld ?_ ?_
                   rotate_left
                   ·rintro w' ⟨s0, s1, s2, s3, s4, s5, s6, s7, s8, s9, s10, s11⟩
                    go_simp
                    with_reducible rfl
                   rotate_left
                   ·simp only [Act.put, sA_, sZ_, sS_, i64_w, i32_w]
                    rfl
                   refine one_ (i := 9) (N := some 80) (bs 24 1023) rfl rfl (one_of HT_.out (by kernel_rfl)) (by decide) (fun K hK => ?_)
                   refine goes_ Try.func34 (by kernel_rfl) rfl #[.agg #[.int .i64 ((rd_T31 l0 x59_3).f0), .int .i64 ((rd_T31 l0 x59_3).f1), .int .i64 ((rd_T31 l0 x59_3).f2), .int .i64 ((rd_T31 l0 x59_3).f3), .int .i64 ((rd_T31 l0 x59_3).f4), .int .i64 ((rd_T31 l0 x59_3).f5)], .agg #[.int .i64 ((rd_T31 l0 x66_4).f0), .int .i64 ((rd_T31 l0 x66_4).f1), .int .i64 ((rd_T31 l0 x66_4).f2), .int .i64 ((rd_T31 l0 x66_4).f3), .int .i64 ((rd_T31 l0 x66_4).f4), .int .i64 ((rd_T31 l0 x66_4).f5)], .int .i64 a2] (by rfl) rfl rfl (by (try simp only [List.map_toArray, List.map_cons, List.map_nil]); first | done | rfl | (simp only [List.length_drop, List.length_take]; rfl)) ?_
                   with_reducible refine (impl_changes.calls ((rd_T31 l0 x59_3).f0) ((rd_T31 l0 x59_3).f1) ((rd_T31 l0 x59_3).f2) ((rd_T31 l0 x59_3).f3) ((rd_T31 l0 x59_3).f4) ((rd_T31 l0 x59_3).f5) ((rd_T31 l0 x66_4).f0) ((rd_T31 l0 x66_4).f1) ((rd_T31 l0 x66_4).f2) ((rd_T31 l0 x66_4).f3) ((rd_T31 l0 x66_4).f4) ((rd_T31 l0 x66_4).f5) a2 false _ A60.out).mono ?_
                   rintro e w88 ⟨rfl, hb⟩
                   refine ⟨_, rfl, ?_⟩
                   have n0_ := Aside0.mk (Kd.R_below (fr_ HO_11.out) hb)
                   have n1_ := Aside0.mk (blk_below (g := gb122) (o := .cells #[.int .i64 ((rd_T31 l0 x59_3).f0), .int .i64 ((rd_T31 l0 x59_3).f1), .int .i64 ((rd_T31 l0 x59_3).f2), .int .i64 ((rd_T31 l0 x59_3).f3), .int .i64 ((rd_T31 l0 x59_3).f4), .int .i64 ((rd_T31 l0 x59_3).f5)] 31 (0, 0)) (fb_ BK122.out) hb)
                   have n2_ := Aside0.mk (blk_below (g := gb124) (o := .cells #[.int .i64 ((rd_T31 l0 x66_4).f0), .int .i64 ((rd_T31 l0 x66_4).f1), .int .i64 ((rd_T31 l0 x66_4).f2), .int .i64 ((rd_T31 l0 x66_4).f3), .int .i64 ((rd_T31 l0 x66_4).f4), .int .i64 ((rd_T31 l0 x66_4).f5)] 31 (0, 0)) (fb_ BK124.out) hb)
                   have n3_ := Aside0.mk (below_step (bel_ HB.out) hb)
                   clear HO_11
                   clear BK122
                   clear BK124
                   clear HB
                   have HO_11 := n0_
                   have BK122 := n1_
                   have BK124 := n2_
                   have HB := n3_
                   clear n0_ n1_ n2_ n3_
                   (try clear hb)
                   (try clear hb2)
                   (try clear hk)
                   (try clear hi)
                   refine hK.out _ _ ⟨(blk_cell BK122.out 0).trans rfl, (blk_cell BK122.out 1).trans rfl, (blk_cell BK122.out 2).trans rfl, (blk_cell BK122.out 3).trans rfl, (blk_cell BK122.out 4).trans rfl, (blk_cell BK122.out 5).trans rfl, (blk_cell BK124.out 0).trans rfl, (blk_cell BK124.out 1).trans rfl, (blk_cell BK124.out 2).trans rfl, (blk_cell BK124.out 3).trans rfl, (blk_cell BK124.out 4).trans rfl, (blk_cell BK124.out 5).trans rfl⟩ (fun hHeld => ?_)
                   clear hK K
                   refine norm_ (a' := ?_) ?_ ?_
                   rotate_left
                   ·show Act.put _ (some 80) _ = _
                    simp only [Act.put, sA_, sZ_, sS_, i64_w, i32_w]
                    rfl
                   refine pu_ 10 81 HT_ (bs 24 2047) rfl rfl ?_
                   refine pu_ 11 82 HT_ (bs 24 4095) rfl rfl ?_
                   refine pn_ 12 83 HT_ (bs 24 8191) rfl rfl ?_
                   refine pn_ 13 84 HT_ (bs 24 16383) rfl rfl ?_
                   refine pn_ 14 85 HT_ (bs 24 32767) rfl rfl ?_
                   refine pn_ 15 86 HT_ (bs 24 65535) rfl rfl ?_
                   refine pn_ 16 87 HT_ (bs 24 131071) rfl rfl ?_
                   refine pn_ 17 88 HT_ (bs 24 262143) rfl rfl ?_
                   refine pn_ 18 89 HT_ (bs 24 524287) rfl rfl ?_
                   refine pn_ 19 90 HT_ (bs 24 1048575) rfl rfl ?_
                   refine pn_ 20 91 HT_ (bs 24 2097151) rfl rfl ?_
                   refine pn_ 21 92 HT_ (bs 24 4194303) rfl rfl ?_
                   refine pn_ 22 93 HT_ (bs 24 8388607) rfl rfl ?_
                   refine pu_ 23 94 HT_ (bs 24 16777215) rfl rfl ?_
                   refine done_ (done_of HT_.out (by kernel_rfl)) ?_
                   try go_wp2
                   go_roundg k4
                   case measure => have := HJ3.out; have := HK2.out; have := HK3.out; have := HK4.out; omega
                   case rel => exact ⟨(x11_4), (wrap64 (x66_4 + 1)), (by first | rfl | (simp; done) | (simp [*]; done) | (simp [wrap64]; done)), H', ⟨by have := HJ3.out; have := HK2.out; have := HK3.out; have := HK4.out; omega⟩, ⟨by (with_reducible repeat (first | apply Kd.R_alloc | apply Kd.R_drewN | apply Kd.R_drew)); exact HO_11.out⟩, ⟨by (with_reducible repeat (first | refine blk_drewN ?_ _ | refine blk_drew ?_ | refine blk_alloc ?_ _)); exact BK122.out⟩, ⟨bel_ HB.out⟩⟩
                ·rw [if_neg c53] at H
                 exact absurd H (by simp)
               ·rw [if_neg c52] at H
                exact absurd H (by simp)
              ·rw [if_neg c51] at H
               have c51b0 : decide (x66_4 < (l0.length : Int)) = false := decide_eq_false c51
               clear c51
               have H' := Aside0.mk H
               clear H
               go_wp2
               go_roundg k4
               case measure => have := HJ3.out; have := HK2.out; have := HK3.out; have := HK4.out; omega
               case rel => exact ⟨(x11_4), (wrap64 (x59_3 + 1)), (by first | rfl | (simp; done) | (simp [*]; done) | (simp [wrap64]; done)), H', ⟨by have := HJ3.out; have := HK2.out; have := HK3.out; have := HK4.out; omega⟩, ⟨by (with_reducible repeat (first | apply Kd.R_alloc | apply Kd.R_drewN | apply Kd.R_drew)); exact HO_11.out⟩, ⟨bel_ HB.out⟩⟩
           ·rw [if_neg c48] at H
            exact absurd H (by simp)
          ·rw [if_neg c47] at H
           exact absurd H (by simp)
         ·rw [if_neg c46] at H
          have c46b0 : decide (x59_3 < (l0.length : Int)) = false := decide_eq_false c46
          clear c46
          replace H := Option.bind_eq_some_iff.mp H
          obtain ⟨t118, A890, H⟩ := H
          replace H : (some (t118, true)) = some (r1, r2) := H
          have A89 := Aside0.mk A890
          clear A890
          simp only [Option.some.injEq, Prod.mk.injEq] at H
          obtain ⟨rfl, rfl⟩ := H
          obtain ⟨Ao90, co90, eo90⟩ := Kd.R_slice HO_11.out
          subst eo90
          go_wp2_with (first | ((with_reducible refine gate_callee (f := 35) rfl ?_); refine goesL_ (some 107) rfl rfl Try.func35 (by kernel_rfl) rfl #[.slice Ao90 x11_3.length co90] rfl (by (try simp only [List.map_toArray, List.map_cons, List.map_nil]); first | done | rfl | (simp only [List.length_drop, List.length_take]; rfl)) ?_; (with_reducible refine (impl_own_int.calls _ _ x11_3 t118 _ ?side1 ?side2 A89.out).mono ?_); (case side1 => repeat (first | exact (Kd.R_reads' HO_11.out).2.2 | (with_reducible refine Kd.C_alloc ?_ _) | (with_reducible refine Kd.C_drewN ?_ _) | (with_reducible refine Kd.C_drew ?_))); (case side2 => exact (Kd.R_reads' HO_11.out).2.1); rintro e w91 ⟨v119, rfl, ho0, hb⟩; refine ⟨_, rfl, ?_⟩; have n0_ := Aside0.mk (Kd.R_elder' (fr_ HO_11.out) (Kd.R_base ho0) hb); have n1_ := Aside0.mk (Kd.R_lower (Kd.R_new' ho0 (Kd.R_lt (fr_ HO_11.out))) (below_size (bel_ HB.out))); have n2_ := Aside0.mk (below_step (bel_ HB.out) hb); clear HO_11; clear HB; have HO_11 := n0_; have HO120 := n1_; have HB := n2_; clear n0_ n1_ n2_; (try clear hb); (try clear hb2); (try clear hk); (try clear hi); (try clear ho0)))
          go_ret2
          exact ⟨_, by first | rfl | (simp [errW_none, errW_some] <;> rfl) | (simp [*, errW_none, errW_some] <;> rfl), by (with_reducible repeat (first | apply Kd.R_alloc | apply Kd.R_drewN | apply Kd.R_drew)); exact Kd.R_mono HO120.out (fun _ hk => trivial), bel_ HB.out⟩

end Go.Proofs.Ytacekdgajpaomaa.PFnExactMissed
