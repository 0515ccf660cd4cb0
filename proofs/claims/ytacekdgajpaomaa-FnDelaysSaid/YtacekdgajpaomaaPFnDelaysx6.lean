/- The Lean side of Go functions of this seat: what each answers, and that its run comes to that answer; written by a program of this work. -/
import Derived.Test.YtacekdgajpaomaaPFnDelaysx0
import Derived.Test.YtacekdgajpaomaaPFnDelaysx1
import Derived.Test.YtacekdgajpaomaaPFnDelaysx4
import Derived.Test.YtacekdgajpaomaaPFnDelaysx5
namespace Go.Proofs.Ytacekdgajpaomaa.PFnDelays
open Go.RowKit Go.Proofs.YtacekdgajpaomaaW.PrintWords Go.Proofs.YtacekdgajpaomaaW.PrintLast Go.Proofs.YtacekdgajpaomaaW.PrintMore
attribute [local go_sem] max2_int min2_int max_two min_two max_three min_three max_four min_four   -- for this text's walks alone
set_option linter.unusedVariables false
set_option linter.unusedSimpArgs false

attribute [local go_sem high] eqA31
/-! ### impl_Missed: function 13 -/
mutual
def impl_Missed.j0 : Nat → List (S31) → List (S31) → Int → Bool → Option (List Int × Bool)
 | 0, _, _, _, _ => none
 | k + 1, x0, x1, x2, x35 => if x35 = true then (some (([] : List Int), false)) else (impl_Missed.l0 k x0 x1 x2 x0 (x0.length : Int) 0)
def impl_Missed.l0 : Nat → List (S31) → List (S31) → Int → List (S31) → Int → Int → Option (List Int × Bool)
 | 0, _, _, _, _, _, _ => none
 | k + 1, x0, x1, x2, x36, x37, x38 => if x38 < x37 then (if 0 ≤ x38 then (if x38 < (x36.length : Int) then (if x38 < (x1.length : Int) then (if (!(((rd_T31 x36 x38).f0) == ((rd_T31 x1 x38).f0)) || (!(((rd_T31 x36 x38).f1) == ((rd_T31 x1 x38).f1)) || (!(((rd_T31 x36 x38).f2) == ((rd_T31 x1 x38).f2)) || (!(((rd_T31 x36 x38).f5) == ((rd_T31 x1 x38).f5)))))) = true then (some (([] : List Int), false)) else (impl_Missed.l0 k x0 x1 x2 x36 x37 (wrap64 (x38 + 1)))) else (none)) else (none)) else (none)) else (impl_Missed.l1 k x0 x1 x2 ([] : List Int) x0 (x0.length : Int) 0)
def impl_Missed.l1 : Nat → List (S31) → List (S31) → Int → List Int → List (S31) → Int → Int → Option (List Int × Bool)
 | 0, _, _, _, _, _, _, _ => none
 | k + 1, x0, x1, x2, x11, x57, x58, x59 => if x59 < x58 then (if 0 ≤ x59 then (if x59 < (x57.length : Int) then (impl_Missed.l2 k x0 x1 x2 x11 x59 x57 x58 x59 x0 (x0.length : Int) 0 ((rd_T31 x57 x59).f0) ((rd_T31 x57 x59).f1) ((rd_T31 x57 x59).f2) ((rd_T31 x57 x59).f3) ((rd_T31 x57 x59).f4) ((rd_T31 x57 x59).f5)) else (none)) else (none)) else ((impl_own_int.f x11).bind fun t207 => (some (t207, true)))
def impl_Missed.l2 : Nat → List (S31) → List (S31) → Int → List Int → Int → List (S31) → Int → Int → List (S31) → Int → Int → Int → Int → Int → Int → Int → Int → Option (List Int × Bool)
 | 0, _, _, _, _, _, _, _, _, _, _, _, _, _, _, _, _, _ => none
 | k + 1, x0, x1, x2, x11, x12, x57, x58, x59, x64, x65, x66, x212000, x212001, x212002, x212003, x212004, x212005 => if x66 < x65 then (if 0 ≤ x66 then (if x66 < (x64.length : Int) then (if x212000 = ((rd_T31 x64 x66).f0) then (impl_Missed.l2 k x0 x1 x2 x11 x12 x57 x58 x59 x64 x65 (wrap64 (x66 + 1)) x212000 x212001 x212002 x212003 x212004 x212005) else ((impl_changes.f x212000 x212001 x212002 x212003 x212004 x212005 ((rd_T31 x64 x66).f0) ((rd_T31 x64 x66).f1) ((rd_T31 x64 x66).f2) ((rd_T31 x64 x66).f3) ((rd_T31 x64 x66).f4) ((rd_T31 x64 x66).f5) x2).bind fun t214 => (if t214 = true then (if 0 ≤ x12 then (if x12 < (x1.length : Int) then (if x66 < (x1.length : Int) then ((impl_changes.f ((rd_T31 x1 x12).f0) ((rd_T31 x1 x12).f1) ((rd_T31 x1 x12).f2) ((rd_T31 x1 x12).f3) ((rd_T31 x1 x12).f4) ((rd_T31 x1 x12).f5) ((rd_T31 x1 x66).f0) ((rd_T31 x1 x66).f1) ((rd_T31 x1 x66).f2) ((rd_T31 x1 x66).f3) ((rd_T31 x1 x66).f4) ((rd_T31 x1 x66).f5) x2).bind fun t217 => (if t217 = true then (impl_Missed.l2 k x0 x1 x2 x11 x12 x57 x58 x59 x64 x65 (wrap64 (x66 + 1)) x212000 x212001 x212002 x212003 x212004 x212005) else (if x11.length < 17592186044416 then (impl_Missed.l2 k x0 x1 x2 (x11 ++ [wrap64 ((wrap64 (x12 * (x0.length : Int))) + x66)]) x12 x57 x58 x59 x64 x65 (wrap64 (x66 + 1)) x212000 x212001 x212002 x212003 x212004 x212005) else (none)))) else (none)) else (none)) else (none)) else (impl_Missed.l2 k x0 x1 x2 x11 x12 x57 x58 x59 x64 x65 (wrap64 (x66 + 1)) x212000 x212001 x212002 x212003 x212004 x212005)))) else (none)) else (none)) else (impl_Missed.l1 k x0 x1 x2 x11 x57 x58 (wrap64 (x59 + 1)))
end
def impl_Missed.f (k : Nat) (l0 : List (S31)) (l1 : List (S31)) (a2 : Int) : Option (List Int × Bool) := (impl_LegsOk.f l0).bind fun t200 => (if t200 = true then ((impl_LegsOk.f l1).bind fun t201 => (if t201 = true then (if (l0.length : Int) = (l1.length : Int) then ((impl_in.f a2 0 10000).bind fun t202 => (impl_Missed.j0 k l0 l1 a2 (!t202))) else (impl_Missed.j0 k l0 l1 a2 true)) else (impl_Missed.j0 k l0 l1 a2 true))) else (impl_Missed.j0 k l0 l1 a2 true))
theorem impl_Missed.mono_l : ∀ k, (∀ y0 y1 y2 y3, LeO (impl_Missed.j0 k y0 y1 y2 y3) (impl_Missed.j0 (k + 1) y0 y1 y2 y3)) ∧ (∀ y0 y1 y2 y3 y4 y5, LeO (impl_Missed.l0 k y0 y1 y2 y3 y4 y5) (impl_Missed.l0 (k + 1) y0 y1 y2 y3 y4 y5)) ∧ (∀ y0 y1 y2 y3 y4 y5 y6, LeO (impl_Missed.l1 k y0 y1 y2 y3 y4 y5 y6) (impl_Missed.l1 (k + 1) y0 y1 y2 y3 y4 y5 y6)) ∧ (∀ y0 y1 y2 y3 y4 y5 y6 y7 y8 y9 y10 y11 y12 y13 y14 y15 y16, LeO (impl_Missed.l2 k y0 y1 y2 y3 y4 y5 y6 y7 y8 y9 y10 y11 y12 y13 y14 y15 y16) (impl_Missed.l2 (k + 1) y0 y1 y2 y3 y4 y5 y6 y7 y8 y9 y10 y11 y12 y13 y14 y15 y16))
 | 0 => ⟨fun _ _ _ _ r h => by simp [impl_Missed.j0] at h, fun _ _ _ _ _ _ r h => by simp [impl_Missed.l0] at h, fun _ _ _ _ _ _ _ r h => by simp [impl_Missed.l1] at h, fun _ _ _ _ _ _ _ _ _ _ _ _ _ _ _ _ _ r h => by simp [impl_Missed.l2] at h⟩
 | k + 1 => by
  obtain ⟨ih0, ih1, ih2, ih3⟩ := impl_Missed.mono_l k
  refine ⟨?_, ?_, ?_, ?_⟩
  ·intro y0 y1 y2 y3
   unfold impl_Missed.j0
   repeat' first
   | (with_reducible exact ih0 _ _ _ _)
   | (with_reducible exact ih1 _ _ _ _ _ _)
   | (with_reducible exact ih2 _ _ _ _ _ _ _)
   | (with_reducible exact ih3 _ _ _ _ _ _ _ _ _ _ _ _ _ _ _ _ _)
   | (with_reducible exact LeO.refl _)
   | (with_reducible exact LeO.none _)
   | (with_reducible refine LeO.ite ?_ ?_)
   | (with_reducible refine LeO.bind ?_ (fun _ => ?_))
   | exact ih0 _ _ _ _
   | exact ih1 _ _ _ _ _ _
   | exact ih2 _ _ _ _ _ _ _
   | exact ih3 _ _ _ _ _ _ _ _ _ _ _ _ _ _ _ _ _
   | exact LeO.none _
   | refine LeO.ite ?_ ?_
   | refine LeO.bind ?_ (fun _ => ?_)
  ·intro y0 y1 y2 y3 y4 y5
   unfold impl_Missed.l0
   repeat' first
   | (with_reducible exact ih0 _ _ _ _)
   | (with_reducible exact ih1 _ _ _ _ _ _)
   | (with_reducible exact ih2 _ _ _ _ _ _ _)
   | (with_reducible exact ih3 _ _ _ _ _ _ _ _ _ _ _ _ _ _ _ _ _)
   | (with_reducible exact LeO.refl _)
   | (with_reducible exact LeO.none _)
   | (with_reducible refine LeO.ite ?_ ?_)
   | (with_reducible refine LeO.bind ?_ (fun _ => ?_))
   | exact ih0 _ _ _ _
   | exact ih1 _ _ _ _ _ _
   | exact ih2 _ _ _ _ _ _ _
   | exact ih3 _ _ _ _ _ _ _ _ _ _ _ _ _ _ _ _ _
   | exact LeO.none _
   | refine LeO.ite ?_ ?_
   | refine LeO.bind ?_ (fun _ => ?_)
  ·intro y0 y1 y2 y3 y4 y5 y6
   unfold impl_Missed.l1
   repeat' first
   | (with_reducible exact ih0 _ _ _ _)
   | (with_reducible exact ih1 _ _ _ _ _ _)
   | (with_reducible exact ih2 _ _ _ _ _ _ _)
   | (with_reducible exact ih3 _ _ _ _ _ _ _ _ _ _ _ _ _ _ _ _ _)
   | (with_reducible exact LeO.refl _)
   | (with_reducible exact LeO.none _)
   | (with_reducible refine LeO.ite ?_ ?_)
   | (with_reducible refine LeO.bind ?_ (fun _ => ?_))
   | exact ih0 _ _ _ _
   | exact ih1 _ _ _ _ _ _
   | exact ih2 _ _ _ _ _ _ _
   | exact ih3 _ _ _ _ _ _ _ _ _ _ _ _ _ _ _ _ _
   | exact LeO.none _
   | refine LeO.ite ?_ ?_
   | refine LeO.bind ?_ (fun _ => ?_)
  ·intro y0 y1 y2 y3 y4 y5 y6 y7 y8 y9 y10 y11 y12 y13 y14 y15 y16
   unfold impl_Missed.l2
   repeat' first
   | (with_reducible exact ih0 _ _ _ _)
   | (with_reducible exact ih1 _ _ _ _ _ _)
   | (with_reducible exact ih2 _ _ _ _ _ _ _)
   | (with_reducible exact ih3 _ _ _ _ _ _ _ _ _ _ _ _ _ _ _ _ _)
   | (with_reducible exact LeO.refl _)
   | (with_reducible exact LeO.none _)
   | (with_reducible refine LeO.ite ?_ ?_)
   | (with_reducible refine LeO.bind ?_ (fun _ => ?_))
   | exact ih0 _ _ _ _
   | exact ih1 _ _ _ _ _ _
   | exact ih2 _ _ _ _ _ _ _
   | exact ih3 _ _ _ _ _ _ _ _ _ _ _ _ _ _ _ _ _
   | exact LeO.none _
   | refine LeO.ite ?_ ?_
   | refine LeO.bind ?_ (fun _ => ?_)
theorem impl_Missed.mono : ∀ a0 a1 a2 k, LeO (impl_Missed.f k a0 a1 a2) (impl_Missed.f (k + 1) a0 a1 a2) := by
 intro a0 a1 a2 k
 obtain ⟨ih0, ih1, ih2, ih3⟩ := impl_Missed.mono_l k
 unfold impl_Missed.f
 repeat' first
   | (with_reducible exact ih0 _ _ _ _)
   | (with_reducible exact ih1 _ _ _ _ _ _)
   | (with_reducible exact ih2 _ _ _ _ _ _ _)
   | (with_reducible exact ih3 _ _ _ _ _ _ _ _ _ _ _ _ _ _ _ _ _)
   | (with_reducible exact LeO.refl _)
   | (with_reducible exact LeO.none _)
   | (with_reducible refine LeO.ite ?_ ?_)
   | (with_reducible refine LeO.bind ?_ (fun _ => ?_))
   | exact ih0 _ _ _ _
   | exact ih1 _ _ _ _ _ _
   | exact ih2 _ _ _ _ _ _ _
   | exact ih3 _ _ _ _ _ _ _ _ _ _ _ _ _ _ _ _ _
   | exact LeO.none _
   | refine LeO.ite ?_ ?_
   | refine LeO.bind ?_ (fun _ => ?_)
def impl_Missed.T7 : Bool × List (List Nat × List Nat) := (true, [([], []), ([0], [0]), ([], []), ([2], [2]), ([0, 1], []), ([4, 1, 0, 1], [1, 4]), ([0, 1, 2, 3, 4, 5], []), ([6, 3, 5, 0, 1, 2, 3, 4, 5], [3, 6])])
def impl_Missed.B7 : List Nat := [0, 1, 0, 4, 3, 19, 63, 127]
theorem impl_Missed.tab7 : rtab .any (opsOf Try.f13 7) = impl_Missed.T7 := by kernel_rfl
theorem impl_Missed.bits7 : waitsOk impl_Missed.T7.2 impl_Missed.B7 = true := by kernel_rfl
def impl_Missed.T18 : Bool × List (List Nat × List Nat) := (true, [([], []), ([0], [0]), ([], []), ([2], [2]), ([1, 3], [1, 3]), ([4], [4]), ([5], [5]), ([5], [5]), ([5], [5]), ([6, 7, 8, 5, 5], [5, 6, 7, 8]), ([5, 9], [5, 9]), ([10, 9], [10]), ([11], [11]), ([11], [11]), ([12, 13, 11], [11, 12, 13]), ([14, 11], [11, 14]), ([11], [11]), ([11], [11]), ([16, 17, 11], [11, 16, 17]), ([18, 11], [11, 18]), ([11], [11]), ([15, 19, 20, 11, 11], [11, 15, 19, 20]), ([21, 11], [11, 21]), ([11, 22], [11, 22])])
def impl_Missed.B18 : List Nat := [0, 1, 0, 4, 15, 31, 63, 63, 63, 511, 1023, 2047, 4095, 4095, 16383, 32767, 4095, 4095, 200703, 462847, 4095, 2097151, 4194303, 8388607]
theorem impl_Missed.tab18 : rtab .any (opsOf Try.f13 18) = impl_Missed.T18 := by kernel_rfl
theorem impl_Missed.bits18 : waitsOk impl_Missed.T18.2 impl_Missed.B18 = true := by kernel_rfl
set_option maxHeartbeats 8000000 in
set_option maxRecDepth 100000 in
theorem impl_Missed.calls (k : Nat) (A0 : Option Addr) (c0 : Nat) (l0 : List (S31)) (A1 : Option Addr) (c1 : Nat) (l1 : List (S31)) (a2 : Int) (r1 : List Int) (r2 : Bool) (w : World) (hr0 : Kd.C k31 w A0 l0.length l0) (hc0 : l0.length ≤ c0) (hr1 : Kd.C k31 w A1 l1.length l1) (hc1 : l1.length ≤ c1) (h : impl_Missed.f k l0 l1 a2 = some (r1, r2)) :
  Calls Try.prog 13 #[.slice A0 l0.length c0, .slice A1 l1.length c1, .int .i64 a2] w fun e w' => ∃ v0_ : Value, e = .returned (.tuple #[v0_, .bool r2]) ∧ Kd.R (Kd.int .i64) 3 w' w.heap.size (fun _ => True) v0_ r1 ∧ Below w.heap.size w w' := by
 have hu31 := Try.underlying31
 have HR0 := Aside0.mk hr0
 have HC0 := Aside0.mk hc0
 clear hr0 hc0
 have HR1 := Aside0.mk hr1
 have HC1 := Aside0.mk hc1
 clear hr1 hc1
 have HB := Aside0.mk (Below.refl w.heap.size w)
 have H : ((impl_LegsOk.f l0).bind fun t200 => (if t200 = true then ((impl_LegsOk.f l1).bind fun t201 => (if t201 = true then (if (l0.length : Int) = (l1.length : Int) then ((impl_in.f a2 0 10000).bind fun t202 => (impl_Missed.j0 k l0 l1 a2 (!t202))) else (impl_Missed.j0 k l0 l1 a2 true)) else (impl_Missed.j0 k l0 l1 a2 true))) else (impl_Missed.j0 k l0 l1 a2 true))) = some (r1, r2) := h
 clear h
 have HC4 := Aside0.mk H
 clear H
 go_enter Try.func13, Try.ntmps13
 go_upto_region 1 with (fail)
 go_cut [35] (fun v35 wc => ∃ (kq : Nat) (x35_3 : Bool), v35 = .bool x35_3 ∧ Aside0 (impl_Missed.j0 kq l0 l1 a2 x35_3 = some (r1, r2)) ∧ Aside0 (kq ≤ k) ∧ Aside0 (Below w.heap.size w wc))
 case first =>
  have H := HC4.out
  clear HC4
  replace H := Option.bind_eq_some_iff.mp H
  obtain ⟨t200, A50, H⟩ := H
  replace H : (if t200 = true then ((impl_LegsOk.f l1).bind fun t201 => (if t201 = true then (if (l0.length : Int) = (l1.length : Int) then ((impl_in.f a2 0 10000).bind fun t202 => (impl_Missed.j0 k l0 l1 a2 (!t202))) else (impl_Missed.j0 k l0 l1 a2 true)) else (impl_Missed.j0 k l0 l1 a2 true))) else (impl_Missed.j0 k l0 l1 a2 true)) = some (r1, r2) := H
  have A5 := Aside0.mk A50
  clear A50
  by_cases c6 : t200 = true
  ·subst c6
   have H1 : ((impl_LegsOk.f l1).bind fun t201 => (if t201 = true then (if (l0.length : Int) = (l1.length : Int) then ((impl_in.f a2 0 10000).bind fun t202 => (impl_Missed.j0 k l0 l1 a2 (!t202))) else (impl_Missed.j0 k l0 l1 a2 true)) else (impl_Missed.j0 k l0 l1 a2 true))) = some (r1, r2) := by rw [if_pos rfl] at H; exact H
   clear H
   have H := H1
   clear H1
   replace H := Option.bind_eq_some_iff.mp H
   obtain ⟨t201, A70, H⟩ := H
   replace H : (if t201 = true then (if (l0.length : Int) = (l1.length : Int) then ((impl_in.f a2 0 10000).bind fun t202 => (impl_Missed.j0 k l0 l1 a2 (!t202))) else (impl_Missed.j0 k l0 l1 a2 true)) else (impl_Missed.j0 k l0 l1 a2 true)) = some (r1, r2) := H
   have A7 := Aside0.mk A70
   clear A70
   by_cases c8 : t201 = true
   ·subst c8
    have H1 : (if (l0.length : Int) = (l1.length : Int) then ((impl_in.f a2 0 10000).bind fun t202 => (impl_Missed.j0 k l0 l1 a2 (!t202))) else (impl_Missed.j0 k l0 l1 a2 true)) = some (r1, r2) := by rw [if_pos rfl] at H; exact H
    clear H
    have H := H1
    clear H1
    by_cases c9 : (l0.length : Int) = (l1.length : Int)
    ·rw [if_pos c9] at H
     have c9b0 : ((l0.length : Int) == (l1.length : Int)) = true := beq_iff_eq.mpr c9
     have c9b1 : ((l0.length : Int) != (l1.length : Int)) = false := bne_eq_false_iff_eq.mpr c9
     have c9b2 : (l0.length == l1.length) = true := by first | simpa using c9 | (simp at c9 ⊢; omega)
     clear c9
     (first | rw [c9b0] | (simp only [i64_w, i32_w]; rw [c9b0]) | skip)
     replace H := Option.bind_eq_some_iff.mp H
     obtain ⟨t202, A100, H⟩ := H
     replace H : (impl_Missed.j0 k l0 l1 a2 (!t202)) = some (r1, r2) := H
     have A10 := Aside0.mk A100
     clear A100
     have H' := Aside0.mk H
     clear H
     go_wp2_with (first | ((with_reducible refine gate_callee (f := 12) rfl ?_); refine goesL_ (some 17) rfl rfl Try.func12 (by kernel_rfl) rfl #[.slice A0 l0.length c0] rfl (by (try simp only [List.map_toArray, List.map_cons, List.map_nil]); first | done | rfl | (simp only [List.length_drop, List.length_take]; rfl)) ?_; (with_reducible refine (impl_LegsOk.calls _ _ l0 true _ ?side1 ?side2 A5.out).mono ?_); (case side1 => repeat (first | exact (Kd.C_below HR0.out HB.out) | (with_reducible refine Kd.C_alloc ?_ _) | (with_reducible refine Kd.C_drewN ?_ _) | (with_reducible refine Kd.C_drew ?_))); (case side2 => exact HC0.out); rintro e w11 ⟨rfl, hb⟩; refine ⟨_, rfl, ?_⟩; have n0_ := Aside0.mk (below_step (bel_ HB.out) hb); clear HB; have HB := n0_; clear n0_; (try clear hb); (try clear hb2); (try clear hk); (try clear hi)) | (go_at_call 12; (with_reducible refine (impl_LegsOk.calls _ _ l1 true _ ?side1 ?side2 A7.out).mono ?_); (case side1 => repeat (first | exact (Kd.C_below HR1.out HB.out) | (with_reducible refine Kd.C_alloc ?_ _) | (with_reducible refine Kd.C_drewN ?_ _) | (with_reducible refine Kd.C_drew ?_))); (case side2 => exact HC1.out); rintro e w12 ⟨rfl, hb⟩; have n0_ := Aside0.mk (below_step (bel_ HB.out) hb); clear HB; have HB := n0_; clear n0_; (try clear hb); (try clear hb2); (try clear hk); (try clear hi)) | (go_at_call 30; (with_reducible refine (impl_in.calls a2 0 10000 t202 _ A10.out).mono ?_); rintro e w' ⟨rfl, ⟨nd, rfl⟩⟩))
     go_meet
     case rel => exact ⟨_, (!t202), (by first | rfl | (simp; done) | (simp [*]; done) | (simp [wrap64]; done)), H', ⟨by first | omega | exact Nat.le_refl _⟩, ⟨bel_ HB.out⟩⟩
    ·rw [if_neg c9] at H
     have c9b0 : ((l0.length : Int) == (l1.length : Int)) = false := beq_eq_false_iff_ne.mpr c9
     have c9b1 : ((l0.length : Int) != (l1.length : Int)) = true := bne_iff_ne.mpr c9
     have c9b2 : (l0.length == l1.length) = false := by first | simpa using c9 | (simp at c9 ⊢; omega)
     (first | rw [c9b0] | (simp only [i64_w, i32_w]; rw [c9b0]) | skip)
     have H' := Aside0.mk H
     clear H
     go_wp2_with (first | ((with_reducible refine gate_callee (f := 12) rfl ?_); refine goesL_ (some 17) rfl rfl Try.func12 (by kernel_rfl) rfl #[.slice A0 l0.length c0] rfl (by (try simp only [List.map_toArray, List.map_cons, List.map_nil]); first | done | rfl | (simp only [List.length_drop, List.length_take]; rfl)) ?_; (with_reducible refine (impl_LegsOk.calls _ _ l0 true _ ?side1 ?side2 A5.out).mono ?_); (case side1 => repeat (first | exact (Kd.C_below HR0.out HB.out) | (with_reducible refine Kd.C_alloc ?_ _) | (with_reducible refine Kd.C_drewN ?_ _) | (with_reducible refine Kd.C_drew ?_))); (case side2 => exact HC0.out); rintro e w13 ⟨rfl, hb⟩; refine ⟨_, rfl, ?_⟩; have n0_ := Aside0.mk (below_step (bel_ HB.out) hb); clear HB; have HB := n0_; clear n0_; (try clear hb); (try clear hb2); (try clear hk); (try clear hi)) | (go_at_call 12; (with_reducible refine (impl_LegsOk.calls _ _ l1 true _ ?side1 ?side2 A7.out).mono ?_); (case side1 => repeat (first | exact (Kd.C_below HR1.out HB.out) | (with_reducible refine Kd.C_alloc ?_ _) | (with_reducible refine Kd.C_drewN ?_ _) | (with_reducible refine Kd.C_drew ?_))); (case side2 => exact HC1.out); rintro e w14 ⟨rfl, hb⟩; have n0_ := Aside0.mk (below_step (bel_ HB.out) hb); clear HB; have HB := n0_; clear n0_; (try clear hb); (try clear hb2); (try clear hk); (try clear hi)))
     go_meet
     case rel => exact ⟨_, (true), (by first | rfl | (simp; done) | (simp [*]; done) | (simp [wrap64]; done)), H', ⟨by first | omega | exact Nat.le_refl _⟩, ⟨bel_ HB.out⟩⟩
   ·replace c8 := Bool.eq_false_iff.mpr c8
    subst c8
    have H1 : (impl_Missed.j0 k l0 l1 a2 true) = some (r1, r2) := by rw [if_neg (show ¬ (false = true) by decide)] at H; exact H
    clear H
    have H := H1
    clear H1
    have H' := Aside0.mk H
    clear H
    go_wp2_with (first | ((with_reducible refine gate_callee (f := 12) rfl ?_); refine goesL_ (some 17) rfl rfl Try.func12 (by kernel_rfl) rfl #[.slice A0 l0.length c0] rfl (by (try simp only [List.map_toArray, List.map_cons, List.map_nil]); first | done | rfl | (simp only [List.length_drop, List.length_take]; rfl)) ?_; (with_reducible refine (impl_LegsOk.calls _ _ l0 true _ ?side1 ?side2 A5.out).mono ?_); (case side1 => repeat (first | exact (Kd.C_below HR0.out HB.out) | (with_reducible refine Kd.C_alloc ?_ _) | (with_reducible refine Kd.C_drewN ?_ _) | (with_reducible refine Kd.C_drew ?_))); (case side2 => exact HC0.out); rintro e w15 ⟨rfl, hb⟩; refine ⟨_, rfl, ?_⟩; have n0_ := Aside0.mk (below_step (bel_ HB.out) hb); clear HB; have HB := n0_; clear n0_; (try clear hb); (try clear hb2); (try clear hk); (try clear hi)) | (go_at_call 12; (with_reducible refine (impl_LegsOk.calls _ _ l1 false _ ?side1 ?side2 A7.out).mono ?_); (case side1 => repeat (first | exact (Kd.C_below HR1.out HB.out) | (with_reducible refine Kd.C_alloc ?_ _) | (with_reducible refine Kd.C_drewN ?_ _) | (with_reducible refine Kd.C_drew ?_))); (case side2 => exact HC1.out); rintro e w16 ⟨rfl, hb⟩; have n0_ := Aside0.mk (below_step (bel_ HB.out) hb); clear HB; have HB := n0_; clear n0_; (try clear hb); (try clear hb2); (try clear hk); (try clear hi)))
    go_meet
    case rel => exact ⟨_, (true), (by first | rfl | (simp; done) | (simp [*]; done) | (simp [wrap64]; done)), H', ⟨by first | omega | exact Nat.le_refl _⟩, ⟨bel_ HB.out⟩⟩
  ·replace c6 := Bool.eq_false_iff.mpr c6
   subst c6
   have H1 : (impl_Missed.j0 k l0 l1 a2 true) = some (r1, r2) := by rw [if_neg (show ¬ (false = true) by decide)] at H; exact H
   clear H
   have H := H1
   clear H1
   have H' := Aside0.mk H
   clear H
   go_wp2_with (first | ((with_reducible refine gate_callee (f := 12) rfl ?_); refine goesL_ (some 17) rfl rfl Try.func12 (by kernel_rfl) rfl #[.slice A0 l0.length c0] rfl (by (try simp only [List.map_toArray, List.map_cons, List.map_nil]); first | done | rfl | (simp only [List.length_drop, List.length_take]; rfl)) ?_; (with_reducible refine (impl_LegsOk.calls _ _ l0 false _ ?side1 ?side2 A5.out).mono ?_); (case side1 => repeat (first | exact (Kd.C_below HR0.out HB.out) | (with_reducible refine Kd.C_alloc ?_ _) | (with_reducible refine Kd.C_drewN ?_ _) | (with_reducible refine Kd.C_drew ?_))); (case side2 => exact HC0.out); rintro e w17 ⟨rfl, hb⟩; refine ⟨_, rfl, ?_⟩; have n0_ := Aside0.mk (below_step (bel_ HB.out) hb); clear HB; have HB := n0_; clear n0_; (try clear hb); (try clear hb2); (try clear hk); (try clear hi)))
   go_meet
   case rel => exact ⟨_, (true), (by first | rfl | (simp; done) | (simp [*]; done) | (simp [wrap64]; done)), H', ⟨by first | omega | exact Nat.le_refl _⟩, ⟨bel_ HB.out⟩⟩
 case rest =>
  clear HC4
  try clear c1
  obtain ⟨kq, x35_3, rfl, HA, HJ3, HB⟩ := hcut
  cases kq with
  | zero => exact absurd HA.out (by simp [impl_Missed.j0])
  | succ kj3 =>
   have H := HA.out
   clear HA
   simp only [impl_Missed.j0] at H
   by_cases c18 : x35_3 = true
   ·subst c18
    have H1 : (some (([] : List Int), false)) = some (r1, r2) := by rw [if_pos rfl] at H; exact H
    clear H
    have H := H1
    clear H1
    simp only [Option.some.injEq, Prod.mk.injEq] at H
    obtain ⟨rfl, rfl⟩ := H
    go_wp2
    go_ret2
    exact ⟨_, by first | rfl | (simp [errW_none, errW_some] <;> rfl) | (simp [*, errW_none, errW_some] <;> rfl), by first | exact Kd.R_nil _ _ _ _ _ | exact Kd.N_nil _ _ _ _ _ | exact Kd.V_nil _ _ _ _ _ | exact Kd.Q_nil _ _ _ _ _ | exact Kd.S_nil _ _ _ _ _, bel_ HB.out⟩
   ·replace c18 := Bool.eq_false_iff.mpr c18
    subst c18
    have H1 : (impl_Missed.l0 kj3 l0 l1 a2 l0 (l0.length : Int) 0) = some (r1, r2) := by rw [if_neg (show ¬ (false = true) by decide)] at H; exact H
    clear H
    have H := H1
    clear H1
    have H' := Aside0.mk H
    clear H
    go_wp2
    go_loopg [38] kj3 (fun kq v38 w' => ∃ (x38_2 : Int), v38 = .int .i64 x38_2 ∧ Aside0 (impl_Missed.l0 kq l0 l1 a2 l0 (l0.length : Int) x38_2 = some (r1, r2)) ∧ Aside0 (kq ≤ kj3) ∧ Aside0 (Below w.heap.size w w'))
    case atStart => exact ⟨(0), (by first | rfl | (simp; done) | (simp [*]; done) | (simp [wrap64]; done)), H', ⟨Nat.le_refl _⟩, ⟨bel_ HB.out⟩⟩
    case round =>
     clear H'
     try clear c1
     try clear c18
     obtain ⟨x38_2, rfl, HA, HK2, HB⟩ := hrel
     cases gk with
     | zero => exact absurd HA.out (by simp [impl_Missed.l0])
     | succ k2 =>
      have H := HA.out
      clear HA
      simp only [impl_Missed.l0] at H
      by_cases c19 : x38_2 < (l0.length : Int)
      ·rw [if_pos c19] at H
       have c19b0 : decide (x38_2 < (l0.length : Int)) = true := decide_eq_true c19
       clear c19
       by_cases c20 : 0 ≤ x38_2
       ·rw [if_pos c20] at H
        have c20b0 : decide (0 ≤ x38_2) = true := decide_eq_true c20
        clear c20
        by_cases c21 : x38_2 < (l0.length : Int)
        ·rw [if_pos c21] at H
         have c21b0 : decide (x38_2 < (l0.length : Int)) = true := decide_eq_true c21
         clear c21
         by_cases c22 : x38_2 < (l1.length : Int)
         ·rw [if_pos c22] at H
          have c22b0 : decide (x38_2 < (l1.length : Int)) = true := decide_eq_true c22
          clear c22
          by_cases c23 : (!(((rd_T31 l0 x38_2).f0) == ((rd_T31 l1 x38_2).f0)) || (!(((rd_T31 l0 x38_2).f1) == ((rd_T31 l1 x38_2).f1)) || (!(((rd_T31 l0 x38_2).f2) == ((rd_T31 l1 x38_2).f2)) || (!(((rd_T31 l0 x38_2).f5) == ((rd_T31 l1 x38_2).f5)))))) = true
          ·rw [if_pos c23] at H
           have c23b0 : (!(((rd_T31 l0 x38_2).f0) == ((rd_T31 l1 x38_2).f0)) || (!(((rd_T31 l0 x38_2).f1) == ((rd_T31 l1 x38_2).f1)) || (!(((rd_T31 l0 x38_2).f2) == ((rd_T31 l1 x38_2).f2)) || (!(((rd_T31 l0 x38_2).f5) == ((rd_T31 l1 x38_2).f5)))))) = true := c23
           clear c23
           simp only [Option.some.injEq, Prod.mk.injEq] at H
           obtain ⟨rfl, rfl⟩ := H
           have p203 : 0 ≤ (x38_2 : Int) := of_decide_eq_true (by first | (with_reducible assumption) | assumption)
           have q203 : x38_2 < (l0.length : Int) := of_decide_eq_true (by first | (with_reducible assumption) | assumption)
           obtain ⟨ad203, e203, hx203_0, hx203_1, hx203_2, hx203_3, hx203_4, hx203_5⟩ := at_T31 HR0.out x38_2 p203 q203
           cases e203
           replace hx203_0 := (HB.out.cell (World.block_lt_of_cell? w _ hx203_0)).trans hx203_0
           replace hx203_1 := (HB.out.cell (World.block_lt_of_cell? w _ hx203_1)).trans hx203_1
           replace hx203_2 := (HB.out.cell (World.block_lt_of_cell? w _ hx203_2)).trans hx203_2
           replace hx203_3 := (HB.out.cell (World.block_lt_of_cell? w _ hx203_3)).trans hx203_3
           replace hx203_4 := (HB.out.cell (World.block_lt_of_cell? w _ hx203_4)).trans hx203_4
           replace hx203_5 := (HB.out.cell (World.block_lt_of_cell? w _ hx203_5)).trans hx203_5
           replace p203 := eq_true p203
           replace q203 := eq_true q203
           try go_wp2_with (first | ((with_reducible refine gate_dst (N := 9) rfl ?_); (try (refine gate_guard (by rfl) ?_; dsimp only)); refine box_event ?hg (N := 9) ?hd (cs := #[.int .i64 0, .int .i64 0, .int .i64 0, .int .i64 0, .int .i64 0, .int .i64 0]) (t := 31) ?hr ?_; (case hd => rfl); (case hg => rfl); (case hr => first | (go_simp; done) | (go_simp; rfl)); intro gb204 hg w24 hbox hb; have n0_ := Aside0.mk (below_step (bel_ HB.out) hb); have n1_ := Aside0.mk (hbox); have n2_ := Aside0.mk ((by rw [hg]; exact (below_size (bel_ HB.out)) : w.heap.size ≤ gb204)); have n3_ := Aside0.mk ((by rw [hg]; exact (below_size (bel_ HB.out)) : w.heap.size ≤ gb204)); clear HB; have HB := n0_; have BK204 := n1_; have GW204 := n2_; have GE204 := n3_; clear n0_ n1_ n2_ n3_; clear hb hbox hg; have hcz25_0 : w24.cell? ⟨gb204, 0, none⟩ = some (.int .i64 0) := (blk_cell BK204.out 0).trans rfl; have hcz25_1 : w24.cell? ⟨gb204, 1, none⟩ = some (.int .i64 0) := (blk_cell BK204.out 1).trans rfl; have hcz25_2 : w24.cell? ⟨gb204, 2, none⟩ = some (.int .i64 0) := (blk_cell BK204.out 2).trans rfl; have hcz25_3 : w24.cell? ⟨gb204, 3, none⟩ = some (.int .i64 0) := (blk_cell BK204.out 3).trans rfl; have hcz25_4 : w24.cell? ⟨gb204, 4, none⟩ = some (.int .i64 0) := (blk_cell BK204.out 4).trans rfl; have hcz25_5 : w24.cell? ⟨gb204, 5, none⟩ = some (.int .i64 0) := (blk_cell BK204.out 5).trans rfl; have hfz25_0 := blk_frozen BK204.out 0; have hfz25_1 := blk_frozen BK204.out 1; have hfz25_2 := blk_frozen BK204.out 2; have hfz25_3 := blk_frozen BK204.out 3; have hfz25_4 := blk_frozen BK204.out 4; have hfz25_5 := blk_frozen BK204.out 5; have p205 : 0 ≤ (x38_2 : Int) := of_decide_eq_true (by first | (with_reducible assumption) | assumption); have q205 : x38_2 < (l1.length : Int) := of_decide_eq_true (by first | (with_reducible assumption) | assumption); obtain ⟨ad205, e205, hx205_0, hx205_1, hx205_2, hx205_3, hx205_4, hx205_5⟩ := at_T31 HR1.out x38_2 p205 q205; cases e205; have hn205_0 : ad205.block ≠ gb204 := Nat.ne_of_lt (Nat.lt_of_lt_of_le (by have := World.block_lt_of_cell? _ _ hx205_0; first | rwa [add_block] at this | exact this) GW204.out); have hn205_1 : ad205.block ≠ gb204 := Nat.ne_of_lt (Nat.lt_of_lt_of_le (by have := World.block_lt_of_cell? _ _ hx205_0; first | rwa [add_block] at this | exact this) GW204.out); have hn205_2 : ad205.block ≠ gb204 := Nat.ne_of_lt (Nat.lt_of_lt_of_le (by have := World.block_lt_of_cell? _ _ hx205_0; first | rwa [add_block] at this | exact this) GW204.out); have hn205_3 : ad205.block ≠ gb204 := Nat.ne_of_lt (Nat.lt_of_lt_of_le (by have := World.block_lt_of_cell? _ _ hx205_0; first | rwa [add_block] at this | exact this) GW204.out); have hn205_4 : ad205.block ≠ gb204 := Nat.ne_of_lt (Nat.lt_of_lt_of_le (by have := World.block_lt_of_cell? _ _ hx205_0; first | rwa [add_block] at this | exact this) GW204.out); have hn205_5 : ad205.block ≠ gb204 := Nat.ne_of_lt (Nat.lt_of_lt_of_le (by have := World.block_lt_of_cell? _ _ hx205_0; first | rwa [add_block] at this | exact this) GW204.out); replace hx205_0 := (HB.out.cell (World.block_lt_of_cell? w _ hx205_0)).trans hx205_0; replace hx205_1 := (HB.out.cell (World.block_lt_of_cell? w _ hx205_1)).trans hx205_1; replace hx205_2 := (HB.out.cell (World.block_lt_of_cell? w _ hx205_2)).trans hx205_2; replace hx205_3 := (HB.out.cell (World.block_lt_of_cell? w _ hx205_3)).trans hx205_3; replace hx205_4 := (HB.out.cell (World.block_lt_of_cell? w _ hx205_4)).trans hx205_4; replace hx205_5 := (HB.out.cell (World.block_lt_of_cell? w _ hx205_5)).trans hx205_5; replace hx205_0 := (cell_far (p := ⟨gb204, 0, none⟩) (by first | (rw [add_block]; exact hn205_0) | (show (Addr.add _ _).block ≠ _; rw [add_block]; exact hn205_0) | exact hn205_0) (.int .i64 ((rd_T31 l0 x38_2).f0))).trans hx205_0; replace hx205_1 := (cell_far (p := ⟨gb204, 0, none⟩) (by first | (rw [add_block]; exact hn205_0) | (show (Addr.add _ _).block ≠ _; rw [add_block]; exact hn205_0) | exact hn205_0) (.int .i64 ((rd_T31 l0 x38_2).f0))).trans hx205_1; replace hx205_2 := (cell_far (p := ⟨gb204, 0, none⟩) (by first | (rw [add_block]; exact hn205_0) | (show (Addr.add _ _).block ≠ _; rw [add_block]; exact hn205_0) | exact hn205_0) (.int .i64 ((rd_T31 l0 x38_2).f0))).trans hx205_2; replace hx205_3 := (cell_far (p := ⟨gb204, 0, none⟩) (by first | (rw [add_block]; exact hn205_0) | (show (Addr.add _ _).block ≠ _; rw [add_block]; exact hn205_0) | exact hn205_0) (.int .i64 ((rd_T31 l0 x38_2).f0))).trans hx205_3; replace hx205_4 := (cell_far (p := ⟨gb204, 0, none⟩) (by first | (rw [add_block]; exact hn205_0) | (show (Addr.add _ _).block ≠ _; rw [add_block]; exact hn205_0) | exact hn205_0) (.int .i64 ((rd_T31 l0 x38_2).f0))).trans hx205_4; replace hx205_5 := (cell_far (p := ⟨gb204, 0, none⟩) (by first | (rw [add_block]; exact hn205_0) | (show (Addr.add _ _).block ≠ _; rw [add_block]; exact hn205_0) | exact hn205_0) (.int .i64 ((rd_T31 l0 x38_2).f0))).trans hx205_5; replace hx205_0 := (cell_far (p := ⟨gb204, 1, none⟩) (by first | (rw [add_block]; exact hn205_1) | (show (Addr.add _ _).block ≠ _; rw [add_block]; exact hn205_1) | exact hn205_1) (.int .i64 ((rd_T31 l0 x38_2).f1))).trans hx205_0; replace hx205_1 := (cell_far (p := ⟨gb204, 1, none⟩) (by first | (rw [add_block]; exact hn205_1) | (show (Addr.add _ _).block ≠ _; rw [add_block]; exact hn205_1) | exact hn205_1) (.int .i64 ((rd_T31 l0 x38_2).f1))).trans hx205_1; replace hx205_2 := (cell_far (p := ⟨gb204, 1, none⟩) (by first | (rw [add_block]; exact hn205_1) | (show (Addr.add _ _).block ≠ _; rw [add_block]; exact hn205_1) | exact hn205_1) (.int .i64 ((rd_T31 l0 x38_2).f1))).trans hx205_2; replace hx205_3 := (cell_far (p := ⟨gb204, 1, none⟩) (by first | (rw [add_block]; exact hn205_1) | (show (Addr.add _ _).block ≠ _; rw [add_block]; exact hn205_1) | exact hn205_1) (.int .i64 ((rd_T31 l0 x38_2).f1))).trans hx205_3; replace hx205_4 := (cell_far (p := ⟨gb204, 1, none⟩) (by first | (rw [add_block]; exact hn205_1) | (show (Addr.add _ _).block ≠ _; rw [add_block]; exact hn205_1) | exact hn205_1) (.int .i64 ((rd_T31 l0 x38_2).f1))).trans hx205_4; replace hx205_5 := (cell_far (p := ⟨gb204, 1, none⟩) (by first | (rw [add_block]; exact hn205_1) | (show (Addr.add _ _).block ≠ _; rw [add_block]; exact hn205_1) | exact hn205_1) (.int .i64 ((rd_T31 l0 x38_2).f1))).trans hx205_5; replace hx205_0 := (cell_far (p := ⟨gb204, 2, none⟩) (by first | (rw [add_block]; exact hn205_2) | (show (Addr.add _ _).block ≠ _; rw [add_block]; exact hn205_2) | exact hn205_2) (.int .i64 ((rd_T31 l0 x38_2).f2))).trans hx205_0; replace hx205_1 := (cell_far (p := ⟨gb204, 2, none⟩) (by first | (rw [add_block]; exact hn205_2) | (show (Addr.add _ _).block ≠ _; rw [add_block]; exact hn205_2) | exact hn205_2) (.int .i64 ((rd_T31 l0 x38_2).f2))).trans hx205_1; replace hx205_2 := (cell_far (p := ⟨gb204, 2, none⟩) (by first | (rw [add_block]; exact hn205_2) | (show (Addr.add _ _).block ≠ _; rw [add_block]; exact hn205_2) | exact hn205_2) (.int .i64 ((rd_T31 l0 x38_2).f2))).trans hx205_2; replace hx205_3 := (cell_far (p := ⟨gb204, 2, none⟩) (by first | (rw [add_block]; exact hn205_2) | (show (Addr.add _ _).block ≠ _; rw [add_block]; exact hn205_2) | exact hn205_2) (.int .i64 ((rd_T31 l0 x38_2).f2))).trans hx205_3; replace hx205_4 := (cell_far (p := ⟨gb204, 2, none⟩) (by first | (rw [add_block]; exact hn205_2) | (show (Addr.add _ _).block ≠ _; rw [add_block]; exact hn205_2) | exact hn205_2) (.int .i64 ((rd_T31 l0 x38_2).f2))).trans hx205_4; replace hx205_5 := (cell_far (p := ⟨gb204, 2, none⟩) (by first | (rw [add_block]; exact hn205_2) | (show (Addr.add _ _).block ≠ _; rw [add_block]; exact hn205_2) | exact hn205_2) (.int .i64 ((rd_T31 l0 x38_2).f2))).trans hx205_5; replace hx205_0 := (cell_far (p := ⟨gb204, 3, none⟩) (by first | (rw [add_block]; exact hn205_3) | (show (Addr.add _ _).block ≠ _; rw [add_block]; exact hn205_3) | exact hn205_3) (.int .i64 ((rd_T31 l0 x38_2).f3))).trans hx205_0; replace hx205_1 := (cell_far (p := ⟨gb204, 3, none⟩) (by first | (rw [add_block]; exact hn205_3) | (show (Addr.add _ _).block ≠ _; rw [add_block]; exact hn205_3) | exact hn205_3) (.int .i64 ((rd_T31 l0 x38_2).f3))).trans hx205_1; replace hx205_2 := (cell_far (p := ⟨gb204, 3, none⟩) (by first | (rw [add_block]; exact hn205_3) | (show (Addr.add _ _).block ≠ _; rw [add_block]; exact hn205_3) | exact hn205_3) (.int .i64 ((rd_T31 l0 x38_2).f3))).trans hx205_2; replace hx205_3 := (cell_far (p := ⟨gb204, 3, none⟩) (by first | (rw [add_block]; exact hn205_3) | (show (Addr.add _ _).block ≠ _; rw [add_block]; exact hn205_3) | exact hn205_3) (.int .i64 ((rd_T31 l0 x38_2).f3))).trans hx205_3; replace hx205_4 := (cell_far (p := ⟨gb204, 3, none⟩) (by first | (rw [add_block]; exact hn205_3) | (show (Addr.add _ _).block ≠ _; rw [add_block]; exact hn205_3) | exact hn205_3) (.int .i64 ((rd_T31 l0 x38_2).f3))).trans hx205_4; replace hx205_5 := (cell_far (p := ⟨gb204, 3, none⟩) (by first | (rw [add_block]; exact hn205_3) | (show (Addr.add _ _).block ≠ _; rw [add_block]; exact hn205_3) | exact hn205_3) (.int .i64 ((rd_T31 l0 x38_2).f3))).trans hx205_5; replace hx205_0 := (cell_far (p := ⟨gb204, 4, none⟩) (by first | (rw [add_block]; exact hn205_4) | (show (Addr.add _ _).block ≠ _; rw [add_block]; exact hn205_4) | exact hn205_4) (.int .i64 ((rd_T31 l0 x38_2).f4))).trans hx205_0; replace hx205_1 := (cell_far (p := ⟨gb204, 4, none⟩) (by first | (rw [add_block]; exact hn205_4) | (show (Addr.add _ _).block ≠ _; rw [add_block]; exact hn205_4) | exact hn205_4) (.int .i64 ((rd_T31 l0 x38_2).f4))).trans hx205_1; replace hx205_2 := (cell_far (p := ⟨gb204, 4, none⟩) (by first | (rw [add_block]; exact hn205_4) | (show (Addr.add _ _).block ≠ _; rw [add_block]; exact hn205_4) | exact hn205_4) (.int .i64 ((rd_T31 l0 x38_2).f4))).trans hx205_2; replace hx205_3 := (cell_far (p := ⟨gb204, 4, none⟩) (by first | (rw [add_block]; exact hn205_4) | (show (Addr.add _ _).block ≠ _; rw [add_block]; exact hn205_4) | exact hn205_4) (.int .i64 ((rd_T31 l0 x38_2).f4))).trans hx205_3; replace hx205_4 := (cell_far (p := ⟨gb204, 4, none⟩) (by first | (rw [add_block]; exact hn205_4) | (show (Addr.add _ _).block ≠ _; rw [add_block]; exact hn205_4) | exact hn205_4) (.int .i64 ((rd_T31 l0 x38_2).f4))).trans hx205_4; replace hx205_5 := (cell_far (p := ⟨gb204, 4, none⟩) (by first | (rw [add_block]; exact hn205_4) | (show (Addr.add _ _).block ≠ _; rw [add_block]; exact hn205_4) | exact hn205_4) (.int .i64 ((rd_T31 l0 x38_2).f4))).trans hx205_5; replace hx205_0 := (cell_far (p := ⟨gb204, 5, none⟩) (by first | (rw [add_block]; exact hn205_5) | (show (Addr.add _ _).block ≠ _; rw [add_block]; exact hn205_5) | exact hn205_5) (.int .i64 ((rd_T31 l0 x38_2).f5))).trans hx205_0; replace hx205_1 := (cell_far (p := ⟨gb204, 5, none⟩) (by first | (rw [add_block]; exact hn205_5) | (show (Addr.add _ _).block ≠ _; rw [add_block]; exact hn205_5) | exact hn205_5) (.int .i64 ((rd_T31 l0 x38_2).f5))).trans hx205_1; replace hx205_2 := (cell_far (p := ⟨gb204, 5, none⟩) (by first | (rw [add_block]; exact hn205_5) | (show (Addr.add _ _).block ≠ _; rw [add_block]; exact hn205_5) | exact hn205_5) (.int .i64 ((rd_T31 l0 x38_2).f5))).trans hx205_2; replace hx205_3 := (cell_far (p := ⟨gb204, 5, none⟩) (by first | (rw [add_block]; exact hn205_5) | (show (Addr.add _ _).block ≠ _; rw [add_block]; exact hn205_5) | exact hn205_5) (.int .i64 ((rd_T31 l0 x38_2).f5))).trans hx205_3; replace hx205_4 := (cell_far (p := ⟨gb204, 5, none⟩) (by first | (rw [add_block]; exact hn205_5) | (show (Addr.add _ _).block ≠ _; rw [add_block]; exact hn205_5) | exact hn205_5) (.int .i64 ((rd_T31 l0 x38_2).f5))).trans hx205_4; replace hx205_5 := (cell_far (p := ⟨gb204, 5, none⟩) (by first | (rw [add_block]; exact hn205_5) | (show (Addr.add _ _).block ≠ _; rw [add_block]; exact hn205_5) | exact hn205_5) (.int .i64 ((rd_T31 l0 x38_2).f5))).trans hx205_5; clear hn205_0; clear hn205_1; clear hn205_2; clear hn205_3; clear hn205_4; clear hn205_5; replace p205 := eq_true p205; replace q205 := eq_true q205) | ((with_reducible refine gate_dst (N := 10) rfl ?_); (try (refine gate_guard (by rfl) ?_; dsimp only)); refine box_event ?hg (N := 10) ?hd (cs := #[.int .i64 0, .int .i64 0, .int .i64 0, .int .i64 0, .int .i64 0, .int .i64 0]) (t := 31) ?hr ?_; (case hd => rfl); (case hg => rfl); (case hr => first | (go_simp; done) | (go_simp; rfl)); intro gb206 hg w26 hbox hb; have n0_ := Aside0.mk (blk_below (g := gb204) (o := .cells #[.int .i64 ((rd_T31 l0 x38_2).f0), .int .i64 ((rd_T31 l0 x38_2).f1), .int .i64 ((rd_T31 l0 x38_2).f2), .int .i64 ((rd_T31 l0 x38_2).f3), .int .i64 ((rd_T31 l0 x38_2).f4), .int .i64 ((rd_T31 l0 x38_2).f5)] 31 (0, 0)) (by (with_reducible repeat (first | refine blk_drewN ?_ _ | refine blk_drew ?_ | refine blk_alloc ?_ _)); refine blk_put (cs := #[.int .i64 ((rd_T31 l0 x38_2).f0), .int .i64 ((rd_T31 l0 x38_2).f1), .int .i64 ((rd_T31 l0 x38_2).f2), .int .i64 ((rd_T31 l0 x38_2).f3), .int .i64 ((rd_T31 l0 x38_2).f4), .int .i64 0]) ?_ 5 _ rfl; (with_reducible repeat (first | refine blk_drewN ?_ _ | refine blk_drew ?_ | refine blk_alloc ?_ _)); refine blk_put (cs := #[.int .i64 ((rd_T31 l0 x38_2).f0), .int .i64 ((rd_T31 l0 x38_2).f1), .int .i64 ((rd_T31 l0 x38_2).f2), .int .i64 ((rd_T31 l0 x38_2).f3), .int .i64 0, .int .i64 0]) ?_ 4 _ rfl; (with_reducible repeat (first | refine blk_drewN ?_ _ | refine blk_drew ?_ | refine blk_alloc ?_ _)); refine blk_put (cs := #[.int .i64 ((rd_T31 l0 x38_2).f0), .int .i64 ((rd_T31 l0 x38_2).f1), .int .i64 ((rd_T31 l0 x38_2).f2), .int .i64 0, .int .i64 0, .int .i64 0]) ?_ 3 _ rfl; (with_reducible repeat (first | refine blk_drewN ?_ _ | refine blk_drew ?_ | refine blk_alloc ?_ _)); refine blk_put (cs := #[.int .i64 ((rd_T31 l0 x38_2).f0), .int .i64 ((rd_T31 l0 x38_2).f1), .int .i64 0, .int .i64 0, .int .i64 0, .int .i64 0]) ?_ 2 _ rfl; (with_reducible repeat (first | refine blk_drewN ?_ _ | refine blk_drew ?_ | refine blk_alloc ?_ _)); refine blk_put (cs := #[.int .i64 ((rd_T31 l0 x38_2).f0), .int .i64 0, .int .i64 0, .int .i64 0, .int .i64 0, .int .i64 0]) ?_ 1 _ rfl; (with_reducible repeat (first | refine blk_drewN ?_ _ | refine blk_drew ?_ | refine blk_alloc ?_ _)); refine blk_put (cs := #[.int .i64 0, .int .i64 0, .int .i64 0, .int .i64 0, .int .i64 0, .int .i64 0]) ?_ 0 _ rfl; (with_reducible repeat (first | refine blk_drewN ?_ _ | refine blk_drew ?_ | refine blk_alloc ?_ _)); exact BK204.out) hb); have n1_ := Aside0.mk (below_step (bel_ HB.out) hb); have n2_ := Aside0.mk (hbox); have n3_ := Aside0.mk ((by rw [hg]; exact (below_size (bel_ HB.out)) : w.heap.size ≤ gb206)); have n4_ := Aside0.mk ((by rw [hg]; exact (below_size (bel_ HB.out)) : w.heap.size ≤ gb206)); have n5_ := Aside0.mk ((by rw [hg]; exact Nat.ne_of_lt (blk_lt (g := gb204) (o := .cells #[.int .i64 ((rd_T31 l0 x38_2).f0), .int .i64 ((rd_T31 l0 x38_2).f1), .int .i64 ((rd_T31 l0 x38_2).f2), .int .i64 ((rd_T31 l0 x38_2).f3), .int .i64 ((rd_T31 l0 x38_2).f4), .int .i64 ((rd_T31 l0 x38_2).f5)] 31 (0, 0)) (by (with_reducible repeat (first | refine blk_drewN ?_ _ | refine blk_drew ?_ | refine blk_alloc ?_ _)); refine blk_put (cs := #[.int .i64 ((rd_T31 l0 x38_2).f0), .int .i64 ((rd_T31 l0 x38_2).f1), .int .i64 ((rd_T31 l0 x38_2).f2), .int .i64 ((rd_T31 l0 x38_2).f3), .int .i64 ((rd_T31 l0 x38_2).f4), .int .i64 0]) ?_ 5 _ rfl; (with_reducible repeat (first | refine blk_drewN ?_ _ | refine blk_drew ?_ | refine blk_alloc ?_ _)); refine blk_put (cs := #[.int .i64 ((rd_T31 l0 x38_2).f0), .int .i64 ((rd_T31 l0 x38_2).f1), .int .i64 ((rd_T31 l0 x38_2).f2), .int .i64 ((rd_T31 l0 x38_2).f3), .int .i64 0, .int .i64 0]) ?_ 4 _ rfl; (with_reducible repeat (first | refine blk_drewN ?_ _ | refine blk_drew ?_ | refine blk_alloc ?_ _)); refine blk_put (cs := #[.int .i64 ((rd_T31 l0 x38_2).f0), .int .i64 ((rd_T31 l0 x38_2).f1), .int .i64 ((rd_T31 l0 x38_2).f2), .int .i64 0, .int .i64 0, .int .i64 0]) ?_ 3 _ rfl; (with_reducible repeat (first | refine blk_drewN ?_ _ | refine blk_drew ?_ | refine blk_alloc ?_ _)); refine blk_put (cs := #[.int .i64 ((rd_T31 l0 x38_2).f0), .int .i64 ((rd_T31 l0 x38_2).f1), .int .i64 0, .int .i64 0, .int .i64 0, .int .i64 0]) ?_ 2 _ rfl; (with_reducible repeat (first | refine blk_drewN ?_ _ | refine blk_drew ?_ | refine blk_alloc ?_ _)); refine blk_put (cs := #[.int .i64 ((rd_T31 l0 x38_2).f0), .int .i64 0, .int .i64 0, .int .i64 0, .int .i64 0, .int .i64 0]) ?_ 1 _ rfl; (with_reducible repeat (first | refine blk_drewN ?_ _ | refine blk_drew ?_ | refine blk_alloc ?_ _)); refine blk_put (cs := #[.int .i64 0, .int .i64 0, .int .i64 0, .int .i64 0, .int .i64 0, .int .i64 0]) ?_ 0 _ rfl; (with_reducible repeat (first | refine blk_drewN ?_ _ | refine blk_drew ?_ | refine blk_alloc ?_ _)); exact BK204.out)) : gb204 ≠ gb206)); have n6_ := Aside0.mk ((by rw [hg]; exact Nat.ne_of_gt (blk_lt (g := gb204) (o := .cells #[.int .i64 ((rd_T31 l0 x38_2).f0), .int .i64 ((rd_T31 l0 x38_2).f1), .int .i64 ((rd_T31 l0 x38_2).f2), .int .i64 ((rd_T31 l0 x38_2).f3), .int .i64 ((rd_T31 l0 x38_2).f4), .int .i64 ((rd_T31 l0 x38_2).f5)] 31 (0, 0)) (by (with_reducible repeat (first | refine blk_drewN ?_ _ | refine blk_drew ?_ | refine blk_alloc ?_ _)); refine blk_put (cs := #[.int .i64 ((rd_T31 l0 x38_2).f0), .int .i64 ((rd_T31 l0 x38_2).f1), .int .i64 ((rd_T31 l0 x38_2).f2), .int .i64 ((rd_T31 l0 x38_2).f3), .int .i64 ((rd_T31 l0 x38_2).f4), .int .i64 0]) ?_ 5 _ rfl; (with_reducible repeat (first | refine blk_drewN ?_ _ | refine blk_drew ?_ | refine blk_alloc ?_ _)); refine blk_put (cs := #[.int .i64 ((rd_T31 l0 x38_2).f0), .int .i64 ((rd_T31 l0 x38_2).f1), .int .i64 ((rd_T31 l0 x38_2).f2), .int .i64 ((rd_T31 l0 x38_2).f3), .int .i64 0, .int .i64 0]) ?_ 4 _ rfl; (with_reducible repeat (first | refine blk_drewN ?_ _ | refine blk_drew ?_ | refine blk_alloc ?_ _)); refine blk_put (cs := #[.int .i64 ((rd_T31 l0 x38_2).f0), .int .i64 ((rd_T31 l0 x38_2).f1), .int .i64 ((rd_T31 l0 x38_2).f2), .int .i64 0, .int .i64 0, .int .i64 0]) ?_ 3 _ rfl; (with_reducible repeat (first | refine blk_drewN ?_ _ | refine blk_drew ?_ | refine blk_alloc ?_ _)); refine blk_put (cs := #[.int .i64 ((rd_T31 l0 x38_2).f0), .int .i64 ((rd_T31 l0 x38_2).f1), .int .i64 0, .int .i64 0, .int .i64 0, .int .i64 0]) ?_ 2 _ rfl; (with_reducible repeat (first | refine blk_drewN ?_ _ | refine blk_drew ?_ | refine blk_alloc ?_ _)); refine blk_put (cs := #[.int .i64 ((rd_T31 l0 x38_2).f0), .int .i64 0, .int .i64 0, .int .i64 0, .int .i64 0, .int .i64 0]) ?_ 1 _ rfl; (with_reducible repeat (first | refine blk_drewN ?_ _ | refine blk_drew ?_ | refine blk_alloc ?_ _)); refine blk_put (cs := #[.int .i64 0, .int .i64 0, .int .i64 0, .int .i64 0, .int .i64 0, .int .i64 0]) ?_ 0 _ rfl; (with_reducible repeat (first | refine blk_drewN ?_ _ | refine blk_drew ?_ | refine blk_alloc ?_ _)); exact BK204.out)) : gb206 ≠ gb204)); clear BK204; clear HB; have BK204 := n0_; have HB := n1_; have BK206 := n2_; have GW206 := n3_; have GE206 := n4_; have NB204_206 := n5_; have NB206_204 := n6_; clear n0_ n1_ n2_ n3_ n4_ n5_ n6_; clear hb hbox hg; have hnb27 := NB206_204.out; have hnc27 := NB204_206.out; have hcz28_0 : w26.cell? ⟨gb206, 0, none⟩ = some (.int .i64 0) := (blk_cell BK206.out 0).trans rfl; have hcz28_1 : w26.cell? ⟨gb206, 1, none⟩ = some (.int .i64 0) := (blk_cell BK206.out 1).trans rfl; have hcz28_2 : w26.cell? ⟨gb206, 2, none⟩ = some (.int .i64 0) := (blk_cell BK206.out 2).trans rfl; have hcz28_3 : w26.cell? ⟨gb206, 3, none⟩ = some (.int .i64 0) := (blk_cell BK206.out 3).trans rfl; have hcz28_4 : w26.cell? ⟨gb206, 4, none⟩ = some (.int .i64 0) := (blk_cell BK206.out 4).trans rfl; have hcz28_5 : w26.cell? ⟨gb206, 5, none⟩ = some (.int .i64 0) := (blk_cell BK206.out 5).trans rfl; have hfz28_0 := blk_frozen BK206.out 0; have hfz28_1 := blk_frozen BK206.out 1; have hfz28_2 := blk_frozen BK206.out 2; have hfz28_3 := blk_frozen BK206.out 3; have hfz28_4 := blk_frozen BK206.out 4; have hfz28_5 := blk_frozen BK206.out 5))
           have n0_ : Aside0 (((((((w26.setCell ⟨gb206, 0, none⟩ (.int .i64 ((rd_T31 l1 x38_2).f0))).setCell ⟨gb206, 1, none⟩ (.int .i64 ((rd_T31 l1 x38_2).f1))).setCell ⟨gb206, 2, none⟩ (.int .i64 ((rd_T31 l1 x38_2).f2))).setCell ⟨gb206, 3, none⟩ (.int .i64 ((rd_T31 l1 x38_2).f3))).setCell ⟨gb206, 4, none⟩ (.int .i64 ((rd_T31 l1 x38_2).f4))).setCell ⟨gb206, 5, none⟩ (.int .i64 ((rd_T31 l1 x38_2).f5))).heap[gb204]? = some (.cells #[.int .i64 ((rd_T31 l0 x38_2).f0), .int .i64 ((rd_T31 l0 x38_2).f1), .int .i64 ((rd_T31 l0 x38_2).f2), .int .i64 ((rd_T31 l0 x38_2).f3), .int .i64 ((rd_T31 l0 x38_2).f4), .int .i64 ((rd_T31 l0 x38_2).f5)] 31 (0, 0))) := ⟨by (with_reducible repeat (first | refine blk_drewN ?_ _ | refine blk_drew ?_ | refine blk_alloc ?_ _)); refine blk_far ?_ NB204_206.out _; (with_reducible repeat (first | refine blk_drewN ?_ _ | refine blk_drew ?_ | refine blk_alloc ?_ _)); refine blk_far ?_ NB204_206.out _; (with_reducible repeat (first | refine blk_drewN ?_ _ | refine blk_drew ?_ | refine blk_alloc ?_ _)); refine blk_far ?_ NB204_206.out _; (with_reducible repeat (first | refine blk_drewN ?_ _ | refine blk_drew ?_ | refine blk_alloc ?_ _)); refine blk_far ?_ NB204_206.out _; (with_reducible repeat (first | refine blk_drewN ?_ _ | refine blk_drew ?_ | refine blk_alloc ?_ _)); refine blk_far ?_ NB204_206.out _; (with_reducible repeat (first | refine blk_drewN ?_ _ | refine blk_drew ?_ | refine blk_alloc ?_ _)); refine blk_far ?_ NB204_206.out _; (with_reducible repeat (first | refine blk_drewN ?_ _ | refine blk_drew ?_ | refine blk_alloc ?_ _)); exact BK204.out⟩
           have n1_ : Aside0 (((((((w26.setCell ⟨gb206, 0, none⟩ (.int .i64 ((rd_T31 l1 x38_2).f0))).setCell ⟨gb206, 1, none⟩ (.int .i64 ((rd_T31 l1 x38_2).f1))).setCell ⟨gb206, 2, none⟩ (.int .i64 ((rd_T31 l1 x38_2).f2))).setCell ⟨gb206, 3, none⟩ (.int .i64 ((rd_T31 l1 x38_2).f3))).setCell ⟨gb206, 4, none⟩ (.int .i64 ((rd_T31 l1 x38_2).f4))).setCell ⟨gb206, 5, none⟩ (.int .i64 ((rd_T31 l1 x38_2).f5))).heap[gb206]? = some (.cells #[.int .i64 ((rd_T31 l1 x38_2).f0), .int .i64 ((rd_T31 l1 x38_2).f1), .int .i64 ((rd_T31 l1 x38_2).f2), .int .i64 ((rd_T31 l1 x38_2).f3), .int .i64 ((rd_T31 l1 x38_2).f4), .int .i64 ((rd_T31 l1 x38_2).f5)] 31 (0, 0))) := ⟨by (with_reducible repeat (first | refine blk_drewN ?_ _ | refine blk_drew ?_ | refine blk_alloc ?_ _)); refine blk_put (cs := #[.int .i64 ((rd_T31 l1 x38_2).f0), .int .i64 ((rd_T31 l1 x38_2).f1), .int .i64 ((rd_T31 l1 x38_2).f2), .int .i64 ((rd_T31 l1 x38_2).f3), .int .i64 ((rd_T31 l1 x38_2).f4), .int .i64 0]) ?_ 5 _ rfl; (with_reducible repeat (first | refine blk_drewN ?_ _ | refine blk_drew ?_ | refine blk_alloc ?_ _)); refine blk_put (cs := #[.int .i64 ((rd_T31 l1 x38_2).f0), .int .i64 ((rd_T31 l1 x38_2).f1), .int .i64 ((rd_T31 l1 x38_2).f2), .int .i64 ((rd_T31 l1 x38_2).f3), .int .i64 0, .int .i64 0]) ?_ 4 _ rfl; (with_reducible repeat (first | refine blk_drewN ?_ _ | refine blk_drew ?_ | refine blk_alloc ?_ _)); refine blk_put (cs := #[.int .i64 ((rd_T31 l1 x38_2).f0), .int .i64 ((rd_T31 l1 x38_2).f1), .int .i64 ((rd_T31 l1 x38_2).f2), .int .i64 0, .int .i64 0, .int .i64 0]) ?_ 3 _ rfl; (with_reducible repeat (first | refine blk_drewN ?_ _ | refine blk_drew ?_ | refine blk_alloc ?_ _)); refine blk_put (cs := #[.int .i64 ((rd_T31 l1 x38_2).f0), .int .i64 ((rd_T31 l1 x38_2).f1), .int .i64 0, .int .i64 0, .int .i64 0, .int .i64 0]) ?_ 2 _ rfl; (with_reducible repeat (first | refine blk_drewN ?_ _ | refine blk_drew ?_ | refine blk_alloc ?_ _)); refine blk_put (cs := #[.int .i64 ((rd_T31 l1 x38_2).f0), .int .i64 0, .int .i64 0, .int .i64 0, .int .i64 0, .int .i64 0]) ?_ 1 _ rfl; (with_reducible repeat (first | refine blk_drewN ?_ _ | refine blk_drew ?_ | refine blk_alloc ?_ _)); refine blk_put (cs := #[.int .i64 0, .int .i64 0, .int .i64 0, .int .i64 0, .int .i64 0, .int .i64 0]) ?_ 0 _ rfl; (with_reducible repeat (first | refine blk_drewN ?_ _ | refine blk_drew ?_ | refine blk_alloc ?_ _)); exact BK206.out⟩
           have n2_ : Aside0 (Below w.heap.size w ((((((w26.setCell ⟨gb206, 0, none⟩ (.int .i64 ((rd_T31 l1 x38_2).f0))).setCell ⟨gb206, 1, none⟩ (.int .i64 ((rd_T31 l1 x38_2).f1))).setCell ⟨gb206, 2, none⟩ (.int .i64 ((rd_T31 l1 x38_2).f2))).setCell ⟨gb206, 3, none⟩ (.int .i64 ((rd_T31 l1 x38_2).f3))).setCell ⟨gb206, 4, none⟩ (.int .i64 ((rd_T31 l1 x38_2).f4))).setCell ⟨gb206, 5, none⟩ (.int .i64 ((rd_T31 l1 x38_2).f5)))) := ⟨bel_ HB.out⟩
           (try clear BK204)
           (try clear BK206)
           (try clear HB)
           generalize ((((((w26.setCell ⟨gb206, 0, none⟩ (.int .i64 ((rd_T31 l1 x38_2).f0))).setCell ⟨gb206, 1, none⟩ (.int .i64 ((rd_T31 l1 x38_2).f1))).setCell ⟨gb206, 2, none⟩ (.int .i64 ((rd_T31 l1 x38_2).f2))).setCell ⟨gb206, 3, none⟩ (.int .i64 ((rd_T31 l1 x38_2).f3))).setCell ⟨gb206, 4, none⟩ (.int .i64 ((rd_T31 l1 x38_2).f4))).setCell ⟨gb206, 5, none⟩ (.int .i64 ((rd_T31 l1 x38_2).f5))) = w29 at n0_ n1_ n2_ ⊢
           have BK204 := n0_
           have BK206 := n1_
           have HB := n2_
           clear n0_ n1_ n2_
           have n0_ := Aside0.mk (blk_drew BK204.out)
           have n1_ := Aside0.mk (blk_drew BK206.out)
           have n2_ := Aside0.mk (below_drew1 HB.out)
           clear BK204
           clear BK206
           clear HB
           have BK204 := n0_
           have BK206 := n1_
           have HB := n2_
           clear n0_ n1_ n2_
           refine start_ (n := 8) (S := fun w' => w'.cell? ⟨gb206, 0, none⟩ = some (.int .i64 ((rd_T31 l1 x38_2).f0)) ∧ w'.cell? ⟨gb206, 1, none⟩ = some (.int .i64 ((rd_T31 l1 x38_2).f1)) ∧ w'.cell? ⟨gb206, 2, none⟩ = some (.int .i64 ((rd_T31 l1 x38_2).f2)) ∧ w'.cell? ⟨gb206, 3, none⟩ = some (.int .i64 ((rd_T31 l1 x38_2).f3)) ∧ w'.cell? ⟨gb206, 4, none⟩ = some (.int .i64 ((rd_T31 l1 x38_2).f4)) ∧ w'.cell? ⟨gb206, 5, none⟩ = some (.int .i64 ((rd_T31 l1 x38_2).f5))) (ds := []) (bs 8 0) (by kernel_rfl) rfl rfl ⟨(blk_cell BK206.out 0).trans rfl, (blk_cell BK206.out 1).trans rfl, (blk_cell BK206.out 2).trans rfl, (blk_cell BK206.out 3).trans rfl, (blk_cell BK206.out 4).trans rfl, (blk_cell BK206.out 5).trans rfl⟩ (fun hHeld => ?_); refine with_tabW impl_Missed.tab7 impl_Missed.bits7 (fun HT_ HW_ => ?_)
           generalize w29.drew = w30 at BK204 BK206 HB hHeld ⊢
           refine pu_ 0 47 HT_ (bs 8 1) rfl rfl ?_
           refine pu_ 2 49 HT_ (bs 8 5) rfl rfl ?_
           refine take_ (i := 1) (N := some 48) (v := ?_) (a' := ?_) (bs 8 7) rfl rfl (take_ofW HT_.out HW_.out (by kernel_rfl)) (fun _ _ _ h => h) (Or.inl ⟨by rfl, ?_⟩) hHeld ?_ ?_
           rotate_left
           ·rintro w' ⟨s0, s1, s2, s3, s4, s5⟩
            go_simp
            with_reducible rfl
           rotate_left
           ·simp only [Act.put, sA_, sZ_, sS_, i64_w, i32_w]
            rfl
           refine pu_ 4 51 HT_ (bs 8 23) rfl rfl ?_
           refine take_ (i := 3) (N := some 50) (v := ?_) (a' := ?_) (bs 8 31) rfl rfl (take_ofW HT_.out HW_.out (by kernel_rfl)) (fun _ _ _ h => h) (Or.inl ⟨by rfl, ?_⟩) hHeld ?_ ?_
           rotate_left
           ·rintro w' ⟨s0, s1, s2, s3, s4, s5⟩
            go_simp
            with_reducible rfl
           rotate_left
           ·simp only [Act.put, sA_, sZ_, sS_, i64_w, i32_w]
            rfl
           refine one_ (i := 5) (N := none) (bs 8 63) rfl rfl (one_of HT_.out (by kernel_rfl)) (by decide) (fun K hK => ?_)
           have hs31 : w30.cell? ⟨gb204, 3, none⟩ = some (.int .i64 ((rd_T31 l0 x38_2).f3)) := (blk_cell BK204.out 3).trans rfl
           have hfs31 := blk_frozen BK204.out 3
           have hns31_1 := NB206_204.out
           have hms31_1 := NB204_206.out
           refine skip_ (w1 := ?_) (by rfl) rfl ?_ ?_
           rotate_left
           ·go_simp
            rfl
           refine hK.out _ _ ⟨((cell_far (p := ⟨gb204, _, none⟩) NB206_204.out _).trans (hHeld.1)), ((cell_far (p := ⟨gb204, _, none⟩) NB206_204.out _).trans (hHeld.2.1)), ((cell_far (p := ⟨gb204, _, none⟩) NB206_204.out _).trans (hHeld.2.2.1)), ((cell_far (p := ⟨gb204, _, none⟩) NB206_204.out _).trans (hHeld.2.2.2.1)), ((cell_far (p := ⟨gb204, _, none⟩) NB206_204.out _).trans (hHeld.2.2.2.2.1)), ((cell_far (p := ⟨gb204, _, none⟩) NB206_204.out _).trans (hHeld.2.2.2.2.2))⟩ (fun hHeld => ?_)
           clear hK K
           refine pu_ 6 52 HT_ (bs 8 127) rfl rfl ?_
           refine one_ (i := 7) (N := none) (bs 8 255) rfl rfl (one_of HT_.out (by kernel_rfl)) (by decide) (fun K hK => ?_)
           have hs32 : w30.cell? ⟨gb204, 4, none⟩ = some (.int .i64 ((rd_T31 l0 x38_2).f4)) := (blk_cell BK204.out 4).trans rfl
           have hfs32 := blk_frozen BK204.out 4
           have hns32_1 := NB206_204.out
           have hms32_1 := NB204_206.out
           refine skip_ (w1 := ?_) (by rfl) rfl ?_ ?_
           rotate_left
           ·go_simp
            rfl
           refine hK.out _ _ ⟨((cell_far (p := ⟨gb204, _, none⟩) NB206_204.out _).trans (hHeld.1)), ((cell_far (p := ⟨gb204, _, none⟩) NB206_204.out _).trans (hHeld.2.1)), ((cell_far (p := ⟨gb204, _, none⟩) NB206_204.out _).trans (hHeld.2.2.1)), ((cell_far (p := ⟨gb204, _, none⟩) NB206_204.out _).trans (hHeld.2.2.2.1)), ((cell_far (p := ⟨gb204, _, none⟩) NB206_204.out _).trans (hHeld.2.2.2.2.1)), ((cell_far (p := ⟨gb204, _, none⟩) NB206_204.out _).trans (hHeld.2.2.2.2.2))⟩ (fun hHeld => ?_)
           clear hK K
           refine done_ (done_of HT_.out (by kernel_rfl)) ?_
           have hcz33_0 : w30.cell? ⟨gb204, 0, none⟩ = some (.int .i64 ((rd_T31 l0 x38_2).f0)) := (blk_cell BK204.out 0).trans rfl
           have hcz33_1 : w30.cell? ⟨gb204, 1, none⟩ = some (.int .i64 ((rd_T31 l0 x38_2).f1)) := (blk_cell BK204.out 1).trans rfl
           have hcz33_2 : w30.cell? ⟨gb204, 2, none⟩ = some (.int .i64 ((rd_T31 l0 x38_2).f2)) := (blk_cell BK204.out 2).trans rfl
           have hcz33_3 : w30.cell? ⟨gb204, 3, none⟩ = some (.int .i64 ((rd_T31 l0 x38_2).f3)) := (blk_cell BK204.out 3).trans rfl
           have hcz33_4 : w30.cell? ⟨gb204, 4, none⟩ = some (.int .i64 ((rd_T31 l0 x38_2).f4)) := (blk_cell BK204.out 4).trans rfl
           have hcz33_5 : w30.cell? ⟨gb204, 5, none⟩ = some (.int .i64 ((rd_T31 l0 x38_2).f5)) := (blk_cell BK204.out 5).trans rfl
           have hfz33_0 := blk_frozen BK204.out 0
           have hfz33_1 := blk_frozen BK204.out 1
           have hfz33_2 := blk_frozen BK204.out 2
           have hfz33_3 := blk_frozen BK204.out 3
           have hfz33_4 := blk_frozen BK204.out 4
           have hfz33_5 := blk_frozen BK204.out 5
           have hcz34_0 : w30.cell? ⟨gb206, 0, none⟩ = some (.int .i64 ((rd_T31 l1 x38_2).f0)) := (blk_cell BK206.out 0).trans rfl
           have hcz34_1 : w30.cell? ⟨gb206, 1, none⟩ = some (.int .i64 ((rd_T31 l1 x38_2).f1)) := (blk_cell BK206.out 1).trans rfl
           have hcz34_2 : w30.cell? ⟨gb206, 2, none⟩ = some (.int .i64 ((rd_T31 l1 x38_2).f2)) := (blk_cell BK206.out 2).trans rfl
           have hcz34_3 : w30.cell? ⟨gb206, 3, none⟩ = some (.int .i64 ((rd_T31 l1 x38_2).f3)) := (blk_cell BK206.out 3).trans rfl
           have hcz34_4 : w30.cell? ⟨gb206, 4, none⟩ = some (.int .i64 ((rd_T31 l1 x38_2).f4)) := (blk_cell BK206.out 4).trans rfl
           have hcz34_5 : w30.cell? ⟨gb206, 5, none⟩ = some (.int .i64 ((rd_T31 l1 x38_2).f5)) := (blk_cell BK206.out 5).trans rfl
           have hfz34_0 := blk_frozen BK206.out 0
           have hfz34_1 := blk_frozen BK206.out 1
           have hfz34_2 := blk_frozen BK206.out 2
           have hfz34_3 := blk_frozen BK206.out 3
           have hfz34_4 := blk_frozen BK206.out 4
           have hfz34_5 := blk_frozen BK206.out 5
           try go_wp2
           go_ret2
           exact ⟨_, by first | rfl | (simp [errW_none, errW_some] <;> rfl) | (simp [*, errW_none, errW_some] <;> rfl), by first | exact Kd.R_nil _ _ _ _ _ | exact Kd.N_nil _ _ _ _ _ | exact Kd.V_nil _ _ _ _ _ | exact Kd.Q_nil _ _ _ _ _ | exact Kd.S_nil _ _ _ _ _, bel_ HB.out⟩
          ·rw [if_neg c23] at H
           have c23b0 : (!(((rd_T31 l0 x38_2).f0) == ((rd_T31 l1 x38_2).f0)) || (!(((rd_T31 l0 x38_2).f1) == ((rd_T31 l1 x38_2).f1)) || (!(((rd_T31 l0 x38_2).f2) == ((rd_T31 l1 x38_2).f2)) || (!(((rd_T31 l0 x38_2).f5) == ((rd_T31 l1 x38_2).f5)))))) = false := by simpa using c23
           clear c23
           have H' := Aside0.mk H
           clear H
           have p203 : 0 ≤ (x38_2 : Int) := of_decide_eq_true (by first | (with_reducible assumption) | assumption)
           have q203 : x38_2 < (l0.length : Int) := of_decide_eq_true (by first | (with_reducible assumption) | assumption)
           obtain ⟨ad203, e203, hx203_0, hx203_1, hx203_2, hx203_3, hx203_4, hx203_5⟩ := at_T31 HR0.out x38_2 p203 q203
           cases e203
           replace hx203_0 := (HB.out.cell (World.block_lt_of_cell? w _ hx203_0)).trans hx203_0
           replace hx203_1 := (HB.out.cell (World.block_lt_of_cell? w _ hx203_1)).trans hx203_1
           replace hx203_2 := (HB.out.cell (World.block_lt_of_cell? w _ hx203_2)).trans hx203_2
           replace hx203_3 := (HB.out.cell (World.block_lt_of_cell? w _ hx203_3)).trans hx203_3
           replace hx203_4 := (HB.out.cell (World.block_lt_of_cell? w _ hx203_4)).trans hx203_4
           replace hx203_5 := (HB.out.cell (World.block_lt_of_cell? w _ hx203_5)).trans hx203_5
           replace p203 := eq_true p203
           replace q203 := eq_true q203
           try go_wp2_with (first | ((with_reducible refine gate_dst (N := 9) rfl ?_); (try (refine gate_guard (by rfl) ?_; dsimp only)); refine box_event ?hg (N := 9) ?hd (cs := #[.int .i64 0, .int .i64 0, .int .i64 0, .int .i64 0, .int .i64 0, .int .i64 0]) (t := 31) ?hr ?_; (case hd => rfl); (case hg => rfl); (case hr => first | (go_simp; done) | (go_simp; rfl)); intro gb204 hg w35 hbox hb; have n0_ := Aside0.mk (below_step (bel_ HB.out) hb); have n1_ := Aside0.mk (hbox); have n2_ := Aside0.mk ((by rw [hg]; exact (below_size (bel_ HB.out)) : w.heap.size ≤ gb204)); have n3_ := Aside0.mk ((by rw [hg]; exact (below_size (bel_ HB.out)) : w.heap.size ≤ gb204)); clear HB; have HB := n0_; have BK204 := n1_; have GW204 := n2_; have GE204 := n3_; clear n0_ n1_ n2_ n3_; clear hb hbox hg; have hcz36_0 : w35.cell? ⟨gb204, 0, none⟩ = some (.int .i64 0) := (blk_cell BK204.out 0).trans rfl; have hcz36_1 : w35.cell? ⟨gb204, 1, none⟩ = some (.int .i64 0) := (blk_cell BK204.out 1).trans rfl; have hcz36_2 : w35.cell? ⟨gb204, 2, none⟩ = some (.int .i64 0) := (blk_cell BK204.out 2).trans rfl; have hcz36_3 : w35.cell? ⟨gb204, 3, none⟩ = some (.int .i64 0) := (blk_cell BK204.out 3).trans rfl; have hcz36_4 : w35.cell? ⟨gb204, 4, none⟩ = some (.int .i64 0) := (blk_cell BK204.out 4).trans rfl; have hcz36_5 : w35.cell? ⟨gb204, 5, none⟩ = some (.int .i64 0) := (blk_cell BK204.out 5).trans rfl; have hfz36_0 := blk_frozen BK204.out 0; have hfz36_1 := blk_frozen BK204.out 1; have hfz36_2 := blk_frozen BK204.out 2; have hfz36_3 := blk_frozen BK204.out 3; have hfz36_4 := blk_frozen BK204.out 4; have hfz36_5 := blk_frozen BK204.out 5; have p205 : 0 ≤ (x38_2 : Int) := of_decide_eq_true (by first | (with_reducible assumption) | assumption); have q205 : x38_2 < (l1.length : Int) := of_decide_eq_true (by first | (with_reducible assumption) | assumption); obtain ⟨ad205, e205, hx205_0, hx205_1, hx205_2, hx205_3, hx205_4, hx205_5⟩ := at_T31 HR1.out x38_2 p205 q205; cases e205; have hn205_0 : ad205.block ≠ gb204 := Nat.ne_of_lt (Nat.lt_of_lt_of_le (by have := World.block_lt_of_cell? _ _ hx205_0; first | rwa [add_block] at this | exact this) GW204.out); have hn205_1 : ad205.block ≠ gb204 := Nat.ne_of_lt (Nat.lt_of_lt_of_le (by have := World.block_lt_of_cell? _ _ hx205_0; first | rwa [add_block] at this | exact this) GW204.out); have hn205_2 : ad205.block ≠ gb204 := Nat.ne_of_lt (Nat.lt_of_lt_of_le (by have := World.block_lt_of_cell? _ _ hx205_0; first | rwa [add_block] at this | exact this) GW204.out); have hn205_3 : ad205.block ≠ gb204 := Nat.ne_of_lt (Nat.lt_of_lt_of_le (by have := World.block_lt_of_cell? _ _ hx205_0; first | rwa [add_block] at this | exact this) GW204.out); have hn205_4 : ad205.block ≠ gb204 := Nat.ne_of_lt (Nat.lt_of_lt_of_le (by have := World.block_lt_of_cell? _ _ hx205_0; first | rwa [add_block] at this | exact this) GW204.out); have hn205_5 : ad205.block ≠ gb204 := Nat.ne_of_lt (Nat.lt_of_lt_of_le (by have := World.block_lt_of_cell? _ _ hx205_0; first | rwa [add_block] at this | exact this) GW204.out); replace hx205_0 := (HB.out.cell (World.block_lt_of_cell? w _ hx205_0)).trans hx205_0; replace hx205_1 := (HB.out.cell (World.block_lt_of_cell? w _ hx205_1)).trans hx205_1; replace hx205_2 := (HB.out.cell (World.block_lt_of_cell? w _ hx205_2)).trans hx205_2; replace hx205_3 := (HB.out.cell (World.block_lt_of_cell? w _ hx205_3)).trans hx205_3; replace hx205_4 := (HB.out.cell (World.block_lt_of_cell? w _ hx205_4)).trans hx205_4; replace hx205_5 := (HB.out.cell (World.block_lt_of_cell? w _ hx205_5)).trans hx205_5; replace hx205_0 := (cell_far (p := ⟨gb204, 0, none⟩) (by first | (rw [add_block]; exact hn205_0) | (show (Addr.add _ _).block ≠ _; rw [add_block]; exact hn205_0) | exact hn205_0) (.int .i64 ((rd_T31 l0 x38_2).f0))).trans hx205_0; replace hx205_1 := (cell_far (p := ⟨gb204, 0, none⟩) (by first | (rw [add_block]; exact hn205_0) | (show (Addr.add _ _).block ≠ _; rw [add_block]; exact hn205_0) | exact hn205_0) (.int .i64 ((rd_T31 l0 x38_2).f0))).trans hx205_1; replace hx205_2 := (cell_far (p := ⟨gb204, 0, none⟩) (by first | (rw [add_block]; exact hn205_0) | (show (Addr.add _ _).block ≠ _; rw [add_block]; exact hn205_0) | exact hn205_0) (.int .i64 ((rd_T31 l0 x38_2).f0))).trans hx205_2; replace hx205_3 := (cell_far (p := ⟨gb204, 0, none⟩) (by first | (rw [add_block]; exact hn205_0) | (show (Addr.add _ _).block ≠ _; rw [add_block]; exact hn205_0) | exact hn205_0) (.int .i64 ((rd_T31 l0 x38_2).f0))).trans hx205_3; replace hx205_4 := (cell_far (p := ⟨gb204, 0, none⟩) (by first | (rw [add_block]; exact hn205_0) | (show (Addr.add _ _).block ≠ _; rw [add_block]; exact hn205_0) | exact hn205_0) (.int .i64 ((rd_T31 l0 x38_2).f0))).trans hx205_4; replace hx205_5 := (cell_far (p := ⟨gb204, 0, none⟩) (by first | (rw [add_block]; exact hn205_0) | (show (Addr.add _ _).block ≠ _; rw [add_block]; exact hn205_0) | exact hn205_0) (.int .i64 ((rd_T31 l0 x38_2).f0))).trans hx205_5; replace hx205_0 := (cell_far (p := ⟨gb204, 1, none⟩) (by first | (rw [add_block]; exact hn205_1) | (show (Addr.add _ _).block ≠ _; rw [add_block]; exact hn205_1) | exact hn205_1) (.int .i64 ((rd_T31 l0 x38_2).f1))).trans hx205_0; replace hx205_1 := (cell_far (p := ⟨gb204, 1, none⟩) (by first | (rw [add_block]; exact hn205_1) | (show (Addr.add _ _).block ≠ _; rw [add_block]; exact hn205_1) | exact hn205_1) (.int .i64 ((rd_T31 l0 x38_2).f1))).trans hx205_1; replace hx205_2 := (cell_far (p := ⟨gb204, 1, none⟩) (by first | (rw [add_block]; exact hn205_1) | (show (Addr.add _ _).block ≠ _; rw [add_block]; exact hn205_1) | exact hn205_1) (.int .i64 ((rd_T31 l0 x38_2).f1))).trans hx205_2; replace hx205_3 := (cell_far (p := ⟨gb204, 1, none⟩) (by first | (rw [add_block]; exact hn205_1) | (show (Addr.add _ _).block ≠ _; rw [add_block]; exact hn205_1) | exact hn205_1) (.int .i64 ((rd_T31 l0 x38_2).f1))).trans hx205_3; replace hx205_4 := (cell_far (p := ⟨gb204, 1, none⟩) (by first | (rw [add_block]; exact hn205_1) | (show (Addr.add _ _).block ≠ _; rw [add_block]; exact hn205_1) | exact hn205_1) (.int .i64 ((rd_T31 l0 x38_2).f1))).trans hx205_4; replace hx205_5 := (cell_far (p := ⟨gb204, 1, none⟩) (by first | (rw [add_block]; exact hn205_1) | (show (Addr.add _ _).block ≠ _; rw [add_block]; exact hn205_1) | exact hn205_1) (.int .i64 ((rd_T31 l0 x38_2).f1))).trans hx205_5; replace hx205_0 := (cell_far (p := ⟨gb204, 2, none⟩) (by first | (rw [add_block]; exact hn205_2) | (show (Addr.add _ _).block ≠ _; rw [add_block]; exact hn205_2) | exact hn205_2) (.int .i64 ((rd_T31 l0 x38_2).f2))).trans hx205_0; replace hx205_1 := (cell_far (p := ⟨gb204, 2, none⟩) (by first | (rw [add_block]; exact hn205_2) | (show (Addr.add _ _).block ≠ _; rw [add_block]; exact hn205_2) | exact hn205_2) (.int .i64 ((rd_T31 l0 x38_2).f2))).trans hx205_1; replace hx205_2 := (cell_far (p := ⟨gb204, 2, none⟩) (by first | (rw [add_block]; exact hn205_2) | (show (Addr.add _ _).block ≠ _; rw [add_block]; exact hn205_2) | exact hn205_2) (.int .i64 ((rd_T31 l0 x38_2).f2))).trans hx205_2; replace hx205_3 := (cell_far (p := ⟨gb204, 2, none⟩) (by first | (rw [add_block]; exact hn205_2) | (show (Addr.add _ _).block ≠ _; rw [add_block]; exact hn205_2) | exact hn205_2) (.int .i64 ((rd_T31 l0 x38_2).f2))).trans hx205_3; replace hx205_4 := (cell_far (p := ⟨gb204, 2, none⟩) (by first | (rw [add_block]; exact hn205_2) | (show (Addr.add _ _).block ≠ _; rw [add_block]; exact hn205_2) | exact hn205_2) (.int .i64 ((rd_T31 l0 x38_2).f2))).trans hx205_4; replace hx205_5 := (cell_far (p := ⟨gb204, 2, none⟩) (by first | (rw [add_block]; exact hn205_2) | (show (Addr.add _ _).block ≠ _; rw [add_block]; exact hn205_2) | exact hn205_2) (.int .i64 ((rd_T31 l0 x38_2).f2))).trans hx205_5; replace hx205_0 := (cell_far (p := ⟨gb204, 3, none⟩) (by first | (rw [add_block]; exact hn205_3) | (show (Addr.add _ _).block ≠ _; rw [add_block]; exact hn205_3) | exact hn205_3) (.int .i64 ((rd_T31 l0 x38_2).f3))).trans hx205_0; replace hx205_1 := (cell_far (p := ⟨gb204, 3, none⟩) (by first | (rw [add_block]; exact hn205_3) | (show (Addr.add _ _).block ≠ _; rw [add_block]; exact hn205_3) | exact hn205_3) (.int .i64 ((rd_T31 l0 x38_2).f3))).trans hx205_1; replace hx205_2 := (cell_far (p := ⟨gb204, 3, none⟩) (by first | (rw [add_block]; exact hn205_3) | (show (Addr.add _ _).block ≠ _; rw [add_block]; exact hn205_3) | exact hn205_3) (.int .i64 ((rd_T31 l0 x38_2).f3))).trans hx205_2; replace hx205_3 := (cell_far (p := ⟨gb204, 3, none⟩) (by first | (rw [add_block]; exact hn205_3) | (show (Addr.add _ _).block ≠ _; rw [add_block]; exact hn205_3) | exact hn205_3) (.int .i64 ((rd_T31 l0 x38_2).f3))).trans hx205_3; replace hx205_4 := (cell_far (p := ⟨gb204, 3, none⟩) (by first | (rw [add_block]; exact hn205_3) | (show (Addr.add _ _).block ≠ _; rw [add_block]; exact hn205_3) | exact hn205_3) (.int .i64 ((rd_T31 l0 x38_2).f3))).trans hx205_4; replace hx205_5 := (cell_far (p := ⟨gb204, 3, none⟩) (by first | (rw [add_block]; exact hn205_3) | (show (Addr.add _ _).block ≠ _; rw [add_block]; exact hn205_3) | exact hn205_3) (.int .i64 ((rd_T31 l0 x38_2).f3))).trans hx205_5; replace hx205_0 := (cell_far (p := ⟨gb204, 4, none⟩) (by first | (rw [add_block]; exact hn205_4) | (show (Addr.add _ _).block ≠ _; rw [add_block]; exact hn205_4) | exact hn205_4) (.int .i64 ((rd_T31 l0 x38_2).f4))).trans hx205_0; replace hx205_1 := (cell_far (p := ⟨gb204, 4, none⟩) (by first | (rw [add_block]; exact hn205_4) | (show (Addr.add _ _).block ≠ _; rw [add_block]; exact hn205_4) | exact hn205_4) (.int .i64 ((rd_T31 l0 x38_2).f4))).trans hx205_1; replace hx205_2 := (cell_far (p := ⟨gb204, 4, none⟩) (by first | (rw [add_block]; exact hn205_4) | (show (Addr.add _ _).block ≠ _; rw [add_block]; exact hn205_4) | exact hn205_4) (.int .i64 ((rd_T31 l0 x38_2).f4))).trans hx205_2; replace hx205_3 := (cell_far (p := ⟨gb204, 4, none⟩) (by first | (rw [add_block]; exact hn205_4) | (show (Addr.add _ _).block ≠ _; rw [add_block]; exact hn205_4) | exact hn205_4) (.int .i64 ((rd_T31 l0 x38_2).f4))).trans hx205_3; replace hx205_4 := (cell_far (p := ⟨gb204, 4, none⟩) (by first | (rw [add_block]; exact hn205_4) | (show (Addr.add _ _).block ≠ _; rw [add_block]; exact hn205_4) | exact hn205_4) (.int .i64 ((rd_T31 l0 x38_2).f4))).trans hx205_4; replace hx205_5 := (cell_far (p := ⟨gb204, 4, none⟩) (by first | (rw [add_block]; exact hn205_4) | (show (Addr.add _ _).block ≠ _; rw [add_block]; exact hn205_4) | exact hn205_4) (.int .i64 ((rd_T31 l0 x38_2).f4))).trans hx205_5; replace hx205_0 := (cell_far (p := ⟨gb204, 5, none⟩) (by first | (rw [add_block]; exact hn205_5) | (show (Addr.add _ _).block ≠ _; rw [add_block]; exact hn205_5) | exact hn205_5) (.int .i64 ((rd_T31 l0 x38_2).f5))).trans hx205_0; replace hx205_1 := (cell_far (p := ⟨gb204, 5, none⟩) (by first | (rw [add_block]; exact hn205_5) | (show (Addr.add _ _).block ≠ _; rw [add_block]; exact hn205_5) | exact hn205_5) (.int .i64 ((rd_T31 l0 x38_2).f5))).trans hx205_1; replace hx205_2 := (cell_far (p := ⟨gb204, 5, none⟩) (by first | (rw [add_block]; exact hn205_5) | (show (Addr.add _ _).block ≠ _; rw [add_block]; exact hn205_5) | exact hn205_5) (.int .i64 ((rd_T31 l0 x38_2).f5))).trans hx205_2; replace hx205_3 := (cell_far (p := ⟨gb204, 5, none⟩) (by first | (rw [add_block]; exact hn205_5) | (show (Addr.add _ _).block ≠ _; rw [add_block]; exact hn205_5) | exact hn205_5) (.int .i64 ((rd_T31 l0 x38_2).f5))).trans hx205_3; replace hx205_4 := (cell_far (p := ⟨gb204, 5, none⟩) (by first | (rw [add_block]; exact hn205_5) | (show (Addr.add _ _).block ≠ _; rw [add_block]; exact hn205_5) | exact hn205_5) (.int .i64 ((rd_T31 l0 x38_2).f5))).trans hx205_4; replace hx205_5 := (cell_far (p := ⟨gb204, 5, none⟩) (by first | (rw [add_block]; exact hn205_5) | (show (Addr.add _ _).block ≠ _; rw [add_block]; exact hn205_5) | exact hn205_5) (.int .i64 ((rd_T31 l0 x38_2).f5))).trans hx205_5; clear hn205_0; clear hn205_1; clear hn205_2; clear hn205_3; clear hn205_4; clear hn205_5; replace p205 := eq_true p205; replace q205 := eq_true q205) | ((with_reducible refine gate_dst (N := 10) rfl ?_); (try (refine gate_guard (by rfl) ?_; dsimp only)); refine box_event ?hg (N := 10) ?hd (cs := #[.int .i64 0, .int .i64 0, .int .i64 0, .int .i64 0, .int .i64 0, .int .i64 0]) (t := 31) ?hr ?_; (case hd => rfl); (case hg => rfl); (case hr => first | (go_simp; done) | (go_simp; rfl)); intro gb206 hg w37 hbox hb; have n0_ := Aside0.mk (blk_below (g := gb204) (o := .cells #[.int .i64 ((rd_T31 l0 x38_2).f0), .int .i64 ((rd_T31 l0 x38_2).f1), .int .i64 ((rd_T31 l0 x38_2).f2), .int .i64 ((rd_T31 l0 x38_2).f3), .int .i64 ((rd_T31 l0 x38_2).f4), .int .i64 ((rd_T31 l0 x38_2).f5)] 31 (0, 0)) (by (with_reducible repeat (first | refine blk_drewN ?_ _ | refine blk_drew ?_ | refine blk_alloc ?_ _)); refine blk_put (cs := #[.int .i64 ((rd_T31 l0 x38_2).f0), .int .i64 ((rd_T31 l0 x38_2).f1), .int .i64 ((rd_T31 l0 x38_2).f2), .int .i64 ((rd_T31 l0 x38_2).f3), .int .i64 ((rd_T31 l0 x38_2).f4), .int .i64 0]) ?_ 5 _ rfl; (with_reducible repeat (first | refine blk_drewN ?_ _ | refine blk_drew ?_ | refine blk_alloc ?_ _)); refine blk_put (cs := #[.int .i64 ((rd_T31 l0 x38_2).f0), .int .i64 ((rd_T31 l0 x38_2).f1), .int .i64 ((rd_T31 l0 x38_2).f2), .int .i64 ((rd_T31 l0 x38_2).f3), .int .i64 0, .int .i64 0]) ?_ 4 _ rfl; (with_reducible repeat (first | refine blk_drewN ?_ _ | refine blk_drew ?_ | refine blk_alloc ?_ _)); refine blk_put (cs := #[.int .i64 ((rd_T31 l0 x38_2).f0), .int .i64 ((rd_T31 l0 x38_2).f1), .int .i64 ((rd_T31 l0 x38_2).f2), .int .i64 0, .int .i64 0, .int .i64 0]) ?_ 3 _ rfl; (with_reducible repeat (first | refine blk_drewN ?_ _ | refine blk_drew ?_ | refine blk_alloc ?_ _)); refine blk_put (cs := #[.int .i64 ((rd_T31 l0 x38_2).f0), .int .i64 ((rd_T31 l0 x38_2).f1), .int .i64 0, .int .i64 0, .int .i64 0, .int .i64 0]) ?_ 2 _ rfl; (with_reducible repeat (first | refine blk_drewN ?_ _ | refine blk_drew ?_ | refine blk_alloc ?_ _)); refine blk_put (cs := #[.int .i64 ((rd_T31 l0 x38_2).f0), .int .i64 0, .int .i64 0, .int .i64 0, .int .i64 0, .int .i64 0]) ?_ 1 _ rfl; (with_reducible repeat (first | refine blk_drewN ?_ _ | refine blk_drew ?_ | refine blk_alloc ?_ _)); refine blk_put (cs := #[.int .i64 0, .int .i64 0, .int .i64 0, .int .i64 0, .int .i64 0, .int .i64 0]) ?_ 0 _ rfl; (with_reducible repeat (first | refine blk_drewN ?_ _ | refine blk_drew ?_ | refine blk_alloc ?_ _)); exact BK204.out) hb); have n1_ := Aside0.mk (below_step (bel_ HB.out) hb); have n2_ := Aside0.mk (hbox); have n3_ := Aside0.mk ((by rw [hg]; exact (below_size (bel_ HB.out)) : w.heap.size ≤ gb206)); have n4_ := Aside0.mk ((by rw [hg]; exact (below_size (bel_ HB.out)) : w.heap.size ≤ gb206)); have n5_ := Aside0.mk ((by rw [hg]; exact Nat.ne_of_lt (blk_lt (g := gb204) (o := .cells #[.int .i64 ((rd_T31 l0 x38_2).f0), .int .i64 ((rd_T31 l0 x38_2).f1), .int .i64 ((rd_T31 l0 x38_2).f2), .int .i64 ((rd_T31 l0 x38_2).f3), .int .i64 ((rd_T31 l0 x38_2).f4), .int .i64 ((rd_T31 l0 x38_2).f5)] 31 (0, 0)) (by (with_reducible repeat (first | refine blk_drewN ?_ _ | refine blk_drew ?_ | refine blk_alloc ?_ _)); refine blk_put (cs := #[.int .i64 ((rd_T31 l0 x38_2).f0), .int .i64 ((rd_T31 l0 x38_2).f1), .int .i64 ((rd_T31 l0 x38_2).f2), .int .i64 ((rd_T31 l0 x38_2).f3), .int .i64 ((rd_T31 l0 x38_2).f4), .int .i64 0]) ?_ 5 _ rfl; (with_reducible repeat (first | refine blk_drewN ?_ _ | refine blk_drew ?_ | refine blk_alloc ?_ _)); refine blk_put (cs := #[.int .i64 ((rd_T31 l0 x38_2).f0), .int .i64 ((rd_T31 l0 x38_2).f1), .int .i64 ((rd_T31 l0 x38_2).f2), .int .i64 ((rd_T31 l0 x38_2).f3), .int .i64 0, .int .i64 0]) ?_ 4 _ rfl; (with_reducible repeat (first | refine blk_drewN ?_ _ | refine blk_drew ?_ | refine blk_alloc ?_ _)); refine blk_put (cs := #[.int .i64 ((rd_T31 l0 x38_2).f0), .int .i64 ((rd_T31 l0 x38_2).f1), .int .i64 ((rd_T31 l0 x38_2).f2), .int .i64 0, .int .i64 0, .int .i64 0]) ?_ 3 _ rfl; (with_reducible repeat (first | refine blk_drewN ?_ _ | refine blk_drew ?_ | refine blk_alloc ?_ _)); refine blk_put (cs := #[.int .i64 ((rd_T31 l0 x38_2).f0), .int .i64 ((rd_T31 l0 x38_2).f1), .int .i64 0, .int .i64 0, .int .i64 0, .int .i64 0]) ?_ 2 _ rfl; (with_reducible repeat (first | refine blk_drewN ?_ _ | refine blk_drew ?_ | refine blk_alloc ?_ _)); refine blk_put (cs := #[.int .i64 ((rd_T31 l0 x38_2).f0), .int .i64 0, .int .i64 0, .int .i64 0, .int .i64 0, .int .i64 0]) ?_ 1 _ rfl; (with_reducible repeat (first | refine blk_drewN ?_ _ | refine blk_drew ?_ | refine blk_alloc ?_ _)); refine blk_put (cs := #[.int .i64 0, .int .i64 0, .int .i64 0, .int .i64 0, .int .i64 0, .int .i64 0]) ?_ 0 _ rfl; (with_reducible repeat (first | refine blk_drewN ?_ _ | refine blk_drew ?_ | refine blk_alloc ?_ _)); exact BK204.out)) : gb204 ≠ gb206)); have n6_ := Aside0.mk ((by rw [hg]; exact Nat.ne_of_gt (blk_lt (g := gb204) (o := .cells #[.int .i64 ((rd_T31 l0 x38_2).f0), .int .i64 ((rd_T31 l0 x38_2).f1), .int .i64 ((rd_T31 l0 x38_2).f2), .int .i64 ((rd_T31 l0 x38_2).f3), .int .i64 ((rd_T31 l0 x38_2).f4), .int .i64 ((rd_T31 l0 x38_2).f5)] 31 (0, 0)) (by (with_reducible repeat (first | refine blk_drewN ?_ _ | refine blk_drew ?_ | refine blk_alloc ?_ _)); refine blk_put (cs := #[.int .i64 ((rd_T31 l0 x38_2).f0), .int .i64 ((rd_T31 l0 x38_2).f1), .int .i64 ((rd_T31 l0 x38_2).f2), .int .i64 ((rd_T31 l0 x38_2).f3), .int .i64 ((rd_T31 l0 x38_2).f4), .int .i64 0]) ?_ 5 _ rfl; (with_reducible repeat (first | refine blk_drewN ?_ _ | refine blk_drew ?_ | refine blk_alloc ?_ _)); refine blk_put (cs := #[.int .i64 ((rd_T31 l0 x38_2).f0), .int .i64 ((rd_T31 l0 x38_2).f1), .int .i64 ((rd_T31 l0 x38_2).f2), .int .i64 ((rd_T31 l0 x38_2).f3), .int .i64 0, .int .i64 0]) ?_ 4 _ rfl; (with_reducible repeat (first | refine blk_drewN ?_ _ | refine blk_drew ?_ | refine blk_alloc ?_ _)); refine blk_put (cs := #[.int .i64 ((rd_T31 l0 x38_2).f0), .int .i64 ((rd_T31 l0 x38_2).f1), .int .i64 ((rd_T31 l0 x38_2).f2), .int .i64 0, .int .i64 0, .int .i64 0]) ?_ 3 _ rfl; (with_reducible repeat (first | refine blk_drewN ?_ _ | refine blk_drew ?_ | refine blk_alloc ?_ _)); refine blk_put (cs := #[.int .i64 ((rd_T31 l0 x38_2).f0), .int .i64 ((rd_T31 l0 x38_2).f1), .int .i64 0, .int .i64 0, .int .i64 0, .int .i64 0]) ?_ 2 _ rfl; (with_reducible repeat (first | refine blk_drewN ?_ _ | refine blk_drew ?_ | refine blk_alloc ?_ _)); refine blk_put (cs := #[.int .i64 ((rd_T31 l0 x38_2).f0), .int .i64 0, .int .i64 0, .int .i64 0, .int .i64 0, .int .i64 0]) ?_ 1 _ rfl; (with_reducible repeat (first | refine blk_drewN ?_ _ | refine blk_drew ?_ | refine blk_alloc ?_ _)); refine blk_put (cs := #[.int .i64 0, .int .i64 0, .int .i64 0, .int .i64 0, .int .i64 0, .int .i64 0]) ?_ 0 _ rfl; (with_reducible repeat (first | refine blk_drewN ?_ _ | refine blk_drew ?_ | refine blk_alloc ?_ _)); exact BK204.out)) : gb206 ≠ gb204)); clear BK204; clear HB; have BK204 := n0_; have HB := n1_; have BK206 := n2_; have GW206 := n3_; have GE206 := n4_; have NB204_206 := n5_; have NB206_204 := n6_; clear n0_ n1_ n2_ n3_ n4_ n5_ n6_; clear hb hbox hg; have hnb38 := NB206_204.out; have hnc38 := NB204_206.out; have hcz39_0 : w37.cell? ⟨gb206, 0, none⟩ = some (.int .i64 0) := (blk_cell BK206.out 0).trans rfl; have hcz39_1 : w37.cell? ⟨gb206, 1, none⟩ = some (.int .i64 0) := (blk_cell BK206.out 1).trans rfl; have hcz39_2 : w37.cell? ⟨gb206, 2, none⟩ = some (.int .i64 0) := (blk_cell BK206.out 2).trans rfl; have hcz39_3 : w37.cell? ⟨gb206, 3, none⟩ = some (.int .i64 0) := (blk_cell BK206.out 3).trans rfl; have hcz39_4 : w37.cell? ⟨gb206, 4, none⟩ = some (.int .i64 0) := (blk_cell BK206.out 4).trans rfl; have hcz39_5 : w37.cell? ⟨gb206, 5, none⟩ = some (.int .i64 0) := (blk_cell BK206.out 5).trans rfl; have hfz39_0 := blk_frozen BK206.out 0; have hfz39_1 := blk_frozen BK206.out 1; have hfz39_2 := blk_frozen BK206.out 2; have hfz39_3 := blk_frozen BK206.out 3; have hfz39_4 := blk_frozen BK206.out 4; have hfz39_5 := blk_frozen BK206.out 5))
           have n0_ : Aside0 (((((((w37.setCell ⟨gb206, 0, none⟩ (.int .i64 ((rd_T31 l1 x38_2).f0))).setCell ⟨gb206, 1, none⟩ (.int .i64 ((rd_T31 l1 x38_2).f1))).setCell ⟨gb206, 2, none⟩ (.int .i64 ((rd_T31 l1 x38_2).f2))).setCell ⟨gb206, 3, none⟩ (.int .i64 ((rd_T31 l1 x38_2).f3))).setCell ⟨gb206, 4, none⟩ (.int .i64 ((rd_T31 l1 x38_2).f4))).setCell ⟨gb206, 5, none⟩ (.int .i64 ((rd_T31 l1 x38_2).f5))).heap[gb204]? = some (.cells #[.int .i64 ((rd_T31 l0 x38_2).f0), .int .i64 ((rd_T31 l0 x38_2).f1), .int .i64 ((rd_T31 l0 x38_2).f2), .int .i64 ((rd_T31 l0 x38_2).f3), .int .i64 ((rd_T31 l0 x38_2).f4), .int .i64 ((rd_T31 l0 x38_2).f5)] 31 (0, 0))) := ⟨by (with_reducible repeat (first | refine blk_drewN ?_ _ | refine blk_drew ?_ | refine blk_alloc ?_ _)); refine blk_far ?_ NB204_206.out _; (with_reducible repeat (first | refine blk_drewN ?_ _ | refine blk_drew ?_ | refine blk_alloc ?_ _)); refine blk_far ?_ NB204_206.out _; (with_reducible repeat (first | refine blk_drewN ?_ _ | refine blk_drew ?_ | refine blk_alloc ?_ _)); refine blk_far ?_ NB204_206.out _; (with_reducible repeat (first | refine blk_drewN ?_ _ | refine blk_drew ?_ | refine blk_alloc ?_ _)); refine blk_far ?_ NB204_206.out _; (with_reducible repeat (first | refine blk_drewN ?_ _ | refine blk_drew ?_ | refine blk_alloc ?_ _)); refine blk_far ?_ NB204_206.out _; (with_reducible repeat (first | refine blk_drewN ?_ _ | refine blk_drew ?_ | refine blk_alloc ?_ _)); refine blk_far ?_ NB204_206.out _; (with_reducible repeat (first | refine blk_drewN ?_ _ | refine blk_drew ?_ | refine blk_alloc ?_ _)); exact BK204.out⟩
           have n1_ : Aside0 (((((((w37.setCell ⟨gb206, 0, none⟩ (.int .i64 ((rd_T31 l1 x38_2).f0))).setCell ⟨gb206, 1, none⟩ (.int .i64 ((rd_T31 l1 x38_2).f1))).setCell ⟨gb206, 2, none⟩ (.int .i64 ((rd_T31 l1 x38_2).f2))).setCell ⟨gb206, 3, none⟩ (.int .i64 ((rd_T31 l1 x38_2).f3))).setCell ⟨gb206, 4, none⟩ (.int .i64 ((rd_T31 l1 x38_2).f4))).setCell ⟨gb206, 5, none⟩ (.int .i64 ((rd_T31 l1 x38_2).f5))).heap[gb206]? = some (.cells #[.int .i64 ((rd_T31 l1 x38_2).f0), .int .i64 ((rd_T31 l1 x38_2).f1), .int .i64 ((rd_T31 l1 x38_2).f2), .int .i64 ((rd_T31 l1 x38_2).f3), .int .i64 ((rd_T31 l1 x38_2).f4), .int .i64 ((rd_T31 l1 x38_2).f5)] 31 (0, 0))) := ⟨by (with_reducible repeat (first | refine blk_drewN ?_ _ | refine blk_drew ?_ | refine blk_alloc ?_ _)); refine blk_put (cs := #[.int .i64 ((rd_T31 l1 x38_2).f0), .int .i64 ((rd_T31 l1 x38_2).f1), .int .i64 ((rd_T31 l1 x38_2).f2), .int .i64 ((rd_T31 l1 x38_2).f3), .int .i64 ((rd_T31 l1 x38_2).f4), .int .i64 0]) ?_ 5 _ rfl; (with_reducible repeat (first | refine blk_drewN ?_ _ | refine blk_drew ?_ | refine blk_alloc ?_ _)); refine blk_put (cs := #[.int .i64 ((rd_T31 l1 x38_2).f0), .int .i64 ((rd_T31 l1 x38_2).f1), .int .i64 ((rd_T31 l1 x38_2).f2), .int .i64 ((rd_T31 l1 x38_2).f3), .int .i64 0, .int .i64 0]) ?_ 4 _ rfl; (with_reducible repeat (first | refine blk_drewN ?_ _ | refine blk_drew ?_ | refine blk_alloc ?_ _)); refine blk_put (cs := #[.int .i64 ((rd_T31 l1 x38_2).f0), .int .i64 ((rd_T31 l1 x38_2).f1), .int .i64 ((rd_T31 l1 x38_2).f2), .int .i64 0, .int .i64 0, .int .i64 0]) ?_ 3 _ rfl; (with_reducible repeat (first | refine blk_drewN ?_ _ | refine blk_drew ?_ | refine blk_alloc ?_ _)); refine blk_put (cs := #[.int .i64 ((rd_T31 l1 x38_2).f0), .int .i64 ((rd_T31 l1 x38_2).f1), .int .i64 0, .int .i64 0, .int .i64 0, .int .i64 0]) ?_ 2 _ rfl; (with_reducible repeat (first | refine blk_drewN ?_ _ | refine blk_drew ?_ | refine blk_alloc ?_ _)); refine blk_put (cs := #[.int .i64 ((rd_T31 l1 x38_2).f0), .int .i64 0, .int .i64 0, .int .i64 0, .int .i64 0, .int .i64 0]) ?_ 1 _ rfl; (with_reducible repeat (first | refine blk_drewN ?_ _ | refine blk_drew ?_ | refine blk_alloc ?_ _)); refine blk_put (cs := #[.int .i64 0, .int .i64 0, .int .i64 0, .int .i64 0, .int .i64 0, .int .i64 0]) ?_ 0 _ rfl; (with_reducible repeat (first | refine blk_drewN ?_ _ | refine blk_drew ?_ | refine blk_alloc ?_ _)); exact BK206.out⟩
           have n2_ : Aside0 (Below w.heap.size w ((((((w37.setCell ⟨gb206, 0, none⟩ (.int .i64 ((rd_T31 l1 x38_2).f0))).setCell ⟨gb206, 1, none⟩ (.int .i64 ((rd_T31 l1 x38_2).f1))).setCell ⟨gb206, 2, none⟩ (.int .i64 ((rd_T31 l1 x38_2).f2))).setCell ⟨gb206, 3, none⟩ (.int .i64 ((rd_T31 l1 x38_2).f3))).setCell ⟨gb206, 4, none⟩ (.int .i64 ((rd_T31 l1 x38_2).f4))).setCell ⟨gb206, 5, none⟩ (.int .i64 ((rd_T31 l1 x38_2).f5)))) := ⟨bel_ HB.out⟩
           (try clear BK204)
           (try clear BK206)
           (try clear HB)
           generalize ((((((w37.setCell ⟨gb206, 0, none⟩ (.int .i64 ((rd_T31 l1 x38_2).f0))).setCell ⟨gb206, 1, none⟩ (.int .i64 ((rd_T31 l1 x38_2).f1))).setCell ⟨gb206, 2, none⟩ (.int .i64 ((rd_T31 l1 x38_2).f2))).setCell ⟨gb206, 3, none⟩ (.int .i64 ((rd_T31 l1 x38_2).f3))).setCell ⟨gb206, 4, none⟩ (.int .i64 ((rd_T31 l1 x38_2).f4))).setCell ⟨gb206, 5, none⟩ (.int .i64 ((rd_T31 l1 x38_2).f5))) = w40 at n0_ n1_ n2_ ⊢
           have BK204 := n0_
           have BK206 := n1_
           have HB := n2_
           clear n0_ n1_ n2_
           have n0_ := Aside0.mk (blk_drew BK204.out)
           have n1_ := Aside0.mk (blk_drew BK206.out)
           have n2_ := Aside0.mk (below_drew1 HB.out)
           clear BK204
           clear BK206
           clear HB
           have BK204 := n0_
           have BK206 := n1_
           have HB := n2_
           clear n0_ n1_ n2_
           refine start_ (n := 8) (S := fun w' => w'.cell? ⟨gb206, 0, none⟩ = some (.int .i64 ((rd_T31 l1 x38_2).f0)) ∧ w'.cell? ⟨gb206, 1, none⟩ = some (.int .i64 ((rd_T31 l1 x38_2).f1)) ∧ w'.cell? ⟨gb206, 2, none⟩ = some (.int .i64 ((rd_T31 l1 x38_2).f2)) ∧ w'.cell? ⟨gb206, 3, none⟩ = some (.int .i64 ((rd_T31 l1 x38_2).f3)) ∧ w'.cell? ⟨gb206, 4, none⟩ = some (.int .i64 ((rd_T31 l1 x38_2).f4)) ∧ w'.cell? ⟨gb206, 5, none⟩ = some (.int .i64 ((rd_T31 l1 x38_2).f5))) (ds := []) (bs 8 0) (by kernel_rfl) rfl rfl ⟨(blk_cell BK206.out 0).trans rfl, (blk_cell BK206.out 1).trans rfl, (blk_cell BK206.out 2).trans rfl, (blk_cell BK206.out 3).trans rfl, (blk_cell BK206.out 4).trans rfl, (blk_cell BK206.out 5).trans rfl⟩ (fun hHeld => ?_); refine with_tabW impl_Missed.tab7 impl_Missed.bits7 (fun HT_ HW_ => ?_)
           generalize w40.drew = w41 at BK204 BK206 HB hHeld ⊢
           refine pu_ 0 47 HT_ (bs 8 1) rfl rfl ?_
           refine pu_ 2 49 HT_ (bs 8 5) rfl rfl ?_
           refine take_ (i := 1) (N := some 48) (v := ?_) (a' := ?_) (bs 8 7) rfl rfl (take_ofW HT_.out HW_.out (by kernel_rfl)) (fun _ _ _ h => h) (Or.inl ⟨by rfl, ?_⟩) hHeld ?_ ?_
           rotate_left
           ·rintro w' ⟨s0, s1, s2, s3, s4, s5⟩
            go_simp
            with_reducible rfl
           rotate_left
           ·simp only [Act.put, sA_, sZ_, sS_, i64_w, i32_w]
            rfl
           refine pu_ 4 51 HT_ (bs 8 23) rfl rfl ?_
           refine take_ (i := 3) (N := some 50) (v := ?_) (a' := ?_) (bs 8 31) rfl rfl (take_ofW HT_.out HW_.out (by kernel_rfl)) (fun _ _ _ h => h) (Or.inl ⟨by rfl, ?_⟩) hHeld ?_ ?_
           rotate_left
           ·rintro w' ⟨s0, s1, s2, s3, s4, s5⟩
            go_simp
            with_reducible rfl
           rotate_left
           ·simp only [Act.put, sA_, sZ_, sS_, i64_w, i32_w]
            rfl
           refine one_ (i := 5) (N := none) (bs 8 63) rfl rfl (one_of HT_.out (by kernel_rfl)) (by decide) (fun K hK => ?_)
           have hs42 : w41.cell? ⟨gb204, 3, none⟩ = some (.int .i64 ((rd_T31 l0 x38_2).f3)) := (blk_cell BK204.out 3).trans rfl
           have hfs42 := blk_frozen BK204.out 3
           have hns42_1 := NB206_204.out
           have hms42_1 := NB204_206.out
           refine skip_ (w1 := ?_) (by rfl) rfl ?_ ?_
           rotate_left
           ·go_simp
            rfl
           refine hK.out _ _ ⟨((cell_far (p := ⟨gb204, _, none⟩) NB206_204.out _).trans (hHeld.1)), ((cell_far (p := ⟨gb204, _, none⟩) NB206_204.out _).trans (hHeld.2.1)), ((cell_far (p := ⟨gb204, _, none⟩) NB206_204.out _).trans (hHeld.2.2.1)), ((cell_far (p := ⟨gb204, _, none⟩) NB206_204.out _).trans (hHeld.2.2.2.1)), ((cell_far (p := ⟨gb204, _, none⟩) NB206_204.out _).trans (hHeld.2.2.2.2.1)), ((cell_far (p := ⟨gb204, _, none⟩) NB206_204.out _).trans (hHeld.2.2.2.2.2))⟩ (fun hHeld => ?_)
           clear hK K
           refine pu_ 6 52 HT_ (bs 8 127) rfl rfl ?_
           refine one_ (i := 7) (N := none) (bs 8 255) rfl rfl (one_of HT_.out (by kernel_rfl)) (by decide) (fun K hK => ?_)
           have hs43 : w41.cell? ⟨gb204, 4, none⟩ = some (.int .i64 ((rd_T31 l0 x38_2).f4)) := (blk_cell BK204.out 4).trans rfl
           have hfs43 := blk_frozen BK204.out 4
           have hns43_1 := NB206_204.out
           have hms43_1 := NB204_206.out
           refine skip_ (w1 := ?_) (by rfl) rfl ?_ ?_
           rotate_left
           ·go_simp
            rfl
           refine hK.out _ _ ⟨((cell_far (p := ⟨gb204, _, none⟩) NB206_204.out _).trans (hHeld.1)), ((cell_far (p := ⟨gb204, _, none⟩) NB206_204.out _).trans (hHeld.2.1)), ((cell_far (p := ⟨gb204, _, none⟩) NB206_204.out _).trans (hHeld.2.2.1)), ((cell_far (p := ⟨gb204, _, none⟩) NB206_204.out _).trans (hHeld.2.2.2.1)), ((cell_far (p := ⟨gb204, _, none⟩) NB206_204.out _).trans (hHeld.2.2.2.2.1)), ((cell_far (p := ⟨gb204, _, none⟩) NB206_204.out _).trans (hHeld.2.2.2.2.2))⟩ (fun hHeld => ?_)
           clear hK K
           refine done_ (done_of HT_.out (by kernel_rfl)) ?_
           have hcz44_0 : w41.cell? ⟨gb204, 0, none⟩ = some (.int .i64 ((rd_T31 l0 x38_2).f0)) := (blk_cell BK204.out 0).trans rfl
           have hcz44_1 : w41.cell? ⟨gb204, 1, none⟩ = some (.int .i64 ((rd_T31 l0 x38_2).f1)) := (blk_cell BK204.out 1).trans rfl
           have hcz44_2 : w41.cell? ⟨gb204, 2, none⟩ = some (.int .i64 ((rd_T31 l0 x38_2).f2)) := (blk_cell BK204.out 2).trans rfl
           have hcz44_3 : w41.cell? ⟨gb204, 3, none⟩ = some (.int .i64 ((rd_T31 l0 x38_2).f3)) := (blk_cell BK204.out 3).trans rfl
           have hcz44_4 : w41.cell? ⟨gb204, 4, none⟩ = some (.int .i64 ((rd_T31 l0 x38_2).f4)) := (blk_cell BK204.out 4).trans rfl
           have hcz44_5 : w41.cell? ⟨gb204, 5, none⟩ = some (.int .i64 ((rd_T31 l0 x38_2).f5)) := (blk_cell BK204.out 5).trans rfl
           have hfz44_0 := blk_frozen BK204.out 0
           have hfz44_1 := blk_frozen BK204.out 1
           have hfz44_2 := blk_frozen BK204.out 2
           have hfz44_3 := blk_frozen BK204.out 3
           have hfz44_4 := blk_frozen BK204.out 4
           have hfz44_5 := blk_frozen BK204.out 5
           have hcz45_0 : w41.cell? ⟨gb206, 0, none⟩ = some (.int .i64 ((rd_T31 l1 x38_2).f0)) := (blk_cell BK206.out 0).trans rfl
           have hcz45_1 : w41.cell? ⟨gb206, 1, none⟩ = some (.int .i64 ((rd_T31 l1 x38_2).f1)) := (blk_cell BK206.out 1).trans rfl
           have hcz45_2 : w41.cell? ⟨gb206, 2, none⟩ = some (.int .i64 ((rd_T31 l1 x38_2).f2)) := (blk_cell BK206.out 2).trans rfl
           have hcz45_3 : w41.cell? ⟨gb206, 3, none⟩ = some (.int .i64 ((rd_T31 l1 x38_2).f3)) := (blk_cell BK206.out 3).trans rfl
           have hcz45_4 : w41.cell? ⟨gb206, 4, none⟩ = some (.int .i64 ((rd_T31 l1 x38_2).f4)) := (blk_cell BK206.out 4).trans rfl
           have hcz45_5 : w41.cell? ⟨gb206, 5, none⟩ = some (.int .i64 ((rd_T31 l1 x38_2).f5)) := (blk_cell BK206.out 5).trans rfl
           have hfz45_0 := blk_frozen BK206.out 0
           have hfz45_1 := blk_frozen BK206.out 1
           have hfz45_2 := blk_frozen BK206.out 2
           have hfz45_3 := blk_frozen BK206.out 3
           have hfz45_4 := blk_frozen BK206.out 4
           have hfz45_5 := blk_frozen BK206.out 5
           try go_wp2
           go_roundg k2
           case measure => have := HJ3.out; have := HK2.out; omega
           case rel => exact ⟨(wrap64 (x38_2 + 1)), (by first | rfl | (simp; done) | (simp [*]; done) | (simp [wrap64]; done)), H', ⟨by have := HJ3.out; have := HK2.out; omega⟩, ⟨bel_ HB.out⟩⟩
         ·rw [if_neg c22] at H
          exact absurd H (by simp)
        ·rw [if_neg c21] at H
         exact absurd H (by simp)
       ·rw [if_neg c20] at H
        exact absurd H (by simp)
      ·rw [if_neg c19] at H
       have c19b0 : decide (x38_2 < (l0.length : Int)) = false := decide_eq_false c19
       clear c19
       have H' := Aside0.mk H
       clear H
       go_wp2
       go_loopg [11, 59] k2 (fun kq v11 v59 w' => ∃ (x11_3 : List Int) (x59_3 : Int), v59 = .int .i64 x59_3 ∧ Aside0 (impl_Missed.l1 kq l0 l1 a2 x11_3 l0 (l0.length : Int) x59_3 = some (r1, r2)) ∧ Aside0 (kq ≤ k2) ∧ Aside0 (Kd.R (Kd.int .i64) 3 w' w.heap.size (fun _ => True) v11 x11_3) ∧ Aside0 (Below w.heap.size w w'))
       case atStart => exact ⟨(([] : List Int)), (0), (by first | rfl | (simp; done) | (simp [*]; done) | (simp [wrap64]; done)), H', ⟨Nat.le_refl _⟩, ⟨by first | exact Kd.R_nil _ _ _ _ _ | exact Kd.N_nil _ _ _ _ _ | exact Kd.V_nil _ _ _ _ _ | exact Kd.Q_nil _ _ _ _ _ | exact Kd.S_nil _ _ _ _ _⟩, ⟨bel_ HB.out⟩⟩
       case round =>
        clear H'
        try clear c1
        try clear c18
        try clear c19
        try clear c19b0
        obtain ⟨x11_3, x59_3, rfl, HA, HK3, HO_11, HB⟩ := hrel
        cases gk with
        | zero => exact absurd HA.out (by simp [impl_Missed.l1])
        | succ k3 =>
         have H := HA.out
         clear HA
         simp only [impl_Missed.l1] at H
         by_cases c46 : x59_3 < (l0.length : Int)
         ·rw [if_pos c46] at H
          have c46b0 : decide (x59_3 < (l0.length : Int)) = true := decide_eq_true c46
          clear c46
          by_cases c47 : 0 ≤ x59_3
          ·rw [if_pos c47] at H
           have c47b0 : decide (0 ≤ x59_3) = true := decide_eq_true c47
           clear c47
           by_cases c48 : x59_3 < (l0.length : Int)
           ·rw [if_pos c48] at H
            have c48b0 : decide (x59_3 < (l0.length : Int)) = true := decide_eq_true c48
            clear c48
            have H' := Aside0.mk H
            clear H
            have p210 : 0 ≤ (x59_3 : Int) := of_decide_eq_true (by first | (with_reducible assumption) | assumption)
            have q210 : x59_3 < (l0.length : Int) := of_decide_eq_true (by first | (with_reducible assumption) | assumption)
            obtain ⟨ad210, e210, hx210_0, hx210_1, hx210_2, hx210_3, hx210_4, hx210_5⟩ := at_T31 HR0.out x59_3 p210 q210
            cases e210
            replace hx210_0 := (HB.out.cell (World.block_lt_of_cell? w _ hx210_0)).trans hx210_0
            replace hx210_1 := (HB.out.cell (World.block_lt_of_cell? w _ hx210_1)).trans hx210_1
            replace hx210_2 := (HB.out.cell (World.block_lt_of_cell? w _ hx210_2)).trans hx210_2
            replace hx210_3 := (HB.out.cell (World.block_lt_of_cell? w _ hx210_3)).trans hx210_3
            replace hx210_4 := (HB.out.cell (World.block_lt_of_cell? w _ hx210_4)).trans hx210_4
            replace hx210_5 := (HB.out.cell (World.block_lt_of_cell? w _ hx210_5)).trans hx210_5
            replace p210 := eq_true p210
            replace q210 := eq_true q210
            go_wp2_with (first | ((with_reducible refine gate_dst (N := 13) rfl ?_); (try (refine gate_guard (by rfl) ?_; dsimp only)); refine box_event ?hg (N := 13) ?hd (cs := #[.int .i64 0, .int .i64 0, .int .i64 0, .int .i64 0, .int .i64 0, .int .i64 0]) (t := 31) ?hr ?_; (case hd => rfl); (case hg => rfl); (case hr => first | (go_simp; done) | (go_simp; rfl)); intro gb211 hg w49 hbox hb; have n0_ := Aside0.mk (Kd.R_below (fr_ HO_11.out) hb); have n1_ := Aside0.mk (below_step (bel_ HB.out) hb); have n2_ := Aside0.mk (hbox); have n3_ := Aside0.mk ((by rw [hg]; exact (below_size (bel_ HB.out)) : w.heap.size ≤ gb211)); have n4_ := Aside0.mk ((by rw [hg]; exact (below_size (bel_ HB.out)) : w.heap.size ≤ gb211)); clear HO_11; clear HB; have HO_11 := n0_; have HB := n1_; have BK211 := n2_; have GW211 := n3_; have GE211 := n4_; clear n0_ n1_ n2_ n3_ n4_; clear hb hbox hg; have hcz50_0 : w49.cell? ⟨gb211, 0, none⟩ = some (.int .i64 0) := (blk_cell BK211.out 0).trans rfl; have hcz50_1 : w49.cell? ⟨gb211, 1, none⟩ = some (.int .i64 0) := (blk_cell BK211.out 1).trans rfl; have hcz50_2 : w49.cell? ⟨gb211, 2, none⟩ = some (.int .i64 0) := (blk_cell BK211.out 2).trans rfl; have hcz50_3 : w49.cell? ⟨gb211, 3, none⟩ = some (.int .i64 0) := (blk_cell BK211.out 3).trans rfl; have hcz50_4 : w49.cell? ⟨gb211, 4, none⟩ = some (.int .i64 0) := (blk_cell BK211.out 4).trans rfl; have hcz50_5 : w49.cell? ⟨gb211, 5, none⟩ = some (.int .i64 0) := (blk_cell BK211.out 5).trans rfl; have hfz50_0 := blk_frozen BK211.out 0; have hfz50_1 := blk_frozen BK211.out 1; have hfz50_2 := blk_frozen BK211.out 2; have hfz50_3 := blk_frozen BK211.out 3; have hfz50_4 := blk_frozen BK211.out 4; have hfz50_5 := blk_frozen BK211.out 5))
            go_loopg [11, 66] k3 (fun kq v11 v66 w' => ∃ (x11_4 : List Int) (x66_4 : Int), v66 = .int .i64 x66_4 ∧ Aside0 (impl_Missed.l2 kq l0 l1 a2 x11_4 x59_3 l0 (l0.length : Int) x59_3 l0 (l0.length : Int) x66_4 ((rd_T31 l0 x59_3).f0) ((rd_T31 l0 x59_3).f1) ((rd_T31 l0 x59_3).f2) ((rd_T31 l0 x59_3).f3) ((rd_T31 l0 x59_3).f4) ((rd_T31 l0 x59_3).f5) = some (r1, r2)) ∧ Aside0 (kq ≤ k3) ∧ Aside0 (Kd.R (Kd.int .i64) 3 w' w.heap.size (fun _ => True) v11 x11_4) ∧ Aside0 (w'.heap[gb211]? = some (.cells #[.int .i64 ((rd_T31 l0 x59_3).f0), .int .i64 ((rd_T31 l0 x59_3).f1), .int .i64 ((rd_T31 l0 x59_3).f2), .int .i64 ((rd_T31 l0 x59_3).f3), .int .i64 ((rd_T31 l0 x59_3).f4), .int .i64 ((rd_T31 l0 x59_3).f5)] 31 (0, 0))) ∧ Aside0 (Below w.heap.size w w'))
            case atStart => exact ⟨(x11_3), (0), (by first | rfl | (simp; done) | (simp [*]; done) | (simp [wrap64]; done)), H', ⟨Nat.le_refl _⟩, ⟨by (with_reducible repeat (first | apply Kd.R_alloc | apply Kd.R_drewN | apply Kd.R_drew)); exact Kd.R_mono (Kd.R_far (p := ⟨gb211, 5, none⟩) (Kd.R_far (p := ⟨gb211, 4, none⟩) (Kd.R_far (p := ⟨gb211, 3, none⟩) (Kd.R_far (p := ⟨gb211, 2, none⟩) (Kd.R_far (p := ⟨gb211, 1, none⟩) (Kd.R_far (p := ⟨gb211, 0, none⟩) (Kd.R_types HO_11.out BK211.out (by decide)) (fun _ hk => hk.2) (.int .i64 ((rd_T31 l0 x59_3).f0))) (fun _ hk => hk.2) (.int .i64 ((rd_T31 l0 x59_3).f1))) (fun _ hk => hk.2) (.int .i64 ((rd_T31 l0 x59_3).f2))) (fun _ hk => hk.2) (.int .i64 ((rd_T31 l0 x59_3).f3))) (fun _ hk => hk.2) (.int .i64 ((rd_T31 l0 x59_3).f4))) (fun _ hk => hk.2) (.int .i64 ((rd_T31 l0 x59_3).f5))) (fun _ hk => trivial)⟩, ⟨by (with_reducible repeat (first | refine blk_drewN ?_ _ | refine blk_drew ?_ | refine blk_alloc ?_ _)); refine blk_put (cs := #[.int .i64 ((rd_T31 l0 x59_3).f0), .int .i64 ((rd_T31 l0 x59_3).f1), .int .i64 ((rd_T31 l0 x59_3).f2), .int .i64 ((rd_T31 l0 x59_3).f3), .int .i64 ((rd_T31 l0 x59_3).f4), .int .i64 0]) ?_ 5 _ rfl; (with_reducible repeat (first | refine blk_drewN ?_ _ | refine blk_drew ?_ | refine blk_alloc ?_ _)); refine blk_put (cs := #[.int .i64 ((rd_T31 l0 x59_3).f0), .int .i64 ((rd_T31 l0 x59_3).f1), .int .i64 ((rd_T31 l0 x59_3).f2), .int .i64 ((rd_T31 l0 x59_3).f3), .int .i64 0, .int .i64 0]) ?_ 4 _ rfl; (with_reducible repeat (first | refine blk_drewN ?_ _ | refine blk_drew ?_ | refine blk_alloc ?_ _)); refine blk_put (cs := #[.int .i64 ((rd_T31 l0 x59_3).f0), .int .i64 ((rd_T31 l0 x59_3).f1), .int .i64 ((rd_T31 l0 x59_3).f2), .int .i64 0, .int .i64 0, .int .i64 0]) ?_ 3 _ rfl; (with_reducible repeat (first | refine blk_drewN ?_ _ | refine blk_drew ?_ | refine blk_alloc ?_ _)); refine blk_put (cs := #[.int .i64 ((rd_T31 l0 x59_3).f0), .int .i64 ((rd_T31 l0 x59_3).f1), .int .i64 0, .int .i64 0, .int .i64 0, .int .i64 0]) ?_ 2 _ rfl; (with_reducible repeat (first | refine blk_drewN ?_ _ | refine blk_drew ?_ | refine blk_alloc ?_ _)); refine blk_put (cs := #[.int .i64 ((rd_T31 l0 x59_3).f0), .int .i64 0, .int .i64 0, .int .i64 0, .int .i64 0, .int .i64 0]) ?_ 1 _ rfl; (with_reducible repeat (first | refine blk_drewN ?_ _ | refine blk_drew ?_ | refine blk_alloc ?_ _)); refine blk_put (cs := #[.int .i64 0, .int .i64 0, .int .i64 0, .int .i64 0, .int .i64 0, .int .i64 0]) ?_ 0 _ rfl; (with_reducible repeat (first | refine blk_drewN ?_ _ | refine blk_drew ?_ | refine blk_alloc ?_ _)); exact BK211.out⟩, ⟨bel_ HB.out⟩⟩
            case round =>
             clear H'
             try clear c1
             try clear c18
             try clear c19
             try clear c19b0
             try clear c46
             try clear c46b0
             try clear c47
             try clear c47b0
             try clear c48
             try clear c48b0
             try clear hcz50_0
             try clear hcz50_1
             try clear hcz50_2
             try clear hcz50_3
             try clear hcz50_4
             try clear hcz50_5
             try clear hfz50_0
             try clear hfz50_1
             try clear hfz50_2
             try clear hfz50_3
             try clear hfz50_4
             try clear hfz50_5
             try clear hx210_0
             try clear hx210_1
             try clear hx210_2
             try clear hx210_3
             try clear hx210_4
             try clear hx210_5
             try clear p210
             try clear q210
             obtain ⟨x11_4, x66_4, rfl, HA, HK4, HO_11, BK211, HB⟩ := hrel
             cases gk with
             | zero => exact absurd HA.out (by simp [impl_Missed.l2])
             | succ k4 =>
              have H := HA.out
              clear HA
              simp only [impl_Missed.l2] at H
              by_cases c51 : x66_4 < (l0.length : Int)
              ·rw [if_pos c51] at H
               have c51b0 : decide (x66_4 < (l0.length : Int)) = true := decide_eq_true c51
               clear c51
               by_cases c52 : 0 ≤ x66_4
               ·rw [if_pos c52] at H
                have c52b0 : decide (0 ≤ x66_4) = true := decide_eq_true c52
                clear c52
                by_cases c53 : x66_4 < (l0.length : Int)
                ·rw [if_pos c53] at H
                 have c53b0 : decide (x66_4 < (l0.length : Int)) = true := decide_eq_true c53
                 clear c53
                 by_cases c54 : ((rd_T31 l0 x59_3).f0) = ((rd_T31 l0 x66_4).f0)
                 ·rw [if_pos c54] at H
                  have c54b0 : (((rd_T31 l0 x59_3).f0) == ((rd_T31 l0 x66_4).f0)) = true := beq_iff_eq.mpr c54
                  have c54b1 : (((rd_T31 l0 x59_3).f0) != ((rd_T31 l0 x66_4).f0)) = false := bne_eq_false_iff_eq.mpr c54
                  clear c54
                  have H' := Aside0.mk H
                  clear H
                  have p212 : 0 ≤ (x66_4 : Int) := of_decide_eq_true (by first | (with_reducible assumption) | assumption)
                  have q212 : x66_4 < (l0.length : Int) := of_decide_eq_true (by first | (with_reducible assumption) | assumption)
                  obtain ⟨ad212, e212, hx212_0, hx212_1, hx212_2, hx212_3, hx212_4, hx212_5⟩ := at_T31 HR0.out x66_4 p212 q212
                  obtain rfl : ad210 = ad212 := (by injection e212)
                  replace hx212_0 := (HB.out.cell (World.block_lt_of_cell? w _ hx212_0)).trans hx212_0
                  replace hx212_1 := (HB.out.cell (World.block_lt_of_cell? w _ hx212_1)).trans hx212_1
                  replace hx212_2 := (HB.out.cell (World.block_lt_of_cell? w _ hx212_2)).trans hx212_2
                  replace hx212_3 := (HB.out.cell (World.block_lt_of_cell? w _ hx212_3)).trans hx212_3
                  replace hx212_4 := (HB.out.cell (World.block_lt_of_cell? w _ hx212_4)).trans hx212_4
                  replace hx212_5 := (HB.out.cell (World.block_lt_of_cell? w _ hx212_5)).trans hx212_5
                  replace p212 := eq_true p212
                  replace q212 := eq_true q212
                  try go_wp2_with (first | ((with_reducible refine gate_dst (N := 15) rfl ?_); (try (refine gate_guard (by rfl) ?_; dsimp only)); refine box_event ?hg (N := 15) ?hd (cs := #[.int .i64 0, .int .i64 0, .int .i64 0, .int .i64 0, .int .i64 0, .int .i64 0]) (t := 31) ?hr ?_; (case hd => rfl); (case hg => rfl); (case hr => first | (go_simp; done) | (go_simp; rfl)); intro gb213 hg w55 hbox hb; have n0_ := Aside0.mk (Kd.R_below (fr_ HO_11.out) hb); have n1_ := Aside0.mk (blk_below (g := gb211) (o := .cells #[.int .i64 ((rd_T31 l0 x59_3).f0), .int .i64 ((rd_T31 l0 x59_3).f1), .int .i64 ((rd_T31 l0 x59_3).f2), .int .i64 ((rd_T31 l0 x59_3).f3), .int .i64 ((rd_T31 l0 x59_3).f4), .int .i64 ((rd_T31 l0 x59_3).f5)] 31 (0, 0)) (fb_ BK211.out) hb); have n2_ := Aside0.mk (below_step (bel_ HB.out) hb); have n3_ := Aside0.mk (hbox); have n4_ := Aside0.mk ((by rw [hg]; exact (below_size (bel_ HB.out)) : w.heap.size ≤ gb213)); have n5_ := Aside0.mk ((by rw [hg]; exact (below_size (bel_ HB.out)) : w.heap.size ≤ gb213)); have n6_ := Aside0.mk ((by rw [hg]; exact Nat.ne_of_lt (blk_lt (g := gb211) (o := .cells #[.int .i64 ((rd_T31 l0 x59_3).f0), .int .i64 ((rd_T31 l0 x59_3).f1), .int .i64 ((rd_T31 l0 x59_3).f2), .int .i64 ((rd_T31 l0 x59_3).f3), .int .i64 ((rd_T31 l0 x59_3).f4), .int .i64 ((rd_T31 l0 x59_3).f5)] 31 (0, 0)) (fb_ BK211.out)) : gb211 ≠ gb213)); have n7_ := Aside0.mk ((by rw [hg]; exact Nat.ne_of_gt (blk_lt (g := gb211) (o := .cells #[.int .i64 ((rd_T31 l0 x59_3).f0), .int .i64 ((rd_T31 l0 x59_3).f1), .int .i64 ((rd_T31 l0 x59_3).f2), .int .i64 ((rd_T31 l0 x59_3).f3), .int .i64 ((rd_T31 l0 x59_3).f4), .int .i64 ((rd_T31 l0 x59_3).f5)] 31 (0, 0)) (fb_ BK211.out)) : gb213 ≠ gb211)); clear HO_11; clear BK211; clear HB; have HO_11 := n0_; have BK211 := n1_; have HB := n2_; have BK213 := n3_; have GW213 := n4_; have GE213 := n5_; have NB211_213 := n6_; have NB213_211 := n7_; clear n0_ n1_ n2_ n3_ n4_ n5_ n6_ n7_; clear hb hbox hg; have hnb56 := NB213_211.out; have hnc56 := NB211_213.out; have hcz57_0 : w55.cell? ⟨gb213, 0, none⟩ = some (.int .i64 0) := (blk_cell BK213.out 0).trans rfl; have hcz57_1 : w55.cell? ⟨gb213, 1, none⟩ = some (.int .i64 0) := (blk_cell BK213.out 1).trans rfl; have hcz57_2 : w55.cell? ⟨gb213, 2, none⟩ = some (.int .i64 0) := (blk_cell BK213.out 2).trans rfl; have hcz57_3 : w55.cell? ⟨gb213, 3, none⟩ = some (.int .i64 0) := (blk_cell BK213.out 3).trans rfl; have hcz57_4 : w55.cell? ⟨gb213, 4, none⟩ = some (.int .i64 0) := (blk_cell BK213.out 4).trans rfl; have hcz57_5 : w55.cell? ⟨gb213, 5, none⟩ = some (.int .i64 0) := (blk_cell BK213.out 5).trans rfl; have hfz57_0 := blk_frozen BK213.out 0; have hfz57_1 := blk_frozen BK213.out 1; have hfz57_2 := blk_frozen BK213.out 2; have hfz57_3 := blk_frozen BK213.out 3; have hfz57_4 := blk_frozen BK213.out 4; have hfz57_5 := blk_frozen BK213.out 5))
                  have n0_ : Aside0 (Kd.R (Kd.int .i64) 3 ((((((w55.setCell ⟨gb213, 0, none⟩ (.int .i64 ((rd_T31 l0 x66_4).f0))).setCell ⟨gb213, 1, none⟩ (.int .i64 ((rd_T31 l0 x66_4).f1))).setCell ⟨gb213, 2, none⟩ (.int .i64 ((rd_T31 l0 x66_4).f2))).setCell ⟨gb213, 3, none⟩ (.int .i64 ((rd_T31 l0 x66_4).f3))).setCell ⟨gb213, 4, none⟩ (.int .i64 ((rd_T31 l0 x66_4).f4))).setCell ⟨gb213, 5, none⟩ (.int .i64 ((rd_T31 l0 x66_4).f5))) w.heap.size (fun _ => True) u11 x11_4) := ⟨by (with_reducible repeat (first | apply Kd.R_alloc | apply Kd.R_drewN | apply Kd.R_drew)); exact Kd.R_mono (Kd.R_far (p := ⟨gb213, 5, none⟩) (Kd.R_far (p := ⟨gb213, 4, none⟩) (Kd.R_far (p := ⟨gb213, 3, none⟩) (Kd.R_far (p := ⟨gb213, 2, none⟩) (Kd.R_far (p := ⟨gb213, 1, none⟩) (Kd.R_far (p := ⟨gb213, 0, none⟩) (Kd.R_types HO_11.out BK213.out (by decide)) (fun _ hk => hk.2) (.int .i64 ((rd_T31 l0 x66_4).f0))) (fun _ hk => hk.2) (.int .i64 ((rd_T31 l0 x66_4).f1))) (fun _ hk => hk.2) (.int .i64 ((rd_T31 l0 x66_4).f2))) (fun _ hk => hk.2) (.int .i64 ((rd_T31 l0 x66_4).f3))) (fun _ hk => hk.2) (.int .i64 ((rd_T31 l0 x66_4).f4))) (fun _ hk => hk.2) (.int .i64 ((rd_T31 l0 x66_4).f5))) (fun _ hk => trivial)⟩
                  have n1_ : Aside0 (((((((w55.setCell ⟨gb213, 0, none⟩ (.int .i64 ((rd_T31 l0 x66_4).f0))).setCell ⟨gb213, 1, none⟩ (.int .i64 ((rd_T31 l0 x66_4).f1))).setCell ⟨gb213, 2, none⟩ (.int .i64 ((rd_T31 l0 x66_4).f2))).setCell ⟨gb213, 3, none⟩ (.int .i64 ((rd_T31 l0 x66_4).f3))).setCell ⟨gb213, 4, none⟩ (.int .i64 ((rd_T31 l0 x66_4).f4))).setCell ⟨gb213, 5, none⟩ (.int .i64 ((rd_T31 l0 x66_4).f5))).heap[gb211]? = some (.cells #[.int .i64 ((rd_T31 l0 x59_3).f0), .int .i64 ((rd_T31 l0 x59_3).f1), .int .i64 ((rd_T31 l0 x59_3).f2), .int .i64 ((rd_T31 l0 x59_3).f3), .int .i64 ((rd_T31 l0 x59_3).f4), .int .i64 ((rd_T31 l0 x59_3).f5)] 31 (0, 0))) := ⟨by (with_reducible repeat (first | refine blk_drewN ?_ _ | refine blk_drew ?_ | refine blk_alloc ?_ _)); refine blk_far ?_ NB211_213.out _; (with_reducible repeat (first | refine blk_drewN ?_ _ | refine blk_drew ?_ | refine blk_alloc ?_ _)); refine blk_far ?_ NB211_213.out _; (with_reducible repeat (first | refine blk_drewN ?_ _ | refine blk_drew ?_ | refine blk_alloc ?_ _)); refine blk_far ?_ NB211_213.out _; (with_reducible repeat (first | refine blk_drewN ?_ _ | refine blk_drew ?_ | refine blk_alloc ?_ _)); refine blk_far ?_ NB211_213.out _; (with_reducible repeat (first | refine blk_drewN ?_ _ | refine blk_drew ?_ | refine blk_alloc ?_ _)); refine blk_far ?_ NB211_213.out _; (with_reducible repeat (first | refine blk_drewN ?_ _ | refine blk_drew ?_ | refine blk_alloc ?_ _)); refine blk_far ?_ NB211_213.out _; (with_reducible repeat (first | refine blk_drewN ?_ _ | refine blk_drew ?_ | refine blk_alloc ?_ _)); exact BK211.out⟩
                  have n2_ : Aside0 (((((((w55.setCell ⟨gb213, 0, none⟩ (.int .i64 ((rd_T31 l0 x66_4).f0))).setCell ⟨gb213, 1, none⟩ (.int .i64 ((rd_T31 l0 x66_4).f1))).setCell ⟨gb213, 2, none⟩ (.int .i64 ((rd_T31 l0 x66_4).f2))).setCell ⟨gb213, 3, none⟩ (.int .i64 ((rd_T31 l0 x66_4).f3))).setCell ⟨gb213, 4, none⟩ (.int .i64 ((rd_T31 l0 x66_4).f4))).setCell ⟨gb213, 5, none⟩ (.int .i64 ((rd_T31 l0 x66_4).f5))).heap[gb213]? = some (.cells #[.int .i64 ((rd_T31 l0 x66_4).f0), .int .i64 ((rd_T31 l0 x66_4).f1), .int .i64 ((rd_T31 l0 x66_4).f2), .int .i64 ((rd_T31 l0 x66_4).f3), .int .i64 ((rd_T31 l0 x66_4).f4), .int .i64 ((rd_T31 l0 x66_4).f5)] 31 (0, 0))) := ⟨by (with_reducible repeat (first | refine blk_drewN ?_ _ | refine blk_drew ?_ | refine blk_alloc ?_ _)); refine blk_put (cs := #[.int .i64 ((rd_T31 l0 x66_4).f0), .int .i64 ((rd_T31 l0 x66_4).f1), .int .i64 ((rd_T31 l0 x66_4).f2), .int .i64 ((rd_T31 l0 x66_4).f3), .int .i64 ((rd_T31 l0 x66_4).f4), .int .i64 0]) ?_ 5 _ rfl; (with_reducible repeat (first | refine blk_drewN ?_ _ | refine blk_drew ?_ | refine blk_alloc ?_ _)); refine blk_put (cs := #[.int .i64 ((rd_T31 l0 x66_4).f0), .int .i64 ((rd_T31 l0 x66_4).f1), .int .i64 ((rd_T31 l0 x66_4).f2), .int .i64 ((rd_T31 l0 x66_4).f3), .int .i64 0, .int .i64 0]) ?_ 4 _ rfl; (with_reducible repeat (first | refine blk_drewN ?_ _ | refine blk_drew ?_ | refine blk_alloc ?_ _)); refine blk_put (cs := #[.int .i64 ((rd_T31 l0 x66_4).f0), .int .i64 ((rd_T31 l0 x66_4).f1), .int .i64 ((rd_T31 l0 x66_4).f2), .int .i64 0, .int .i64 0, .int .i64 0]) ?_ 3 _ rfl; (with_reducible repeat (first | refine blk_drewN ?_ _ | refine blk_drew ?_ | refine blk_alloc ?_ _)); refine blk_put (cs := #[.int .i64 ((rd_T31 l0 x66_4).f0), .int .i64 ((rd_T31 l0 x66_4).f1), .int .i64 0, .int .i64 0, .int .i64 0, .int .i64 0]) ?_ 2 _ rfl; (with_reducible repeat (first | refine blk_drewN ?_ _ | refine blk_drew ?_ | refine blk_alloc ?_ _)); refine blk_put (cs := #[.int .i64 ((rd_T31 l0 x66_4).f0), .int .i64 0, .int .i64 0, .int .i64 0, .int .i64 0, .int .i64 0]) ?_ 1 _ rfl; (with_reducible repeat (first | refine blk_drewN ?_ _ | refine blk_drew ?_ | refine blk_alloc ?_ _)); refine blk_put (cs := #[.int .i64 0, .int .i64 0, .int .i64 0, .int .i64 0, .int .i64 0, .int .i64 0]) ?_ 0 _ rfl; (with_reducible repeat (first | refine blk_drewN ?_ _ | refine blk_drew ?_ | refine blk_alloc ?_ _)); exact BK213.out⟩
                  have n3_ : Aside0 (Below w.heap.size w ((((((w55.setCell ⟨gb213, 0, none⟩ (.int .i64 ((rd_T31 l0 x66_4).f0))).setCell ⟨gb213, 1, none⟩ (.int .i64 ((rd_T31 l0 x66_4).f1))).setCell ⟨gb213, 2, none⟩ (.int .i64 ((rd_T31 l0 x66_4).f2))).setCell ⟨gb213, 3, none⟩ (.int .i64 ((rd_T31 l0 x66_4).f3))).setCell ⟨gb213, 4, none⟩ (.int .i64 ((rd_T31 l0 x66_4).f4))).setCell ⟨gb213, 5, none⟩ (.int .i64 ((rd_T31 l0 x66_4).f5)))) := ⟨bel_ HB.out⟩
                  (try clear HO_11)
                  (try clear BK211)
                  (try clear BK213)
                  (try clear HB)
                  generalize ((((((w55.setCell ⟨gb213, 0, none⟩ (.int .i64 ((rd_T31 l0 x66_4).f0))).setCell ⟨gb213, 1, none⟩ (.int .i64 ((rd_T31 l0 x66_4).f1))).setCell ⟨gb213, 2, none⟩ (.int .i64 ((rd_T31 l0 x66_4).f2))).setCell ⟨gb213, 3, none⟩ (.int .i64 ((rd_T31 l0 x66_4).f3))).setCell ⟨gb213, 4, none⟩ (.int .i64 ((rd_T31 l0 x66_4).f4))).setCell ⟨gb213, 5, none⟩ (.int .i64 ((rd_T31 l0 x66_4).f5))) = w58 at n0_ n1_ n2_ n3_ ⊢
                  have HO_11 := n0_
                  have BK211 := n1_
                  have BK213 := n2_
                  have HB := n3_
                  clear n0_ n1_ n2_ n3_
                  have n0_ := Aside0.mk (Kd.R_drew HO_11.out)
                  have n1_ := Aside0.mk (blk_drew BK211.out)
                  have n2_ := Aside0.mk (blk_drew BK213.out)
                  have n3_ := Aside0.mk (below_drew1 HB.out)
                  clear HO_11
                  clear BK211
                  clear BK213
                  clear HB
                  have HO_11 := n0_
                  have BK211 := n1_
                  have BK213 := n2_
                  have HB := n3_
                  clear n0_ n1_ n2_ n3_
                  refine start_ (n := 24) (S := fun w' => w'.cell? ⟨gb211, 0, none⟩ = some (.int .i64 ((rd_T31 l0 x59_3).f0)) ∧ w'.cell? ⟨gb211, 1, none⟩ = some (.int .i64 ((rd_T31 l0 x59_3).f1)) ∧ w'.cell? ⟨gb211, 2, none⟩ = some (.int .i64 ((rd_T31 l0 x59_3).f2)) ∧ w'.cell? ⟨gb211, 3, none⟩ = some (.int .i64 ((rd_T31 l0 x59_3).f3)) ∧ w'.cell? ⟨gb211, 4, none⟩ = some (.int .i64 ((rd_T31 l0 x59_3).f4)) ∧ w'.cell? ⟨gb211, 5, none⟩ = some (.int .i64 ((rd_T31 l0 x59_3).f5)) ∧ w'.cell? ⟨gb213, 0, none⟩ = some (.int .i64 ((rd_T31 l0 x66_4).f0)) ∧ w'.cell? ⟨gb213, 1, none⟩ = some (.int .i64 ((rd_T31 l0 x66_4).f1)) ∧ w'.cell? ⟨gb213, 2, none⟩ = some (.int .i64 ((rd_T31 l0 x66_4).f2)) ∧ w'.cell? ⟨gb213, 3, none⟩ = some (.int .i64 ((rd_T31 l0 x66_4).f3)) ∧ w'.cell? ⟨gb213, 4, none⟩ = some (.int .i64 ((rd_T31 l0 x66_4).f4)) ∧ w'.cell? ⟨gb213, 5, none⟩ = some (.int .i64 ((rd_T31 l0 x66_4).f5))) (ds := []) (bs 24 0) (by kernel_rfl) rfl rfl ⟨(blk_cell BK211.out 0).trans rfl, (blk_cell BK211.out 1).trans rfl, (blk_cell BK211.out 2).trans rfl, (blk_cell BK211.out 3).trans rfl, (blk_cell BK211.out 4).trans rfl, (blk_cell BK211.out 5).trans rfl, (blk_cell BK213.out 0).trans rfl, (blk_cell BK213.out 1).trans rfl, (blk_cell BK213.out 2).trans rfl, (blk_cell BK213.out 3).trans rfl, (blk_cell BK213.out 4).trans rfl, (blk_cell BK213.out 5).trans rfl⟩ (fun hHeld => ?_); refine with_tabW impl_Missed.tab18 impl_Missed.bits18 (fun HT_ HW_ => ?_)
                  generalize w58.drew = w59 at HO_11 BK211 BK213 HB hHeld ⊢
                  refine pu_ 0 71 HT_ (bs 24 1) rfl rfl ?_
                  refine pu_ 2 73 HT_ (bs 24 5) rfl rfl ?_
                  refine take_ (i := 1) (N := some 72) (v := ?_) (a' := ?_) (bs 24 7) rfl rfl (take_ofW HT_.out HW_.out (by kernel_rfl)) (fun _ _ _ h => h) (Or.inl ⟨by rfl, ?_⟩) hHeld ?_ ?_
                  rotate_left
                  ·rintro w' ⟨s0, s1, s2, s3, s4, s5, s6, s7, s8, s9, s10, s11⟩
                   go_simp
                   with_reducible rfl
                  rotate_left
                  ·simp only [Act.put, sA_, sZ_, sS_, i64_w, i32_w]
                   rfl
                  refine take_ (i := 3) (N := some 74) (v := ?_) (a' := ?_) (bs 24 15) rfl rfl (take_ofW HT_.out HW_.out (by kernel_rfl)) (fun _ _ _ h => h) (Or.inl ⟨by rfl, ?_⟩) hHeld ?_ ?_
                  rotate_left
                  ·rintro w' ⟨s0, s1, s2, s3, s4, s5, s6, s7, s8, s9, s10, s11⟩
                   go_simp
                   with_reducible rfl
                  rotate_left
                  ·simp only [Act.put, sA_, sZ_, sS_, i64_w, i32_w]
                   rfl
                  refine pu_ 4 75 HT_ (bs 24 31) rfl rfl ?_
                  refine pu_ 5 76 HT_ (bs 24 63) rfl rfl ?_
                  refine pn_ 6 77 HT_ (bs 24 127) rfl rfl ?_
                  refine pn_ 7 78 HT_ (bs 24 255) rfl rfl ?_
                  refine pn_ 8 79 HT_ (bs 24 511) rfl rfl ?_
                  refine pn_ 9 80 HT_ (bs 24 1023) rfl rfl ?_
                  refine pu_ 10 81 HT_ (bs 24 2047) rfl rfl ?_
                  refine pu_ 11 82 HT_ (bs 24 4095) rfl rfl ?_
                  refine pn_ 12 83 HT_ (bs 24 8191) rfl rfl ?_
                  refine pn_ 13 84 HT_ (bs 24 16383) rfl rfl ?_
                  refine pn_ 14 85 HT_ (bs 24 32767) rfl rfl ?_
                  refine pn_ 15 86 HT_ (bs 24 65535) rfl rfl ?_
                  refine pn_ 16 87 HT_ (bs 24 131071) rfl rfl ?_
                  refine pn_ 17 88 HT_ (bs 24 262143) rfl rfl ?_
                  refine pn_ 18 89 HT_ (bs 24 524287) rfl rfl ?_
                  refine pn_ 19 90 HT_ (bs 24 1048575) rfl rfl ?_
                  refine pn_ 20 91 HT_ (bs 24 2097151) rfl rfl ?_
                  refine pn_ 21 92 HT_ (bs 24 4194303) rfl rfl ?_
                  refine pn_ 22 93 HT_ (bs 24 8388607) rfl rfl ?_
                  refine pu_ 23 94 HT_ (bs 24 16777215) rfl rfl ?_
                  refine done_ (done_of HT_.out (by kernel_rfl)) ?_
                  try go_wp2
                  go_roundg k4
                  case measure => have := HJ3.out; have := HK2.out; have := HK3.out; have := HK4.out; omega
                  case rel => exact ⟨(x11_4), (wrap64 (x66_4 + 1)), (by first | rfl | (simp; done) | (simp [*]; done) | (simp [wrap64]; done)), H', ⟨by have := HJ3.out; have := HK2.out; have := HK3.out; have := HK4.out; omega⟩, ⟨by (with_reducible repeat (first | apply Kd.R_alloc | apply Kd.R_drewN | apply Kd.R_drew)); exact HO_11.out⟩, ⟨by (with_reducible repeat (first | refine blk_drewN ?_ _ | refine blk_drew ?_ | refine blk_alloc ?_ _)); exact BK211.out⟩, ⟨bel_ HB.out⟩⟩
                 ·rw [if_neg c54] at H
                  have c54b0 : (((rd_T31 l0 x59_3).f0) == ((rd_T31 l0 x66_4).f0)) = false := beq_eq_false_iff_ne.mpr c54
                  have c54b1 : (((rd_T31 l0 x59_3).f0) != ((rd_T31 l0 x66_4).f0)) = true := bne_iff_ne.mpr c54
                  replace H := Option.bind_eq_some_iff.mp H
                  obtain ⟨t214, A600, H⟩ := H
                  replace H : (if t214 = true then (if 0 ≤ x59_3 then (if x59_3 < (l1.length : Int) then (if x66_4 < (l1.length : Int) then ((impl_changes.f ((rd_T31 l1 x59_3).f0) ((rd_T31 l1 x59_3).f1) ((rd_T31 l1 x59_3).f2) ((rd_T31 l1 x59_3).f3) ((rd_T31 l1 x59_3).f4) ((rd_T31 l1 x59_3).f5) ((rd_T31 l1 x66_4).f0) ((rd_T31 l1 x66_4).f1) ((rd_T31 l1 x66_4).f2) ((rd_T31 l1 x66_4).f3) ((rd_T31 l1 x66_4).f4) ((rd_T31 l1 x66_4).f5) a2).bind fun t217 => (if t217 = true then (impl_Missed.l2 k4 l0 l1 a2 x11_4 x59_3 l0 (l0.length : Int) x59_3 l0 (l0.length : Int) (wrap64 (x66_4 + 1)) ((rd_T31 l0 x59_3).f0) ((rd_T31 l0 x59_3).f1) ((rd_T31 l0 x59_3).f2) ((rd_T31 l0 x59_3).f3) ((rd_T31 l0 x59_3).f4) ((rd_T31 l0 x59_3).f5)) else (if x11_4.length < 17592186044416 then (impl_Missed.l2 k4 l0 l1 a2 (x11_4 ++ [wrap64 ((wrap64 (x59_3 * (l0.length : Int))) + x66_4)]) x59_3 l0 (l0.length : Int) x59_3 l0 (l0.length : Int) (wrap64 (x66_4 + 1)) ((rd_T31 l0 x59_3).f0) ((rd_T31 l0 x59_3).f1) ((rd_T31 l0 x59_3).f2) ((rd_T31 l0 x59_3).f3) ((rd_T31 l0 x59_3).f4) ((rd_T31 l0 x59_3).f5)) else (none)))) else (none)) else (none)) else (none)) else (impl_Missed.l2 k4 l0 l1 a2 x11_4 x59_3 l0 (l0.length : Int) x59_3 l0 (l0.length : Int) (wrap64 (x66_4 + 1)) ((rd_T31 l0 x59_3).f0) ((rd_T31 l0 x59_3).f1) ((rd_T31 l0 x59_3).f2) ((rd_T31 l0 x59_3).f3) ((rd_T31 l0 x59_3).f4) ((rd_T31 l0 x59_3).f5))) = some (r1, r2) := H
                  have A60 := Aside0.mk A600
                  clear A600
                  by_cases c61 : t214 = true
                  ·subst c61
                   have H1 : (if 0 ≤ x59_3 then (if x59_3 < (l1.length : Int) then (if x66_4 < (l1.length : Int) then ((impl_changes.f ((rd_T31 l1 x59_3).f0) ((rd_T31 l1 x59_3).f1) ((rd_T31 l1 x59_3).f2) ((rd_T31 l1 x59_3).f3) ((rd_T31 l1 x59_3).f4) ((rd_T31 l1 x59_3).f5) ((rd_T31 l1 x66_4).f0) ((rd_T31 l1 x66_4).f1) ((rd_T31 l1 x66_4).f2) ((rd_T31 l1 x66_4).f3) ((rd_T31 l1 x66_4).f4) ((rd_T31 l1 x66_4).f5) a2).bind fun t217 => (if t217 = true then (impl_Missed.l2 k4 l0 l1 a2 x11_4 x59_3 l0 (l0.length : Int) x59_3 l0 (l0.length : Int) (wrap64 (x66_4 + 1)) ((rd_T31 l0 x59_3).f0) ((rd_T31 l0 x59_3).f1) ((rd_T31 l0 x59_3).f2) ((rd_T31 l0 x59_3).f3) ((rd_T31 l0 x59_3).f4) ((rd_T31 l0 x59_3).f5)) else (if x11_4.length < 17592186044416 then (impl_Missed.l2 k4 l0 l1 a2 (x11_4 ++ [wrap64 ((wrap64 (x59_3 * (l0.length : Int))) + x66_4)]) x59_3 l0 (l0.length : Int) x59_3 l0 (l0.length : Int) (wrap64 (x66_4 + 1)) ((rd_T31 l0 x59_3).f0) ((rd_T31 l0 x59_3).f1) ((rd_T31 l0 x59_3).f2) ((rd_T31 l0 x59_3).f3) ((rd_T31 l0 x59_3).f4) ((rd_T31 l0 x59_3).f5)) else (none)))) else (none)) else (none)) else (none)) = some (r1, r2) := by rw [if_pos rfl] at H; exact H
                   clear H
                   have H := H1
                   clear H1
                   by_cases c62 : 0 ≤ x59_3
                   ·rw [if_pos c62] at H
                    have c62b0 : decide (0 ≤ x59_3) = true := decide_eq_true c62
                    clear c62
                    by_cases c63 : x59_3 < (l1.length : Int)
                    ·rw [if_pos c63] at H
                     have c63b0 : decide (x59_3 < (l1.length : Int)) = true := decide_eq_true c63
                     clear c63
                     by_cases c64 : x66_4 < (l1.length : Int)
                     ·rw [if_pos c64] at H
                      have c64b0 : decide (x66_4 < (l1.length : Int)) = true := decide_eq_true c64
                      clear c64
                      replace H := Option.bind_eq_some_iff.mp H
                      obtain ⟨t217, A650, H⟩ := H
                      replace H : (if t217 = true then (impl_Missed.l2 k4 l0 l1 a2 x11_4 x59_3 l0 (l0.length : Int) x59_3 l0 (l0.length : Int) (wrap64 (x66_4 + 1)) ((rd_T31 l0 x59_3).f0) ((rd_T31 l0 x59_3).f1) ((rd_T31 l0 x59_3).f2) ((rd_T31 l0 x59_3).f3) ((rd_T31 l0 x59_3).f4) ((rd_T31 l0 x59_3).f5)) else (if x11_4.length < 17592186044416 then (impl_Missed.l2 k4 l0 l1 a2 (x11_4 ++ [wrap64 ((wrap64 (x59_3 * (l0.length : Int))) + x66_4)]) x59_3 l0 (l0.length : Int) x59_3 l0 (l0.length : Int) (wrap64 (x66_4 + 1)) ((rd_T31 l0 x59_3).f0) ((rd_T31 l0 x59_3).f1) ((rd_T31 l0 x59_3).f2) ((rd_T31 l0 x59_3).f3) ((rd_T31 l0 x59_3).f4) ((rd_T31 l0 x59_3).f5)) else (none))) = some (r1, r2) := H
                      have A65 := Aside0.mk A650
                      clear A650
                      by_cases c66 : t217 = true
                      ·subst c66
                       have H1 : (impl_Missed.l2 k4 l0 l1 a2 x11_4 x59_3 l0 (l0.length : Int) x59_3 l0 (l0.length : Int) (wrap64 (x66_4 + 1)) ((rd_T31 l0 x59_3).f0) ((rd_T31 l0 x59_3).f1) ((rd_T31 l0 x59_3).f2) ((rd_T31 l0 x59_3).f3) ((rd_T31 l0 x59_3).f4) ((rd_T31 l0 x59_3).f5)) = some (r1, r2) := by rw [if_pos rfl] at H; exact H
                       clear H
                       have H := H1
                       clear H1
                       have H' := Aside0.mk H
                       clear H
                       have p212 : 0 ≤ (x66_4 : Int) := of_decide_eq_true (by first | (with_reducible assumption) | assumption)
                       have q212 : x66_4 < (l0.length : Int) := of_decide_eq_true (by first | (with_reducible assumption) | assumption)
                       obtain ⟨ad212, e212, hx212_0, hx212_1, hx212_2, hx212_3, hx212_4, hx212_5⟩ := at_T31 HR0.out x66_4 p212 q212
                       obtain rfl : ad210 = ad212 := (by injection e212)
                       replace hx212_0 := (HB.out.cell (World.block_lt_of_cell? w _ hx212_0)).trans hx212_0
                       replace hx212_1 := (HB.out.cell (World.block_lt_of_cell? w _ hx212_1)).trans hx212_1
                       replace hx212_2 := (HB.out.cell (World.block_lt_of_cell? w _ hx212_2)).trans hx212_2
                       replace hx212_3 := (HB.out.cell (World.block_lt_of_cell? w _ hx212_3)).trans hx212_3
                       replace hx212_4 := (HB.out.cell (World.block_lt_of_cell? w _ hx212_4)).trans hx212_4
                       replace hx212_5 := (HB.out.cell (World.block_lt_of_cell? w _ hx212_5)).trans hx212_5
                       replace p212 := eq_true p212
                       replace q212 := eq_true q212
                       try go_wp2_with (first | ((with_reducible refine gate_dst (N := 15) rfl ?_); (try (refine gate_guard (by rfl) ?_; dsimp only)); refine box_event ?hg (N := 15) ?hd (cs := #[.int .i64 0, .int .i64 0, .int .i64 0, .int .i64 0, .int .i64 0, .int .i64 0]) (t := 31) ?hr ?_; (case hd => rfl); (case hg => rfl); (case hr => first | (go_simp; done) | (go_simp; rfl)); intro gb213 hg w67 hbox hb; have n0_ := Aside0.mk (Kd.R_below (fr_ HO_11.out) hb); have n1_ := Aside0.mk (blk_below (g := gb211) (o := .cells #[.int .i64 ((rd_T31 l0 x59_3).f0), .int .i64 ((rd_T31 l0 x59_3).f1), .int .i64 ((rd_T31 l0 x59_3).f2), .int .i64 ((rd_T31 l0 x59_3).f3), .int .i64 ((rd_T31 l0 x59_3).f4), .int .i64 ((rd_T31 l0 x59_3).f5)] 31 (0, 0)) (fb_ BK211.out) hb); have n2_ := Aside0.mk (below_step (bel_ HB.out) hb); have n3_ := Aside0.mk (hbox); have n4_ := Aside0.mk ((by rw [hg]; exact (below_size (bel_ HB.out)) : w.heap.size ≤ gb213)); have n5_ := Aside0.mk ((by rw [hg]; exact (below_size (bel_ HB.out)) : w.heap.size ≤ gb213)); have n6_ := Aside0.mk ((by rw [hg]; exact Nat.ne_of_lt (blk_lt (g := gb211) (o := .cells #[.int .i64 ((rd_T31 l0 x59_3).f0), .int .i64 ((rd_T31 l0 x59_3).f1), .int .i64 ((rd_T31 l0 x59_3).f2), .int .i64 ((rd_T31 l0 x59_3).f3), .int .i64 ((rd_T31 l0 x59_3).f4), .int .i64 ((rd_T31 l0 x59_3).f5)] 31 (0, 0)) (fb_ BK211.out)) : gb211 ≠ gb213)); have n7_ := Aside0.mk ((by rw [hg]; exact Nat.ne_of_gt (blk_lt (g := gb211) (o := .cells #[.int .i64 ((rd_T31 l0 x59_3).f0), .int .i64 ((rd_T31 l0 x59_3).f1), .int .i64 ((rd_T31 l0 x59_3).f2), .int .i64 ((rd_T31 l0 x59_3).f3), .int .i64 ((rd_T31 l0 x59_3).f4), .int .i64 ((rd_T31 l0 x59_3).f5)] 31 (0, 0)) (fb_ BK211.out)) : gb213 ≠ gb211)); clear HO_11; clear BK211; clear HB; have HO_11 := n0_; have BK211 := n1_; have HB := n2_; have BK213 := n3_; have GW213 := n4_; have GE213 := n5_; have NB211_213 := n6_; have NB213_211 := n7_; clear n0_ n1_ n2_ n3_ n4_ n5_ n6_ n7_; clear hb hbox hg; have hnb68 := NB213_211.out; have hnc68 := NB211_213.out; have hcz69_0 : w67.cell? ⟨gb213, 0, none⟩ = some (.int .i64 0) := (blk_cell BK213.out 0).trans rfl; have hcz69_1 : w67.cell? ⟨gb213, 1, none⟩ = some (.int .i64 0) := (blk_cell BK213.out 1).trans rfl; have hcz69_2 : w67.cell? ⟨gb213, 2, none⟩ = some (.int .i64 0) := (blk_cell BK213.out 2).trans rfl; have hcz69_3 : w67.cell? ⟨gb213, 3, none⟩ = some (.int .i64 0) := (blk_cell BK213.out 3).trans rfl; have hcz69_4 : w67.cell? ⟨gb213, 4, none⟩ = some (.int .i64 0) := (blk_cell BK213.out 4).trans rfl; have hcz69_5 : w67.cell? ⟨gb213, 5, none⟩ = some (.int .i64 0) := (blk_cell BK213.out 5).trans rfl; have hfz69_0 := blk_frozen BK213.out 0; have hfz69_1 := blk_frozen BK213.out 1; have hfz69_2 := blk_frozen BK213.out 2; have hfz69_3 := blk_frozen BK213.out 3; have hfz69_4 := blk_frozen BK213.out 4; have hfz69_5 := blk_frozen BK213.out 5))
                       have n0_ : Aside0 (Kd.R (Kd.int .i64) 3 ((((((w67.setCell ⟨gb213, 0, none⟩ (.int .i64 ((rd_T31 l0 x66_4).f0))).setCell ⟨gb213, 1, none⟩ (.int .i64 ((rd_T31 l0 x66_4).f1))).setCell ⟨gb213, 2, none⟩ (.int .i64 ((rd_T31 l0 x66_4).f2))).setCell ⟨gb213, 3, none⟩ (.int .i64 ((rd_T31 l0 x66_4).f3))).setCell ⟨gb213, 4, none⟩ (.int .i64 ((rd_T31 l0 x66_4).f4))).setCell ⟨gb213, 5, none⟩ (.int .i64 ((rd_T31 l0 x66_4).f5))) w.heap.size (fun _ => True) u11 x11_4) := ⟨by (with_reducible repeat (first | apply Kd.R_alloc | apply Kd.R_drewN | apply Kd.R_drew)); exact Kd.R_mono (Kd.R_far (p := ⟨gb213, 5, none⟩) (Kd.R_far (p := ⟨gb213, 4, none⟩) (Kd.R_far (p := ⟨gb213, 3, none⟩) (Kd.R_far (p := ⟨gb213, 2, none⟩) (Kd.R_far (p := ⟨gb213, 1, none⟩) (Kd.R_far (p := ⟨gb213, 0, none⟩) (Kd.R_types HO_11.out BK213.out (by decide)) (fun _ hk => hk.2) (.int .i64 ((rd_T31 l0 x66_4).f0))) (fun _ hk => hk.2) (.int .i64 ((rd_T31 l0 x66_4).f1))) (fun _ hk => hk.2) (.int .i64 ((rd_T31 l0 x66_4).f2))) (fun _ hk => hk.2) (.int .i64 ((rd_T31 l0 x66_4).f3))) (fun _ hk => hk.2) (.int .i64 ((rd_T31 l0 x66_4).f4))) (fun _ hk => hk.2) (.int .i64 ((rd_T31 l0 x66_4).f5))) (fun _ hk => trivial)⟩
                       have n1_ : Aside0 (((((((w67.setCell ⟨gb213, 0, none⟩ (.int .i64 ((rd_T31 l0 x66_4).f0))).setCell ⟨gb213, 1, none⟩ (.int .i64 ((rd_T31 l0 x66_4).f1))).setCell ⟨gb213, 2, none⟩ (.int .i64 ((rd_T31 l0 x66_4).f2))).setCell ⟨gb213, 3, none⟩ (.int .i64 ((rd_T31 l0 x66_4).f3))).setCell ⟨gb213, 4, none⟩ (.int .i64 ((rd_T31 l0 x66_4).f4))).setCell ⟨gb213, 5, none⟩ (.int .i64 ((rd_T31 l0 x66_4).f5))).heap[gb211]? = some (.cells #[.int .i64 ((rd_T31 l0 x59_3).f0), .int .i64 ((rd_T31 l0 x59_3).f1), .int .i64 ((rd_T31 l0 x59_3).f2), .int .i64 ((rd_T31 l0 x59_3).f3), .int .i64 ((rd_T31 l0 x59_3).f4), .int .i64 ((rd_T31 l0 x59_3).f5)] 31 (0, 0))) := ⟨by (with_reducible repeat (first | refine blk_drewN ?_ _ | refine blk_drew ?_ | refine blk_alloc ?_ _)); refine blk_far ?_ NB211_213.out _; (with_reducible repeat (first | refine blk_drewN ?_ _ | refine blk_drew ?_ | refine blk_alloc ?_ _)); refine blk_far ?_ NB211_213.out _; (with_reducible repeat (first | refine blk_drewN ?_ _ | refine blk_drew ?_ | refine blk_alloc ?_ _)); refine blk_far ?_ NB211_213.out _; (with_reducible repeat (first | refine blk_drewN ?_ _ | refine blk_drew ?_ | refine blk_alloc ?_ _)); refine blk_far ?_ NB211_213.out _; (with_reducible repeat (first | refine blk_drewN ?_ _ | refine blk_drew ?_ | refine blk_alloc ?_ _)); refine blk_far ?_ NB211_213.out _; (with_reducible repeat (first | refine blk_drewN ?_ _ | refine blk_drew ?_ | refine blk_alloc ?_ _)); refine blk_far ?_ NB211_213.out _; (with_reducible repeat (first | refine blk_drewN ?_ _ | refine blk_drew ?_ | refine blk_alloc ?_ _)); exact BK211.out⟩
                       have n2_ : Aside0 (((((((w67.setCell ⟨gb213, 0, none⟩ (.int .i64 ((rd_T31 l0 x66_4).f0))).setCell ⟨gb213, 1, none⟩ (.int .i64 ((rd_T31 l0 x66_4).f1))).setCell ⟨gb213, 2, none⟩ (.int .i64 ((rd_T31 l0 x66_4).f2))).setCell ⟨gb213, 3, none⟩ (.int .i64 ((rd_T31 l0 x66_4).f3))).setCell ⟨gb213, 4, none⟩ (.int .i64 ((rd_T31 l0 x66_4).f4))).setCell ⟨gb213, 5, none⟩ (.int .i64 ((rd_T31 l0 x66_4).f5))).heap[gb213]? = some (.cells #[.int .i64 ((rd_T31 l0 x66_4).f0), .int .i64 ((rd_T31 l0 x66_4).f1), .int .i64 ((rd_T31 l0 x66_4).f2), .int .i64 ((rd_T31 l0 x66_4).f3), .int .i64 ((rd_T31 l0 x66_4).f4), .int .i64 ((rd_T31 l0 x66_4).f5)] 31 (0, 0))) := ⟨by (with_reducible repeat (first | refine blk_drewN ?_ _ | refine blk_drew ?_ | refine blk_alloc ?_ _)); refine blk_put (cs := #[.int .i64 ((rd_T31 l0 x66_4).f0), .int .i64 ((rd_T31 l0 x66_4).f1), .int .i64 ((rd_T31 l0 x66_4).f2), .int .i64 ((rd_T31 l0 x66_4).f3), .int .i64 ((rd_T31 l0 x66_4).f4), .int .i64 0]) ?_ 5 _ rfl; (with_reducible repeat (first | refine blk_drewN ?_ _ | refine blk_drew ?_ | refine blk_alloc ?_ _)); refine blk_put (cs := #[.int .i64 ((rd_T31 l0 x66_4).f0), .int .i64 ((rd_T31 l0 x66_4).f1), .int .i64 ((rd_T31 l0 x66_4).f2), .int .i64 ((rd_T31 l0 x66_4).f3), .int .i64 0, .int .i64 0]) ?_ 4 _ rfl; (with_reducible repeat (first | refine blk_drewN ?_ _ | refine blk_drew ?_ | refine blk_alloc ?_ _)); refine blk_put (cs := #[.int .i64 ((rd_T31 l0 x66_4).f0), .int .i64 ((rd_T31 l0 x66_4).f1), .int .i64 ((rd_T31 l0 x66_4).f2), .int .i64 0, .int .i64 0, .int .i64 0]) ?_ 3 _ rfl; (with_reducible repeat (first | refine blk_drewN ?_ _ | refine blk_drew ?_ | refine blk_alloc ?_ _)); refine blk_put (cs := #[.int .i64 ((rd_T31 l0 x66_4).f0), .int .i64 ((rd_T31 l0 x66_4).f1), .int .i64 0, .int .i64 0, .int .i64 0, .int .i64 0]) ?_ 2 _ rfl; (with_reducible repeat (first | refine blk_drewN ?_ _ | refine blk_drew ?_ | refine blk_alloc ?_ _)); refine blk_put (cs := #[.int .i64 ((rd_T31 l0 x66_4).f0), .int .i64 0, .int .i64 0, .int .i64 0, .int .i64 0, .int .i64 0]) ?_ 1 _ rfl; (with_reducible repeat (first | refine blk_drewN ?_ _ | refine blk_drew ?_ | refine blk_alloc ?_ _)); refine blk_put (cs := #[.int .i64 0, .int .i64 0, .int .i64 0, .int .i64 0, .int .i64 0, .int .i64 0]) ?_ 0 _ rfl; (with_reducible repeat (first | refine blk_drewN ?_ _ | refine blk_drew ?_ | refine blk_alloc ?_ _)); exact BK213.out⟩
                       have n3_ : Aside0 (Below w.heap.size w ((((((w67.setCell ⟨gb213, 0, none⟩ (.int .i64 ((rd_T31 l0 x66_4).f0))).setCell ⟨gb213, 1, none⟩ (.int .i64 ((rd_T31 l0 x66_4).f1))).setCell ⟨gb213, 2, none⟩ (.int .i64 ((rd_T31 l0 x66_4).f2))).setCell ⟨gb213, 3, none⟩ (.int .i64 ((rd_T31 l0 x66_4).f3))).setCell ⟨gb213, 4, none⟩ (.int .i64 ((rd_T31 l0 x66_4).f4))).setCell ⟨gb213, 5, none⟩ (.int .i64 ((rd_T31 l0 x66_4).f5)))) := ⟨bel_ HB.out⟩
                       (try clear HO_11)
                       (try clear BK211)
                       (try clear BK213)
                       (try clear HB)
                       generalize ((((((w67.setCell ⟨gb213, 0, none⟩ (.int .i64 ((rd_T31 l0 x66_4).f0))).setCell ⟨gb213, 1, none⟩ (.int .i64 ((rd_T31 l0 x66_4).f1))).setCell ⟨gb213, 2, none⟩ (.int .i64 ((rd_T31 l0 x66_4).f2))).setCell ⟨gb213, 3, none⟩ (.int .i64 ((rd_T31 l0 x66_4).f3))).setCell ⟨gb213, 4, none⟩ (.int .i64 ((rd_T31 l0 x66_4).f4))).setCell ⟨gb213, 5, none⟩ (.int .i64 ((rd_T31 l0 x66_4).f5))) = w70 at n0_ n1_ n2_ n3_ ⊢
                       have HO_11 := n0_
                       have BK211 := n1_
                       have BK213 := n2_
                       have HB := n3_
                       clear n0_ n1_ n2_ n3_
                       have n0_ := Aside0.mk (Kd.R_drew HO_11.out)
                       have n1_ := Aside0.mk (blk_drew BK211.out)
                       have n2_ := Aside0.mk (blk_drew BK213.out)
                       have n3_ := Aside0.mk (below_drew1 HB.out)
                       clear HO_11
                       clear BK211
                       clear BK213
                       clear HB
                       have HO_11 := n0_
                       have BK211 := n1_
                       have BK213 := n2_
                       have HB := n3_
                       clear n0_ n1_ n2_ n3_
                       have p215 : 0 ≤ (x59_3 : Int) := of_decide_eq_true (by first | (with_reducible assumption) | assumption)
                       have q215 : x59_3 < (l1.length : Int) := of_decide_eq_true (by first | (with_reducible assumption) | assumption)
                       obtain ⟨ad215, e215, hx215_0, hx215_1, hx215_2, hx215_3, hx215_4, hx215_5⟩ := at_T31 HR1.out x59_3 p215 q215
                       have hw215_5 := hx215_5
                       have hw215_4 := hx215_4
                       have hw215_3 := hx215_3
                       have hw215_2 := hx215_2
                       have hw215_1 := hx215_1
                       have hw215_0 := hx215_0
                       cases e215
                       replace hx215_0 := (HB.out.cell (World.block_lt_of_cell? w _ hx215_0)).trans hx215_0
                       replace hx215_1 := (HB.out.cell (World.block_lt_of_cell? w _ hx215_1)).trans hx215_1
                       replace hx215_2 := (HB.out.cell (World.block_lt_of_cell? w _ hx215_2)).trans hx215_2
                       replace hx215_3 := (HB.out.cell (World.block_lt_of_cell? w _ hx215_3)).trans hx215_3
                       replace hx215_4 := (HB.out.cell (World.block_lt_of_cell? w _ hx215_4)).trans hx215_4
                       replace hx215_5 := (HB.out.cell (World.block_lt_of_cell? w _ hx215_5)).trans hx215_5
                       replace p215 := eq_true p215
                       replace q215 := eq_true q215
                       have p216 : 0 ≤ (x66_4 : Int) := of_decide_eq_true (by first | (with_reducible assumption) | assumption)
                       have q216 : x66_4 < (l1.length : Int) := of_decide_eq_true (by first | (with_reducible assumption) | assumption)
                       obtain ⟨ad216, e216, hx216_0, hx216_1, hx216_2, hx216_3, hx216_4, hx216_5⟩ := at_T31 HR1.out x66_4 p216 q216
                       have hw216_5 := hx216_5
                       have hw216_4 := hx216_4
                       have hw216_3 := hx216_3
                       have hw216_2 := hx216_2
                       have hw216_1 := hx216_1
                       have hw216_0 := hx216_0
                       obtain rfl : ad215 = ad216 := (by injection e216)
                       replace hx216_0 := (HB.out.cell (World.block_lt_of_cell? w _ hx216_0)).trans hx216_0
                       replace hx216_1 := (HB.out.cell (World.block_lt_of_cell? w _ hx216_1)).trans hx216_1
                       replace hx216_2 := (HB.out.cell (World.block_lt_of_cell? w _ hx216_2)).trans hx216_2
                       replace hx216_3 := (HB.out.cell (World.block_lt_of_cell? w _ hx216_3)).trans hx216_3
                       replace hx216_4 := (HB.out.cell (World.block_lt_of_cell? w _ hx216_4)).trans hx216_4
                       replace hx216_5 := (HB.out.cell (World.block_lt_of_cell? w _ hx216_5)).trans hx216_5
                       replace p216 := eq_true p216
                       replace q216 := eq_true q216
                       refine start_ (n := 24) (S := fun w' => w'.cell? ⟨gb211, 0, none⟩ = some (.int .i64 ((rd_T31 l0 x59_3).f0)) ∧ w'.cell? ⟨gb211, 1, none⟩ = some (.int .i64 ((rd_T31 l0 x59_3).f1)) ∧ w'.cell? ⟨gb211, 2, none⟩ = some (.int .i64 ((rd_T31 l0 x59_3).f2)) ∧ w'.cell? ⟨gb211, 3, none⟩ = some (.int .i64 ((rd_T31 l0 x59_3).f3)) ∧ w'.cell? ⟨gb211, 4, none⟩ = some (.int .i64 ((rd_T31 l0 x59_3).f4)) ∧ w'.cell? ⟨gb211, 5, none⟩ = some (.int .i64 ((rd_T31 l0 x59_3).f5)) ∧ w'.cell? ⟨gb213, 0, none⟩ = some (.int .i64 ((rd_T31 l0 x66_4).f0)) ∧ w'.cell? ⟨gb213, 1, none⟩ = some (.int .i64 ((rd_T31 l0 x66_4).f1)) ∧ w'.cell? ⟨gb213, 2, none⟩ = some (.int .i64 ((rd_T31 l0 x66_4).f2)) ∧ w'.cell? ⟨gb213, 3, none⟩ = some (.int .i64 ((rd_T31 l0 x66_4).f3)) ∧ w'.cell? ⟨gb213, 4, none⟩ = some (.int .i64 ((rd_T31 l0 x66_4).f4)) ∧ w'.cell? ⟨gb213, 5, none⟩ = some (.int .i64 ((rd_T31 l0 x66_4).f5)) ∧ w'.cell? (ad215.add ((x59_3).toNat * 6)) = some (.int .i64 ((rd_T31 l1 x59_3).f0)) ∧ w'.cell? ⟨(ad215.add ((x59_3).toNat * 6)).block, (ad215.add ((x59_3).toNat * 6)).off + 1, none⟩ = some (.int .i64 ((rd_T31 l1 x59_3).f1)) ∧ w'.cell? ⟨(ad215.add ((x59_3).toNat * 6)).block, (ad215.add ((x59_3).toNat * 6)).off + 2, none⟩ = some (.int .i64 ((rd_T31 l1 x59_3).f2)) ∧ w'.cell? ⟨(ad215.add ((x59_3).toNat * 6)).block, (ad215.add ((x59_3).toNat * 6)).off + 3, none⟩ = some (.int .i64 ((rd_T31 l1 x59_3).f3)) ∧ w'.cell? ⟨(ad215.add ((x59_3).toNat * 6)).block, (ad215.add ((x59_3).toNat * 6)).off + 4, none⟩ = some (.int .i64 ((rd_T31 l1 x59_3).f4)) ∧ w'.cell? ⟨(ad215.add ((x59_3).toNat * 6)).block, (ad215.add ((x59_3).toNat * 6)).off + 5, none⟩ = some (.int .i64 ((rd_T31 l1 x59_3).f5)) ∧ w'.cell? (ad215.add ((x66_4).toNat * 6)) = some (.int .i64 ((rd_T31 l1 x66_4).f0)) ∧ w'.cell? ⟨(ad215.add ((x66_4).toNat * 6)).block, (ad215.add ((x66_4).toNat * 6)).off + 1, none⟩ = some (.int .i64 ((rd_T31 l1 x66_4).f1)) ∧ w'.cell? ⟨(ad215.add ((x66_4).toNat * 6)).block, (ad215.add ((x66_4).toNat * 6)).off + 2, none⟩ = some (.int .i64 ((rd_T31 l1 x66_4).f2)) ∧ w'.cell? ⟨(ad215.add ((x66_4).toNat * 6)).block, (ad215.add ((x66_4).toNat * 6)).off + 3, none⟩ = some (.int .i64 ((rd_T31 l1 x66_4).f3)) ∧ w'.cell? ⟨(ad215.add ((x66_4).toNat * 6)).block, (ad215.add ((x66_4).toNat * 6)).off + 4, none⟩ = some (.int .i64 ((rd_T31 l1 x66_4).f4)) ∧ w'.cell? ⟨(ad215.add ((x66_4).toNat * 6)).block, (ad215.add ((x66_4).toNat * 6)).off + 5, none⟩ = some (.int .i64 ((rd_T31 l1 x66_4).f5))) (ds := []) (bs 24 0) (by kernel_rfl) rfl rfl ⟨(blk_cell BK211.out 0).trans rfl, (blk_cell BK211.out 1).trans rfl, (blk_cell BK211.out 2).trans rfl, (blk_cell BK211.out 3).trans rfl, (blk_cell BK211.out 4).trans rfl, (blk_cell BK211.out 5).trans rfl, (blk_cell BK213.out 0).trans rfl, (blk_cell BK213.out 1).trans rfl, (blk_cell BK213.out 2).trans rfl, (blk_cell BK213.out 3).trans rfl, (blk_cell BK213.out 4).trans rfl, (blk_cell BK213.out 5).trans rfl, ((HB.out.cell (World.block_lt_of_cell? w _ hw215_0)).trans hw215_0), ((HB.out.cell (World.block_lt_of_cell? w _ hw215_1)).trans hw215_1), ((HB.out.cell (World.block_lt_of_cell? w _ hw215_2)).trans hw215_2), ((HB.out.cell (World.block_lt_of_cell? w _ hw215_3)).trans hw215_3), ((HB.out.cell (World.block_lt_of_cell? w _ hw215_4)).trans hw215_4), ((HB.out.cell (World.block_lt_of_cell? w _ hw215_5)).trans hw215_5), ((HB.out.cell (World.block_lt_of_cell? w _ hw216_0)).trans hw216_0), ((HB.out.cell (World.block_lt_of_cell? w _ hw216_1)).trans hw216_1), ((HB.out.cell (World.block_lt_of_cell? w _ hw216_2)).trans hw216_2), ((HB.out.cell (World.block_lt_of_cell? w _ hw216_3)).trans hw216_3), ((HB.out.cell (World.block_lt_of_cell? w _ hw216_4)).trans hw216_4), ((HB.out.cell (World.block_lt_of_cell? w _ hw216_5)).trans hw216_5)⟩ (fun hHeld => ?_); refine with_tabW impl_Missed.tab18 impl_Missed.bits18 (fun HT_ HW_ => ?_)
                       generalize w70.drew = w71 at HO_11 BK211 BK213 HB hx215_0 hx215_1 hx215_2 hx215_3 hx215_4 hx215_5 hx216_0 hx216_1 hx216_2 hx216_3 hx216_4 hx216_5 hHeld ⊢
                       refine pu_ 0 71 HT_ (bs 24 1) rfl rfl ?_
                       refine pu_ 2 73 HT_ (bs 24 5) rfl rfl ?_
                       refine take_ (i := 1) (N := some 72) (v := ?_) (a' := ?_) (bs 24 7) rfl rfl (take_ofW HT_.out HW_.out (by kernel_rfl)) (fun _ _ _ h => h) (Or.inl ⟨by rfl, ?_⟩) hHeld ?_ ?_
                       rotate_left
                       ·rintro w' ⟨s0, s1, s2, s3, s4, s5, s6, s7, s8, s9, s10, s11, s12, s13, s14, s15, s16, s17, s18, s19, s20, s21, s22, s23⟩
                        go_simp
                        with_reducible rfl
                       rotate_left
                       ·simp only [Act.put, sA_, sZ_, sS_, i64_w, i32_w]
                        rfl
                       refine take_ (i := 3) (N := some 74) (v := ?_) (a' := ?_) (bs 24 15) rfl rfl (take_ofW HT_.out HW_.out (by kernel_rfl)) (fun _ _ _ h => h) (Or.inl ⟨by rfl, ?_⟩) hHeld ?_ ?_
                       rotate_left
                       ·rintro w' ⟨s0, s1, s2, s3, s4, s5, s6, s7, s8, s9, s10, s11, s12, s13, s14, s15, s16, s17, s18, s19, s20, s21, s22, s23⟩
                        go_simp
                        with_reducible rfl
                       rotate_left
                       ·simp only [Act.put, sA_, sZ_, sS_, i64_w, i32_w]
                        rfl
                       refine pu_ 4 75 HT_ (bs 24 31) rfl rfl ?_
                       refine pu_ 5 76 HT_ (bs 24 63) rfl rfl ?_
                       refine pu_ 8 79 HT_ (bs 24 319) rfl rfl ?_
                       refine take_ (i := 6) (N := some 77) (v := ?_) (a' := ?_) (bs 24 383) rfl rfl (take_ofW HT_.out HW_.out (by kernel_rfl)) (fun _ _ _ h => h) (Or.inl ⟨by rfl, ?_⟩) hHeld ?_ ?_
                       rotate_left
                       ·rintro w' ⟨s0, s1, s2, s3, s4, s5, s6, s7, s8, s9, s10, s11, s12, s13, s14, s15, s16, s17, s18, s19, s20, s21, s22, s23⟩
                        go_simp
                        with_reducible rfl
                       rotate_left
                       ·simp only [Act.put, sA_, sZ_, sS_, i64_w, i32_w]
                        rfl
                       refine take_ (i := 7) (N := some 78) (v := ?_) (a' := ?_) (bs 24 511) rfl rfl (take_ofW HT_.out HW_.out (by kernel_rfl)) (fun _ _ _ h => h) (Or.inl ⟨by rfl, ?_⟩) hHeld ?_ ?_
                       rotate_left
                       ·rintro w' ⟨s0, s1, s2, s3, s4, s5, s6, s7, s8, s9, s10, s11, s12, s13, s14, s15, s16, s17, s18, s19, s20, s21, s22, s23⟩
                        go_simp
                        with_reducible rfl
                       rotate_left
                       ·simp only [Act.put, sA_, sZ_, sS_, i64_w, i32_w]
                        rfl
                       refine one_ (i := 9) (N := some 80) (bs 24 1023) rfl rfl (one_of HT_.out (by kernel_rfl)) (by decide) (fun K hK => ?_)
                       refine goes_ Try.func34 (by kernel_rfl) rfl #[.agg #[.int .i64 ((rd_T31 l0 x59_3).f0), .int .i64 ((rd_T31 l0 x59_3).f1), .int .i64 ((rd_T31 l0 x59_3).f2), .int .i64 ((rd_T31 l0 x59_3).f3), .int .i64 ((rd_T31 l0 x59_3).f4), .int .i64 ((rd_T31 l0 x59_3).f5)], .agg #[.int .i64 ((rd_T31 l0 x66_4).f0), .int .i64 ((rd_T31 l0 x66_4).f1), .int .i64 ((rd_T31 l0 x66_4).f2), .int .i64 ((rd_T31 l0 x66_4).f3), .int .i64 ((rd_T31 l0 x66_4).f4), .int .i64 ((rd_T31 l0 x66_4).f5)], .int .i64 a2] (by rfl) rfl rfl (by (try simp only [List.map_toArray, List.map_cons, List.map_nil]); first | done | rfl | (simp only [List.length_drop, List.length_take]; rfl)) ?_
                       with_reducible refine (impl_changes.calls ((rd_T31 l0 x59_3).f0) ((rd_T31 l0 x59_3).f1) ((rd_T31 l0 x59_3).f2) ((rd_T31 l0 x59_3).f3) ((rd_T31 l0 x59_3).f4) ((rd_T31 l0 x59_3).f5) ((rd_T31 l0 x66_4).f0) ((rd_T31 l0 x66_4).f1) ((rd_T31 l0 x66_4).f2) ((rd_T31 l0 x66_4).f3) ((rd_T31 l0 x66_4).f4) ((rd_T31 l0 x66_4).f5) a2 true _ A60.out).mono ?_
                       rintro e w72 ⟨rfl, hb⟩
                       refine ⟨_, rfl, ?_⟩
                       have n0_ := Aside0.mk (Kd.R_below (fr_ HO_11.out) hb)
                       have n1_ := Aside0.mk (blk_below (g := gb211) (o := .cells #[.int .i64 ((rd_T31 l0 x59_3).f0), .int .i64 ((rd_T31 l0 x59_3).f1), .int .i64 ((rd_T31 l0 x59_3).f2), .int .i64 ((rd_T31 l0 x59_3).f3), .int .i64 ((rd_T31 l0 x59_3).f4), .int .i64 ((rd_T31 l0 x59_3).f5)] 31 (0, 0)) (fb_ BK211.out) hb)
                       have n2_ := Aside0.mk (blk_below (g := gb213) (o := .cells #[.int .i64 ((rd_T31 l0 x66_4).f0), .int .i64 ((rd_T31 l0 x66_4).f1), .int .i64 ((rd_T31 l0 x66_4).f2), .int .i64 ((rd_T31 l0 x66_4).f3), .int .i64 ((rd_T31 l0 x66_4).f4), .int .i64 ((rd_T31 l0 x66_4).f5)] 31 (0, 0)) (fb_ BK213.out) hb)
                       have n3_ := Aside0.mk (below_step (bel_ HB.out) hb)
                       clear HO_11
                       clear BK211
                       clear BK213
                       clear HB
                       have HO_11 := n0_
                       have BK211 := n1_
                       have BK213 := n2_
                       have HB := n3_
                       clear n0_ n1_ n2_ n3_
                       (try clear hb)
                       (try clear hb2)
                       (try clear hk)
                       (try clear hi)
                       refine hK.out _ _ ⟨(blk_cell BK211.out 0).trans rfl, (blk_cell BK211.out 1).trans rfl, (blk_cell BK211.out 2).trans rfl, (blk_cell BK211.out 3).trans rfl, (blk_cell BK211.out 4).trans rfl, (blk_cell BK211.out 5).trans rfl, (blk_cell BK213.out 0).trans rfl, (blk_cell BK213.out 1).trans rfl, (blk_cell BK213.out 2).trans rfl, (blk_cell BK213.out 3).trans rfl, (blk_cell BK213.out 4).trans rfl, (blk_cell BK213.out 5).trans rfl, ((HB.out.cell (World.block_lt_of_cell? w _ hw215_0)).trans hw215_0), ((HB.out.cell (World.block_lt_of_cell? w _ hw215_1)).trans hw215_1), ((HB.out.cell (World.block_lt_of_cell? w _ hw215_2)).trans hw215_2), ((HB.out.cell (World.block_lt_of_cell? w _ hw215_3)).trans hw215_3), ((HB.out.cell (World.block_lt_of_cell? w _ hw215_4)).trans hw215_4), ((HB.out.cell (World.block_lt_of_cell? w _ hw215_5)).trans hw215_5), ((HB.out.cell (World.block_lt_of_cell? w _ hw216_0)).trans hw216_0), ((HB.out.cell (World.block_lt_of_cell? w _ hw216_1)).trans hw216_1), ((HB.out.cell (World.block_lt_of_cell? w _ hw216_2)).trans hw216_2), ((HB.out.cell (World.block_lt_of_cell? w _ hw216_3)).trans hw216_3), ((HB.out.cell (World.block_lt_of_cell? w _ hw216_4)).trans hw216_4), ((HB.out.cell (World.block_lt_of_cell? w _ hw216_5)).trans hw216_5)⟩ (fun hHeld => ?_)
                       clear hK K
                       refine norm_ (a' := ?_) ?_ ?_
                       rotate_left
                       ·show Act.put _ (some 80) _ = _
                        simp only [Act.put, sA_, sZ_, sS_, i64_w, i32_w]
                        rfl
                       refine pu_ 10 81 HT_ (bs 24 2047) rfl rfl ?_
                       refine pu_ 11 82 HT_ (bs 24 4095) rfl rfl ?_
                       refine pu_ 12 83 HT_ (bs 24 8191) rfl rfl ?_
                       refine pu_ 13 84 HT_ (bs 24 16383) rfl rfl ?_
                       refine pu_ 14 85 HT_ (bs 24 32767) rfl rfl ?_
                       refine pu_ 16 87 HT_ (bs 24 98303) rfl rfl ?_
                       refine pu_ 17 88 HT_ (bs 24 229375) rfl rfl ?_
                       refine pu_ 18 89 HT_ (bs 24 491519) rfl rfl ?_
                       refine pu_ 20 91 HT_ (bs 24 1540095) rfl rfl ?_
                       refine take_ (i := 15) (N := some 86) (v := ?_) (a' := ?_) (bs 24 1572863) rfl rfl (take_ofW HT_.out HW_.out (by kernel_rfl)) (fun _ _ _ h => h) (Or.inl ⟨by rfl, ?_⟩) hHeld ?_ ?_
                       rotate_left
                       ·rintro w' ⟨s0, s1, s2, s3, s4, s5, s6, s7, s8, s9, s10, s11, s12, s13, s14, s15, s16, s17, s18, s19, s20, s21, s22, s23⟩
                        go_simp
                        with_reducible rfl
                       rotate_left
                       ·simp only [Act.put, sA_, sZ_, sS_, i64_w, i32_w]
                        rfl
                       refine take_ (i := 19) (N := some 90) (v := ?_) (a' := ?_) (bs 24 2097151) rfl rfl (take_ofW HT_.out HW_.out (by kernel_rfl)) (fun _ _ _ h => h) (Or.inl ⟨by rfl, ?_⟩) hHeld ?_ ?_
                       rotate_left
                       ·rintro w' ⟨s0, s1, s2, s3, s4, s5, s6, s7, s8, s9, s10, s11, s12, s13, s14, s15, s16, s17, s18, s19, s20, s21, s22, s23⟩
                        go_simp
                        with_reducible rfl
                       rotate_left
                       ·simp only [Act.put, sA_, sZ_, sS_, i64_w, i32_w]
                        rfl
                       refine one_ (i := 21) (N := some 92) (bs 24 4194303) rfl rfl (one_of HT_.out (by kernel_rfl)) (by decide) (fun K hK => ?_)
                       refine goes_ Try.func34 (by kernel_rfl) rfl #[.agg #[.int .i64 ((rd_T31 l1 x59_3).f0), .int .i64 ((rd_T31 l1 x59_3).f1), .int .i64 ((rd_T31 l1 x59_3).f2), .int .i64 ((rd_T31 l1 x59_3).f3), .int .i64 ((rd_T31 l1 x59_3).f4), .int .i64 ((rd_T31 l1 x59_3).f5)], .agg #[.int .i64 ((rd_T31 l1 x66_4).f0), .int .i64 ((rd_T31 l1 x66_4).f1), .int .i64 ((rd_T31 l1 x66_4).f2), .int .i64 ((rd_T31 l1 x66_4).f3), .int .i64 ((rd_T31 l1 x66_4).f4), .int .i64 ((rd_T31 l1 x66_4).f5)], .int .i64 a2] (by rfl) rfl rfl (by (try simp only [List.map_toArray, List.map_cons, List.map_nil]); first | done | rfl | (simp only [List.length_drop, List.length_take]; rfl)) ?_
                       with_reducible refine (impl_changes.calls ((rd_T31 l1 x59_3).f0) ((rd_T31 l1 x59_3).f1) ((rd_T31 l1 x59_3).f2) ((rd_T31 l1 x59_3).f3) ((rd_T31 l1 x59_3).f4) ((rd_T31 l1 x59_3).f5) ((rd_T31 l1 x66_4).f0) ((rd_T31 l1 x66_4).f1) ((rd_T31 l1 x66_4).f2) ((rd_T31 l1 x66_4).f3) ((rd_T31 l1 x66_4).f4) ((rd_T31 l1 x66_4).f5) a2 true _ A65.out).mono ?_
                       rintro e w73 ⟨rfl, hb⟩
                       refine ⟨_, rfl, ?_⟩
                       have n0_ := Aside0.mk (Kd.R_below (fr_ HO_11.out) hb)
                       have n1_ := Aside0.mk (blk_below (g := gb211) (o := .cells #[.int .i64 ((rd_T31 l0 x59_3).f0), .int .i64 ((rd_T31 l0 x59_3).f1), .int .i64 ((rd_T31 l0 x59_3).f2), .int .i64 ((rd_T31 l0 x59_3).f3), .int .i64 ((rd_T31 l0 x59_3).f4), .int .i64 ((rd_T31 l0 x59_3).f5)] 31 (0, 0)) (fb_ BK211.out) hb)
                       have n2_ := Aside0.mk (blk_below (g := gb213) (o := .cells #[.int .i64 ((rd_T31 l0 x66_4).f0), .int .i64 ((rd_T31 l0 x66_4).f1), .int .i64 ((rd_T31 l0 x66_4).f2), .int .i64 ((rd_T31 l0 x66_4).f3), .int .i64 ((rd_T31 l0 x66_4).f4), .int .i64 ((rd_T31 l0 x66_4).f5)] 31 (0, 0)) (fb_ BK213.out) hb)
                       have n3_ := Aside0.mk (below_step (bel_ HB.out) hb)
                       clear HO_11
                       clear BK211
                       clear BK213
                       clear HB
                       have HO_11 := n0_
                       have BK211 := n1_
                       have BK213 := n2_
                       have HB := n3_
                       clear n0_ n1_ n2_ n3_
                       (try clear hb)
                       (try clear hb2)
                       (try clear hk)
                       (try clear hi)
                       refine hK.out _ _ ⟨(blk_cell BK211.out 0).trans rfl, (blk_cell BK211.out 1).trans rfl, (blk_cell BK211.out 2).trans rfl, (blk_cell BK211.out 3).trans rfl, (blk_cell BK211.out 4).trans rfl, (blk_cell BK211.out 5).trans rfl, (blk_cell BK213.out 0).trans rfl, (blk_cell BK213.out 1).trans rfl, (blk_cell BK213.out 2).trans rfl, (blk_cell BK213.out 3).trans rfl, (blk_cell BK213.out 4).trans rfl, (blk_cell BK213.out 5).trans rfl, ((HB.out.cell (World.block_lt_of_cell? w _ hw215_0)).trans hw215_0), ((HB.out.cell (World.block_lt_of_cell? w _ hw215_1)).trans hw215_1), ((HB.out.cell (World.block_lt_of_cell? w _ hw215_2)).trans hw215_2), ((HB.out.cell (World.block_lt_of_cell? w _ hw215_3)).trans hw215_3), ((HB.out.cell (World.block_lt_of_cell? w _ hw215_4)).trans hw215_4), ((HB.out.cell (World.block_lt_of_cell? w _ hw215_5)).trans hw215_5), ((HB.out.cell (World.block_lt_of_cell? w _ hw216_0)).trans hw216_0), ((HB.out.cell (World.block_lt_of_cell? w _ hw216_1)).trans hw216_1), ((HB.out.cell (World.block_lt_of_cell? w _ hw216_2)).trans hw216_2), ((HB.out.cell (World.block_lt_of_cell? w _ hw216_3)).trans hw216_3), ((HB.out.cell (World.block_lt_of_cell? w _ hw216_4)).trans hw216_4), ((HB.out.cell (World.block_lt_of_cell? w _ hw216_5)).trans hw216_5)⟩ (fun hHeld => ?_)
                       clear hK K
                       refine norm_ (a' := ?_) ?_ ?_
                       rotate_left
                       ·show Act.put _ (some 92) _ = _
                        simp only [Act.put, sA_, sZ_, sS_, i64_w, i32_w]
                        rfl
                       refine pu_ 22 93 HT_ (bs 24 8388607) rfl rfl ?_
                       refine pu_ 23 94 HT_ (bs 24 16777215) rfl rfl ?_
                       refine done_ (done_of HT_.out (by kernel_rfl)) ?_
                       try go_wp2
                       go_roundg k4
                       case measure => have := HJ3.out; have := HK2.out; have := HK3.out; have := HK4.out; omega
                       case rel => exact ⟨(x11_4), (wrap64 (x66_4 + 1)), (by first | rfl | (simp; done) | (simp [*]; done) | (simp [wrap64]; done)), H', ⟨by have := HJ3.out; have := HK2.out; have := HK3.out; have := HK4.out; omega⟩, ⟨by (with_reducible repeat (first | apply Kd.R_alloc | apply Kd.R_drewN | apply Kd.R_drew)); exact HO_11.out⟩, ⟨by (with_reducible repeat (first | refine blk_drewN ?_ _ | refine blk_drew ?_ | refine blk_alloc ?_ _)); exact BK211.out⟩, ⟨bel_ HB.out⟩⟩
                      ·replace c66 := Bool.eq_false_iff.mpr c66
                       subst c66
                       have H1 : (if x11_4.length < 17592186044416 then (impl_Missed.l2 k4 l0 l1 a2 (x11_4 ++ [wrap64 ((wrap64 (x59_3 * (l0.length : Int))) + x66_4)]) x59_3 l0 (l0.length : Int) x59_3 l0 (l0.length : Int) (wrap64 (x66_4 + 1)) ((rd_T31 l0 x59_3).f0) ((rd_T31 l0 x59_3).f1) ((rd_T31 l0 x59_3).f2) ((rd_T31 l0 x59_3).f3) ((rd_T31 l0 x59_3).f4) ((rd_T31 l0 x59_3).f5)) else (none)) = some (r1, r2) := by rw [if_neg (show ¬ (false = true) by decide)] at H; exact H
                       clear H
                       have H := H1
                       clear H1
                       by_cases c74 : x11_4.length < 17592186044416
                       ·rw [if_pos c74] at H
                        have LMc74 := Aside0.mk c74
                        clear c74
                        obtain ⟨y218, hy218⟩ : ∃ y_ : List Int, y_ = (x11_4 ++ [wrap64 ((wrap64 (x59_3 * (l0.length : Int))) + x66_4)]) := ⟨_, rfl⟩
                        replace H : (impl_Missed.l2 k4 l0 l1 a2 y218 x59_3 l0 (l0.length : Int) x59_3 l0 (l0.length : Int) (wrap64 (x66_4 + 1)) ((rd_T31 l0 x59_3).f0) ((rd_T31 l0 x59_3).f1) ((rd_T31 l0 x59_3).f2) ((rd_T31 l0 x59_3).f3) ((rd_T31 l0 x59_3).f4) ((rd_T31 l0 x59_3).f5)) = some (r1, r2) := by first | (rw [hy218]; with_reducible exact H) | (have H2_ := (Option.bind_some _ _).symm.trans H; rw [hy218]; with_reducible exact H2_) | (have H2_ := (Option.bind_some _ _).symm.trans H; with_reducible exact H2_) | with_reducible exact H | (rw [hy218]; exact H) | exact H
                        have Ny218 := Aside0.mk hy218
                        clear hy218
                        have H' := Aside0.mk H
                        clear H
                        have p212 : 0 ≤ (x66_4 : Int) := of_decide_eq_true (by first | (with_reducible assumption) | assumption)
                        have q212 : x66_4 < (l0.length : Int) := of_decide_eq_true (by first | (with_reducible assumption) | assumption)
                        obtain ⟨ad212, e212, hx212_0, hx212_1, hx212_2, hx212_3, hx212_4, hx212_5⟩ := at_T31 HR0.out x66_4 p212 q212
                        obtain rfl : ad210 = ad212 := (by injection e212)
                        replace hx212_0 := (HB.out.cell (World.block_lt_of_cell? w _ hx212_0)).trans hx212_0
                        replace hx212_1 := (HB.out.cell (World.block_lt_of_cell? w _ hx212_1)).trans hx212_1
                        replace hx212_2 := (HB.out.cell (World.block_lt_of_cell? w _ hx212_2)).trans hx212_2
                        replace hx212_3 := (HB.out.cell (World.block_lt_of_cell? w _ hx212_3)).trans hx212_3
                        replace hx212_4 := (HB.out.cell (World.block_lt_of_cell? w _ hx212_4)).trans hx212_4
                        replace hx212_5 := (HB.out.cell (World.block_lt_of_cell? w _ hx212_5)).trans hx212_5
                        replace p212 := eq_true p212
                        replace q212 := eq_true q212
                        try go_wp2_with (first | ((with_reducible refine gate_dst (N := 15) rfl ?_); (try (refine gate_guard (by rfl) ?_; dsimp only)); refine box_event ?hg (N := 15) ?hd (cs := #[.int .i64 0, .int .i64 0, .int .i64 0, .int .i64 0, .int .i64 0, .int .i64 0]) (t := 31) ?hr ?_; (case hd => rfl); (case hg => rfl); (case hr => first | (go_simp; done) | (go_simp; rfl)); intro gb213 hg w75 hbox hb; have n0_ := Aside0.mk (Kd.R_below (fr_ HO_11.out) hb); have n1_ := Aside0.mk (blk_below (g := gb211) (o := .cells #[.int .i64 ((rd_T31 l0 x59_3).f0), .int .i64 ((rd_T31 l0 x59_3).f1), .int .i64 ((rd_T31 l0 x59_3).f2), .int .i64 ((rd_T31 l0 x59_3).f3), .int .i64 ((rd_T31 l0 x59_3).f4), .int .i64 ((rd_T31 l0 x59_3).f5)] 31 (0, 0)) (fb_ BK211.out) hb); have n2_ := Aside0.mk (below_step (bel_ HB.out) hb); have n3_ := Aside0.mk (hbox); have n4_ := Aside0.mk ((by rw [hg]; exact (below_size (bel_ HB.out)) : w.heap.size ≤ gb213)); have n5_ := Aside0.mk ((by rw [hg]; exact (below_size (bel_ HB.out)) : w.heap.size ≤ gb213)); have n6_ := Aside0.mk ((by rw [hg]; exact Nat.ne_of_lt (blk_lt (g := gb211) (o := .cells #[.int .i64 ((rd_T31 l0 x59_3).f0), .int .i64 ((rd_T31 l0 x59_3).f1), .int .i64 ((rd_T31 l0 x59_3).f2), .int .i64 ((rd_T31 l0 x59_3).f3), .int .i64 ((rd_T31 l0 x59_3).f4), .int .i64 ((rd_T31 l0 x59_3).f5)] 31 (0, 0)) (fb_ BK211.out)) : gb211 ≠ gb213)); have n7_ := Aside0.mk ((by rw [hg]; exact Nat.ne_of_gt (blk_lt (g := gb211) (o := .cells #[.int .i64 ((rd_T31 l0 x59_3).f0), .int .i64 ((rd_T31 l0 x59_3).f1), .int .i64 ((rd_T31 l0 x59_3).f2), .int .i64 ((rd_T31 l0 x59_3).f3), .int .i64 ((rd_T31 l0 x59_3).f4), .int .i64 ((rd_T31 l0 x59_3).f5)] 31 (0, 0)) (fb_ BK211.out)) : gb213 ≠ gb211)); clear HO_11; clear BK211; clear HB; have HO_11 := n0_; have BK211 := n1_; have HB := n2_; have BK213 := n3_; have GW213 := n4_; have GE213 := n5_; have NB211_213 := n6_; have NB213_211 := n7_; clear n0_ n1_ n2_ n3_ n4_ n5_ n6_ n7_; clear hb hbox hg; have hnb76 := NB213_211.out; have hnc76 := NB211_213.out; have hcz77_0 : w75.cell? ⟨gb213, 0, none⟩ = some (.int .i64 0) := (blk_cell BK213.out 0).trans rfl; have hcz77_1 : w75.cell? ⟨gb213, 1, none⟩ = some (.int .i64 0) := (blk_cell BK213.out 1).trans rfl; have hcz77_2 : w75.cell? ⟨gb213, 2, none⟩ = some (.int .i64 0) := (blk_cell BK213.out 2).trans rfl; have hcz77_3 : w75.cell? ⟨gb213, 3, none⟩ = some (.int .i64 0) := (blk_cell BK213.out 3).trans rfl; have hcz77_4 : w75.cell? ⟨gb213, 4, none⟩ = some (.int .i64 0) := (blk_cell BK213.out 4).trans rfl; have hcz77_5 : w75.cell? ⟨gb213, 5, none⟩ = some (.int .i64 0) := (blk_cell BK213.out 5).trans rfl; have hfz77_0 := blk_frozen BK213.out 0; have hfz77_1 := blk_frozen BK213.out 1; have hfz77_2 := blk_frozen BK213.out 2; have hfz77_3 := blk_frozen BK213.out 3; have hfz77_4 := blk_frozen BK213.out 4; have hfz77_5 := blk_frozen BK213.out 5))
                        have n0_ : Aside0 (Kd.R (Kd.int .i64) 3 ((((((w75.setCell ⟨gb213, 0, none⟩ (.int .i64 ((rd_T31 l0 x66_4).f0))).setCell ⟨gb213, 1, none⟩ (.int .i64 ((rd_T31 l0 x66_4).f1))).setCell ⟨gb213, 2, none⟩ (.int .i64 ((rd_T31 l0 x66_4).f2))).setCell ⟨gb213, 3, none⟩ (.int .i64 ((rd_T31 l0 x66_4).f3))).setCell ⟨gb213, 4, none⟩ (.int .i64 ((rd_T31 l0 x66_4).f4))).setCell ⟨gb213, 5, none⟩ (.int .i64 ((rd_T31 l0 x66_4).f5))) w.heap.size (fun _ => True) u11 x11_4) := ⟨by (with_reducible repeat (first | apply Kd.R_alloc | apply Kd.R_drewN | apply Kd.R_drew)); exact Kd.R_mono (Kd.R_far (p := ⟨gb213, 5, none⟩) (Kd.R_far (p := ⟨gb213, 4, none⟩) (Kd.R_far (p := ⟨gb213, 3, none⟩) (Kd.R_far (p := ⟨gb213, 2, none⟩) (Kd.R_far (p := ⟨gb213, 1, none⟩) (Kd.R_far (p := ⟨gb213, 0, none⟩) (Kd.R_types HO_11.out BK213.out (by decide)) (fun _ hk => hk.2) (.int .i64 ((rd_T31 l0 x66_4).f0))) (fun _ hk => hk.2) (.int .i64 ((rd_T31 l0 x66_4).f1))) (fun _ hk => hk.2) (.int .i64 ((rd_T31 l0 x66_4).f2))) (fun _ hk => hk.2) (.int .i64 ((rd_T31 l0 x66_4).f3))) (fun _ hk => hk.2) (.int .i64 ((rd_T31 l0 x66_4).f4))) (fun _ hk => hk.2) (.int .i64 ((rd_T31 l0 x66_4).f5))) (fun _ hk => trivial)⟩
                        have n1_ : Aside0 (((((((w75.setCell ⟨gb213, 0, none⟩ (.int .i64 ((rd_T31 l0 x66_4).f0))).setCell ⟨gb213, 1, none⟩ (.int .i64 ((rd_T31 l0 x66_4).f1))).setCell ⟨gb213, 2, none⟩ (.int .i64 ((rd_T31 l0 x66_4).f2))).setCell ⟨gb213, 3, none⟩ (.int .i64 ((rd_T31 l0 x66_4).f3))).setCell ⟨gb213, 4, none⟩ (.int .i64 ((rd_T31 l0 x66_4).f4))).setCell ⟨gb213, 5, none⟩ (.int .i64 ((rd_T31 l0 x66_4).f5))).heap[gb211]? = some (.cells #[.int .i64 ((rd_T31 l0 x59_3).f0), .int .i64 ((rd_T31 l0 x59_3).f1), .int .i64 ((rd_T31 l0 x59_3).f2), .int .i64 ((rd_T31 l0 x59_3).f3), .int .i64 ((rd_T31 l0 x59_3).f4), .int .i64 ((rd_T31 l0 x59_3).f5)] 31 (0, 0))) := ⟨by (with_reducible repeat (first | refine blk_drewN ?_ _ | refine blk_drew ?_ | refine blk_alloc ?_ _)); refine blk_far ?_ NB211_213.out _; (with_reducible repeat (first | refine blk_drewN ?_ _ | refine blk_drew ?_ | refine blk_alloc ?_ _)); refine blk_far ?_ NB211_213.out _; (with_reducible repeat (first | refine blk_drewN ?_ _ | refine blk_drew ?_ | refine blk_alloc ?_ _)); refine blk_far ?_ NB211_213.out _; (with_reducible repeat (first | refine blk_drewN ?_ _ | refine blk_drew ?_ | refine blk_alloc ?_ _)); refine blk_far ?_ NB211_213.out _; (with_reducible repeat (first | refine blk_drewN ?_ _ | refine blk_drew ?_ | refine blk_alloc ?_ _)); refine blk_far ?_ NB211_213.out _; (with_reducible repeat (first | refine blk_drewN ?_ _ | refine blk_drew ?_ | refine blk_alloc ?_ _)); refine blk_far ?_ NB211_213.out _; (with_reducible repeat (first | refine blk_drewN ?_ _ | refine blk_drew ?_ | refine blk_alloc ?_ _)); exact BK211.out⟩
                        have n2_ : Aside0 (((((((w75.setCell ⟨gb213, 0, none⟩ (.int .i64 ((rd_T31 l0 x66_4).f0))).setCell ⟨gb213, 1, none⟩ (.int .i64 ((rd_T31 l0 x66_4).f1))).setCell ⟨gb213, 2, none⟩ (.int .i64 ((rd_T31 l0 x66_4).f2))).setCell ⟨gb213, 3, none⟩ (.int .i64 ((rd_T31 l0 x66_4).f3))).setCell ⟨gb213, 4, none⟩ (.int .i64 ((rd_T31 l0 x66_4).f4))).setCell ⟨gb213, 5, none⟩ (.int .i64 ((rd_T31 l0 x66_4).f5))).heap[gb213]? = some (.cells #[.int .i64 ((rd_T31 l0 x66_4).f0), .int .i64 ((rd_T31 l0 x66_4).f1), .int .i64 ((rd_T31 l0 x66_4).f2), .int .i64 ((rd_T31 l0 x66_4).f3), .int .i64 ((rd_T31 l0 x66_4).f4), .int .i64 ((rd_T31 l0 x66_4).f5)] 31 (0, 0))) := ⟨by (with_reducible repeat (first | refine blk_drewN ?_ _ | refine blk_drew ?_ | refine blk_alloc ?_ _)); refine blk_put (cs := #[.int .i64 ((rd_T31 l0 x66_4).f0), .int .i64 ((rd_T31 l0 x66_4).f1), .int .i64 ((rd_T31 l0 x66_4).f2), .int .i64 ((rd_T31 l0 x66_4).f3), .int .i64 ((rd_T31 l0 x66_4).f4), .int .i64 0]) ?_ 5 _ rfl; (with_reducible repeat (first | refine blk_drewN ?_ _ | refine blk_drew ?_ | refine blk_alloc ?_ _)); refine blk_put (cs := #[.int .i64 ((rd_T31 l0 x66_4).f0), .int .i64 ((rd_T31 l0 x66_4).f1), .int .i64 ((rd_T31 l0 x66_4).f2), .int .i64 ((rd_T31 l0 x66_4).f3), .int .i64 0, .int .i64 0]) ?_ 4 _ rfl; (with_reducible repeat (first | refine blk_drewN ?_ _ | refine blk_drew ?_ | refine blk_alloc ?_ _)); refine blk_put (cs := #[.int .i64 ((rd_T31 l0 x66_4).f0), .int .i64 ((rd_T31 l0 x66_4).f1), .int .i64 ((rd_T31 l0 x66_4).f2), .int .i64 0, .int .i64 0, .int .i64 0]) ?_ 3 _ rfl; (with_reducible repeat (first | refine blk_drewN ?_ _ | refine blk_drew ?_ | refine blk_alloc ?_ _)); refine blk_put (cs := #[.int .i64 ((rd_T31 l0 x66_4).f0), .int .i64 ((rd_T31 l0 x66_4).f1), .int .i64 0, .int .i64 0, .int .i64 0, .int .i64 0]) ?_ 2 _ rfl; (with_reducible repeat (first | refine blk_drewN ?_ _ | refine blk_drew ?_ | refine blk_alloc ?_ _)); refine blk_put (cs := #[.int .i64 ((rd_T31 l0 x66_4).f0), .int .i64 0, .int .i64 0, .int .i64 0, .int .i64 0, .int .i64 0]) ?_ 1 _ rfl; (with_reducible repeat (first | refine blk_drewN ?_ _ | refine blk_drew ?_ | refine blk_alloc ?_ _)); refine blk_put (cs := #[.int .i64 0, .int .i64 0, .int .i64 0, .int .i64 0, .int .i64 0, .int .i64 0]) ?_ 0 _ rfl; (with_reducible repeat (first | refine blk_drewN ?_ _ | refine blk_drew ?_ | refine blk_alloc ?_ _)); exact BK213.out⟩
                        have n3_ : Aside0 (Below w.heap.size w ((((((w75.setCell ⟨gb213, 0, none⟩ (.int .i64 ((rd_T31 l0 x66_4).f0))).setCell ⟨gb213, 1, none⟩ (.int .i64 ((rd_T31 l0 x66_4).f1))).setCell ⟨gb213, 2, none⟩ (.int .i64 ((rd_T31 l0 x66_4).f2))).setCell ⟨gb213, 3, none⟩ (.int .i64 ((rd_T31 l0 x66_4).f3))).setCell ⟨gb213, 4, none⟩ (.int .i64 ((rd_T31 l0 x66_4).f4))).setCell ⟨gb213, 5, none⟩ (.int .i64 ((rd_T31 l0 x66_4).f5)))) := ⟨bel_ HB.out⟩
                        (try clear HO_11)
                        (try clear BK211)
                        (try clear BK213)
                        (try clear HB)
                        generalize ((((((w75.setCell ⟨gb213, 0, none⟩ (.int .i64 ((rd_T31 l0 x66_4).f0))).setCell ⟨gb213, 1, none⟩ (.int .i64 ((rd_T31 l0 x66_4).f1))).setCell ⟨gb213, 2, none⟩ (.int .i64 ((rd_T31 l0 x66_4).f2))).setCell ⟨gb213, 3, none⟩ (.int .i64 ((rd_T31 l0 x66_4).f3))).setCell ⟨gb213, 4, none⟩ (.int .i64 ((rd_T31 l0 x66_4).f4))).setCell ⟨gb213, 5, none⟩ (.int .i64 ((rd_T31 l0 x66_4).f5))) = w78 at n0_ n1_ n2_ n3_ ⊢
                        have HO_11 := n0_
                        have BK211 := n1_
                        have BK213 := n2_
                        have HB := n3_
                        clear n0_ n1_ n2_ n3_
                        have n0_ := Aside0.mk (Kd.R_drew HO_11.out)
                        have n1_ := Aside0.mk (blk_drew BK211.out)
                        have n2_ := Aside0.mk (blk_drew BK213.out)
                        have n3_ := Aside0.mk (below_drew1 HB.out)
                        clear HO_11
                        clear BK211
                        clear BK213
                        clear HB
                        have HO_11 := n0_
                        have BK211 := n1_
                        have BK213 := n2_
                        have HB := n3_
                        clear n0_ n1_ n2_ n3_
                        have p215 : 0 ≤ (x59_3 : Int) := of_decide_eq_true (by first | (with_reducible assumption) | assumption)
                        have q215 : x59_3 < (l1.length : Int) := of_decide_eq_true (by first | (with_reducible assumption) | assumption)
                        obtain ⟨ad215, e215, hx215_0, hx215_1, hx215_2, hx215_3, hx215_4, hx215_5⟩ := at_T31 HR1.out x59_3 p215 q215
                        have hw215_5 := hx215_5
                        have hw215_4 := hx215_4
                        have hw215_3 := hx215_3
                        have hw215_2 := hx215_2
                        have hw215_1 := hx215_1
                        have hw215_0 := hx215_0
                        cases e215
                        replace hx215_0 := (HB.out.cell (World.block_lt_of_cell? w _ hx215_0)).trans hx215_0
                        replace hx215_1 := (HB.out.cell (World.block_lt_of_cell? w _ hx215_1)).trans hx215_1
                        replace hx215_2 := (HB.out.cell (World.block_lt_of_cell? w _ hx215_2)).trans hx215_2
                        replace hx215_3 := (HB.out.cell (World.block_lt_of_cell? w _ hx215_3)).trans hx215_3
                        replace hx215_4 := (HB.out.cell (World.block_lt_of_cell? w _ hx215_4)).trans hx215_4
                        replace hx215_5 := (HB.out.cell (World.block_lt_of_cell? w _ hx215_5)).trans hx215_5
                        replace p215 := eq_true p215
                        replace q215 := eq_true q215
                        have p216 : 0 ≤ (x66_4 : Int) := of_decide_eq_true (by first | (with_reducible assumption) | assumption)
                        have q216 : x66_4 < (l1.length : Int) := of_decide_eq_true (by first | (with_reducible assumption) | assumption)
                        obtain ⟨ad216, e216, hx216_0, hx216_1, hx216_2, hx216_3, hx216_4, hx216_5⟩ := at_T31 HR1.out x66_4 p216 q216
                        have hw216_5 := hx216_5
                        have hw216_4 := hx216_4
                        have hw216_3 := hx216_3
                        have hw216_2 := hx216_2
                        have hw216_1 := hx216_1
                        have hw216_0 := hx216_0
                        obtain rfl : ad215 = ad216 := (by injection e216)
                        replace hx216_0 := (HB.out.cell (World.block_lt_of_cell? w _ hx216_0)).trans hx216_0
                        replace hx216_1 := (HB.out.cell (World.block_lt_of_cell? w _ hx216_1)).trans hx216_1
                        replace hx216_2 := (HB.out.cell (World.block_lt_of_cell? w _ hx216_2)).trans hx216_2
                        replace hx216_3 := (HB.out.cell (World.block_lt_of_cell? w _ hx216_3)).trans hx216_3
                        replace hx216_4 := (HB.out.cell (World.block_lt_of_cell? w _ hx216_4)).trans hx216_4
                        replace hx216_5 := (HB.out.cell (World.block_lt_of_cell? w _ hx216_5)).trans hx216_5
                        replace p216 := eq_true p216
                        replace q216 := eq_true q216
                        refine start_ (n := 24) (S := fun w' => w'.cell? ⟨gb211, 0, none⟩ = some (.int .i64 ((rd_T31 l0 x59_3).f0)) ∧ w'.cell? ⟨gb211, 1, none⟩ = some (.int .i64 ((rd_T31 l0 x59_3).f1)) ∧ w'.cell? ⟨gb211, 2, none⟩ = some (.int .i64 ((rd_T31 l0 x59_3).f2)) ∧ w'.cell? ⟨gb211, 3, none⟩ = some (.int .i64 ((rd_T31 l0 x59_3).f3)) ∧ w'.cell? ⟨gb211, 4, none⟩ = some (.int .i64 ((rd_T31 l0 x59_3).f4)) ∧ w'.cell? ⟨gb211, 5, none⟩ = some (.int .i64 ((rd_T31 l0 x59_3).f5)) ∧ w'.cell? ⟨gb213, 0, none⟩ = some (.int .i64 ((rd_T31 l0 x66_4).f0)) ∧ w'.cell? ⟨gb213, 1, none⟩ = some (.int .i64 ((rd_T31 l0 x66_4).f1)) ∧ w'.cell? ⟨gb213, 2, none⟩ = some (.int .i64 ((rd_T31 l0 x66_4).f2)) ∧ w'.cell? ⟨gb213, 3, none⟩ = some (.int .i64 ((rd_T31 l0 x66_4).f3)) ∧ w'.cell? ⟨gb213, 4, none⟩ = some (.int .i64 ((rd_T31 l0 x66_4).f4)) ∧ w'.cell? ⟨gb213, 5, none⟩ = some (.int .i64 ((rd_T31 l0 x66_4).f5)) ∧ w'.cell? (ad215.add ((x59_3).toNat * 6)) = some (.int .i64 ((rd_T31 l1 x59_3).f0)) ∧ w'.cell? ⟨(ad215.add ((x59_3).toNat * 6)).block, (ad215.add ((x59_3).toNat * 6)).off + 1, none⟩ = some (.int .i64 ((rd_T31 l1 x59_3).f1)) ∧ w'.cell? ⟨(ad215.add ((x59_3).toNat * 6)).block, (ad215.add ((x59_3).toNat * 6)).off + 2, none⟩ = some (.int .i64 ((rd_T31 l1 x59_3).f2)) ∧ w'.cell? ⟨(ad215.add ((x59_3).toNat * 6)).block, (ad215.add ((x59_3).toNat * 6)).off + 3, none⟩ = some (.int .i64 ((rd_T31 l1 x59_3).f3)) ∧ w'.cell? ⟨(ad215.add ((x59_3).toNat * 6)).block, (ad215.add ((x59_3).toNat * 6)).off + 4, none⟩ = some (.int .i64 ((rd_T31 l1 x59_3).f4)) ∧ w'.cell? ⟨(ad215.add ((x59_3).toNat * 6)).block, (ad215.add ((x59_3).toNat * 6)).off + 5, none⟩ = some (.int .i64 ((rd_T31 l1 x59_3).f5)) ∧ w'.cell? (ad215.add ((x66_4).toNat * 6)) = some (.int .i64 ((rd_T31 l1 x66_4).f0)) ∧ w'.cell? ⟨(ad215.add ((x66_4).toNat * 6)).block, (ad215.add ((x66_4).toNat * 6)).off + 1, none⟩ = some (.int .i64 ((rd_T31 l1 x66_4).f1)) ∧ w'.cell? ⟨(ad215.add ((x66_4).toNat * 6)).block, (ad215.add ((x66_4).toNat * 6)).off + 2, none⟩ = some (.int .i64 ((rd_T31 l1 x66_4).f2)) ∧ w'.cell? ⟨(ad215.add ((x66_4).toNat * 6)).block, (ad215.add ((x66_4).toNat * 6)).off + 3, none⟩ = some (.int .i64 ((rd_T31 l1 x66_4).f3)) ∧ w'.cell? ⟨(ad215.add ((x66_4).toNat * 6)).block, (ad215.add ((x66_4).toNat * 6)).off + 4, none⟩ = some (.int .i64 ((rd_T31 l1 x66_4).f4)) ∧ w'.cell? ⟨(ad215.add ((x66_4).toNat * 6)).block, (ad215.add ((x66_4).toNat * 6)).off + 5, none⟩ = some (.int .i64 ((rd_T31 l1 x66_4).f5))) (ds := []) (bs 24 0) (by kernel_rfl) rfl rfl ⟨(blk_cell BK211.out 0).trans rfl, (blk_cell BK211.out 1).trans rfl, (blk_cell BK211.out 2).trans rfl, (blk_cell BK211.out 3).trans rfl, (blk_cell BK211.out 4).trans rfl, (blk_cell BK211.out 5).trans rfl, (blk_cell BK213.out 0).trans rfl, (blk_cell BK213.out 1).trans rfl, (blk_cell BK213.out 2).trans rfl, (blk_cell BK213.out 3).trans rfl, (blk_cell BK213.out 4).trans rfl, (blk_cell BK213.out 5).trans rfl, ((HB.out.cell (World.block_lt_of_cell? w _ hw215_0)).trans hw215_0), ((HB.out.cell (World.block_lt_of_cell? w _ hw215_1)).trans hw215_1), ((HB.out.cell (World.block_lt_of_cell? w _ hw215_2)).trans hw215_2), ((HB.out.cell (World.block_lt_of_cell? w _ hw215_3)).trans hw215_3), ((HB.out.cell (World.block_lt_of_cell? w _ hw215_4)).trans hw215_4), ((HB.out.cell (World.block_lt_of_cell? w _ hw215_5)).trans hw215_5), ((HB.out.cell (World.block_lt_of_cell? w _ hw216_0)).trans hw216_0), ((HB.out.cell (World.block_lt_of_cell? w _ hw216_1)).trans hw216_1), ((HB.out.cell (World.block_lt_of_cell? w _ hw216_2)).trans hw216_2), ((HB.out.cell (World.block_lt_of_cell? w _ hw216_3)).trans hw216_3), ((HB.out.cell (World.block_lt_of_cell? w _ hw216_4)).trans hw216_4), ((HB.out.cell (World.block_lt_of_cell? w _ hw216_5)).trans hw216_5)⟩ (fun hHeld => ?_); refine with_tabW impl_Missed.tab18 impl_Missed.bits18 (fun HT_ HW_ => ?_)
                        generalize w78.drew = w79 at HO_11 BK211 BK213 HB hx215_0 hx215_1 hx215_2 hx215_3 hx215_4 hx215_5 hx216_0 hx216_1 hx216_2 hx216_3 hx216_4 hx216_5 hHeld ⊢
                        refine pu_ 0 71 HT_ (bs 24 1) rfl rfl ?_
                        refine pu_ 2 73 HT_ (bs 24 5) rfl rfl ?_
                        refine take_ (i := 1) (N := some 72) (v := ?_) (a' := ?_) (bs 24 7) rfl rfl (take_ofW HT_.out HW_.out (by kernel_rfl)) (fun _ _ _ h => h) (Or.inl ⟨by rfl, ?_⟩) hHeld ?_ ?_
                        rotate_left
                        ·rintro w' ⟨s0, s1, s2, s3, s4, s5, s6, s7, s8, s9, s10, s11, s12, s13, s14, s15, s16, s17, s18, s19, s20, s21, s22, s23⟩
                         go_simp
                         with_reducible rfl
                        rotate_left
                        ·simp only [Act.put, sA_, sZ_, sS_, i64_w, i32_w]
                         rfl
                        refine take_ (i := 3) (N := some 74) (v := ?_) (a' := ?_) (bs 24 15) rfl rfl (take_ofW HT_.out HW_.out (by kernel_rfl)) (fun _ _ _ h => h) (Or.inl ⟨by rfl, ?_⟩) hHeld ?_ ?_
                        rotate_left
                        ·rintro w' ⟨s0, s1, s2, s3, s4, s5, s6, s7, s8, s9, s10, s11, s12, s13, s14, s15, s16, s17, s18, s19, s20, s21, s22, s23⟩
                         go_simp
                         with_reducible rfl
                        rotate_left
                        ·simp only [Act.put, sA_, sZ_, sS_, i64_w, i32_w]
                         rfl
                        refine pu_ 4 75 HT_ (bs 24 31) rfl rfl ?_
                        refine pu_ 5 76 HT_ (bs 24 63) rfl rfl ?_
                        refine pu_ 8 79 HT_ (bs 24 319) rfl rfl ?_
                        refine take_ (i := 6) (N := some 77) (v := ?_) (a' := ?_) (bs 24 383) rfl rfl (take_ofW HT_.out HW_.out (by kernel_rfl)) (fun _ _ _ h => h) (Or.inl ⟨by rfl, ?_⟩) hHeld ?_ ?_
                        rotate_left
                        ·rintro w' ⟨s0, s1, s2, s3, s4, s5, s6, s7, s8, s9, s10, s11, s12, s13, s14, s15, s16, s17, s18, s19, s20, s21, s22, s23⟩
                         go_simp
                         with_reducible rfl
                        rotate_left
                        ·simp only [Act.put, sA_, sZ_, sS_, i64_w, i32_w]
                         rfl
                        refine take_ (i := 7) (N := some 78) (v := ?_) (a' := ?_) (bs 24 511) rfl rfl (take_ofW HT_.out HW_.out (by kernel_rfl)) (fun _ _ _ h => h) (Or.inl ⟨by rfl, ?_⟩) hHeld ?_ ?_
                        rotate_left
                        ·rintro w' ⟨s0, s1, s2, s3, s4, s5, s6, s7, s8, s9, s10, s11, s12, s13, s14, s15, s16, s17, s18, s19, s20, s21, s22, s23⟩
                         go_simp
                         with_reducible rfl
                        rotate_left
                        ·simp only [Act.put, sA_, sZ_, sS_, i64_w, i32_w]
                         rfl
                        refine one_ (i := 9) (N := some 80) (bs 24 1023) rfl rfl (one_of HT_.out (by kernel_rfl)) (by decide) (fun K hK => ?_)
                        refine goes_ Try.func34 (by kernel_rfl) rfl #[.agg #[.int .i64 ((rd_T31 l0 x59_3).f0), .int .i64 ((rd_T31 l0 x59_3).f1), .int .i64 ((rd_T31 l0 x59_3).f2), .int .i64 ((rd_T31 l0 x59_3).f3), .int .i64 ((rd_T31 l0 x59_3).f4), .int .i64 ((rd_T31 l0 x59_3).f5)], .agg #[.int .i64 ((rd_T31 l0 x66_4).f0), .int .i64 ((rd_T31 l0 x66_4).f1), .int .i64 ((rd_T31 l0 x66_4).f2), .int .i64 ((rd_T31 l0 x66_4).f3), .int .i64 ((rd_T31 l0 x66_4).f4), .int .i64 ((rd_T31 l0 x66_4).f5)], .int .i64 a2] (by rfl) rfl rfl (by (try simp only [List.map_toArray, List.map_cons, List.map_nil]); first | done | rfl | (simp only [List.length_drop, List.length_take]; rfl)) ?_
                        with_reducible refine (impl_changes.calls ((rd_T31 l0 x59_3).f0) ((rd_T31 l0 x59_3).f1) ((rd_T31 l0 x59_3).f2) ((rd_T31 l0 x59_3).f3) ((rd_T31 l0 x59_3).f4) ((rd_T31 l0 x59_3).f5) ((rd_T31 l0 x66_4).f0) ((rd_T31 l0 x66_4).f1) ((rd_T31 l0 x66_4).f2) ((rd_T31 l0 x66_4).f3) ((rd_T31 l0 x66_4).f4) ((rd_T31 l0 x66_4).f5) a2 true _ A60.out).mono ?_
                        rintro e w80 ⟨rfl, hb⟩
                        refine ⟨_, rfl, ?_⟩
                        have n0_ := Aside0.mk (Kd.R_below (fr_ HO_11.out) hb)
                        have n1_ := Aside0.mk (blk_below (g := gb211) (o := .cells #[.int .i64 ((rd_T31 l0 x59_3).f0), .int .i64 ((rd_T31 l0 x59_3).f1), .int .i64 ((rd_T31 l0 x59_3).f2), .int .i64 ((rd_T31 l0 x59_3).f3), .int .i64 ((rd_T31 l0 x59_3).f4), .int .i64 ((rd_T31 l0 x59_3).f5)] 31 (0, 0)) (fb_ BK211.out) hb)
                        have n2_ := Aside0.mk (blk_below (g := gb213) (o := .cells #[.int .i64 ((rd_T31 l0 x66_4).f0), .int .i64 ((rd_T31 l0 x66_4).f1), .int .i64 ((rd_T31 l0 x66_4).f2), .int .i64 ((rd_T31 l0 x66_4).f3), .int .i64 ((rd_T31 l0 x66_4).f4), .int .i64 ((rd_T31 l0 x66_4).f5)] 31 (0, 0)) (fb_ BK213.out) hb)
                        have n3_ := Aside0.mk (below_step (bel_ HB.out) hb)
                        clear HO_11
                        clear BK211
                        clear BK213
                        clear HB
                        have HO_11 := n0_
                        have BK211 := n1_
                        have BK213 := n2_
                        have HB := n3_
                        clear n0_ n1_ n2_ n3_
                        (try clear hb)
                        (try clear hb2)
                        (try clear hk)
                        (try clear hi)
                        refine hK.out _ _ ⟨(blk_cell BK211.out 0).trans rfl, (blk_cell BK211.out 1).trans rfl, (blk_cell BK211.out 2).trans rfl, (blk_cell BK211.out 3).trans rfl, (blk_cell BK211.out 4).trans rfl, (blk_cell BK211.out 5).trans rfl, (blk_cell BK213.out 0).trans rfl, (blk_cell BK213.out 1).trans rfl, (blk_cell BK213.out 2).trans rfl, (blk_cell BK213.out 3).trans rfl, (blk_cell BK213.out 4).trans rfl, (blk_cell BK213.out 5).trans rfl, ((HB.out.cell (World.block_lt_of_cell? w _ hw215_0)).trans hw215_0), ((HB.out.cell (World.block_lt_of_cell? w _ hw215_1)).trans hw215_1), ((HB.out.cell (World.block_lt_of_cell? w _ hw215_2)).trans hw215_2), ((HB.out.cell (World.block_lt_of_cell? w _ hw215_3)).trans hw215_3), ((HB.out.cell (World.block_lt_of_cell? w _ hw215_4)).trans hw215_4), ((HB.out.cell (World.block_lt_of_cell? w _ hw215_5)).trans hw215_5), ((HB.out.cell (World.block_lt_of_cell? w _ hw216_0)).trans hw216_0), ((HB.out.cell (World.block_lt_of_cell? w _ hw216_1)).trans hw216_1), ((HB.out.cell (World.block_lt_of_cell? w _ hw216_2)).trans hw216_2), ((HB.out.cell (World.block_lt_of_cell? w _ hw216_3)).trans hw216_3), ((HB.out.cell (World.block_lt_of_cell? w _ hw216_4)).trans hw216_4), ((HB.out.cell (World.block_lt_of_cell? w _ hw216_5)).trans hw216_5)⟩ (fun hHeld => ?_)
                        clear hK K
                        refine norm_ (a' := ?_) ?_ ?_
                        rotate_left
                        ·show Act.put _ (some 80) _ = _
                         simp only [Act.put, sA_, sZ_, sS_, i64_w, i32_w]
                         rfl
                        refine pu_ 10 81 HT_ (bs 24 2047) rfl rfl ?_
                        refine pu_ 11 82 HT_ (bs 24 4095) rfl rfl ?_
                        refine pu_ 12 83 HT_ (bs 24 8191) rfl rfl ?_
                        refine pu_ 13 84 HT_ (bs 24 16383) rfl rfl ?_
                        refine pu_ 14 85 HT_ (bs 24 32767) rfl rfl ?_
                        refine pu_ 16 87 HT_ (bs 24 98303) rfl rfl ?_
                        refine pu_ 17 88 HT_ (bs 24 229375) rfl rfl ?_
                        refine pu_ 18 89 HT_ (bs 24 491519) rfl rfl ?_
                        refine pu_ 20 91 HT_ (bs 24 1540095) rfl rfl ?_
                        refine take_ (i := 15) (N := some 86) (v := ?_) (a' := ?_) (bs 24 1572863) rfl rfl (take_ofW HT_.out HW_.out (by kernel_rfl)) (fun _ _ _ h => h) (Or.inl ⟨by rfl, ?_⟩) hHeld ?_ ?_
                        rotate_left
                        ·rintro w' ⟨s0, s1, s2, s3, s4, s5, s6, s7, s8, s9, s10, s11, s12, s13, s14, s15, s16, s17, s18, s19, s20, s21, s22, s23⟩
                         go_simp
                         with_reducible rfl
                        rotate_left
                        ·simp only [Act.put, sA_, sZ_, sS_, i64_w, i32_w]
                         rfl
                        refine take_ (i := 19) (N := some 90) (v := ?_) (a' := ?_) (bs 24 2097151) rfl rfl (take_ofW HT_.out HW_.out (by kernel_rfl)) (fun _ _ _ h => h) (Or.inl ⟨by rfl, ?_⟩) hHeld ?_ ?_
                        rotate_left
                        ·rintro w' ⟨s0, s1, s2, s3, s4, s5, s6, s7, s8, s9, s10, s11, s12, s13, s14, s15, s16, s17, s18, s19, s20, s21, s22, s23⟩
                         go_simp
                         with_reducible rfl
                        rotate_left
                        ·simp only [Act.put, sA_, sZ_, sS_, i64_w, i32_w]
                         rfl
                        refine one_ (i := 21) (N := some 92) (bs 24 4194303) rfl rfl (one_of HT_.out (by kernel_rfl)) (by decide) (fun K hK => ?_)
                        refine goes_ Try.func34 (by kernel_rfl) rfl #[.agg #[.int .i64 ((rd_T31 l1 x59_3).f0), .int .i64 ((rd_T31 l1 x59_3).f1), .int .i64 ((rd_T31 l1 x59_3).f2), .int .i64 ((rd_T31 l1 x59_3).f3), .int .i64 ((rd_T31 l1 x59_3).f4), .int .i64 ((rd_T31 l1 x59_3).f5)], .agg #[.int .i64 ((rd_T31 l1 x66_4).f0), .int .i64 ((rd_T31 l1 x66_4).f1), .int .i64 ((rd_T31 l1 x66_4).f2), .int .i64 ((rd_T31 l1 x66_4).f3), .int .i64 ((rd_T31 l1 x66_4).f4), .int .i64 ((rd_T31 l1 x66_4).f5)], .int .i64 a2] (by rfl) rfl rfl (by (try simp only [List.map_toArray, List.map_cons, List.map_nil]); first | done | rfl | (simp only [List.length_drop, List.length_take]; rfl)) ?_
                        with_reducible refine (impl_changes.calls ((rd_T31 l1 x59_3).f0) ((rd_T31 l1 x59_3).f1) ((rd_T31 l1 x59_3).f2) ((rd_T31 l1 x59_3).f3) ((rd_T31 l1 x59_3).f4) ((rd_T31 l1 x59_3).f5) ((rd_T31 l1 x66_4).f0) ((rd_T31 l1 x66_4).f1) ((rd_T31 l1 x66_4).f2) ((rd_T31 l1 x66_4).f3) ((rd_T31 l1 x66_4).f4) ((rd_T31 l1 x66_4).f5) a2 false _ A65.out).mono ?_
                        rintro e w81 ⟨rfl, hb⟩
                        refine ⟨_, rfl, ?_⟩
                        have n0_ := Aside0.mk (Kd.R_below (fr_ HO_11.out) hb)
                        have n1_ := Aside0.mk (blk_below (g := gb211) (o := .cells #[.int .i64 ((rd_T31 l0 x59_3).f0), .int .i64 ((rd_T31 l0 x59_3).f1), .int .i64 ((rd_T31 l0 x59_3).f2), .int .i64 ((rd_T31 l0 x59_3).f3), .int .i64 ((rd_T31 l0 x59_3).f4), .int .i64 ((rd_T31 l0 x59_3).f5)] 31 (0, 0)) (fb_ BK211.out) hb)
                        have n2_ := Aside0.mk (blk_below (g := gb213) (o := .cells #[.int .i64 ((rd_T31 l0 x66_4).f0), .int .i64 ((rd_T31 l0 x66_4).f1), .int .i64 ((rd_T31 l0 x66_4).f2), .int .i64 ((rd_T31 l0 x66_4).f3), .int .i64 ((rd_T31 l0 x66_4).f4), .int .i64 ((rd_T31 l0 x66_4).f5)] 31 (0, 0)) (fb_ BK213.out) hb)
                        have n3_ := Aside0.mk (below_step (bel_ HB.out) hb)
                        clear HO_11
                        clear BK211
                        clear BK213
                        clear HB
                        have HO_11 := n0_
                        have BK211 := n1_
                        have BK213 := n2_
                        have HB := n3_
                        clear n0_ n1_ n2_ n3_
                        (try clear hb)
                        (try clear hb2)
                        (try clear hk)
                        (try clear hi)
                        refine hK.out _ _ ⟨(blk_cell BK211.out 0).trans rfl, (blk_cell BK211.out 1).trans rfl, (blk_cell BK211.out 2).trans rfl, (blk_cell BK211.out 3).trans rfl, (blk_cell BK211.out 4).trans rfl, (blk_cell BK211.out 5).trans rfl, (blk_cell BK213.out 0).trans rfl, (blk_cell BK213.out 1).trans rfl, (blk_cell BK213.out 2).trans rfl, (blk_cell BK213.out 3).trans rfl, (blk_cell BK213.out 4).trans rfl, (blk_cell BK213.out 5).trans rfl, ((HB.out.cell (World.block_lt_of_cell? w _ hw215_0)).trans hw215_0), ((HB.out.cell (World.block_lt_of_cell? w _ hw215_1)).trans hw215_1), ((HB.out.cell (World.block_lt_of_cell? w _ hw215_2)).trans hw215_2), ((HB.out.cell (World.block_lt_of_cell? w _ hw215_3)).trans hw215_3), ((HB.out.cell (World.block_lt_of_cell? w _ hw215_4)).trans hw215_4), ((HB.out.cell (World.block_lt_of_cell? w _ hw215_5)).trans hw215_5), ((HB.out.cell (World.block_lt_of_cell? w _ hw216_0)).trans hw216_0), ((HB.out.cell (World.block_lt_of_cell? w _ hw216_1)).trans hw216_1), ((HB.out.cell (World.block_lt_of_cell? w _ hw216_2)).trans hw216_2), ((HB.out.cell (World.block_lt_of_cell? w _ hw216_3)).trans hw216_3), ((HB.out.cell (World.block_lt_of_cell? w _ hw216_4)).trans hw216_4), ((HB.out.cell (World.block_lt_of_cell? w _ hw216_5)).trans hw216_5)⟩ (fun hHeld => ?_)
                        clear hK K
                        refine norm_ (a' := ?_) ?_ ?_
                        rotate_left
                        ·show Act.put _ (some 92) _ = _
                         simp only [Act.put, sA_, sZ_, sS_, i64_w, i32_w]
                         rfl
                        refine pu_ 22 93 HT_ (bs 24 8388607) rfl rfl ?_
                        refine pu_ 23 94 HT_ (bs 24 16777215) rfl rfl ?_
                        refine done_ (done_of HT_.out (by kernel_rfl)) ?_
                        try go_wp2_with (first | ((with_reducible refine gate_builtin (b := .append) (xs := #[.tmp 95, .tmp 102]) rfl ?_); (try (refine gate_guard (by rfl) ?_; dsimp only)); at_builtin; refine Kd.R_append (Kd.int .i64) (w0 := w) w.heap.size rfl (.tmp 95) (.tmp 102) 32 3 (.int .i64 0) 8 rfl Try.underlying32 info3 rfl (by decide) (by omega) u11 x11_4 (wrap64 ((wrap64 (x59_3 * (l0.length : Int))) + x66_4)) [.int .i64 (wrap64 ((wrap64 (x59_3 * (l0.length : Int))) + x66_4))] (fun _ => True) (fun _ => False) rfl rfl ?aP (fun _ hk => hk.elim) ?aF ?aO ?aB ?aS ?aL ?_; (case aP => exact rfl); (case aB => exact (bel_ HB.out)); (case aF => exact (fun _ _ => trivial)); (case aO => exact (fr_ HO_11.out)); (case aS => exact (below_size (bel_ HB.out))); (case aL => have := LMc74.out; omega); intro v219 w82 ho hb hg hat; rw [← Ny218.out] at ho; have n0_ := Aside0.mk (blk_grown (g := gb211) (o := .cells #[.int .i64 ((rd_T31 l0 x59_3).f0), .int .i64 ((rd_T31 l0 x59_3).f1), .int .i64 ((rd_T31 l0 x59_3).f2), .int .i64 ((rd_T31 l0 x59_3).f3), .int .i64 ((rd_T31 l0 x59_3).f4), .int .i64 ((rd_T31 l0 x59_3).f5)] 31 (0, 0)) (fb_ BK211.out) hg (Kd.R_ne HO_11.out BK211.out (by decide))); have n1_ := Aside0.mk (blk_grown (g := gb213) (o := .cells #[.int .i64 ((rd_T31 l0 x66_4).f0), .int .i64 ((rd_T31 l0 x66_4).f1), .int .i64 ((rd_T31 l0 x66_4).f2), .int .i64 ((rd_T31 l0 x66_4).f3), .int .i64 ((rd_T31 l0 x66_4).f4), .int .i64 ((rd_T31 l0 x66_4).f5)] 31 (0, 0)) (fb_ BK213.out) hg (Kd.R_ne HO_11.out BK213.out (by decide))); have n2_ := Aside0.mk (hb); have n3_ := Aside0.mk (ho); clear BK211; clear BK213; clear HB; clear HO_11; have BK211 := n0_; have BK213 := n1_; have HB := n2_; have HO220 := n3_; clear n0_ n1_ n2_ n3_; clear ho hb hg hat))
                        go_roundg k4
                        case measure => have := HJ3.out; have := HK2.out; have := HK3.out; have := HK4.out; omega
                        case rel => exact ⟨(y218), (wrap64 (x66_4 + 1)), (by first | rfl | (simp; done) | (simp [*]; done) | (simp [wrap64]; done)), H', ⟨by have := HJ3.out; have := HK2.out; have := HK3.out; have := HK4.out; omega⟩, ⟨by (with_reducible repeat (first | apply Kd.R_alloc | apply Kd.R_drewN | apply Kd.R_drew)); exact HO220.out⟩, ⟨by (with_reducible repeat (first | refine blk_drewN ?_ _ | refine blk_drew ?_ | refine blk_alloc ?_ _)); exact BK211.out⟩, ⟨bel_ HB.out⟩⟩
                       ·rw [if_neg c74] at H
                        exact absurd H (by simp)
                     ·rw [if_neg c64] at H
                      exact absurd H (by simp)
                    ·rw [if_neg c63] at H
                     exact absurd H (by simp)
                   ·rw [if_neg c62] at H
                    exact absurd H (by simp)
                  ·replace c61 := Bool.eq_false_iff.mpr c61
                   subst c61
                   have H1 : (impl_Missed.l2 k4 l0 l1 a2 x11_4 x59_3 l0 (l0.length : Int) x59_3 l0 (l0.length : Int) (wrap64 (x66_4 + 1)) ((rd_T31 l0 x59_3).f0) ((rd_T31 l0 x59_3).f1) ((rd_T31 l0 x59_3).f2) ((rd_T31 l0 x59_3).f3) ((rd_T31 l0 x59_3).f4) ((rd_T31 l0 x59_3).f5)) = some (r1, r2) := by rw [if_neg (show ¬ (false = true) by decide)] at H; exact H
                   clear H
                   have H := H1
                   clear H1
                   have H' := Aside0.mk H
                   clear H
                   have p212 : 0 ≤ (x66_4 : Int) := of_decide_eq_true (by first | (with_reducible assumption) | assumption)
                   have q212 : x66_4 < (l0.length : Int) := of_decide_eq_true (by first | (with_reducible assumption) | assumption)
                   obtain ⟨ad212, e212, hx212_0, hx212_1, hx212_2, hx212_3, hx212_4, hx212_5⟩ := at_T31 HR0.out x66_4 p212 q212
                   obtain rfl : ad210 = ad212 := (by injection e212)
                   replace hx212_0 := (HB.out.cell (World.block_lt_of_cell? w _ hx212_0)).trans hx212_0
                   replace hx212_1 := (HB.out.cell (World.block_lt_of_cell? w _ hx212_1)).trans hx212_1
                   replace hx212_2 := (HB.out.cell (World.block_lt_of_cell? w _ hx212_2)).trans hx212_2
                   replace hx212_3 := (HB.out.cell (World.block_lt_of_cell? w _ hx212_3)).trans hx212_3
                   replace hx212_4 := (HB.out.cell (World.block_lt_of_cell? w _ hx212_4)).trans hx212_4
                   replace hx212_5 := (HB.out.cell (World.block_lt_of_cell? w _ hx212_5)).trans hx212_5
                   replace p212 := eq_true p212
                   replace q212 := eq_true q212
                   try go_wp2_with (first | ((with_reducible refine gate_dst (N := 15) rfl ?_); (try (refine gate_guard (by rfl) ?_; dsimp only)); refine box_event ?hg (N := 15) ?hd (cs := #[.int .i64 0, .int .i64 0, .int .i64 0, .int .i64 0, .int .i64 0, .int .i64 0]) (t := 31) ?hr ?_; (case hd => rfl); (case hg => rfl); (case hr => first | (go_simp; done) | (go_simp; rfl)); intro gb213 hg w83 hbox hb; have n0_ := Aside0.mk (Kd.R_below (fr_ HO_11.out) hb); have n1_ := Aside0.mk (blk_below (g := gb211) (o := .cells #[.int .i64 ((rd_T31 l0 x59_3).f0), .int .i64 ((rd_T31 l0 x59_3).f1), .int .i64 ((rd_T31 l0 x59_3).f2), .int .i64 ((rd_T31 l0 x59_3).f3), .int .i64 ((rd_T31 l0 x59_3).f4), .int .i64 ((rd_T31 l0 x59_3).f5)] 31 (0, 0)) (fb_ BK211.out) hb); have n2_ := Aside0.mk (below_step (bel_ HB.out) hb); have n3_ := Aside0.mk (hbox); have n4_ := Aside0.mk ((by rw [hg]; exact (below_size (bel_ HB.out)) : w.heap.size ≤ gb213)); have n5_ := Aside0.mk ((by rw [hg]; exact (below_size (bel_ HB.out)) : w.heap.size ≤ gb213)); have n6_ := Aside0.mk ((by rw [hg]; exact Nat.ne_of_lt (blk_lt (g := gb211) (o := .cells #[.int .i64 ((rd_T31 l0 x59_3).f0), .int .i64 ((rd_T31 l0 x59_3).f1), .int .i64 ((rd_T31 l0 x59_3).f2), .int .i64 ((rd_T31 l0 x59_3).f3), .int .i64 ((rd_T31 l0 x59_3).f4), .int .i64 ((rd_T31 l0 x59_3).f5)] 31 (0, 0)) (fb_ BK211.out)) : gb211 ≠ gb213)); have n7_ := Aside0.mk ((by rw [hg]; exact Nat.ne_of_gt (blk_lt (g := gb211) (o := .cells #[.int .i64 ((rd_T31 l0 x59_3).f0), .int .i64 ((rd_T31 l0 x59_3).f1), .int .i64 ((rd_T31 l0 x59_3).f2), .int .i64 ((rd_T31 l0 x59_3).f3), .int .i64 ((rd_T31 l0 x59_3).f4), .int .i64 ((rd_T31 l0 x59_3).f5)] 31 (0, 0)) (fb_ BK211.out)) : gb213 ≠ gb211)); clear HO_11; clear BK211; clear HB; have HO_11 := n0_; have BK211 := n1_; have HB := n2_; have BK213 := n3_; have GW213 := n4_; have GE213 := n5_; have NB211_213 := n6_; have NB213_211 := n7_; clear n0_ n1_ n2_ n3_ n4_ n5_ n6_ n7_; clear hb hbox hg; have hnb84 := NB213_211.out; have hnc84 := NB211_213.out; have hcz85_0 : w83.cell? ⟨gb213, 0, none⟩ = some (.int .i64 0) := (blk_cell BK213.out 0).trans rfl; have hcz85_1 : w83.cell? ⟨gb213, 1, none⟩ = some (.int .i64 0) := (blk_cell BK213.out 1).trans rfl; have hcz85_2 : w83.cell? ⟨gb213, 2, none⟩ = some (.int .i64 0) := (blk_cell BK213.out 2).trans rfl; have hcz85_3 : w83.cell? ⟨gb213, 3, none⟩ = some (.int .i64 0) := (blk_cell BK213.out 3).trans rfl; have hcz85_4 : w83.cell? ⟨gb213, 4, none⟩ = some (.int .i64 0) := (blk_cell BK213.out 4).trans rfl; have hcz85_5 : w83.cell? ⟨gb213, 5, none⟩ = some (.int .i64 0) := (blk_cell BK213.out 5).trans rfl; have hfz85_0 := blk_frozen BK213.out 0; have hfz85_1 := blk_frozen BK213.out 1; have hfz85_2 := blk_frozen BK213.out 2; have hfz85_3 := blk_frozen BK213.out 3; have hfz85_4 := blk_frozen BK213.out 4; have hfz85_5 := blk_frozen BK213.out 5))
                   have n0_ : Aside0 (Kd.R (Kd.int .i64) 3 ((((((w83.setCell ⟨gb213, 0, none⟩ (.int .i64 ((rd_T31 l0 x66_4).f0))).setCell ⟨gb213, 1, none⟩ (.int .i64 ((rd_T31 l0 x66_4).f1))).setCell ⟨gb213, 2, none⟩ (.int .i64 ((rd_T31 l0 x66_4).f2))).setCell ⟨gb213, 3, none⟩ (.int .i64 ((rd_T31 l0 x66_4).f3))).setCell ⟨gb213, 4, none⟩ (.int .i64 ((rd_T31 l0 x66_4).f4))).setCell ⟨gb213, 5, none⟩ (.int .i64 ((rd_T31 l0 x66_4).f5))) w.heap.size (fun _ => True) u11 x11_4) := ⟨by (with_reducible repeat (first | apply Kd.R_alloc | apply Kd.R_drewN | apply Kd.R_drew)); exact Kd.R_mono (Kd.R_far (p := ⟨gb213, 5, none⟩) (Kd.R_far (p := ⟨gb213, 4, none⟩) (Kd.R_far (p := ⟨gb213, 3, none⟩) (Kd.R_far (p := ⟨gb213, 2, none⟩) (Kd.R_far (p := ⟨gb213, 1, none⟩) (Kd.R_far (p := ⟨gb213, 0, none⟩) (Kd.R_types HO_11.out BK213.out (by decide)) (fun _ hk => hk.2) (.int .i64 ((rd_T31 l0 x66_4).f0))) (fun _ hk => hk.2) (.int .i64 ((rd_T31 l0 x66_4).f1))) (fun _ hk => hk.2) (.int .i64 ((rd_T31 l0 x66_4).f2))) (fun _ hk => hk.2) (.int .i64 ((rd_T31 l0 x66_4).f3))) (fun _ hk => hk.2) (.int .i64 ((rd_T31 l0 x66_4).f4))) (fun _ hk => hk.2) (.int .i64 ((rd_T31 l0 x66_4).f5))) (fun _ hk => trivial)⟩
                   have n1_ : Aside0 (((((((w83.setCell ⟨gb213, 0, none⟩ (.int .i64 ((rd_T31 l0 x66_4).f0))).setCell ⟨gb213, 1, none⟩ (.int .i64 ((rd_T31 l0 x66_4).f1))).setCell ⟨gb213, 2, none⟩ (.int .i64 ((rd_T31 l0 x66_4).f2))).setCell ⟨gb213, 3, none⟩ (.int .i64 ((rd_T31 l0 x66_4).f3))).setCell ⟨gb213, 4, none⟩ (.int .i64 ((rd_T31 l0 x66_4).f4))).setCell ⟨gb213, 5, none⟩ (.int .i64 ((rd_T31 l0 x66_4).f5))).heap[gb211]? = some (.cells #[.int .i64 ((rd_T31 l0 x59_3).f0), .int .i64 ((rd_T31 l0 x59_3).f1), .int .i64 ((rd_T31 l0 x59_3).f2), .int .i64 ((rd_T31 l0 x59_3).f3), .int .i64 ((rd_T31 l0 x59_3).f4), .int .i64 ((rd_T31 l0 x59_3).f5)] 31 (0, 0))) := ⟨by (with_reducible repeat (first | refine blk_drewN ?_ _ | refine blk_drew ?_ | refine blk_alloc ?_ _)); refine blk_far ?_ NB211_213.out _; (with_reducible repeat (first | refine blk_drewN ?_ _ | refine blk_drew ?_ | refine blk_alloc ?_ _)); refine blk_far ?_ NB211_213.out _; (with_reducible repeat (first | refine blk_drewN ?_ _ | refine blk_drew ?_ | refine blk_alloc ?_ _)); refine blk_far ?_ NB211_213.out _; (with_reducible repeat (first | refine blk_drewN ?_ _ | refine blk_drew ?_ | refine blk_alloc ?_ _)); refine blk_far ?_ NB211_213.out _; (with_reducible repeat (first | refine blk_drewN ?_ _ | refine blk_drew ?_ | refine blk_alloc ?_ _)); refine blk_far ?_ NB211_213.out _; (with_reducible repeat (first | refine blk_drewN ?_ _ | refine blk_drew ?_ | refine blk_alloc ?_ _)); refine blk_far ?_ NB211_213.out _; (with_reducible repeat (first | refine blk_drewN ?_ _ | refine blk_drew ?_ | refine blk_alloc ?_ _)); exact BK211.out⟩
                   have n2_ : Aside0 (((((((w83.setCell ⟨gb213, 0, none⟩ (.int .i64 ((rd_T31 l0 x66_4).f0))).setCell ⟨gb213, 1, none⟩ (.int .i64 ((rd_T31 l0 x66_4).f1))).setCell ⟨gb213, 2, none⟩ (.int .i64 ((rd_T31 l0 x66_4).f2))).setCell ⟨gb213, 3, none⟩ (.int .i64 ((rd_T31 l0 x66_4).f3))).setCell ⟨gb213, 4, none⟩ (.int .i64 ((rd_T31 l0 x66_4).f4))).setCell ⟨gb213, 5, none⟩ (.int .i64 ((rd_T31 l0 x66_4).f5))).heap[gb213]? = some (.cells #[.int .i64 ((rd_T31 l0 x66_4).f0), .int .i64 ((rd_T31 l0 x66_4).f1), .int .i64 ((rd_T31 l0 x66_4).f2), .int .i64 ((rd_T31 l0 x66_4).f3), .int .i64 ((rd_T31 l0 x66_4).f4), .int .i64 ((rd_T31 l0 x66_4).f5)] 31 (0, 0))) := ⟨by (with_reducible repeat (first | refine blk_drewN ?_ _ | refine blk_drew ?_ | refine blk_alloc ?_ _)); refine blk_put (cs := #[.int .i64 ((rd_T31 l0 x66_4).f0), .int .i64 ((rd_T31 l0 x66_4).f1), .int .i64 ((rd_T31 l0 x66_4).f2), .int .i64 ((rd_T31 l0 x66_4).f3), .int .i64 ((rd_T31 l0 x66_4).f4), .int .i64 0]) ?_ 5 _ rfl; (with_reducible repeat (first | refine blk_drewN ?_ _ | refine blk_drew ?_ | refine blk_alloc ?_ _)); refine blk_put (cs := #[.int .i64 ((rd_T31 l0 x66_4).f0), .int .i64 ((rd_T31 l0 x66_4).f1), .int .i64 ((rd_T31 l0 x66_4).f2), .int .i64 ((rd_T31 l0 x66_4).f3), .int .i64 0, .int .i64 0]) ?_ 4 _ rfl; (with_reducible repeat (first | refine blk_drewN ?_ _ | refine blk_drew ?_ | refine blk_alloc ?_ _)); refine blk_put (cs := #[.int .i64 ((rd_T31 l0 x66_4).f0), .int .i64 ((rd_T31 l0 x66_4).f1), .int .i64 ((rd_T31 l0 x66_4).f2), .int .i64 0, .int .i64 0, .int .i64 0]) ?_ 3 _ rfl; (with_reducible repeat (first | refine blk_drewN ?_ _ | refine blk_drew ?_ | refine blk_alloc ?_ _)); refine blk_put (cs := #[.int .i64 ((rd_T31 l0 x66_4).f0), .int .i64 ((rd_T31 l0 x66_4).f1), .int .i64 0, .int .i64 0, .int .i64 0, .int .i64 0]) ?_ 2 _ rfl; (with_reducible repeat (first | refine blk_drewN ?_ _ | refine blk_drew ?_ | refine blk_alloc ?_ _)); refine blk_put (cs := #[.int .i64 ((rd_T31 l0 x66_4).f0), .int .i64 0, .int .i64 0, .int .i64 0, .int .i64 0, .int .i64 0]) ?_ 1 _ rfl; (with_reducible repeat (first | refine blk_drewN ?_ _ | refine blk_drew ?_ | refine blk_alloc ?_ _)); refine blk_put (cs := #[.int .i64 0, .int .i64 0, .int .i64 0, .int .i64 0, .int .i64 0, .int .i64 0]) ?_ 0 _ rfl; (with_reducible repeat (first | refine blk_drewN ?_ _ | refine blk_drew ?_ | refine blk_alloc ?_ _)); exact BK213.out⟩
                   have n3_ : Aside0 (Below w.heap.size w ((((((w83.setCell ⟨gb213, 0, none⟩ (.int .i64 ((rd_T31 l0 x66_4).f0))).setCell ⟨gb213, 1, none⟩ (.int .i64 ((rd_T31 l0 x66_4).f1))).setCell ⟨gb213, 2, none⟩ (.int .i64 ((rd_T31 l0 x66_4).f2))).setCell ⟨gb213, 3, none⟩ (.int .i64 ((rd_T31 l0 x66_4).f3))).setCell ⟨gb213, 4, none⟩ (.int .i64 ((rd_T31 l0 x66_4).f4))).setCell ⟨gb213, 5, none⟩ (.int .i64 ((rd_T31 l0 x66_4).f5)))) := ⟨bel_ HB.out⟩
                   (try clear HO_11)
                   (try clear BK211)
                   (try clear BK213)
                   (try clear HB)
                   generalize ((((((w83.setCell ⟨gb213, 0, none⟩ (.int .i64 ((rd_T31 l0 x66_4).f0))).setCell ⟨gb213, 1, none⟩ (.int .i64 ((rd_T31 l0 x66_4).f1))).setCell ⟨gb213, 2, none⟩ (.int .i64 ((rd_T31 l0 x66_4).f2))).setCell ⟨gb213, 3, none⟩ (.int .i64 ((rd_T31 l0 x66_4).f3))).setCell ⟨gb213, 4, none⟩ (.int .i64 ((rd_T31 l0 x66_4).f4))).setCell ⟨gb213, 5, none⟩ (.int .i64 ((rd_T31 l0 x66_4).f5))) = w86 at n0_ n1_ n2_ n3_ ⊢
                   have HO_11 := n0_
                   have BK211 := n1_
                   have BK213 := n2_
                   have HB := n3_
                   clear n0_ n1_ n2_ n3_
                   have n0_ := Aside0.mk (Kd.R_drew HO_11.out)
                   have n1_ := Aside0.mk (blk_drew BK211.out)
                   have n2_ := Aside0.mk (blk_drew BK213.out)
                   have n3_ := Aside0.mk (below_drew1 HB.out)
                   clear HO_11
                   clear BK211
                   clear BK213
                   clear HB
                   have HO_11 := n0_
                   have BK211 := n1_
                   have BK213 := n2_
                   have HB := n3_
                   clear n0_ n1_ n2_ n3_
                   refine start_ (n := 24) (S := fun w' => w'.cell? ⟨gb211, 0, none⟩ = some (.int .i64 ((rd_T31 l0 x59_3).f0)) ∧ w'.cell? ⟨gb211, 1, none⟩ = some (.int .i64 ((rd_T31 l0 x59_3).f1)) ∧ w'.cell? ⟨gb211, 2, none⟩ = some (.int .i64 ((rd_T31 l0 x59_3).f2)) ∧ w'.cell? ⟨gb211, 3, none⟩ = some (.int .i64 ((rd_T31 l0 x59_3).f3)) ∧ w'.cell? ⟨gb211, 4, none⟩ = some (.int .i64 ((rd_T31 l0 x59_3).f4)) ∧ w'.cell? ⟨gb211, 5, none⟩ = some (.int .i64 ((rd_T31 l0 x59_3).f5)) ∧ w'.cell? ⟨gb213, 0, none⟩ = some (.int .i64 ((rd_T31 l0 x66_4).f0)) ∧ w'.cell? ⟨gb213, 1, none⟩ = some (.int .i64 ((rd_T31 l0 x66_4).f1)) ∧ w'.cell? ⟨gb213, 2, none⟩ = some (.int .i64 ((rd_T31 l0 x66_4).f2)) ∧ w'.cell? ⟨gb213, 3, none⟩ = some (.int .i64 ((rd_T31 l0 x66_4).f3)) ∧ w'.cell? ⟨gb213, 4, none⟩ = some (.int .i64 ((rd_T31 l0 x66_4).f4)) ∧ w'.cell? ⟨gb213, 5, none⟩ = some (.int .i64 ((rd_T31 l0 x66_4).f5))) (ds := []) (bs 24 0) (by kernel_rfl) rfl rfl ⟨(blk_cell BK211.out 0).trans rfl, (blk_cell BK211.out 1).trans rfl, (blk_cell BK211.out 2).trans rfl, (blk_cell BK211.out 3).trans rfl, (blk_cell BK211.out 4).trans rfl, (blk_cell BK211.out 5).trans rfl, (blk_cell BK213.out 0).trans rfl, (blk_cell BK213.out 1).trans rfl, (blk_cell BK213.out 2).trans rfl, (blk_cell BK213.out 3).trans rfl, (blk_cell BK213.out 4).trans rfl, (blk_cell BK213.out 5).trans rfl⟩ (fun hHeld => ?_); refine with_tabW impl_Missed.tab18 impl_Missed.bits18 (fun HT_ HW_ => ?_)
                   generalize w86.drew = w87 at HO_11 BK211 BK213 HB hHeld ⊢
                   refine pu_ 0 71 HT_ (bs 24 1) rfl rfl ?_
                   refine pu_ 2 73 HT_ (bs 24 5) rfl rfl ?_
                   refine take_ (i := 1) (N := some 72) (v := ?_) (a' := ?_) (bs 24 7) rfl rfl (take_ofW HT_.out HW_.out (by kernel_rfl)) (fun _ _ _ h => h) (Or.inl ⟨by rfl, ?_⟩) hHeld ?_ ?_
                   rotate_left
                   ·rintro w' ⟨s0, s1, s2, s3, s4, s5, s6, s7, s8, s9, s10, s11⟩
                    go_simp
                    with_reducible rfl
                   rotate_left
                   ·simp only [Act.put, sA_, sZ_, sS_, i64_w, i32_w]
                    rfl
                   refine take_ (i := 3) (N := some 74) (v := ?_) (a' := ?_) (bs 24 15) rfl rfl (take_ofW HT_.out HW_.out (by kernel_rfl)) (fun _ _ _ h => h) (Or.inl ⟨by rfl, ?_⟩) hHeld ?_ ?_
                   rotate_left
                   ·rintro w' ⟨s0, s1, s2, s3, s4, s5, s6, s7, s8, s9, s10, s11⟩
                    go_simp
                    with_reducible rfl
                   rotate_left
                   ·simp only [Act.put, sA_, sZ_, sS_, i64_w, i32_w]
                    rfl
                   refine pu_ 4 75 HT_ (bs 24 31) rfl rfl ?_
                   refine pu_ 5 76 HT_ (bs 24 63) rfl rfl ?_
                   refine pu_ 8 79 HT_ (bs 24 319) rfl rfl ?_
                   refine take_ (i := 6) (N := some 77) (v := ?_) (a' := ?_) (bs 24 383) rfl rfl (take_ofW HT_.out HW_.out (by kernel_rfl)) (fun _ _ _ h => h) (Or.inl ⟨by rfl, ?_⟩) hHeld ?_ ?_
                   rotate_left
                   ·rintro w' ⟨s0, s1, s2, s3, s4, s5, s6, s7, s8, s9, s10, s11⟩
                    go_simp
                    with_reducible rfl
                   rotate_left
                   ·simp only [Act.put, sA_, sZ_, sS_, i64_w, i32_w]
                    rfl
                   refine take_ (i := 7) (N := some 78) (v := ?_) (a' := ?_) (bs 24 511) rfl rfl (take_ofW HT_.out HW_.out (by kernel_rfl)) (fun _ _ _ h => h) (Or.inl ⟨by rfl, ?_⟩) hHeld ?_ ?_
                   rotate_left
                   ·rintro w' ⟨s0, s1, s2, s3, s4, s5, s6, s7, s8, s9, s10, s11⟩
                    go_simp
                    with_reducible rfl
                   rotate_left
                   ·simp only [Act.put, sA_, sZ_, sS_, i64_w, i32_w]
                    rfl
                   refine one_ (i := 9) (N := some 80) (bs 24 1023) rfl rfl (one_of HT_.out (by kernel_rfl)) (by decide) (fun K hK => ?_)
                   refine goes_ Try.func34 (by kernel_rfl) rfl #[.agg #[.int .i64 ((rd_T31 l0 x59_3).f0), .int .i64 ((rd_T31 l0 x59_3).f1), .int .i64 ((rd_T31 l0 x59_3).f2), .int .i64 ((rd_T31 l0 x59_3).f3), .int .i64 ((rd_T31 l0 x59_3).f4), .int .i64 ((rd_T31 l0 x59_3).f5)], .agg #[.int .i64 ((rd_T31 l0 x66_4).f0), .int .i64 ((rd_T31 l0 x66_4).f1), .int .i64 ((rd_T31 l0 x66_4).f2), .int .i64 ((rd_T31 l0 x66_4).f3), .int .i64 ((rd_T31 l0 x66_4).f4), .int .i64 ((rd_T31 l0 x66_4).f5)], .int .i64 a2] (by rfl) rfl rfl (by (try simp only [List.map_toArray, List.map_cons, List.map_nil]); first | done | rfl | (simp only [List.length_drop, List.length_take]; rfl)) ?_
                   with_reducible refine (impl_changes.calls ((rd_T31 l0 x59_3).f0) ((rd_T31 l0 x59_3).f1) ((rd_T31 l0 x59_3).f2) ((rd_T31 l0 x59_3).f3) ((rd_T31 l0 x59_3).f4) ((rd_T31 l0 x59_3).f5) ((rd_T31 l0 x66_4).f0) ((rd_T31 l0 x66_4).f1) ((rd_T31 l0 x66_4).f2) ((rd_T31 l0 x66_4).f3) ((rd_T31 l0 x66_4).f4) ((rd_T31 l0 x66_4).f5) a2 false _ A60.out).mono ?_
                   rintro e w88 ⟨rfl, hb⟩
                   refine ⟨_, rfl, ?_⟩
                   have n0_ := Aside0.mk (Kd.R_below (fr_ HO_11.out) hb)
                   have n1_ := Aside0.mk (blk_below (g := gb211) (o := .cells #[.int .i64 ((rd_T31 l0 x59_3).f0), .int .i64 ((rd_T31 l0 x59_3).f1), .int .i64 ((rd_T31 l0 x59_3).f2), .int .i64 ((rd_T31 l0 x59_3).f3), .int .i64 ((rd_T31 l0 x59_3).f4), .int .i64 ((rd_T31 l0 x59_3).f5)] 31 (0, 0)) (fb_ BK211.out) hb)
                   have n2_ := Aside0.mk (blk_below (g := gb213) (o := .cells #[.int .i64 ((rd_T31 l0 x66_4).f0), .int .i64 ((rd_T31 l0 x66_4).f1), .int .i64 ((rd_T31 l0 x66_4).f2), .int .i64 ((rd_T31 l0 x66_4).f3), .int .i64 ((rd_T31 l0 x66_4).f4), .int .i64 ((rd_T31 l0 x66_4).f5)] 31 (0, 0)) (fb_ BK213.out) hb)
                   have n3_ := Aside0.mk (below_step (bel_ HB.out) hb)
                   clear HO_11
                   clear BK211
                   clear BK213
                   clear HB
                   have HO_11 := n0_
                   have BK211 := n1_
                   have BK213 := n2_
                   have HB := n3_
                   clear n0_ n1_ n2_ n3_
                   (try clear hb)
                   (try clear hb2)
                   (try clear hk)
                   (try clear hi)
                   refine hK.out _ _ ⟨(blk_cell BK211.out 0).trans rfl, (blk_cell BK211.out 1).trans rfl, (blk_cell BK211.out 2).trans rfl, (blk_cell BK211.out 3).trans rfl, (blk_cell BK211.out 4).trans rfl, (blk_cell BK211.out 5).trans rfl, (blk_cell BK213.out 0).trans rfl, (blk_cell BK213.out 1).trans rfl, (blk_cell BK213.out 2).trans rfl, (blk_cell BK213.out 3).trans rfl, (blk_cell BK213.out 4).trans rfl, (blk_cell BK213.out 5).trans rfl⟩ (fun hHeld => ?_)
                   clear hK K
                   refine norm_ (a' := ?_) ?_ ?_
                   rotate_left
                   ·show Act.put _ (some 80) _ = _
                    simp only [Act.put, sA_, sZ_, sS_, i64_w, i32_w]
                    rfl
                   refine pu_ 10 81 HT_ (bs 24 2047) rfl rfl ?_
                   refine pu_ 11 82 HT_ (bs 24 4095) rfl rfl ?_
                   refine pn_ 12 83 HT_ (bs 24 8191) rfl rfl ?_
                   refine pn_ 13 84 HT_ (bs 24 16383) rfl rfl ?_
                   refine pn_ 14 85 HT_ (bs 24 32767) rfl rfl ?_
                   refine pn_ 15 86 HT_ (bs 24 65535) rfl rfl ?_
                   refine pn_ 16 87 HT_ (bs 24 131071) rfl rfl ?_
                   refine pn_ 17 88 HT_ (bs 24 262143) rfl rfl ?_
                   refine pn_ 18 89 HT_ (bs 24 524287) rfl rfl ?_
                   refine pn_ 19 90 HT_ (bs 24 1048575) rfl rfl ?_
                   refine pn_ 20 91 HT_ (bs 24 2097151) rfl rfl ?_
                   refine pn_ 21 92 HT_ (bs 24 4194303) rfl rfl ?_
                   refine pn_ 22 93 HT_ (bs 24 8388607) rfl rfl ?_
                   refine pu_ 23 94 HT_ (bs 24 16777215) rfl rfl ?_
                   refine done_ (done_of HT_.out (by kernel_rfl)) ?_
                   try go_wp2
                   go_roundg k4
                   case measure => have := HJ3.out; have := HK2.out; have := HK3.out; have := HK4.out; omega
                   case rel => exact ⟨(x11_4), (wrap64 (x66_4 + 1)), (by first | rfl | (simp; done) | (simp [*]; done) | (simp [wrap64]; done)), H', ⟨by have := HJ3.out; have := HK2.out; have := HK3.out; have := HK4.out; omega⟩, ⟨by (with_reducible repeat (first | apply Kd.R_alloc | apply Kd.R_drewN | apply Kd.R_drew)); exact HO_11.out⟩, ⟨by (with_reducible repeat (first | refine blk_drewN ?_ _ | refine blk_drew ?_ | refine blk_alloc ?_ _)); exact BK211.out⟩, ⟨bel_ HB.out⟩⟩
                ·rw [if_neg c53] at H
                 exact absurd H (by simp)
               ·rw [if_neg c52] at H
                exact absurd H (by simp)
              ·rw [if_neg c51] at H
               have c51b0 : decide (x66_4 < (l0.length : Int)) = false := decide_eq_false c51
               clear c51
               have H' := Aside0.mk H
               clear H
               go_wp2
               go_roundg k4
               case measure => have := HJ3.out; have := HK2.out; have := HK3.out; have := HK4.out; omega
               case rel => exact ⟨(x11_4), (wrap64 (x59_3 + 1)), (by first | rfl | (simp; done) | (simp [*]; done) | (simp [wrap64]; done)), H', ⟨by have := HJ3.out; have := HK2.out; have := HK3.out; have := HK4.out; omega⟩, ⟨by (with_reducible repeat (first | apply Kd.R_alloc | apply Kd.R_drewN | apply Kd.R_drew)); exact HO_11.out⟩, ⟨bel_ HB.out⟩⟩
           ·rw [if_neg c48] at H
            exact absurd H (by simp)
          ·rw [if_neg c47] at H
           exact absurd H (by simp)
         ·rw [if_neg c46] at H
          have c46b0 : decide (x59_3 < (l0.length : Int)) = false := decide_eq_false c46
          clear c46
          replace H := Option.bind_eq_some_iff.mp H
          obtain ⟨t207, A890, H⟩ := H
          replace H : (some (t207, true)) = some (r1, r2) := H
          have A89 := Aside0.mk A890
          clear A890
          simp only [Option.some.injEq, Prod.mk.injEq] at H
          obtain ⟨rfl, rfl⟩ := H
          obtain ⟨Ao90, co90, eo90⟩ := Kd.R_slice HO_11.out
          subst eo90
          go_wp2_with (first | ((with_reducible refine gate_callee (f := 35) rfl ?_); refine goesL_ (some 107) rfl rfl Try.func35 (by kernel_rfl) rfl #[.slice Ao90 x11_3.length co90] rfl (by (try simp only [List.map_toArray, List.map_cons, List.map_nil]); first | done | rfl | (simp only [List.length_drop, List.length_take]; rfl)) ?_; (with_reducible refine (impl_own_int.calls _ _ x11_3 t207 _ ?side1 ?side2 A89.out).mono ?_); (case side1 => repeat (first | exact (Kd.R_reads' HO_11.out).2.2 | (with_reducible refine Kd.C_alloc ?_ _) | (with_reducible refine Kd.C_drewN ?_ _) | (with_reducible refine Kd.C_drew ?_))); (case side2 => exact (Kd.R_reads' HO_11.out).2.1); rintro e w91 ⟨v208, rfl, ho0, hb⟩; refine ⟨_, rfl, ?_⟩; have n0_ := Aside0.mk (Kd.R_elder' (fr_ HO_11.out) (Kd.R_base ho0) hb); have n1_ := Aside0.mk (Kd.R_lower (Kd.R_new' ho0 (Kd.R_lt (fr_ HO_11.out))) (below_size (bel_ HB.out))); have n2_ := Aside0.mk (below_step (bel_ HB.out) hb); clear HO_11; clear HB; have HO_11 := n0_; have HO209 := n1_; have HB := n2_; clear n0_ n1_ n2_; (try clear hb); (try clear hb2); (try clear hk); (try clear hi); (try clear ho0)))
          go_ret2
          exact ⟨_, by first | rfl | (simp [errW_none, errW_some] <;> rfl) | (simp [*, errW_none, errW_some] <;> rfl), by (with_reducible repeat (first | apply Kd.R_alloc | apply Kd.R_drewN | apply Kd.R_drew)); exact Kd.R_mono HO209.out (fun _ hk => trivial), bel_ HB.out⟩

end Go.Proofs.Ytacekdgajpaomaa.PFnDelays
