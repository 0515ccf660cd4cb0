/- The Lean side of Go functions of this seat: what each answers, and that its run comes to that answer; written by a program of this work. -/
import Derived.Test.YtacekdgajpaomaaPFnExactEarliestx0
import Derived.Test.YtacekdgajpaomaaPFnExactEarliestx6
import Derived.Test.YtacekdgajpaomaaPFnExactEarliestx7
namespace Go.Proofs.Ytacekdgajpaomaa.PFnExactEarliest
open Go.RowKit Go.Proofs.YtacekdgajpaomaaW.PrintWords Go.Proofs.YtacekdgajpaomaaW.PrintLast Go.Proofs.YtacekdgajpaomaaW.PrintMore
attribute [local go_sem] max2_int min2_int max_two min_two max_three min_three max_four min_four   -- for this text's walks alone
set_option linter.unusedVariables false
set_option linter.unusedSimpArgs false

/-! ### impl_Earliest: function 27 -/
mutual
def impl_Earliest.l0 : Nat → Int → Int → Int → List Int → Int → Int → List (S31) → Option (List Int × Bool)
 | 0, _, _, _, _, _, _, _ => none
 | k + 1, x1, x2, x3, x10, x27, x28, x198000 => if x28 < x27 then (if 0 ≤ x28 then (if x28 < (x10.length : Int) then (impl_Earliest.l0 k x1 x2 x3 (x10.set (x28 : Int).toNat (-1)) x27 (wrap64 (x28 + 1)) x198000) else (none)) else (none)) else (if 0 ≤ x1 then (if x1 < (x10.length : Int) then (if 0 ≤ (x198000.length : Int) then (if ((x198000.length : Int) : Int).toNat ≤ 35184372088832 then ((some (List.replicate ((x198000.length : Int) : Int).toNat 0 : List Int)).bind fun y204 => (impl_Earliest.l1 k x1 x2 x3 (x10.set (x1 : Int).toNat x2) y204 (y204.length : Int) 0 x198000)) else (none)) else (none)) else (none)) else (none))
def impl_Earliest.l1 : Nat → Int → Int → Int → List Int → List Int → Int → Int → List (S31) → Option (List Int × Bool)
 | 0, _, _, _, _, _, _, _, _ => none
 | k + 1, x1, x2, x3, x10, x12, x43, x44, x198000 => if x44 < x43 then (if 0 ≤ x44 then (if x44 < (x12.length : Int) then (impl_Earliest.l1 k x1 x2 x3 x10 (x12.set (x44 : Int).toNat x44) x43 (wrap64 (x44 + 1)) x198000) else (none)) else (none)) else ((slices_SortFunc_int_int_at_impl_Earliest_1.f x12 [x198000]).bind fun t208 => (if 0 ≤ (x198000.length : Int) then (if ((x198000.length : Int) : Int).toNat ≤ 281474976710656 then (impl_Earliest.l2 k x1 x2 x3 x10 (List.replicate ((x198000.length : Int) : Int).toNat false) t208 (x12.length : Int) 0 x198000) else (none)) else (none)))
def impl_Earliest.l2 : Nat → Int → Int → Int → List Int → List Bool → List Int → Int → Int → List (S31) → Option (List Int × Bool)
 | 0, _, _, _, _, _, _, _, _, _ => none
 | k + 1, x1, x2, x3, x10, x14, x58, x59, x60, x198000 => if x60 < x59 then (if 0 ≤ x60 then (if x60 < (x58.length : Int) then (if 0 ≤ (rd x58 x60) then (if (rd x58 x60) < (x198000.length : Int) then (if ((rd_T31 x198000 (rd x58 x60)).f1) = x1 then (if (rd x58 x60) < (x14.length : Int) then (impl_Earliest.j3 k x1 x2 x3 x10 (x14.set ((rd x58 x60) : Int).toNat (decide (x2 ≤ ((rd_T31 x198000 (rd x58 x60)).f3)))) (rd x58 x60) x58 x59 x60 x198000 ((rd_T31 x198000 (rd x58 x60)).f0) ((rd_T31 x198000 (rd x58 x60)).f1) ((rd_T31 x198000 (rd x58 x60)).f2) ((rd_T31 x198000 (rd x58 x60)).f3) ((rd_T31 x198000 (rd x58 x60)).f4) ((rd_T31 x198000 (rd x58 x60)).f5)) else (none)) else (if (rd x58 x60) < (x14.length : Int) then (impl_Earliest.j3 k x1 x2 x3 x10 (x14.set ((rd x58 x60) : Int).toNat false) (rd x58 x60) x58 x59 x60 x198000 ((rd_T31 x198000 (rd x58 x60)).f0) ((rd_T31 x198000 (rd x58 x60)).f1) ((rd_T31 x198000 (rd x58 x60)).f2) ((rd_T31 x198000 (rd x58 x60)).f3) ((rd_T31 x198000 (rd x58 x60)).f4) ((rd_T31 x198000 (rd x58 x60)).f5)) else (none))) else (none)) else (none)) else (none)) else (none)) else (some (x10, true))
def impl_Earliest.j3 : Nat → Int → Int → Int → List Int → List Bool → Int → List Int → Int → Int → List (S31) → Int → Int → Int → Int → Int → Int → Option (List Int × Bool)
 | 0, _, _, _, _, _, _, _, _, _, _, _, _, _, _, _, _ => none
 | k + 1, x1, x2, x3, x10, x14, x16, x58, x59, x60, x198000, x215000, x215001, x215002, x215003, x215004, x215005 => impl_Earliest.l3 k x1 x2 x3 x10 x14 x16 x58 x59 x60 (x198000.length : Int) 0 x198000 x215000 x215001 x215002 x215003 x215004 x215005
def impl_Earliest.l3 : Nat → Int → Int → Int → List Int → List Bool → Int → List Int → Int → Int → Int → Int → List (S31) → Int → Int → Int → Int → Int → Int → Option (List Int × Bool)
 | 0, _, _, _, _, _, _, _, _, _, _, _, _, _, _, _, _, _, _ => none
 | k + 1, x1, x2, x3, x10, x14, x16, x58, x59, x60, x82, x83, x198000, x215000, x215001, x215002, x215003, x215004, x215005 => if x83 < x82 then (if 0 ≤ x16 then (if x16 < (x14.length : Int) then (if rdOf false x14 x16 = true then (impl_Earliest.l3 k x1 x2 x3 x10 (x14.set (x16 : Int).toNat true) x16 x58 x59 x60 x82 (wrap64 (x83 + 1)) x198000 x215000 x215001 x215002 x215003 x215004 x215005) else (if 0 ≤ x83 then (if x83 < (x14.length : Int) then (if rdOf false x14 x83 = true then (if x83 < (x198000.length : Int) then ((impl_changes.f ((rd_T31 x198000 x83).f0) ((rd_T31 x198000 x83).f1) ((rd_T31 x198000 x83).f2) ((rd_T31 x198000 x83).f3) ((rd_T31 x198000 x83).f4) ((rd_T31 x198000 x83).f5) x215000 x215001 x215002 x215003 x215004 x215005 x3).bind fun t221 => (impl_Earliest.l3 k x1 x2 x3 x10 (x14.set (x16 : Int).toNat t221) x16 x58 x59 x60 x82 (wrap64 (x83 + 1)) x198000 x215000 x215001 x215002 x215003 x215004 x215005)) else (none)) else (impl_Earliest.l3 k x1 x2 x3 x10 (x14.set (x16 : Int).toNat false) x16 x58 x59 x60 x82 (wrap64 (x83 + 1)) x198000 x215000 x215001 x215002 x215003 x215004 x215005)) else (none)) else (none))) else (none)) else (none)) else (if 0 ≤ x16 then (if x16 < (x14.length : Int) then (if rdOf false x14 x16 = true then (if 0 ≤ x215002 then (if x215002 < (x10.length : Int) then (if (rd x10 x215002) < 0 then (impl_Earliest.l2 k x1 x2 x3 (x10.set (x215002 : Int).toNat x215004) x14 x58 x59 (wrap64 (x60 + 1)) x198000) else (if x215004 < (rd x10 x215002) then (impl_Earliest.l2 k x1 x2 x3 (x10.set (x215002 : Int).toNat x215004) x14 x58 x59 (wrap64 (x60 + 1)) x198000) else (impl_Earliest.l2 k x1 x2 x3 x10 x14 x58 x59 (wrap64 (x60 + 1)) x198000))) else (none)) else (none)) else (impl_Earliest.l2 k x1 x2 x3 x10 x14 x58 x59 (wrap64 (x60 + 1)) x198000)) else (none)) else (none))
end
def impl_Earliest.f (k : Nat) (l0 : List (S31)) (a1 : Int) (a2 : Int) (a3 : Int) : Option (List Int × Bool) := (impl_lineRight.f l0 a1 a2 a3).bind fun t198 => (if t198 = true then (if 20 ≤ 35184372088832 then ((some (List.replicate 20 0 : List Int)).bind fun y199 => (impl_Earliest.l0 k a1 a2 a3 y199 (y199.length : Int) 0 l0)) else (none)) else (some (([] : List Int), false)))
theorem impl_Earliest.mono_l : ∀ k, (∀ y0 y1 y2 y3 y4 y5 y6, LeO (impl_Earliest.l0 k y0 y1 y2 y3 y4 y5 y6) (impl_Earliest.l0 (k + 1) y0 y1 y2 y3 y4 y5 y6)) ∧ (∀ y0 y1 y2 y3 y4 y5 y6 y7, LeO (impl_Earliest.l1 k y0 y1 y2 y3 y4 y5 y6 y7) (impl_Earliest.l1 (k + 1) y0 y1 y2 y3 y4 y5 y6 y7)) ∧ (∀ y0 y1 y2 y3 y4 y5 y6 y7 y8, LeO (impl_Earliest.l2 k y0 y1 y2 y3 y4 y5 y6 y7 y8) (impl_Earliest.l2 (k + 1) y0 y1 y2 y3 y4 y5 y6 y7 y8)) ∧ (∀ y0 y1 y2 y3 y4 y5 y6 y7 y8 y9 y10 y11 y12 y13 y14 y15, LeO (impl_Earliest.j3 k y0 y1 y2 y3 y4 y5 y6 y7 y8 y9 y10 y11 y12 y13 y14 y15) (impl_Earliest.j3 (k + 1) y0 y1 y2 y3 y4 y5 y6 y7 y8 y9 y10 y11 y12 y13 y14 y15)) ∧ (∀ y0 y1 y2 y3 y4 y5 y6 y7 y8 y9 y10 y11 y12 y13 y14 y15 y16 y17, LeO (impl_Earliest.l3 k y0 y1 y2 y3 y4 y5 y6 y7 y8 y9 y10 y11 y12 y13 y14 y15 y16 y17) (impl_Earliest.l3 (k + 1) y0 y1 y2 y3 y4 y5 y6 y7 y8 y9 y10 y11 y12 y13 y14 y15 y16 y17))
 | 0 => ⟨fun _ _ _ _ _ _ _ r h => by simp [impl_Earliest.l0] at h, fun _ _ _ _ _ _ _ _ r h => by simp [impl_Earliest.l1] at h, fun _ _ _ _ _ _ _ _ _ r h => by simp [impl_Earliest.l2] at h, fun _ _ _ _ _ _ _ _ _ _ _ _ _ _ _ _ r h => by simp [impl_Earliest.j3] at h, fun _ _ _ _ _ _ _ _ _ _ _ _ _ _ _ _ _ _ r h => by simp [impl_Earliest.l3] at h⟩
 | k + 1 => by
  obtain ⟨ih0, ih1, ih2, ih3, ih4⟩ := impl_Earliest.mono_l k
  refine ⟨?_, ?_, ?_, ?_, ?_⟩
  ·intro y0 y1 y2 y3 y4 y5 y6
   unfold impl_Earliest.l0
   repeat' first
   | (with_reducible exact ih0 _ _ _ _ _ _ _)
   | (with_reducible exact ih1 _ _ _ _ _ _ _ _)
   | (with_reducible exact ih2 _ _ _ _ _ _ _ _ _)
   | (with_reducible exact ih3 _ _ _ _ _ _ _ _ _ _ _ _ _ _ _ _)
   | (with_reducible exact ih4 _ _ _ _ _ _ _ _ _ _ _ _ _ _ _ _ _ _)
   | (with_reducible exact LeO.refl _)
   | (with_reducible exact LeO.none _)
   | (with_reducible refine LeO.ite ?_ ?_)
   | (with_reducible refine LeO.bind ?_ (fun _ => ?_))
   | exact ih0 _ _ _ _ _ _ _
   | exact ih1 _ _ _ _ _ _ _ _
   | exact ih2 _ _ _ _ _ _ _ _ _
   | exact ih3 _ _ _ _ _ _ _ _ _ _ _ _ _ _ _ _
   | exact ih4 _ _ _ _ _ _ _ _ _ _ _ _ _ _ _ _ _ _
   | exact LeO.none _
   | refine LeO.ite ?_ ?_
   | refine LeO.bind ?_ (fun _ => ?_)
  ·intro y0 y1 y2 y3 y4 y5 y6 y7
   unfold impl_Earliest.l1
   repeat' first
   | (with_reducible exact ih0 _ _ _ _ _ _ _)
   | (with_reducible exact ih1 _ _ _ _ _ _ _ _)
   | (with_reducible exact ih2 _ _ _ _ _ _ _ _ _)
   | (with_reducible exact ih3 _ _ _ _ _ _ _ _ _ _ _ _ _ _ _ _)
   | (with_reducible exact ih4 _ _ _ _ _ _ _ _ _ _ _ _ _ _ _ _ _ _)
   | (with_reducible exact LeO.refl _)
   | (with_reducible exact LeO.none _)
   | (with_reducible refine LeO.ite ?_ ?_)
   | (with_reducible refine LeO.bind ?_ (fun _ => ?_))
   | exact ih0 _ _ _ _ _ _ _
   | exact ih1 _ _ _ _ _ _ _ _
   | exact ih2 _ _ _ _ _ _ _ _ _
   | exact ih3 _ _ _ _ _ _ _ _ _ _ _ _ _ _ _ _
   | exact ih4 _ _ _ _ _ _ _ _ _ _ _ _ _ _ _ _ _ _
   | exact LeO.none _
   | refine LeO.ite ?_ ?_
   | refine LeO.bind ?_ (fun _ => ?_)
  ·intro y0 y1 y2 y3 y4 y5 y6 y7 y8
   unfold impl_Earliest.l2
   repeat' first
   | (with_reducible exact ih0 _ _ _ _ _ _ _)
   | (with_reducible exact ih1 _ _ _ _ _ _ _ _)
   | (with_reducible exact ih2 _ _ _ _ _ _ _ _ _)
   | (with_reducible exact ih3 _ _ _ _ _ _ _ _ _ _ _ _ _ _ _ _)
   | (with_reducible exact ih4 _ _ _ _ _ _ _ _ _ _ _ _ _ _ _ _ _ _)
   | (with_reducible exact LeO.refl _)
   | (with_reducible exact LeO.none _)
   | (with_reducible refine LeO.ite ?_ ?_)
   | (with_reducible refine LeO.bind ?_ (fun _ => ?_))
   | exact ih0 _ _ _ _ _ _ _
   | exact ih1 _ _ _ _ _ _ _ _
   | exact ih2 _ _ _ _ _ _ _ _ _
   | exact ih3 _ _ _ _ _ _ _ _ _ _ _ _ _ _ _ _
   | exact ih4 _ _ _ _ _ _ _ _ _ _ _ _ _ _ _ _ _ _
   | exact LeO.none _
   | refine LeO.ite ?_ ?_
   | refine LeO.bind ?_ (fun _ => ?_)
  ·intro y0 y1 y2 y3 y4 y5 y6 y7 y8 y9 y10 y11 y12 y13 y14 y15
   unfold impl_Earliest.j3
   repeat' first
   | (with_reducible exact ih0 _ _ _ _ _ _ _)
   | (with_reducible exact ih1 _ _ _ _ _ _ _ _)
   | (with_reducible exact ih2 _ _ _ _ _ _ _ _ _)
   | (with_reducible exact ih3 _ _ _ _ _ _ _ _ _ _ _ _ _ _ _ _)
   | (with_reducible exact ih4 _ _ _ _ _ _ _ _ _ _ _ _ _ _ _ _ _ _)
   | (with_reducible exact LeO.refl _)
   | (with_reducible exact LeO.none _)
   | (with_reducible refine LeO.ite ?_ ?_)
   | (with_reducible refine LeO.bind ?_ (fun _ => ?_))
   | exact ih0 _ _ _ _ _ _ _
   | exact ih1 _ _ _ _ _ _ _ _
   | exact ih2 _ _ _ _ _ _ _ _ _
   | exact ih3 _ _ _ _ _ _ _ _ _ _ _ _ _ _ _ _
   | exact ih4 _ _ _ _ _ _ _ _ _ _ _ _ _ _ _ _ _ _
   | exact LeO.none _
   | refine LeO.ite ?_ ?_
   | refine LeO.bind ?_ (fun _ => ?_)
  ·intro y0 y1 y2 y3 y4 y5 y6 y7 y8 y9 y10 y11 y12 y13 y14 y15 y16 y17
   unfold impl_Earliest.l3
   repeat' first
   | (with_reducible exact ih0 _ _ _ _ _ _ _)
   | (with_reducible exact ih1 _ _ _ _ _ _ _ _)
   | (with_reducible exact ih2 _ _ _ _ _ _ _ _ _)
   | (with_reducible exact ih3 _ _ _ _ _ _ _ _ _ _ _ _ _ _ _ _)
   | (with_reducible exact ih4 _ _ _ _ _ _ _ _ _ _ _ _ _ _ _ _ _ _)
   | (with_reducible exact LeO.refl _)
   | (with_reducible exact LeO.none _)
   | (with_reducible refine LeO.ite ?_ ?_)
   | (with_reducible refine LeO.bind ?_ (fun _ => ?_))
   | exact ih0 _ _ _ _ _ _ _
   | exact ih1 _ _ _ _ _ _ _ _
   | exact ih2 _ _ _ _ _ _ _ _ _
   | exact ih3 _ _ _ _ _ _ _ _ _ _ _ _ _ _ _ _
   | exact ih4 _ _ _ _ _ _ _ _ _ _ _ _ _ _ _ _ _ _
   | exact LeO.none _
   | refine LeO.ite ?_ ?_
   | refine LeO.bind ?_ (fun _ => ?_)
theorem impl_Earliest.mono : ∀ a0 a1 a2 a3 k, LeO (impl_Earliest.f k a0 a1 a2 a3) (impl_Earliest.f (k + 1) a0 a1 a2 a3) := by
 intro a0 a1 a2 a3 k
 obtain ⟨ih0, ih1, ih2, ih3, ih4⟩ := impl_Earliest.mono_l k
 unfold impl_Earliest.f
 repeat' first
   | (with_reducible exact ih0 _ _ _ _ _ _ _)
   | (with_reducible exact ih1 _ _ _ _ _ _ _ _)
   | (with_reducible exact ih2 _ _ _ _ _ _ _ _ _)
   | (with_reducible exact ih3 _ _ _ _ _ _ _ _ _ _ _ _ _ _ _ _)
   | (with_reducible exact ih4 _ _ _ _ _ _ _ _ _ _ _ _ _ _ _ _ _ _)
   | (with_reducible exact LeO.refl _)
   | (with_reducible exact LeO.none _)
   | (with_reducible refine LeO.ite ?_ ?_)
   | (with_reducible refine LeO.bind ?_ (fun _ => ?_))
   | exact ih0 _ _ _ _ _ _ _
   | exact ih1 _ _ _ _ _ _ _ _
   | exact ih2 _ _ _ _ _ _ _ _ _
   | exact ih3 _ _ _ _ _ _ _ _ _ _ _ _ _ _ _ _
   | exact ih4 _ _ _ _ _ _ _ _ _ _ _ _ _ _ _ _ _ _
   | exact LeO.none _
   | refine LeO.ite ?_ ?_
   | refine LeO.bind ?_ (fun _ => ?_)
def impl_Earliest.T26 : Bool × List (List Nat × List Nat) := (true, [([], []), ([], []), ([], []), ([], []), ([2, 3], [2, 3]), ([4], [4]), ([5], [5]), ([6], [6]), ([6], [6]), ([7, 8, 6], [6, 7, 8]), ([9, 6], [6, 9]), ([10, 6, 6], [6, 10]), ([11], [11]), ([11], [11]), ([12, 13, 11], [11, 12, 13]), ([14, 11], [11, 14]), ([11], [11]), ([11], [11]), ([15, 16, 17, 11, 11], [11, 15, 16, 17]), ([11, 18, 6], [6, 11, 18]), ([6, 19], [6, 19]), ([0, 1, 0, 1, 2, 3, 4, 5, 6, 7, 8, 9, 10, 11, 12, 13, 14, 15, 16, 17, 18, 19, 20], [0, 1]), ([21, 20, 18, 0, 1, 2, 3, 4, 5, 6, 7, 8, 9, 10, 11, 12, 13, 14, 15, 16, 17, 18, 19, 20], [20, 21])])
def impl_Earliest.B26 : List Nat := [0, 0, 0, 0, 12, 28, 60, 124, 124, 508, 1020, 2044, 4092, 4092, 16380, 32764, 4092, 4092, 262140, 524284, 1048572, 2097151, 4194303]
theorem impl_Earliest.tab26 : rtab .any (opsOf Try.f27 26) = impl_Earliest.T26 := by kernel_rfl
theorem impl_Earliest.bits26 : waitsOk impl_Earliest.T26.2 impl_Earliest.B26 = true := by kernel_rfl
def impl_Earliest.T28 : Bool × List (List Nat × List Nat) := (true, [([], []), ([], []), ([0, 1], [0, 1]), ([2], [2]), ([3], [3]), ([4], [4]), ([4], [4]), ([6, 4], [4, 6]), ([5, 7, 4], [4, 5, 7]), ([8, 4], [4, 8]), ([9, 4], [4, 9]), ([10, 4, 4], [4, 10]), ([11], [11]), ([12, 11], [11, 12]), ([11], [11]), ([11], [11]), ([15, 11], [11, 15]), ([14, 16, 11], [11, 14, 16]), ([17, 11], [11, 17]), ([13, 18, 11], [11, 13, 18]), ([11, 19, 4], [4, 11, 19]), ([4, 20], [4, 20])])
def impl_Earliest.B28 : List Nat := [0, 0, 3, 7, 15, 31, 31, 95, 255, 511, 1023, 2047, 4095, 8191, 4095, 4095, 36863, 118783, 249855, 524287, 1048575, 2097151]
theorem impl_Earliest.tab28 : rtab .any (opsOf Try.f27 28) = impl_Earliest.T28 := by kernel_rfl
theorem impl_Earliest.bits28 : waitsOk impl_Earliest.T28.2 impl_Earliest.B28 = true := by kernel_rfl
set_option maxHeartbeats 8000000 in
set_option maxRecDepth 100000 in
theorem impl_Earliest.calls (k : Nat) (A0 : Option Addr) (c0 : Nat) (l0 : List (S31)) (a1 : Int) (a2 : Int) (a3 : Int) (r1 : List Int) (r2 : Bool) (w : World) (hr0 : Kd.C k31 w A0 l0.length l0) (hc0 : l0.length ≤ c0) (h : impl_Earliest.f k l0 a1 a2 a3 = some (r1, r2)) :
  Calls Try.prog 27 #[.slice A0 l0.length c0, .int .i64 a1, .int .i64 a2, .int .i64 a3] w fun e w' => ∃ v0_ : Value, e = .returned (.tuple #[v0_, .bool r2]) ∧ Kd.R (Kd.int .i64) 3 w' w.heap.size (fun _ => True) v0_ r1 ∧ Below w.heap.size w w' := by
 have hu31 := Try.underlying31
 have HR0 := Aside0.mk hr0
 have HC0 := Aside0.mk hc0
 clear hr0 hc0
 have HB := Aside0.mk (Below.refl w.heap.size w)
 have H : ((impl_lineRight.f l0 a1 a2 a3).bind fun t198 => (if t198 = true then (if 20 ≤ 35184372088832 then ((some (List.replicate 20 0 : List Int)).bind fun y199 => (impl_Earliest.l0 k a1 a2 a3 y199 (y199.length : Int) 0 l0)) else (none)) else (some (([] : List Int), false)))) = some (r1, r2) := h
 clear h
 replace H := Option.bind_eq_some_iff.mp H
 obtain ⟨t198, A50, H⟩ := H
 replace H : (if t198 = true then (if 20 ≤ 35184372088832 then ((some (List.replicate 20 0 : List Int)).bind fun y199 => (impl_Earliest.l0 k a1 a2 a3 y199 (y199.length : Int) 0 l0)) else (none)) else (some (([] : List Int), false))) = some (r1, r2) := H
 have A5 := Aside0.mk A50
 clear A50
 by_cases c6 : t198 = true
 ·subst c6
  have H1 : (if 20 ≤ 35184372088832 then ((some (List.replicate 20 0 : List Int)).bind fun y199 => (impl_Earliest.l0 k a1 a2 a3 y199 (y199.length : Int) 0 l0)) else (none)) = some (r1, r2) := by rw [if_pos rfl] at H; exact H
  clear H
  have H := H1
  clear H1
  by_cases c7 : 20 ≤ 35184372088832
  ·rw [if_pos c7] at H
   have c7b0 := eq_true c7
   have c7b1 : decide (20 ≤ 35184372088832) = true := decide_eq_true c7
   clear c7
   obtain ⟨y199, hy199⟩ : ∃ y_ : List Int, y_ = (List.replicate 20 0) := ⟨_, rfl⟩
   replace H : (impl_Earliest.l0 k a1 a2 a3 y199 (y199.length : Int) 0 l0) = some (r1, r2) := by first | (rw [hy199]; with_reducible exact H) | (have H2_ := (Option.bind_some _ _).symm.trans H; rw [hy199]; with_reducible exact H2_) | (have H2_ := (Option.bind_some _ _).symm.trans H; with_reducible exact H2_) | with_reducible exact H | (rw [hy199]; exact H) | exact H
   have Ny199 := Aside0.mk hy199
   clear hy199
   have H' := Aside0.mk H
   clear H
   go_enter Try.func27, Try.ntmps27
   go_wp2_with (first | ((with_reducible refine gate_dst (N := 4) rfl ?_); refine box_event ?hg (N := 4) ?hd (cs := #[.slice A0 l0.length c0]) (t := 24) ?hr ?_; (case hd => rfl); (case hg => rfl); (case hr => first | (go_simp; done) | (go_simp; rfl)); intro gb197 hg w8 hbox hb; have n0_ := Aside0.mk (below_step (bel_ HB.out) hb); have n1_ := Aside0.mk (hbox); have n2_ := Aside0.mk ((by rw [hg]; exact (below_size (bel_ HB.out)) : w.heap.size ≤ gb197)); have n3_ := Aside0.mk ((by rw [hg]; exact (below_size (bel_ HB.out)) : w.heap.size ≤ gb197)); clear HB; have HB := n0_; have BK197 := n1_; have GW197 := n2_; have GE197 := n3_; clear n0_ n1_ n2_ n3_; clear hb hbox hg; have hcz9_0 : w8.cell? ⟨gb197, 0, none⟩ = some (.slice A0 l0.length c0) := (blk_cell BK197.out 0).trans rfl; have hfz9_0 := blk_frozen BK197.out 0) | ((with_reducible refine gate_callee (f := 42) rfl ?_); refine goesL_ (some 23) rfl rfl Try.func42 (by kernel_rfl) rfl #[.slice A0 l0.length c0, .int .i64 a1, .int .i64 a2, .int .i64 a3] rfl ml_ ?_; (with_reducible refine (impl_lineRight.calls _ _ l0 a1 a2 a3 true _ ?side1 ?side2 A5.out).mono ?_); (case side1 => repeat (first | exact (Kd.C_below HR0.out HB.out) | (with_reducible refine Kd.C_alloc ?_ _) | (with_reducible refine Kd.C_drewN ?_ _) | (with_reducible refine Kd.C_drew ?_))); (case side2 => exact HC0.out); rintro e w10 ⟨rfl, hb⟩; refine ⟨_, rfl, ?_⟩; have n0_ := Aside0.mk (bb_ BK197.out hb); have n1_ := Aside0.mk (below_step (bel_ HB.out) hb); clear BK197; clear HB; have BK197 := n0_; have HB := n1_; clear n0_ n1_; (try clear hb); (try clear hb2); (try clear hk); (try clear hi)) | ((with_reducible refine gate_dst (N := 25) rfl ?_); refine Kd.R_make (Kd.int .i64) _ 3 rfl (N := 25) rfl 32 _ _ rfl 20 rfl rfl Try.underlying32 (.int .i64 0) 8 info3 rfl (by decide) (by omega) 0 (ok := fun _ => True) (okp := fun _ => True) rfl (fun _ hk => hk) trivial (by omega) (by omega) (Below.refl _ _) (Nat.le_refl _) ?_; intro v200 w11 ho12 hb hg_ hnew_; clear hg_ hnew_; (first | rw [← Ny199.out] at ho12 | (simp only [Int.reduceToNat] at ho12; rw [← Ny199.out] at ho12)); have n0_ := Aside0.mk (Kd.R_lower ho12 (below_size (bel_ HB.out))); have n1_ := Aside0.mk (bb_ BK197.out hb); have n2_ := Aside0.mk (below_step (bel_ HB.out) hb); clear BK197; clear HB; have HO201 := n0_; have BK197 := n1_; have HB := n2_; clear n0_ n1_ n2_; clear hb ho12; obtain ⟨Ao13, co13, eo13⟩ := Kd.R_slice HO201.out; subst eo13))
   go_loopg [28] k (fun kq v28 w' => ∃ (x10_1 : List Int) (x28_1 : Int), v28 = .int .i64 x28_1 ∧ Aside0 (impl_Earliest.l0 kq a1 a2 a3 x10_1 (y199.length : Int) x28_1 l0 = some (r1, r2)) ∧ Aside0 (kq ≤ k) ∧ Aside0 (Kd.R (Kd.int .i64) 3 w' w.heap.size (fun _ => True) (.slice Ao13 y199.length co13) x10_1) ∧ Aside0 (w'.heap[gb197]? = some (.cells #[(.slice A0 l0.length c0)] 24 (0, 0))) ∧ Aside0 (Below w.heap.size w w'))
   case atStart => exact ⟨(y199), (0), (by first | rfl | (simp; done) | (simp [*]; done) | (simp [wrap64]; done)), H', ⟨Nat.le_refl _⟩, ⟨by (with_reducible repeat (first | apply Kd.R_alloc | apply Kd.R_drewN | apply Kd.R_drew)); exact HO201.out⟩, ⟨by refine rp_ ?_; exact BK197.out⟩, ⟨bel_ HB.out⟩⟩
   case round =>
    clear H'
    try clear c6
    try clear c7
    try clear c7b0
    try clear c7b1
    try clear hcz9_0
    try clear hfz9_0
    obtain ⟨x10_1, x28_1, rfl, HA, HK1, HO_10, BK197, HB⟩ := hrel
    have hl10_1 := (Kd.R_reads' HO_10.out).1
    rw [hl10_1] at HO_10
    (try simp only [hl10_1])
    (try simp only [hl10_1] at BK197)
    cases gk with
    | zero => exact absurd HA.out (by simp [impl_Earliest.l0])
    | succ k1 =>
     have H := HA.out
     clear HA
     simp only [impl_Earliest.l0] at H
     by_cases c14 : x28_1 < (y199.length : Int)
     ·rw [if_pos c14] at H
      have c14b0 : decide (x28_1 < (y199.length : Int)) = true := decide_eq_true c14
      (try (have c14h := c14b0; simp only [hl10_1] at c14h))
      clear c14
      by_cases c15 : 0 ≤ x28_1
      ·rw [if_pos c15] at H
       have c15b0 : decide (0 ≤ x28_1) = true := decide_eq_true c15
       clear c15
       by_cases c16 : x28_1 < (x10_1.length : Int)
       ·rw [if_pos c16] at H
        have c16b0 : decide (x28_1 < (x10_1.length : Int)) = true := decide_eq_true c16
        (try (have c16h := c16b0; simp only [hl10_1] at c16h))
        clear c16
        obtain ⟨y202, hy202⟩ : ∃ y_ : List Int, y_ = (x10_1.set (x28_1 : Int).toNat (-1)) := ⟨_, rfl⟩
        replace H : (impl_Earliest.l0 k1 a1 a2 a3 y202 (y199.length : Int) (wrap64 (x28_1 + 1)) l0) = some (r1, r2) := by first | (rw [hy202]; with_reducible exact H) | (have H2_ := (Option.bind_some _ _).symm.trans H; rw [hy202]; with_reducible exact H2_) | (have H2_ := (Option.bind_some _ _).symm.trans H; with_reducible exact H2_) | with_reducible exact H | (rw [hy202]; exact H) | exact H
        have Ny202 := Aside0.mk hy202
        clear hy202
        have H' := Aside0.mk H
        clear H
        have p17 : 0 ≤ (x28_1 : Int) := of_decide_eq_true (by first | (with_reducible assumption) | assumption)
        have q17 : (x28_1 : Int) < ((x10_1.length : Int) : Int) := of_decide_eq_true (by first | (with_reducible assumption) | assumption)
        obtain ⟨go17, co17, eo17, gb17, gl17, cl17, HG17⟩ := Kd.R_form HO_10.out (by omega)
        (first | cases eo17 | (injection eo17 with ea_ en_ ec_; (first | subst ea_ | (injection ea_ with ea_; subst ea_)); subst ec_; clear en_))
        have GB17 := Aside0.mk gb17
        have GG17 := Aside0.mk HG17
        clear gb17 gl17 HG17
        obtain ⟨hx17_0, hf17_0⟩ := Kd.R_celln 0 HO_10.out (x28_1 : Int) p17 q17
        replace p17 := eq_true p17
        replace q17 := eq_true q17
        have HP18 := Kd.R_putg HO_10.out (x28_1 : Int) (-1)
        go_wp2_with (first | ((with_reducible refine gate_store (t := 3) (p := 33) rfl ?_); refine store_event (t := 3) (p := 33) (v := ?vo_w19) (w1 := (wr.setCell ⟨go17, (x28_1 : Int).toNat, none⟩ (.int .i64 (-1)))) ?hg ?ho ?hn ?hr ?_; (case ho => rfl); (case hg => rfl); (case hn => rfl); (case hr => first | (go_simp; done) | (go_simp; rfl)); intro w19 hw; have hg : wr.grownBy w19 (some go17) := (by rw [hw]; exact HP18.2); have hp_ : Kd.R (Kd.int .i64) 3 w19 w.heap.size (fun _ => True) (.slice (some ⟨go17, 0, none⟩) x10_1.length co13) y202 := (by rw [hw, Ny202.out]; exact HP18.1); clear HP18; have n0_ := Aside0.mk (hp_); have n1_ := Aside0.mk (blk_grown (g := gb197) (o := .cells #[.slice A0 l0.length c0] 24 (0, 0)) (fb_ BK197.out) hg (Kd.R_ne HO_10.out BK197.out (by decide))); have n2_ := Aside0.mk ((by rw [hw]; exact below_set (HB.out) GB17.out : Below w.heap.size w w19)); clear HO_10; clear BK197; clear HB; have HO_10 := n0_; have BK197 := n1_; have HB := n2_; clear n0_ n1_ n2_; clear hg hw hp_))
        (try simp only [← hl10_1])
        (first | go_roundg k1 | (refine Handed.intro k1 ?measure ?_; rotate_left; go_step; (repeat apply Exists.intro); simp only [add_plain]; refine ⟨?rel, rfl⟩))
        case measure => have := HK1.out; omega
        case rel => exact ⟨(y202), (wrap64 (x28_1 + 1)), (by first | rfl | (simp; done) | (simp [*]; done) | (simp [wrap64]; done)), H', ⟨by have := HK1.out; omega⟩, ⟨by (try simp only [hl10_1]); (with_reducible repeat (first | apply Kd.R_alloc | apply Kd.R_drewN | apply Kd.R_drew)); exact HO_10.out⟩, ⟨by (try simp only [hl10_1]); refine rp_ ?_; exact BK197.out⟩, ⟨bel_ HB.out⟩⟩
       ·rw [if_neg c16] at H
        exact absurd H (by simp)
      ·rw [if_neg c15] at H
       exact absurd H (by simp)
     ·rw [if_neg c14] at H
      have c14b0 : decide (x28_1 < (y199.length : Int)) = false := decide_eq_false c14
      (try (have c14h := c14b0; simp only [hl10_1] at c14h))
      clear c14
      by_cases c20 : 0 ≤ a1
      ·rw [if_pos c20] at H
       have c20b0 : decide (0 ≤ a1) = true := decide_eq_true c20
       clear c20
       by_cases c21 : a1 < (x10_1.length : Int)
       ·rw [if_pos c21] at H
        have c21b0 : decide (a1 < (x10_1.length : Int)) = true := decide_eq_true c21
        (try (have c21h := c21b0; simp only [hl10_1] at c21h))
        clear c21
        obtain ⟨y203, hy203⟩ : ∃ y_ : List Int, y_ = (x10_1.set (a1 : Int).toNat a2) := ⟨_, rfl⟩
        replace H : (if 0 ≤ (l0.length : Int) then (if ((l0.length : Int) : Int).toNat ≤ 35184372088832 then ((some (List.replicate ((l0.length : Int) : Int).toNat 0 : List Int)).bind fun y204 => (impl_Earliest.l1 k1 a1 a2 a3 y203 y204 (y204.length : Int) 0 l0)) else (none)) else (none)) = some (r1, r2) := by first | (rw [hy203]; with_reducible exact H) | (have H2_ := (Option.bind_some _ _).symm.trans H; rw [hy203]; with_reducible exact H2_) | (have H2_ := (Option.bind_some _ _).symm.trans H; with_reducible exact H2_) | with_reducible exact H | (rw [hy203]; exact H) | exact H
        have Ny203 := Aside0.mk hy203
        clear hy203
        by_cases c23 : 0 ≤ (l0.length : Int)
        ·rw [if_pos c23] at H
         have c23b0 := eq_true c23
         have c23b1 : decide (0 ≤ (l0.length : Int)) = true := decide_eq_true c23
         clear c23
         by_cases c24 : ((l0.length : Int) : Int).toNat ≤ 35184372088832
         ·rw [if_pos c24] at H
          have c24b0 := eq_true c24
          have c24b1 : decide (((l0.length : Int) : Int).toNat ≤ 35184372088832) = true := decide_eq_true c24
          clear c24
          obtain ⟨y204, hy204⟩ : ∃ y_ : List Int, y_ = (List.replicate ((l0.length : Int) : Int).toNat 0) := ⟨_, rfl⟩
          replace H : (impl_Earliest.l1 k1 a1 a2 a3 y203 y204 (y204.length : Int) 0 l0) = some (r1, r2) := by first | (rw [hy204]; with_reducible exact H) | (have H2_ := (Option.bind_some _ _).symm.trans H; rw [hy204]; with_reducible exact H2_) | (have H2_ := (Option.bind_some _ _).symm.trans H; with_reducible exact H2_) | with_reducible exact H | (rw [hy204]; exact H) | exact H
          have Ny204 := Aside0.mk hy204
          clear hy204
          have H' := Aside0.mk H
          clear H
          have p22 : 0 ≤ (a1 : Int) := of_decide_eq_true (by first | (with_reducible assumption) | assumption)
          have q22 : (a1 : Int) < ((x10_1.length : Int) : Int) := of_decide_eq_true (by first | (with_reducible assumption) | assumption)
          obtain ⟨go22, co22, eo22, gb22, gl22, cl22, HG22⟩ := Kd.R_form HO_10.out (by omega)
          (first | cases eo22 | (injection eo22 with ea_ en_ ec_; (first | subst ea_ | (injection ea_ with ea_; subst ea_)); subst ec_; clear en_))
          have GB22 := Aside0.mk gb22
          have GG22 := Aside0.mk HG22
          clear gb22 gl22 HG22
          obtain ⟨hx22_0, hf22_0⟩ := Kd.R_celln 0 HO_10.out (a1 : Int) p22 q22
          replace p22 := eq_true p22
          replace q22 := eq_true q22
          have HP25 := Kd.R_putg HO_10.out (a1 : Int) a2
          go_wp2_with (first | ((with_reducible refine gate_store (t := 3) (p := 38) rfl ?_); refine store_event (t := 3) (p := 38) (v := ?vo_w26) (w1 := (wr.setCell ⟨go22, (a1 : Int).toNat, none⟩ (.int .i64 a2))) ?hg ?ho ?hn ?hr ?_; (case ho => rfl); (case hg => rfl); (case hn => rfl); (case hr => first | (go_simp; done) | (go_simp; rfl)); intro w26 hw; have hg : wr.grownBy w26 (some go22) := (by rw [hw]; exact HP25.2); have hp_ : Kd.R (Kd.int .i64) 3 w26 w.heap.size (fun _ => True) (.slice (some ⟨go22, 0, none⟩) x10_1.length co13) y203 := (by rw [hw, Ny203.out]; exact HP25.1); clear HP25; have n0_ := Aside0.mk (hp_); have n1_ := Aside0.mk (blk_grown (g := gb197) (o := .cells #[.slice A0 l0.length c0] 24 (0, 0)) (fb_ BK197.out) hg (Kd.R_ne HO_10.out BK197.out (by decide))); have n2_ := Aside0.mk ((by rw [hw]; exact below_set (HB.out) GB22.out : Below w.heap.size w w26)); clear HO_10; clear BK197; clear HB; have HO_10 := n0_; have BK197 := n1_; have HB := n2_; clear n0_ n1_ n2_; clear hg hw hp_; have hcz27_0 : w26.cell? ⟨gb197, 0, none⟩ = some (.slice A0 l0.length c0) := (blk_cell BK197.out 0).trans rfl; have hfz27_0 := blk_frozen BK197.out 0) | ((with_reducible refine gate_dst (N := 41) rfl ?_); refine Kd.R_make (Kd.int .i64) _ 3 rfl (N := 41) rfl 32 _ _ rfl (l0.length : Int) rfl rfl Try.underlying32 (.int .i64 0) 8 info3 rfl (by decide) (by omega) 0 (ok := fun _ => True) (okp := fun _ => True) rfl (fun _ hk => hk) trivial (of_decide_eq_true (by first | (with_reducible assumption) | assumption)) (Nat.le_trans (Nat.mul_le_mul_right _ (of_decide_eq_true (by first | (with_reducible assumption) | assumption) : (l0.length : Int).toNat ≤ 35184372088832)) (by omega)) (Below.refl _ _) (Nat.le_refl _) ?_; intro v205 w28 ho29 hb hg_ hnew_; clear hg_ hnew_; (first | rw [← Ny204.out] at ho29 | (simp only [Int.reduceToNat] at ho29; rw [← Ny204.out] at ho29)); have n0_ := Aside0.mk (Kd.R_elder' (fr_ HO_10.out) (Kd.R_base ho29) hb); have n1_ := Aside0.mk (Kd.R_lower (Kd.R_new' ho29 (Kd.R_lt (fr_ HO_10.out))) (below_size (bel_ HB.out))); have n2_ := Aside0.mk (bb_ BK197.out hb); have n3_ := Aside0.mk (below_step (bel_ HB.out) hb); clear HO_10; clear BK197; clear HB; have HO_10 := n0_; have HO206 := n1_; have BK197 := n2_; have HB := n3_; clear n0_ n1_ n2_ n3_; clear hb ho29; obtain ⟨Ao30, co30, eo30⟩ := Kd.R_slice HO206.out; subst eo30))
          go_loopg [44] k1 (fun kq v44 w' => ∃ (x12_2 : List Int) (x44_2 : Int), v44 = .int .i64 x44_2 ∧ Aside0 (impl_Earliest.l1 kq a1 a2 a3 y203 x12_2 (y204.length : Int) x44_2 l0 = some (r1, r2)) ∧ Aside0 (kq ≤ k1) ∧ Aside0 (Kd.R (Kd.int .i64) 3 w' w.heap.size (fun k_ => some k_ ≠ ((.slice Ao30 y204.length co30) : Value).ownBlock) (.slice (some ⟨go22, 0, none⟩) x10_1.length co13) y203) ∧ Aside0 (Kd.R (Kd.int .i64) 3 w' w.heap.size (fun k_ => some k_ ≠ ((.slice (some ⟨go22, 0, none⟩) x10_1.length co13) : Value).ownBlock) (.slice Ao30 y204.length co30) x12_2) ∧ Aside0 (w'.heap[gb197]? = some (.cells #[(.slice A0 l0.length c0)] 24 (0, 0))) ∧ Aside0 (Below w.heap.size w w'))
          case atStart => exact ⟨(y204), (0), (by first | rfl | (simp; done) | (simp [*]; done) | (simp [wrap64]; done)), H', ⟨Nat.le_refl _⟩, ⟨by (try simp only [hl10_1]); (with_reducible repeat (first | apply Kd.R_alloc | apply Kd.R_drewN | apply Kd.R_drew)); exact Kd.R_mono HO_10.out (fun _ hk => hk.2)⟩, ⟨by (try simp only [hl10_1]); (with_reducible repeat (first | apply Kd.R_alloc | apply Kd.R_drewN | apply Kd.R_drew)); exact Kd.R_mono HO206.out (fun _ hk => hk.2)⟩, ⟨by (try simp only [hl10_1]); refine rp_ ?_; exact BK197.out⟩, ⟨bel_ HB.out⟩⟩
          case round =>
           clear H'
           try clear c6
           try clear c7
           try clear c7b0
           try clear c7b1
           try clear c14
           try clear c14b0
           try clear c14h
           try clear c20
           try clear c20b0
           try clear c21
           try clear c21b0
           try clear c21h
           try clear p22
           try clear q22
           try clear c23
           try clear c23b0
           try clear c23b1
           try clear c24
           try clear c24b0
           try clear c24b1
           try clear hcz27_0
           try clear hcz9_0
           try clear hfz27_0
           try clear hfz9_0
           try clear hx22_0
           try clear p22
           try clear q22
           obtain ⟨x12_2, x44_2, rfl, HA, HK2, HO_10, HO_12, BK197, HB⟩ := hrel
           have hl10_2 := (Kd.R_reads' HO_10.out).1
           rw [hl10_2] at HO_10
           (try simp only [hl10_2])
           (try simp only [hl10_2] at BK197)
           (try simp only [hl10_2] at HO_12)
           have hl12_2 := (Kd.R_reads' HO_12.out).1
           rw [hl12_2] at HO_12
           (try simp only [hl12_2])
           (try simp only [hl12_2] at BK197)
           (try simp only [hl12_2] at HO_10)
           cases gk with
           | zero => exact absurd HA.out (by simp [impl_Earliest.l1])
           | succ k2 =>
            have H := HA.out
            clear HA
            simp only [impl_Earliest.l1] at H
            by_cases c31 : x44_2 < (y204.length : Int)
            ·rw [if_pos c31] at H
             have c31b0 : decide (x44_2 < (y204.length : Int)) = true := decide_eq_true c31
             (try (have c31h := c31b0; simp only [hl10_1, hl10_2, hl12_2] at c31h))
             clear c31
             by_cases c32 : 0 ≤ x44_2
             ·rw [if_pos c32] at H
              have c32b0 : decide (0 ≤ x44_2) = true := decide_eq_true c32
              clear c32
              by_cases c33 : x44_2 < (x12_2.length : Int)
              ·rw [if_pos c33] at H
               have c33b0 : decide (x44_2 < (x12_2.length : Int)) = true := decide_eq_true c33
               (try (have c33h := c33b0; simp only [hl10_1, hl10_2, hl12_2] at c33h))
               clear c33
               obtain ⟨y207, hy207⟩ : ∃ y_ : List Int, y_ = (x12_2.set (x44_2 : Int).toNat x44_2) := ⟨_, rfl⟩
               replace H : (impl_Earliest.l1 k2 a1 a2 a3 y203 y207 (y204.length : Int) (wrap64 (x44_2 + 1)) l0) = some (r1, r2) := by first | (rw [hy207]; with_reducible exact H) | (have H2_ := (Option.bind_some _ _).symm.trans H; rw [hy207]; with_reducible exact H2_) | (have H2_ := (Option.bind_some _ _).symm.trans H; with_reducible exact H2_) | with_reducible exact H | (rw [hy207]; exact H) | exact H
               have Ny207 := Aside0.mk hy207
               clear hy207
               have H' := Aside0.mk H
               clear H
               have p34 : 0 ≤ (x44_2 : Int) := of_decide_eq_true (by first | (with_reducible assumption) | assumption)
               have q34 : (x44_2 : Int) < ((x12_2.length : Int) : Int) := of_decide_eq_true (by first | (with_reducible assumption) | assumption)
               obtain ⟨go34, co34, eo34, gb34, gl34, cl34, HG34⟩ := Kd.R_form HO_12.out (by omega)
               (first | cases eo34 | (injection eo34 with ea_ en_ ec_; (first | subst ea_ | (injection ea_ with ea_; subst ea_)); subst ec_; clear en_))
               have GB34 := Aside0.mk gb34
               have GG34 := Aside0.mk HG34
               clear gb34 gl34 HG34
               obtain ⟨hx34_0, hf34_0⟩ := Kd.R_celln 0 HO_12.out (x44_2 : Int) p34 q34
               replace p34 := eq_true p34
               replace q34 := eq_true q34
               have HP35 := Kd.R_putg HO_12.out (x44_2 : Int) x44_2
               go_wp2_with (first | ((with_reducible refine gate_store (t := 3) (p := 50) rfl ?_); refine store_event (t := 3) (p := 50) (v := ?vo_w36) (w1 := (wr.setCell ⟨go34, (x44_2 : Int).toNat, none⟩ (.int .i64 x44_2))) ?hg ?ho ?hn ?hr ?_; (case ho => rfl); (case hg => rfl); (case hn => rfl); (case hr => first | (go_simp; done) | (go_simp; rfl)); intro w36 hw; have hg : wr.grownBy w36 (some go34) := (by rw [hw]; exact HP35.2); have hp_ : Kd.R (Kd.int .i64) 3 w36 w.heap.size (fun k_ => some k_ ≠ (.slice (some ⟨go22, 0, none⟩) y203.length co13 : Value).ownBlock) (.slice (some ⟨go34, 0, none⟩) x12_2.length co30) y207 := (by rw [hw, Ny207.out]; exact HP35.1); clear HP35; have n0_ := Aside0.mk (Kd.R_after (v := (.slice (some ⟨go34, 0, none⟩) x12_2.length co30)) (v1 := (.slice (some ⟨go34, 0, none⟩) x12_2.length co30)) (ok := (fun _ => True)) (by (with_reducible repeat (first | apply Kd.R_alloc | apply Kd.R_drewN | apply Kd.R_drew)); exact Kd.R_mono HO_10.out (fun _ hk => ⟨trivial, hk⟩)) hg (.inl rfl)); have n1_ := Aside0.mk (hp_); have n2_ := Aside0.mk (blk_grown (g := gb197) (o := .cells #[.slice A0 l0.length c0] 24 (0, 0)) (fb_ BK197.out) hg (Kd.R_ne HO_12.out BK197.out (by decide))); have n3_ := Aside0.mk ((by rw [hw]; exact below_set (HB.out) GB34.out : Below w.heap.size w w36)); clear HO_10; clear HO_12; clear BK197; clear HB; have HO_10 := n0_; have HO_12 := n1_; have BK197 := n2_; have HB := n3_; clear n0_ n1_ n2_ n3_; clear hg hw hp_))
               (try simp only [← hl10_2, ← hl12_2])
               (first | go_roundg k2 | (refine Handed.intro k2 ?measure ?_; rotate_left; go_step; (repeat apply Exists.intro); simp only [add_plain]; refine ⟨?rel, rfl⟩))
               case measure => have := HK1.out; have := HK2.out; omega
               case rel => exact ⟨(y207), (wrap64 (x44_2 + 1)), (by first | rfl | (simp; done) | (simp [*]; done) | (simp [wrap64]; done)), H', ⟨by have := HK1.out; have := HK2.out; omega⟩, ⟨by (try simp only [hl10_1]); (try simp only [hl10_2]); (try simp only [hl12_2]); (with_reducible repeat (first | apply Kd.R_alloc | apply Kd.R_drewN | apply Kd.R_drew)); exact Kd.R_mono HO_10.out (fun _ hk => hk.2)⟩, ⟨by (try simp only [hl10_1]); (try simp only [hl10_2]); (try simp only [hl12_2]); (with_reducible repeat (first | apply Kd.R_alloc | apply Kd.R_drewN | apply Kd.R_drew)); exact HO_12.out⟩, ⟨by (try simp only [hl10_1]); (try simp only [hl10_2]); (try simp only [hl12_2]); refine rp_ ?_; exact BK197.out⟩, ⟨bel_ HB.out⟩⟩
              ·rw [if_neg c33] at H
               exact absurd H (by simp)
             ·rw [if_neg c32] at H
              exact absurd H (by simp)
            ·rw [if_neg c31] at H
             have c31b0 : decide (x44_2 < (y204.length : Int)) = false := decide_eq_false c31
             (try (have c31h := c31b0; simp only [hl10_1, hl10_2, hl12_2] at c31h))
             clear c31
             replace H := Option.bind_eq_some_iff.mp H
             obtain ⟨t208, A370, H⟩ := H
             replace H : (if 0 ≤ (l0.length : Int) then (if ((l0.length : Int) : Int).toNat ≤ 281474976710656 then (impl_Earliest.l2 k2 a1 a2 a3 y203 (List.replicate ((l0.length : Int) : Int).toNat false) t208 (x12_2.length : Int) 0 l0) else (none)) else (none)) = some (r1, r2) := H
             have A37 := Aside0.mk A370
             clear A370
             by_cases c38 : 0 ≤ (l0.length : Int)
             ·rw [if_pos c38] at H
              have c38b0 := eq_true c38
              have c38b1 : decide (0 ≤ (l0.length : Int)) = true := decide_eq_true c38
              clear c38
              by_cases c39 : ((l0.length : Int) : Int).toNat ≤ 281474976710656
              ·rw [if_pos c39] at H
               have c39b0 := eq_true c39
               have c39b1 : decide (((l0.length : Int) : Int).toNat ≤ 281474976710656) = true := decide_eq_true c39
               clear c39
               obtain ⟨y209, hy209⟩ : ∃ y_ : List Bool, y_ = (List.replicate ((l0.length : Int) : Int).toNat false) := ⟨_, rfl⟩
               replace H : (impl_Earliest.l2 k2 a1 a2 a3 y203 y209 t208 (x12_2.length : Int) 0 l0) = some (r1, r2) := by first | (rw [hy209]; with_reducible exact H) | (have H2_ := (Option.bind_some _ _).symm.trans H; rw [hy209]; with_reducible exact H2_) | (have H2_ := (Option.bind_some _ _).symm.trans H; with_reducible exact H2_) | with_reducible exact H | (rw [hy209]; exact H) | exact H
               have Ny209 := Aside0.mk hy209
               clear hy209
               have H' := Aside0.mk H
               clear H
               go_wp2_with (first | ((with_reducible refine gate_callee (f := 43) rfl ?_); refine goesL_ (some 54) rfl rfl Try.func43 (by kernel_rfl) rfl #[.slice Ao30 x12_2.length co30, .func (.func 44) #[] #[.pointer (some ⟨gb197, 0, none⟩)]] rfl ml_ ?_; (with_reducible refine (slices_SortFunc_int_int_at_impl_Earliest_1.calls (fun k_ => some k_ = (.slice Ao30 x12_2.length co30 : Value).ownBlock) (.slice Ao30 x12_2.length co30) x12_2  (some ⟨gb197, 0, none⟩) 1 [l0] t208 w _ ?side1 ?side2 ?side3 ?side4 A37.out).mono ?_); (case side1 => repeat (first | (with_reducible first | exact HB.out | apply below_alloc | apply pw_below_drewN | apply below_drew1 | refine below_set ?_ GE197.out) | exact HB.out)); (case side2 => exact Kd.R_tight rfl HO_12.out); (case side3 => exact fun W_ hk_ => Kd.C_one (d := (Kd.slice 31 k31)) (cs := #[.slice A0 l0.length c0]) (t := 24) (blk_kept (fb_ BK197.out) hk_ (fun hs_ => (fun e_ => (Kd.R_ne HO_12.out BK197.out (by decide)) e_) hs_)) ⟨_, _, rfl, (by exact HC0.out), ((Kd.C_kept_came k31_heap HR0.out (bel_ HB.out) (fun k_ hs_ => (fun e_ => Kd.R_base HO_12.out k_ e_.symm) hs_)) _ hk_)⟩ rfl); (case side4 => exact Nat.le_refl 1); rintro e w40 ⟨rfl, hy0, hb, hkp⟩; refine ⟨_, rfl, ?_⟩; have n0_ := Aside0.mk (Kd.R_mono (ok' := fun k_ => some k_ ≠ (.slice Ao30 x12_2.length co30 : Value).ownBlock) (Kd.R_keptB (HO_10.out) hkp (fun k_ hk_ hs_ => (hk_) hs_)) (fun k_ hk_ => hk_.1)); have n1_ := Aside0.mk (Kd.R_reok rfl hy0 (fun k_ e_ => HO_12.out.1 k_ e_)); have n2_ := Aside0.mk (blk_kept (fb_ BK197.out) hkp (fun hs_ => (fun e_ => (Kd.R_ne HO_12.out BK197.out (by decide)) e_) hs_)); have n3_ := Aside0.mk (hb); clear HO_10; clear HO_12; clear BK197; clear HB; have HO_10 := n0_; have HO_12 := n1_; have BK197 := n2_; have HB := n3_; clear n0_ n1_ n2_ n3_; (try clear hb); (try clear hkp); (try clear hy0); have hcz41_0 : w40.cell? ⟨gb197, 0, none⟩ = some (.slice A0 l0.length c0) := (blk_cell BK197.out 0).trans rfl; have hfz41_0 := blk_frozen BK197.out 0) | ((with_reducible refine gate_dst (N := 57) rfl ?_); refine Kd.R_make Kd.bool _ 4 rfl (N := 57) rfl 62 _ _ rfl (l0.length : Int) rfl rfl Try.underlying62 (.bool false) 1 info4 rfl (by decide) (by omega) false (ok := fun _ => True) (okp := fun _ => True) rfl (fun _ hk => hk) trivial (of_decide_eq_true (by first | (with_reducible assumption) | assumption)) (Nat.le_trans (Nat.mul_le_mul_right _ (of_decide_eq_true (by first | (with_reducible assumption) | assumption) : (l0.length : Int).toNat ≤ 281474976710656)) (by omega)) (Below.refl _ _) (Nat.le_refl _) ?_; intro v210 w42 ho43 hb hg_ hnew_; clear hg_ hnew_; (first | rw [← Ny209.out] at ho43 | (simp only [Int.reduceToNat] at ho43; rw [← Ny209.out] at ho43)); have n0_ := Aside0.mk (Kd.R_below (fr_ HO_10.out) hb); have n1_ := Aside0.mk (Kd.R_below (fr_ HO_12.out) hb); have n2_ := Aside0.mk (Kd.R_lower ho43 (below_size (bel_ HB.out))); have n3_ := Aside0.mk (bb_ BK197.out hb); have n4_ := Aside0.mk (below_step (bel_ HB.out) hb); clear HO_10; clear HO_12; clear BK197; clear HB; have HO_10 := n0_; have HO_12 := n1_; have HO211 := n2_; have BK197 := n3_; have HB := n4_; clear n0_ n1_ n2_ n3_ n4_; clear hb ho43))
               go_loopg [60] k2 (fun kq v60 w' => ∃ (x10_3 : List Int) (x14_3 : List Bool) (x60_3 : Int), v60 = .int .i64 x60_3 ∧ Aside0 (impl_Earliest.l2 kq a1 a2 a3 x10_3 x14_3 t208 (x12_2.length : Int) x60_3 l0 = some (r1, r2)) ∧ Aside0 (kq ≤ k2) ∧ Aside0 (Kd.R (Kd.int .i64) 3 w' w.heap.size (fun k_ => some k_ ≠ ((.slice Ao30 x12_2.length co30) : Value).ownBlock) (.slice (some ⟨go22, 0, none⟩) y203.length co13) x10_3) ∧ Aside0 (Kd.R Kd.bool 4 w' w.heap.size (fun _ => True) v210 x14_3) ∧ Aside0 (Kd.R (Kd.int .i64) 3 w' w.heap.size (fun k_ => some k_ ≠ ((.slice (some ⟨go22, 0, none⟩) y203.length co13) : Value).ownBlock) (.slice Ao30 x12_2.length co30) t208) ∧ Aside0 (w'.heap[gb197]? = some (.cells #[(.slice A0 l0.length c0)] 24 (0, 0))) ∧ Aside0 (Below w.heap.size w w'))
               case atStart => exact ⟨(y203), (y209), (0), (by first | rfl | (simp; done) | (simp [*]; done) | (simp [wrap64]; done)), H', ⟨Nat.le_refl _⟩, ⟨by (try simp only [hl10_1]); (try simp only [hl10_2]); (try simp only [hl12_2]); (with_reducible repeat (first | apply Kd.R_alloc | apply Kd.R_drewN | apply Kd.R_drew)); exact HO_10.out⟩, ⟨by (try simp only [hl10_1]); (try simp only [hl10_2]); (try simp only [hl12_2]); (with_reducible repeat (first | apply Kd.R_alloc | apply Kd.R_drewN | apply Kd.R_drew)); exact HO211.out⟩, ⟨by (try simp only [hl10_1]); (try simp only [hl10_2]); (try simp only [hl12_2]); (with_reducible repeat (first | apply Kd.R_alloc | apply Kd.R_drewN | apply Kd.R_drew)); exact HO_12.out⟩, ⟨by (try simp only [hl10_1]); (try simp only [hl10_2]); (try simp only [hl12_2]); refine rp_ ?_; exact BK197.out⟩, ⟨bel_ HB.out⟩⟩
               case round =>
                clear H'
                try clear c6
                try clear c7
                try clear c7b0
                try clear c7b1
                try clear c14
                try clear c14b0
                try clear c14h
                try clear c20
                try clear c20b0
                try clear c21
                try clear c21b0
                try clear c21h
                try clear p22
                try clear q22
                try clear c23
                try clear c23b0
                try clear c23b1
                try clear c24
                try clear c24b0
                try clear c24b1
                try clear c31
                try clear c31b0
                try clear c31h
                try clear c38
                try clear c38b0
                try clear c38b1
                try clear c39
                try clear c39b0
                try clear c39b1
                try clear hcz27_0
                try clear hcz41_0
                try clear hcz9_0
                try clear hfz27_0
                try clear hfz41_0
                try clear hfz9_0
                try clear hx22_0
                try clear p22
                try clear q22
                obtain ⟨x10_3, x14_3, x60_3, rfl, HA, HK3, HO_10, HO_14, HO_58, BK197, HB⟩ := hrel
                have hl10_3 := (Kd.R_reads' HO_10.out).1
                rw [hl10_3] at HO_10
                (try simp only [hl10_3])
                (try simp only [hl10_3] at BK197)
                (try simp only [hl10_3] at HO_14)
                (try simp only [hl10_3] at HO_58)
                have hl58_3 := (Kd.R_reads' HO_58.out).1
                rw [hl58_3] at HO_58
                (try simp only [hl58_3])
                (try simp only [hl58_3] at BK197)
                (try simp only [hl58_3] at HO_10)
                (try simp only [hl58_3] at HO_14)
                cases gk with
                | zero => exact absurd HA.out (by simp [impl_Earliest.l2])
                | succ k3 =>
                 have H := HA.out
                 clear HA
                 simp only [impl_Earliest.l2] at H
                 by_cases c44 : x60_3 < (x12_2.length : Int)
                 ·rw [if_pos c44] at H
                  have c44b0 : decide (x60_3 < (x12_2.length : Int)) = true := decide_eq_true c44
                  (try (have c44h := c44b0; simp only [hl10_1, hl10_2, hl12_2, hl10_3, hl58_3] at c44h))
                  clear c44
                  by_cases c45 : 0 ≤ x60_3
                  ·rw [if_pos c45] at H
                   have c45b0 : decide (0 ≤ x60_3) = true := decide_eq_true c45
                   clear c45
                   by_cases c46 : x60_3 < (t208.length : Int)
                   ·rw [if_pos c46] at H
                    have c46b0 : decide (x60_3 < (t208.length : Int)) = true := decide_eq_true c46
                    (try (have c46h := c46b0; simp only [hl10_1, hl10_2, hl12_2, hl10_3, hl58_3] at c46h))
                    clear c46
                    by_cases c47 : 0 ≤ (rd t208 x60_3)
                    ·rw [if_pos c47] at H
                     have c47b0 : decide (0 ≤ (rd t208 x60_3)) = true := decide_eq_true c47
                     clear c47
                     by_cases c48 : (rd t208 x60_3) < (l0.length : Int)
                     ·rw [if_pos c48] at H
                      have c48b0 : decide ((rd t208 x60_3) < (l0.length : Int)) = true := decide_eq_true c48
                      (try (have c48h := c48b0; simp only [hl10_1, hl10_2, hl12_2, hl10_3, hl58_3] at c48h))
                      clear c48
                      have HC49 := Aside0.mk H
                      clear H
                      have p212 : 0 ≤ (x60_3 : Int) := of_decide_eq_true (by first | (with_reducible assumption) | assumption)
                      have q212 : x60_3 < (t208.length : Int) := of_decide_eq_true (by first | (with_reducible assumption) | assumption)
                      obtain ⟨ad212, e212, hx212_0⟩ := Kd.at_int (Kd.R_reads' HO_58.out).2.2 x60_3 p212 q212
                      cases e212
                      replace p212 := eq_true p212
                      replace q212 := eq_true q212
                      have hcz50_0 : wr.cell? ⟨gb197, 0, none⟩ = some (.slice A0 l0.length c0) := (blk_cell BK197.out 0).trans rfl
                      have hfz50_0 := blk_frozen BK197.out 0
                      have p213 : 0 ≤ ((rd t208 x60_3) : Int) := of_decide_eq_true (by first | (with_reducible assumption) | assumption)
                      have q213 : (rd t208 x60_3) < (l0.length : Int) := of_decide_eq_true (by first | (with_reducible assumption) | assumption)
                      obtain ⟨ad213, e213, hx213_0, hx213_1, hx213_2, hx213_3, hx213_4, hx213_5⟩ := at_T31 HR0.out (rd t208 x60_3) p213 q213
                      cases e213
                      replace hx213_0 := (HB.out.cell (World.block_lt_of_cell? w _ hx213_0)).trans hx213_0
                      replace hx213_1 := (HB.out.cell (World.block_lt_of_cell? w _ hx213_1)).trans hx213_1
                      replace hx213_2 := (HB.out.cell (World.block_lt_of_cell? w _ hx213_2)).trans hx213_2
                      replace hx213_3 := (HB.out.cell (World.block_lt_of_cell? w _ hx213_3)).trans hx213_3
                      replace hx213_4 := (HB.out.cell (World.block_lt_of_cell? w _ hx213_4)).trans hx213_4
                      replace hx213_5 := (HB.out.cell (World.block_lt_of_cell? w _ hx213_5)).trans hx213_5
                      replace p213 := eq_true p213
                      replace q213 := eq_true q213
                      go_upto_region 22 with (first | ((with_reducible refine gate_dst (N := 17) rfl ?_); refine box_event ?hg (N := 17) ?hd (cs := #[.int .i64 0, .int .i64 0, .int .i64 0, .int .i64 0, .int .i64 0, .int .i64 0]) (t := 31) ?hr ?_; (case hd => rfl); (case hg => rfl); (case hr => first | (go_simp; done) | (go_simp; rfl)); intro gb214 hg w51 hbox hb; have n0_ := Aside0.mk (Kd.R_below (fr_ HO_10.out) hb); have n1_ := Aside0.mk (Kd.R_below (fr_ HO_14.out) hb); have n2_ := Aside0.mk (Kd.R_below (fr_ HO_58.out) hb); have n3_ := Aside0.mk (bb_ BK197.out hb); have n4_ := Aside0.mk (below_step (bel_ HB.out) hb); have n5_ := Aside0.mk (hbox); have n6_ := Aside0.mk ((by rw [hg]; exact (below_size (bel_ HB.out)) : w.heap.size ≤ gb214)); have n7_ := Aside0.mk ((by rw [hg]; exact (below_size (bel_ HB.out)) : w.heap.size ≤ gb214)); have n8_ := Aside0.mk (nl_ BK197.out hg); have n9_ := Aside0.mk (ng_ BK197.out hg); clear HO_10; clear HO_14; clear HO_58; clear BK197; clear HB; have HO_10 := n0_; have HO_14 := n1_; have HO_58 := n2_; have BK197 := n3_; have HB := n4_; have BK214 := n5_; have GW214 := n6_; have GE214 := n7_; have NB197_214 := n8_; have NB214_197 := n9_; clear n0_ n1_ n2_ n3_ n4_ n5_ n6_ n7_ n8_ n9_; clear hb hbox hg; have hnb52 := NB214_197.out; have hnc52 := NB197_214.out; have hcz53_0 : w51.cell? ⟨gb214, 0, none⟩ = some (.int .i64 0) := (blk_cell BK214.out 0).trans rfl; have hcz53_1 : w51.cell? ⟨gb214, 1, none⟩ = some (.int .i64 0) := (blk_cell BK214.out 1).trans rfl; have hcz53_2 : w51.cell? ⟨gb214, 2, none⟩ = some (.int .i64 0) := (blk_cell BK214.out 2).trans rfl; have hcz53_3 : w51.cell? ⟨gb214, 3, none⟩ = some (.int .i64 0) := (blk_cell BK214.out 3).trans rfl; have hcz53_4 : w51.cell? ⟨gb214, 4, none⟩ = some (.int .i64 0) := (blk_cell BK214.out 4).trans rfl; have hcz53_5 : w51.cell? ⟨gb214, 5, none⟩ = some (.int .i64 0) := (blk_cell BK214.out 5).trans rfl; have hfz53_0 := blk_frozen BK214.out 0; have hfz53_1 := blk_frozen BK214.out 1; have hfz53_2 := blk_frozen BK214.out 2; have hfz53_3 := blk_frozen BK214.out 3; have hfz53_4 := blk_frozen BK214.out 4; have hfz53_5 := blk_frozen BK214.out 5) | ((with_reducible refine gate_store (t := 31) (p := 17) rfl ?_); refine store_event (t := 31) (p := 17) (v := ?vo_w54) (w1 := ((((((w51.setCell ⟨gb214, 0, none⟩ (.int .i64 ((rd_T31 l0 (rd t208 x60_3)).f0))).setCell ⟨gb214, 1, none⟩ (.int .i64 ((rd_T31 l0 (rd t208 x60_3)).f1))).setCell ⟨gb214, 2, none⟩ (.int .i64 ((rd_T31 l0 (rd t208 x60_3)).f2))).setCell ⟨gb214, 3, none⟩ (.int .i64 ((rd_T31 l0 (rd t208 x60_3)).f3))).setCell ⟨gb214, 4, none⟩ (.int .i64 ((rd_T31 l0 (rd t208 x60_3)).f4))).setCell ⟨gb214, 5, none⟩ (.int .i64 ((rd_T31 l0 (rd t208 x60_3)).f5)))) ?hg ?ho ?hn ?hr ?_; (case ho => rfl); (case hg => rfl); (case hn => rfl); (case hr => first | (go_simp; done) | (go_simp; rfl)); intro w54 hw; have n0_ : Aside0 (Kd.R (Kd.int .i64) 3 w54 w.heap.size (fun k_ => some k_ ≠ (.slice (some ad212) t208.length co30 : Value).ownBlock) (.slice (some ⟨go22, 0, none⟩) x10_3.length co13) x10_3) := ⟨(by rw [hw]; exact (by (with_reducible repeat (first | apply Kd.R_alloc | apply Kd.R_drewN | apply Kd.R_drew)); exact Kd.R_mono (Kd.R_far (p := ⟨gb214, 5, none⟩) (Kd.R_far (p := ⟨gb214, 4, none⟩) (Kd.R_far (p := ⟨gb214, 3, none⟩) (Kd.R_far (p := ⟨gb214, 2, none⟩) (Kd.R_far (p := ⟨gb214, 1, none⟩) (Kd.R_far (p := ⟨gb214, 0, none⟩) (rt_ HO_10.out BK214.out) (fun _ hk => hk.2) (.int .i64 ((rd_T31 l0 (rd t208 x60_3)).f0))) (fun _ hk => hk.2) (.int .i64 ((rd_T31 l0 (rd t208 x60_3)).f1))) (fun _ hk => hk.2) (.int .i64 ((rd_T31 l0 (rd t208 x60_3)).f2))) (fun _ hk => hk.2) (.int .i64 ((rd_T31 l0 (rd t208 x60_3)).f3))) (fun _ hk => hk.2) (.int .i64 ((rd_T31 l0 (rd t208 x60_3)).f4))) (fun _ hk => hk.2) (.int .i64 ((rd_T31 l0 (rd t208 x60_3)).f5))) (fun _ hk => hk.1)))⟩; have n1_ : Aside0 (Kd.R Kd.bool 4 w54 w.heap.size (fun _ => True) v210 x14_3) := ⟨(by rw [hw]; exact (by (with_reducible repeat (first | apply Kd.R_alloc | apply Kd.R_drewN | apply Kd.R_drew)); exact Kd.R_mono (Kd.R_far (p := ⟨gb214, 5, none⟩) (Kd.R_far (p := ⟨gb214, 4, none⟩) (Kd.R_far (p := ⟨gb214, 3, none⟩) (Kd.R_far (p := ⟨gb214, 2, none⟩) (Kd.R_far (p := ⟨gb214, 1, none⟩) (Kd.R_far (p := ⟨gb214, 0, none⟩) (rt_ HO_14.out BK214.out) (fun _ hk => hk.2) (.int .i64 ((rd_T31 l0 (rd t208 x60_3)).f0))) (fun _ hk => hk.2) (.int .i64 ((rd_T31 l0 (rd t208 x60_3)).f1))) (fun _ hk => hk.2) (.int .i64 ((rd_T31 l0 (rd t208 x60_3)).f2))) (fun _ hk => hk.2) (.int .i64 ((rd_T31 l0 (rd t208 x60_3)).f3))) (fun _ hk => hk.2) (.int .i64 ((rd_T31 l0 (rd t208 x60_3)).f4))) (fun _ hk => hk.2) (.int .i64 ((rd_T31 l0 (rd t208 x60_3)).f5))) (fun _ hk => trivial)))⟩; have n2_ : Aside0 (Kd.R (Kd.int .i64) 3 w54 w.heap.size (fun k_ => some k_ ≠ (.slice (some ⟨go22, 0, none⟩) x10_3.length co13 : Value).ownBlock) (.slice (some ad212) t208.length co30) t208) := ⟨(by rw [hw]; exact (by (with_reducible repeat (first | apply Kd.R_alloc | apply Kd.R_drewN | apply Kd.R_drew)); exact Kd.R_mono (Kd.R_far (p := ⟨gb214, 5, none⟩) (Kd.R_far (p := ⟨gb214, 4, none⟩) (Kd.R_far (p := ⟨gb214, 3, none⟩) (Kd.R_far (p := ⟨gb214, 2, none⟩) (Kd.R_far (p := ⟨gb214, 1, none⟩) (Kd.R_far (p := ⟨gb214, 0, none⟩) (rt_ HO_58.out BK214.out) (fun _ hk => hk.2) (.int .i64 ((rd_T31 l0 (rd t208 x60_3)).f0))) (fun _ hk => hk.2) (.int .i64 ((rd_T31 l0 (rd t208 x60_3)).f1))) (fun _ hk => hk.2) (.int .i64 ((rd_T31 l0 (rd t208 x60_3)).f2))) (fun _ hk => hk.2) (.int .i64 ((rd_T31 l0 (rd t208 x60_3)).f3))) (fun _ hk => hk.2) (.int .i64 ((rd_T31 l0 (rd t208 x60_3)).f4))) (fun _ hk => hk.2) (.int .i64 ((rd_T31 l0 (rd t208 x60_3)).f5))) (fun _ hk => hk.1)))⟩; have n3_ : Aside0 (w54.heap[gb197]? = some (.cells #[.slice (some ad213) l0.length c0] 24 (0, 0))) := ⟨(by rw [hw]; exact (fa_ BK197.out))⟩; have n4_ : Aside0 (w54.heap[gb214]? = some (.cells #[.int .i64 ((rd_T31 l0 (rd t208 x60_3)).f0), .int .i64 ((rd_T31 l0 (rd t208 x60_3)).f1), .int .i64 ((rd_T31 l0 (rd t208 x60_3)).f2), .int .i64 ((rd_T31 l0 (rd t208 x60_3)).f3), .int .i64 ((rd_T31 l0 (rd t208 x60_3)).f4), .int .i64 ((rd_T31 l0 (rd t208 x60_3)).f5)] 31 (0, 0))) := ⟨(by rw [hw]; exact (by refine rp_ ?_; refine blk_put (cs := #[.int .i64 ((rd_T31 l0 (rd t208 x60_3)).f0), .int .i64 ((rd_T31 l0 (rd t208 x60_3)).f1), .int .i64 ((rd_T31 l0 (rd t208 x60_3)).f2), .int .i64 ((rd_T31 l0 (rd t208 x60_3)).f3), .int .i64 ((rd_T31 l0 (rd t208 x60_3)).f4), .int .i64 0]) ?_ 5 _ rfl; refine rp_ ?_; refine blk_put (cs := #[.int .i64 ((rd_T31 l0 (rd t208 x60_3)).f0), .int .i64 ((rd_T31 l0 (rd t208 x60_3)).f1), .int .i64 ((rd_T31 l0 (rd t208 x60_3)).f2), .int .i64 ((rd_T31 l0 (rd t208 x60_3)).f3), .int .i64 0, .int .i64 0]) ?_ 4 _ rfl; refine rp_ ?_; refine blk_put (cs := #[.int .i64 ((rd_T31 l0 (rd t208 x60_3)).f0), .int .i64 ((rd_T31 l0 (rd t208 x60_3)).f1), .int .i64 ((rd_T31 l0 (rd t208 x60_3)).f2), .int .i64 0, .int .i64 0, .int .i64 0]) ?_ 3 _ rfl; refine rp_ ?_; refine blk_put (cs := #[.int .i64 ((rd_T31 l0 (rd t208 x60_3)).f0), .int .i64 ((rd_T31 l0 (rd t208 x60_3)).f1), .int .i64 0, .int .i64 0, .int .i64 0, .int .i64 0]) ?_ 2 _ rfl; refine rp_ ?_; refine blk_put (cs := #[.int .i64 ((rd_T31 l0 (rd t208 x60_3)).f0), .int .i64 0, .int .i64 0, .int .i64 0, .int .i64 0, .int .i64 0]) ?_ 1 _ rfl; refine rp_ ?_; refine blk_put (cs := #[.int .i64 0, .int .i64 0, .int .i64 0, .int .i64 0, .int .i64 0, .int .i64 0]) ?_ 0 _ rfl; refine rp_ ?_; exact BK214.out))⟩; have n5_ : Aside0 (Below w.heap.size w w54) := ⟨(by rw [hw]; exact (bel_ HB.out))⟩; clear hw; clear HO_10; clear HO_14; clear HO_58; clear BK197; clear BK214; clear HB; have HO_10 := n0_; have HO_14 := n1_; have HO_58 := n2_; have BK197 := n3_; have BK214 := n4_; have HB := n5_; clear n0_ n1_ n2_ n3_ n4_ n5_))
                      (try simp only [Act.put, sA_, sZ_, sS_])
                      go_cut [] (fun wc => ∃ (kq : Nat) (x14_48 : List Bool), Aside0 (impl_Earliest.j3 kq a1 a2 a3 x10_3 x14_48 (rd t208 x60_3) t208 (x12_2.length : Int) x60_3 l0 ((rd_T31 l0 (rd t208 x60_3)).f0) ((rd_T31 l0 (rd t208 x60_3)).f1) ((rd_T31 l0 (rd t208 x60_3)).f2) ((rd_T31 l0 (rd t208 x60_3)).f3) ((rd_T31 l0 (rd t208 x60_3)).f4) ((rd_T31 l0 (rd t208 x60_3)).f5) = some (r1, r2)) ∧ Aside0 (kq ≤ k3) ∧ Aside0 (Kd.R (Kd.int .i64) 3 wc w.heap.size (fun k_ => some k_ ≠ ((.slice (some ad212) t208.length co30) : Value).ownBlock) (.slice (some ⟨go22, 0, none⟩) x10_3.length co13) x10_3) ∧ Aside0 (Kd.R Kd.bool 4 wc w.heap.size (fun _ => True) v210 x14_48) ∧ Aside0 (Kd.R (Kd.int .i64) 3 wc w.heap.size (fun k_ => some k_ ≠ ((.slice (some ⟨go22, 0, none⟩) x10_3.length co13) : Value).ownBlock) (.slice (some ad212) t208.length co30) t208) ∧ Aside0 (wc.heap[gb197]? = some (.cells #[(.slice (some ad213) l0.length c0)] 24 (0, 0))) ∧ Aside0 (wc.heap[gb214]? = some (.cells #[.int .i64 ((rd_T31 l0 (rd t208 x60_3)).f0), .int .i64 ((rd_T31 l0 (rd t208 x60_3)).f1), .int .i64 ((rd_T31 l0 (rd t208 x60_3)).f2), .int .i64 ((rd_T31 l0 (rd t208 x60_3)).f3), .int .i64 ((rd_T31 l0 (rd t208 x60_3)).f4), .int .i64 ((rd_T31 l0 (rd t208 x60_3)).f5)] 31 (0, 0))) ∧ Aside0 (Below w.heap.size w wc))
                      case first =>
                       have H := HC49.out
                       clear HC49
                       by_cases c55 : ((rd_T31 l0 (rd t208 x60_3)).f1) = a1
                       ·rw [if_pos c55] at H
                        have c55b0 : (((rd_T31 l0 (rd t208 x60_3)).f1) == a1) = true := beq_iff_eq.mpr c55
                        have c55b1 : (((rd_T31 l0 (rd t208 x60_3)).f1) != a1) = false := bne_eq_false_iff_eq.mpr c55
                        clear c55
                        (first | rw [c55b0] | (simp only [i64_w, i32_w]; rw [c55b0]) | skip)
                        by_cases c56 : (rd t208 x60_3) < (x14_3.length : Int)
                        ·rw [if_pos c56] at H
                         have c56b0 : decide ((rd t208 x60_3) < (x14_3.length : Int)) = true := decide_eq_true c56
                         (try (have c56h := c56b0; simp only [hl10_1, hl10_2, hl12_2, hl10_3, hl58_3] at c56h))
                         clear c56
                         obtain ⟨y215, hy215⟩ : ∃ y_ : List Bool, y_ = (x14_3.set ((rd t208 x60_3) : Int).toNat (decide (a2 ≤ ((rd_T31 l0 (rd t208 x60_3)).f3)))) := ⟨_, rfl⟩
                         replace H : (impl_Earliest.j3 k3 a1 a2 a3 x10_3 y215 (rd t208 x60_3) t208 (x12_2.length : Int) x60_3 l0 ((rd_T31 l0 (rd t208 x60_3)).f0) ((rd_T31 l0 (rd t208 x60_3)).f1) ((rd_T31 l0 (rd t208 x60_3)).f2) ((rd_T31 l0 (rd t208 x60_3)).f3) ((rd_T31 l0 (rd t208 x60_3)).f4) ((rd_T31 l0 (rd t208 x60_3)).f5)) = some (r1, r2) := by first | (rw [hy215]; with_reducible exact H) | (have H2_ := (Option.bind_some _ _).symm.trans H; rw [hy215]; with_reducible exact H2_) | (have H2_ := (Option.bind_some _ _).symm.trans H; with_reducible exact H2_) | with_reducible exact H | (rw [hy215]; exact H) | exact H
                         have Ny215 := Aside0.mk hy215
                         clear hy215
                         have H' := Aside0.mk H
                         clear H
                         have hnb58 := NB214_197.out
                         have hnc58 := NB197_214.out
                         have hcz59_0 : w54.cell? ⟨gb214, 0, none⟩ = some (.int .i64 ((rd_T31 l0 (rd t208 x60_3)).f0)) := (blk_cell BK214.out 0).trans rfl
                         have hcz59_1 : w54.cell? ⟨gb214, 1, none⟩ = some (.int .i64 ((rd_T31 l0 (rd t208 x60_3)).f1)) := (blk_cell BK214.out 1).trans rfl
                         have hcz59_2 : w54.cell? ⟨gb214, 2, none⟩ = some (.int .i64 ((rd_T31 l0 (rd t208 x60_3)).f2)) := (blk_cell BK214.out 2).trans rfl
                         have hcz59_3 : w54.cell? ⟨gb214, 3, none⟩ = some (.int .i64 ((rd_T31 l0 (rd t208 x60_3)).f3)) := (blk_cell BK214.out 3).trans rfl
                         have hcz59_4 : w54.cell? ⟨gb214, 4, none⟩ = some (.int .i64 ((rd_T31 l0 (rd t208 x60_3)).f4)) := (blk_cell BK214.out 4).trans rfl
                         have hcz59_5 : w54.cell? ⟨gb214, 5, none⟩ = some (.int .i64 ((rd_T31 l0 (rd t208 x60_3)).f5)) := (blk_cell BK214.out 5).trans rfl
                         have hfz59_0 := blk_frozen BK214.out 0
                         have hfz59_1 := blk_frozen BK214.out 1
                         have hfz59_2 := blk_frozen BK214.out 2
                         have hfz59_3 := blk_frozen BK214.out 3
                         have hfz59_4 := blk_frozen BK214.out 4
                         have hfz59_5 := blk_frozen BK214.out 5
                         have p57 : 0 ≤ ((rd t208 x60_3) : Int) := of_decide_eq_true (by first | (with_reducible assumption) | assumption)
                         have q57 : ((rd t208 x60_3) : Int) < ((x14_3.length : Int) : Int) := of_decide_eq_true (by first | (with_reducible assumption) | assumption)
                         obtain ⟨go57, co57, eo57, gb57, gl57, cl57, HG57⟩ := Kd.R_form HO_14.out (by omega)
                         (first | cases eo57 | (injection eo57 with ea_ en_ ec_; (first | subst ea_ | (injection ea_ with ea_; subst ea_)); subst ec_; clear en_))
                         have GB57 := Aside0.mk gb57
                         have GG57 := Aside0.mk HG57
                         clear gb57 gl57 HG57
                         obtain ⟨hx57_0, hf57_0⟩ := Kd.R_celln false HO_14.out ((rd t208 x60_3) : Int) p57 q57
                         replace p57 := eq_true p57
                         replace q57 := eq_true q57
                         have HP60 := Kd.R_putg HO_14.out ((rd t208 x60_3) : Int) (decide (a2 ≤ ((rd_T31 l0 (rd t208 x60_3)).f3)))
                         go_wp2_with (first | ((with_reducible refine gate_store (t := 4) (p := 80) rfl ?_); refine store_event (t := 4) (p := 80) (v := ?vo_w61) (w1 := (w54.setCell ⟨go57, ((rd t208 x60_3) : Int).toNat, none⟩ (.bool (decide (a2 ≤ ((rd_T31 l0 (rd t208 x60_3)).f3)))))) ?hg ?ho ?hn ?hr ?_; (case ho => rfl); (case hg => rfl); (case hn => rfl); (case hr => first | (go_simp; done) | (go_simp; rfl)); intro w61 hw; have hg : w54.grownBy w61 (some go57) := (by rw [hw]; exact HP60.2); have hp_ : Kd.R Kd.bool 4 w61 w.heap.size (fun _ => True) (.slice (some ⟨go57, 0, none⟩) x14_3.length co57) y215 := (by rw [hw, Ny215.out]; exact HP60.1); clear HP60; have n0_ := Aside0.mk (Kd.R_over' (v := (.slice (some ⟨go57, 0, none⟩) x14_3.length co57)) (fr_ HO_10.out) (Kd.R_typed HO_14.out) (by decide) hg); have n1_ := Aside0.mk (hp_); have n2_ := Aside0.mk (Kd.R_over' (v := (.slice (some ⟨go57, 0, none⟩) x14_3.length co57)) (fr_ HO_58.out) (Kd.R_typed HO_14.out) (by decide) hg); have n3_ := Aside0.mk (blk_grown (g := gb197) (o := .cells #[.slice (some ad213) l0.length c0] 24 (0, 0)) (fb_ BK197.out) hg (Kd.R_ne HO_14.out BK197.out (by decide))); have n4_ := Aside0.mk (blk_grown (g := gb214) (o := .cells #[.int .i64 ((rd_T31 l0 (rd t208 x60_3)).f0), .int .i64 ((rd_T31 l0 (rd t208 x60_3)).f1), .int .i64 ((rd_T31 l0 (rd t208 x60_3)).f2), .int .i64 ((rd_T31 l0 (rd t208 x60_3)).f3), .int .i64 ((rd_T31 l0 (rd t208 x60_3)).f4), .int .i64 ((rd_T31 l0 (rd t208 x60_3)).f5)] 31 (0, 0)) (fb_ BK214.out) hg (Kd.R_ne HO_14.out BK214.out (by decide))); have n5_ := Aside0.mk ((by rw [hw]; exact below_set (HB.out) GB57.out : Below w.heap.size w w61)); clear HO_10; clear HO_14; clear HO_58; clear BK197; clear BK214; clear HB; have HO_10 := n0_; have HO_14 := n1_; have HO_58 := n2_; have BK197 := n3_; have BK214 := n4_; have HB := n5_; clear n0_ n1_ n2_ n3_ n4_ n5_; clear hg hw hp_))
                         go_meet
                         case rel => exact ⟨_, (y215), H', ⟨by have := HK1.out; have := HK2.out; have := HK3.out; first | omega | exact Nat.le_refl _⟩, ⟨by (try simp only [hl10_1]); (try simp only [hl10_2]); (try simp only [hl12_2]); (try simp only [hl10_3]); (try simp only [hl58_3]); (with_reducible repeat (first | apply Kd.R_alloc | apply Kd.R_drewN | apply Kd.R_drew)); exact HO_10.out⟩, ⟨by (try simp only [hl10_1]); (try simp only [hl10_2]); (try simp only [hl12_2]); (try simp only [hl10_3]); (try simp only [hl58_3]); (with_reducible repeat (first | apply Kd.R_alloc | apply Kd.R_drewN | apply Kd.R_drew)); exact HO_14.out⟩, ⟨by (try simp only [hl10_1]); (try simp only [hl10_2]); (try simp only [hl12_2]); (try simp only [hl10_3]); (try simp only [hl58_3]); (with_reducible repeat (first | apply Kd.R_alloc | apply Kd.R_drewN | apply Kd.R_drew)); exact HO_58.out⟩, ⟨by (try simp only [hl10_1]); (try simp only [hl10_2]); (try simp only [hl12_2]); (try simp only [hl10_3]); (try simp only [hl58_3]); refine rp_ ?_; exact BK197.out⟩, ⟨by (try simp only [hl10_1]); (try simp only [hl10_2]); (try simp only [hl12_2]); (try simp only [hl10_3]); (try simp only [hl58_3]); refine rp_ ?_; exact BK214.out⟩, ⟨bel_ HB.out⟩⟩
                        ·rw [if_neg c56] at H
                         exact absurd H (by simp)
                       ·rw [if_neg c55] at H
                        have c55b0 : (((rd_T31 l0 (rd t208 x60_3)).f1) == a1) = false := beq_eq_false_iff_ne.mpr c55
                        have c55b1 : (((rd_T31 l0 (rd t208 x60_3)).f1) != a1) = true := bne_iff_ne.mpr c55
                        (first | rw [c55b0] | (simp only [i64_w, i32_w]; rw [c55b0]) | skip)
                        by_cases c62 : (rd t208 x60_3) < (x14_3.length : Int)
                        ·rw [if_pos c62] at H
                         have c62b0 : decide ((rd t208 x60_3) < (x14_3.length : Int)) = true := decide_eq_true c62
                         (try (have c62h := c62b0; simp only [hl10_1, hl10_2, hl12_2, hl10_3, hl58_3] at c62h))
                         clear c62
                         obtain ⟨y216, hy216⟩ : ∃ y_ : List Bool, y_ = (x14_3.set ((rd t208 x60_3) : Int).toNat false) := ⟨_, rfl⟩
                         replace H : (impl_Earliest.j3 k3 a1 a2 a3 x10_3 y216 (rd t208 x60_3) t208 (x12_2.length : Int) x60_3 l0 ((rd_T31 l0 (rd t208 x60_3)).f0) ((rd_T31 l0 (rd t208 x60_3)).f1) ((rd_T31 l0 (rd t208 x60_3)).f2) ((rd_T31 l0 (rd t208 x60_3)).f3) ((rd_T31 l0 (rd t208 x60_3)).f4) ((rd_T31 l0 (rd t208 x60_3)).f5)) = some (r1, r2) := by first | (rw [hy216]; with_reducible exact H) | (have H2_ := (Option.bind_some _ _).symm.trans H; rw [hy216]; with_reducible exact H2_) | (have H2_ := (Option.bind_some _ _).symm.trans H; with_reducible exact H2_) | with_reducible exact H | (rw [hy216]; exact H) | exact H
                         have Ny216 := Aside0.mk hy216
                         clear hy216
                         have H' := Aside0.mk H
                         clear H
                         have hnb64 := NB214_197.out
                         have hnc64 := NB197_214.out
                         have hcz65_0 : w54.cell? ⟨gb214, 0, none⟩ = some (.int .i64 ((rd_T31 l0 (rd t208 x60_3)).f0)) := (blk_cell BK214.out 0).trans rfl
                         have hcz65_1 : w54.cell? ⟨gb214, 1, none⟩ = some (.int .i64 ((rd_T31 l0 (rd t208 x60_3)).f1)) := (blk_cell BK214.out 1).trans rfl
                         have hcz65_2 : w54.cell? ⟨gb214, 2, none⟩ = some (.int .i64 ((rd_T31 l0 (rd t208 x60_3)).f2)) := (blk_cell BK214.out 2).trans rfl
                         have hcz65_3 : w54.cell? ⟨gb214, 3, none⟩ = some (.int .i64 ((rd_T31 l0 (rd t208 x60_3)).f3)) := (blk_cell BK214.out 3).trans rfl
                         have hcz65_4 : w54.cell? ⟨gb214, 4, none⟩ = some (.int .i64 ((rd_T31 l0 (rd t208 x60_3)).f4)) := (blk_cell BK214.out 4).trans rfl
                         have hcz65_5 : w54.cell? ⟨gb214, 5, none⟩ = some (.int .i64 ((rd_T31 l0 (rd t208 x60_3)).f5)) := (blk_cell BK214.out 5).trans rfl
                         have hfz65_0 := blk_frozen BK214.out 0
                         have hfz65_1 := blk_frozen BK214.out 1
                         have hfz65_2 := blk_frozen BK214.out 2
                         have hfz65_3 := blk_frozen BK214.out 3
                         have hfz65_4 := blk_frozen BK214.out 4
                         have hfz65_5 := blk_frozen BK214.out 5
                         have p63 : 0 ≤ ((rd t208 x60_3) : Int) := of_decide_eq_true (by first | (with_reducible assumption) | assumption)
                         have q63 : ((rd t208 x60_3) : Int) < ((x14_3.length : Int) : Int) := of_decide_eq_true (by first | (with_reducible assumption) | assumption)
                         obtain ⟨go63, co63, eo63, gb63, gl63, cl63, HG63⟩ := Kd.R_form HO_14.out (by omega)
                         (first | cases eo63 | (injection eo63 with ea_ en_ ec_; (first | subst ea_ | (injection ea_ with ea_; subst ea_)); subst ec_; clear en_))
                         have GB63 := Aside0.mk gb63
                         have GG63 := Aside0.mk HG63
                         clear gb63 gl63 HG63
                         obtain ⟨hx63_0, hf63_0⟩ := Kd.R_celln false HO_14.out ((rd t208 x60_3) : Int) p63 q63
                         replace p63 := eq_true p63
                         replace q63 := eq_true q63
                         have HP66 := Kd.R_putg HO_14.out ((rd t208 x60_3) : Int) false
                         go_wp2_with (first | ((with_reducible refine gate_store (t := 4) (p := 80) rfl ?_); refine store_event (t := 4) (p := 80) (v := ?vo_w67) (w1 := (w54.setCell ⟨go63, ((rd t208 x60_3) : Int).toNat, none⟩ (.bool false))) ?hg ?ho ?hn ?hr ?_; (case ho => rfl); (case hg => rfl); (case hn => rfl); (case hr => first | (go_simp; done) | (go_simp; rfl)); intro w67 hw; have hg : w54.grownBy w67 (some go63) := (by rw [hw]; exact HP66.2); have hp_ : Kd.R Kd.bool 4 w67 w.heap.size (fun _ => True) (.slice (some ⟨go63, 0, none⟩) x14_3.length co63) y216 := (by rw [hw, Ny216.out]; exact HP66.1); clear HP66; have n0_ := Aside0.mk (Kd.R_over' (v := (.slice (some ⟨go63, 0, none⟩) x14_3.length co63)) (fr_ HO_10.out) (Kd.R_typed HO_14.out) (by decide) hg); have n1_ := Aside0.mk (hp_); have n2_ := Aside0.mk (Kd.R_over' (v := (.slice (some ⟨go63, 0, none⟩) x14_3.length co63)) (fr_ HO_58.out) (Kd.R_typed HO_14.out) (by decide) hg); have n3_ := Aside0.mk (blk_grown (g := gb197) (o := .cells #[.slice (some ad213) l0.length c0] 24 (0, 0)) (fb_ BK197.out) hg (Kd.R_ne HO_14.out BK197.out (by decide))); have n4_ := Aside0.mk (blk_grown (g := gb214) (o := .cells #[.int .i64 ((rd_T31 l0 (rd t208 x60_3)).f0), .int .i64 ((rd_T31 l0 (rd t208 x60_3)).f1), .int .i64 ((rd_T31 l0 (rd t208 x60_3)).f2), .int .i64 ((rd_T31 l0 (rd t208 x60_3)).f3), .int .i64 ((rd_T31 l0 (rd t208 x60_3)).f4), .int .i64 ((rd_T31 l0 (rd t208 x60_3)).f5)] 31 (0, 0)) (fb_ BK214.out) hg (Kd.R_ne HO_14.out BK214.out (by decide))); have n5_ := Aside0.mk ((by rw [hw]; exact below_set (HB.out) GB63.out : Below w.heap.size w w67)); clear HO_10; clear HO_14; clear HO_58; clear BK197; clear BK214; clear HB; have HO_10 := n0_; have HO_14 := n1_; have HO_58 := n2_; have BK197 := n3_; have BK214 := n4_; have HB := n5_; clear n0_ n1_ n2_ n3_ n4_ n5_; clear hg hw hp_))
                         go_meet
                         case rel => exact ⟨_, (y216), H', ⟨by have := HK1.out; have := HK2.out; have := HK3.out; first | omega | exact Nat.le_refl _⟩, ⟨by (try simp only [hl10_1]); (try simp only [hl10_2]); (try simp only [hl12_2]); (try simp only [hl10_3]); (try simp only [hl58_3]); (with_reducible repeat (first | apply Kd.R_alloc | apply Kd.R_drewN | apply Kd.R_drew)); exact HO_10.out⟩, ⟨by (try simp only [hl10_1]); (try simp only [hl10_2]); (try simp only [hl12_2]); (try simp only [hl10_3]); (try simp only [hl58_3]); (with_reducible repeat (first | apply Kd.R_alloc | apply Kd.R_drewN | apply Kd.R_drew)); exact HO_14.out⟩, ⟨by (try simp only [hl10_1]); (try simp only [hl10_2]); (try simp only [hl12_2]); (try simp only [hl10_3]); (try simp only [hl58_3]); (with_reducible repeat (first | apply Kd.R_alloc | apply Kd.R_drewN | apply Kd.R_drew)); exact HO_58.out⟩, ⟨by (try simp only [hl10_1]); (try simp only [hl10_2]); (try simp only [hl12_2]); (try simp only [hl10_3]); (try simp only [hl58_3]); refine rp_ ?_; exact BK197.out⟩, ⟨by (try simp only [hl10_1]); (try simp only [hl10_2]); (try simp only [hl12_2]); (try simp only [hl10_3]); (try simp only [hl58_3]); refine rp_ ?_; exact BK214.out⟩, ⟨bel_ HB.out⟩⟩
                        ·rw [if_neg c62] at H
                         exact absurd H (by simp)
                      case rest =>
                       clear HC49
                       try clear c6
                       try clear c7
                       try clear c7b0
                       try clear c7b1
                       try clear c14
                       try clear c14b0
                       try clear c14h
                       try clear c20
                       try clear c20b0
                       try clear c21
                       try clear c21b0
                       try clear c21h
                       try clear p22
                       try clear q22
                       try clear c23
                       try clear c23b0
                       try clear c23b1
                       try clear c24
                       try clear c24b0
                       try clear c24b1
                       try clear c31
                       try clear c31b0
                       try clear c31h
                       try clear c38
                       try clear c38b0
                       try clear c38b1
                       try clear c39
                       try clear c39b0
                       try clear c39b1
                       try clear c44
                       try clear c44b0
                       try clear c44h
                       try clear c45
                       try clear c45b0
                       try clear c46
                       try clear c46b0
                       try clear c46h
                       try clear c47
                       try clear c47b0
                       try clear c48
                       try clear c48b0
                       try clear c48h
                       try clear hcz27_0
                       try clear hcz41_0
                       try clear hcz50_0
                       try clear hcz53_0
                       try clear hcz53_1
                       try clear hcz53_2
                       try clear hcz53_3
                       try clear hcz53_4
                       try clear hcz53_5
                       try clear hcz9_0
                       try clear hfz27_0
                       try clear hfz41_0
                       try clear hfz50_0
                       try clear hfz53_0
                       try clear hfz53_1
                       try clear hfz53_2
                       try clear hfz53_3
                       try clear hfz53_4
                       try clear hfz53_5
                       try clear hfz9_0
                       try clear hx212_0
                       try clear hx213_0
                       try clear hx213_1
                       try clear hx213_2
                       try clear hx213_3
                       try clear hx213_4
                       try clear hx213_5
                       try clear hx22_0
                       try clear p212
                       try clear p213
                       try clear p22
                       try clear q212
                       try clear q213
                       try clear q22
                       obtain ⟨kq, x14_48, HA, HJ48, HO_10, HO_14, HO_58, BK197, BK214, HB⟩ := hcut
                       cases kq with
                       | zero => exact absurd HA.out (by simp [impl_Earliest.j3])
                       | succ kj48 =>
                        have H := HA.out
                        clear HA
                        simp only [impl_Earliest.j3] at H
                        have H' := Aside0.mk H
                        clear H
                        have hnb68 := NB197_214.out
                        have hnc68 := NB214_197.out
                        have hcz69_0 : wc.cell? ⟨gb197, 0, none⟩ = some (.slice (some ad213) l0.length c0) := (blk_cell BK197.out 0).trans rfl
                        have hfz69_0 := blk_frozen BK197.out 0
                        go_wp2
                        go_loopg [83] kj48 (fun kq v83 w' => ∃ (x14_5 : List Bool) (x83_5 : Int), v83 = .int .i64 x83_5 ∧ Aside0 (impl_Earliest.l3 kq a1 a2 a3 x10_3 x14_5 (rd t208 x60_3) t208 (x12_2.length : Int) x60_3 (l0.length : Int) x83_5 l0 ((rd_T31 l0 (rd t208 x60_3)).f0) ((rd_T31 l0 (rd t208 x60_3)).f1) ((rd_T31 l0 (rd t208 x60_3)).f2) ((rd_T31 l0 (rd t208 x60_3)).f3) ((rd_T31 l0 (rd t208 x60_3)).f4) ((rd_T31 l0 (rd t208 x60_3)).f5) = some (r1, r2)) ∧ Aside0 (kq ≤ kj48) ∧ Aside0 (Kd.R (Kd.int .i64) 3 w' w.heap.size (fun k_ => some k_ ≠ ((.slice (some ad212) t208.length co30) : Value).ownBlock) (.slice (some ⟨go22, 0, none⟩) x10_3.length co13) x10_3) ∧ Aside0 (Kd.R Kd.bool 4 w' w.heap.size (fun _ => True) v210 x14_5) ∧ Aside0 (Kd.R (Kd.int .i64) 3 w' w.heap.size (fun k_ => some k_ ≠ ((.slice (some ⟨go22, 0, none⟩) x10_3.length co13) : Value).ownBlock) (.slice (some ad212) t208.length co30) t208) ∧ Aside0 (w'.heap[gb197]? = some (.cells #[(.slice (some ad213) l0.length c0)] 24 (0, 0))) ∧ Aside0 (w'.heap[gb214]? = some (.cells #[.int .i64 ((rd_T31 l0 (rd t208 x60_3)).f0), .int .i64 ((rd_T31 l0 (rd t208 x60_3)).f1), .int .i64 ((rd_T31 l0 (rd t208 x60_3)).f2), .int .i64 ((rd_T31 l0 (rd t208 x60_3)).f3), .int .i64 ((rd_T31 l0 (rd t208 x60_3)).f4), .int .i64 ((rd_T31 l0 (rd t208 x60_3)).f5)] 31 (0, 0))) ∧ Aside0 (Below w.heap.size w w'))
                        case atStart => exact ⟨(x14_48), (0), (by first | rfl | (simp; done) | (simp [*]; done) | (simp [wrap64]; done)), H', ⟨Nat.le_refl _⟩, ⟨by (try simp only [hl10_1]); (try simp only [hl10_2]); (try simp only [hl12_2]); (try simp only [hl10_3]); (try simp only [hl58_3]); (with_reducible repeat (first | apply Kd.R_alloc | apply Kd.R_drewN | apply Kd.R_drew)); exact HO_10.out⟩, ⟨by (try simp only [hl10_1]); (try simp only [hl10_2]); (try simp only [hl12_2]); (try simp only [hl10_3]); (try simp only [hl58_3]); (with_reducible repeat (first | apply Kd.R_alloc | apply Kd.R_drewN | apply Kd.R_drew)); exact HO_14.out⟩, ⟨by (try simp only [hl10_1]); (try simp only [hl10_2]); (try simp only [hl12_2]); (try simp only [hl10_3]); (try simp only [hl58_3]); (with_reducible repeat (first | apply Kd.R_alloc | apply Kd.R_drewN | apply Kd.R_drew)); exact HO_58.out⟩, ⟨by (try simp only [hl10_1]); (try simp only [hl10_2]); (try simp only [hl12_2]); (try simp only [hl10_3]); (try simp only [hl58_3]); refine rp_ ?_; exact BK197.out⟩, ⟨by (try simp only [hl10_1]); (try simp only [hl10_2]); (try simp only [hl12_2]); (try simp only [hl10_3]); (try simp only [hl58_3]); refine rp_ ?_; exact BK214.out⟩, ⟨bel_ HB.out⟩⟩
                        case round =>
                         clear H'
                         try clear c6
                         try clear c7
                         try clear c7b0
                         try clear c7b1
                         try clear c14
                         try clear c14b0
                         try clear c14h
                         try clear c20
                         try clear c20b0
                         try clear c21
                         try clear c21b0
                         try clear c21h
                         try clear p22
                         try clear q22
                         try clear c23
                         try clear c23b0
                         try clear c23b1
                         try clear c24
                         try clear c24b0
                         try clear c24b1
                         try clear c31
                         try clear c31b0
                         try clear c31h
                         try clear c38
                         try clear c38b0
                         try clear c38b1
                         try clear c39
                         try clear c39b0
                         try clear c39b1
                         try clear c44
                         try clear c44b0
                         try clear c44h
                         try clear c45
                         try clear c45b0
                         try clear c46
                         try clear c46b0
                         try clear c46h
                         try clear c47
                         try clear c47b0
                         try clear c48
                         try clear c48b0
                         try clear c48h
                         try clear hcz27_0
                         try clear hcz41_0
                         try clear hcz50_0
                         try clear hcz53_0
                         try clear hcz53_1
                         try clear hcz53_2
                         try clear hcz53_3
                         try clear hcz53_4
                         try clear hcz53_5
                         try clear hcz69_0
                         try clear hcz9_0
                         try clear hfz27_0
                         try clear hfz41_0
                         try clear hfz50_0
                         try clear hfz53_0
                         try clear hfz53_1
                         try clear hfz53_2
                         try clear hfz53_3
                         try clear hfz53_4
                         try clear hfz53_5
                         try clear hfz69_0
                         try clear hfz9_0
                         try clear hx212_0
                         try clear hx213_0
                         try clear hx213_1
                         try clear hx213_2
                         try clear hx213_3
                         try clear hx213_4
                         try clear hx213_5
                         try clear hx22_0
                         try clear p212
                         try clear p213
                         try clear p22
                         try clear q212
                         try clear q213
                         try clear q22
                         obtain ⟨x14_5, x83_5, rfl, HA, HK5, HO_10, HO_14, HO_58, BK197, BK214, HB⟩ := hrel
                         cases gk with
                         | zero => exact absurd HA.out (by simp [impl_Earliest.l3])
                         | succ k5 =>
                          have H := HA.out
                          clear HA
                          simp only [impl_Earliest.l3] at H
                          by_cases c70 : x83_5 < (l0.length : Int)
                          ·rw [if_pos c70] at H
                           have c70b0 : decide (x83_5 < (l0.length : Int)) = true := decide_eq_true c70
                           (try (have c70h := c70b0; simp only [hl10_1, hl10_2, hl12_2, hl10_3, hl58_3] at c70h))
                           clear c70
                           by_cases c71 : 0 ≤ (rd t208 x60_3)
                           ·rw [if_pos c71] at H
                            have c71b0 : decide (0 ≤ (rd t208 x60_3)) = true := decide_eq_true c71
                            clear c71
                            by_cases c72 : (rd t208 x60_3) < (x14_5.length : Int)
                            ·rw [if_pos c72] at H
                             have c72b0 : decide ((rd t208 x60_3) < (x14_5.length : Int)) = true := decide_eq_true c72
                             (try (have c72h := c72b0; simp only [hl10_1, hl10_2, hl12_2, hl10_3, hl58_3] at c72h))
                             clear c72
                             obtain ⟨bq73, hbq73⟩ : ∃ b_ : Bool, b_ = (rdOf false x14_5 (rd t208 x60_3)) := ⟨_, rfl⟩
                             replace H : (if bq73 = true then (impl_Earliest.l3 k5 a1 a2 a3 x10_3 (x14_5.set ((rd t208 x60_3) : Int).toNat true) (rd t208 x60_3) t208 (x12_2.length : Int) x60_3 (l0.length : Int) (wrap64 (x83_5 + 1)) l0 ((rd_T31 l0 (rd t208 x60_3)).f0) ((rd_T31 l0 (rd t208 x60_3)).f1) ((rd_T31 l0 (rd t208 x60_3)).f2) ((rd_T31 l0 (rd t208 x60_3)).f3) ((rd_T31 l0 (rd t208 x60_3)).f4) ((rd_T31 l0 (rd t208 x60_3)).f5)) else (if 0 ≤ x83_5 then (if x83_5 < (x14_5.length : Int) then (if rdOf false x14_5 x83_5 = true then (if x83_5 < (l0.length : Int) then ((impl_changes.f ((rd_T31 l0 x83_5).f0) ((rd_T31 l0 x83_5).f1) ((rd_T31 l0 x83_5).f2) ((rd_T31 l0 x83_5).f3) ((rd_T31 l0 x83_5).f4) ((rd_T31 l0 x83_5).f5) ((rd_T31 l0 (rd t208 x60_3)).f0) ((rd_T31 l0 (rd t208 x60_3)).f1) ((rd_T31 l0 (rd t208 x60_3)).f2) ((rd_T31 l0 (rd t208 x60_3)).f3) ((rd_T31 l0 (rd t208 x60_3)).f4) ((rd_T31 l0 (rd t208 x60_3)).f5) a3).bind fun t221 => (impl_Earliest.l3 k5 a1 a2 a3 x10_3 (x14_5.set ((rd t208 x60_3) : Int).toNat t221) (rd t208 x60_3) t208 (x12_2.length : Int) x60_3 (l0.length : Int) (wrap64 (x83_5 + 1)) l0 ((rd_T31 l0 (rd t208 x60_3)).f0) ((rd_T31 l0 (rd t208 x60_3)).f1) ((rd_T31 l0 (rd t208 x60_3)).f2) ((rd_T31 l0 (rd t208 x60_3)).f3) ((rd_T31 l0 (rd t208 x60_3)).f4) ((rd_T31 l0 (rd t208 x60_3)).f5))) else (none)) else (impl_Earliest.l3 k5 a1 a2 a3 x10_3 (x14_5.set ((rd t208 x60_3) : Int).toNat false) (rd t208 x60_3) t208 (x12_2.length : Int) x60_3 (l0.length : Int) (wrap64 (x83_5 + 1)) l0 ((rd_T31 l0 (rd t208 x60_3)).f0) ((rd_T31 l0 (rd t208 x60_3)).f1) ((rd_T31 l0 (rd t208 x60_3)).f2) ((rd_T31 l0 (rd t208 x60_3)).f3) ((rd_T31 l0 (rd t208 x60_3)).f4) ((rd_T31 l0 (rd t208 x60_3)).f5))) else (none)) else (none))) = some (r1, r2) := by rw [← hbq73] at H; exact H
                             have Nbq73 := Aside0.mk hbq73
                             clear hbq73
                             by_cases c74 : bq73 = true
                             ·subst c74
                              have H1 : (impl_Earliest.l3 k5 a1 a2 a3 x10_3 (x14_5.set ((rd t208 x60_3) : Int).toNat true) (rd t208 x60_3) t208 (x12_2.length : Int) x60_3 (l0.length : Int) (wrap64 (x83_5 + 1)) l0 ((rd_T31 l0 (rd t208 x60_3)).f0) ((rd_T31 l0 (rd t208 x60_3)).f1) ((rd_T31 l0 (rd t208 x60_3)).f2) ((rd_T31 l0 (rd t208 x60_3)).f3) ((rd_T31 l0 (rd t208 x60_3)).f4) ((rd_T31 l0 (rd t208 x60_3)).f5)) = some (r1, r2) := by rw [if_pos rfl] at H; exact H
                              clear H
                              have H := H1
                              clear H1
                              obtain ⟨y218, hy218⟩ : ∃ y_ : List Bool, y_ = (x14_5.set ((rd t208 x60_3) : Int).toNat true) := ⟨_, rfl⟩
                              replace H : (impl_Earliest.l3 k5 a1 a2 a3 x10_3 y218 (rd t208 x60_3) t208 (x12_2.length : Int) x60_3 (l0.length : Int) (wrap64 (x83_5 + 1)) l0 ((rd_T31 l0 (rd t208 x60_3)).f0) ((rd_T31 l0 (rd t208 x60_3)).f1) ((rd_T31 l0 (rd t208 x60_3)).f2) ((rd_T31 l0 (rd t208 x60_3)).f3) ((rd_T31 l0 (rd t208 x60_3)).f4) ((rd_T31 l0 (rd t208 x60_3)).f5)) = some (r1, r2) := by first | (rw [hy218]; with_reducible exact H) | (have H2_ := (Option.bind_some _ _).symm.trans H; rw [hy218]; with_reducible exact H2_) | (have H2_ := (Option.bind_some _ _).symm.trans H; with_reducible exact H2_) | with_reducible exact H | (rw [hy218]; exact H) | exact H
                              have Ny218 := Aside0.mk hy218
                              clear hy218
                              have H' := Aside0.mk H
                              clear H
                              try go_wp2
                              have n0_ := Aside0.mk (Kd.R_drew HO_10.out)
                              have n1_ := Aside0.mk (Kd.R_drew HO_14.out)
                              have n2_ := Aside0.mk (Kd.R_drew HO_58.out)
                              have n3_ := Aside0.mk (blk_drew BK197.out)
                              have n4_ := Aside0.mk (blk_drew BK214.out)
                              have n5_ := Aside0.mk (below_drew1 HB.out)
                              clear HO_10
                              clear HO_14
                              clear HO_58
                              clear BK197
                              clear BK214
                              clear HB
                              have HO_10 := n0_
                              have HO_14 := n1_
                              have HO_58 := n2_
                              have BK197 := n3_
                              have BK214 := n4_
                              have HB := n5_
                              clear n0_ n1_ n2_ n3_ n4_ n5_
                              obtain ⟨Ao77, co77, eo77⟩ := Kd.R_slice HO_14.out
                              (first | subst eo77 | (injection eo77 with f1_ f2_ f3_; have f4_ := f1_.symm; have f5_ := f3_.symm; clear f1_ f2_ f3_; subst f4_; subst f5_))
                              have p217 : 0 ≤ ((rd t208 x60_3) : Int) := of_decide_eq_true (by first | (with_reducible assumption) | assumption)
                              have q217 : (rd t208 x60_3) < (x14_5.length : Int) := of_decide_eq_true (by first | (with_reducible assumption) | assumption)
                              obtain ⟨ad217, e217, hx217_0⟩ := Kd.at_bool (Kd.R_reads' HO_14.out).2.2 (rd t208 x60_3) p217 q217
                              (try rw [← Nbq73.out] at hx217_0)
                              cases e217
                              replace p217 := eq_true p217
                              replace q217 := eq_true q217
                              have p75 : 0 ≤ ((rd t208 x60_3) : Int) := of_decide_eq_true (by first | (with_reducible assumption) | assumption)
                              have q75 : ((rd t208 x60_3) : Int) < ((x14_5.length : Int) : Int) := of_decide_eq_true (by first | (with_reducible assumption) | assumption)
                              obtain ⟨go75, co75, eo75, gb75, gl75, cl75, HG75⟩ := Kd.R_form HO_14.out (by omega)
                              (first | cases eo75 | (injection eo75 with ea_ en_ ec_; (first | subst ea_ | (injection ea_ with ea_; subst ea_)); subst ec_; clear en_))
                              have GB75 := Aside0.mk gb75
                              have GG75 := Aside0.mk HG75
                              clear gb75 gl75 HG75
                              (first | simp only [add_plain] at hx217_0 | skip)
                              obtain ⟨hx75_0, hf75_0⟩ := Kd.R_celln false HO_14.out ((rd t208 x60_3) : Int) p75 q75
                              replace p75 := eq_true p75
                              replace q75 := eq_true q75
                              have HP78 := Kd.R_putn HO_14.out ((rd t208 x60_3) : Int) true
                              rw [← Ny218.out] at HP78
                              have HQ78 := Aside0.mk HP78
                              clear HP78
                              refine start_ (n := 23) (S := fun w' => w'.cell? ⟨go75, ((rd t208 x60_3)).toNat, none⟩ = some (.bool true)) (ds := [22]) (bs 23 0) (by kernel_rfl) rfl rfl (hx217_0) (fun hHeld => ?_); refine with_tabW impl_Earliest.tab26 impl_Earliest.bits26 (fun HT_ HW_ => ?_)
                              generalize wr.drew = w76 at HO_10 HO_14 HO_58 BK197 BK214 HB GG75 HQ78 hf75_0 hx217_0 hx75_0 hHeld ⊢
                              refine pu_ 0 86 HT_ (bs 23 1) rfl rfl ?_
                              refine pu_ 1 87 HT_ (bs 23 3) rfl rfl ?_
                              refine pu_ 2 88 HT_ (bs 23 7) rfl rfl ?_
                              refine pu_ 3 89 HT_ (bs 23 15) rfl rfl ?_
                              refine pu_ 4 90 HT_ (bs 23 31) rfl rfl ?_
                              refine take_ (i := 5) (N := some 91) (v := ?_) (a' := ?_) (bs 23 63) rfl rfl (take_ofW HT_.out HW_.out (by kernel_rfl)) (fun _ _ _ h => h) (Or.inl ⟨by rfl, ?_⟩) hHeld ?_ ?_
                              rotate_left
                              ·intro w' s0
                               go_simp
                               with_reducible rfl
                              rotate_left
                              ·simp only [Act.put, sA_, sZ_, sS_, i64_w, i32_w]
                               rfl
                              refine pu_ 6 92 HT_ (bs 23 127) rfl rfl ?_
                              refine pn_ 7 93 HT_ (bs 23 255) rfl rfl ?_
                              refine pn_ 8 94 HT_ (bs 23 511) rfl rfl ?_
                              refine pn_ 9 95 HT_ (bs 23 1023) rfl rfl ?_
                              refine pn_ 10 96 HT_ (bs 23 2047) rfl rfl ?_
                              refine pn_ 11 97 HT_ (bs 23 4095) rfl rfl ?_
                              refine pn_ 12 98 HT_ (bs 23 8191) rfl rfl ?_
                              refine pn_ 13 99 HT_ (bs 23 16383) rfl rfl ?_
                              refine pn_ 14 100 HT_ (bs 23 32767) rfl rfl ?_
                              refine pn_ 15 101 HT_ (bs 23 65535) rfl rfl ?_
                              refine pn_ 16 102 HT_ (bs 23 131071) rfl rfl ?_
                              refine pn_ 17 103 HT_ (bs 23 262143) rfl rfl ?_
                              refine pn_ 18 104 HT_ (bs 23 524287) rfl rfl ?_
                              refine pn_ 19 105 HT_ (bs 23 1048575) rfl rfl ?_
                              refine pu_ 20 106 HT_ (bs 23 2097151) rfl rfl ?_
                              refine pu_ 21 107 HT_ (bs 23 4194303) rfl rfl ?_
                              refine last_ (i := 22) (N := none) (bs 23 8388607) rfl rfl (one_of HT_.out (by kernel_rfl)) (by decide) (fun K hK => ?_)
                              refine skip_ (w1 := ?_) (by rfl) rfl ?_ ?_
                              rotate_left
                              ·go_simp
                               rfl
                              refine hK.out _ _ ?_
                              clear hK K
                              refine done_ (done_of HT_.out (by kernel_rfl)) ?_
                              try go_wp2
                              (first | go_roundg k5 | (refine Handed.intro k5 ?measure ?_; rotate_left; go_step; (repeat apply Exists.intro); simp only [add_plain]; refine ⟨?rel, rfl⟩))
                              case measure => have := HK1.out; have := HK2.out; have := HK3.out; have := HJ48.out; have := HK5.out; omega
                              case rel => exact ⟨(y218), (wrap64 (x83_5 + 1)), (by first | rfl | (simp; done) | (simp [*]; done) | (simp [wrap64]; done)), H', ⟨by have := HK1.out; have := HK2.out; have := HK3.out; have := HJ48.out; have := HK5.out; omega⟩, ⟨by (try simp only [hl10_1]); (try simp only [hl10_2]); (try simp only [hl12_2]); (try simp only [hl10_3]); (try simp only [hl58_3]); (with_reducible repeat (first | apply Kd.R_alloc | apply Kd.R_drewN | apply Kd.R_drew)); exact Kd.R_mono (Kd.R_far (p := ⟨go75, ((rd t208 x60_3) : Int).toNat, none⟩) (rt_ HO_10.out GG75.out) (fun _ hk => hk.2) (.bool true)) (fun _ hk => hk.1)⟩, ⟨by (try simp only [hl10_1]); (try simp only [hl10_2]); (try simp only [hl12_2]); (try simp only [hl10_3]); (try simp only [hl58_3]); (with_reducible repeat (first | apply Kd.R_alloc | apply Kd.R_drewN | apply Kd.R_drew)); exact HQ78.out⟩, ⟨by (try simp only [hl10_1]); (try simp only [hl10_2]); (try simp only [hl12_2]); (try simp only [hl10_3]); (try simp only [hl58_3]); (with_reducible repeat (first | apply Kd.R_alloc | apply Kd.R_drewN | apply Kd.R_drew)); exact Kd.R_mono (Kd.R_far (p := ⟨go75, ((rd t208 x60_3) : Int).toNat, none⟩) (rt_ HO_58.out GG75.out) (fun _ hk => hk.2) (.bool true)) (fun _ hk => hk.1)⟩, ⟨by (try simp only [hl10_1]); (try simp only [hl10_2]); (try simp only [hl12_2]); (try simp only [hl10_3]); (try simp only [hl58_3]); refine rp_ ?_; refine blk_far ?_ (by have h_ := Kd.R_ne HO_14.out BK197.out (by decide); intro e_; exact h_ (by rw [e_]; rfl)) _; refine rp_ ?_; exact BK197.out⟩, ⟨by (try simp only [hl10_1]); (try simp only [hl10_2]); (try simp only [hl12_2]); (try simp only [hl10_3]); (try simp only [hl58_3]); refine rp_ ?_; refine blk_far ?_ (by have h_ := Kd.R_ne HO_14.out BK214.out (by decide); intro e_; exact h_ (by rw [e_]; rfl)) _; refine rp_ ?_; exact BK214.out⟩, ⟨by repeat (first | (with_reducible first | exact HB.out | apply below_alloc | apply pw_below_drewN | apply below_drew1 | refine below_set ?_ GB75.out | refine below_set ?_ GE197.out | refine below_set ?_ GE214.out) | exact HB.out)⟩⟩
                             ·replace c74 := Bool.eq_false_iff.mpr c74
                              subst c74
                              have H1 : (if 0 ≤ x83_5 then (if x83_5 < (x14_5.length : Int) then (if rdOf false x14_5 x83_5 = true then (if x83_5 < (l0.length : Int) then ((impl_changes.f ((rd_T31 l0 x83_5).f0) ((rd_T31 l0 x83_5).f1) ((rd_T31 l0 x83_5).f2) ((rd_T31 l0 x83_5).f3) ((rd_T31 l0 x83_5).f4) ((rd_T31 l0 x83_5).f5) ((rd_T31 l0 (rd t208 x60_3)).f0) ((rd_T31 l0 (rd t208 x60_3)).f1) ((rd_T31 l0 (rd t208 x60_3)).f2) ((rd_T31 l0 (rd t208 x60_3)).f3) ((rd_T31 l0 (rd t208 x60_3)).f4) ((rd_T31 l0 (rd t208 x60_3)).f5) a3).bind fun t221 => (impl_Earliest.l3 k5 a1 a2 a3 x10_3 (x14_5.set ((rd t208 x60_3) : Int).toNat t221) (rd t208 x60_3) t208 (x12_2.length : Int) x60_3 (l0.length : Int) (wrap64 (x83_5 + 1)) l0 ((rd_T31 l0 (rd t208 x60_3)).f0) ((rd_T31 l0 (rd t208 x60_3)).f1) ((rd_T31 l0 (rd t208 x60_3)).f2) ((rd_T31 l0 (rd t208 x60_3)).f3) ((rd_T31 l0 (rd t208 x60_3)).f4) ((rd_T31 l0 (rd t208 x60_3)).f5))) else (none)) else (impl_Earliest.l3 k5 a1 a2 a3 x10_3 (x14_5.set ((rd t208 x60_3) : Int).toNat false) (rd t208 x60_3) t208 (x12_2.length : Int) x60_3 (l0.length : Int) (wrap64 (x83_5 + 1)) l0 ((rd_T31 l0 (rd t208 x60_3)).f0) ((rd_T31 l0 (rd t208 x60_3)).f1) ((rd_T31 l0 (rd t208 x60_3)).f2) ((rd_T31 l0 (rd t208 x60_3)).f3) ((rd_T31 l0 (rd t208 x60_3)).f4) ((rd_T31 l0 (rd t208 x60_3)).f5))) else (none)) else (none)) = some (r1, r2) := by rw [if_neg (show ¬ (false = true) by decide)] at H; exact H
                              clear H
                              have H := H1
                              clear H1
                              by_cases c79 : 0 ≤ x83_5
                              ·rw [if_pos c79] at H
                               have c79b0 : decide (0 ≤ x83_5) = true := decide_eq_true c79
                               clear c79
                               by_cases c80 : x83_5 < (x14_5.length : Int)
                               ·rw [if_pos c80] at H
                                have c80b0 : decide (x83_5 < (x14_5.length : Int)) = true := decide_eq_true c80
                                (try (have c80h := c80b0; simp only [hl10_1, hl10_2, hl12_2, hl10_3, hl58_3] at c80h))
                                clear c80
                                obtain ⟨bq81, hbq81⟩ : ∃ b_ : Bool, b_ = (rdOf false x14_5 x83_5) := ⟨_, rfl⟩
                                replace H : (if bq81 = true then (if x83_5 < (l0.length : Int) then ((impl_changes.f ((rd_T31 l0 x83_5).f0) ((rd_T31 l0 x83_5).f1) ((rd_T31 l0 x83_5).f2) ((rd_T31 l0 x83_5).f3) ((rd_T31 l0 x83_5).f4) ((rd_T31 l0 x83_5).f5) ((rd_T31 l0 (rd t208 x60_3)).f0) ((rd_T31 l0 (rd t208 x60_3)).f1) ((rd_T31 l0 (rd t208 x60_3)).f2) ((rd_T31 l0 (rd t208 x60_3)).f3) ((rd_T31 l0 (rd t208 x60_3)).f4) ((rd_T31 l0 (rd t208 x60_3)).f5) a3).bind fun t221 => (impl_Earliest.l3 k5 a1 a2 a3 x10_3 (x14_5.set ((rd t208 x60_3) : Int).toNat t221) (rd t208 x60_3) t208 (x12_2.length : Int) x60_3 (l0.length : Int) (wrap64 (x83_5 + 1)) l0 ((rd_T31 l0 (rd t208 x60_3)).f0) ((rd_T31 l0 (rd t208 x60_3)).f1) ((rd_T31 l0 (rd t208 x60_3)).f2) ((rd_T31 l0 (rd t208 x60_3)).f3) ((rd_T31 l0 (rd t208 x60_3)).f4) ((rd_T31 l0 (rd t208 x60_3)).f5))) else (none)) else (impl_Earliest.l3 k5 a1 a2 a3 x10_3 (x14_5.set ((rd t208 x60_3) : Int).toNat false) (rd t208 x60_3) t208 (x12_2.length : Int) x60_3 (l0.length : Int) (wrap64 (x83_5 + 1)) l0 ((rd_T31 l0 (rd t208 x60_3)).f0) ((rd_T31 l0 (rd t208 x60_3)).f1) ((rd_T31 l0 (rd t208 x60_3)).f2) ((rd_T31 l0 (rd t208 x60_3)).f3) ((rd_T31 l0 (rd t208 x60_3)).f4) ((rd_T31 l0 (rd t208 x60_3)).f5))) = some (r1, r2) := by rw [← hbq81] at H; exact H
                                have Nbq81 := Aside0.mk hbq81
                                clear hbq81
                                by_cases c82 : bq81 = true
                                ·subst c82
                                 have H1 : (if x83_5 < (l0.length : Int) then ((impl_changes.f ((rd_T31 l0 x83_5).f0) ((rd_T31 l0 x83_5).f1) ((rd_T31 l0 x83_5).f2) ((rd_T31 l0 x83_5).f3) ((rd_T31 l0 x83_5).f4) ((rd_T31 l0 x83_5).f5) ((rd_T31 l0 (rd t208 x60_3)).f0) ((rd_T31 l0 (rd t208 x60_3)).f1) ((rd_T31 l0 (rd t208 x60_3)).f2) ((rd_T31 l0 (rd t208 x60_3)).f3) ((rd_T31 l0 (rd t208 x60_3)).f4) ((rd_T31 l0 (rd t208 x60_3)).f5) a3).bind fun t221 => (impl_Earliest.l3 k5 a1 a2 a3 x10_3 (x14_5.set ((rd t208 x60_3) : Int).toNat t221) (rd t208 x60_3) t208 (x12_2.length : Int) x60_3 (l0.length : Int) (wrap64 (x83_5 + 1)) l0 ((rd_T31 l0 (rd t208 x60_3)).f0) ((rd_T31 l0 (rd t208 x60_3)).f1) ((rd_T31 l0 (rd t208 x60_3)).f2) ((rd_T31 l0 (rd t208 x60_3)).f3) ((rd_T31 l0 (rd t208 x60_3)).f4) ((rd_T31 l0 (rd t208 x60_3)).f5))) else (none)) = some (r1, r2) := by rw [if_pos rfl] at H; exact H
                                 clear H
                                 have H := H1
                                 clear H1
                                 by_cases c83 : x83_5 < (l0.length : Int)
                                 ·rw [if_pos c83] at H
                                  have c83b0 : decide (x83_5 < (l0.length : Int)) = true := decide_eq_true c83
                                  (try (have c83h := c83b0; simp only [hl10_1, hl10_2, hl12_2, hl10_3, hl58_3] at c83h))
                                  clear c83
                                  replace H := Option.bind_eq_some_iff.mp H
                                  obtain ⟨t221, A840, H⟩ := H
                                  replace H : (impl_Earliest.l3 k5 a1 a2 a3 x10_3 (x14_5.set ((rd t208 x60_3) : Int).toNat t221) (rd t208 x60_3) t208 (x12_2.length : Int) x60_3 (l0.length : Int) (wrap64 (x83_5 + 1)) l0 ((rd_T31 l0 (rd t208 x60_3)).f0) ((rd_T31 l0 (rd t208 x60_3)).f1) ((rd_T31 l0 (rd t208 x60_3)).f2) ((rd_T31 l0 (rd t208 x60_3)).f3) ((rd_T31 l0 (rd t208 x60_3)).f4) ((rd_T31 l0 (rd t208 x60_3)).f5)) = some (r1, r2) := H
                                  have A84 := Aside0.mk A840
                                  clear A840
                                  obtain ⟨y222, hy222⟩ : ∃ y_ : List Bool, y_ = (x14_5.set ((rd t208 x60_3) : Int).toNat t221) := ⟨_, rfl⟩
                                  replace H : (impl_Earliest.l3 k5 a1 a2 a3 x10_3 y222 (rd t208 x60_3) t208 (x12_2.length : Int) x60_3 (l0.length : Int) (wrap64 (x83_5 + 1)) l0 ((rd_T31 l0 (rd t208 x60_3)).f0) ((rd_T31 l0 (rd t208 x60_3)).f1) ((rd_T31 l0 (rd t208 x60_3)).f2) ((rd_T31 l0 (rd t208 x60_3)).f3) ((rd_T31 l0 (rd t208 x60_3)).f4) ((rd_T31 l0 (rd t208 x60_3)).f5)) = some (r1, r2) := by first | (rw [hy222]; with_reducible exact H) | (have H2_ := (Option.bind_some _ _).symm.trans H; rw [hy222]; with_reducible exact H2_) | (have H2_ := (Option.bind_some _ _).symm.trans H; with_reducible exact H2_) | with_reducible exact H | (rw [hy222]; exact H) | exact H
                                  have Ny222 := Aside0.mk hy222
                                  clear hy222
                                  have H' := Aside0.mk H
                                  clear H
                                  try go_wp2
                                  have n0_ := Aside0.mk (Kd.R_drew HO_10.out)
                                  have n1_ := Aside0.mk (Kd.R_drew HO_14.out)
                                  have n2_ := Aside0.mk (Kd.R_drew HO_58.out)
                                  have n3_ := Aside0.mk (blk_drew BK197.out)
                                  have n4_ := Aside0.mk (blk_drew BK214.out)
                                  have n5_ := Aside0.mk (below_drew1 HB.out)
                                  clear HO_10
                                  clear HO_14
                                  clear HO_58
                                  clear BK197
                                  clear BK214
                                  clear HB
                                  have HO_10 := n0_
                                  have HO_14 := n1_
                                  have HO_58 := n2_
                                  have BK197 := n3_
                                  have BK214 := n4_
                                  have HB := n5_
                                  clear n0_ n1_ n2_ n3_ n4_ n5_
                                  obtain ⟨Ao87, co87, eo87⟩ := Kd.R_slice HO_14.out
                                  (first | subst eo87 | (injection eo87 with f1_ f2_ f3_; have f4_ := f1_.symm; have f5_ := f3_.symm; clear f1_ f2_ f3_; subst f4_; subst f5_))
                                  have p217 : 0 ≤ ((rd t208 x60_3) : Int) := of_decide_eq_true (by first | (with_reducible assumption) | assumption)
                                  have q217 : (rd t208 x60_3) < (x14_5.length : Int) := of_decide_eq_true (by first | (with_reducible assumption) | assumption)
                                  obtain ⟨ad217, e217, hx217_0⟩ := Kd.at_bool (Kd.R_reads' HO_14.out).2.2 (rd t208 x60_3) p217 q217
                                  (try rw [← Nbq73.out] at hx217_0)
                                  (try rw [← Nbq81.out] at hx217_0)
                                  cases e217
                                  replace p217 := eq_true p217
                                  replace q217 := eq_true q217
                                  have p219 : 0 ≤ (x83_5 : Int) := of_decide_eq_true (by first | (with_reducible assumption) | assumption)
                                  have q219 : x83_5 < (x14_5.length : Int) := of_decide_eq_true (by first | (with_reducible assumption) | assumption)
                                  obtain ⟨ad219, e219, hx219_0⟩ := Kd.at_bool (Kd.R_reads' HO_14.out).2.2 x83_5 p219 q219
                                  (try rw [← Nbq73.out] at hx219_0)
                                  (try rw [← Nbq81.out] at hx219_0)
                                  obtain rfl : ad217 = ad219 := (by injection e219)
                                  replace p219 := eq_true p219
                                  replace q219 := eq_true q219
                                  have p220 : 0 ≤ (x83_5 : Int) := of_decide_eq_true (by first | (with_reducible assumption) | assumption)
                                  have q220 : x83_5 < (l0.length : Int) := of_decide_eq_true (by first | (with_reducible assumption) | assumption)
                                  obtain ⟨ad220, e220, hx220_0, hx220_1, hx220_2, hx220_3, hx220_4, hx220_5⟩ := at_T31 HR0.out x83_5 p220 q220
                                  have hw220_5 := hx220_5
                                  have hw220_4 := hx220_4
                                  have hw220_3 := hx220_3
                                  have hw220_2 := hx220_2
                                  have hw220_1 := hx220_1
                                  have hw220_0 := hx220_0
                                  obtain rfl : ad213 = ad220 := (by injection e220)
                                  replace hx220_0 := (HB.out.cell (World.block_lt_of_cell? w _ hx220_0)).trans hx220_0
                                  replace hx220_1 := (HB.out.cell (World.block_lt_of_cell? w _ hx220_1)).trans hx220_1
                                  replace hx220_2 := (HB.out.cell (World.block_lt_of_cell? w _ hx220_2)).trans hx220_2
                                  replace hx220_3 := (HB.out.cell (World.block_lt_of_cell? w _ hx220_3)).trans hx220_3
                                  replace hx220_4 := (HB.out.cell (World.block_lt_of_cell? w _ hx220_4)).trans hx220_4
                                  replace hx220_5 := (HB.out.cell (World.block_lt_of_cell? w _ hx220_5)).trans hx220_5
                                  replace p220 := eq_true p220
                                  replace q220 := eq_true q220
                                  refine start_ (n := 23) (S := fun w' => w'.cell? ⟨gb197, 0, none⟩ = some (.slice (some ad213) l0.length c0) ∧ w'.cell? ⟨gb214, 0, none⟩ = some (.int .i64 ((rd_T31 l0 (rd t208 x60_3)).f0)) ∧ w'.cell? ⟨gb214, 1, none⟩ = some (.int .i64 ((rd_T31 l0 (rd t208 x60_3)).f1)) ∧ w'.cell? ⟨gb214, 2, none⟩ = some (.int .i64 ((rd_T31 l0 (rd t208 x60_3)).f2)) ∧ w'.cell? ⟨gb214, 3, none⟩ = some (.int .i64 ((rd_T31 l0 (rd t208 x60_3)).f3)) ∧ w'.cell? ⟨gb214, 4, none⟩ = some (.int .i64 ((rd_T31 l0 (rd t208 x60_3)).f4)) ∧ w'.cell? ⟨gb214, 5, none⟩ = some (.int .i64 ((rd_T31 l0 (rd t208 x60_3)).f5)) ∧ w'.cell? (ad217.add ((rd t208 x60_3)).toNat) = some (.bool false) ∧ w'.cell? (ad217.add (x83_5).toNat) = some (.bool true) ∧ w'.cell? (ad213.add ((x83_5).toNat * 6)) = some (.int .i64 ((rd_T31 l0 x83_5).f0)) ∧ w'.cell? ⟨(ad213.add ((x83_5).toNat * 6)).block, (ad213.add ((x83_5).toNat * 6)).off + 1, none⟩ = some (.int .i64 ((rd_T31 l0 x83_5).f1)) ∧ w'.cell? ⟨(ad213.add ((x83_5).toNat * 6)).block, (ad213.add ((x83_5).toNat * 6)).off + 2, none⟩ = some (.int .i64 ((rd_T31 l0 x83_5).f2)) ∧ w'.cell? ⟨(ad213.add ((x83_5).toNat * 6)).block, (ad213.add ((x83_5).toNat * 6)).off + 3, none⟩ = some (.int .i64 ((rd_T31 l0 x83_5).f3)) ∧ w'.cell? ⟨(ad213.add ((x83_5).toNat * 6)).block, (ad213.add ((x83_5).toNat * 6)).off + 4, none⟩ = some (.int .i64 ((rd_T31 l0 x83_5).f4)) ∧ w'.cell? ⟨(ad213.add ((x83_5).toNat * 6)).block, (ad213.add ((x83_5).toNat * 6)).off + 5, none⟩ = some (.int .i64 ((rd_T31 l0 x83_5).f5))) (ds := [22]) (bs 23 0) (by kernel_rfl) rfl rfl ⟨(blk_cell BK197.out 0).trans rfl, (blk_cell BK214.out 0).trans rfl, (blk_cell BK214.out 1).trans rfl, (blk_cell BK214.out 2).trans rfl, (blk_cell BK214.out 3).trans rfl, (blk_cell BK214.out 4).trans rfl, (blk_cell BK214.out 5).trans rfl, hx217_0, hx219_0, ((HB.out.cell (World.block_lt_of_cell? w _ hw220_0)).trans hw220_0), ((HB.out.cell (World.block_lt_of_cell? w _ hw220_1)).trans hw220_1), ((HB.out.cell (World.block_lt_of_cell? w _ hw220_2)).trans hw220_2), ((HB.out.cell (World.block_lt_of_cell? w _ hw220_3)).trans hw220_3), ((HB.out.cell (World.block_lt_of_cell? w _ hw220_4)).trans hw220_4), ((HB.out.cell (World.block_lt_of_cell? w _ hw220_5)).trans hw220_5)⟩ (fun hHeld => ?_); refine with_tabW impl_Earliest.tab26 impl_Earliest.bits26 (fun HT_ HW_ => ?_)
                                  generalize wr.drew = w86 at HO_10 HO_14 HO_58 BK197 BK214 HB hx217_0 hx219_0 hx220_0 hx220_1 hx220_2 hx220_3 hx220_4 hx220_5 hHeld ⊢
                                  refine pu_ 0 86 HT_ (bs 23 1) rfl rfl ?_
                                  refine pu_ 1 87 HT_ (bs 23 3) rfl rfl ?_
                                  refine pu_ 2 88 HT_ (bs 23 7) rfl rfl ?_
                                  refine pu_ 3 89 HT_ (bs 23 15) rfl rfl ?_
                                  refine pu_ 4 90 HT_ (bs 23 31) rfl rfl ?_
                                  refine take_ (i := 5) (N := some 91) (v := ?_) (a' := ?_) (bs 23 63) rfl rfl (take_ofW HT_.out HW_.out (by kernel_rfl)) (fun _ _ _ h => h) (Or.inl ⟨by rfl, ?_⟩) hHeld ?_ ?_
                                  rotate_left
                                  ·rintro w' ⟨s0, s1, s2, s3, s4, s5, s6, s7, s8, s9, s10, s11, s12, s13, s14⟩
                                   go_simp
                                   with_reducible rfl
                                  rotate_left
                                  ·simp only [Act.put, sA_, sZ_, sS_, i64_w, i32_w]
                                   rfl
                                  refine pu_ 6 92 HT_ (bs 23 127) rfl rfl ?_
                                  refine pu_ 7 93 HT_ (bs 23 255) rfl rfl ?_
                                  refine pu_ 8 94 HT_ (bs 23 511) rfl rfl ?_
                                  refine pu_ 9 95 HT_ (bs 23 1023) rfl rfl ?_
                                  refine take_ (i := 10) (N := some 96) (v := ?_) (a' := ?_) (bs 23 2047) rfl rfl (take_ofW HT_.out HW_.out (by kernel_rfl)) (fun _ _ _ h => h) (Or.inl ⟨by rfl, ?_⟩) hHeld ?_ ?_
                                  rotate_left
                                  ·rintro w' ⟨s0, s1, s2, s3, s4, s5, s6, s7, s8, s9, s10, s11, s12, s13, s14⟩
                                   go_simp
                                   with_reducible rfl
                                  rotate_left
                                  ·simp only [Act.put, sA_, sZ_, sS_, i64_w, i32_w]
                                   rfl
                                  refine pu_ 11 97 HT_ (bs 23 4095) rfl rfl ?_
                                  refine pu_ 13 99 HT_ (bs 23 12287) rfl rfl ?_
                                  refine pu_ 17 103 HT_ (bs 23 143359) rfl rfl ?_
                                  refine take_ (i := 12) (N := some 98) (v := ?_) (a' := ?_) (bs 23 147455) rfl rfl (take_ofW HT_.out HW_.out (by kernel_rfl)) (fun _ _ _ h => h) (Or.inl ⟨by rfl, ?_⟩) hHeld ?_ ?_
                                  rotate_left
                                  ·rintro w' ⟨s0, s1, s2, s3, s4, s5, s6, s7, s8, s9, s10, s11, s12, s13, s14⟩
                                   go_simp
                                   with_reducible rfl
                                  rotate_left
                                  ·simp only [Act.put, sA_, sZ_, sS_, i64_w, i32_w]
                                   rfl
                                  refine pu_ 14 100 HT_ (bs 23 163839) rfl rfl ?_
                                  refine take_ (i := 15) (N := some 101) (v := ?_) (a' := ?_) (bs 23 196607) rfl rfl (take_ofW HT_.out HW_.out (by kernel_rfl)) (fun _ _ _ h => h) (Or.inl ⟨by rfl, ?_⟩) hHeld ?_ ?_
                                  rotate_left
                                  ·rintro w' ⟨s0, s1, s2, s3, s4, s5, s6, s7, s8, s9, s10, s11, s12, s13, s14⟩
                                   go_simp
                                   with_reducible rfl
                                  rotate_left
                                  ·simp only [Act.put, sA_, sZ_, sS_, i64_w, i32_w]
                                   rfl
                                  refine take_ (i := 16) (N := some 102) (v := ?_) (a' := ?_) (bs 23 262143) rfl rfl (take_ofW HT_.out HW_.out (by kernel_rfl)) (fun _ _ _ h => h) (Or.inl ⟨by rfl, ?_⟩) hHeld ?_ ?_
                                  rotate_left
                                  ·rintro w' ⟨s0, s1, s2, s3, s4, s5, s6, s7, s8, s9, s10, s11, s12, s13, s14⟩
                                   go_simp
                                   with_reducible rfl
                                  rotate_left
                                  ·simp only [Act.put, sA_, sZ_, sS_, i64_w, i32_w]
                                   rfl
                                  refine one_ (i := 18) (N := some 104) (bs 23 524287) rfl rfl (one_of HT_.out (by kernel_rfl)) (by decide) (fun K hK => ?_)
                                  refine goes_ Try.func34 (by kernel_rfl) rfl #[.agg #[.int .i64 ((rd_T31 l0 x83_5).f0), .int .i64 ((rd_T31 l0 x83_5).f1), .int .i64 ((rd_T31 l0 x83_5).f2), .int .i64 ((rd_T31 l0 x83_5).f3), .int .i64 ((rd_T31 l0 x83_5).f4), .int .i64 ((rd_T31 l0 x83_5).f5)], .agg #[.int .i64 ((rd_T31 l0 (rd t208 x60_3)).f0), .int .i64 ((rd_T31 l0 (rd t208 x60_3)).f1), .int .i64 ((rd_T31 l0 (rd t208 x60_3)).f2), .int .i64 ((rd_T31 l0 (rd t208 x60_3)).f3), .int .i64 ((rd_T31 l0 (rd t208 x60_3)).f4), .int .i64 ((rd_T31 l0 (rd t208 x60_3)).f5)], .int .i64 a3] (by rfl) rfl rfl ml_ ?_
                                  with_reducible refine (impl_changes.calls ((rd_T31 l0 x83_5).f0) ((rd_T31 l0 x83_5).f1) ((rd_T31 l0 x83_5).f2) ((rd_T31 l0 x83_5).f3) ((rd_T31 l0 x83_5).f4) ((rd_T31 l0 x83_5).f5) ((rd_T31 l0 (rd t208 x60_3)).f0) ((rd_T31 l0 (rd t208 x60_3)).f1) ((rd_T31 l0 (rd t208 x60_3)).f2) ((rd_T31 l0 (rd t208 x60_3)).f3) ((rd_T31 l0 (rd t208 x60_3)).f4) ((rd_T31 l0 (rd t208 x60_3)).f5) a3 t221 _ A84.out).mono ?_
                                  rintro e w88 ⟨rfl, hb⟩
                                  have HS7_ := (hb.cell (World.block_lt_of_cell? _ _ (hHeld.2.2.2.2.2.2.2.1))).trans (hHeld.2.2.2.2.2.2.2.1)
                                  have HS8_ := (hb.cell (World.block_lt_of_cell? _ _ (hHeld.2.2.2.2.2.2.2.2.1))).trans (hHeld.2.2.2.2.2.2.2.2.1)
                                  refine ⟨_, rfl, ?_⟩
                                  have n0_ := Aside0.mk (Kd.R_below (fr_ HO_10.out) hb)
                                  have n1_ := Aside0.mk (Kd.R_below (fr_ HO_14.out) hb)
                                  have n2_ := Aside0.mk (Kd.R_below (fr_ HO_58.out) hb)
                                  have n3_ := Aside0.mk (bb_ BK197.out hb)
                                  have n4_ := Aside0.mk (bb_ BK214.out hb)
                                  have n5_ := Aside0.mk (below_step (bel_ HB.out) hb)
                                  clear HO_10
                                  clear HO_14
                                  clear HO_58
                                  clear BK197
                                  clear BK214
                                  clear HB
                                  have HO_10 := n0_
                                  have HO_14 := n1_
                                  have HO_58 := n2_
                                  have BK197 := n3_
                                  have BK214 := n4_
                                  have HB := n5_
                                  clear n0_ n1_ n2_ n3_ n4_ n5_
                                  (try clear hb)
                                  (try clear hb2)
                                  (try clear hk)
                                  (try clear hi)
                                  have p85 : 0 ≤ ((rd t208 x60_3) : Int) := of_decide_eq_true (by first | (with_reducible assumption) | assumption)
                                  have q85 : ((rd t208 x60_3) : Int) < ((x14_5.length : Int) : Int) := of_decide_eq_true (by first | (with_reducible assumption) | assumption)
                                  obtain ⟨go85, co85, eo85, gb85, gl85, cl85, HG85⟩ := Kd.R_form HO_14.out (by omega)
                                  (first | cases eo85 | (injection eo85 with ea_ en_ ec_; (first | subst ea_ | (injection ea_ with ea_; subst ea_)); subst ec_; clear en_))
                                  have GB85 := Aside0.mk gb85
                                  have GG85 := Aside0.mk HG85
                                  clear gb85 gl85 HG85
                                  (first | simp only [add_plain] at hx217_0 | skip)
                                  (first | simp only [add_plain] at hx219_0 | skip)
                                  obtain ⟨hx85_0, hf85_0⟩ := Kd.R_celln false HO_14.out ((rd t208 x60_3) : Int) p85 q85
                                  replace p85 := eq_true p85
                                  replace q85 := eq_true q85
                                  have HP89 := Kd.R_putn HO_14.out ((rd t208 x60_3) : Int) t221
                                  rw [← Ny222.out] at HP89
                                  have HQ89 := Aside0.mk HP89
                                  clear HP89
                                  refine hK.out _ _ ⟨(blk_cell BK197.out 0).trans rfl, (blk_cell BK214.out 0).trans rfl, (blk_cell BK214.out 1).trans rfl, (blk_cell BK214.out 2).trans rfl, (blk_cell BK214.out 3).trans rfl, (blk_cell BK214.out 4).trans rfl, (blk_cell BK214.out 5).trans rfl, HS7_, HS8_, ((HB.out.cell (World.block_lt_of_cell? w _ hw220_0)).trans hw220_0), ((HB.out.cell (World.block_lt_of_cell? w _ hw220_1)).trans hw220_1), ((HB.out.cell (World.block_lt_of_cell? w _ hw220_2)).trans hw220_2), ((HB.out.cell (World.block_lt_of_cell? w _ hw220_3)).trans hw220_3), ((HB.out.cell (World.block_lt_of_cell? w _ hw220_4)).trans hw220_4), ((HB.out.cell (World.block_lt_of_cell? w _ hw220_5)).trans hw220_5)⟩ (fun hHeld => ?_)
                                  clear hK K
                                  refine norm_ (a' := ?_) ?_ ?_
                                  rotate_left
                                  ·show Act.put _ (some 104) _ = _
                                   simp only [Act.put, sA_, sZ_, sS_, i64_w, i32_w]
                                   rfl
                                  refine pu_ 19 105 HT_ (bs 23 1048575) rfl rfl ?_
                                  refine pu_ 20 106 HT_ (bs 23 2097151) rfl rfl ?_
                                  refine pu_ 21 107 HT_ (bs 23 4194303) rfl rfl ?_
                                  refine last_ (i := 22) (N := none) (bs 23 8388607) rfl rfl (one_of HT_.out (by kernel_rfl)) (by decide) (fun K hK => ?_)
                                  refine skip_ (w1 := ?_) (by rfl) rfl ?_ ?_
                                  rotate_left
                                  ·go_simp
                                   rfl
                                  refine hK.out _ _ ?_
                                  clear hK K
                                  refine done_ (done_of HT_.out (by kernel_rfl)) ?_
                                  try go_wp2
                                  (first | go_roundg k5 | (refine Handed.intro k5 ?measure ?_; rotate_left; go_step; (repeat apply Exists.intro); simp only [add_plain]; refine ⟨?rel, rfl⟩))
                                  case measure => have := HK1.out; have := HK2.out; have := HK3.out; have := HJ48.out; have := HK5.out; omega
                                  case rel => exact ⟨(y222), (wrap64 (x83_5 + 1)), (by first | rfl | (simp; done) | (simp [*]; done) | (simp [wrap64]; done)), H', ⟨by have := HK1.out; have := HK2.out; have := HK3.out; have := HJ48.out; have := HK5.out; omega⟩, ⟨by (try simp only [hl10_1]); (try simp only [hl10_2]); (try simp only [hl12_2]); (try simp only [hl10_3]); (try simp only [hl58_3]); (with_reducible repeat (first | apply Kd.R_alloc | apply Kd.R_drewN | apply Kd.R_drew)); exact Kd.R_mono (Kd.R_far (p := ⟨go85, ((rd t208 x60_3) : Int).toNat, none⟩) (rt_ HO_10.out GG85.out) (fun _ hk => hk.2) (.bool t221)) (fun _ hk => hk.1)⟩, ⟨by (try simp only [hl10_1]); (try simp only [hl10_2]); (try simp only [hl12_2]); (try simp only [hl10_3]); (try simp only [hl58_3]); (with_reducible repeat (first | apply Kd.R_alloc | apply Kd.R_drewN | apply Kd.R_drew)); exact HQ89.out⟩, ⟨by (try simp only [hl10_1]); (try simp only [hl10_2]); (try simp only [hl12_2]); (try simp only [hl10_3]); (try simp only [hl58_3]); (with_reducible repeat (first | apply Kd.R_alloc | apply Kd.R_drewN | apply Kd.R_drew)); exact Kd.R_mono (Kd.R_far (p := ⟨go85, ((rd t208 x60_3) : Int).toNat, none⟩) (rt_ HO_58.out GG85.out) (fun _ hk => hk.2) (.bool t221)) (fun _ hk => hk.1)⟩, ⟨by (try simp only [hl10_1]); (try simp only [hl10_2]); (try simp only [hl12_2]); (try simp only [hl10_3]); (try simp only [hl58_3]); refine rp_ ?_; refine blk_far ?_ (by have h_ := Kd.R_ne HO_14.out BK197.out (by decide); intro e_; exact h_ (by rw [e_]; rfl)) _; refine rp_ ?_; exact BK197.out⟩, ⟨by (try simp only [hl10_1]); (try simp only [hl10_2]); (try simp only [hl12_2]); (try simp only [hl10_3]); (try simp only [hl58_3]); refine rp_ ?_; refine blk_far ?_ (by have h_ := Kd.R_ne HO_14.out BK214.out (by decide); intro e_; exact h_ (by rw [e_]; rfl)) _; refine rp_ ?_; exact BK214.out⟩, ⟨by repeat (first | (with_reducible first | exact HB.out | apply below_alloc | apply pw_below_drewN | apply below_drew1 | refine below_set ?_ GB85.out | refine below_set ?_ GE197.out | refine below_set ?_ GE214.out) | exact HB.out)⟩⟩
                                 ·rw [if_neg c83] at H
                                  exact absurd H (by simp)
                                ·replace c82 := Bool.eq_false_iff.mpr c82
                                 subst c82
                                 have H1 : (impl_Earliest.l3 k5 a1 a2 a3 x10_3 (x14_5.set ((rd t208 x60_3) : Int).toNat false) (rd t208 x60_3) t208 (x12_2.length : Int) x60_3 (l0.length : Int) (wrap64 (x83_5 + 1)) l0 ((rd_T31 l0 (rd t208 x60_3)).f0) ((rd_T31 l0 (rd t208 x60_3)).f1) ((rd_T31 l0 (rd t208 x60_3)).f2) ((rd_T31 l0 (rd t208 x60_3)).f3) ((rd_T31 l0 (rd t208 x60_3)).f4) ((rd_T31 l0 (rd t208 x60_3)).f5)) = some (r1, r2) := by rw [if_neg (show ¬ (false = true) by decide)] at H; exact H
                                 clear H
                                 have H := H1
                                 clear H1
                                 obtain ⟨y223, hy223⟩ : ∃ y_ : List Bool, y_ = (x14_5.set ((rd t208 x60_3) : Int).toNat false) := ⟨_, rfl⟩
                                 replace H : (impl_Earliest.l3 k5 a1 a2 a3 x10_3 y223 (rd t208 x60_3) t208 (x12_2.length : Int) x60_3 (l0.length : Int) (wrap64 (x83_5 + 1)) l0 ((rd_T31 l0 (rd t208 x60_3)).f0) ((rd_T31 l0 (rd t208 x60_3)).f1) ((rd_T31 l0 (rd t208 x60_3)).f2) ((rd_T31 l0 (rd t208 x60_3)).f3) ((rd_T31 l0 (rd t208 x60_3)).f4) ((rd_T31 l0 (rd t208 x60_3)).f5)) = some (r1, r2) := by first | (rw [hy223]; with_reducible exact H) | (have H2_ := (Option.bind_some _ _).symm.trans H; rw [hy223]; with_reducible exact H2_) | (have H2_ := (Option.bind_some _ _).symm.trans H; with_reducible exact H2_) | with_reducible exact H | (rw [hy223]; exact H) | exact H
                                 have Ny223 := Aside0.mk hy223
                                 clear hy223
                                 have H' := Aside0.mk H
                                 clear H
                                 try go_wp2
                                 have n0_ := Aside0.mk (Kd.R_drew HO_10.out)
                                 have n1_ := Aside0.mk (Kd.R_drew HO_14.out)
                                 have n2_ := Aside0.mk (Kd.R_drew HO_58.out)
                                 have n3_ := Aside0.mk (blk_drew BK197.out)
                                 have n4_ := Aside0.mk (blk_drew BK214.out)
                                 have n5_ := Aside0.mk (below_drew1 HB.out)
                                 clear HO_10
                                 clear HO_14
                                 clear HO_58
                                 clear BK197
                                 clear BK214
                                 clear HB
                                 have HO_10 := n0_
                                 have HO_14 := n1_
                                 have HO_58 := n2_
                                 have BK197 := n3_
                                 have BK214 := n4_
                                 have HB := n5_
                                 clear n0_ n1_ n2_ n3_ n4_ n5_
                                 obtain ⟨Ao92, co92, eo92⟩ := Kd.R_slice HO_14.out
                                 (first | subst eo92 | (injection eo92 with f1_ f2_ f3_; have f4_ := f1_.symm; have f5_ := f3_.symm; clear f1_ f2_ f3_; subst f4_; subst f5_))
                                 have p217 : 0 ≤ ((rd t208 x60_3) : Int) := of_decide_eq_true (by first | (with_reducible assumption) | assumption)
                                 have q217 : (rd t208 x60_3) < (x14_5.length : Int) := of_decide_eq_true (by first | (with_reducible assumption) | assumption)
                                 obtain ⟨ad217, e217, hx217_0⟩ := Kd.at_bool (Kd.R_reads' HO_14.out).2.2 (rd t208 x60_3) p217 q217
                                 (try rw [← Nbq73.out] at hx217_0)
                                 (try rw [← Nbq81.out] at hx217_0)
                                 cases e217
                                 replace p217 := eq_true p217
                                 replace q217 := eq_true q217
                                 have p219 : 0 ≤ (x83_5 : Int) := of_decide_eq_true (by first | (with_reducible assumption) | assumption)
                                 have q219 : x83_5 < (x14_5.length : Int) := of_decide_eq_true (by first | (with_reducible assumption) | assumption)
                                 obtain ⟨ad219, e219, hx219_0⟩ := Kd.at_bool (Kd.R_reads' HO_14.out).2.2 x83_5 p219 q219
                                 (try rw [← Nbq73.out] at hx219_0)
                                 (try rw [← Nbq81.out] at hx219_0)
                                 obtain rfl : ad217 = ad219 := (by injection e219)
                                 replace p219 := eq_true p219
                                 replace q219 := eq_true q219
                                 have p90 : 0 ≤ ((rd t208 x60_3) : Int) := of_decide_eq_true (by first | (with_reducible assumption) | assumption)
                                 have q90 : ((rd t208 x60_3) : Int) < ((x14_5.length : Int) : Int) := of_decide_eq_true (by first | (with_reducible assumption) | assumption)
                                 obtain ⟨go90, co90, eo90, gb90, gl90, cl90, HG90⟩ := Kd.R_form HO_14.out (by omega)
                                 (first | cases eo90 | (injection eo90 with ea_ en_ ec_; (first | subst ea_ | (injection ea_ with ea_; subst ea_)); subst ec_; clear en_))
                                 have GB90 := Aside0.mk gb90
                                 have GG90 := Aside0.mk HG90
                                 clear gb90 gl90 HG90
                                 (first | simp only [add_plain] at hx217_0 | skip)
                                 (first | simp only [add_plain] at hx219_0 | skip)
                                 obtain ⟨hx90_0, hf90_0⟩ := Kd.R_celln false HO_14.out ((rd t208 x60_3) : Int) p90 q90
                                 replace p90 := eq_true p90
                                 replace q90 := eq_true q90
                                 have HP93 := Kd.R_putn HO_14.out ((rd t208 x60_3) : Int) false
                                 rw [← Ny223.out] at HP93
                                 have HQ93 := Aside0.mk HP93
                                 clear HP93
                                 refine start_ (n := 23) (S := fun w' => w'.cell? ⟨go90, ((rd t208 x60_3)).toNat, none⟩ = some (.bool false) ∧ w'.cell? ⟨go90, (x83_5).toNat, none⟩ = some (.bool false)) (ds := [22]) (bs 23 0) (by kernel_rfl) rfl rfl ⟨hx217_0, hx219_0⟩ (fun hHeld => ?_); refine with_tabW impl_Earliest.tab26 impl_Earliest.bits26 (fun HT_ HW_ => ?_)
                                 generalize wr.drew = w91 at HO_10 HO_14 HO_58 BK197 BK214 HB GG90 HQ93 hf90_0 hx217_0 hx219_0 hx90_0 hHeld ⊢
                                 refine pu_ 0 86 HT_ (bs 23 1) rfl rfl ?_
                                 refine pu_ 1 87 HT_ (bs 23 3) rfl rfl ?_
                                 refine pu_ 2 88 HT_ (bs 23 7) rfl rfl ?_
                                 refine pu_ 3 89 HT_ (bs 23 15) rfl rfl ?_
                                 refine pu_ 4 90 HT_ (bs 23 31) rfl rfl ?_
                                 refine take_ (i := 5) (N := some 91) (v := ?_) (a' := ?_) (bs 23 63) rfl rfl (take_ofW HT_.out HW_.out (by kernel_rfl)) (fun _ _ _ h => h) (Or.inl ⟨by rfl, ?_⟩) hHeld ?_ ?_
                                 rotate_left
                                 ·rintro w' ⟨s0, s1⟩
                                  go_simp
                                  with_reducible rfl
                                 rotate_left
                                 ·simp only [Act.put, sA_, sZ_, sS_, i64_w, i32_w]
                                  rfl
                                 refine pu_ 6 92 HT_ (bs 23 127) rfl rfl ?_
                                 refine pu_ 7 93 HT_ (bs 23 255) rfl rfl ?_
                                 refine pu_ 8 94 HT_ (bs 23 511) rfl rfl ?_
                                 refine pu_ 9 95 HT_ (bs 23 1023) rfl rfl ?_
                                 refine take_ (i := 10) (N := some 96) (v := ?_) (a' := ?_) (bs 23 2047) rfl rfl (take_ofW HT_.out HW_.out (by kernel_rfl)) (fun _ _ _ h => h) (Or.inl ⟨by rfl, ?_⟩) hHeld ?_ ?_
                                 rotate_left
                                 ·rintro w' ⟨s0, s1⟩
                                  go_simp
                                  with_reducible rfl
                                 rotate_left
                                 ·simp only [Act.put, sA_, sZ_, sS_, i64_w, i32_w]
                                  rfl
                                 refine pu_ 11 97 HT_ (bs 23 4095) rfl rfl ?_
                                 refine pn_ 12 98 HT_ (bs 23 8191) rfl rfl ?_
                                 refine pn_ 13 99 HT_ (bs 23 16383) rfl rfl ?_
                                 refine pn_ 14 100 HT_ (bs 23 32767) rfl rfl ?_
                                 refine pn_ 15 101 HT_ (bs 23 65535) rfl rfl ?_
                                 refine pn_ 16 102 HT_ (bs 23 131071) rfl rfl ?_
                                 refine pn_ 17 103 HT_ (bs 23 262143) rfl rfl ?_
                                 refine pn_ 18 104 HT_ (bs 23 524287) rfl rfl ?_
                                 refine pu_ 19 105 HT_ (bs 23 1048575) rfl rfl ?_
                                 refine pu_ 20 106 HT_ (bs 23 2097151) rfl rfl ?_
                                 refine pu_ 21 107 HT_ (bs 23 4194303) rfl rfl ?_
                                 refine last_ (i := 22) (N := none) (bs 23 8388607) rfl rfl (one_of HT_.out (by kernel_rfl)) (by decide) (fun K hK => ?_)
                                 refine skip_ (w1 := ?_) (by rfl) rfl ?_ ?_
                                 rotate_left
                                 ·go_simp
                                  rfl
                                 refine hK.out _ _ ?_
                                 clear hK K
                                 refine done_ (done_of HT_.out (by kernel_rfl)) ?_
                                 try go_wp2
                                 (first | go_roundg k5 | (refine Handed.intro k5 ?measure ?_; rotate_left; go_step; (repeat apply Exists.intro); simp only [add_plain]; refine ⟨?rel, rfl⟩))
                                 case measure => have := HK1.out; have := HK2.out; have := HK3.out; have := HJ48.out; have := HK5.out; omega
                                 case rel => exact ⟨(y223), (wrap64 (x83_5 + 1)), (by first | rfl | (simp; done) | (simp [*]; done) | (simp [wrap64]; done)), H', ⟨by have := HK1.out; have := HK2.out; have := HK3.out; have := HJ48.out; have := HK5.out; omega⟩, ⟨by (try simp only [hl10_1]); (try simp only [hl10_2]); (try simp only [hl12_2]); (try simp only [hl10_3]); (try simp only [hl58_3]); (with_reducible repeat (first | apply Kd.R_alloc | apply Kd.R_drewN | apply Kd.R_drew)); exact Kd.R_mono (Kd.R_far (p := ⟨go90, ((rd t208 x60_3) : Int).toNat, none⟩) (rt_ HO_10.out GG90.out) (fun _ hk => hk.2) (.bool false)) (fun _ hk => hk.1)⟩, ⟨by (try simp only [hl10_1]); (try simp only [hl10_2]); (try simp only [hl12_2]); (try simp only [hl10_3]); (try simp only [hl58_3]); (with_reducible repeat (first | apply Kd.R_alloc | apply Kd.R_drewN | apply Kd.R_drew)); exact HQ93.out⟩, ⟨by (try simp only [hl10_1]); (try simp only [hl10_2]); (try simp only [hl12_2]); (try simp only [hl10_3]); (try simp only [hl58_3]); (with_reducible repeat (first | apply Kd.R_alloc | apply Kd.R_drewN | apply Kd.R_drew)); exact Kd.R_mono (Kd.R_far (p := ⟨go90, ((rd t208 x60_3) : Int).toNat, none⟩) (rt_ HO_58.out GG90.out) (fun _ hk => hk.2) (.bool false)) (fun _ hk => hk.1)⟩, ⟨by (try simp only [hl10_1]); (try simp only [hl10_2]); (try simp only [hl12_2]); (try simp only [hl10_3]); (try simp only [hl58_3]); refine rp_ ?_; refine blk_far ?_ (by have h_ := Kd.R_ne HO_14.out BK197.out (by decide); intro e_; exact h_ (by rw [e_]; rfl)) _; refine rp_ ?_; exact BK197.out⟩, ⟨by (try simp only [hl10_1]); (try simp only [hl10_2]); (try simp only [hl12_2]); (try simp only [hl10_3]); (try simp only [hl58_3]); refine rp_ ?_; refine blk_far ?_ (by have h_ := Kd.R_ne HO_14.out BK214.out (by decide); intro e_; exact h_ (by rw [e_]; rfl)) _; refine rp_ ?_; exact BK214.out⟩, ⟨by repeat (first | (with_reducible first | exact HB.out | apply below_alloc | apply pw_below_drewN | apply below_drew1 | refine below_set ?_ GB90.out | refine below_set ?_ GE197.out | refine below_set ?_ GE214.out) | exact HB.out)⟩⟩
                               ·rw [if_neg c80] at H
                                exact absurd H (by simp)
                              ·rw [if_neg c79] at H
                               exact absurd H (by simp)
                            ·rw [if_neg c72] at H
                             exact absurd H (by simp)
                           ·rw [if_neg c71] at H
                            exact absurd H (by simp)
                          ·rw [if_neg c70] at H
                           have c70b0 : decide (x83_5 < (l0.length : Int)) = false := decide_eq_false c70
                           (try (have c70h := c70b0; simp only [hl10_1, hl10_2, hl12_2, hl10_3, hl58_3] at c70h))
                           clear c70
                           by_cases c94 : 0 ≤ (rd t208 x60_3)
                           ·rw [if_pos c94] at H
                            have c94b0 : decide (0 ≤ (rd t208 x60_3)) = true := decide_eq_true c94
                            clear c94
                            by_cases c95 : (rd t208 x60_3) < (x14_5.length : Int)
                            ·rw [if_pos c95] at H
                             have c95b0 : decide ((rd t208 x60_3) < (x14_5.length : Int)) = true := decide_eq_true c95
                             (try (have c95h := c95b0; simp only [hl10_1, hl10_2, hl12_2, hl10_3, hl58_3] at c95h))
                             clear c95
                             obtain ⟨bq96, hbq96⟩ : ∃ b_ : Bool, b_ = (rdOf false x14_5 (rd t208 x60_3)) := ⟨_, rfl⟩
                             replace H : (if bq96 = true then (if 0 ≤ ((rd_T31 l0 (rd t208 x60_3)).f2) then (if ((rd_T31 l0 (rd t208 x60_3)).f2) < (x10_3.length : Int) then (if (rd x10_3 ((rd_T31 l0 (rd t208 x60_3)).f2)) < 0 then (impl_Earliest.l2 k5 a1 a2 a3 (x10_3.set (((rd_T31 l0 (rd t208 x60_3)).f2) : Int).toNat ((rd_T31 l0 (rd t208 x60_3)).f4)) x14_5 t208 (x12_2.length : Int) (wrap64 (x60_3 + 1)) l0) else (if ((rd_T31 l0 (rd t208 x60_3)).f4) < (rd x10_3 ((rd_T31 l0 (rd t208 x60_3)).f2)) then (impl_Earliest.l2 k5 a1 a2 a3 (x10_3.set (((rd_T31 l0 (rd t208 x60_3)).f2) : Int).toNat ((rd_T31 l0 (rd t208 x60_3)).f4)) x14_5 t208 (x12_2.length : Int) (wrap64 (x60_3 + 1)) l0) else (impl_Earliest.l2 k5 a1 a2 a3 x10_3 x14_5 t208 (x12_2.length : Int) (wrap64 (x60_3 + 1)) l0))) else (none)) else (none)) else (impl_Earliest.l2 k5 a1 a2 a3 x10_3 x14_5 t208 (x12_2.length : Int) (wrap64 (x60_3 + 1)) l0)) = some (r1, r2) := by rw [← hbq96] at H; exact H
                             have Nbq96 := Aside0.mk hbq96
                             clear hbq96
                             by_cases c97 : bq96 = true
                             ·subst c97
                              have H1 : (if 0 ≤ ((rd_T31 l0 (rd t208 x60_3)).f2) then (if ((rd_T31 l0 (rd t208 x60_3)).f2) < (x10_3.length : Int) then (if (rd x10_3 ((rd_T31 l0 (rd t208 x60_3)).f2)) < 0 then (impl_Earliest.l2 k5 a1 a2 a3 (x10_3.set (((rd_T31 l0 (rd t208 x60_3)).f2) : Int).toNat ((rd_T31 l0 (rd t208 x60_3)).f4)) x14_5 t208 (x12_2.length : Int) (wrap64 (x60_3 + 1)) l0) else (if ((rd_T31 l0 (rd t208 x60_3)).f4) < (rd x10_3 ((rd_T31 l0 (rd t208 x60_3)).f2)) then (impl_Earliest.l2 k5 a1 a2 a3 (x10_3.set (((rd_T31 l0 (rd t208 x60_3)).f2) : Int).toNat ((rd_T31 l0 (rd t208 x60_3)).f4)) x14_5 t208 (x12_2.length : Int) (wrap64 (x60_3 + 1)) l0) else (impl_Earliest.l2 k5 a1 a2 a3 x10_3 x14_5 t208 (x12_2.length : Int) (wrap64 (x60_3 + 1)) l0))) else (none)) else (none)) = some (r1, r2) := by rw [if_pos rfl] at H; exact H
                              clear H
                              have H := H1
                              clear H1
                              by_cases c98 : 0 ≤ ((rd_T31 l0 (rd t208 x60_3)).f2)
                              ·rw [if_pos c98] at H
                               have c98b0 : decide (0 ≤ ((rd_T31 l0 (rd t208 x60_3)).f2)) = true := decide_eq_true c98
                               clear c98
                               by_cases c99 : ((rd_T31 l0 (rd t208 x60_3)).f2) < (x10_3.length : Int)
                               ·rw [if_pos c99] at H
                                have c99b0 : decide (((rd_T31 l0 (rd t208 x60_3)).f2) < (x10_3.length : Int)) = true := decide_eq_true c99
                                (try (have c99h := c99b0; simp only [hl10_1, hl10_2, hl12_2, hl10_3, hl58_3] at c99h))
                                clear c99
                                by_cases c100 : (rd x10_3 ((rd_T31 l0 (rd t208 x60_3)).f2)) < 0
                                ·rw [if_pos c100] at H
                                 have c100b0 : decide ((rd x10_3 ((rd_T31 l0 (rd t208 x60_3)).f2)) < 0) = true := decide_eq_true c100
                                 clear c100
                                 obtain ⟨y226, hy226⟩ : ∃ y_ : List Int, y_ = (x10_3.set (((rd_T31 l0 (rd t208 x60_3)).f2) : Int).toNat ((rd_T31 l0 (rd t208 x60_3)).f4)) := ⟨_, rfl⟩
                                 replace H : (impl_Earliest.l2 k5 a1 a2 a3 y226 x14_5 t208 (x12_2.length : Int) (wrap64 (x60_3 + 1)) l0) = some (r1, r2) := by first | (rw [hy226]; with_reducible exact H) | (have H2_ := (Option.bind_some _ _).symm.trans H; rw [hy226]; with_reducible exact H2_) | (have H2_ := (Option.bind_some _ _).symm.trans H; with_reducible exact H2_) | with_reducible exact H | (rw [hy226]; exact H) | exact H
                                 have Ny226 := Aside0.mk hy226
                                 clear hy226
                                 have H' := Aside0.mk H
                                 clear H
                                 try go_wp2
                                 have n0_ := Aside0.mk (Kd.R_drew HO_10.out)
                                 have n1_ := Aside0.mk (Kd.R_drew HO_14.out)
                                 have n2_ := Aside0.mk (Kd.R_drew HO_58.out)
                                 have n3_ := Aside0.mk (blk_drew BK197.out)
                                 have n4_ := Aside0.mk (blk_drew BK214.out)
                                 have n5_ := Aside0.mk (below_drew1 HB.out)
                                 clear HO_10
                                 clear HO_14
                                 clear HO_58
                                 clear BK197
                                 clear BK214
                                 clear HB
                                 have HO_10 := n0_
                                 have HO_14 := n1_
                                 have HO_58 := n2_
                                 have BK197 := n3_
                                 have BK214 := n4_
                                 have HB := n5_
                                 clear n0_ n1_ n2_ n3_ n4_ n5_
                                 obtain ⟨Ao103, co103, eo103⟩ := Kd.R_slice HO_14.out
                                 (first | subst eo103 | (injection eo103 with f1_ f2_ f3_; have f4_ := f1_.symm; have f5_ := f3_.symm; clear f1_ f2_ f3_; subst f4_; subst f5_))
                                 have p224 : 0 ≤ ((rd t208 x60_3) : Int) := of_decide_eq_true (by first | (with_reducible assumption) | assumption)
                                 have q224 : (rd t208 x60_3) < (x14_5.length : Int) := of_decide_eq_true (by first | (with_reducible assumption) | assumption)
                                 obtain ⟨ad224, e224, hx224_0⟩ := Kd.at_bool (Kd.R_reads' HO_14.out).2.2 (rd t208 x60_3) p224 q224
                                 (try rw [← Nbq96.out] at hx224_0)
                                 cases e224
                                 replace p224 := eq_true p224
                                 replace q224 := eq_true q224
                                 have p225 : 0 ≤ (((rd_T31 l0 (rd t208 x60_3)).f2) : Int) := of_decide_eq_true (by first | (with_reducible assumption) | assumption)
                                 have q225 : ((rd_T31 l0 (rd t208 x60_3)).f2) < (x10_3.length : Int) := of_decide_eq_true (by first | (with_reducible assumption) | assumption)
                                 obtain ⟨ad225, e225, hx225_0⟩ := Kd.at_int (Kd.R_reads' HO_10.out).2.2 ((rd_T31 l0 (rd t208 x60_3)).f2) p225 q225
                                 obtain rfl : (⟨go22, 0, none⟩ : Addr) = ad225 := (by injection e225)
                                 (first | simp only [add_plain] at hx225_0 | simp only [add_at] at hx225_0 | simp only [Addr.add, Nat.zero_add] at hx225_0 | skip)
                                 replace p225 := eq_true p225
                                 replace q225 := eq_true q225
                                 refine start_ (n := 22) (S := fun w' => w'.cell? ⟨gb214, 0, none⟩ = some (.int .i64 ((rd_T31 l0 (rd t208 x60_3)).f0)) ∧ w'.cell? ⟨gb214, 1, none⟩ = some (.int .i64 ((rd_T31 l0 (rd t208 x60_3)).f1)) ∧ w'.cell? ⟨gb214, 2, none⟩ = some (.int .i64 ((rd_T31 l0 (rd t208 x60_3)).f2)) ∧ w'.cell? ⟨gb214, 3, none⟩ = some (.int .i64 ((rd_T31 l0 (rd t208 x60_3)).f3)) ∧ w'.cell? ⟨gb214, 4, none⟩ = some (.int .i64 ((rd_T31 l0 (rd t208 x60_3)).f4)) ∧ w'.cell? ⟨gb214, 5, none⟩ = some (.int .i64 ((rd_T31 l0 (rd t208 x60_3)).f5)) ∧ w'.cell? (ad224.add ((rd t208 x60_3)).toNat) = some (.bool true) ∧ w'.cell? ⟨go22, (((rd_T31 l0 (rd t208 x60_3)).f2)).toNat, none⟩ = some (.int .i64 (rd x10_3 ((rd_T31 l0 (rd t208 x60_3)).f2)))) (ds := []) (bs 22 0) (by kernel_rfl) rfl rfl ⟨(blk_cell BK214.out 0).trans rfl, (blk_cell BK214.out 1).trans rfl, (blk_cell BK214.out 2).trans rfl, (blk_cell BK214.out 3).trans rfl, (blk_cell BK214.out 4).trans rfl, (blk_cell BK214.out 5).trans rfl, hx224_0, hx225_0⟩ (fun hHeld => ?_); refine with_tabW impl_Earliest.tab28 impl_Earliest.bits28 (fun HT_ HW_ => ?_)
                                 generalize wr.drew = w102 at HO_10 HO_14 HO_58 BK197 BK214 HB hx224_0 hx225_0 hHeld ⊢
                                 refine pu_ 0 109 HT_ (bs 22 1) rfl rfl ?_
                                 refine pu_ 1 110 HT_ (bs 22 3) rfl rfl ?_
                                 refine pu_ 2 111 HT_ (bs 22 7) rfl rfl ?_
                                 refine take_ (i := 3) (N := some 112) (v := ?_) (a' := ?_) (bs 22 15) rfl rfl (take_ofW HT_.out HW_.out (by kernel_rfl)) (fun _ _ _ h => h) (Or.inl ⟨by rfl, ?_⟩) hHeld ?_ ?_
                                 rotate_left
                                 ·rintro w' ⟨s0, s1, s2, s3, s4, s5, s6, s7⟩
                                  go_simp
                                  with_reducible rfl
                                 rotate_left
                                 ·simp only [Act.put, sA_, sZ_, sS_, i64_w, i32_w]
                                  rfl
                                 refine pu_ 4 113 HT_ (bs 22 31) rfl rfl ?_
                                 refine pu_ 5 114 HT_ (bs 22 63) rfl rfl ?_
                                 refine pu_ 6 115 HT_ (bs 22 127) rfl rfl ?_
                                 refine take_ (i := 7) (N := some 116) (v := ?_) (a' := ?_) (bs 22 255) rfl rfl (take_ofW HT_.out HW_.out (by kernel_rfl)) (fun _ _ _ h => h) (Or.inl ⟨by rfl, ?_⟩) hHeld ?_ ?_
                                 rotate_left
                                 ·rintro w' ⟨s0, s1, s2, s3, s4, s5, s6, s7⟩
                                  go_simp
                                  with_reducible rfl
                                 rotate_left
                                 ·simp only [Act.put, sA_, sZ_, sS_, i64_w, i32_w]
                                  rfl
                                 refine pu_ 8 117 HT_ (bs 22 511) rfl rfl ?_
                                 refine take_ (i := 9) (N := some 118) (v := ?_) (a' := ?_) (bs 22 1023) rfl rfl (take_ofW HT_.out HW_.out (by kernel_rfl)) (fun _ _ _ h => h) (Or.inl ⟨by rfl, ?_⟩) hHeld ?_ ?_
                                 rotate_left
                                 ·rintro w' ⟨s0, s1, s2, s3, s4, s5, s6, s7⟩
                                  go_simp
                                  with_reducible rfl
                                 rotate_left
                                 ·simp only [Act.put, sA_, sZ_, sS_, i64_w, i32_w]
                                  rfl
                                 refine pu_ 10 119 HT_ (bs 22 2047) rfl rfl ?_
                                 refine pu_ 11 120 HT_ (bs 22 4095) rfl rfl ?_
                                 refine pn_ 12 121 HT_ (bs 22 8191) rfl rfl ?_
                                 refine pn_ 13 122 HT_ (bs 22 16383) rfl rfl ?_
                                 refine pn_ 14 123 HT_ (bs 22 32767) rfl rfl ?_
                                 refine pn_ 15 124 HT_ (bs 22 65535) rfl rfl ?_
                                 refine pn_ 16 125 HT_ (bs 22 131071) rfl rfl ?_
                                 refine pn_ 17 126 HT_ (bs 22 262143) rfl rfl ?_
                                 refine pn_ 18 127 HT_ (bs 22 524287) rfl rfl ?_
                                 refine pn_ 19 128 HT_ (bs 22 1048575) rfl rfl ?_
                                 refine pu_ 20 129 HT_ (bs 22 2097151) rfl rfl ?_
                                 refine pu_ 21 130 HT_ (bs 22 4194303) rfl rfl ?_
                                 refine done_ (done_of HT_.out (by kernel_rfl)) ?_
                                 have hnb104 := NB214_197.out
                                 have hnc104 := NB197_214.out
                                 have hcz105_0 : w102.cell? ⟨gb214, 0, none⟩ = some (.int .i64 ((rd_T31 l0 (rd t208 x60_3)).f0)) := (blk_cell BK214.out 0).trans rfl
                                 have hcz105_1 : w102.cell? ⟨gb214, 1, none⟩ = some (.int .i64 ((rd_T31 l0 (rd t208 x60_3)).f1)) := (blk_cell BK214.out 1).trans rfl
                                 have hcz105_2 : w102.cell? ⟨gb214, 2, none⟩ = some (.int .i64 ((rd_T31 l0 (rd t208 x60_3)).f2)) := (blk_cell BK214.out 2).trans rfl
                                 have hcz105_3 : w102.cell? ⟨gb214, 3, none⟩ = some (.int .i64 ((rd_T31 l0 (rd t208 x60_3)).f3)) := (blk_cell BK214.out 3).trans rfl
                                 have hcz105_4 : w102.cell? ⟨gb214, 4, none⟩ = some (.int .i64 ((rd_T31 l0 (rd t208 x60_3)).f4)) := (blk_cell BK214.out 4).trans rfl
                                 have hcz105_5 : w102.cell? ⟨gb214, 5, none⟩ = some (.int .i64 ((rd_T31 l0 (rd t208 x60_3)).f5)) := (blk_cell BK214.out 5).trans rfl
                                 have hfz105_0 := blk_frozen BK214.out 0
                                 have hfz105_1 := blk_frozen BK214.out 1
                                 have hfz105_2 := blk_frozen BK214.out 2
                                 have hfz105_3 := blk_frozen BK214.out 3
                                 have hfz105_4 := blk_frozen BK214.out 4
                                 have hfz105_5 := blk_frozen BK214.out 5
                                 have p101 : 0 ≤ (((rd_T31 l0 (rd t208 x60_3)).f2) : Int) := of_decide_eq_true (by first | (with_reducible assumption) | assumption)
                                 have q101 : (((rd_T31 l0 (rd t208 x60_3)).f2) : Int) < ((x10_3.length : Int) : Int) := of_decide_eq_true (by first | (with_reducible assumption) | assumption)
                                 obtain ⟨hx101_0, hf101_0⟩ := Kd.R_celln 0 HO_10.out (((rd_T31 l0 (rd t208 x60_3)).f2) : Int) p101 q101
                                 replace p101 := eq_true p101
                                 replace q101 := eq_true q101
                                 obtain ⟨hy106_, hz106_⟩ := Kd.R_celln 0 HO_10.out (((rd_T31 l0 (rd t208 x60_3)).f2) : Int) (of_decide_eq_true (by first | (with_reducible assumption) | assumption)) (of_decide_eq_true (by first | (with_reducible assumption) | assumption))
                                 have HP106 := Kd.R_putg HO_10.out (((rd_T31 l0 (rd t208 x60_3)).f2) : Int) ((rd_T31 l0 (rd t208 x60_3)).f4)
                                 try go_wp2_with (first | ((with_reducible refine gate_store (t := 3) (p := 136) rfl ?_); refine store_event (t := 3) (p := 136) (v := ?vo_w107) (w1 := (w102.setCell ⟨go22, (((rd_T31 l0 (rd t208 x60_3)).f2) : Int).toNat, none⟩ (.int .i64 ((rd_T31 l0 (rd t208 x60_3)).f4)))) ?hg ?ho ?hn ?hr ?_; (case ho => rfl); (case hg => rfl); (case hn => rfl); (case hr => first | (go_simp; done) | (go_simp; rfl)); intro w107 hw; have hg : w102.grownBy w107 (some go22) := (by rw [hw]; exact HP106.2); have hp_ : Kd.R (Kd.int .i64) 3 w107 w.heap.size (fun k_ => some k_ ≠ (.slice (some ad212) t208.length co30 : Value).ownBlock) (.slice (some ⟨go22, 0, none⟩) x10_3.length co13) y226 := (by rw [hw, Ny226.out]; exact HP106.1); clear HP106; have n0_ := Aside0.mk (hp_); have n1_ := Aside0.mk (Kd.R_over' (v := (.slice (some ⟨go22, 0, none⟩) x10_3.length co13)) (fr_ HO_14.out) (Kd.R_typed HO_10.out) (by decide) hg); have n2_ := Aside0.mk (Kd.R_after (v := (.slice (some ⟨go22, 0, none⟩) x10_3.length co13)) (v1 := (.slice (some ⟨go22, 0, none⟩) x10_3.length co13)) (ok := (fun _ => True)) (by (with_reducible repeat (first | apply Kd.R_alloc | apply Kd.R_drewN | apply Kd.R_drew)); exact Kd.R_mono HO_58.out (fun _ hk => ⟨trivial, hk⟩)) hg (.inl rfl)); have n3_ := Aside0.mk (blk_grown (g := gb197) (o := .cells #[.slice (some ad213) l0.length c0] 24 (0, 0)) (fb_ BK197.out) hg (Kd.R_ne HO_10.out BK197.out (by decide))); have n4_ := Aside0.mk (blk_grown (g := gb214) (o := .cells #[.int .i64 ((rd_T31 l0 (rd t208 x60_3)).f0), .int .i64 ((rd_T31 l0 (rd t208 x60_3)).f1), .int .i64 ((rd_T31 l0 (rd t208 x60_3)).f2), .int .i64 ((rd_T31 l0 (rd t208 x60_3)).f3), .int .i64 ((rd_T31 l0 (rd t208 x60_3)).f4), .int .i64 ((rd_T31 l0 (rd t208 x60_3)).f5)] 31 (0, 0)) (fb_ BK214.out) hg (Kd.R_ne HO_10.out BK214.out (by decide))); have n5_ := Aside0.mk ((by rw [hw]; exact below_set (HB.out) GB22.out : Below w.heap.size w w107)); clear HO_10; clear HO_14; clear HO_58; clear BK197; clear BK214; clear HB; have HO_10 := n0_; have HO_14 := n1_; have HO_58 := n2_; have BK197 := n3_; have BK214 := n4_; have HB := n5_; clear n0_ n1_ n2_ n3_ n4_ n5_; clear hg hw hp_))
                                 (try simp only [← hl10_3, ← hl58_3])
                                 go_roundg k5
                                 case measure => have := HK1.out; have := HK2.out; have := HK3.out; have := HJ48.out; have := HK5.out; omega
                                 case rel => exact ⟨(y226), (x14_5), (wrap64 (x60_3 + 1)), (by first | rfl | (simp; done) | (simp [*]; done) | (simp [wrap64]; done)), H', ⟨by have := HK1.out; have := HK2.out; have := HK3.out; have := HJ48.out; have := HK5.out; omega⟩, ⟨by (try simp only [hl10_1]); (try simp only [hl10_2]); (try simp only [hl12_2]); (try simp only [hl10_3]); (try simp only [hl58_3]); (with_reducible repeat (first | apply Kd.R_alloc | apply Kd.R_drewN | apply Kd.R_drew)); exact HO_10.out⟩, ⟨by (try simp only [hl10_1]); (try simp only [hl10_2]); (try simp only [hl12_2]); (try simp only [hl10_3]); (try simp only [hl58_3]); (with_reducible repeat (first | apply Kd.R_alloc | apply Kd.R_drewN | apply Kd.R_drew)); exact HO_14.out⟩, ⟨by (try simp only [hl10_1]); (try simp only [hl10_2]); (try simp only [hl12_2]); (try simp only [hl10_3]); (try simp only [hl58_3]); (with_reducible repeat (first | apply Kd.R_alloc | apply Kd.R_drewN | apply Kd.R_drew)); exact Kd.R_mono HO_58.out (fun _ hk => hk.2)⟩, ⟨by (try simp only [hl10_1]); (try simp only [hl10_2]); (try simp only [hl12_2]); (try simp only [hl10_3]); (try simp only [hl58_3]); refine rp_ ?_; exact BK197.out⟩, ⟨bel_ HB.out⟩⟩
                                ·rw [if_neg c100] at H
                                 have c100b0 : decide ((rd x10_3 ((rd_T31 l0 (rd t208 x60_3)).f2)) < 0) = false := decide_eq_false c100
                                 clear c100
                                 by_cases c108 : ((rd_T31 l0 (rd t208 x60_3)).f4) < (rd x10_3 ((rd_T31 l0 (rd t208 x60_3)).f2))
                                 ·rw [if_pos c108] at H
                                  have c108b0 : decide (((rd_T31 l0 (rd t208 x60_3)).f4) < (rd x10_3 ((rd_T31 l0 (rd t208 x60_3)).f2))) = true := decide_eq_true c108
                                  clear c108
                                  obtain ⟨y228, hy228⟩ : ∃ y_ : List Int, y_ = (x10_3.set (((rd_T31 l0 (rd t208 x60_3)).f2) : Int).toNat ((rd_T31 l0 (rd t208 x60_3)).f4)) := ⟨_, rfl⟩
                                  replace H : (impl_Earliest.l2 k5 a1 a2 a3 y228 x14_5 t208 (x12_2.length : Int) (wrap64 (x60_3 + 1)) l0) = some (r1, r2) := by first | (rw [hy228]; with_reducible exact H) | (have H2_ := (Option.bind_some _ _).symm.trans H; rw [hy228]; with_reducible exact H2_) | (have H2_ := (Option.bind_some _ _).symm.trans H; with_reducible exact H2_) | with_reducible exact H | (rw [hy228]; exact H) | exact H
                                  have Ny228 := Aside0.mk hy228
                                  clear hy228
                                  have H' := Aside0.mk H
                                  clear H
                                  try go_wp2
                                  have n0_ := Aside0.mk (Kd.R_drew HO_10.out)
                                  have n1_ := Aside0.mk (Kd.R_drew HO_14.out)
                                  have n2_ := Aside0.mk (Kd.R_drew HO_58.out)
                                  have n3_ := Aside0.mk (blk_drew BK197.out)
                                  have n4_ := Aside0.mk (blk_drew BK214.out)
                                  have n5_ := Aside0.mk (below_drew1 HB.out)
                                  clear HO_10
                                  clear HO_14
                                  clear HO_58
                                  clear BK197
                                  clear BK214
                                  clear HB
                                  have HO_10 := n0_
                                  have HO_14 := n1_
                                  have HO_58 := n2_
                                  have BK197 := n3_
                                  have BK214 := n4_
                                  have HB := n5_
                                  clear n0_ n1_ n2_ n3_ n4_ n5_
                                  obtain ⟨Ao111, co111, eo111⟩ := Kd.R_slice HO_14.out
                                  (first | subst eo111 | (injection eo111 with f1_ f2_ f3_; have f4_ := f1_.symm; have f5_ := f3_.symm; clear f1_ f2_ f3_; subst f4_; subst f5_))
                                  have p224 : 0 ≤ ((rd t208 x60_3) : Int) := of_decide_eq_true (by first | (with_reducible assumption) | assumption)
                                  have q224 : (rd t208 x60_3) < (x14_5.length : Int) := of_decide_eq_true (by first | (with_reducible assumption) | assumption)
                                  obtain ⟨ad224, e224, hx224_0⟩ := Kd.at_bool (Kd.R_reads' HO_14.out).2.2 (rd t208 x60_3) p224 q224
                                  (try rw [← Nbq96.out] at hx224_0)
                                  cases e224
                                  replace p224 := eq_true p224
                                  replace q224 := eq_true q224
                                  have p225 : 0 ≤ (((rd_T31 l0 (rd t208 x60_3)).f2) : Int) := of_decide_eq_true (by first | (with_reducible assumption) | assumption)
                                  have q225 : ((rd_T31 l0 (rd t208 x60_3)).f2) < (x10_3.length : Int) := of_decide_eq_true (by first | (with_reducible assumption) | assumption)
                                  obtain ⟨ad225, e225, hx225_0⟩ := Kd.at_int (Kd.R_reads' HO_10.out).2.2 ((rd_T31 l0 (rd t208 x60_3)).f2) p225 q225
                                  obtain rfl : (⟨go22, 0, none⟩ : Addr) = ad225 := (by injection e225)
                                  (first | simp only [add_plain] at hx225_0 | simp only [add_at] at hx225_0 | simp only [Addr.add, Nat.zero_add] at hx225_0 | skip)
                                  replace p225 := eq_true p225
                                  replace q225 := eq_true q225
                                  have p227 : 0 ≤ (((rd_T31 l0 (rd t208 x60_3)).f2) : Int) := of_decide_eq_true (by first | (with_reducible assumption) | assumption)
                                  have q227 : ((rd_T31 l0 (rd t208 x60_3)).f2) < (x10_3.length : Int) := of_decide_eq_true (by first | (with_reducible assumption) | assumption)
                                  obtain ⟨ad227, e227, hx227_0⟩ := Kd.at_int (Kd.R_reads' HO_10.out).2.2 ((rd_T31 l0 (rd t208 x60_3)).f2) p227 q227
                                  obtain rfl : (⟨go22, 0, none⟩ : Addr) = ad227 := (by injection e227)
                                  (first | simp only [add_plain] at hx227_0 | simp only [add_at] at hx227_0 | simp only [Addr.add, Nat.zero_add] at hx227_0 | skip)
                                  replace p227 := eq_true p227
                                  replace q227 := eq_true q227
                                  refine start_ (n := 22) (S := fun w' => w'.cell? ⟨gb214, 0, none⟩ = some (.int .i64 ((rd_T31 l0 (rd t208 x60_3)).f0)) ∧ w'.cell? ⟨gb214, 1, none⟩ = some (.int .i64 ((rd_T31 l0 (rd t208 x60_3)).f1)) ∧ w'.cell? ⟨gb214, 2, none⟩ = some (.int .i64 ((rd_T31 l0 (rd t208 x60_3)).f2)) ∧ w'.cell? ⟨gb214, 3, none⟩ = some (.int .i64 ((rd_T31 l0 (rd t208 x60_3)).f3)) ∧ w'.cell? ⟨gb214, 4, none⟩ = some (.int .i64 ((rd_T31 l0 (rd t208 x60_3)).f4)) ∧ w'.cell? ⟨gb214, 5, none⟩ = some (.int .i64 ((rd_T31 l0 (rd t208 x60_3)).f5)) ∧ w'.cell? (ad224.add ((rd t208 x60_3)).toNat) = some (.bool true) ∧ w'.cell? ⟨go22, (((rd_T31 l0 (rd t208 x60_3)).f2)).toNat, none⟩ = some (.int .i64 (rd x10_3 ((rd_T31 l0 (rd t208 x60_3)).f2))) ∧ w'.cell? ⟨go22, (((rd_T31 l0 (rd t208 x60_3)).f2)).toNat, none⟩ = some (.int .i64 (rd x10_3 ((rd_T31 l0 (rd t208 x60_3)).f2)))) (ds := []) (bs 22 0) (by kernel_rfl) rfl rfl ⟨(blk_cell BK214.out 0).trans rfl, (blk_cell BK214.out 1).trans rfl, (blk_cell BK214.out 2).trans rfl, (blk_cell BK214.out 3).trans rfl, (blk_cell BK214.out 4).trans rfl, (blk_cell BK214.out 5).trans rfl, hx224_0, hx225_0, hx227_0⟩ (fun hHeld => ?_); refine with_tabW impl_Earliest.tab28 impl_Earliest.bits28 (fun HT_ HW_ => ?_)
                                  generalize wr.drew = w110 at HO_10 HO_14 HO_58 BK197 BK214 HB hx224_0 hx225_0 hx227_0 hHeld ⊢
                                  refine pu_ 0 109 HT_ (bs 22 1) rfl rfl ?_
                                  refine pu_ 1 110 HT_ (bs 22 3) rfl rfl ?_
                                  refine pu_ 2 111 HT_ (bs 22 7) rfl rfl ?_
                                  refine take_ (i := 3) (N := some 112) (v := ?_) (a' := ?_) (bs 22 15) rfl rfl (take_ofW HT_.out HW_.out (by kernel_rfl)) (fun _ _ _ h => h) (Or.inl ⟨by rfl, ?_⟩) hHeld ?_ ?_
                                  rotate_left
                                  ·rintro w' ⟨s0, s1, s2, s3, s4, s5, s6, s7, s8⟩
                                   go_simp
                                   with_reducible rfl
                                  rotate_left
                                  ·simp only [Act.put, sA_, sZ_, sS_, i64_w, i32_w]
                                   rfl
                                  refine pu_ 4 113 HT_ (bs 22 31) rfl rfl ?_
                                  refine pu_ 5 114 HT_ (bs 22 63) rfl rfl ?_
                                  refine pu_ 6 115 HT_ (bs 22 127) rfl rfl ?_
                                  refine take_ (i := 7) (N := some 116) (v := ?_) (a' := ?_) (bs 22 255) rfl rfl (take_ofW HT_.out HW_.out (by kernel_rfl)) (fun _ _ _ h => h) (Or.inl ⟨by rfl, ?_⟩) hHeld ?_ ?_
                                  rotate_left
                                  ·rintro w' ⟨s0, s1, s2, s3, s4, s5, s6, s7, s8⟩
                                   go_simp
                                   with_reducible rfl
                                  rotate_left
                                  ·simp only [Act.put, sA_, sZ_, sS_, i64_w, i32_w]
                                   rfl
                                  refine pu_ 8 117 HT_ (bs 22 511) rfl rfl ?_
                                  refine take_ (i := 9) (N := some 118) (v := ?_) (a' := ?_) (bs 22 1023) rfl rfl (take_ofW HT_.out HW_.out (by kernel_rfl)) (fun _ _ _ h => h) (Or.inl ⟨by rfl, ?_⟩) hHeld ?_ ?_
                                  rotate_left
                                  ·rintro w' ⟨s0, s1, s2, s3, s4, s5, s6, s7, s8⟩
                                   go_simp
                                   with_reducible rfl
                                  rotate_left
                                  ·simp only [Act.put, sA_, sZ_, sS_, i64_w, i32_w]
                                   rfl
                                  refine pu_ 10 119 HT_ (bs 22 2047) rfl rfl ?_
                                  refine pu_ 11 120 HT_ (bs 22 4095) rfl rfl ?_
                                  refine pu_ 12 121 HT_ (bs 22 8191) rfl rfl ?_
                                  refine pu_ 14 123 HT_ (bs 22 24575) rfl rfl ?_
                                  refine pu_ 15 124 HT_ (bs 22 57343) rfl rfl ?_
                                  refine take_ (i := 13) (N := some 122) (v := ?_) (a' := ?_) (bs 22 65535) rfl rfl (take_ofW HT_.out HW_.out (by kernel_rfl)) (fun _ _ _ h => h) (Or.inl ⟨by rfl, ?_⟩) hHeld ?_ ?_
                                  rotate_left
                                  ·rintro w' ⟨s0, s1, s2, s3, s4, s5, s6, s7, s8⟩
                                   go_simp
                                   with_reducible rfl
                                  rotate_left
                                  ·simp only [Act.put, sA_, sZ_, sS_, i64_w, i32_w]
                                   rfl
                                  refine take_ (i := 16) (N := some 125) (v := ?_) (a' := ?_) (bs 22 131071) rfl rfl (take_ofW HT_.out HW_.out (by kernel_rfl)) (fun _ _ _ h => h) (Or.inl ⟨by rfl, ?_⟩) hHeld ?_ ?_
                                  rotate_left
                                  ·rintro w' ⟨s0, s1, s2, s3, s4, s5, s6, s7, s8⟩
                                   go_simp
                                   with_reducible rfl
                                  rotate_left
                                  ·simp only [Act.put, sA_, sZ_, sS_, i64_w, i32_w]
                                   rfl
                                  refine pu_ 17 126 HT_ (bs 22 262143) rfl rfl ?_
                                  refine take_ (i := 18) (N := some 127) (v := ?_) (a' := ?_) (bs 22 524287) rfl rfl (take_ofW HT_.out HW_.out (by kernel_rfl)) (fun _ _ _ h => h) (Or.inl ⟨by rfl, ?_⟩) hHeld ?_ ?_
                                  rotate_left
                                  ·rintro w' ⟨s0, s1, s2, s3, s4, s5, s6, s7, s8⟩
                                   go_simp
                                   with_reducible rfl
                                  rotate_left
                                  ·simp only [Act.put, sA_, sZ_, sS_, i64_w, i32_w]
                                   rfl
                                  refine pu_ 19 128 HT_ (bs 22 1048575) rfl rfl ?_
                                  refine pu_ 20 129 HT_ (bs 22 2097151) rfl rfl ?_
                                  refine pu_ 21 130 HT_ (bs 22 4194303) rfl rfl ?_
                                  refine done_ (done_of HT_.out (by kernel_rfl)) ?_
                                  have hnb112 := NB214_197.out
                                  have hnc112 := NB197_214.out
                                  have hcz113_0 : w110.cell? ⟨gb214, 0, none⟩ = some (.int .i64 ((rd_T31 l0 (rd t208 x60_3)).f0)) := (blk_cell BK214.out 0).trans rfl
                                  have hcz113_1 : w110.cell? ⟨gb214, 1, none⟩ = some (.int .i64 ((rd_T31 l0 (rd t208 x60_3)).f1)) := (blk_cell BK214.out 1).trans rfl
                                  have hcz113_2 : w110.cell? ⟨gb214, 2, none⟩ = some (.int .i64 ((rd_T31 l0 (rd t208 x60_3)).f2)) := (blk_cell BK214.out 2).trans rfl
                                  have hcz113_3 : w110.cell? ⟨gb214, 3, none⟩ = some (.int .i64 ((rd_T31 l0 (rd t208 x60_3)).f3)) := (blk_cell BK214.out 3).trans rfl
                                  have hcz113_4 : w110.cell? ⟨gb214, 4, none⟩ = some (.int .i64 ((rd_T31 l0 (rd t208 x60_3)).f4)) := (blk_cell BK214.out 4).trans rfl
                                  have hcz113_5 : w110.cell? ⟨gb214, 5, none⟩ = some (.int .i64 ((rd_T31 l0 (rd t208 x60_3)).f5)) := (blk_cell BK214.out 5).trans rfl
                                  have hfz113_0 := blk_frozen BK214.out 0
                                  have hfz113_1 := blk_frozen BK214.out 1
                                  have hfz113_2 := blk_frozen BK214.out 2
                                  have hfz113_3 := blk_frozen BK214.out 3
                                  have hfz113_4 := blk_frozen BK214.out 4
                                  have hfz113_5 := blk_frozen BK214.out 5
                                  have p109 : 0 ≤ (((rd_T31 l0 (rd t208 x60_3)).f2) : Int) := of_decide_eq_true (by first | (with_reducible assumption) | assumption)
                                  have q109 : (((rd_T31 l0 (rd t208 x60_3)).f2) : Int) < ((x10_3.length : Int) : Int) := of_decide_eq_true (by first | (with_reducible assumption) | assumption)
                                  obtain ⟨hx109_0, hf109_0⟩ := Kd.R_celln 0 HO_10.out (((rd_T31 l0 (rd t208 x60_3)).f2) : Int) p109 q109
                                  replace p109 := eq_true p109
                                  replace q109 := eq_true q109
                                  obtain ⟨hy114_, hz114_⟩ := Kd.R_celln 0 HO_10.out (((rd_T31 l0 (rd t208 x60_3)).f2) : Int) (of_decide_eq_true (by first | (with_reducible assumption) | assumption)) (of_decide_eq_true (by first | (with_reducible assumption) | assumption))
                                  have HP114 := Kd.R_putg HO_10.out (((rd_T31 l0 (rd t208 x60_3)).f2) : Int) ((rd_T31 l0 (rd t208 x60_3)).f4)
                                  try go_wp2_with (first | ((with_reducible refine gate_store (t := 3) (p := 136) rfl ?_); refine store_event (t := 3) (p := 136) (v := ?vo_w115) (w1 := (w110.setCell ⟨go22, (((rd_T31 l0 (rd t208 x60_3)).f2) : Int).toNat, none⟩ (.int .i64 ((rd_T31 l0 (rd t208 x60_3)).f4)))) ?hg ?ho ?hn ?hr ?_; (case ho => rfl); (case hg => rfl); (case hn => rfl); (case hr => first | (go_simp; done) | (go_simp; rfl)); intro w115 hw; have hg : w110.grownBy w115 (some go22) := (by rw [hw]; exact HP114.2); have hp_ : Kd.R (Kd.int .i64) 3 w115 w.heap.size (fun k_ => some k_ ≠ (.slice (some ad212) t208.length co30 : Value).ownBlock) (.slice (some ⟨go22, 0, none⟩) x10_3.length co13) y228 := (by rw [hw, Ny228.out]; exact HP114.1); clear HP114; have n0_ := Aside0.mk (hp_); have n1_ := Aside0.mk (Kd.R_over' (v := (.slice (some ⟨go22, 0, none⟩) x10_3.length co13)) (fr_ HO_14.out) (Kd.R_typed HO_10.out) (by decide) hg); have n2_ := Aside0.mk (Kd.R_after (v := (.slice (some ⟨go22, 0, none⟩) x10_3.length co13)) (v1 := (.slice (some ⟨go22, 0, none⟩) x10_3.length co13)) (ok := (fun _ => True)) (by (with_reducible repeat (first | apply Kd.R_alloc | apply Kd.R_drewN | apply Kd.R_drew)); exact Kd.R_mono HO_58.out (fun _ hk => ⟨trivial, hk⟩)) hg (.inl rfl)); have n3_ := Aside0.mk (blk_grown (g := gb197) (o := .cells #[.slice (some ad213) l0.length c0] 24 (0, 0)) (fb_ BK197.out) hg (Kd.R_ne HO_10.out BK197.out (by decide))); have n4_ := Aside0.mk (blk_grown (g := gb214) (o := .cells #[.int .i64 ((rd_T31 l0 (rd t208 x60_3)).f0), .int .i64 ((rd_T31 l0 (rd t208 x60_3)).f1), .int .i64 ((rd_T31 l0 (rd t208 x60_3)).f2), .int .i64 ((rd_T31 l0 (rd t208 x60_3)).f3), .int .i64 ((rd_T31 l0 (rd t208 x60_3)).f4), .int .i64 ((rd_T31 l0 (rd t208 x60_3)).f5)] 31 (0, 0)) (fb_ BK214.out) hg (Kd.R_ne HO_10.out BK214.out (by decide))); have n5_ := Aside0.mk ((by rw [hw]; exact below_set (HB.out) GB22.out : Below w.heap.size w w115)); clear HO_10; clear HO_14; clear HO_58; clear BK197; clear BK214; clear HB; have HO_10 := n0_; have HO_14 := n1_; have HO_58 := n2_; have BK197 := n3_; have BK214 := n4_; have HB := n5_; clear n0_ n1_ n2_ n3_ n4_ n5_; clear hg hw hp_))
                                  (try simp only [← hl10_3, ← hl58_3])
                                  go_roundg k5
                                  case measure => have := HK1.out; have := HK2.out; have := HK3.out; have := HJ48.out; have := HK5.out; omega
                                  case rel => exact ⟨(y228), (x14_5), (wrap64 (x60_3 + 1)), (by first | rfl | (simp; done) | (simp [*]; done) | (simp [wrap64]; done)), H', ⟨by have := HK1.out; have := HK2.out; have := HK3.out; have := HJ48.out; have := HK5.out; omega⟩, ⟨by (try simp only [hl10_1]); (try simp only [hl10_2]); (try simp only [hl12_2]); (try simp only [hl10_3]); (try simp only [hl58_3]); (with_reducible repeat (first | apply Kd.R_alloc | apply Kd.R_drewN | apply Kd.R_drew)); exact HO_10.out⟩, ⟨by (try simp only [hl10_1]); (try simp only [hl10_2]); (try simp only [hl12_2]); (try simp only [hl10_3]); (try simp only [hl58_3]); (with_reducible repeat (first | apply Kd.R_alloc | apply Kd.R_drewN | apply Kd.R_drew)); exact HO_14.out⟩, ⟨by (try simp only [hl10_1]); (try simp only [hl10_2]); (try simp only [hl12_2]); (try simp only [hl10_3]); (try simp only [hl58_3]); (with_reducible repeat (first | apply Kd.R_alloc | apply Kd.R_drewN | apply Kd.R_drew)); exact Kd.R_mono HO_58.out (fun _ hk => hk.2)⟩, ⟨by (try simp only [hl10_1]); (try simp only [hl10_2]); (try simp only [hl12_2]); (try simp only [hl10_3]); (try simp only [hl58_3]); refine rp_ ?_; exact BK197.out⟩, ⟨bel_ HB.out⟩⟩
                                 ·rw [if_neg c108] at H
                                  have c108b0 : decide (((rd_T31 l0 (rd t208 x60_3)).f4) < (rd x10_3 ((rd_T31 l0 (rd t208 x60_3)).f2))) = false := decide_eq_false c108
                                  clear c108
                                  have H' := Aside0.mk H
                                  clear H
                                  try go_wp2
                                  have n0_ := Aside0.mk (Kd.R_drew HO_10.out)
                                  have n1_ := Aside0.mk (Kd.R_drew HO_14.out)
                                  have n2_ := Aside0.mk (Kd.R_drew HO_58.out)
                                  have n3_ := Aside0.mk (blk_drew BK197.out)
                                  have n4_ := Aside0.mk (blk_drew BK214.out)
                                  have n5_ := Aside0.mk (below_drew1 HB.out)
                                  clear HO_10
                                  clear HO_14
                                  clear HO_58
                                  clear BK197
                                  clear BK214
                                  clear HB
                                  have HO_10 := n0_
                                  have HO_14 := n1_
                                  have HO_58 := n2_
                                  have BK197 := n3_
                                  have BK214 := n4_
                                  have HB := n5_
                                  clear n0_ n1_ n2_ n3_ n4_ n5_
                                  obtain ⟨Ao117, co117, eo117⟩ := Kd.R_slice HO_14.out
                                  (first | subst eo117 | (injection eo117 with f1_ f2_ f3_; have f4_ := f1_.symm; have f5_ := f3_.symm; clear f1_ f2_ f3_; subst f4_; subst f5_))
                                  have p224 : 0 ≤ ((rd t208 x60_3) : Int) := of_decide_eq_true (by first | (with_reducible assumption) | assumption)
                                  have q224 : (rd t208 x60_3) < (x14_5.length : Int) := of_decide_eq_true (by first | (with_reducible assumption) | assumption)
                                  obtain ⟨ad224, e224, hx224_0⟩ := Kd.at_bool (Kd.R_reads' HO_14.out).2.2 (rd t208 x60_3) p224 q224
                                  (try rw [← Nbq96.out] at hx224_0)
                                  cases e224
                                  replace p224 := eq_true p224
                                  replace q224 := eq_true q224
                                  have p225 : 0 ≤ (((rd_T31 l0 (rd t208 x60_3)).f2) : Int) := of_decide_eq_true (by first | (with_reducible assumption) | assumption)
                                  have q225 : ((rd_T31 l0 (rd t208 x60_3)).f2) < (x10_3.length : Int) := of_decide_eq_true (by first | (with_reducible assumption) | assumption)
                                  obtain ⟨ad225, e225, hx225_0⟩ := Kd.at_int (Kd.R_reads' HO_10.out).2.2 ((rd_T31 l0 (rd t208 x60_3)).f2) p225 q225
                                  obtain rfl : (⟨go22, 0, none⟩ : Addr) = ad225 := (by injection e225)
                                  (first | simp only [add_plain] at hx225_0 | simp only [add_at] at hx225_0 | simp only [Addr.add, Nat.zero_add] at hx225_0 | skip)
                                  replace p225 := eq_true p225
                                  replace q225 := eq_true q225
                                  have p227 : 0 ≤ (((rd_T31 l0 (rd t208 x60_3)).f2) : Int) := of_decide_eq_true (by first | (with_reducible assumption) | assumption)
                                  have q227 : ((rd_T31 l0 (rd t208 x60_3)).f2) < (x10_3.length : Int) := of_decide_eq_true (by first | (with_reducible assumption) | assumption)
                                  obtain ⟨ad227, e227, hx227_0⟩ := Kd.at_int (Kd.R_reads' HO_10.out).2.2 ((rd_T31 l0 (rd t208 x60_3)).f2) p227 q227
                                  obtain rfl : (⟨go22, 0, none⟩ : Addr) = ad227 := (by injection e227)
                                  (first | simp only [add_plain] at hx227_0 | simp only [add_at] at hx227_0 | simp only [Addr.add, Nat.zero_add] at hx227_0 | skip)
                                  replace p227 := eq_true p227
                                  replace q227 := eq_true q227
                                  refine start_ (n := 22) (S := fun w' => w'.cell? ⟨gb214, 0, none⟩ = some (.int .i64 ((rd_T31 l0 (rd t208 x60_3)).f0)) ∧ w'.cell? ⟨gb214, 1, none⟩ = some (.int .i64 ((rd_T31 l0 (rd t208 x60_3)).f1)) ∧ w'.cell? ⟨gb214, 2, none⟩ = some (.int .i64 ((rd_T31 l0 (rd t208 x60_3)).f2)) ∧ w'.cell? ⟨gb214, 3, none⟩ = some (.int .i64 ((rd_T31 l0 (rd t208 x60_3)).f3)) ∧ w'.cell? ⟨gb214, 4, none⟩ = some (.int .i64 ((rd_T31 l0 (rd t208 x60_3)).f4)) ∧ w'.cell? ⟨gb214, 5, none⟩ = some (.int .i64 ((rd_T31 l0 (rd t208 x60_3)).f5)) ∧ w'.cell? (ad224.add ((rd t208 x60_3)).toNat) = some (.bool true) ∧ w'.cell? ⟨go22, (((rd_T31 l0 (rd t208 x60_3)).f2)).toNat, none⟩ = some (.int .i64 (rd x10_3 ((rd_T31 l0 (rd t208 x60_3)).f2))) ∧ w'.cell? ⟨go22, (((rd_T31 l0 (rd t208 x60_3)).f2)).toNat, none⟩ = some (.int .i64 (rd x10_3 ((rd_T31 l0 (rd t208 x60_3)).f2)))) (ds := []) (bs 22 0) (by kernel_rfl) rfl rfl ⟨(blk_cell BK214.out 0).trans rfl, (blk_cell BK214.out 1).trans rfl, (blk_cell BK214.out 2).trans rfl, (blk_cell BK214.out 3).trans rfl, (blk_cell BK214.out 4).trans rfl, (blk_cell BK214.out 5).trans rfl, hx224_0, hx225_0, hx227_0⟩ (fun hHeld => ?_); refine with_tabW impl_Earliest.tab28 impl_Earliest.bits28 (fun HT_ HW_ => ?_)
                                  generalize wr.drew = w116 at HO_10 HO_14 HO_58 BK197 BK214 HB hx224_0 hx225_0 hx227_0 hHeld ⊢
                                  refine pu_ 0 109 HT_ (bs 22 1) rfl rfl ?_
                                  refine pu_ 1 110 HT_ (bs 22 3) rfl rfl ?_
                                  refine pu_ 2 111 HT_ (bs 22 7) rfl rfl ?_
                                  refine take_ (i := 3) (N := some 112) (v := ?_) (a' := ?_) (bs 22 15) rfl rfl (take_ofW HT_.out HW_.out (by kernel_rfl)) (fun _ _ _ h => h) (Or.inl ⟨by rfl, ?_⟩) hHeld ?_ ?_
                                  rotate_left
                                  ·rintro w' ⟨s0, s1, s2, s3, s4, s5, s6, s7, s8⟩
                                   go_simp
                                   with_reducible rfl
                                  rotate_left
                                  ·simp only [Act.put, sA_, sZ_, sS_, i64_w, i32_w]
                                   rfl
                                  refine pu_ 4 113 HT_ (bs 22 31) rfl rfl ?_
                                  refine pu_ 5 114 HT_ (bs 22 63) rfl rfl ?_
                                  refine pu_ 6 115 HT_ (bs 22 127) rfl rfl ?_
                                  refine take_ (i := 7) (N := some 116) (v := ?_) (a' := ?_) (bs 22 255) rfl rfl (take_ofW HT_.out HW_.out (by kernel_rfl)) (fun _ _ _ h => h) (Or.inl ⟨by rfl, ?_⟩) hHeld ?_ ?_
                                  rotate_left
                                  ·rintro w' ⟨s0, s1, s2, s3, s4, s5, s6, s7, s8⟩
                                   go_simp
                                   with_reducible rfl
                                  rotate_left
                                  ·simp only [Act.put, sA_, sZ_, sS_, i64_w, i32_w]
                                   rfl
                                  refine pu_ 8 117 HT_ (bs 22 511) rfl rfl ?_
                                  refine take_ (i := 9) (N := some 118) (v := ?_) (a' := ?_) (bs 22 1023) rfl rfl (take_ofW HT_.out HW_.out (by kernel_rfl)) (fun _ _ _ h => h) (Or.inl ⟨by rfl, ?_⟩) hHeld ?_ ?_
                                  rotate_left
                                  ·rintro w' ⟨s0, s1, s2, s3, s4, s5, s6, s7, s8⟩
                                   go_simp
                                   with_reducible rfl
                                  rotate_left
                                  ·simp only [Act.put, sA_, sZ_, sS_, i64_w, i32_w]
                                   rfl
                                  refine pu_ 10 119 HT_ (bs 22 2047) rfl rfl ?_
                                  refine pu_ 11 120 HT_ (bs 22 4095) rfl rfl ?_
                                  refine pu_ 12 121 HT_ (bs 22 8191) rfl rfl ?_
                                  refine pu_ 14 123 HT_ (bs 22 24575) rfl rfl ?_
                                  refine pu_ 15 124 HT_ (bs 22 57343) rfl rfl ?_
                                  refine take_ (i := 13) (N := some 122) (v := ?_) (a' := ?_) (bs 22 65535) rfl rfl (take_ofW HT_.out HW_.out (by kernel_rfl)) (fun _ _ _ h => h) (Or.inl ⟨by rfl, ?_⟩) hHeld ?_ ?_
                                  rotate_left
                                  ·rintro w' ⟨s0, s1, s2, s3, s4, s5, s6, s7, s8⟩
                                   go_simp
                                   with_reducible rfl
                                  rotate_left
                                  ·simp only [Act.put, sA_, sZ_, sS_, i64_w, i32_w]
                                   rfl
                                  refine take_ (i := 16) (N := some 125) (v := ?_) (a' := ?_) (bs 22 131071) rfl rfl (take_ofW HT_.out HW_.out (by kernel_rfl)) (fun _ _ _ h => h) (Or.inl ⟨by rfl, ?_⟩) hHeld ?_ ?_
                                  rotate_left
                                  ·rintro w' ⟨s0, s1, s2, s3, s4, s5, s6, s7, s8⟩
                                   go_simp
                                   with_reducible rfl
                                  rotate_left
                                  ·simp only [Act.put, sA_, sZ_, sS_, i64_w, i32_w]
                                   rfl
                                  refine pu_ 17 126 HT_ (bs 22 262143) rfl rfl ?_
                                  refine take_ (i := 18) (N := some 127) (v := ?_) (a' := ?_) (bs 22 524287) rfl rfl (take_ofW HT_.out HW_.out (by kernel_rfl)) (fun _ _ _ h => h) (Or.inl ⟨by rfl, ?_⟩) hHeld ?_ ?_
                                  rotate_left
                                  ·rintro w' ⟨s0, s1, s2, s3, s4, s5, s6, s7, s8⟩
                                   go_simp
                                   with_reducible rfl
                                  rotate_left
                                  ·simp only [Act.put, sA_, sZ_, sS_, i64_w, i32_w]
                                   rfl
                                  refine pu_ 19 128 HT_ (bs 22 1048575) rfl rfl ?_
                                  refine pu_ 20 129 HT_ (bs 22 2097151) rfl rfl ?_
                                  refine pu_ 21 130 HT_ (bs 22 4194303) rfl rfl ?_
                                  refine done_ (done_of HT_.out (by kernel_rfl)) ?_
                                  try go_wp2
                                  (try simp only [← hl10_3, ← hl58_3])
                                  go_roundg k5
                                  case measure => have := HK1.out; have := HK2.out; have := HK3.out; have := HJ48.out; have := HK5.out; omega
                                  case rel => exact ⟨(x10_3), (x14_5), (wrap64 (x60_3 + 1)), (by first | rfl | (simp; done) | (simp [*]; done) | (simp [wrap64]; done)), H', ⟨by have := HK1.out; have := HK2.out; have := HK3.out; have := HJ48.out; have := HK5.out; omega⟩, ⟨by (try simp only [hl10_1]); (try simp only [hl10_2]); (try simp only [hl12_2]); (try simp only [hl10_3]); (try simp only [hl58_3]); (with_reducible repeat (first | apply Kd.R_alloc | apply Kd.R_drewN | apply Kd.R_drew)); exact HO_10.out⟩, ⟨by (try simp only [hl10_1]); (try simp only [hl10_2]); (try simp only [hl12_2]); (try simp only [hl10_3]); (try simp only [hl58_3]); (with_reducible repeat (first | apply Kd.R_alloc | apply Kd.R_drewN | apply Kd.R_drew)); exact HO_14.out⟩, ⟨by (try simp only [hl10_1]); (try simp only [hl10_2]); (try simp only [hl12_2]); (try simp only [hl10_3]); (try simp only [hl58_3]); (with_reducible repeat (first | apply Kd.R_alloc | apply Kd.R_drewN | apply Kd.R_drew)); exact HO_58.out⟩, ⟨by (try simp only [hl10_1]); (try simp only [hl10_2]); (try simp only [hl12_2]); (try simp only [hl10_3]); (try simp only [hl58_3]); refine rp_ ?_; exact BK197.out⟩, ⟨bel_ HB.out⟩⟩
                               ·rw [if_neg c99] at H
                                exact absurd H (by simp)
                              ·rw [if_neg c98] at H
                               exact absurd H (by simp)
                             ·replace c97 := Bool.eq_false_iff.mpr c97
                              subst c97
                              have H1 : (impl_Earliest.l2 k5 a1 a2 a3 x10_3 x14_5 t208 (x12_2.length : Int) (wrap64 (x60_3 + 1)) l0) = some (r1, r2) := by rw [if_neg (show ¬ (false = true) by decide)] at H; exact H
                              clear H
                              have H := H1
                              clear H1
                              have H' := Aside0.mk H
                              clear H
                              try go_wp2
                              have n0_ := Aside0.mk (Kd.R_drew HO_10.out)
                              have n1_ := Aside0.mk (Kd.R_drew HO_14.out)
                              have n2_ := Aside0.mk (Kd.R_drew HO_58.out)
                              have n3_ := Aside0.mk (blk_drew BK197.out)
                              have n4_ := Aside0.mk (blk_drew BK214.out)
                              have n5_ := Aside0.mk (below_drew1 HB.out)
                              clear HO_10
                              clear HO_14
                              clear HO_58
                              clear BK197
                              clear BK214
                              clear HB
                              have HO_10 := n0_
                              have HO_14 := n1_
                              have HO_58 := n2_
                              have BK197 := n3_
                              have BK214 := n4_
                              have HB := n5_
                              clear n0_ n1_ n2_ n3_ n4_ n5_
                              obtain ⟨Ao119, co119, eo119⟩ := Kd.R_slice HO_14.out
                              (first | subst eo119 | (injection eo119 with f1_ f2_ f3_; have f4_ := f1_.symm; have f5_ := f3_.symm; clear f1_ f2_ f3_; subst f4_; subst f5_))
                              have p224 : 0 ≤ ((rd t208 x60_3) : Int) := of_decide_eq_true (by first | (with_reducible assumption) | assumption)
                              have q224 : (rd t208 x60_3) < (x14_5.length : Int) := of_decide_eq_true (by first | (with_reducible assumption) | assumption)
                              obtain ⟨ad224, e224, hx224_0⟩ := Kd.at_bool (Kd.R_reads' HO_14.out).2.2 (rd t208 x60_3) p224 q224
                              (try rw [← Nbq96.out] at hx224_0)
                              cases e224
                              replace p224 := eq_true p224
                              replace q224 := eq_true q224
                              refine start_ (n := 22) (S := fun w' => w'.cell? (ad224.add ((rd t208 x60_3)).toNat) = some (.bool false)) (ds := []) (bs 22 0) (by kernel_rfl) rfl rfl (hx224_0) (fun hHeld => ?_); refine with_tabW impl_Earliest.tab28 impl_Earliest.bits28 (fun HT_ HW_ => ?_)
                              generalize wr.drew = w118 at HO_10 HO_14 HO_58 BK197 BK214 HB hx224_0 hHeld ⊢
                              refine pu_ 0 109 HT_ (bs 22 1) rfl rfl ?_
                              refine pu_ 1 110 HT_ (bs 22 3) rfl rfl ?_
                              refine pu_ 2 111 HT_ (bs 22 7) rfl rfl ?_
                              refine take_ (i := 3) (N := some 112) (v := ?_) (a' := ?_) (bs 22 15) rfl rfl (take_ofW HT_.out HW_.out (by kernel_rfl)) (fun _ _ _ h => h) (Or.inl ⟨by rfl, ?_⟩) hHeld ?_ ?_
                              rotate_left
                              ·intro w' s0
                               go_simp
                               with_reducible rfl
                              rotate_left
                              ·simp only [Act.put, sA_, sZ_, sS_, i64_w, i32_w]
                               rfl
                              refine pu_ 4 113 HT_ (bs 22 31) rfl rfl ?_
                              refine pn_ 5 114 HT_ (bs 22 63) rfl rfl ?_
                              refine pn_ 6 115 HT_ (bs 22 127) rfl rfl ?_
                              refine pn_ 7 116 HT_ (bs 22 255) rfl rfl ?_
                              refine pn_ 8 117 HT_ (bs 22 511) rfl rfl ?_
                              refine pn_ 9 118 HT_ (bs 22 1023) rfl rfl ?_
                              refine pn_ 10 119 HT_ (bs 22 2047) rfl rfl ?_
                              refine pn_ 11 120 HT_ (bs 22 4095) rfl rfl ?_
                              refine pn_ 12 121 HT_ (bs 22 8191) rfl rfl ?_
                              refine pn_ 13 122 HT_ (bs 22 16383) rfl rfl ?_
                              refine pn_ 14 123 HT_ (bs 22 32767) rfl rfl ?_
                              refine pn_ 15 124 HT_ (bs 22 65535) rfl rfl ?_
                              refine pn_ 16 125 HT_ (bs 22 131071) rfl rfl ?_
                              refine pn_ 17 126 HT_ (bs 22 262143) rfl rfl ?_
                              refine pn_ 18 127 HT_ (bs 22 524287) rfl rfl ?_
                              refine pn_ 19 128 HT_ (bs 22 1048575) rfl rfl ?_
                              refine pn_ 20 129 HT_ (bs 22 2097151) rfl rfl ?_
                              refine pu_ 21 130 HT_ (bs 22 4194303) rfl rfl ?_
                              refine done_ (done_of HT_.out (by kernel_rfl)) ?_
                              try go_wp2
                              (try simp only [← hl10_3, ← hl58_3])
                              go_roundg k5
                              case measure => have := HK1.out; have := HK2.out; have := HK3.out; have := HJ48.out; have := HK5.out; omega
                              case rel => exact ⟨(x10_3), (x14_5), (wrap64 (x60_3 + 1)), (by first | rfl | (simp; done) | (simp [*]; done) | (simp [wrap64]; done)), H', ⟨by have := HK1.out; have := HK2.out; have := HK3.out; have := HJ48.out; have := HK5.out; omega⟩, ⟨by (try simp only [hl10_1]); (try simp only [hl10_2]); (try simp only [hl12_2]); (try simp only [hl10_3]); (try simp only [hl58_3]); (with_reducible repeat (first | apply Kd.R_alloc | apply Kd.R_drewN | apply Kd.R_drew)); exact HO_10.out⟩, ⟨by (try simp only [hl10_1]); (try simp only [hl10_2]); (try simp only [hl12_2]); (try simp only [hl10_3]); (try simp only [hl58_3]); (with_reducible repeat (first | apply Kd.R_alloc | apply Kd.R_drewN | apply Kd.R_drew)); exact HO_14.out⟩, ⟨by (try simp only [hl10_1]); (try simp only [hl10_2]); (try simp only [hl12_2]); (try simp only [hl10_3]); (try simp only [hl58_3]); (with_reducible repeat (first | apply Kd.R_alloc | apply Kd.R_drewN | apply Kd.R_drew)); exact HO_58.out⟩, ⟨by (try simp only [hl10_1]); (try simp only [hl10_2]); (try simp only [hl12_2]); (try simp only [hl10_3]); (try simp only [hl58_3]); refine rp_ ?_; exact BK197.out⟩, ⟨bel_ HB.out⟩⟩
                            ·rw [if_neg c95] at H
                             exact absurd H (by simp)
                           ·rw [if_neg c94] at H
                            exact absurd H (by simp)
                     ·rw [if_neg c48] at H
                      exact absurd H (by simp)
                    ·rw [if_neg c47] at H
                     exact absurd H (by simp)
                   ·rw [if_neg c46] at H
                    exact absurd H (by simp)
                  ·rw [if_neg c45] at H
                   exact absurd H (by simp)
                 ·rw [if_neg c44] at H
                  have c44b0 : decide (x60_3 < (x12_2.length : Int)) = false := decide_eq_false c44
                  (try (have c44h := c44b0; simp only [hl10_1, hl10_2, hl12_2, hl10_3, hl58_3] at c44h))
                  clear c44
                  simp only [Option.some.injEq, Prod.mk.injEq] at H
                  obtain ⟨rfl, rfl⟩ := H
                  go_wp2
                  go_ret2
                  exact ⟨_, by first | rfl | (simp [errW_none, errW_some] <;> rfl) | (simp [*, errW_none, errW_some] <;> rfl), by (with_reducible repeat (first | apply Kd.R_alloc | apply Kd.R_drewN | apply Kd.R_drew)); exact Kd.R_mono HO_10.out (fun _ hk => trivial), bel_ HB.out⟩
              ·rw [if_neg c39] at H
               exact absurd H (by simp)
             ·rw [if_neg c38] at H
              exact absurd H (by simp)
         ·rw [if_neg c24] at H
          exact absurd H (by simp)
        ·rw [if_neg c23] at H
         exact absurd H (by simp)
       ·rw [if_neg c21] at H
        exact absurd H (by simp)
      ·rw [if_neg c20] at H
       exact absurd H (by simp)
  ·rw [if_neg c7] at H
   exact absurd H (by simp)
 ·replace c6 := Bool.eq_false_iff.mpr c6
  subst c6
  have H1 : (some (([] : List Int), false)) = some (r1, r2) := by rw [if_neg (show ¬ (false = true) by decide)] at H; exact H
  clear H
  have H := H1
  clear H1
  simp only [Option.some.injEq, Prod.mk.injEq] at H
  obtain ⟨rfl, rfl⟩ := H
  go_enter Try.func27, Try.ntmps27
  go_wp2_with (first | ((with_reducible refine gate_dst (N := 4) rfl ?_); refine box_event ?hg (N := 4) ?hd (cs := #[.slice A0 l0.length c0]) (t := 24) ?hr ?_; (case hd => rfl); (case hg => rfl); (case hr => first | (go_simp; done) | (go_simp; rfl)); intro gb197 hg w120 hbox hb; have n0_ := Aside0.mk (below_step (bel_ HB.out) hb); have n1_ := Aside0.mk (hbox); have n2_ := Aside0.mk ((by rw [hg]; exact (below_size (bel_ HB.out)) : w.heap.size ≤ gb197)); have n3_ := Aside0.mk ((by rw [hg]; exact (below_size (bel_ HB.out)) : w.heap.size ≤ gb197)); clear HB; have HB := n0_; have BK197 := n1_; have GW197 := n2_; have GE197 := n3_; clear n0_ n1_ n2_ n3_; clear hb hbox hg; have hcz121_0 : w120.cell? ⟨gb197, 0, none⟩ = some (.slice A0 l0.length c0) := (blk_cell BK197.out 0).trans rfl; have hfz121_0 := blk_frozen BK197.out 0) | ((with_reducible refine gate_callee (f := 42) rfl ?_); refine goesL_ (some 23) rfl rfl Try.func42 (by kernel_rfl) rfl #[.slice A0 l0.length c0, .int .i64 a1, .int .i64 a2, .int .i64 a3] rfl ml_ ?_; (with_reducible refine (impl_lineRight.calls _ _ l0 a1 a2 a3 false _ ?side1 ?side2 A5.out).mono ?_); (case side1 => repeat (first | exact (Kd.C_below HR0.out HB.out) | (with_reducible refine Kd.C_alloc ?_ _) | (with_reducible refine Kd.C_drewN ?_ _) | (with_reducible refine Kd.C_drew ?_))); (case side2 => exact HC0.out); rintro e w122 ⟨rfl, hb⟩; refine ⟨_, rfl, ?_⟩; have n0_ := Aside0.mk (bb_ BK197.out hb); have n1_ := Aside0.mk (below_step (bel_ HB.out) hb); clear BK197; clear HB; have BK197 := n0_; have HB := n1_; clear n0_ n1_; (try clear hb); (try clear hb2); (try clear hk); (try clear hi)))
  go_ret2
  exact ⟨_, by first | rfl | (simp [errW_none, errW_some] <;> rfl) | (simp [*, errW_none, errW_some] <;> rfl), by first | exact Kd.R_nil _ _ _ _ _ | exact Kd.N_nil _ _ _ _ _ | exact Kd.V_nil _ _ _ _ _ | exact Kd.Q_nil _ _ _ _ _ | exact Kd.S_nil _ _ _ _ _, bel_ HB.out⟩

end Go.Proofs.Ytacekdgajpaomaa.PFnExactEarliest
