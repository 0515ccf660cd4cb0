/- The Lean side of Go functions of this seat: what each answers, and that its run comes to that answer; written by a program of this work. -/
import Derived.Test.YtlphfhibnbhkfaaPFnRingx0
import Derived.Test.YtlphfhibnbhkfaaPFnRingx1
import Derived.Test.YtlphfhibnbhkfaaPFnRingx2
import Derived.Test.YtlphfhibnbhkfaaPFnRingx3
import Derived.Test.YtlphfhibnbhkfaaPFnRingx8
namespace Go.Proofs.Ytlphfhibnbhkfaa.PFnRing
open Go.RowKit Go.Proofs.YtlphfhibnbhkfaaW.PrintWords Go.Proofs.YtlphfhibnbhkfaaW.PrintLast Go.Proofs.YtlphfhibnbhkfaaW.PrintMore
attribute [local go_sem] max2_int min2_int max_two min_two max_three min_three max_four min_four   -- for this text's walks alone
set_option linter.unusedVariables false
set_option linter.unusedSimpArgs false

/-! ### laws_FnRing: function 8 -/
mutual
def laws_FnRing.j0 : Nat → List Int → Int → Int → Bool → Int → Int → List Int → Option (Bool)
 | 0, _, _, _, _, _, _, _ => none
 | k + 1, x0, x3, x4, x49, x274000, x274001, x274002 => if x49 = true then (some false) else (laws_FnRing.l0 k x0 x3 x4 (([] : List Int)) 0 0 x274000 x274001 x274002)
def laws_FnRing.l0 : Nat → List Int → Int → Int → List Int → Int → Int → Int → Int → List Int → Option (Bool)
 | 0, _, _, _, _, _, _, _, _, _ => none
 | k + 1, x0, x3, x4, x7, x8, x9, x274000, x274001, x274002 => if x9 < (wrap64 ((wrap64 (2 * (wrap64 (x3 + x4)))) - 4)) then (if x7.length < 17592186044416 then ((some (x7 ++ [x8] : List Int)).bind fun y278 => (if 0 ≤ x8 then (if x8 < (x274002.length : Int) then (if (rd x274002 x8) = 1 then (if (wrap64 (x8 + 1)) < 0 then (some false) else (if (wrap64 (x8 + 1)) ≥ (x274002.length : Int) then (some false) else (laws_FnRing.l0 k x0 x3 x4 y278 (wrap64 (x8 + 1)) (wrap64 (x9 + 1)) x274000 x274001 x274002))) else (if (rd x274002 x8) = 2 then (if (wrap64 (x8 + x3)) < 0 then (some false) else (if (wrap64 (x8 + x3)) ≥ (x274002.length : Int) then (some false) else (laws_FnRing.l0 k x0 x3 x4 y278 (wrap64 (x8 + x3)) (wrap64 (x9 + 1)) x274000 x274001 x274002))) else (if (rd x274002 x8) = 4 then (if (wrap64 (x8 - 1)) < 0 then (some false) else (if (wrap64 (x8 - 1)) ≥ (x274002.length : Int) then (some false) else (laws_FnRing.l0 k x0 x3 x4 y278 (wrap64 (x8 - 1)) (wrap64 (x9 + 1)) x274000 x274001 x274002))) else (if (rd x274002 x8) = 8 then (if (wrap64 (x8 - x3)) < 0 then (some false) else (if (wrap64 (x8 - x3)) ≥ (x274002.length : Int) then (some false) else (laws_FnRing.l0 k x0 x3 x4 y278 (wrap64 (x8 - x3)) (wrap64 (x9 + 1)) x274000 x274001 x274002))) else (some false))))) else (none)) else (none))) else (none)) else ((impl_Hops.f k x274000 x274001 x274002 0).bind fun bt282 => (if x8 = 0 then (if bt282.2 = true then (if (bt282.1.length : Int) = (x274002.length : Int) then (if 0 < (bt282.1.length : Int) then (if (rd bt282.1 0) = 0 then (if 1 < (x7.length : Int) then (if 0 ≤ (rd x7 1) then (if (rd x7 1) < (bt282.1.length : Int) then (laws_FnRing.j2 k x0 x7 ((rd bt282.1 (rd x7 1)) != (wrap64 ((x7.length : Int) - 1))) x274000 x274001 x274002) else (none)) else (none)) else (none)) else (laws_FnRing.j2 k x0 x7 true x274000 x274001 x274002)) else (none)) else (laws_FnRing.j2 k x0 x7 true x274000 x274001 x274002)) else (laws_FnRing.j2 k x0 x7 true x274000 x274001 x274002)) else (laws_FnRing.j2 k x0 x7 true x274000 x274001 x274002)))
def laws_FnRing.j2 : Nat → List Int → List Int → Bool → Int → Int → List Int → Option (Bool)
 | 0, _, _, _, _, _, _ => none
 | k + 1, x0, x7, x132, x274000, x274001, x274002 => if x132 = true then (some false) else ((laws_at.f x0 2).bind fun t292 => (if (wrap64 ((x7.length : Int) - 1)) = 0 then (none) else (laws_FnRing.l1 k x0 x7 (([] : List (S92))) (wrap64 (1 + (Int.tmod t292 (wrap64 ((x7.length : Int) - 1))))) 0 x274000 x274001 x274002)))
def laws_FnRing.l1 : Nat → List Int → List Int → List (S92) → Int → Int → Int → Int → List Int → Option (Bool)
 | 0, _, _, _, _, _, _, _, _ => none
 | k + 1, x0, x7, x12, x13, x14, x274000, x274001, x274002 => if x14 < (x7.length : Int) then (laws_FnRing.j4 k x0 x7 x12 x13 x14 (decide ((x12.length : Int) < 12)) x274000 x274001 x274002) else (laws_FnRing.j4 k x0 x7 x12 x13 x14 false x274000 x274001 x274002)
def laws_FnRing.j4 : Nat → List Int → List Int → List (S92) → Int → Int → Bool → Int → Int → List Int → Option (Bool)
 | 0, _, _, _, _, _, _, _, _, _ => none
 | k + 1, x0, x7, x12, x13, x14, x149, x274000, x274001, x274002 => if x149 = true then ((laws_at.f x0 (wrap64 (x14 + 3))).bind fun t293 => (if (Int.tmod t293 3) > 0 then (if 0 ≤ x14 then (if x14 < (x7.length : Int) then (if (x7.length : Int) = 0 then (none) else (if 0 ≤ (Int.tmod (wrap64 (x14 + x13)) (x7.length : Int)) then (if (Int.tmod (wrap64 (x14 + x13)) (x7.length : Int)) < (x7.length : Int) then (if x12.length < 8796093022208 then (laws_FnRing.l1 k x0 x7 (x12 ++ [(⟨rd x7 x14, rd x7 (Int.tmod (wrap64 (x14 + x13)) (x7.length : Int))⟩ : S92)]) x13 (wrap64 (x14 + 1)) x274000 x274001 x274002) else (none)) else (none)) else (none))) else (none)) else (none)) else (laws_FnRing.l1 k x0 x7 x12 x13 (wrap64 (x14 + 1)) x274000 x274001 x274002))) else ((impl_Settle19.f k x274000 x274001 x274002 x12 200).bind fun bt299 => (if (bt299.1.length : Int) = (x12.length : Int) then (if bt299.2.2 = true then (if (x12.length : Int) = 0 then (some true) else (some (bt299.2.1 == x13))) else (some false)) else (some false)))
end
def laws_FnRing.f (k : Nat) (l0 : List Int) : Option (Bool) := (laws_big.f l0).bind fun t264 => (if t264 = true then (some true) else ((laws_at.f l0 0).bind fun t265 => ((laws_at.f l0 1).bind fun t266 => ((impl_OneWay.f k (wrap64 (2 + (Int.tmod t265 5))) (wrap64 (2 + (Int.tmod t266 5)))).bind fun bt267 => (if bt267.2.2.2 = true then ((impl_FloorOk.f bt267.1 bt267.2.1 bt267.2.2.1).bind fun t274 => (if t274 = true then (laws_FnRing.j0 k l0 (wrap64 (2 + (Int.tmod t265 5))) (wrap64 (2 + (Int.tmod t266 5))) ((bt267.2.2.1.length : Int) != (wrap64 ((wrap64 (2 + (Int.tmod t265 5))) * (wrap64 (2 + (Int.tmod t266 5)))))) bt267.1 bt267.2.1 bt267.2.2.1) else (laws_FnRing.j0 k l0 (wrap64 (2 + (Int.tmod t265 5))) (wrap64 (2 + (Int.tmod t266 5))) true bt267.1 bt267.2.1 bt267.2.2.1))) else (laws_FnRing.j0 k l0 (wrap64 (2 + (Int.tmod t265 5))) (wrap64 (2 + (Int.tmod t266 5))) true bt267.1 bt267.2.1 bt267.2.2.1))))))
theorem laws_FnRing.mono_l : ∀ k, (∀ y0 y1 y2 y3 y4 y5 y6, LeO (laws_FnRing.j0 k y0 y1 y2 y3 y4 y5 y6) (laws_FnRing.j0 (k + 1) y0 y1 y2 y3 y4 y5 y6)) ∧ (∀ y0 y1 y2 y3 y4 y5 y6 y7 y8, LeO (laws_FnRing.l0 k y0 y1 y2 y3 y4 y5 y6 y7 y8) (laws_FnRing.l0 (k + 1) y0 y1 y2 y3 y4 y5 y6 y7 y8)) ∧ (∀ y0 y1 y2 y3 y4 y5, LeO (laws_FnRing.j2 k y0 y1 y2 y3 y4 y5) (laws_FnRing.j2 (k + 1) y0 y1 y2 y3 y4 y5)) ∧ (∀ y0 y1 y2 y3 y4 y5 y6 y7, LeO (laws_FnRing.l1 k y0 y1 y2 y3 y4 y5 y6 y7) (laws_FnRing.l1 (k + 1) y0 y1 y2 y3 y4 y5 y6 y7)) ∧ (∀ y0 y1 y2 y3 y4 y5 y6 y7 y8, LeO (laws_FnRing.j4 k y0 y1 y2 y3 y4 y5 y6 y7 y8) (laws_FnRing.j4 (k + 1) y0 y1 y2 y3 y4 y5 y6 y7 y8))
 | 0 => ⟨fun _ _ _ _ _ _ _ r h => by simp [laws_FnRing.j0] at h, fun _ _ _ _ _ _ _ _ _ r h => by simp [laws_FnRing.l0] at h, fun _ _ _ _ _ _ r h => by simp [laws_FnRing.j2] at h, fun _ _ _ _ _ _ _ _ r h => by simp [laws_FnRing.l1] at h, fun _ _ _ _ _ _ _ _ _ r h => by simp [laws_FnRing.j4] at h⟩
 | k + 1 => by
  obtain ⟨ih0, ih1, ih2, ih3, ih4⟩ := laws_FnRing.mono_l k
  refine ⟨?_, ?_, ?_, ?_, ?_⟩
  ·intro y0 y1 y2 y3 y4 y5 y6
   unfold laws_FnRing.j0
   repeat' first
   | (with_reducible exact ih0 _ _ _ _ _ _ _)
   | (with_reducible exact ih1 _ _ _ _ _ _ _ _ _)
   | (with_reducible exact ih2 _ _ _ _ _ _)
   | (with_reducible exact ih3 _ _ _ _ _ _ _ _)
   | (with_reducible exact ih4 _ _ _ _ _ _ _ _ _)
   | (with_reducible exact impl_Hops.mono _ _ _ _ _)
   | (with_reducible exact impl_OneWay.mono _ _ _)
   | (with_reducible exact impl_Settle19.mono _ _ _ _ _ _)
   | (with_reducible exact LeO.refl _)
   | (with_reducible exact LeO.none _)
   | (with_reducible refine LeO.ite ?_ ?_)
   | (with_reducible refine LeO.bind ?_ (fun _ => ?_))
   | exact ih0 _ _ _ _ _ _ _
   | exact ih1 _ _ _ _ _ _ _ _ _
   | exact ih2 _ _ _ _ _ _
   | exact ih3 _ _ _ _ _ _ _ _
   | exact ih4 _ _ _ _ _ _ _ _ _
   | exact impl_Hops.mono _ _ _ _ _
   | exact impl_OneWay.mono _ _ _
   | exact impl_Settle19.mono _ _ _ _ _ _
   | exact LeO.none _
   | refine LeO.ite ?_ ?_
   | refine LeO.bind ?_ (fun _ => ?_)
  ·intro y0 y1 y2 y3 y4 y5 y6 y7 y8
   unfold laws_FnRing.l0
   repeat' first
   | (with_reducible exact ih0 _ _ _ _ _ _ _)
   | (with_reducible exact ih1 _ _ _ _ _ _ _ _ _)
   | (with_reducible exact ih2 _ _ _ _ _ _)
   | (with_reducible exact ih3 _ _ _ _ _ _ _ _)
   | (with_reducible exact ih4 _ _ _ _ _ _ _ _ _)
   | (with_reducible exact impl_Hops.mono _ _ _ _ _)
   | (with_reducible exact impl_OneWay.mono _ _ _)
   | (with_reducible exact impl_Settle19.mono _ _ _ _ _ _)
   | (with_reducible exact LeO.refl _)
   | (with_reducible exact LeO.none _)
   | (with_reducible refine LeO.ite ?_ ?_)
   | (with_reducible refine LeO.bind ?_ (fun _ => ?_))
   | exact ih0 _ _ _ _ _ _ _
   | exact ih1 _ _ _ _ _ _ _ _ _
   | exact ih2 _ _ _ _ _ _
   | exact ih3 _ _ _ _ _ _ _ _
   | exact ih4 _ _ _ _ _ _ _ _ _
   | exact impl_Hops.mono _ _ _ _ _
   | exact impl_OneWay.mono _ _ _
   | exact impl_Settle19.mono _ _ _ _ _ _
   | exact LeO.none _
   | refine LeO.ite ?_ ?_
   | refine LeO.bind ?_ (fun _ => ?_)
  ·intro y0 y1 y2 y3 y4 y5
   unfold laws_FnRing.j2
   repeat' first
   | (with_reducible exact ih0 _ _ _ _ _ _ _)
   | (with_reducible exact ih1 _ _ _ _ _ _ _ _ _)
   | (with_reducible exact ih2 _ _ _ _ _ _)
   | (with_reducible exact ih3 _ _ _ _ _ _ _ _)
   | (with_reducible exact ih4 _ _ _ _ _ _ _ _ _)
   | (with_reducible exact impl_Hops.mono _ _ _ _ _)
   | (with_reducible exact impl_OneWay.mono _ _ _)
   | (with_reducible exact impl_Settle19.mono _ _ _ _ _ _)
   | (with_reducible exact LeO.refl _)
   | (with_reducible exact LeO.none _)
   | (with_reducible refine LeO.ite ?_ ?_)
   | (with_reducible refine LeO.bind ?_ (fun _ => ?_))
   | exact ih0 _ _ _ _ _ _ _
   | exact ih1 _ _ _ _ _ _ _ _ _
   | exact ih2 _ _ _ _ _ _
   | exact ih3 _ _ _ _ _ _ _ _
   | exact ih4 _ _ _ _ _ _ _ _ _
   | exact impl_Hops.mono _ _ _ _ _
   | exact impl_OneWay.mono _ _ _
   | exact impl_Settle19.mono _ _ _ _ _ _
   | exact LeO.none _
   | refine LeO.ite ?_ ?_
   | refine LeO.bind ?_ (fun _ => ?_)
  ·intro y0 y1 y2 y3 y4 y5 y6 y7
   unfold laws_FnRing.l1
   repeat' first
   | (with_reducible exact ih0 _ _ _ _ _ _ _)
   | (with_reducible exact ih1 _ _ _ _ _ _ _ _ _)
   | (with_reducible exact ih2 _ _ _ _ _ _)
   | (with_reducible exact ih3 _ _ _ _ _ _ _ _)
   | (with_reducible exact ih4 _ _ _ _ _ _ _ _ _)
   | (with_reducible exact impl_Hops.mono _ _ _ _ _)
   | (with_reducible exact impl_OneWay.mono _ _ _)
   | (with_reducible exact impl_Settle19.mono _ _ _ _ _ _)
   | (with_reducible exact LeO.refl _)
   | (with_reducible exact LeO.none _)
   | (with_reducible refine LeO.ite ?_ ?_)
   | (with_reducible refine LeO.bind ?_ (fun _ => ?_))
   | exact ih0 _ _ _ _ _ _ _
   | exact ih1 _ _ _ _ _ _ _ _ _
   | exact ih2 _ _ _ _ _ _
   | exact ih3 _ _ _ _ _ _ _ _
   | exact ih4 _ _ _ _ _ _ _ _ _
   | exact impl_Hops.mono _ _ _ _ _
   | exact impl_OneWay.mono _ _ _
   | exact impl_Settle19.mono _ _ _ _ _ _
   | exact LeO.none _
   | refine LeO.ite ?_ ?_
   | refine LeO.bind ?_ (fun _ => ?_)
  ·intro y0 y1 y2 y3 y4 y5 y6 y7 y8
   unfold laws_FnRing.j4
   repeat' first
   | (with_reducible exact ih0 _ _ _ _ _ _ _)
   | (with_reducible exact ih1 _ _ _ _ _ _ _ _ _)
   | (with_reducible exact ih2 _ _ _ _ _ _)
   | (with_reducible exact ih3 _ _ _ _ _ _ _ _)
   | (with_reducible exact ih4 _ _ _ _ _ _ _ _ _)
   | (with_reducible exact impl_Hops.mono _ _ _ _ _)
   | (with_reducible exact impl_OneWay.mono _ _ _)
   | (with_reducible exact impl_Settle19.mono _ _ _ _ _ _)
   | (with_reducible exact LeO.refl _)
   | (with_reducible exact LeO.none _)
   | (with_reducible refine LeO.ite ?_ ?_)
   | (with_reducible refine LeO.bind ?_ (fun _ => ?_))
   | exact ih0 _ _ _ _ _ _ _
   | exact ih1 _ _ _ _ _ _ _ _ _
   | exact ih2 _ _ _ _ _ _
   | exact ih3 _ _ _ _ _ _ _ _
   | exact ih4 _ _ _ _ _ _ _ _ _
   | exact impl_Hops.mono _ _ _ _ _
   | exact impl_OneWay.mono _ _ _
   | exact impl_Settle19.mono _ _ _ _ _ _
   | exact LeO.none _
   | refine LeO.ite ?_ ?_
   | refine LeO.bind ?_ (fun _ => ?_)
theorem laws_FnRing.mono : ∀ a0 k, LeO (laws_FnRing.f k a0) (laws_FnRing.f (k + 1) a0) := by
 intro a0 k
 obtain ⟨ih0, ih1, ih2, ih3, ih4⟩ := laws_FnRing.mono_l k
 unfold laws_FnRing.f
 repeat' first
   | (with_reducible exact ih0 _ _ _ _ _ _ _)
   | (with_reducible exact ih1 _ _ _ _ _ _ _ _ _)
   | (with_reducible exact ih2 _ _ _ _ _ _)
   | (with_reducible exact ih3 _ _ _ _ _ _ _ _)
   | (with_reducible exact ih4 _ _ _ _ _ _ _ _ _)
   | (with_reducible exact impl_Hops.mono _ _ _ _ _)
   | (with_reducible exact impl_OneWay.mono _ _ _)
   | (with_reducible exact impl_Settle19.mono _ _ _ _ _ _)
   | (with_reducible exact LeO.refl _)
   | (with_reducible exact LeO.none _)
   | (with_reducible refine LeO.ite ?_ ?_)
   | (with_reducible refine LeO.bind ?_ (fun _ => ?_))
   | exact ih0 _ _ _ _ _ _ _
   | exact ih1 _ _ _ _ _ _ _ _ _
   | exact ih2 _ _ _ _ _ _
   | exact ih3 _ _ _ _ _ _ _ _
   | exact ih4 _ _ _ _ _ _ _ _ _
   | exact impl_Hops.mono _ _ _ _ _
   | exact impl_OneWay.mono _ _ _
   | exact impl_Settle19.mono _ _ _ _ _ _
   | exact LeO.none _
   | refine LeO.ite ?_ ?_
   | refine LeO.bind ?_ (fun _ => ?_)
def laws_FnRing.T34 : Bool × List (List Nat × List Nat) := (true, [([], []), ([], []), ([], []), ([1, 2], [1, 2]), ([3], [3]), ([], []), ([], []), ([], []), ([6, 7], [6, 7]), ([], []), ([9], [9]), ([8, 10], [8, 10]), ([5, 11], [5, 11]), ([12], [12]), ([4, 13], [4, 13]), ([14], [14]), ([0, 15], [0, 15]), ([16, 16, 0, 1, 2, 3, 4, 5, 6, 7, 8, 9, 10, 11, 12, 13, 14, 15, 16], [0, 16])])
def laws_FnRing.B34 : List Nat := [0, 0, 0, 6, 14, 0, 0, 0, 192, 0, 512, 1984, 4064, 8160, 16382, 32766, 65535, 131071]
theorem laws_FnRing.tab34 : rtab .any (opsOf Try.f8 34) = laws_FnRing.T34 := by kernel_rfl
theorem laws_FnRing.bits34 : waitsOk laws_FnRing.T34.2 laws_FnRing.B34 = true := by kernel_rfl
set_option maxHeartbeats 8000000 in
set_option maxRecDepth 100000 in
theorem laws_FnRing.calls (k : Nat) (A0 : Option Addr) (c0 : Nat) (l0 : List Int) (r : Bool) (w : World) (hr0 : Kd.C (Kd.int .u8) w A0 l0.length l0) (hc0 : l0.length ≤ c0) (h : laws_FnRing.f k l0 = some r) :
  Calls Try.prog 8 #[.slice A0 l0.length c0] w fun e w' => e = .returned (.bool r) ∧ Below w.heap.size w w' := by
 have hu84 := Try.underlying84
 have hu92 := Try.underlying92
 have HR0 := Aside0.mk hr0
 have HC0 := Aside0.mk hc0
 clear hr0 hc0
 have HB := Aside0.mk (Below.refl w.heap.size w)
 have H : ((laws_big.f l0).bind fun t264 => (if t264 = true then (some true) else ((laws_at.f l0 0).bind fun t265 => ((laws_at.f l0 1).bind fun t266 => ((impl_OneWay.f k (wrap64 (2 + (Int.tmod t265 5))) (wrap64 (2 + (Int.tmod t266 5)))).bind fun bt267 => (if bt267.2.2.2 = true then ((impl_FloorOk.f bt267.1 bt267.2.1 bt267.2.2.1).bind fun t274 => (if t274 = true then (laws_FnRing.j0 k l0 (wrap64 (2 + (Int.tmod t265 5))) (wrap64 (2 + (Int.tmod t266 5))) ((bt267.2.2.1.length : Int) != (wrap64 ((wrap64 (2 + (Int.tmod t265 5))) * (wrap64 (2 + (Int.tmod t266 5)))))) bt267.1 bt267.2.1 bt267.2.2.1) else (laws_FnRing.j0 k l0 (wrap64 (2 + (Int.tmod t265 5))) (wrap64 (2 + (Int.tmod t266 5))) true bt267.1 bt267.2.1 bt267.2.2.1))) else (laws_FnRing.j0 k l0 (wrap64 (2 + (Int.tmod t265 5))) (wrap64 (2 + (Int.tmod t266 5))) true bt267.1 bt267.2.1 bt267.2.2.1))))))) = some r := h
 clear h; replace H := Option.bind_eq_some_iff.mp H
 obtain ⟨t264, A20, H⟩ := H
 replace H : (if t264 = true then (some true) else ((laws_at.f l0 0).bind fun t265 => ((laws_at.f l0 1).bind fun t266 => ((impl_OneWay.f k (wrap64 (2 + (Int.tmod t265 5))) (wrap64 (2 + (Int.tmod t266 5)))).bind fun bt267 => (if bt267.2.2.2 = true then ((impl_FloorOk.f bt267.1 bt267.2.1 bt267.2.2.1).bind fun t274 => (if t274 = true then (laws_FnRing.j0 k l0 (wrap64 (2 + (Int.tmod t265 5))) (wrap64 (2 + (Int.tmod t266 5))) ((bt267.2.2.1.length : Int) != (wrap64 ((wrap64 (2 + (Int.tmod t265 5))) * (wrap64 (2 + (Int.tmod t266 5)))))) bt267.1 bt267.2.1 bt267.2.2.1) else (laws_FnRing.j0 k l0 (wrap64 (2 + (Int.tmod t265 5))) (wrap64 (2 + (Int.tmod t266 5))) true bt267.1 bt267.2.1 bt267.2.2.1))) else (laws_FnRing.j0 k l0 (wrap64 (2 + (Int.tmod t265 5))) (wrap64 (2 + (Int.tmod t266 5))) true bt267.1 bt267.2.1 bt267.2.2.1)))))) = some r := H
 have A2 := Aside0.mk A20
 clear A20
 by_cases c3 : t264 = true
 ·subst c3
  have H1 : (some true) = some r := by rw [if_pos rfl] at H; exact H
  clear H
  have H := H1
  clear H1
  obtain rfl := Option.some.inj H
  go_enter Try.func8, Try.ntmps8
  go_wp2_with (first | ((with_reducible refine gate_callee (f := 9) rfl ?_); refine goesL_ (some 19) rfl rfl Try.func9 (by kernel_rfl) rfl #[.slice A0 l0.length c0] rfl (by (try simp only [List.map_toArray, List.map_cons, List.map_nil]); first | done | rfl | (simp only [List.length_drop, List.length_take]; rfl)) ?_; (with_reducible refine (laws_big.calls _ _ l0 true _ ?side1 ?side2 A2.out).mono ?_); (case side1 => repeat (first | exact HR0.out | (with_reducible refine Kd.C_alloc ?_ _) | (with_reducible refine Kd.C_drewN ?_ _) | (with_reducible refine Kd.C_drew ?_))); (case side2 => exact HC0.out); rintro e w' ⟨rfl, ⟨nd, rfl⟩⟩; refine ⟨_, rfl, ?_⟩))
  go_ret
  exact ⟨by first | rfl | (simp [errW_none, errW_some] <;> rfl) | (simp [*, errW_none, errW_some] <;> rfl), bel_ HB.out⟩
 case neg =>
 replace c3 := Bool.eq_false_iff.mpr c3
 subst c3
 have H1 : ((laws_at.f l0 0).bind fun t265 => ((laws_at.f l0 1).bind fun t266 => ((impl_OneWay.f k (wrap64 (2 + (Int.tmod t265 5))) (wrap64 (2 + (Int.tmod t266 5)))).bind fun bt267 => (if bt267.2.2.2 = true then ((impl_FloorOk.f bt267.1 bt267.2.1 bt267.2.2.1).bind fun t274 => (if t274 = true then (laws_FnRing.j0 k l0 (wrap64 (2 + (Int.tmod t265 5))) (wrap64 (2 + (Int.tmod t266 5))) ((bt267.2.2.1.length : Int) != (wrap64 ((wrap64 (2 + (Int.tmod t265 5))) * (wrap64 (2 + (Int.tmod t266 5)))))) bt267.1 bt267.2.1 bt267.2.2.1) else (laws_FnRing.j0 k l0 (wrap64 (2 + (Int.tmod t265 5))) (wrap64 (2 + (Int.tmod t266 5))) true bt267.1 bt267.2.1 bt267.2.2.1))) else (laws_FnRing.j0 k l0 (wrap64 (2 + (Int.tmod t265 5))) (wrap64 (2 + (Int.tmod t266 5))) true bt267.1 bt267.2.1 bt267.2.2.1))))) = some r := by rw [if_neg (show ¬ (false = true) by decide)] at H; exact H
 clear H
 have H := H1
 clear H1; replace H := Option.bind_eq_some_iff.mp H
 obtain ⟨t265, A40, H⟩ := H
 replace H : ((laws_at.f l0 1).bind fun t266 => ((impl_OneWay.f k (wrap64 (2 + (Int.tmod t265 5))) (wrap64 (2 + (Int.tmod t266 5)))).bind fun bt267 => (if bt267.2.2.2 = true then ((impl_FloorOk.f bt267.1 bt267.2.1 bt267.2.2.1).bind fun t274 => (if t274 = true then (laws_FnRing.j0 k l0 (wrap64 (2 + (Int.tmod t265 5))) (wrap64 (2 + (Int.tmod t266 5))) ((bt267.2.2.1.length : Int) != (wrap64 ((wrap64 (2 + (Int.tmod t265 5))) * (wrap64 (2 + (Int.tmod t266 5)))))) bt267.1 bt267.2.1 bt267.2.2.1) else (laws_FnRing.j0 k l0 (wrap64 (2 + (Int.tmod t265 5))) (wrap64 (2 + (Int.tmod t266 5))) true bt267.1 bt267.2.1 bt267.2.2.1))) else (laws_FnRing.j0 k l0 (wrap64 (2 + (Int.tmod t265 5))) (wrap64 (2 + (Int.tmod t266 5))) true bt267.1 bt267.2.1 bt267.2.2.1)))) = some r := H
 have A4 := Aside0.mk A40
 clear A40; replace H := Option.bind_eq_some_iff.mp H
 obtain ⟨t266, A50, H⟩ := H
 replace H : ((impl_OneWay.f k (wrap64 (2 + (Int.tmod t265 5))) (wrap64 (2 + (Int.tmod t266 5)))).bind fun bt267 => (if bt267.2.2.2 = true then ((impl_FloorOk.f bt267.1 bt267.2.1 bt267.2.2.1).bind fun t274 => (if t274 = true then (laws_FnRing.j0 k l0 (wrap64 (2 + (Int.tmod t265 5))) (wrap64 (2 + (Int.tmod t266 5))) ((bt267.2.2.1.length : Int) != (wrap64 ((wrap64 (2 + (Int.tmod t265 5))) * (wrap64 (2 + (Int.tmod t266 5)))))) bt267.1 bt267.2.1 bt267.2.2.1) else (laws_FnRing.j0 k l0 (wrap64 (2 + (Int.tmod t265 5))) (wrap64 (2 + (Int.tmod t266 5))) true bt267.1 bt267.2.1 bt267.2.2.1))) else (laws_FnRing.j0 k l0 (wrap64 (2 + (Int.tmod t265 5))) (wrap64 (2 + (Int.tmod t266 5))) true bt267.1 bt267.2.1 bt267.2.2.1))) = some r := H
 have A5 := Aside0.mk A50
 clear A50; replace H := Option.bind_eq_some_iff.mp H
 obtain ⟨⟨t267, t268, t269, t272⟩, A60, H⟩ := H
 replace H : (if t272 = true then ((impl_FloorOk.f t267 t268 t269).bind fun t274 => (if t274 = true then (laws_FnRing.j0 k l0 (wrap64 (2 + (Int.tmod t265 5))) (wrap64 (2 + (Int.tmod t266 5))) ((t269.length : Int) != (wrap64 ((wrap64 (2 + (Int.tmod t265 5))) * (wrap64 (2 + (Int.tmod t266 5)))))) t267 t268 t269) else (laws_FnRing.j0 k l0 (wrap64 (2 + (Int.tmod t265 5))) (wrap64 (2 + (Int.tmod t266 5))) true t267 t268 t269))) else (laws_FnRing.j0 k l0 (wrap64 (2 + (Int.tmod t265 5))) (wrap64 (2 + (Int.tmod t266 5))) true t267 t268 t269)) = some r := H
 have A6 := Aside0.mk A60
 clear A60
 have HC7 := Aside0.mk H
 clear H
 go_enter Try.func8, Try.ntmps8
 go_upto_region 5 with (first | ((with_reducible refine gate_callee (f := 9) rfl ?_); refine goesL_ (some 19) rfl rfl Try.func9 (by kernel_rfl) rfl #[.slice A0 l0.length c0] rfl (by (try simp only [List.map_toArray, List.map_cons, List.map_nil]); first | done | rfl | (simp only [List.length_drop, List.length_take]; rfl)) ?_; (with_reducible refine (laws_big.calls _ _ l0 false _ ?side1 ?side2 A2.out).mono ?_); (case side1 => repeat (first | exact HR0.out | (with_reducible refine Kd.C_alloc ?_ _) | (with_reducible refine Kd.C_drewN ?_ _) | (with_reducible refine Kd.C_drew ?_))); (case side2 => exact HC0.out); rintro e w' ⟨rfl, ⟨nd, rfl⟩⟩; refine ⟨_, rfl, ?_⟩) | ((with_reducible refine gate_callee (f := 13) rfl ?_); refine goesL_ (some 21) rfl rfl Try.func13 (by kernel_rfl) rfl #[.slice A0 l0.length c0, .int .i64 0] rfl (by (try simp only [List.map_toArray, List.map_cons, List.map_nil]); first | done | rfl | (simp only [List.length_drop, List.length_take]; rfl)) ?_; (with_reducible refine (laws_at.calls _ _ l0 0 t265 _ ?side1 ?side2 A4.out).mono ?_); (case side1 => repeat (first | exact HR0.out | (with_reducible refine Kd.C_alloc ?_ _) | (with_reducible refine Kd.C_drewN ?_ _) | (with_reducible refine Kd.C_drew ?_))); (case side2 => exact HC0.out); rintro e w' ⟨rfl, ⟨nd, rfl⟩⟩; refine ⟨_, rfl, ?_⟩) | ((with_reducible refine gate_callee (f := 13) rfl ?_); refine goesL_ (some 25) rfl rfl Try.func13 (by kernel_rfl) rfl #[.slice A0 l0.length c0, .int .i64 1] rfl (by (try simp only [List.map_toArray, List.map_cons, List.map_nil]); first | done | rfl | (simp only [List.length_drop, List.length_take]; rfl)) ?_; (with_reducible refine (laws_at.calls _ _ l0 1 t266 _ ?side1 ?side2 A5.out).mono ?_); (case side1 => repeat (first | exact HR0.out | (with_reducible refine Kd.C_alloc ?_ _) | (with_reducible refine Kd.C_drewN ?_ _) | (with_reducible refine Kd.C_drew ?_))); (case side2 => exact HC0.out); rintro e w' ⟨rfl, ⟨nd, rfl⟩⟩; refine ⟨_, rfl, ?_⟩) | ((with_reducible refine gate_callee (f := 35) rfl ?_); refine goesL_ (some 31) rfl rfl Try.func35 (by kernel_rfl) rfl #[.int .i64 (wrap64 (2 + (Int.tmod t265 5))), .int .i64 (wrap64 (2 + (Int.tmod t266 5)))] rfl (by (try simp only [List.map_toArray, List.map_cons, List.map_nil]); first | done | rfl | (simp only [List.length_drop, List.length_take]; rfl)) ?_; (with_reducible refine (impl_OneWay.calls k (wrap64 (2 + (Int.tmod t265 5))) (wrap64 (2 + (Int.tmod t266 5))) t267 t268 t269 t272 _ A6.out).mono ?_); rintro e w8 ⟨v270, rfl, ho0, hb⟩; refine ⟨_, rfl, ?_⟩; have HO271 := Aside0.mk (Kd.R_lower ho0 (below_size (bel_ HB.out))); replace HB := Aside0.mk (below_step (bel_ HB.out) hb); (try clear hb); (try clear hb2); (try clear hk); (try clear hi); (try clear ho0)) | ((with_reducible refine gate_dst (N := 5) rfl ?_); (try (refine gate_guard (by rfl) ?_; dsimp only)); refine box_event ?hg (N := 5) ?hd (cs := #[.int .i64 0, .int .i64 0, .slice none 0 0]) (t := 84) ?hr ?_; (case hd => rfl); (case hg => rfl); (case hr => first | (go_simp; done) | (go_simp; rfl)); intro gb273 hg w9 hbox hb; replace HO271 := Aside0.mk (Kd.R_below (fr_ HO271.out) hb); have BK273 := Aside0.mk (hbox); have GW273 := Aside0.mk ((by rw [hg]; exact (below_size (bel_ HB.out)) : w.heap.size ≤ gb273)); have GE273 := Aside0.mk ((by rw [hg]; exact (below_size (bel_ HB.out)) : w.heap.size ≤ gb273)); replace HB := Aside0.mk (below_step (bel_ HB.out) hb); clear hb hbox hg; have hcz10_0 : w9.cell? ⟨gb273, 0, none⟩ = some (.int .i64 0) := bc_ BK273.out 0; have hcz10_1 : w9.cell? ⟨gb273, 1, none⟩ = some (.int .i64 0) := bc_ BK273.out 1; have hcz10_2 : w9.cell? ⟨gb273, 2, none⟩ = some (.slice none 0 0) := bc_ BK273.out 2; have hfz10_0 := blk_frozen BK273.out 0; have hfz10_1 := blk_frozen BK273.out 1; have hfz10_2 := blk_frozen BK273.out 2; obtain ⟨Ao11, co11, eo11⟩ := Kd.R_slice HO271.out; subst eo11))
 (try simp only [Act.put, sA_, sZ_, sS_])
 go_cut [49] (fun v49 wc => ∃ (kq : Nat) (x49_6 : Bool), v49 = .bool x49_6 ∧ Aside0 (laws_FnRing.j0 kq l0 (wrap64 (2 + (Int.tmod t265 5))) (wrap64 (2 + (Int.tmod t266 5))) x49_6 t267 t268 t269 = some r) ∧ Aside0 (kq ≤ k) ∧ Aside0 (Kd.R (Kd.int .i64) 3 wc w.heap.size (fun _ => True) (.slice Ao11 t269.length co11) t269) ∧ Aside0 (wc.heap[gb273]? = some (.cells #[.int .i64 t267, .int .i64 t268, (.slice Ao11 t269.length co11)] 84 (0, 0))) ∧ Aside0 (Below w.heap.size w wc))
 case first =>
  have H := HC7.out
  clear HC7
  by_cases c12 : t272 = true
  ·subst c12
   have H1 : ((impl_FloorOk.f t267 t268 t269).bind fun t274 => (if t274 = true then (laws_FnRing.j0 k l0 (wrap64 (2 + (Int.tmod t265 5))) (wrap64 (2 + (Int.tmod t266 5))) ((t269.length : Int) != (wrap64 ((wrap64 (2 + (Int.tmod t265 5))) * (wrap64 (2 + (Int.tmod t266 5)))))) t267 t268 t269) else (laws_FnRing.j0 k l0 (wrap64 (2 + (Int.tmod t265 5))) (wrap64 (2 + (Int.tmod t266 5))) true t267 t268 t269))) = some r := by rw [if_pos rfl] at H; exact H
   clear H
   have H := H1
   clear H1; replace H := Option.bind_eq_some_iff.mp H
   obtain ⟨t274, A130, H⟩ := H
   replace H : (if t274 = true then (laws_FnRing.j0 k l0 (wrap64 (2 + (Int.tmod t265 5))) (wrap64 (2 + (Int.tmod t266 5))) ((t269.length : Int) != (wrap64 ((wrap64 (2 + (Int.tmod t265 5))) * (wrap64 (2 + (Int.tmod t266 5)))))) t267 t268 t269) else (laws_FnRing.j0 k l0 (wrap64 (2 + (Int.tmod t265 5))) (wrap64 (2 + (Int.tmod t266 5))) true t267 t268 t269)) = some r := H
   have A13 := Aside0.mk A130
   clear A130
   by_cases c14 : t274 = true
   ·subst c14
    have H1 : (laws_FnRing.j0 k l0 (wrap64 (2 + (Int.tmod t265 5))) (wrap64 (2 + (Int.tmod t266 5))) ((t269.length : Int) != (wrap64 ((wrap64 (2 + (Int.tmod t265 5))) * (wrap64 (2 + (Int.tmod t266 5)))))) t267 t268 t269) = some r := by rw [if_pos rfl] at H; exact H
    clear H
    have H := H1
    clear H1
    have H' := Aside0.mk H
    clear H; have hcz15_0 : w9.cell? ⟨gb273, 0, none⟩ = some (.int .i64 0) := bc_ BK273.out 0; have hcz15_1 : w9.cell? ⟨gb273, 1, none⟩ = some (.int .i64 0) := bc_ BK273.out 1; have hcz15_2 : w9.cell? ⟨gb273, 2, none⟩ = some (.slice none 0 0) := bc_ BK273.out 2; have hfz15_0 := blk_frozen BK273.out 0; have hfz15_1 := blk_frozen BK273.out 1; have hfz15_2 := blk_frozen BK273.out 2
    go_wp2_with (first | (go_at_call 36; (with_reducible refine (impl_FloorOk.calls t267 t268 _ _ t269 true _ ?side1 ?side2 A13.out).mono ?_); (case side1 => refine (Kd.R_reads' (e := 3) (base := w.heap.size) (ok := fun k_ => True) (n := t269.length) (c := co11) ?_).2.2; exact (by (with_reducible repeat (first | apply Kd.R_alloc | apply Kd.R_drewN | apply Kd.R_drew)); exact (Kd.R_mono (Kd.R_far (p := ⟨gb273, 2, none⟩) (Kd.R_far (p := ⟨gb273, 1, none⟩) (Kd.R_far (p := ⟨gb273, 0, none⟩) (Kd.R_types HO271.out BK273.out (by decide)) (fun _ hk => hk.2) (.int .i64 t267)) (fun _ hk => hk.2) (.int .i64 t268)) (fun _ hk => hk.2) (.slice Ao11 t269.length co11)) (fun _ h_ => h_.1)))); (case side2 => exact (Kd.R_reads' HO271.out).2.1); rintro e w16 ⟨rfl, hb⟩; replace HO271 := Aside0.mk (Kd.R_below (by (with_reducible repeat (first | apply Kd.R_alloc | apply Kd.R_drewN | apply Kd.R_drew)); exact (Kd.R_mono (Kd.R_far (p := ⟨gb273, 2, none⟩) (Kd.R_far (p := ⟨gb273, 1, none⟩) (Kd.R_far (p := ⟨gb273, 0, none⟩) (Kd.R_types HO271.out BK273.out (by decide)) (fun _ hk => hk.2) (.int .i64 t267)) (fun _ hk => hk.2) (.int .i64 t268)) (fun _ hk => hk.2) (.slice Ao11 t269.length co11)) (fun _ h_ => h_.1))) hb); replace BK273 := Aside0.mk (blk_below (g := gb273) (o := .cells #[.int .i64 t267, .int .i64 t268, .slice Ao11 t269.length co11] 84 (0, 0)) (by (with_reducible repeat (first | refine blk_drewN ?_ _ | refine blk_drew ?_ | refine blk_alloc ?_ _)); refine blk_put (cs := #[.int .i64 t267, .int .i64 t268, .slice none 0 0]) ?_ 2 _ rfl; (with_reducible repeat (first | refine blk_drewN ?_ _ | refine blk_drew ?_ | refine blk_alloc ?_ _)); refine blk_put (cs := #[.int .i64 t267, .int .i64 0, .slice none 0 0]) ?_ 1 _ rfl; (with_reducible repeat (first | refine blk_drewN ?_ _ | refine blk_drew ?_ | refine blk_alloc ?_ _)); refine blk_put (cs := #[.int .i64 0, .int .i64 0, .slice none 0 0]) ?_ 0 _ rfl; (with_reducible repeat (first | refine blk_drewN ?_ _ | refine blk_drew ?_ | refine blk_alloc ?_ _)); exact BK273.out) hb); replace HB := Aside0.mk (below_step (bel_ HB.out) hb); (try clear hb); (try clear hb2); (try clear hk); (try clear hi); have hcz17_0 : w16.cell? ⟨gb273, 0, none⟩ = some (.int .i64 t267) := bc_ BK273.out 0; have hcz17_1 : w16.cell? ⟨gb273, 1, none⟩ = some (.int .i64 t268) := bc_ BK273.out 1; have hcz17_2 : w16.cell? ⟨gb273, 2, none⟩ = some (.slice Ao11 t269.length co11) := bc_ BK273.out 2; have hfz17_0 := blk_frozen BK273.out 0; have hfz17_1 := blk_frozen BK273.out 1; have hfz17_2 := blk_frozen BK273.out 2))
    go_meet
    case rel => exact ⟨_, (((t269.length : Int) != (wrap64 ((wrap64 (2 + (Int.tmod t265 5))) * (wrap64 (2 + (Int.tmod t266 5))))))), rl_, H', ⟨by first | omega | exact Nat.le_refl _⟩, ⟨fr_ HO271.out⟩, ⟨fb_ BK273.out⟩, ⟨bel_ HB.out⟩⟩
   case neg =>
   replace c14 := Bool.eq_false_iff.mpr c14
   subst c14
   have H1 : (laws_FnRing.j0 k l0 (wrap64 (2 + (Int.tmod t265 5))) (wrap64 (2 + (Int.tmod t266 5))) true t267 t268 t269) = some r := by rw [if_neg (show ¬ (false = true) by decide)] at H; exact H
   clear H
   have H := H1
   clear H1
   have H' := Aside0.mk H
   clear H; have hcz18_0 : w9.cell? ⟨gb273, 0, none⟩ = some (.int .i64 0) := bc_ BK273.out 0; have hcz18_1 : w9.cell? ⟨gb273, 1, none⟩ = some (.int .i64 0) := bc_ BK273.out 1; have hcz18_2 : w9.cell? ⟨gb273, 2, none⟩ = some (.slice none 0 0) := bc_ BK273.out 2; have hfz18_0 := blk_frozen BK273.out 0; have hfz18_1 := blk_frozen BK273.out 1; have hfz18_2 := blk_frozen BK273.out 2
   go_wp2_with (first | (go_at_call 36; (with_reducible refine (impl_FloorOk.calls t267 t268 _ _ t269 false _ ?side1 ?side2 A13.out).mono ?_); (case side1 => refine (Kd.R_reads' (e := 3) (base := w.heap.size) (ok := fun k_ => True) (n := t269.length) (c := co11) ?_).2.2; exact (by (with_reducible repeat (first | apply Kd.R_alloc | apply Kd.R_drewN | apply Kd.R_drew)); exact (Kd.R_mono (Kd.R_far (p := ⟨gb273, 2, none⟩) (Kd.R_far (p := ⟨gb273, 1, none⟩) (Kd.R_far (p := ⟨gb273, 0, none⟩) (Kd.R_types HO271.out BK273.out (by decide)) (fun _ hk => hk.2) (.int .i64 t267)) (fun _ hk => hk.2) (.int .i64 t268)) (fun _ hk => hk.2) (.slice Ao11 t269.length co11)) (fun _ h_ => h_.1)))); (case side2 => exact (Kd.R_reads' HO271.out).2.1); rintro e w19 ⟨rfl, hb⟩; replace HO271 := Aside0.mk (Kd.R_below (by (with_reducible repeat (first | apply Kd.R_alloc | apply Kd.R_drewN | apply Kd.R_drew)); exact (Kd.R_mono (Kd.R_far (p := ⟨gb273, 2, none⟩) (Kd.R_far (p := ⟨gb273, 1, none⟩) (Kd.R_far (p := ⟨gb273, 0, none⟩) (Kd.R_types HO271.out BK273.out (by decide)) (fun _ hk => hk.2) (.int .i64 t267)) (fun _ hk => hk.2) (.int .i64 t268)) (fun _ hk => hk.2) (.slice Ao11 t269.length co11)) (fun _ h_ => h_.1))) hb); replace BK273 := Aside0.mk (blk_below (g := gb273) (o := .cells #[.int .i64 t267, .int .i64 t268, .slice Ao11 t269.length co11] 84 (0, 0)) (by (with_reducible repeat (first | refine blk_drewN ?_ _ | refine blk_drew ?_ | refine blk_alloc ?_ _)); refine blk_put (cs := #[.int .i64 t267, .int .i64 t268, .slice none 0 0]) ?_ 2 _ rfl; (with_reducible repeat (first | refine blk_drewN ?_ _ | refine blk_drew ?_ | refine blk_alloc ?_ _)); refine blk_put (cs := #[.int .i64 t267, .int .i64 0, .slice none 0 0]) ?_ 1 _ rfl; (with_reducible repeat (first | refine blk_drewN ?_ _ | refine blk_drew ?_ | refine blk_alloc ?_ _)); refine blk_put (cs := #[.int .i64 0, .int .i64 0, .slice none 0 0]) ?_ 0 _ rfl; (with_reducible repeat (first | refine blk_drewN ?_ _ | refine blk_drew ?_ | refine blk_alloc ?_ _)); exact BK273.out) hb); replace HB := Aside0.mk (below_step (bel_ HB.out) hb); (try clear hb); (try clear hb2); (try clear hk); (try clear hi)))
   go_meet
   case rel => exact ⟨_, (true), rl_, H', ⟨by first | omega | exact Nat.le_refl _⟩, ⟨fr_ HO271.out⟩, ⟨fb_ BK273.out⟩, ⟨bel_ HB.out⟩⟩
  ·replace c12 := Bool.eq_false_iff.mpr c12
   subst c12
   have H1 : (laws_FnRing.j0 k l0 (wrap64 (2 + (Int.tmod t265 5))) (wrap64 (2 + (Int.tmod t266 5))) true t267 t268 t269) = some r := by rw [if_neg (show ¬ (false = true) by decide)] at H; exact H
   clear H
   have H := H1
   clear H1
   have H' := Aside0.mk H
   clear H
   go_wp2
   go_meet
   case rel => exact ⟨_, (true), rl_, H', ⟨by first | omega | exact Nat.le_refl _⟩, ⟨by (with_reducible repeat (first | apply Kd.R_alloc | apply Kd.R_drewN | apply Kd.R_drew)); exact Kd.R_mono (Kd.R_far (p := ⟨gb273, 2, none⟩) (Kd.R_far (p := ⟨gb273, 1, none⟩) (Kd.R_far (p := ⟨gb273, 0, none⟩) (Kd.R_types HO271.out BK273.out (by decide)) (fun _ hk => hk.2) (.int .i64 t267)) (fun _ hk => hk.2) (.int .i64 t268)) (fun _ hk => hk.2) (.slice Ao11 t269.length co11)) (fun _ hk => trivial)⟩, ⟨by (with_reducible repeat (first | refine blk_drewN ?_ _ | refine blk_drew ?_ | refine blk_alloc ?_ _)); refine blk_put (cs := #[.int .i64 t267, .int .i64 t268, .slice none 0 0]) ?_ 2 _ rfl; (with_reducible repeat (first | refine blk_drewN ?_ _ | refine blk_drew ?_ | refine blk_alloc ?_ _)); refine blk_put (cs := #[.int .i64 t267, .int .i64 0, .slice none 0 0]) ?_ 1 _ rfl; (with_reducible repeat (first | refine blk_drewN ?_ _ | refine blk_drew ?_ | refine blk_alloc ?_ _)); refine blk_put (cs := #[.int .i64 0, .int .i64 0, .slice none 0 0]) ?_ 0 _ rfl; (with_reducible repeat (first | refine blk_drewN ?_ _ | refine blk_drew ?_ | refine blk_alloc ?_ _)); exact BK273.out⟩, ⟨bel_ HB.out⟩⟩
 case rest =>
 clear HC7
 try clear c3
 try clear hcz10_0
 try clear hcz10_1
 try clear hcz10_2
 try clear hfz10_0
 try clear hfz10_1
 try clear hfz10_2
 obtain ⟨kq, x49_6, rfl, HA, HJ6, HO_274002, BK273, HB⟩ := hcut
 cases kq with
 | zero => exact absurd HA.out (by simp [laws_FnRing.j0])
 | succ kj6 =>
  have H := HA.out
  clear HA
  simp only [laws_FnRing.j0] at H
  by_cases c20 : x49_6 = true
  ·subst c20
   have H1 : (some false) = some r := by rw [if_pos rfl] at H; exact H
   clear H
   have H := H1
   clear H1
   obtain rfl := Option.some.inj H
   go_wp2
   go_ret
   exact ⟨by first | rfl | (simp [errW_none, errW_some] <;> rfl) | (simp [*, errW_none, errW_some] <;> rfl), bel_ HB.out⟩
  case neg =>
  replace c20 := Bool.eq_false_iff.mpr c20
  subst c20
  have H1 : (laws_FnRing.l0 kj6 l0 (wrap64 (2 + (Int.tmod t265 5))) (wrap64 (2 + (Int.tmod t266 5))) (([] : List Int)) 0 0 t267 t268 t269) = some r := by rw [if_neg (show ¬ (false = true) by decide)] at H; exact H
  clear H
  have H := H1
  clear H1
  obtain ⟨y275, hy275⟩ : ∃ y_ : List Int, y_ = (([] : List Int)) := ⟨_, rfl⟩
  replace H : (laws_FnRing.l0 kj6 l0 (wrap64 (2 + (Int.tmod t265 5))) (wrap64 (2 + (Int.tmod t266 5))) y275 0 0 t267 t268 t269) = some r := by first | (rw [hy275]; with_reducible exact H) | (have H2_ := (Option.bind_some _ _).symm.trans H; rw [hy275]; with_reducible exact H2_) | (have H2_ := (Option.bind_some _ _).symm.trans H; with_reducible exact H2_) | with_reducible exact H | (rw [hy275]; exact H) | exact H
  have Ny275 := Aside0.mk hy275
  clear hy275
  have H' := Aside0.mk H
  clear H
  go_wp2_with (first | ((with_reducible refine gate_dst (N := 50) rfl ?_); (try (refine gate_guard (by rfl) ?_; dsimp only)); refine Kd.R_lit (Kd.int .i64) _ 3 ?hg (N := 50) ?hd (xs := ([] : List Int)) (inner := []) (ok := fun _ => True) (okp := fun _ => True) ?hr ?hp (fun _ hk => hk) trivial (Below.refl _ _) (Nat.le_refl _) (by simp) ?_; (case hd => rfl); (case hg => rfl); (case hr => first | (go_simp; done) | (go_simp; rfl)); (case hp => exact (Reps.none _ _)); intro v276 w21 ho22 hb hg_ hnew_; clear hg_ hnew_; (first | rw [← Ny275.out] at ho22 | (simp only [Int.reduceToNat] at ho22; rw [← Ny275.out] at ho22)); have HO277 := Aside0.mk (Kd.R_lower (Kd.R_new' ho22 (Kd.R_lt (fr_ HO_274002.out))) (below_size (bel_ HB.out))); replace HO_274002 := Aside0.mk (Kd.R_elder' (fr_ HO_274002.out) (Kd.R_base ho22) hb); replace BK273 := Aside0.mk (blk_below (g := gb273) (o := .cells #[.int .i64 t267, .int .i64 t268, .slice Ao11 t269.length co11] 84 (0, 0)) (fb_ BK273.out) hb); replace HB := Aside0.mk (below_step (bel_ HB.out) hb); clear hb ho22))
  go_loopg [7, 8, 9] kj6 (fun kq v7 v8 v9 w' => ∃ (x7_2 : List Int) (x8_2 : Int) (x9_2 : Int), v8 = .int .i64 x8_2 ∧ v9 = .int .i64 x9_2 ∧ Aside0 (laws_FnRing.l0 kq l0 (wrap64 (2 + (Int.tmod t265 5))) (wrap64 (2 + (Int.tmod t266 5))) x7_2 x8_2 x9_2 t267 t268 t269 = some r) ∧ Aside0 (kq ≤ kj6) ∧ Aside0 (Kd.R (Kd.int .i64) 3 w' w.heap.size (fun k_ => some k_ ≠ ((.slice Ao11 t269.length co11) : Value).ownBlock) v7 x7_2) ∧ Aside0 (Kd.R (Kd.int .i64) 3 w' w.heap.size (fun k_ => nB_ (v7) k_) (.slice Ao11 t269.length co11) t269) ∧ Aside0 (w'.heap[gb273]? = some (.cells #[.int .i64 t267, .int .i64 t268, (.slice Ao11 t269.length co11)] 84 (0, 0))) ∧ Aside0 (Below w.heap.size w w'))
  case atStart => exact ⟨(y275), (0), (0), rl_, rl_, H', ⟨Nat.le_refl _⟩, ⟨rn_ HO277.out (fun _ hk => hk.2)⟩, ⟨rn_ HO_274002.out (fun _ hk => hk.2)⟩, ⟨fb_ BK273.out⟩, ⟨bel_ HB.out⟩⟩
  case round =>
   clear H'
   try clear c3
   try clear c20
   try clear hcz10_0
   try clear hcz10_1
   try clear hcz10_2
   try clear hfz10_0
   try clear hfz10_1
   try clear hfz10_2
   obtain ⟨x7_2, x8_2, x9_2, rfl, rfl, HA, HK2, HO_7, HO_274002, BK273, HB⟩ := hrel
   cases gk with
   | zero => exact absurd HA.out (by simp [laws_FnRing.l0])
   | succ k2 =>
    have H := HA.out
    clear HA
    simp only [laws_FnRing.l0] at H
    by_cases c23 : x9_2 < (wrap64 ((wrap64 (2 * (wrap64 ((wrap64 (2 + (Int.tmod t265 5))) + (wrap64 (2 + (Int.tmod t266 5))))))) - 4))
    ·rw [if_pos c23] at H
     have c23b0 : decide (x9_2 < (wrap64 ((wrap64 (2 * (wrap64 ((wrap64 (2 + (Int.tmod t265 5))) + (wrap64 (2 + (Int.tmod t266 5))))))) - 4))) = true := decide_eq_true c23
     clear c23
     by_cases c24 : x7_2.length < 17592186044416
     ·rw [if_pos c24] at H
      have LMc24 := Aside0.mk c24
      clear c24
      obtain ⟨y278, hy278⟩ : ∃ y_ : List Int, y_ = (x7_2 ++ [x8_2]) := ⟨_, rfl⟩
      replace H : (if 0 ≤ x8_2 then (if x8_2 < (t269.length : Int) then (if (rd t269 x8_2) = 1 then (if (wrap64 (x8_2 + 1)) < 0 then (some false) else (if (wrap64 (x8_2 + 1)) ≥ (t269.length : Int) then (some false) else (laws_FnRing.l0 k2 l0 (wrap64 (2 + (Int.tmod t265 5))) (wrap64 (2 + (Int.tmod t266 5))) y278 (wrap64 (x8_2 + 1)) (wrap64 (x9_2 + 1)) t267 t268 t269))) else (if (rd t269 x8_2) = 2 then (if (wrap64 (x8_2 + (wrap64 (2 + (Int.tmod t265 5))))) < 0 then (some false) else (if (wrap64 (x8_2 + (wrap64 (2 + (Int.tmod t265 5))))) ≥ (t269.length : Int) then (some false) else (laws_FnRing.l0 k2 l0 (wrap64 (2 + (Int.tmod t265 5))) (wrap64 (2 + (Int.tmod t266 5))) y278 (wrap64 (x8_2 + (wrap64 (2 + (Int.tmod t265 5))))) (wrap64 (x9_2 + 1)) t267 t268 t269))) else (if (rd t269 x8_2) = 4 then (if (wrap64 (x8_2 - 1)) < 0 then (some false) else (if (wrap64 (x8_2 - 1)) ≥ (t269.length : Int) then (some false) else (laws_FnRing.l0 k2 l0 (wrap64 (2 + (Int.tmod t265 5))) (wrap64 (2 + (Int.tmod t266 5))) y278 (wrap64 (x8_2 - 1)) (wrap64 (x9_2 + 1)) t267 t268 t269))) else (if (rd t269 x8_2) = 8 then (if (wrap64 (x8_2 - (wrap64 (2 + (Int.tmod t265 5))))) < 0 then (some false) else (if (wrap64 (x8_2 - (wrap64 (2 + (Int.tmod t265 5))))) ≥ (t269.length : Int) then (some false) else (laws_FnRing.l0 k2 l0 (wrap64 (2 + (Int.tmod t265 5))) (wrap64 (2 + (Int.tmod t266 5))) y278 (wrap64 (x8_2 - (wrap64 (2 + (Int.tmod t265 5))))) (wrap64 (x9_2 + 1)) t267 t268 t269))) else (some false))))) else (none)) else (none)) = some r := by first | (rw [hy278]; with_reducible exact H) | (have H2_ := (Option.bind_some _ _).symm.trans H; rw [hy278]; with_reducible exact H2_) | (have H2_ := (Option.bind_some _ _).symm.trans H; with_reducible exact H2_) | with_reducible exact H | (rw [hy278]; exact H) | exact H
      have Ny278 := Aside0.mk hy278
      clear hy278
      by_cases c25 : 0 ≤ x8_2
      ·rw [if_pos c25] at H
       have c25b0 : decide (0 ≤ x8_2) = true := decide_eq_true c25
       clear c25
       by_cases c26 : x8_2 < (t269.length : Int)
       ·rw [if_pos c26] at H
        have c26b0 : decide (x8_2 < (t269.length : Int)) = true := decide_eq_true c26
        clear c26
        by_cases c27 : (rd t269 x8_2) = 1
        ·rw [if_pos c27] at H
         have c27b0 : ((rd t269 x8_2) == 1) = true := beq_iff_eq.mpr c27
         have c27b1 : ((rd t269 x8_2) != 1) = false := bne_eq_false_iff_eq.mpr c27
         clear c27
         by_cases c28 : (wrap64 (x8_2 + 1)) < 0
         ·rw [if_pos c28] at H
          have c28b0 : decide ((wrap64 (x8_2 + 1)) < 0) = true := decide_eq_true c28
          clear c28
          obtain rfl := Option.some.inj H
          go_wp2_with (first | ((with_reducible refine gate_builtin (b := .append) (xs := #[.tmp 60, .tmp 62]) rfl ?_); (try (refine gate_guard (by rfl) ?_; dsimp only)); at_builtin; refine Kd.R_append (Kd.int .i64) (w0 := w) w.heap.size rfl (.tmp 60) (.tmp 62) 28 3 (.int .i64 0) 8 rfl Try.underlying28 info3 rfl (by decide) (by omega) u7 x7_2 x8_2 [.int .i64 x8_2] (fun k_ => nB_ (.slice Ao11 t269.length co11) k_) (fun _ => False) rfl rfl ?aP (fun _ hk => hk.elim) ?aF ?aO ?aB ?aS ?aL ?_; (case aP => exact rfl); (case aB => exact (bel_ HB.out)); (case aF => exact (fun k_ hk => Kd.fresh' (Kd.R_lt (fr_ HO_274002.out)) k_ hk)); (case aO => exact (fr_ HO_7.out)); (case aS => exact (below_size (bel_ HB.out))); (case aL => have := LMc24.out; omega); intro v279 w29 ho hb hg hat; rw [← Ny278.out] at ho; replace HO_274002 := Aside0.mk (Kd.R_after (ok := (fun _ => True)) (by (with_reducible repeat (first | apply Kd.R_alloc | apply Kd.R_drewN | apply Kd.R_drew)); exact Kd.R_mono HO_274002.out (fun _ hk => ⟨trivial, hk⟩)) hg hat); replace BK273 := Aside0.mk (blk_grown (g := gb273) (o := .cells #[.int .i64 t267, .int .i64 t268, .slice Ao11 t269.length co11] 84 (0, 0)) (fb_ BK273.out) hg (Kd.R_ne HO_7.out BK273.out (by decide))); replace HB := Aside0.mk (hb); have HO280 := Aside0.mk (ho); clear HO_7; clear ho hb hg hat; have hcz30_0 : w29.cell? ⟨gb273, 0, none⟩ = some (.int .i64 t267) := bc_ BK273.out 0; have hcz30_1 : w29.cell? ⟨gb273, 1, none⟩ = some (.int .i64 t268) := bc_ BK273.out 1; have hcz30_2 : w29.cell? ⟨gb273, 2, none⟩ = some (.slice Ao11 t269.length co11) := bc_ BK273.out 2; have hfz30_0 := blk_frozen BK273.out 0; have hfz30_1 := blk_frozen BK273.out 1; have hfz30_2 := blk_frozen BK273.out 2; have p281 : 0 ≤ (x8_2 : Int) := of_decide_eq_true (by first | (with_reducible assumption) | assumption); have q281 : x8_2 < (t269.length : Int) := of_decide_eq_true (by first | (with_reducible assumption) | assumption); obtain ⟨ad281, e281, hx281_0⟩ := Kd.at_int (Kd.R_reads' HO_274002.out).2.2 x8_2 p281 q281; cases e281; replace p281 := eq_true p281; replace q281 := eq_true q281))
          go_ret
          exact ⟨by first | rfl | (simp [errW_none, errW_some] <;> rfl) | (simp [*, errW_none, errW_some] <;> rfl), bel_ HB.out⟩
         case neg =>
         rw [if_neg c28] at H
         have c28b0 : decide ((wrap64 (x8_2 + 1)) < 0) = false := decide_eq_false c28
         clear c28
         by_cases c31 : (wrap64 (x8_2 + 1)) ≥ (t269.length : Int)
         ·rw [if_pos c31] at H
          have c31b0 : decide ((t269.length : Int) ≤ (wrap64 (x8_2 + 1))) = true := decide_eq_true c31
          clear c31
          obtain rfl := Option.some.inj H
          go_wp2_with (first | ((with_reducible refine gate_builtin (b := .append) (xs := #[.tmp 60, .tmp 62]) rfl ?_); (try (refine gate_guard (by rfl) ?_; dsimp only)); at_builtin; refine Kd.R_append (Kd.int .i64) (w0 := w) w.heap.size rfl (.tmp 60) (.tmp 62) 28 3 (.int .i64 0) 8 rfl Try.underlying28 info3 rfl (by decide) (by omega) u7 x7_2 x8_2 [.int .i64 x8_2] (fun k_ => nB_ (.slice Ao11 t269.length co11) k_) (fun _ => False) rfl rfl ?aP (fun _ hk => hk.elim) ?aF ?aO ?aB ?aS ?aL ?_; (case aP => exact rfl); (case aB => exact (bel_ HB.out)); (case aF => exact (fun k_ hk => Kd.fresh' (Kd.R_lt (fr_ HO_274002.out)) k_ hk)); (case aO => exact (fr_ HO_7.out)); (case aS => exact (below_size (bel_ HB.out))); (case aL => have := LMc24.out; omega); intro v279 w32 ho hb hg hat; rw [← Ny278.out] at ho; replace HO_274002 := Aside0.mk (Kd.R_after (ok := (fun _ => True)) (by (with_reducible repeat (first | apply Kd.R_alloc | apply Kd.R_drewN | apply Kd.R_drew)); exact Kd.R_mono HO_274002.out (fun _ hk => ⟨trivial, hk⟩)) hg hat); replace BK273 := Aside0.mk (blk_grown (g := gb273) (o := .cells #[.int .i64 t267, .int .i64 t268, .slice Ao11 t269.length co11] 84 (0, 0)) (fb_ BK273.out) hg (Kd.R_ne HO_7.out BK273.out (by decide))); replace HB := Aside0.mk (hb); have HO280 := Aside0.mk (ho); clear HO_7; clear ho hb hg hat; have hcz33_0 : w32.cell? ⟨gb273, 0, none⟩ = some (.int .i64 t267) := bc_ BK273.out 0; have hcz33_1 : w32.cell? ⟨gb273, 1, none⟩ = some (.int .i64 t268) := bc_ BK273.out 1; have hcz33_2 : w32.cell? ⟨gb273, 2, none⟩ = some (.slice Ao11 t269.length co11) := bc_ BK273.out 2; have hfz33_0 := blk_frozen BK273.out 0; have hfz33_1 := blk_frozen BK273.out 1; have hfz33_2 := blk_frozen BK273.out 2; have p281 : 0 ≤ (x8_2 : Int) := of_decide_eq_true (by first | (with_reducible assumption) | assumption); have q281 : x8_2 < (t269.length : Int) := of_decide_eq_true (by first | (with_reducible assumption) | assumption); obtain ⟨ad281, e281, hx281_0⟩ := Kd.at_int (Kd.R_reads' HO_274002.out).2.2 x8_2 p281 q281; cases e281; replace p281 := eq_true p281; replace q281 := eq_true q281))
          go_ret
          exact ⟨by first | rfl | (simp [errW_none, errW_some] <;> rfl) | (simp [*, errW_none, errW_some] <;> rfl), bel_ HB.out⟩
         ·rw [if_neg c31] at H
          have c31b0 : decide ((t269.length : Int) ≤ (wrap64 (x8_2 + 1))) = false := decide_eq_false c31
          clear c31
          have H' := Aside0.mk H
          clear H
          go_wp2_with (first | ((with_reducible refine gate_builtin (b := .append) (xs := #[.tmp 60, .tmp 62]) rfl ?_); (try (refine gate_guard (by rfl) ?_; dsimp only)); at_builtin; refine Kd.R_append (Kd.int .i64) (w0 := w) w.heap.size rfl (.tmp 60) (.tmp 62) 28 3 (.int .i64 0) 8 rfl Try.underlying28 info3 rfl (by decide) (by omega) u7 x7_2 x8_2 [.int .i64 x8_2] (fun k_ => nB_ (.slice Ao11 t269.length co11) k_) (fun _ => False) rfl rfl ?aP (fun _ hk => hk.elim) ?aF ?aO ?aB ?aS ?aL ?_; (case aP => exact rfl); (case aB => exact (bel_ HB.out)); (case aF => exact (fun k_ hk => Kd.fresh' (Kd.R_lt (fr_ HO_274002.out)) k_ hk)); (case aO => exact (fr_ HO_7.out)); (case aS => exact (below_size (bel_ HB.out))); (case aL => have := LMc24.out; omega); intro v279 w34 ho hb hg hat; rw [← Ny278.out] at ho; replace HO_274002 := Aside0.mk (Kd.R_after (ok := (fun _ => True)) (by (with_reducible repeat (first | apply Kd.R_alloc | apply Kd.R_drewN | apply Kd.R_drew)); exact Kd.R_mono HO_274002.out (fun _ hk => ⟨trivial, hk⟩)) hg hat); replace BK273 := Aside0.mk (blk_grown (g := gb273) (o := .cells #[.int .i64 t267, .int .i64 t268, .slice Ao11 t269.length co11] 84 (0, 0)) (fb_ BK273.out) hg (Kd.R_ne HO_7.out BK273.out (by decide))); replace HB := Aside0.mk (hb); have HO280 := Aside0.mk (ho); clear HO_7; clear ho hb hg hat; have hcz35_0 : w34.cell? ⟨gb273, 0, none⟩ = some (.int .i64 t267) := bc_ BK273.out 0; have hcz35_1 : w34.cell? ⟨gb273, 1, none⟩ = some (.int .i64 t268) := bc_ BK273.out 1; have hcz35_2 : w34.cell? ⟨gb273, 2, none⟩ = some (.slice Ao11 t269.length co11) := bc_ BK273.out 2; have hfz35_0 := blk_frozen BK273.out 0; have hfz35_1 := blk_frozen BK273.out 1; have hfz35_2 := blk_frozen BK273.out 2; have p281 : 0 ≤ (x8_2 : Int) := of_decide_eq_true (by first | (with_reducible assumption) | assumption); have q281 : x8_2 < (t269.length : Int) := of_decide_eq_true (by first | (with_reducible assumption) | assumption); obtain ⟨ad281, e281, hx281_0⟩ := Kd.at_int (Kd.R_reads' HO_274002.out).2.2 x8_2 p281 q281; cases e281; replace p281 := eq_true p281; replace q281 := eq_true q281))
          go_roundg k2
          case measure => have := HJ6.out; have := HK2.out; omega
          case rel => exact ⟨(y278), (wrap64 (x8_2 + 1)), (wrap64 (x9_2 + 1)), rl_, rl_, H', ⟨by have := HJ6.out; have := HK2.out; omega⟩, ⟨fr_ HO280.out⟩, ⟨rn_ HO_274002.out (fun _ hk => hk.2)⟩, ⟨fb_ BK273.out⟩, ⟨bel_ HB.out⟩⟩
        case neg =>
        rw [if_neg c27] at H
        have c27b0 : ((rd t269 x8_2) == 1) = false := beq_eq_false_iff_ne.mpr c27
        have c27b1 : ((rd t269 x8_2) != 1) = true := bne_iff_ne.mpr c27
        by_cases c36 : (rd t269 x8_2) = 2
        ·rw [if_pos c36] at H
         have c36b0 : ((rd t269 x8_2) == 2) = true := beq_iff_eq.mpr c36
         have c36b1 : ((rd t269 x8_2) != 2) = false := bne_eq_false_iff_eq.mpr c36
         clear c36
         by_cases c37 : (wrap64 (x8_2 + (wrap64 (2 + (Int.tmod t265 5))))) < 0
         ·rw [if_pos c37] at H
          have c37b0 : decide ((wrap64 (x8_2 + (wrap64 (2 + (Int.tmod t265 5))))) < 0) = true := decide_eq_true c37
          clear c37
          obtain rfl := Option.some.inj H
          go_wp2_with (first | ((with_reducible refine gate_builtin (b := .append) (xs := #[.tmp 60, .tmp 62]) rfl ?_); (try (refine gate_guard (by rfl) ?_; dsimp only)); at_builtin; refine Kd.R_append (Kd.int .i64) (w0 := w) w.heap.size rfl (.tmp 60) (.tmp 62) 28 3 (.int .i64 0) 8 rfl Try.underlying28 info3 rfl (by decide) (by omega) u7 x7_2 x8_2 [.int .i64 x8_2] (fun k_ => nB_ (.slice Ao11 t269.length co11) k_) (fun _ => False) rfl rfl ?aP (fun _ hk => hk.elim) ?aF ?aO ?aB ?aS ?aL ?_; (case aP => exact rfl); (case aB => exact (bel_ HB.out)); (case aF => exact (fun k_ hk => Kd.fresh' (Kd.R_lt (fr_ HO_274002.out)) k_ hk)); (case aO => exact (fr_ HO_7.out)); (case aS => exact (below_size (bel_ HB.out))); (case aL => have := LMc24.out; omega); intro v279 w38 ho hb hg hat; rw [← Ny278.out] at ho; replace HO_274002 := Aside0.mk (Kd.R_after (ok := (fun _ => True)) (by (with_reducible repeat (first | apply Kd.R_alloc | apply Kd.R_drewN | apply Kd.R_drew)); exact Kd.R_mono HO_274002.out (fun _ hk => ⟨trivial, hk⟩)) hg hat); replace BK273 := Aside0.mk (blk_grown (g := gb273) (o := .cells #[.int .i64 t267, .int .i64 t268, .slice Ao11 t269.length co11] 84 (0, 0)) (fb_ BK273.out) hg (Kd.R_ne HO_7.out BK273.out (by decide))); replace HB := Aside0.mk (hb); have HO280 := Aside0.mk (ho); clear HO_7; clear ho hb hg hat; have hcz39_0 : w38.cell? ⟨gb273, 0, none⟩ = some (.int .i64 t267) := bc_ BK273.out 0; have hcz39_1 : w38.cell? ⟨gb273, 1, none⟩ = some (.int .i64 t268) := bc_ BK273.out 1; have hcz39_2 : w38.cell? ⟨gb273, 2, none⟩ = some (.slice Ao11 t269.length co11) := bc_ BK273.out 2; have hfz39_0 := blk_frozen BK273.out 0; have hfz39_1 := blk_frozen BK273.out 1; have hfz39_2 := blk_frozen BK273.out 2; have p281 : 0 ≤ (x8_2 : Int) := of_decide_eq_true (by first | (with_reducible assumption) | assumption); have q281 : x8_2 < (t269.length : Int) := of_decide_eq_true (by first | (with_reducible assumption) | assumption); obtain ⟨ad281, e281, hx281_0⟩ := Kd.at_int (Kd.R_reads' HO_274002.out).2.2 x8_2 p281 q281; cases e281; replace p281 := eq_true p281; replace q281 := eq_true q281))
          go_ret
          exact ⟨by first | rfl | (simp [errW_none, errW_some] <;> rfl) | (simp [*, errW_none, errW_some] <;> rfl), bel_ HB.out⟩
         case neg =>
         rw [if_neg c37] at H
         have c37b0 : decide ((wrap64 (x8_2 + (wrap64 (2 + (Int.tmod t265 5))))) < 0) = false := decide_eq_false c37
         clear c37
         by_cases c40 : (wrap64 (x8_2 + (wrap64 (2 + (Int.tmod t265 5))))) ≥ (t269.length : Int)
         ·rw [if_pos c40] at H
          have c40b0 : decide ((t269.length : Int) ≤ (wrap64 (x8_2 + (wrap64 (2 + (Int.tmod t265 5)))))) = true := decide_eq_true c40
          clear c40
          obtain rfl := Option.some.inj H
          go_wp2_with (first | ((with_reducible refine gate_builtin (b := .append) (xs := #[.tmp 60, .tmp 62]) rfl ?_); (try (refine gate_guard (by rfl) ?_; dsimp only)); at_builtin; refine Kd.R_append (Kd.int .i64) (w0 := w) w.heap.size rfl (.tmp 60) (.tmp 62) 28 3 (.int .i64 0) 8 rfl Try.underlying28 info3 rfl (by decide) (by omega) u7 x7_2 x8_2 [.int .i64 x8_2] (fun k_ => nB_ (.slice Ao11 t269.length co11) k_) (fun _ => False) rfl rfl ?aP (fun _ hk => hk.elim) ?aF ?aO ?aB ?aS ?aL ?_; (case aP => exact rfl); (case aB => exact (bel_ HB.out)); (case aF => exact (fun k_ hk => Kd.fresh' (Kd.R_lt (fr_ HO_274002.out)) k_ hk)); (case aO => exact (fr_ HO_7.out)); (case aS => exact (below_size (bel_ HB.out))); (case aL => have := LMc24.out; omega); intro v279 w41 ho hb hg hat; rw [← Ny278.out] at ho; replace HO_274002 := Aside0.mk (Kd.R_after (ok := (fun _ => True)) (by (with_reducible repeat (first | apply Kd.R_alloc | apply Kd.R_drewN | apply Kd.R_drew)); exact Kd.R_mono HO_274002.out (fun _ hk => ⟨trivial, hk⟩)) hg hat); replace BK273 := Aside0.mk (blk_grown (g := gb273) (o := .cells #[.int .i64 t267, .int .i64 t268, .slice Ao11 t269.length co11] 84 (0, 0)) (fb_ BK273.out) hg (Kd.R_ne HO_7.out BK273.out (by decide))); replace HB := Aside0.mk (hb); have HO280 := Aside0.mk (ho); clear HO_7; clear ho hb hg hat; have hcz42_0 : w41.cell? ⟨gb273, 0, none⟩ = some (.int .i64 t267) := bc_ BK273.out 0; have hcz42_1 : w41.cell? ⟨gb273, 1, none⟩ = some (.int .i64 t268) := bc_ BK273.out 1; have hcz42_2 : w41.cell? ⟨gb273, 2, none⟩ = some (.slice Ao11 t269.length co11) := bc_ BK273.out 2; have hfz42_0 := blk_frozen BK273.out 0; have hfz42_1 := blk_frozen BK273.out 1; have hfz42_2 := blk_frozen BK273.out 2; have p281 : 0 ≤ (x8_2 : Int) := of_decide_eq_true (by first | (with_reducible assumption) | assumption); have q281 : x8_2 < (t269.length : Int) := of_decide_eq_true (by first | (with_reducible assumption) | assumption); obtain ⟨ad281, e281, hx281_0⟩ := Kd.at_int (Kd.R_reads' HO_274002.out).2.2 x8_2 p281 q281; cases e281; replace p281 := eq_true p281; replace q281 := eq_true q281))
          go_ret
          exact ⟨by first | rfl | (simp [errW_none, errW_some] <;> rfl) | (simp [*, errW_none, errW_some] <;> rfl), bel_ HB.out⟩
         ·rw [if_neg c40] at H
          have c40b0 : decide ((t269.length : Int) ≤ (wrap64 (x8_2 + (wrap64 (2 + (Int.tmod t265 5)))))) = false := decide_eq_false c40
          clear c40
          have H' := Aside0.mk H
          clear H
          go_wp2_with (first | ((with_reducible refine gate_builtin (b := .append) (xs := #[.tmp 60, .tmp 62]) rfl ?_); (try (refine gate_guard (by rfl) ?_; dsimp only)); at_builtin; refine Kd.R_append (Kd.int .i64) (w0 := w) w.heap.size rfl (.tmp 60) (.tmp 62) 28 3 (.int .i64 0) 8 rfl Try.underlying28 info3 rfl (by decide) (by omega) u7 x7_2 x8_2 [.int .i64 x8_2] (fun k_ => nB_ (.slice Ao11 t269.length co11) k_) (fun _ => False) rfl rfl ?aP (fun _ hk => hk.elim) ?aF ?aO ?aB ?aS ?aL ?_; (case aP => exact rfl); (case aB => exact (bel_ HB.out)); (case aF => exact (fun k_ hk => Kd.fresh' (Kd.R_lt (fr_ HO_274002.out)) k_ hk)); (case aO => exact (fr_ HO_7.out)); (case aS => exact (below_size (bel_ HB.out))); (case aL => have := LMc24.out; omega); intro v279 w43 ho hb hg hat; rw [← Ny278.out] at ho; replace HO_274002 := Aside0.mk (Kd.R_after (ok := (fun _ => True)) (by (with_reducible repeat (first | apply Kd.R_alloc | apply Kd.R_drewN | apply Kd.R_drew)); exact Kd.R_mono HO_274002.out (fun _ hk => ⟨trivial, hk⟩)) hg hat); replace BK273 := Aside0.mk (blk_grown (g := gb273) (o := .cells #[.int .i64 t267, .int .i64 t268, .slice Ao11 t269.length co11] 84 (0, 0)) (fb_ BK273.out) hg (Kd.R_ne HO_7.out BK273.out (by decide))); replace HB := Aside0.mk (hb); have HO280 := Aside0.mk (ho); clear HO_7; clear ho hb hg hat; have hcz44_0 : w43.cell? ⟨gb273, 0, none⟩ = some (.int .i64 t267) := bc_ BK273.out 0; have hcz44_1 : w43.cell? ⟨gb273, 1, none⟩ = some (.int .i64 t268) := bc_ BK273.out 1; have hcz44_2 : w43.cell? ⟨gb273, 2, none⟩ = some (.slice Ao11 t269.length co11) := bc_ BK273.out 2; have hfz44_0 := blk_frozen BK273.out 0; have hfz44_1 := blk_frozen BK273.out 1; have hfz44_2 := blk_frozen BK273.out 2; have p281 : 0 ≤ (x8_2 : Int) := of_decide_eq_true (by first | (with_reducible assumption) | assumption); have q281 : x8_2 < (t269.length : Int) := of_decide_eq_true (by first | (with_reducible assumption) | assumption); obtain ⟨ad281, e281, hx281_0⟩ := Kd.at_int (Kd.R_reads' HO_274002.out).2.2 x8_2 p281 q281; cases e281; replace p281 := eq_true p281; replace q281 := eq_true q281))
          go_roundg k2
          case measure => have := HJ6.out; have := HK2.out; omega
          case rel => exact ⟨(y278), (wrap64 (x8_2 + (wrap64 (2 + (Int.tmod t265 5))))), (wrap64 (x9_2 + 1)), rl_, rl_, H', ⟨by have := HJ6.out; have := HK2.out; omega⟩, ⟨fr_ HO280.out⟩, ⟨rn_ HO_274002.out (fun _ hk => hk.2)⟩, ⟨fb_ BK273.out⟩, ⟨bel_ HB.out⟩⟩
        case neg =>
        rw [if_neg c36] at H
        have c36b0 : ((rd t269 x8_2) == 2) = false := beq_eq_false_iff_ne.mpr c36
        have c36b1 : ((rd t269 x8_2) != 2) = true := bne_iff_ne.mpr c36
        by_cases c45 : (rd t269 x8_2) = 4
        ·rw [if_pos c45] at H
         have c45b0 : ((rd t269 x8_2) == 4) = true := beq_iff_eq.mpr c45
         have c45b1 : ((rd t269 x8_2) != 4) = false := bne_eq_false_iff_eq.mpr c45
         clear c45
         by_cases c46 : (wrap64 (x8_2 - 1)) < 0
         ·rw [if_pos c46] at H
          have c46b0 : decide ((wrap64 (x8_2 - 1)) < 0) = true := decide_eq_true c46
          clear c46
          obtain rfl := Option.some.inj H
          go_wp2_with (first | ((with_reducible refine gate_builtin (b := .append) (xs := #[.tmp 60, .tmp 62]) rfl ?_); (try (refine gate_guard (by rfl) ?_; dsimp only)); at_builtin; refine Kd.R_append (Kd.int .i64) (w0 := w) w.heap.size rfl (.tmp 60) (.tmp 62) 28 3 (.int .i64 0) 8 rfl Try.underlying28 info3 rfl (by decide) (by omega) u7 x7_2 x8_2 [.int .i64 x8_2] (fun k_ => nB_ (.slice Ao11 t269.length co11) k_) (fun _ => False) rfl rfl ?aP (fun _ hk => hk.elim) ?aF ?aO ?aB ?aS ?aL ?_; (case aP => exact rfl); (case aB => exact (bel_ HB.out)); (case aF => exact (fun k_ hk => Kd.fresh' (Kd.R_lt (fr_ HO_274002.out)) k_ hk)); (case aO => exact (fr_ HO_7.out)); (case aS => exact (below_size (bel_ HB.out))); (case aL => have := LMc24.out; omega); intro v279 w47 ho hb hg hat; rw [← Ny278.out] at ho; replace HO_274002 := Aside0.mk (Kd.R_after (ok := (fun _ => True)) (by (with_reducible repeat (first | apply Kd.R_alloc | apply Kd.R_drewN | apply Kd.R_drew)); exact Kd.R_mono HO_274002.out (fun _ hk => ⟨trivial, hk⟩)) hg hat); replace BK273 := Aside0.mk (blk_grown (g := gb273) (o := .cells #[.int .i64 t267, .int .i64 t268, .slice Ao11 t269.length co11] 84 (0, 0)) (fb_ BK273.out) hg (Kd.R_ne HO_7.out BK273.out (by decide))); replace HB := Aside0.mk (hb); have HO280 := Aside0.mk (ho); clear HO_7; clear ho hb hg hat; have hcz48_0 : w47.cell? ⟨gb273, 0, none⟩ = some (.int .i64 t267) := bc_ BK273.out 0; have hcz48_1 : w47.cell? ⟨gb273, 1, none⟩ = some (.int .i64 t268) := bc_ BK273.out 1; have hcz48_2 : w47.cell? ⟨gb273, 2, none⟩ = some (.slice Ao11 t269.length co11) := bc_ BK273.out 2; have hfz48_0 := blk_frozen BK273.out 0; have hfz48_1 := blk_frozen BK273.out 1; have hfz48_2 := blk_frozen BK273.out 2; have p281 : 0 ≤ (x8_2 : Int) := of_decide_eq_true (by first | (with_reducible assumption) | assumption); have q281 : x8_2 < (t269.length : Int) := of_decide_eq_true (by first | (with_reducible assumption) | assumption); obtain ⟨ad281, e281, hx281_0⟩ := Kd.at_int (Kd.R_reads' HO_274002.out).2.2 x8_2 p281 q281; cases e281; replace p281 := eq_true p281; replace q281 := eq_true q281))
          go_ret
          exact ⟨by first | rfl | (simp [errW_none, errW_some] <;> rfl) | (simp [*, errW_none, errW_some] <;> rfl), bel_ HB.out⟩
         case neg =>
         rw [if_neg c46] at H
         have c46b0 : decide ((wrap64 (x8_2 - 1)) < 0) = false := decide_eq_false c46
         clear c46
         by_cases c49 : (wrap64 (x8_2 - 1)) ≥ (t269.length : Int)
         ·rw [if_pos c49] at H
          have c49b0 : decide ((t269.length : Int) ≤ (wrap64 (x8_2 - 1))) = true := decide_eq_true c49
          clear c49
          obtain rfl := Option.some.inj H
          go_wp2_with (first | ((with_reducible refine gate_builtin (b := .append) (xs := #[.tmp 60, .tmp 62]) rfl ?_); (try (refine gate_guard (by rfl) ?_; dsimp only)); at_builtin; refine Kd.R_append (Kd.int .i64) (w0 := w) w.heap.size rfl (.tmp 60) (.tmp 62) 28 3 (.int .i64 0) 8 rfl Try.underlying28 info3 rfl (by decide) (by omega) u7 x7_2 x8_2 [.int .i64 x8_2] (fun k_ => nB_ (.slice Ao11 t269.length co11) k_) (fun _ => False) rfl rfl ?aP (fun _ hk => hk.elim) ?aF ?aO ?aB ?aS ?aL ?_; (case aP => exact rfl); (case aB => exact (bel_ HB.out)); (case aF => exact (fun k_ hk => Kd.fresh' (Kd.R_lt (fr_ HO_274002.out)) k_ hk)); (case aO => exact (fr_ HO_7.out)); (case aS => exact (below_size (bel_ HB.out))); (case aL => have := LMc24.out; omega); intro v279 w50 ho hb hg hat; rw [← Ny278.out] at ho; replace HO_274002 := Aside0.mk (Kd.R_after (ok := (fun _ => True)) (by (with_reducible repeat (first | apply Kd.R_alloc | apply Kd.R_drewN | apply Kd.R_drew)); exact Kd.R_mono HO_274002.out (fun _ hk => ⟨trivial, hk⟩)) hg hat); replace BK273 := Aside0.mk (blk_grown (g := gb273) (o := .cells #[.int .i64 t267, .int .i64 t268, .slice Ao11 t269.length co11] 84 (0, 0)) (fb_ BK273.out) hg (Kd.R_ne HO_7.out BK273.out (by decide))); replace HB := Aside0.mk (hb); have HO280 := Aside0.mk (ho); clear HO_7; clear ho hb hg hat; have hcz51_0 : w50.cell? ⟨gb273, 0, none⟩ = some (.int .i64 t267) := bc_ BK273.out 0; have hcz51_1 : w50.cell? ⟨gb273, 1, none⟩ = some (.int .i64 t268) := bc_ BK273.out 1; have hcz51_2 : w50.cell? ⟨gb273, 2, none⟩ = some (.slice Ao11 t269.length co11) := bc_ BK273.out 2; have hfz51_0 := blk_frozen BK273.out 0; have hfz51_1 := blk_frozen BK273.out 1; have hfz51_2 := blk_frozen BK273.out 2; have p281 : 0 ≤ (x8_2 : Int) := of_decide_eq_true (by first | (with_reducible assumption) | assumption); have q281 : x8_2 < (t269.length : Int) := of_decide_eq_true (by first | (with_reducible assumption) | assumption); obtain ⟨ad281, e281, hx281_0⟩ := Kd.at_int (Kd.R_reads' HO_274002.out).2.2 x8_2 p281 q281; cases e281; replace p281 := eq_true p281; replace q281 := eq_true q281))
          go_ret
          exact ⟨by first | rfl | (simp [errW_none, errW_some] <;> rfl) | (simp [*, errW_none, errW_some] <;> rfl), bel_ HB.out⟩
         ·rw [if_neg c49] at H
          have c49b0 : decide ((t269.length : Int) ≤ (wrap64 (x8_2 - 1))) = false := decide_eq_false c49
          clear c49
          have H' := Aside0.mk H
          clear H
          go_wp2_with (first | ((with_reducible refine gate_builtin (b := .append) (xs := #[.tmp 60, .tmp 62]) rfl ?_); (try (refine gate_guard (by rfl) ?_; dsimp only)); at_builtin; refine Kd.R_append (Kd.int .i64) (w0 := w) w.heap.size rfl (.tmp 60) (.tmp 62) 28 3 (.int .i64 0) 8 rfl Try.underlying28 info3 rfl (by decide) (by omega) u7 x7_2 x8_2 [.int .i64 x8_2] (fun k_ => nB_ (.slice Ao11 t269.length co11) k_) (fun _ => False) rfl rfl ?aP (fun _ hk => hk.elim) ?aF ?aO ?aB ?aS ?aL ?_; (case aP => exact rfl); (case aB => exact (bel_ HB.out)); (case aF => exact (fun k_ hk => Kd.fresh' (Kd.R_lt (fr_ HO_274002.out)) k_ hk)); (case aO => exact (fr_ HO_7.out)); (case aS => exact (below_size (bel_ HB.out))); (case aL => have := LMc24.out; omega); intro v279 w52 ho hb hg hat; rw [← Ny278.out] at ho; replace HO_274002 := Aside0.mk (Kd.R_after (ok := (fun _ => True)) (by (with_reducible repeat (first | apply Kd.R_alloc | apply Kd.R_drewN | apply Kd.R_drew)); exact Kd.R_mono HO_274002.out (fun _ hk => ⟨trivial, hk⟩)) hg hat); replace BK273 := Aside0.mk (blk_grown (g := gb273) (o := .cells #[.int .i64 t267, .int .i64 t268, .slice Ao11 t269.length co11] 84 (0, 0)) (fb_ BK273.out) hg (Kd.R_ne HO_7.out BK273.out (by decide))); replace HB := Aside0.mk (hb); have HO280 := Aside0.mk (ho); clear HO_7; clear ho hb hg hat; have hcz53_0 : w52.cell? ⟨gb273, 0, none⟩ = some (.int .i64 t267) := bc_ BK273.out 0; have hcz53_1 : w52.cell? ⟨gb273, 1, none⟩ = some (.int .i64 t268) := bc_ BK273.out 1; have hcz53_2 : w52.cell? ⟨gb273, 2, none⟩ = some (.slice Ao11 t269.length co11) := bc_ BK273.out 2; have hfz53_0 := blk_frozen BK273.out 0; have hfz53_1 := blk_frozen BK273.out 1; have hfz53_2 := blk_frozen BK273.out 2; have p281 : 0 ≤ (x8_2 : Int) := of_decide_eq_true (by first | (with_reducible assumption) | assumption); have q281 : x8_2 < (t269.length : Int) := of_decide_eq_true (by first | (with_reducible assumption) | assumption); obtain ⟨ad281, e281, hx281_0⟩ := Kd.at_int (Kd.R_reads' HO_274002.out).2.2 x8_2 p281 q281; cases e281; replace p281 := eq_true p281; replace q281 := eq_true q281))
          go_roundg k2
          case measure => have := HJ6.out; have := HK2.out; omega
          case rel => exact ⟨(y278), (wrap64 (x8_2 - 1)), (wrap64 (x9_2 + 1)), rl_, rl_, H', ⟨by have := HJ6.out; have := HK2.out; omega⟩, ⟨fr_ HO280.out⟩, ⟨rn_ HO_274002.out (fun _ hk => hk.2)⟩, ⟨fb_ BK273.out⟩, ⟨bel_ HB.out⟩⟩
        case neg =>
        rw [if_neg c45] at H
        have c45b0 : ((rd t269 x8_2) == 4) = false := beq_eq_false_iff_ne.mpr c45
        have c45b1 : ((rd t269 x8_2) != 4) = true := bne_iff_ne.mpr c45
        by_cases c54 : (rd t269 x8_2) = 8
        ·rw [if_pos c54] at H
         have c54b0 : ((rd t269 x8_2) == 8) = true := beq_iff_eq.mpr c54
         have c54b1 : ((rd t269 x8_2) != 8) = false := bne_eq_false_iff_eq.mpr c54
         clear c54
         by_cases c55 : (wrap64 (x8_2 - (wrap64 (2 + (Int.tmod t265 5))))) < 0
         ·rw [if_pos c55] at H
          have c55b0 : decide ((wrap64 (x8_2 - (wrap64 (2 + (Int.tmod t265 5))))) < 0) = true := decide_eq_true c55
          clear c55
          obtain rfl := Option.some.inj H
          go_wp2_with (first | ((with_reducible refine gate_builtin (b := .append) (xs := #[.tmp 60, .tmp 62]) rfl ?_); (try (refine gate_guard (by rfl) ?_; dsimp only)); at_builtin; refine Kd.R_append (Kd.int .i64) (w0 := w) w.heap.size rfl (.tmp 60) (.tmp 62) 28 3 (.int .i64 0) 8 rfl Try.underlying28 info3 rfl (by decide) (by omega) u7 x7_2 x8_2 [.int .i64 x8_2] (fun k_ => nB_ (.slice Ao11 t269.length co11) k_) (fun _ => False) rfl rfl ?aP (fun _ hk => hk.elim) ?aF ?aO ?aB ?aS ?aL ?_; (case aP => exact rfl); (case aB => exact (bel_ HB.out)); (case aF => exact (fun k_ hk => Kd.fresh' (Kd.R_lt (fr_ HO_274002.out)) k_ hk)); (case aO => exact (fr_ HO_7.out)); (case aS => exact (below_size (bel_ HB.out))); (case aL => have := LMc24.out; omega); intro v279 w56 ho hb hg hat; rw [← Ny278.out] at ho; replace HO_274002 := Aside0.mk (Kd.R_after (ok := (fun _ => True)) (by (with_reducible repeat (first | apply Kd.R_alloc | apply Kd.R_drewN | apply Kd.R_drew)); exact Kd.R_mono HO_274002.out (fun _ hk => ⟨trivial, hk⟩)) hg hat); replace BK273 := Aside0.mk (blk_grown (g := gb273) (o := .cells #[.int .i64 t267, .int .i64 t268, .slice Ao11 t269.length co11] 84 (0, 0)) (fb_ BK273.out) hg (Kd.R_ne HO_7.out BK273.out (by decide))); replace HB := Aside0.mk (hb); have HO280 := Aside0.mk (ho); clear HO_7; clear ho hb hg hat; have hcz57_0 : w56.cell? ⟨gb273, 0, none⟩ = some (.int .i64 t267) := bc_ BK273.out 0; have hcz57_1 : w56.cell? ⟨gb273, 1, none⟩ = some (.int .i64 t268) := bc_ BK273.out 1; have hcz57_2 : w56.cell? ⟨gb273, 2, none⟩ = some (.slice Ao11 t269.length co11) := bc_ BK273.out 2; have hfz57_0 := blk_frozen BK273.out 0; have hfz57_1 := blk_frozen BK273.out 1; have hfz57_2 := blk_frozen BK273.out 2; have p281 : 0 ≤ (x8_2 : Int) := of_decide_eq_true (by first | (with_reducible assumption) | assumption); have q281 : x8_2 < (t269.length : Int) := of_decide_eq_true (by first | (with_reducible assumption) | assumption); obtain ⟨ad281, e281, hx281_0⟩ := Kd.at_int (Kd.R_reads' HO_274002.out).2.2 x8_2 p281 q281; cases e281; replace p281 := eq_true p281; replace q281 := eq_true q281))
          go_ret
          exact ⟨by first | rfl | (simp [errW_none, errW_some] <;> rfl) | (simp [*, errW_none, errW_some] <;> rfl), bel_ HB.out⟩
         case neg =>
         rw [if_neg c55] at H
         have c55b0 : decide ((wrap64 (x8_2 - (wrap64 (2 + (Int.tmod t265 5))))) < 0) = false := decide_eq_false c55
         clear c55
         by_cases c58 : (wrap64 (x8_2 - (wrap64 (2 + (Int.tmod t265 5))))) ≥ (t269.length : Int)
         ·rw [if_pos c58] at H
          have c58b0 : decide ((t269.length : Int) ≤ (wrap64 (x8_2 - (wrap64 (2 + (Int.tmod t265 5)))))) = true := decide_eq_true c58
          clear c58
          obtain rfl := Option.some.inj H
          go_wp2_with (first | ((with_reducible refine gate_builtin (b := .append) (xs := #[.tmp 60, .tmp 62]) rfl ?_); (try (refine gate_guard (by rfl) ?_; dsimp only)); at_builtin; refine Kd.R_append (Kd.int .i64) (w0 := w) w.heap.size rfl (.tmp 60) (.tmp 62) 28 3 (.int .i64 0) 8 rfl Try.underlying28 info3 rfl (by decide) (by omega) u7 x7_2 x8_2 [.int .i64 x8_2] (fun k_ => nB_ (.slice Ao11 t269.length co11) k_) (fun _ => False) rfl rfl ?aP (fun _ hk => hk.elim) ?aF ?aO ?aB ?aS ?aL ?_; (case aP => exact rfl); (case aB => exact (bel_ HB.out)); (case aF => exact (fun k_ hk => Kd.fresh' (Kd.R_lt (fr_ HO_274002.out)) k_ hk)); (case aO => exact (fr_ HO_7.out)); (case aS => exact (below_size (bel_ HB.out))); (case aL => have := LMc24.out; omega); intro v279 w59 ho hb hg hat; rw [← Ny278.out] at ho; replace HO_274002 := Aside0.mk (Kd.R_after (ok := (fun _ => True)) (by (with_reducible repeat (first | apply Kd.R_alloc | apply Kd.R_drewN | apply Kd.R_drew)); exact Kd.R_mono HO_274002.out (fun _ hk => ⟨trivial, hk⟩)) hg hat); replace BK273 := Aside0.mk (blk_grown (g := gb273) (o := .cells #[.int .i64 t267, .int .i64 t268, .slice Ao11 t269.length co11] 84 (0, 0)) (fb_ BK273.out) hg (Kd.R_ne HO_7.out BK273.out (by decide))); replace HB := Aside0.mk (hb); have HO280 := Aside0.mk (ho); clear HO_7; clear ho hb hg hat; have hcz60_0 : w59.cell? ⟨gb273, 0, none⟩ = some (.int .i64 t267) := bc_ BK273.out 0; have hcz60_1 : w59.cell? ⟨gb273, 1, none⟩ = some (.int .i64 t268) := bc_ BK273.out 1; have hcz60_2 : w59.cell? ⟨gb273, 2, none⟩ = some (.slice Ao11 t269.length co11) := bc_ BK273.out 2; have hfz60_0 := blk_frozen BK273.out 0; have hfz60_1 := blk_frozen BK273.out 1; have hfz60_2 := blk_frozen BK273.out 2; have p281 : 0 ≤ (x8_2 : Int) := of_decide_eq_true (by first | (with_reducible assumption) | assumption); have q281 : x8_2 < (t269.length : Int) := of_decide_eq_true (by first | (with_reducible assumption) | assumption); obtain ⟨ad281, e281, hx281_0⟩ := Kd.at_int (Kd.R_reads' HO_274002.out).2.2 x8_2 p281 q281; cases e281; replace p281 := eq_true p281; replace q281 := eq_true q281))
          go_ret
          exact ⟨by first | rfl | (simp [errW_none, errW_some] <;> rfl) | (simp [*, errW_none, errW_some] <;> rfl), bel_ HB.out⟩
         ·rw [if_neg c58] at H
          have c58b0 : decide ((t269.length : Int) ≤ (wrap64 (x8_2 - (wrap64 (2 + (Int.tmod t265 5)))))) = false := decide_eq_false c58
          clear c58
          have H' := Aside0.mk H
          clear H
          go_wp2_with (first | ((with_reducible refine gate_builtin (b := .append) (xs := #[.tmp 60, .tmp 62]) rfl ?_); (try (refine gate_guard (by rfl) ?_; dsimp only)); at_builtin; refine Kd.R_append (Kd.int .i64) (w0 := w) w.heap.size rfl (.tmp 60) (.tmp 62) 28 3 (.int .i64 0) 8 rfl Try.underlying28 info3 rfl (by decide) (by omega) u7 x7_2 x8_2 [.int .i64 x8_2] (fun k_ => nB_ (.slice Ao11 t269.length co11) k_) (fun _ => False) rfl rfl ?aP (fun _ hk => hk.elim) ?aF ?aO ?aB ?aS ?aL ?_; (case aP => exact rfl); (case aB => exact (bel_ HB.out)); (case aF => exact (fun k_ hk => Kd.fresh' (Kd.R_lt (fr_ HO_274002.out)) k_ hk)); (case aO => exact (fr_ HO_7.out)); (case aS => exact (below_size (bel_ HB.out))); (case aL => have := LMc24.out; omega); intro v279 w61 ho hb hg hat; rw [← Ny278.out] at ho; replace HO_274002 := Aside0.mk (Kd.R_after (ok := (fun _ => True)) (by (with_reducible repeat (first | apply Kd.R_alloc | apply Kd.R_drewN | apply Kd.R_drew)); exact Kd.R_mono HO_274002.out (fun _ hk => ⟨trivial, hk⟩)) hg hat); replace BK273 := Aside0.mk (blk_grown (g := gb273) (o := .cells #[.int .i64 t267, .int .i64 t268, .slice Ao11 t269.length co11] 84 (0, 0)) (fb_ BK273.out) hg (Kd.R_ne HO_7.out BK273.out (by decide))); replace HB := Aside0.mk (hb); have HO280 := Aside0.mk (ho); clear HO_7; clear ho hb hg hat; have hcz62_0 : w61.cell? ⟨gb273, 0, none⟩ = some (.int .i64 t267) := bc_ BK273.out 0; have hcz62_1 : w61.cell? ⟨gb273, 1, none⟩ = some (.int .i64 t268) := bc_ BK273.out 1; have hcz62_2 : w61.cell? ⟨gb273, 2, none⟩ = some (.slice Ao11 t269.length co11) := bc_ BK273.out 2; have hfz62_0 := blk_frozen BK273.out 0; have hfz62_1 := blk_frozen BK273.out 1; have hfz62_2 := blk_frozen BK273.out 2; have p281 : 0 ≤ (x8_2 : Int) := of_decide_eq_true (by first | (with_reducible assumption) | assumption); have q281 : x8_2 < (t269.length : Int) := of_decide_eq_true (by first | (with_reducible assumption) | assumption); obtain ⟨ad281, e281, hx281_0⟩ := Kd.at_int (Kd.R_reads' HO_274002.out).2.2 x8_2 p281 q281; cases e281; replace p281 := eq_true p281; replace q281 := eq_true q281))
          go_roundg k2
          case measure => have := HJ6.out; have := HK2.out; omega
          case rel => exact ⟨(y278), (wrap64 (x8_2 - (wrap64 (2 + (Int.tmod t265 5))))), (wrap64 (x9_2 + 1)), rl_, rl_, H', ⟨by have := HJ6.out; have := HK2.out; omega⟩, ⟨fr_ HO280.out⟩, ⟨rn_ HO_274002.out (fun _ hk => hk.2)⟩, ⟨fb_ BK273.out⟩, ⟨bel_ HB.out⟩⟩
        ·rw [if_neg c54] at H
         have c54b0 : ((rd t269 x8_2) == 8) = false := beq_eq_false_iff_ne.mpr c54
         have c54b1 : ((rd t269 x8_2) != 8) = true := bne_iff_ne.mpr c54
         obtain rfl := Option.some.inj H
         go_wp2_with (first | ((with_reducible refine gate_builtin (b := .append) (xs := #[.tmp 60, .tmp 62]) rfl ?_); (try (refine gate_guard (by rfl) ?_; dsimp only)); at_builtin; refine Kd.R_append (Kd.int .i64) (w0 := w) w.heap.size rfl (.tmp 60) (.tmp 62) 28 3 (.int .i64 0) 8 rfl Try.underlying28 info3 rfl (by decide) (by omega) u7 x7_2 x8_2 [.int .i64 x8_2] (fun k_ => nB_ (.slice Ao11 t269.length co11) k_) (fun _ => False) rfl rfl ?aP (fun _ hk => hk.elim) ?aF ?aO ?aB ?aS ?aL ?_; (case aP => exact rfl); (case aB => exact (bel_ HB.out)); (case aF => exact (fun k_ hk => Kd.fresh' (Kd.R_lt (fr_ HO_274002.out)) k_ hk)); (case aO => exact (fr_ HO_7.out)); (case aS => exact (below_size (bel_ HB.out))); (case aL => have := LMc24.out; omega); intro v279 w63 ho hb hg hat; rw [← Ny278.out] at ho; replace HO_274002 := Aside0.mk (Kd.R_after (ok := (fun _ => True)) (by (with_reducible repeat (first | apply Kd.R_alloc | apply Kd.R_drewN | apply Kd.R_drew)); exact Kd.R_mono HO_274002.out (fun _ hk => ⟨trivial, hk⟩)) hg hat); replace BK273 := Aside0.mk (blk_grown (g := gb273) (o := .cells #[.int .i64 t267, .int .i64 t268, .slice Ao11 t269.length co11] 84 (0, 0)) (fb_ BK273.out) hg (Kd.R_ne HO_7.out BK273.out (by decide))); replace HB := Aside0.mk (hb); have HO280 := Aside0.mk (ho); clear HO_7; clear ho hb hg hat; have hcz64_0 : w63.cell? ⟨gb273, 0, none⟩ = some (.int .i64 t267) := bc_ BK273.out 0; have hcz64_1 : w63.cell? ⟨gb273, 1, none⟩ = some (.int .i64 t268) := bc_ BK273.out 1; have hcz64_2 : w63.cell? ⟨gb273, 2, none⟩ = some (.slice Ao11 t269.length co11) := bc_ BK273.out 2; have hfz64_0 := blk_frozen BK273.out 0; have hfz64_1 := blk_frozen BK273.out 1; have hfz64_2 := blk_frozen BK273.out 2; have p281 : 0 ≤ (x8_2 : Int) := of_decide_eq_true (by first | (with_reducible assumption) | assumption); have q281 : x8_2 < (t269.length : Int) := of_decide_eq_true (by first | (with_reducible assumption) | assumption); obtain ⟨ad281, e281, hx281_0⟩ := Kd.at_int (Kd.R_reads' HO_274002.out).2.2 x8_2 p281 q281; cases e281; replace p281 := eq_true p281; replace q281 := eq_true q281))
         go_ret
         exact ⟨by first | rfl | (simp [errW_none, errW_some] <;> rfl) | (simp [*, errW_none, errW_some] <;> rfl), bel_ HB.out⟩
       ·rw [if_neg c26] at H
        exact absurd H (by simp)
      ·rw [if_neg c25] at H
       exact absurd H (by simp)
     ·rw [if_neg c24] at H
      exact absurd H (by simp)
    case neg =>
    rw [if_neg c23] at H
    have c23b0 : decide (x9_2 < (wrap64 ((wrap64 (2 * (wrap64 ((wrap64 (2 + (Int.tmod t265 5))) + (wrap64 (2 + (Int.tmod t266 5))))))) - 4))) = false := decide_eq_false c23
    clear c23; replace H := Option.bind_eq_some_iff.mp H
    obtain ⟨⟨t282, t285⟩, A650, H⟩ := H
    replace H : (if x8_2 = 0 then (if t285 = true then (if (t282.length : Int) = (t269.length : Int) then (if 0 < (t282.length : Int) then (if (rd t282 0) = 0 then (if 1 < (x7_2.length : Int) then (if 0 ≤ (rd x7_2 1) then (if (rd x7_2 1) < (t282.length : Int) then (laws_FnRing.j2 k2 l0 x7_2 ((rd t282 (rd x7_2 1)) != (wrap64 ((x7_2.length : Int) - 1))) t267 t268 t269) else (none)) else (none)) else (none)) else (laws_FnRing.j2 k2 l0 x7_2 true t267 t268 t269)) else (none)) else (laws_FnRing.j2 k2 l0 x7_2 true t267 t268 t269)) else (laws_FnRing.j2 k2 l0 x7_2 true t267 t268 t269)) else (laws_FnRing.j2 k2 l0 x7_2 true t267 t268 t269)) = some r := H
    have A65 := Aside0.mk A650
    clear A650
    have HC66 := Aside0.mk H
    clear H; have hcz67_0 : wr.cell? ⟨gb273, 0, none⟩ = some (.int .i64 t267) := bc_ BK273.out 0; have hcz67_1 : wr.cell? ⟨gb273, 1, none⟩ = some (.int .i64 t268) := bc_ BK273.out 1; have hcz67_2 : wr.cell? ⟨gb273, 2, none⟩ = some (.slice Ao11 t269.length co11) := bc_ BK273.out 2; have hfz67_0 := blk_frozen BK273.out 0; have hfz67_1 := blk_frozen BK273.out 1; have hfz67_2 := blk_frozen BK273.out 2
    go_upto_region 26 with (first | ((with_reducible refine gate_callee (f := 37) rfl ?_); refine goesL_ (some 98) rfl rfl Try.func37 (by kernel_rfl) rfl #[.agg #[.int .i64 t267, .int .i64 t268, .slice Ao11 t269.length co11], .int .i64 0] rfl (by (try simp only [List.map_toArray, List.map_cons, List.map_nil]); first | done | rfl | (simp only [List.length_drop, List.length_take]; rfl)) ?_; (with_reducible refine (impl_Hops.calls k2 t267 t268 _ _ t269 0 t282 t285 _ ?side1 ?side2 A65.out).mono ?_); (case side1 => repeat (first | exact (Kd.R_reads' HO_274002.out).2.2 | (with_reducible refine Kd.C_alloc ?_ _) | (with_reducible refine Kd.C_drewN ?_ _) | (with_reducible refine Kd.C_drew ?_))); (case side2 => exact (Kd.R_reads' HO_274002.out).2.1); rintro e w68 ⟨v283, rfl, ho0, hb⟩; refine ⟨_, rfl, ?_⟩; have HO284 := Aside0.mk (Kd.R_lower (Kd.R_new' (Kd.R_new' ho0 (Kd.R_lt (fr_ HO_7.out))) (Kd.R_lt (fr_ HO_274002.out))) (below_size (bel_ HB.out))); replace HO_7 := Aside0.mk (Kd.R_elder' (fr_ HO_7.out) (Kd.R_base ho0) hb); replace HO_274002 := Aside0.mk (Kd.R_elder' (fr_ HO_274002.out) (Kd.R_base ho0) hb); replace BK273 := Aside0.mk (blk_below (g := gb273) (o := .cells #[.int .i64 t267, .int .i64 t268, .slice Ao11 t269.length co11] 84 (0, 0)) (fb_ BK273.out) hb); replace HB := Aside0.mk (below_step (bel_ HB.out) hb); (try clear hb); (try clear hb2); (try clear hk); (try clear hi); (try clear ho0)))
    (try simp only [Act.put, sA_, sZ_, sS_])
    go_cut [132] (fun v132 wc => ∃ (kq : Nat) (x132_65 : Bool), v132 = .bool x132_65 ∧ Aside0 (laws_FnRing.j2 kq l0 x7_2 x132_65 t267 t268 t269 = some r) ∧ Aside0 (kq ≤ k2) ∧ Aside0 (Kd.R (Kd.int .i64) 3 wc w.heap.size (fun k_ => some k_ ≠ ((.slice Ao11 t269.length co11) : Value).ownBlock) u7 x7_2) ∧ Aside0 (Kd.R (Kd.int .i64) 3 wc w.heap.size (fun k_ => nB_ (u7) k_) (.slice Ao11 t269.length co11) t269) ∧ Aside0 (wc.heap[gb273]? = some (.cells #[.int .i64 t267, .int .i64 t268, (.slice Ao11 t269.length co11)] 84 (0, 0))) ∧ Aside0 (Below w.heap.size w wc))
    case first =>
     have H := HC66.out
     clear HC66
     by_cases c69 : x8_2 = 0
     ·rw [if_pos c69] at H
      have c69b0 : (x8_2 == 0) = true := beq_iff_eq.mpr c69
      have c69b1 : (x8_2 != 0) = false := bne_eq_false_iff_eq.mpr c69
      clear c69
      (first | rw [c69b0] | (simp only [i64_w, i32_w]; rw [c69b0]) | skip)
      by_cases c70 : t285 = true
      ·subst c70
       have H1 : (if (t282.length : Int) = (t269.length : Int) then (if 0 < (t282.length : Int) then (if (rd t282 0) = 0 then (if 1 < (x7_2.length : Int) then (if 0 ≤ (rd x7_2 1) then (if (rd x7_2 1) < (t282.length : Int) then (laws_FnRing.j2 k2 l0 x7_2 ((rd t282 (rd x7_2 1)) != (wrap64 ((x7_2.length : Int) - 1))) t267 t268 t269) else (none)) else (none)) else (none)) else (laws_FnRing.j2 k2 l0 x7_2 true t267 t268 t269)) else (none)) else (laws_FnRing.j2 k2 l0 x7_2 true t267 t268 t269)) = some r := by rw [if_pos rfl] at H; exact H
       clear H
       have H := H1
       clear H1
       by_cases c71 : (t282.length : Int) = (t269.length : Int)
       ·rw [if_pos c71] at H
        have c71b0 : ((t282.length : Int) == (t269.length : Int)) = true := beq_iff_eq.mpr c71
        have c71b1 : ((t282.length : Int) != (t269.length : Int)) = false := bne_eq_false_iff_eq.mpr c71
        have c71b2 : (t282.length == t269.length) = true := by first | simpa using c71 | (simp at c71 ⊢; omega)
        clear c71
        by_cases c72 : 0 < (t282.length : Int)
        ·rw [if_pos c72] at H
         have c72b0 : decide (0 < (t282.length : Int)) = true := decide_eq_true c72
         have c72b1 : decide (0 < t282.length) = true := decide_eq_true (by omega)
         clear c72
         by_cases c73 : (rd t282 0) = 0
         ·rw [if_pos c73] at H
          have c73b0 : ((rd t282 0) == 0) = true := beq_iff_eq.mpr c73
          have c73b1 : ((rd t282 0) != 0) = false := bne_eq_false_iff_eq.mpr c73
          clear c73
          by_cases c74 : 1 < (x7_2.length : Int)
          ·rw [if_pos c74] at H
           have c74b0 : decide (1 < (x7_2.length : Int)) = true := decide_eq_true c74
           have c74b1 : decide (1 < x7_2.length) = true := decide_eq_true (by omega)
           clear c74
           by_cases c75 : 0 ≤ (rd x7_2 1)
           ·rw [if_pos c75] at H
            have c75b0 : decide (0 ≤ (rd x7_2 1)) = true := decide_eq_true c75
            clear c75
            by_cases c76 : (rd x7_2 1) < (t282.length : Int)
            ·rw [if_pos c76] at H
             have c76b0 : decide ((rd x7_2 1) < (t282.length : Int)) = true := decide_eq_true c76
             clear c76
             have H' := Aside0.mk H
             clear H
             obtain ⟨Ao77, co77, eo77⟩ := Kd.R_slice HO284.out
             subst eo77
             have hcz78_0 : w68.cell? ⟨gb273, 0, none⟩ = some (.int .i64 t267) := bc_ BK273.out 0; have hcz78_1 : w68.cell? ⟨gb273, 1, none⟩ = some (.int .i64 t268) := bc_ BK273.out 1; have hcz78_2 : w68.cell? ⟨gb273, 2, none⟩ = some (.slice Ao11 t269.length co11) := bc_ BK273.out 2; have hfz78_0 := blk_frozen BK273.out 0; have hfz78_1 := blk_frozen BK273.out 1; have hfz78_2 := blk_frozen BK273.out 2
             have p286 : 0 ≤ (0 : Int) := (by omega)
             have q286 : 0 < (t282.length : Int) := of_decide_eq_true (by first | (with_reducible assumption) | assumption)
             obtain ⟨ad286, e286, hx286_0⟩ := Kd.at_int (Kd.R_reads' HO284.out).2.2 0 p286 q286
             cases e286
             have qi286 : (0 < t282.length) = True := eq_true (by omega)
             (try rw [show ((0 : Int)).toNat = 0 from rfl] at hx286_0)
             (try rw [Addr.add_zero'] at hx286_0)
             replace p286 := eq_true p286; replace q286 := eq_true q286
             obtain ⟨Ao79, co79, eo79⟩ := Kd.R_slice HO_7.out
             subst eo79
             have p287 : 0 ≤ (1 : Int) := (by omega)
             have q287 : 1 < (x7_2.length : Int) := of_decide_eq_true (by first | (with_reducible assumption) | assumption)
             obtain ⟨ad287, e287, hx287_0⟩ := Kd.at_int (Kd.R_reads' HO_7.out).2.2 1 p287 q287
             cases e287
             (try simp only [show (1 : Int).toNat = 1 from rfl, Nat.reduceMul, Nat.reduceEqDiff, Go.Addr.add, ↓reduceIte] at hx287_0)
             have qi287 : (1 < x7_2.length) = True := eq_true (by omega)
             (try rw [show ((1 : Int)).toNat = 1 from rfl] at hx287_0)
             replace p287 := eq_true p287; replace q287 := eq_true q287
             have p288 : 0 ≤ ((rd x7_2 1) : Int) := of_decide_eq_true (by first | (with_reducible assumption) | assumption)
             have q288 : (rd x7_2 1) < (t282.length : Int) := of_decide_eq_true (by first | (with_reducible assumption) | assumption)
             obtain ⟨ad288, e288, hx288_0⟩ := Kd.at_int (Kd.R_reads' HO284.out).2.2 (rd x7_2 1) p288 q288
             obtain rfl : ad286 = ad288 := (by injection e288)
             replace p288 := eq_true p288; replace q288 := eq_true q288
             go_wp2
             go_meet
             case rel => exact ⟨_, (((rd t282 (rd x7_2 1)) != (wrap64 ((x7_2.length : Int) - 1)))), rl_, H', ⟨by have := HJ6.out; have := HK2.out; first | omega | exact Nat.le_refl _⟩, ⟨rn_ HO_7.out (fun _ hk => hk.1)⟩, ⟨rn_ HO_274002.out (fun _ hk => hk.1)⟩, ⟨fb_ BK273.out⟩, ⟨bel_ HB.out⟩⟩
            ·rw [if_neg c76] at H
             exact absurd H (by simp)
           ·rw [if_neg c75] at H
            exact absurd H (by simp)
          ·rw [if_neg c74] at H
           exact absurd H (by simp)
         case neg =>
         rw [if_neg c73] at H
         have c73b0 : ((rd t282 0) == 0) = false := beq_eq_false_iff_ne.mpr c73
         have c73b1 : ((rd t282 0) != 0) = true := bne_iff_ne.mpr c73
         have H' := Aside0.mk H
         clear H
         obtain ⟨Ao80, co80, eo80⟩ := Kd.R_slice HO284.out
         subst eo80
         have hcz81_0 : w68.cell? ⟨gb273, 0, none⟩ = some (.int .i64 t267) := bc_ BK273.out 0; have hcz81_1 : w68.cell? ⟨gb273, 1, none⟩ = some (.int .i64 t268) := bc_ BK273.out 1; have hcz81_2 : w68.cell? ⟨gb273, 2, none⟩ = some (.slice Ao11 t269.length co11) := bc_ BK273.out 2; have hfz81_0 := blk_frozen BK273.out 0; have hfz81_1 := blk_frozen BK273.out 1; have hfz81_2 := blk_frozen BK273.out 2
         have p286 : 0 ≤ (0 : Int) := (by omega)
         have q286 : 0 < (t282.length : Int) := of_decide_eq_true (by first | (with_reducible assumption) | assumption)
         obtain ⟨ad286, e286, hx286_0⟩ := Kd.at_int (Kd.R_reads' HO284.out).2.2 0 p286 q286
         cases e286
         have qi286 : (0 < t282.length) = True := eq_true (by omega)
         (try rw [show ((0 : Int)).toNat = 0 from rfl] at hx286_0)
         (try rw [Addr.add_zero'] at hx286_0)
         replace p286 := eq_true p286; replace q286 := eq_true q286
         go_wp2
         go_meet
         case rel => exact ⟨_, (true), rl_, H', ⟨by have := HJ6.out; have := HK2.out; first | omega | exact Nat.le_refl _⟩, ⟨rn_ HO_7.out (fun _ hk => hk.1)⟩, ⟨rn_ HO_274002.out (fun _ hk => hk.1)⟩, ⟨fb_ BK273.out⟩, ⟨bel_ HB.out⟩⟩
        ·rw [if_neg c72] at H
         exact absurd H (by simp)
       case neg =>
       rw [if_neg c71] at H
       have c71b0 : ((t282.length : Int) == (t269.length : Int)) = false := beq_eq_false_iff_ne.mpr c71
       have c71b1 : ((t282.length : Int) != (t269.length : Int)) = true := bne_iff_ne.mpr c71
       have c71b2 : (t282.length == t269.length) = false := by first | simpa using c71 | (simp at c71 ⊢; omega)
       have H' := Aside0.mk H
       clear H
       obtain ⟨Ao82, co82, eo82⟩ := Kd.R_slice HO284.out
       subst eo82
       have hcz83_0 : w68.cell? ⟨gb273, 0, none⟩ = some (.int .i64 t267) := bc_ BK273.out 0; have hcz83_1 : w68.cell? ⟨gb273, 1, none⟩ = some (.int .i64 t268) := bc_ BK273.out 1; have hcz83_2 : w68.cell? ⟨gb273, 2, none⟩ = some (.slice Ao11 t269.length co11) := bc_ BK273.out 2; have hfz83_0 := blk_frozen BK273.out 0; have hfz83_1 := blk_frozen BK273.out 1; have hfz83_2 := blk_frozen BK273.out 2
       go_wp2
       go_meet
       case rel => exact ⟨_, (true), rl_, H', ⟨by have := HJ6.out; have := HK2.out; first | omega | exact Nat.le_refl _⟩, ⟨rn_ HO_7.out (fun _ hk => hk.1)⟩, ⟨rn_ HO_274002.out (fun _ hk => hk.1)⟩, ⟨fb_ BK273.out⟩, ⟨bel_ HB.out⟩⟩
      ·replace c70 := Bool.eq_false_iff.mpr c70
       subst c70
       have H1 : (laws_FnRing.j2 k2 l0 x7_2 true t267 t268 t269) = some r := by rw [if_neg (show ¬ (false = true) by decide)] at H; exact H
       clear H
       have H := H1
       clear H1
       have H' := Aside0.mk H
       clear H
       go_wp2
       go_meet
       case rel => exact ⟨_, (true), rl_, H', ⟨by have := HJ6.out; have := HK2.out; first | omega | exact Nat.le_refl _⟩, ⟨rn_ HO_7.out (fun _ hk => hk.1)⟩, ⟨rn_ HO_274002.out (fun _ hk => hk.1)⟩, ⟨fb_ BK273.out⟩, ⟨bel_ HB.out⟩⟩
     ·rw [if_neg c69] at H
      have c69b0 : (x8_2 == 0) = false := beq_eq_false_iff_ne.mpr c69
      have c69b1 : (x8_2 != 0) = true := bne_iff_ne.mpr c69
      (first | rw [c69b0] | (simp only [i64_w, i32_w]; rw [c69b0]) | skip)
      have H' := Aside0.mk H
      clear H
      go_wp2
      go_meet
      case rel => exact ⟨_, (true), rl_, H', ⟨by have := HJ6.out; have := HK2.out; first | omega | exact Nat.le_refl _⟩, ⟨rn_ HO_7.out (fun _ hk => hk.1)⟩, ⟨rn_ HO_274002.out (fun _ hk => hk.1)⟩, ⟨fb_ BK273.out⟩, ⟨bel_ HB.out⟩⟩
    case rest =>
    clear HC66
    try clear c3
    try clear c20
    try clear c23
    try clear c23b0
    try clear hcz10_0
    try clear hcz10_1
    try clear hcz10_2
    try clear hcz67_0
    try clear hcz67_1
    try clear hcz67_2
    try clear hfz10_0
    try clear hfz10_1
    try clear hfz10_2
    try clear hfz67_0
    try clear hfz67_1
    try clear hfz67_2
    obtain ⟨kq, x132_65, rfl, HA, HJ65, HO_7, HO_274002, BK273, HB⟩ := hcut
    cases kq with
    | zero => exact absurd HA.out (by simp [laws_FnRing.j2])
    | succ kj65 =>
     have H := HA.out
     clear HA
     simp only [laws_FnRing.j2] at H
     by_cases c84 : x132_65 = true
     ·subst c84
      have H1 : (some false) = some r := by rw [if_pos rfl] at H; exact H
      clear H
      have H := H1
      clear H1
      obtain rfl := Option.some.inj H
      go_wp2
      go_ret
      exact ⟨by first | rfl | (simp [errW_none, errW_some] <;> rfl) | (simp [*, errW_none, errW_some] <;> rfl), bel_ HB.out⟩
     case neg =>
     replace c84 := Bool.eq_false_iff.mpr c84
     subst c84
     have H1 : ((laws_at.f l0 2).bind fun t292 => (if (wrap64 ((x7_2.length : Int) - 1)) = 0 then (none) else (laws_FnRing.l1 kj65 l0 x7_2 (([] : List (S92))) (wrap64 (1 + (Int.tmod t292 (wrap64 ((x7_2.length : Int) - 1))))) 0 t267 t268 t269))) = some r := by rw [if_neg (show ¬ (false = true) by decide)] at H; exact H
     clear H
     have H := H1
     clear H1
     obtain ⟨y289, hy289⟩ : ∃ y_ : List (S92), y_ = (([] : List (S92))) := ⟨_, rfl⟩
     replace H : ((laws_at.f l0 2).bind fun t292 => (if (wrap64 ((x7_2.length : Int) - 1)) = 0 then (none) else (laws_FnRing.l1 kj65 l0 x7_2 y289 (wrap64 (1 + (Int.tmod t292 (wrap64 ((x7_2.length : Int) - 1))))) 0 t267 t268 t269))) = some r := by first | (rw [hy289]; with_reducible exact H) | (have H2_ := (Option.bind_some _ _).symm.trans H; rw [hy289]; with_reducible exact H2_) | (have H2_ := (Option.bind_some _ _).symm.trans H; with_reducible exact H2_) | with_reducible exact H | (rw [hy289]; exact H) | exact H
     have Ny289 := Aside0.mk hy289
     clear hy289; replace H := Option.bind_eq_some_iff.mp H
     obtain ⟨t292, A850, H⟩ := H
     replace H : (if (wrap64 ((x7_2.length : Int) - 1)) = 0 then (none) else (laws_FnRing.l1 kj65 l0 x7_2 y289 (wrap64 (1 + (Int.tmod t292 (wrap64 ((x7_2.length : Int) - 1))))) 0 t267 t268 t269)) = some r := H
     have A85 := Aside0.mk A850
     clear A850
     by_cases c86 : (wrap64 ((x7_2.length : Int) - 1)) = 0
     ·rw [if_pos c86] at H
      exact absurd H (by simp)
     case neg =>
     rw [if_neg c86] at H
     have c86b0 : ((wrap64 ((x7_2.length : Int) - 1)) == 0) = false := beq_eq_false_iff_ne.mpr c86
     have c86b1 : ((wrap64 ((x7_2.length : Int) - 1)) != 0) = true := bne_iff_ne.mpr c86
     have H' := Aside0.mk H
     clear H
     go_wp2_with (first | ((with_reducible refine gate_dst (N := 133) rfl ?_); (try (refine gate_guard (by rfl) ?_; dsimp only)); refine Kd.R_lit k92 _ 92 ?hg (N := 133) ?hd (xs := ([] : List (S92))) (inner := []) (ok := fun _ => True) (okp := fun _ => True) ?hr ?hp (fun _ hk => hk) trivial (Below.refl _ _) (Nat.le_refl _) (by simp) ?_; (case hd => rfl); (case hg => rfl); (case hr => first | (go_simp; done) | (go_simp; rfl)); (case hp => exact (Reps.none _ _)); intro v290 w87 ho88 hb hg_ hnew_; clear hg_ hnew_; (first | rw [← Ny289.out] at ho88 | (simp only [Int.reduceToNat] at ho88; rw [← Ny289.out] at ho88)); replace HO_7 := Aside0.mk (Kd.R_below (fr_ HO_7.out) hb); replace HO_274002 := Aside0.mk (Kd.R_below (fr_ HO_274002.out) hb); have HO291 := Aside0.mk (Kd.R_lower ho88 (below_size (bel_ HB.out))); replace BK273 := Aside0.mk (blk_below (g := gb273) (o := .cells #[.int .i64 t267, .int .i64 t268, .slice Ao11 t269.length co11] 84 (0, 0)) (fb_ BK273.out) hb); replace HB := Aside0.mk (below_step (bel_ HB.out) hb); clear hb ho88) | ((with_reducible refine gate_callee (f := 13) rfl ?_); refine goesL_ (some 135) rfl rfl Try.func13 (by kernel_rfl) rfl #[.slice A0 l0.length c0, .int .i64 2] rfl (by (try simp only [List.map_toArray, List.map_cons, List.map_nil]); first | done | rfl | (simp only [List.length_drop, List.length_take]; rfl)) ?_; (with_reducible refine (laws_at.calls _ _ l0 2 t292 _ ?side1 ?side2 A85.out).mono ?_); (case side1 => exact rc_ (Kd.C_below HR0.out HB.out)); (case side2 => exact HC0.out); rintro e w' ⟨rfl, ⟨nd, rfl⟩⟩; refine ⟨_, rfl, ?_⟩; obtain ⟨Ao89, co89, eo89⟩ := Kd.R_slice HO_7.out; subst eo89))
     go_loopg [12, 14] kj65 (fun kq v12 v14 w' => ∃ (x12_4 : List (S92)) (x14_4 : Int), v14 = .int .i64 x14_4 ∧ Aside0 (laws_FnRing.l1 kq l0 x7_2 x12_4 (wrap64 (1 + (Int.tmod t292 (wrap64 ((x7_2.length : Int) - 1))))) x14_4 t267 t268 t269 = some r) ∧ Aside0 (kq ≤ kj65) ∧ Aside0 (Kd.R (Kd.int .i64) 3 w' w.heap.size (fun k_ => some k_ ≠ ((.slice Ao11 t269.length co11) : Value).ownBlock) (.slice Ao89 x7_2.length co89) x7_2) ∧ Aside0 (Kd.R k92 92 w' w.heap.size (fun _ => True) v12 x12_4) ∧ Aside0 (Kd.R (Kd.int .i64) 3 w' w.heap.size (fun k_ => some k_ ≠ ((.slice Ao89 x7_2.length co89) : Value).ownBlock) (.slice Ao11 t269.length co11) t269) ∧ Aside0 (w'.heap[gb273]? = some (.cells #[.int .i64 t267, .int .i64 t268, (.slice Ao11 t269.length co11)] 84 (0, 0))) ∧ Aside0 (Below w.heap.size w w'))
     case atStart => exact ⟨(y289), (0), rl_, H', ⟨Nat.le_refl _⟩, ⟨fr_ HO_7.out⟩, ⟨fr_ HO291.out⟩, ⟨fr_ HO_274002.out⟩, ⟨fb_ BK273.out⟩, ⟨bel_ HB.out⟩⟩
     case round =>
      clear H'
      try clear c3
      try clear c20
      try clear c23
      try clear c23b0
      try clear c84
      try clear c86
      try clear c86b0
      try clear c86b1
      try clear hcz10_0
      try clear hcz10_1
      try clear hcz10_2
      try clear hcz67_0
      try clear hcz67_1
      try clear hcz67_2
      try clear hfz10_0
      try clear hfz10_1
      try clear hfz10_2
      try clear hfz67_0
      try clear hfz67_1
      try clear hfz67_2
      obtain ⟨x12_4, x14_4, rfl, HA, HK4, HO_7, HO_12, HO_274002, BK273, HB⟩ := hrel
      cases gk with
      | zero => exact absurd HA.out (by simp [laws_FnRing.l1])
      | succ k4 =>
       have H := HA.out
       clear HA
       simp only [laws_FnRing.l1] at H
       have HC90 := Aside0.mk H
       clear H
       go_upto_region 31 with (fail)
       go_cut [149] (fun v149 wc => ∃ (kq : Nat) (x149_89 : Bool), v149 = .bool x149_89 ∧ Aside0 (laws_FnRing.j4 kq l0 x7_2 x12_4 (wrap64 (1 + (Int.tmod t292 (wrap64 ((x7_2.length : Int) - 1))))) x14_4 x149_89 t267 t268 t269 = some r) ∧ Aside0 (kq ≤ k4) ∧ Aside0 (Kd.R (Kd.int .i64) 3 wc w.heap.size (fun k_ => some k_ ≠ ((.slice Ao11 t269.length co11) : Value).ownBlock) (.slice Ao89 x7_2.length co89) x7_2) ∧ Aside0 (Kd.R k92 92 wc w.heap.size (fun _ => True) u12 x12_4) ∧ Aside0 (Kd.R (Kd.int .i64) 3 wc w.heap.size (fun k_ => some k_ ≠ ((.slice Ao89 x7_2.length co89) : Value).ownBlock) (.slice Ao11 t269.length co11) t269) ∧ Aside0 (wc.heap[gb273]? = some (.cells #[.int .i64 t267, .int .i64 t268, (.slice Ao11 t269.length co11)] 84 (0, 0))) ∧ Aside0 (Below w.heap.size w wc))
       case first =>
        have H := HC90.out
        clear HC90
        by_cases c91 : x14_4 < (x7_2.length : Int)
        ·rw [if_pos c91] at H
         have c91b0 : decide (x14_4 < (x7_2.length : Int)) = true := decide_eq_true c91
         clear c91
         (first | rw [c91b0] | (simp only [i64_w, i32_w]; rw [c91b0]) | skip)
         have H' := Aside0.mk H
         clear H
         obtain ⟨Ao92, co92, eo92⟩ := Kd.R_slice HO_12.out
         subst eo92
         go_wp2
         go_meet
         case rel => exact ⟨_, (decide ((x12_4.length : Int) < 12)), rl_, H', ⟨by have := HJ6.out; have := HK2.out; have := HJ65.out; have := HK4.out; first | omega | exact Nat.le_refl _⟩, ⟨fr_ HO_7.out⟩, ⟨fr_ HO_12.out⟩, ⟨fr_ HO_274002.out⟩, ⟨fb_ BK273.out⟩, ⟨bel_ HB.out⟩⟩
        ·rw [if_neg c91] at H
         have c91b0 : decide (x14_4 < (x7_2.length : Int)) = false := decide_eq_false c91
         clear c91
         (first | rw [c91b0] | (simp only [i64_w, i32_w]; rw [c91b0]) | skip)
         have H' := Aside0.mk H
         clear H
         go_wp2
         go_meet
         case rel => exact ⟨_, (false), rl_, H', ⟨by have := HJ6.out; have := HK2.out; have := HJ65.out; have := HK4.out; first | omega | exact Nat.le_refl _⟩, ⟨fr_ HO_7.out⟩, ⟨fr_ HO_12.out⟩, ⟨fr_ HO_274002.out⟩, ⟨fb_ BK273.out⟩, ⟨bel_ HB.out⟩⟩
       case rest =>
       clear HC90
       try clear c3
       try clear c20
       try clear c23
       try clear c23b0
       try clear c84
       try clear c86
       try clear c86b0
       try clear c86b1
       try clear hcz10_0
       try clear hcz10_1
       try clear hcz10_2
       try clear hcz67_0
       try clear hcz67_1
       try clear hcz67_2
       try clear hfz10_0
       try clear hfz10_1
       try clear hfz10_2
       try clear hfz67_0
       try clear hfz67_1
       try clear hfz67_2
       obtain ⟨kq, x149_89, rfl, HA, HJ89, HO_7, HO_12, HO_274002, BK273, HB⟩ := hcut
       cases kq with
       | zero => exact absurd HA.out (by simp [laws_FnRing.j4])
       | succ kj89 =>
        have H := HA.out
        clear HA
        simp only [laws_FnRing.j4] at H
        by_cases c93 : x149_89 = true
        ·subst c93
         have H1 : ((laws_at.f l0 (wrap64 (x14_4 + 3))).bind fun t293 => (if (Int.tmod t293 3) > 0 then (if 0 ≤ x14_4 then (if x14_4 < (x7_2.length : Int) then (if (x7_2.length : Int) = 0 then (none) else (if 0 ≤ (Int.tmod (wrap64 (x14_4 + (wrap64 (1 + (Int.tmod t292 (wrap64 ((x7_2.length : Int) - 1))))))) (x7_2.length : Int)) then (if (Int.tmod (wrap64 (x14_4 + (wrap64 (1 + (Int.tmod t292 (wrap64 ((x7_2.length : Int) - 1))))))) (x7_2.length : Int)) < (x7_2.length : Int) then (if x12_4.length < 8796093022208 then (laws_FnRing.l1 kj89 l0 x7_2 (x12_4 ++ [(⟨rd x7_2 x14_4, rd x7_2 (Int.tmod (wrap64 (x14_4 + (wrap64 (1 + (Int.tmod t292 (wrap64 ((x7_2.length : Int) - 1))))))) (x7_2.length : Int))⟩ : S92)]) (wrap64 (1 + (Int.tmod t292 (wrap64 ((x7_2.length : Int) - 1))))) (wrap64 (x14_4 + 1)) t267 t268 t269) else (none)) else (none)) else (none))) else (none)) else (none)) else (laws_FnRing.l1 kj89 l0 x7_2 x12_4 (wrap64 (1 + (Int.tmod t292 (wrap64 ((x7_2.length : Int) - 1))))) (wrap64 (x14_4 + 1)) t267 t268 t269))) = some r := by rw [if_pos rfl] at H; exact H
         clear H
         have H := H1
         clear H1; replace H := Option.bind_eq_some_iff.mp H
         obtain ⟨t293, A940, H⟩ := H
         replace H : (if (Int.tmod t293 3) > 0 then (if 0 ≤ x14_4 then (if x14_4 < (x7_2.length : Int) then (if (x7_2.length : Int) = 0 then (none) else (if 0 ≤ (Int.tmod (wrap64 (x14_4 + (wrap64 (1 + (Int.tmod t292 (wrap64 ((x7_2.length : Int) - 1))))))) (x7_2.length : Int)) then (if (Int.tmod (wrap64 (x14_4 + (wrap64 (1 + (Int.tmod t292 (wrap64 ((x7_2.length : Int) - 1))))))) (x7_2.length : Int)) < (x7_2.length : Int) then (if x12_4.length < 8796093022208 then (laws_FnRing.l1 kj89 l0 x7_2 (x12_4 ++ [(⟨rd x7_2 x14_4, rd x7_2 (Int.tmod (wrap64 (x14_4 + (wrap64 (1 + (Int.tmod t292 (wrap64 ((x7_2.length : Int) - 1))))))) (x7_2.length : Int))⟩ : S92)]) (wrap64 (1 + (Int.tmod t292 (wrap64 ((x7_2.length : Int) - 1))))) (wrap64 (x14_4 + 1)) t267 t268 t269) else (none)) else (none)) else (none))) else (none)) else (none)) else (laws_FnRing.l1 kj89 l0 x7_2 x12_4 (wrap64 (1 + (Int.tmod t292 (wrap64 ((x7_2.length : Int) - 1))))) (wrap64 (x14_4 + 1)) t267 t268 t269)) = some r := H
         have A94 := Aside0.mk A940
         clear A940
         by_cases c95 : (Int.tmod t293 3) > 0
         ·rw [if_pos c95] at H
          have c95b0 : decide (0 < (Int.tmod t293 3)) = true := decide_eq_true c95
          clear c95
          by_cases c96 : 0 ≤ x14_4
          ·rw [if_pos c96] at H
           have c96b0 : decide (0 ≤ x14_4) = true := decide_eq_true c96
           clear c96
           by_cases c97 : x14_4 < (x7_2.length : Int)
           ·rw [if_pos c97] at H
            have c97b0 : decide (x14_4 < (x7_2.length : Int)) = true := decide_eq_true c97
            clear c97
            by_cases c98 : (x7_2.length : Int) = 0
            ·rw [if_pos c98] at H
             exact absurd H (by simp)
            case neg =>
            rw [if_neg c98] at H
            have c98b0 : ((x7_2.length : Int) == 0) = false := beq_eq_false_iff_ne.mpr c98
            have c98b1 : ((x7_2.length : Int) != 0) = true := bne_iff_ne.mpr c98
            have c98b2 : ¬ (x7_2 = []) := fun h_ => c98 (by rw [h_]; rfl)
            obtain ⟨ji99, hji99⟩ : ∃ j_ : Int, (Int.tmod (wrap64 (x14_4 + (wrap64 (1 + (Int.tmod t292 (wrap64 ((x7_2.length : Int) - 1))))))) (x7_2.length : Int)) = j_ := ⟨_, rfl⟩
            replace H : (if 0 ≤ (ji99) then (if (ji99) < (x7_2.length : Int) then (if x12_4.length < 8796093022208 then (laws_FnRing.l1 kj89 l0 x7_2 (x12_4 ++ [(⟨rd x7_2 x14_4, rd x7_2 (ji99)⟩ : S92)]) (wrap64 (1 + (Int.tmod t292 (wrap64 ((x7_2.length : Int) - 1))))) (wrap64 (x14_4 + 1)) t267 t268 t269) else (none)) else (none)) else (none)) = some r := by first | (rw [hji99] at H; exact H) | (simp only [hji99] at H ⊢; exact H)
            (try rw [hji99] at A94)
            by_cases c100 : 0 ≤ (ji99)
            ·rw [if_pos c100] at H
             have c100b0 : decide (0 ≤ (ji99)) = true := decide_eq_true c100
             clear c100
             by_cases c101 : (ji99) < (x7_2.length : Int)
             ·rw [if_pos c101] at H
              have c101b0 : decide ((ji99) < (x7_2.length : Int)) = true := decide_eq_true c101
              clear c101
              by_cases c102 : x12_4.length < 8796093022208
              ·rw [if_pos c102] at H
               have LMc102 := Aside0.mk c102
               clear c102
               obtain ⟨y296, hy296⟩ : ∃ y_ : List (S92), y_ = (x12_4 ++ [(⟨rd x7_2 x14_4, rd x7_2 (ji99)⟩ : S92)]) := ⟨_, rfl⟩
               replace H : (laws_FnRing.l1 kj89 l0 x7_2 y296 (wrap64 (1 + (Int.tmod t292 (wrap64 ((x7_2.length : Int) - 1))))) (wrap64 (x14_4 + 1)) t267 t268 t269) = some r := by first | (rw [hy296]; with_reducible exact H) | (have H2_ := (Option.bind_some _ _).symm.trans H; rw [hy296]; with_reducible exact H2_) | (have H2_ := (Option.bind_some _ _).symm.trans H; with_reducible exact H2_) | with_reducible exact H | (rw [hy296]; exact H) | exact H
               have Ny296 := Aside0.mk hy296
               clear hy296
               have H' := Aside0.mk H
               clear H
               try go_wp2_with (first | ((with_reducible refine gate_callee (f := 13) rfl ?_); refine goesL_ (some 155) rfl rfl Try.func13 (by kernel_rfl) rfl #[.slice A0 l0.length c0, .int .i64 (wrap64 (x14_4 + 3))] rfl (by (try simp only [List.map_toArray, List.map_cons, List.map_nil]); first | done | rfl | (simp only [List.length_drop, List.length_take]; rfl)) ?_; (with_reducible refine (laws_at.calls _ _ l0 (wrap64 (x14_4 + 3)) t293 _ ?side1 ?side2 A94.out).mono ?_); (case side1 => exact rc_ (Kd.C_below HR0.out HB.out)); (case side2 => exact HC0.out); rintro e w' ⟨rfl, ⟨nd, rfl⟩⟩; refine ⟨_, rfl, ?_⟩))
               (try ((first | ((conv in (World.drewN wc _) => skip); generalize hq_ : World.drewN wc _ = wc) | (rw [drewN_self wc]; generalize hq_ : World.drewN wc _ = wc)); have n0_ : Aside0 (Kd.R k92 92 wc w.heap.size (fun _ => True) u12 x12_4) := ⟨by rw [← hq_]; exact (fr_ HO_12.out)⟩; have n1_ : Aside0 (Kd.R (Kd.int .i64) 3 wc w.heap.size (fun k_ => nB_ (.slice Ao89 x7_2.length co89) k_) (.slice Ao11 t269.length co11) t269) := ⟨by rw [← hq_]; exact (fr_ HO_274002.out)⟩; have n2_ : Aside0 (Kd.R (Kd.int .i64) 3 wc w.heap.size (fun k_ => nB_ (.slice Ao11 t269.length co11) k_) (.slice Ao89 x7_2.length co89) x7_2) := ⟨by rw [← hq_]; exact (fr_ HO_7.out)⟩; have n3_ : Aside0 (wc.heap[gb273]? = some (.cells #[.int .i64 t267, .int .i64 t268, .slice Ao11 t269.length co11] 84 (0, 0))) := ⟨by rw [← hq_]; exact (fb_ BK273.out)⟩; have n4_ : Aside0 (Below w.heap.size w wc) := ⟨by rw [← hq_]; exact (bel_ HB.out)⟩; clear HO_12 HO_274002 HO_7 BK273 HB hq_; have HO_12 := n0_; have HO_274002 := n1_; have HO_7 := n2_; have BK273 := n3_; have HB := n4_; clear n0_ n1_ n2_ n3_ n4_))
               replace HO_7 := Aside0.mk (Kd.R_drew HO_7.out); replace HO_12 := Aside0.mk (Kd.R_drew HO_12.out); replace HO_274002 := Aside0.mk (Kd.R_drew HO_274002.out); replace BK273 := Aside0.mk (blk_drew BK273.out); replace HB := Aside0.mk (below_drew1 HB.out)
               have p294 : 0 ≤ (x14_4 : Int) := of_decide_eq_true (by first | (with_reducible assumption) | assumption)
               have q294 : x14_4 < (x7_2.length : Int) := of_decide_eq_true (by first | (with_reducible assumption) | assumption)
               obtain ⟨ad294, e294, hx294_0⟩ := Kd.at_int (Kd.R_reads' HO_7.out).2.2 x14_4 p294 q294
               cases e294
               replace p294 := eq_true p294; replace q294 := eq_true q294
               have p295 : 0 ≤ ((ji99) : Int) := of_decide_eq_true (by first | (with_reducible assumption) | assumption)
               have q295 : (ji99) < (x7_2.length : Int) := of_decide_eq_true (by first | (with_reducible assumption) | assumption)
               obtain ⟨ad295, e295, hx295_0⟩ := Kd.at_int (Kd.R_reads' HO_7.out).2.2 (ji99) p295 q295
               obtain rfl : ad294 = ad295 := (by injection e295)
               replace p295 := eq_true p295; replace q295 := eq_true q295
               refine start_ (n := 18) (S := fun w' => w'.cell? (ad294.add (x14_4).toNat) = some (.int .i64 (rd x7_2 x14_4)) ∧ w'.cell? (ad294.add ((ji99)).toNat) = some (.int .i64 (rd x7_2 (ji99)))) (ds := [15, 16]) (bs 18 0) (by kernel_rfl) rfl rfl ⟨hx294_0, hx295_0⟩ (fun hHeld => ?_); refine with_tabW laws_FnRing.tab34 laws_FnRing.bits34 (fun HT_ HW_ => ?_)
               generalize wc.drew = w103 at HO_7 HO_12 HO_274002 BK273 HB hx294_0 hx295_0 hHeld ⊢
               refine pu_ 0 158 HT_ (bs 18 1) rfl rfl ?_
               refine pu_ 1 159 HT_ (bs 18 3) rfl rfl ?_
               refine pu_ 2 160 HT_ (bs 18 7) rfl rfl ?_
               refine pu_ 3 161 HT_ (bs 18 15) rfl rfl ?_
               refine pu_ 5 163 HT_ (bs 18 47) rfl rfl ?_
               refine pu_ 6 164 HT_ (bs 18 111) rfl rfl ?_
               refine pu_ 7 165 HT_ (bs 18 239) rfl rfl ?_
               refine pu_ 8 166 HT_ (bs 18 495) rfl rfl ?_
               refine pu_ 9 167 HT_ (bs 18 1007) rfl rfl ?_
               refine pu_ 10 168 HT_ (bs 18 2031) rfl rfl ?_
               refine pu_ 11 169 HT_ (bs 18 4079) rfl rfl ?_
               refine pu_ 12 170 HT_ (bs 18 8175) rfl rfl ?_
               refine take_ (i := 4) (N := some 162) (v := ?_) (a' := ?_) (bs 18 8191) rfl rfl (take_ofW HT_.out HW_.out (by kernel_rfl)) (fun _ _ _ h => h) (Or.inl ⟨by rfl, ?_⟩) hHeld ?_ ?_
               rotate_left
               ·rintro w' ⟨s0, s1⟩
                go_simp
                with_reducible rfl
               rotate_left
               ·simp only [Act.put, sA_, sZ_, sS_, i64_w, i32_w]
                rfl
               refine take_ (i := 13) (N := some 171) (v := ?_) (a' := ?_) (bs 18 16383) rfl rfl (take_ofW HT_.out HW_.out (by kernel_rfl)) (fun _ _ _ h => h) (Or.inl ⟨by rfl, ?_⟩) hHeld ?_ ?_
               rotate_left
               ·rintro w' ⟨s0, s1⟩
                go_simp
                with_reducible rfl
               rotate_left
               ·simp only [Act.put, sA_, sZ_, sS_, i64_w, i32_w]
                rfl
               refine pu_ 14 172 HT_ (bs 18 32767) rfl rfl ?_
               refine last_ (i := 15) (N := some 173) (bs 18 65535) rfl rfl (one_of HT_.out (by kernel_rfl)) (by decide) (fun K hK => ?_)
               refine value_ (w1 := ?_) (v := ?_) (by rfl) rfl ?_ ?_
               rotate_left 2
               ·go_simp
                constructor
                ·rfl
                ·rfl
               refine hK.out _ _ ?_
               clear hK K
               refine norm_ (a' := ?_) ?_ ?_
               rotate_left
               ·show Act.put _ (some 173) _ = _
                simp only [Act.put, sA_, sZ_, sS_, i64_w, i32_w]
                rfl
               refine last_ (i := 16) (N := some 174) (bs 18 131071) rfl rfl (one_of HT_.out (by kernel_rfl)) (by decide) (fun K hK => ?_)
               refine Kd.R_append_step k92 (w0 := w) w.heap.size (by rfl) (.tmp 158) (.tmp 173) 90 92 (.agg #[(.int .i64 0), (.int .i64 0)]) 16 rfl Try.underlying90 info92 rfl (by decide) (by omega) u12 x12_4 (⟨rd x7_2 x14_4, rd x7_2 (ji99)⟩ : S92) [.int .i64 (rd x7_2 x14_4), .int .i64 (rd x7_2 (ji99))] (fun _ => True) (fun _ => False) rfl rfl ?aP (fun _ hk => hk.elim) ?aF ?aO ?aB ?aS ?aL ?_
               (case aP => exact k92_mkM _ _ _ (⟨rd x7_2 x14_4, rd x7_2 (ji99)⟩ : S92))
               (case aB => exact (bel_ HB.out))
               (case aF => exact (fun _ _ => trivial))
               (case aO => exact (fr_ HO_12.out))
               (case aS => exact (below_size (bel_ HB.out)))
               (case aL => have := LMc102.out; omega)
               intro v297 w104 ho hb hg hat
               rw [← Ny296.out] at ho
               replace HO_7 := Aside0.mk (Kd.R_over' (fr_ HO_7.out) (Kd.R_typed (fr_ HO_12.out)) (by decide) hg); replace HO_274002 := Aside0.mk (Kd.R_over' (fr_ HO_274002.out) (Kd.R_typed (fr_ HO_12.out)) (by decide) hg); replace BK273 := Aside0.mk (blk_grown (g := gb273) (o := .cells #[.int .i64 t267, .int .i64 t268, .slice Ao11 t269.length co11] 84 (0, 0)) (fb_ BK273.out) hg (Kd.R_ne HO_12.out BK273.out (by decide))); replace HB := Aside0.mk (hb)
               have HO298 := Aside0.mk (ho)
               clear HO_12 ho hb hg hat
               refine hK.out _ _ ?_
               clear hK K
               refine norm_ (a' := ?_) ?_ ?_
               rotate_left
               ·show Act.put _ (some 174) _ = _
                simp only [Act.put, sA_, sZ_, sS_, i64_w, i32_w]
                rfl
               refine pu_ 17 12 HT_ (bs 18 262143) rfl rfl ?_
               refine done_ (done_of HT_.out (by kernel_rfl)) ?_
               try go_wp2
               (first | go_roundg kj89 | (simp only [← hji99]; go_roundg kj89))
               case measure => have := HJ6.out; have := HK2.out; have := HJ65.out; have := HK4.out; have := HJ89.out; omega
               case rel => exact ⟨(y296), (wrap64 (x14_4 + 1)), rl_, H', ⟨by have := HJ6.out; have := HK2.out; have := HJ65.out; have := HK4.out; have := HJ89.out; omega⟩, ⟨fr_ HO_7.out⟩, ⟨fr_ HO298.out⟩, ⟨fr_ HO_274002.out⟩, ⟨fb_ BK273.out⟩, ⟨bel_ HB.out⟩⟩
              ·rw [if_neg c102] at H
               exact absurd H (by simp)
             ·rw [if_neg c101] at H
              exact absurd H (by simp)
            ·rw [if_neg c100] at H
             exact absurd H (by simp)
           ·rw [if_neg c97] at H
            exact absurd H (by simp)
          ·rw [if_neg c96] at H
           exact absurd H (by simp)
         ·rw [if_neg c95] at H
          have c95b0 : decide (0 < (Int.tmod t293 3)) = false := decide_eq_false c95
          clear c95
          have H' := Aside0.mk H
          clear H
          go_wp2_with (first | ((with_reducible refine gate_callee (f := 13) rfl ?_); refine goesL_ (some 155) rfl rfl Try.func13 (by kernel_rfl) rfl #[.slice A0 l0.length c0, .int .i64 (wrap64 (x14_4 + 3))] rfl (by (try simp only [List.map_toArray, List.map_cons, List.map_nil]); first | done | rfl | (simp only [List.length_drop, List.length_take]; rfl)) ?_; (with_reducible refine (laws_at.calls _ _ l0 (wrap64 (x14_4 + 3)) t293 _ ?side1 ?side2 A94.out).mono ?_); (case side1 => exact rc_ (Kd.C_below HR0.out HB.out)); (case side2 => exact HC0.out); rintro e w' ⟨rfl, ⟨nd, rfl⟩⟩; refine ⟨_, rfl, ?_⟩))
          go_roundg kj89
          case measure => have := HJ6.out; have := HK2.out; have := HJ65.out; have := HK4.out; have := HJ89.out; omega
          case rel => exact ⟨(x12_4), (wrap64 (x14_4 + 1)), rl_, H', ⟨by have := HJ6.out; have := HK2.out; have := HJ65.out; have := HK4.out; have := HJ89.out; omega⟩, ⟨fr_ HO_7.out⟩, ⟨fr_ HO_12.out⟩, ⟨fr_ HO_274002.out⟩, ⟨fb_ BK273.out⟩, ⟨bel_ HB.out⟩⟩
        case neg =>
        replace c93 := Bool.eq_false_iff.mpr c93
        subst c93
        have H1 : ((impl_Settle19.f kj89 t267 t268 t269 x12_4 200).bind fun bt299 => (if (bt299.1.length : Int) = (x12_4.length : Int) then (if bt299.2.2 = true then (if (x12_4.length : Int) = 0 then (some true) else (some (bt299.2.1 == (wrap64 (1 + (Int.tmod t292 (wrap64 ((x7_2.length : Int) - 1)))))))) else (some false)) else (some false))) = some r := by rw [if_neg (show ¬ (false = true) by decide)] at H; exact H
        clear H
        have H := H1
        clear H1; replace H := Option.bind_eq_some_iff.mp H
        obtain ⟨⟨t299, t302, t303⟩, A1050, H⟩ := H
        replace H : (if (t299.length : Int) = (x12_4.length : Int) then (if t303 = true then (if (x12_4.length : Int) = 0 then (some true) else (some (t302 == (wrap64 (1 + (Int.tmod t292 (wrap64 ((x7_2.length : Int) - 1)))))))) else (some false)) else (some false)) = some r := H
        have A105 := Aside0.mk A1050
        clear A1050
        by_cases c106 : (t299.length : Int) = (x12_4.length : Int)
        ·rw [if_pos c106] at H
         have c106b0 : ((t299.length : Int) == (x12_4.length : Int)) = true := beq_iff_eq.mpr c106
         have c106b1 : ((t299.length : Int) != (x12_4.length : Int)) = false := bne_eq_false_iff_eq.mpr c106
         have c106b2 : (t299.length == x12_4.length) = true := by first | simpa using c106 | (simp at c106 ⊢; omega)
         clear c106
         by_cases c107 : t303 = true
         ·subst c107
          have H1 : (if (x12_4.length : Int) = 0 then (some true) else (some (t302 == (wrap64 (1 + (Int.tmod t292 (wrap64 ((x7_2.length : Int) - 1)))))))) = some r := by rw [if_pos rfl] at H; exact H
          clear H
          have H := H1
          clear H1
          by_cases c108 : (x12_4.length : Int) = 0
          ·rw [if_pos c108] at H
           have c108b0 : ((x12_4.length : Int) == 0) = true := beq_iff_eq.mpr c108
           have c108b1 : ((x12_4.length : Int) != 0) = false := bne_eq_false_iff_eq.mpr c108
           clear c108
           obtain rfl := Option.some.inj H
           have hcz109_0 : wc.cell? ⟨gb273, 0, none⟩ = some (.int .i64 t267) := bc_ BK273.out 0; have hcz109_1 : wc.cell? ⟨gb273, 1, none⟩ = some (.int .i64 t268) := bc_ BK273.out 1; have hcz109_2 : wc.cell? ⟨gb273, 2, none⟩ = some (.slice Ao11 t269.length co11) := bc_ BK273.out 2; have hfz109_0 := blk_frozen BK273.out 0; have hfz109_1 := blk_frozen BK273.out 1; have hfz109_2 := blk_frozen BK273.out 2
           obtain ⟨Ao110, co110, eo110⟩ := Kd.R_slice HO_12.out
           subst eo110
           go_wp2_with (first | ((with_reducible refine gate_callee (f := 38) rfl ?_); refine goesL_ (some 178) rfl rfl Try.func38 (by kernel_rfl) rfl #[.agg #[.int .i64 t267, .int .i64 t268, .slice Ao11 t269.length co11], .slice Ao110 x12_4.length co110, .int .i64 200] rfl (by (try simp only [List.map_toArray, List.map_cons, List.map_nil]); first | done | rfl | (simp only [List.length_drop, List.length_take]; rfl)) ?_; (with_reducible refine (impl_Settle19.calls kj89 t267 t268 _ _ t269 _ _ x12_4 200 t299 t302 true _ ?side1 ?side2 ?side3 ?side4 A105.out).mono ?_); (case side1 => repeat (first | exact (Kd.R_reads' HO_274002.out).2.2 | (with_reducible refine Kd.C_alloc ?_ _) | (with_reducible refine Kd.C_drewN ?_ _) | (with_reducible refine Kd.C_drew ?_))); (case side2 => exact (Kd.R_reads' HO_274002.out).2.1); (case side3 => repeat (first | exact (Kd.R_reads' HO_12.out).2.2 | (with_reducible refine Kd.C_alloc ?_ _) | (with_reducible refine Kd.C_drewN ?_ _) | (with_reducible refine Kd.C_drew ?_))); (case side4 => exact (Kd.R_reads' HO_12.out).2.1); rintro e w111 ⟨v300, rfl, ho0, hb⟩; refine ⟨_, rfl, ?_⟩; replace HO_7 := Aside0.mk (Kd.R_below (fr_ HO_7.out) hb); replace HO_274002 := Aside0.mk (Kd.R_below (fr_ HO_274002.out) hb); have HO301 := Aside0.mk (Kd.R_lower (Kd.R_new' ho0 (Kd.R_lt (fr_ HO_12.out))) (below_size (bel_ HB.out))); replace HO_12 := Aside0.mk (Kd.R_elder' (fr_ HO_12.out) (Kd.R_base ho0) hb); replace BK273 := Aside0.mk (blk_below (g := gb273) (o := .cells #[.int .i64 t267, .int .i64 t268, .slice Ao11 t269.length co11] 84 (0, 0)) (fb_ BK273.out) hb); replace HB := Aside0.mk (below_step (bel_ HB.out) hb); (try clear hb); (try clear hb2); (try clear hk); (try clear hi); (try clear ho0); obtain ⟨Ao112, co112, eo112⟩ := Kd.R_slice HO301.out; subst eo112))
           go_ret
           exact ⟨by first | rfl | (simp [errW_none, errW_some] <;> rfl) | (simp [*, errW_none, errW_some] <;> rfl), bel_ HB.out⟩
          case neg =>
          rw [if_neg c108] at H
          have c108b0 : ((x12_4.length : Int) == 0) = false := beq_eq_false_iff_ne.mpr c108
          have c108b1 : ((x12_4.length : Int) != 0) = true := bne_iff_ne.mpr c108
          have c108b2 : ¬ (x12_4 = []) := fun h_ => c108 (by rw [h_]; rfl)
          obtain rfl := Option.some.inj H
          have hcz113_0 : wc.cell? ⟨gb273, 0, none⟩ = some (.int .i64 t267) := bc_ BK273.out 0; have hcz113_1 : wc.cell? ⟨gb273, 1, none⟩ = some (.int .i64 t268) := bc_ BK273.out 1; have hcz113_2 : wc.cell? ⟨gb273, 2, none⟩ = some (.slice Ao11 t269.length co11) := bc_ BK273.out 2; have hfz113_0 := blk_frozen BK273.out 0; have hfz113_1 := blk_frozen BK273.out 1; have hfz113_2 := blk_frozen BK273.out 2
          obtain ⟨Ao114, co114, eo114⟩ := Kd.R_slice HO_12.out
          subst eo114
          go_wp2_with (first | ((with_reducible refine gate_callee (f := 38) rfl ?_); refine goesL_ (some 178) rfl rfl Try.func38 (by kernel_rfl) rfl #[.agg #[.int .i64 t267, .int .i64 t268, .slice Ao11 t269.length co11], .slice Ao114 x12_4.length co114, .int .i64 200] rfl (by (try simp only [List.map_toArray, List.map_cons, List.map_nil]); first | done | rfl | (simp only [List.length_drop, List.length_take]; rfl)) ?_; (with_reducible refine (impl_Settle19.calls kj89 t267 t268 _ _ t269 _ _ x12_4 200 t299 t302 true _ ?side1 ?side2 ?side3 ?side4 A105.out).mono ?_); (case side1 => repeat (first | exact (Kd.R_reads' HO_274002.out).2.2 | (with_reducible refine Kd.C_alloc ?_ _) | (with_reducible refine Kd.C_drewN ?_ _) | (with_reducible refine Kd.C_drew ?_))); (case side2 => exact (Kd.R_reads' HO_274002.out).2.1); (case side3 => repeat (first | exact (Kd.R_reads' HO_12.out).2.2 | (with_reducible refine Kd.C_alloc ?_ _) | (with_reducible refine Kd.C_drewN ?_ _) | (with_reducible refine Kd.C_drew ?_))); (case side4 => exact (Kd.R_reads' HO_12.out).2.1); rintro e w115 ⟨v300, rfl, ho0, hb⟩; refine ⟨_, rfl, ?_⟩; replace HO_7 := Aside0.mk (Kd.R_below (fr_ HO_7.out) hb); replace HO_274002 := Aside0.mk (Kd.R_below (fr_ HO_274002.out) hb); have HO301 := Aside0.mk (Kd.R_lower (Kd.R_new' ho0 (Kd.R_lt (fr_ HO_12.out))) (below_size (bel_ HB.out))); replace HO_12 := Aside0.mk (Kd.R_elder' (fr_ HO_12.out) (Kd.R_base ho0) hb); replace BK273 := Aside0.mk (blk_below (g := gb273) (o := .cells #[.int .i64 t267, .int .i64 t268, .slice Ao11 t269.length co11] 84 (0, 0)) (fb_ BK273.out) hb); replace HB := Aside0.mk (below_step (bel_ HB.out) hb); (try clear hb); (try clear hb2); (try clear hk); (try clear hi); (try clear ho0); obtain ⟨Ao116, co116, eo116⟩ := Kd.R_slice HO301.out; subst eo116))
          go_ret
          exact ⟨by first | rfl | (simp [errW_none, errW_some] <;> rfl) | (simp [*, errW_none, errW_some] <;> rfl), bel_ HB.out⟩
         case neg =>
         replace c107 := Bool.eq_false_iff.mpr c107
         subst c107
         have H1 : (some false) = some r := by rw [if_neg (show ¬ (false = true) by decide)] at H; exact H
         clear H
         have H := H1
         clear H1
         obtain rfl := Option.some.inj H
         have hcz117_0 : wc.cell? ⟨gb273, 0, none⟩ = some (.int .i64 t267) := bc_ BK273.out 0; have hcz117_1 : wc.cell? ⟨gb273, 1, none⟩ = some (.int .i64 t268) := bc_ BK273.out 1; have hcz117_2 : wc.cell? ⟨gb273, 2, none⟩ = some (.slice Ao11 t269.length co11) := bc_ BK273.out 2; have hfz117_0 := blk_frozen BK273.out 0; have hfz117_1 := blk_frozen BK273.out 1; have hfz117_2 := blk_frozen BK273.out 2
         obtain ⟨Ao118, co118, eo118⟩ := Kd.R_slice HO_12.out
         subst eo118
         go_wp2_with (first | ((with_reducible refine gate_callee (f := 38) rfl ?_); refine goesL_ (some 178) rfl rfl Try.func38 (by kernel_rfl) rfl #[.agg #[.int .i64 t267, .int .i64 t268, .slice Ao11 t269.length co11], .slice Ao118 x12_4.length co118, .int .i64 200] rfl (by (try simp only [List.map_toArray, List.map_cons, List.map_nil]); first | done | rfl | (simp only [List.length_drop, List.length_take]; rfl)) ?_; (with_reducible refine (impl_Settle19.calls kj89 t267 t268 _ _ t269 _ _ x12_4 200 t299 t302 false _ ?side1 ?side2 ?side3 ?side4 A105.out).mono ?_); (case side1 => repeat (first | exact (Kd.R_reads' HO_274002.out).2.2 | (with_reducible refine Kd.C_alloc ?_ _) | (with_reducible refine Kd.C_drewN ?_ _) | (with_reducible refine Kd.C_drew ?_))); (case side2 => exact (Kd.R_reads' HO_274002.out).2.1); (case side3 => repeat (first | exact (Kd.R_reads' HO_12.out).2.2 | (with_reducible refine Kd.C_alloc ?_ _) | (with_reducible refine Kd.C_drewN ?_ _) | (with_reducible refine Kd.C_drew ?_))); (case side4 => exact (Kd.R_reads' HO_12.out).2.1); rintro e w119 ⟨v300, rfl, ho0, hb⟩; refine ⟨_, rfl, ?_⟩; replace HO_7 := Aside0.mk (Kd.R_below (fr_ HO_7.out) hb); replace HO_274002 := Aside0.mk (Kd.R_below (fr_ HO_274002.out) hb); have HO301 := Aside0.mk (Kd.R_lower (Kd.R_new' ho0 (Kd.R_lt (fr_ HO_12.out))) (below_size (bel_ HB.out))); replace HO_12 := Aside0.mk (Kd.R_elder' (fr_ HO_12.out) (Kd.R_base ho0) hb); replace BK273 := Aside0.mk (blk_below (g := gb273) (o := .cells #[.int .i64 t267, .int .i64 t268, .slice Ao11 t269.length co11] 84 (0, 0)) (fb_ BK273.out) hb); replace HB := Aside0.mk (below_step (bel_ HB.out) hb); (try clear hb); (try clear hb2); (try clear hk); (try clear hi); (try clear ho0); obtain ⟨Ao120, co120, eo120⟩ := Kd.R_slice HO301.out; subst eo120))
         go_ret
         exact ⟨by first | rfl | (simp [errW_none, errW_some] <;> rfl) | (simp [*, errW_none, errW_some] <;> rfl), bel_ HB.out⟩
        case neg =>
        rw [if_neg c106] at H
        have c106b0 : ((t299.length : Int) == (x12_4.length : Int)) = false := beq_eq_false_iff_ne.mpr c106
        have c106b1 : ((t299.length : Int) != (x12_4.length : Int)) = true := bne_iff_ne.mpr c106
        have c106b2 : (t299.length == x12_4.length) = false := by first | simpa using c106 | (simp at c106 ⊢; omega)
        obtain rfl := Option.some.inj H
        have hcz121_0 : wc.cell? ⟨gb273, 0, none⟩ = some (.int .i64 t267) := bc_ BK273.out 0; have hcz121_1 : wc.cell? ⟨gb273, 1, none⟩ = some (.int .i64 t268) := bc_ BK273.out 1; have hcz121_2 : wc.cell? ⟨gb273, 2, none⟩ = some (.slice Ao11 t269.length co11) := bc_ BK273.out 2; have hfz121_0 := blk_frozen BK273.out 0; have hfz121_1 := blk_frozen BK273.out 1; have hfz121_2 := blk_frozen BK273.out 2
        obtain ⟨Ao122, co122, eo122⟩ := Kd.R_slice HO_12.out
        subst eo122
        go_wp2_with (first | ((with_reducible refine gate_callee (f := 38) rfl ?_); refine goesL_ (some 178) rfl rfl Try.func38 (by kernel_rfl) rfl #[.agg #[.int .i64 t267, .int .i64 t268, .slice Ao11 t269.length co11], .slice Ao122 x12_4.length co122, .int .i64 200] rfl (by (try simp only [List.map_toArray, List.map_cons, List.map_nil]); first | done | rfl | (simp only [List.length_drop, List.length_take]; rfl)) ?_; (with_reducible refine (impl_Settle19.calls kj89 t267 t268 _ _ t269 _ _ x12_4 200 t299 t302 t303 _ ?side1 ?side2 ?side3 ?side4 A105.out).mono ?_); (case side1 => repeat (first | exact (Kd.R_reads' HO_274002.out).2.2 | (with_reducible refine Kd.C_alloc ?_ _) | (with_reducible refine Kd.C_drewN ?_ _) | (with_reducible refine Kd.C_drew ?_))); (case side2 => exact (Kd.R_reads' HO_274002.out).2.1); (case side3 => repeat (first | exact (Kd.R_reads' HO_12.out).2.2 | (with_reducible refine Kd.C_alloc ?_ _) | (with_reducible refine Kd.C_drewN ?_ _) | (with_reducible refine Kd.C_drew ?_))); (case side4 => exact (Kd.R_reads' HO_12.out).2.1); rintro e w123 ⟨v300, rfl, ho0, hb⟩; refine ⟨_, rfl, ?_⟩; replace HO_7 := Aside0.mk (Kd.R_below (fr_ HO_7.out) hb); replace HO_274002 := Aside0.mk (Kd.R_below (fr_ HO_274002.out) hb); have HO301 := Aside0.mk (Kd.R_lower (Kd.R_new' ho0 (Kd.R_lt (fr_ HO_12.out))) (below_size (bel_ HB.out))); replace HO_12 := Aside0.mk (Kd.R_elder' (fr_ HO_12.out) (Kd.R_base ho0) hb); replace BK273 := Aside0.mk (blk_below (g := gb273) (o := .cells #[.int .i64 t267, .int .i64 t268, .slice Ao11 t269.length co11] 84 (0, 0)) (fb_ BK273.out) hb); replace HB := Aside0.mk (below_step (bel_ HB.out) hb); (try clear hb); (try clear hb2); (try clear hk); (try clear hi); (try clear ho0); obtain ⟨Ao124, co124, eo124⟩ := Kd.R_slice HO301.out; subst eo124))
        go_ret
        exact ⟨by first | rfl | (simp [errW_none, errW_some] <;> rfl) | (simp [*, errW_none, errW_some] <;> rfl), bel_ HB.out⟩

/-- THE ONE PURE STATEMENT of laws_FnRing: yours. -/
def laws_FnRing.Pure : Prop := ∀ (l0 : List Int), l0.length ≤ maxLen → l0.length * 1 ≤ 140737488351232 → (∀ x ∈ l0, (Lit.int .u8 x).wf = true) → ∃ k, laws_FnRing.f k l0 = some true
theorem laws_FnRing.walk (P : laws_FnRing.Pure) (a0 : Option Addr) (len0 cap0 : Nat) (z0 : List Int) (w : World) (w0 : (a0 = none ∧ len0 = 0 ∧ cap0 = 0 ∧ z0 = []) ∨ ∃ x, a0 = some x ∧ len0 ≤ cap0 ∧ cap0 ≤ maxLen ∧ z0.length = cap0 ∧ (∀ i, i < z0.length → w.cell? (x.add i) = some (.int .u8 (z0.getD i 0))) ∧ ∀ n ∈ z0, (Lit.int .u8 n).wf = true) (y0 : len0 * 1 ≤ 140737488351232) :
  Calls Try.prog 8 #[.slice a0 len0 cap0] w fun e w' => e = .returned (.bool true) ∧ Below w.heap.size w w' := by
 obtain ⟨l0, rfl, hr0, hm0, hw0, hc0⟩ := ReadsInt.ofRowC w0
 obtain ⟨k, h⟩ := P l0 hm0 y0 hw0
 refine (laws_FnRing.calls k _ _ l0 true w (Kd.C_of_reads (d := (0 : Int)) (h1 := fun _ => rfl) hr0) hc0 h).mono ?_
 rintro e w' ⟨rfl, hd⟩
 exact ⟨rfl, hd⟩

end Go.Proofs.Ytlphfhibnbhkfaa.PFnRing
