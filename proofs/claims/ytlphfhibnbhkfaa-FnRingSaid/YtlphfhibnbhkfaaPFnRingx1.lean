/- The Lean side of Go functions of this seat: what each answers, and that its run comes to that answer; written by a program of this work. -/
import Derived.Test.YtlphfhibnbhkfaaPFnRingx0
namespace Go.Proofs.Ytlphfhibnbhkfaa.PFnRing
open Go.RowKit Go.Proofs.YtlphfhibnbhkfaaW.PrintWords Go.Proofs.YtlphfhibnbhkfaaW.PrintLast Go.Proofs.YtlphfhibnbhkfaaW.PrintMore
attribute [local go_sem] max2_int min2_int max_two min_two max_three min_three max_four min_four   -- for this text's walks alone
set_option linter.unusedVariables false
set_option linter.unusedSimpArgs false

/-! ### laws_big: function 9 -/
def laws_big.f (l0 : List Int) : Option (Bool) := some (decide ((l0.length : Int) > 1048576))
set_option maxHeartbeats 8000000 in
set_option maxRecDepth 100000 in
theorem laws_big.calls (A0 : Option Addr) (c0 : Nat) (l0 : List Int) (r : Bool) (w : World) (hr0 : Kd.C (Kd.int .u8) w A0 l0.length l0) (hc0 : l0.length ≤ c0) (h : laws_big.f l0 = some r) :
    Calls Try.prog 9 #[.slice A0 l0.length c0] w fun e w' => e = .returned (.bool r) ∧ Drawn0 w w' := by
  have HR0 := Aside0.mk hr0
  have HC0 := Aside0.mk hc0
  clear hr0 hc0
  have H : (some (decide ((l0.length : Int) > 1048576))) = some r := h
  clear h
  obtain rfl := Option.some.inj H
  go_enter Try.func9, Try.ntmps9
  go_wp2
  go_ret
  exact ⟨by first | rfl | (simp; done) | (simp [*]; done) | (simp [wrap64]; done), by repeat (first | exact Drawn0.refl _ | apply Drawn0.step)⟩

/-! ### laws_at: function 13 -/
def laws_at.f (l0 : List Int) (a1 : Int) : Option (Int) := if a1 < (l0.length : Int) then (if 0 ≤ a1 then (some (wrap64 (rd l0 a1))) else (none)) else (some (Int.tmod (wrap64 ((wrap64 (a1 * 7)) + (l0.length : Int))) 256))
set_option maxHeartbeats 8000000 in
set_option maxRecDepth 100000 in
theorem laws_at.calls (A0 : Option Addr) (c0 : Nat) (l0 : List Int) (a1 : Int) (r : Int) (w : World) (hr0 : Kd.C (Kd.int .u8) w A0 l0.length l0) (hc0 : l0.length ≤ c0) (h : laws_at.f l0 a1 = some r) :
    Calls Try.prog 13 #[.slice A0 l0.length c0, .int .i64 a1] w fun e w' => e = .returned (.int .i64 r) ∧ Drawn0 w w' := by
  have HR0 := Aside0.mk hr0
  have HC0 := Aside0.mk hc0
  clear hr0 hc0
  have H : (if a1 < (l0.length : Int) then (if 0 ≤ a1 then (some (wrap64 (rd l0 a1))) else (none)) else (some (Int.tmod (wrap64 ((wrap64 (a1 * 7)) + (l0.length : Int))) 256))) = some r := h
  clear h
  by_cases c3 : a1 < (l0.length : Int)
  · rw [if_pos c3] at H
    have c3b0 : decide (a1 < (l0.length : Int)) = true := decide_eq_true c3
    clear c3
    by_cases c4 : 0 ≤ a1
    · rw [if_pos c4] at H
      have c4b0 : decide (0 ≤ a1) = true := decide_eq_true c4
      clear c4
      obtain rfl := Option.some.inj H
      have p101 : 0 ≤ (a1 : Int) := of_decide_eq_true (by first | (with_reducible assumption) | assumption)
      have q101 : a1 < (l0.length : Int) := of_decide_eq_true (by first | (with_reducible assumption) | assumption)
      obtain ⟨ad101, e101, hx101_0⟩ := Kd.at_int HR0.out a1 p101 q101
      cases e101
      replace p101 := eq_true p101
      replace q101 := eq_true q101
      go_enter Try.func13, Try.ntmps13
      go_wp2
      go_ret
      exact ⟨by first | rfl | (simp; done) | (simp [*]; done) | (simp [wrap64]; done), by repeat (first | exact Drawn0.refl _ | apply Drawn0.step)⟩
    · rw [if_neg c4] at H
      exact absurd H (by simp)
  · rw [if_neg c3] at H
    have c3b0 : decide (a1 < (l0.length : Int)) = false := decide_eq_false c3
    clear c3
    obtain rfl := Option.some.inj H
    go_enter Try.func13, Try.ntmps13
    go_wp2
    go_ret
    exact ⟨by first | rfl | (simp; done) | (simp [*]; done) | (simp [wrap64]; done), by repeat (first | exact Drawn0.refl _ | apply Drawn0.step)⟩

/-! ### impl_in: function 48 -/
def impl_in.f (a0 : Int) (a1 : Int) (a2 : Int) : Option (Bool) := if a0 ≥ a1 then (some (decide (a0 ≤ a2))) else (some false)
set_option maxHeartbeats 8000000 in
set_option maxRecDepth 100000 in
theorem impl_in.calls (a0 : Int) (a1 : Int) (a2 : Int) (r : Bool) (w : World) (h : impl_in.f a0 a1 a2 = some r) :
    Calls Try.prog 48 #[.int .i64 a0, .int .i64 a1, .int .i64 a2] w fun e w' => e = .returned (.bool r) ∧ Drawn0 w w' := by
  have H : (if a0 ≥ a1 then (some (decide (a0 ≤ a2))) else (some false)) = some r := h
  clear h
  by_cases c4 : a0 ≥ a1
  · rw [if_pos c4] at H
    have c4b0 : decide (a1 ≤ a0) = true := decide_eq_true c4
    clear c4
    obtain rfl := Option.some.inj H
    go_enter Try.func48, Try.ntmps48
    go_wp2
    go_ret
    exact ⟨by first | rfl | (simp; done) | (simp [*]; done) | (simp [wrap64]; done), by repeat (first | exact Drawn0.refl _ | apply Drawn0.step)⟩
  · rw [if_neg c4] at H
    have c4b0 : decide (a1 ≤ a0) = false := decide_eq_false c4
    clear c4
    obtain rfl := Option.some.inj H
    go_enter Try.func48, Try.ntmps48
    go_wp2
    go_ret
    exact ⟨by first | rfl | (simp; done) | (simp [*]; done) | (simp [wrap64]; done), by repeat (first | exact Drawn0.refl _ | apply Drawn0.step)⟩

/-! ### impl_OneWay: function 35 -/
mutual
def impl_OneWay.j0 : Nat → Int → Int → Bool → Option (Int × Int × List Int × Bool)
 | 0, _, _, _ => none
 | k + 1, x0, x1, x17 => if x17 = true then (some (0, 0, ([] : List Int), false)) else (if 0 ≤ (wrap64 (x0 * x1)) then (if (wrap64 (x0 * x1) : Int).toNat ≤ 35184372088832 then ((some (List.replicate (wrap64 (x0 * x1) : Int).toNat 0 : List Int)).bind fun y105 => (impl_OneWay.l0 k x0 x1 (y105.length : Int) 0 x0 x1 y105)) else (none)) else (none))
def impl_OneWay.l0 : Nat → Int → Int → Int → Int → Int → Int → List Int → Option (Int × Int × List Int × Bool)
 | 0, _, _, _, _, _, _, _ => none
 | k + 1, x0, x1, x28, x29, x109000, x109001, x109002 => if x29 < x28 then (if x0 = 0 then (none) else (if (wrap64 (Int.tdiv x29 x0)) = 0 then (impl_OneWay.j2 k x0 x1 x29 (Int.tmod x29 x0) (wrap64 (Int.tdiv x29 x0)) x28 x29 (decide ((Int.tmod x29 x0) < (wrap64 (x0 - 1)))) x109000 x109001 x109002) else (impl_OneWay.j2 k x0 x1 x29 (Int.tmod x29 x0) (wrap64 (Int.tdiv x29 x0)) x28 x29 false x109000 x109001 x109002))) else (some (x109000, x109001, x109002, true))
def impl_OneWay.j2 : Nat → Int → Int → Int → Int → Int → Int → Int → Bool → Int → Int → List Int → Option (Int × Int × List Int × Bool)
 | 0, _, _, _, _, _, _, _, _, _, _, _ => none
 | k + 1, x0, x1, x7, x8, x9, x28, x29, x42, x109000, x109001, x109002 => if x42 = true then (if 0 ≤ x7 then (if x7 < (x109002.length : Int) then (impl_OneWay.l0 k x0 x1 x28 (wrap64 (x29 + 1)) x109000 x109001 (x109002.set (x7 : Int).toNat 1)) else (none)) else (none)) else (if x8 = (wrap64 (x0 - 1)) then (impl_OneWay.j3 k x0 x1 x7 x8 x9 x28 x29 (decide (x9 < (wrap64 (x1 - 1)))) x109000 x109001 x109002) else (impl_OneWay.j3 k x0 x1 x7 x8 x9 x28 x29 false x109000 x109001 x109002))
def impl_OneWay.j3 : Nat → Int → Int → Int → Int → Int → Int → Int → Bool → Int → Int → List Int → Option (Int × Int × List Int × Bool)
 | 0, _, _, _, _, _, _, _, _, _, _, _ => none
 | k + 1, x0, x1, x7, x8, x9, x28, x29, x55, x109000, x109001, x109002 => if x55 = true then (if 0 ≤ x7 then (if x7 < (x109002.length : Int) then (impl_OneWay.l0 k x0 x1 x28 (wrap64 (x29 + 1)) x109000 x109001 (x109002.set (x7 : Int).toNat 2)) else (none)) else (none)) else (if x9 = (wrap64 (x1 - 1)) then (impl_OneWay.j4 k x0 x1 x7 x8 x9 x28 x29 (decide (x8 > 0)) x109000 x109001 x109002) else (impl_OneWay.j4 k x0 x1 x7 x8 x9 x28 x29 false x109000 x109001 x109002))
def impl_OneWay.j4 : Nat → Int → Int → Int → Int → Int → Int → Int → Bool → Int → Int → List Int → Option (Int × Int × List Int × Bool)
 | 0, _, _, _, _, _, _, _, _, _, _, _ => none
 | k + 1, x0, x1, x7, x8, x9, x28, x29, x70, x109000, x109001, x109002 => if x70 = true then (if 0 ≤ x7 then (if x7 < (x109002.length : Int) then (impl_OneWay.l0 k x0 x1 x28 (wrap64 (x29 + 1)) x109000 x109001 (x109002.set (x7 : Int).toNat 4)) else (none)) else (none)) else (if x8 = 0 then (if x9 > 0 then (if 0 ≤ x7 then (if x7 < (x109002.length : Int) then (impl_OneWay.l0 k x0 x1 x28 (wrap64 (x29 + 1)) x109000 x109001 (x109002.set (x7 : Int).toNat 8)) else (none)) else (none)) else (if 0 ≤ x7 then (if x7 < (x109002.length : Int) then (impl_OneWay.l0 k x0 x1 x28 (wrap64 (x29 + 1)) x109000 x109001 (x109002.set (x7 : Int).toNat 15)) else (none)) else (none))) else (if 0 ≤ x7 then (if x7 < (x109002.length : Int) then (impl_OneWay.l0 k x0 x1 x28 (wrap64 (x29 + 1)) x109000 x109001 (x109002.set (x7 : Int).toNat 15)) else (none)) else (none)))
end
def impl_OneWay.f (k : Nat) (a0 : Int) (a1 : Int) : Option (Int × Int × List Int × Bool) := (impl_in.f a0 2 10).bind fun t103 => (if t103 = true then ((impl_in.f a1 2 10).bind fun t104 => (impl_OneWay.j0 k a0 a1 (!t104))) else (impl_OneWay.j0 k a0 a1 true))
theorem impl_OneWay.mono_l : ∀ k, (∀ y0 y1 y2, LeO (impl_OneWay.j0 k y0 y1 y2) (impl_OneWay.j0 (k + 1) y0 y1 y2)) ∧ (∀ y0 y1 y2 y3 y4 y5 y6, LeO (impl_OneWay.l0 k y0 y1 y2 y3 y4 y5 y6) (impl_OneWay.l0 (k + 1) y0 y1 y2 y3 y4 y5 y6)) ∧ (∀ y0 y1 y2 y3 y4 y5 y6 y7 y8 y9 y10, LeO (impl_OneWay.j2 k y0 y1 y2 y3 y4 y5 y6 y7 y8 y9 y10) (impl_OneWay.j2 (k + 1) y0 y1 y2 y3 y4 y5 y6 y7 y8 y9 y10)) ∧ (∀ y0 y1 y2 y3 y4 y5 y6 y7 y8 y9 y10, LeO (impl_OneWay.j3 k y0 y1 y2 y3 y4 y5 y6 y7 y8 y9 y10) (impl_OneWay.j3 (k + 1) y0 y1 y2 y3 y4 y5 y6 y7 y8 y9 y10)) ∧ (∀ y0 y1 y2 y3 y4 y5 y6 y7 y8 y9 y10, LeO (impl_OneWay.j4 k y0 y1 y2 y3 y4 y5 y6 y7 y8 y9 y10) (impl_OneWay.j4 (k + 1) y0 y1 y2 y3 y4 y5 y6 y7 y8 y9 y10))
 | 0 => ⟨fun _ _ _ r h => by simp [impl_OneWay.j0] at h, fun _ _ _ _ _ _ _ r h => by simp [impl_OneWay.l0] at h, fun _ _ _ _ _ _ _ _ _ _ _ r h => by simp [impl_OneWay.j2] at h, fun _ _ _ _ _ _ _ _ _ _ _ r h => by simp [impl_OneWay.j3] at h, fun _ _ _ _ _ _ _ _ _ _ _ r h => by simp [impl_OneWay.j4] at h⟩
 | k + 1 => by
  obtain ⟨ih0, ih1, ih2, ih3, ih4⟩ := impl_OneWay.mono_l k
  refine ⟨?_, ?_, ?_, ?_, ?_⟩
  ·intro y0 y1 y2
   unfold impl_OneWay.j0
   repeat' first
   | (with_reducible exact ih0 _ _ _)
   | (with_reducible exact ih1 _ _ _ _ _ _ _)
   | (with_reducible exact ih2 _ _ _ _ _ _ _ _ _ _ _)
   | (with_reducible exact ih3 _ _ _ _ _ _ _ _ _ _ _)
   | (with_reducible exact ih4 _ _ _ _ _ _ _ _ _ _ _)
   | (with_reducible exact LeO.refl _)
   | (with_reducible exact LeO.none _)
   | (with_reducible refine LeO.ite ?_ ?_)
   | (with_reducible refine LeO.bind ?_ (fun _ => ?_))
   | exact ih0 _ _ _
   | exact ih1 _ _ _ _ _ _ _
   | exact ih2 _ _ _ _ _ _ _ _ _ _ _
   | exact ih3 _ _ _ _ _ _ _ _ _ _ _
   | exact ih4 _ _ _ _ _ _ _ _ _ _ _
   | exact LeO.none _
   | refine LeO.ite ?_ ?_
   | refine LeO.bind ?_ (fun _ => ?_)
  ·intro y0 y1 y2 y3 y4 y5 y6
   unfold impl_OneWay.l0
   repeat' first
   | (with_reducible exact ih0 _ _ _)
   | (with_reducible exact ih1 _ _ _ _ _ _ _)
   | (with_reducible exact ih2 _ _ _ _ _ _ _ _ _ _ _)
   | (with_reducible exact ih3 _ _ _ _ _ _ _ _ _ _ _)
   | (with_reducible exact ih4 _ _ _ _ _ _ _ _ _ _ _)
   | (with_reducible exact LeO.refl _)
   | (with_reducible exact LeO.none _)
   | (with_reducible refine LeO.ite ?_ ?_)
   | (with_reducible refine LeO.bind ?_ (fun _ => ?_))
   | exact ih0 _ _ _
   | exact ih1 _ _ _ _ _ _ _
   | exact ih2 _ _ _ _ _ _ _ _ _ _ _
   | exact ih3 _ _ _ _ _ _ _ _ _ _ _
   | exact ih4 _ _ _ _ _ _ _ _ _ _ _
   | exact LeO.none _
   | refine LeO.ite ?_ ?_
   | refine LeO.bind ?_ (fun _ => ?_)
  ·intro y0 y1 y2 y3 y4 y5 y6 y7 y8 y9 y10
   unfold impl_OneWay.j2
   repeat' first
   | (with_reducible exact ih0 _ _ _)
   | (with_reducible exact ih1 _ _ _ _ _ _ _)
   | (with_reducible exact ih2 _ _ _ _ _ _ _ _ _ _ _)
   | (with_reducible exact ih3 _ _ _ _ _ _ _ _ _ _ _)
   | (with_reducible exact ih4 _ _ _ _ _ _ _ _ _ _ _)
   | (with_reducible exact LeO.refl _)
   | (with_reducible exact LeO.none _)
   | (with_reducible refine LeO.ite ?_ ?_)
   | (with_reducible refine LeO.bind ?_ (fun _ => ?_))
   | exact ih0 _ _ _
   | exact ih1 _ _ _ _ _ _ _
   | exact ih2 _ _ _ _ _ _ _ _ _ _ _
   | exact ih3 _ _ _ _ _ _ _ _ _ _ _
   | exact ih4 _ _ _ _ _ _ _ _ _ _ _
   | exact LeO.none _
   | refine LeO.ite ?_ ?_
   | refine LeO.bind ?_ (fun _ => ?_)
  ·intro y0 y1 y2 y3 y4 y5 y6 y7 y8 y9 y10
   unfold impl_OneWay.j3
   repeat' first
   | (with_reducible exact ih0 _ _ _)
   | (with_reducible exact ih1 _ _ _ _ _ _ _)
   | (with_reducible exact ih2 _ _ _ _ _ _ _ _ _ _ _)
   | (with_reducible exact ih3 _ _ _ _ _ _ _ _ _ _ _)
   | (with_reducible exact ih4 _ _ _ _ _ _ _ _ _ _ _)
   | (with_reducible exact LeO.refl _)
   | (with_reducible exact LeO.none _)
   | (with_reducible refine LeO.ite ?_ ?_)
   | (with_reducible refine LeO.bind ?_ (fun _ => ?_))
   | exact ih0 _ _ _
   | exact ih1 _ _ _ _ _ _ _
   | exact ih2 _ _ _ _ _ _ _ _ _ _ _
   | exact ih3 _ _ _ _ _ _ _ _ _ _ _
   | exact ih4 _ _ _ _ _ _ _ _ _ _ _
   | exact LeO.none _
   | refine LeO.ite ?_ ?_
   | refine LeO.bind ?_ (fun _ => ?_)
  ·intro y0 y1 y2 y3 y4 y5 y6 y7 y8 y9 y10
   unfold impl_OneWay.j4
   repeat' first
   | (with_reducible exact ih0 _ _ _)
   | (with_reducible exact ih1 _ _ _ _ _ _ _)
   | (with_reducible exact ih2 _ _ _ _ _ _ _ _ _ _ _)
   | (with_reducible exact ih3 _ _ _ _ _ _ _ _ _ _ _)
   | (with_reducible exact ih4 _ _ _ _ _ _ _ _ _ _ _)
   | (with_reducible exact LeO.refl _)
   | (with_reducible exact LeO.none _)
   | (with_reducible refine LeO.ite ?_ ?_)
   | (with_reducible refine LeO.bind ?_ (fun _ => ?_))
   | exact ih0 _ _ _
   | exact ih1 _ _ _ _ _ _ _
   | exact ih2 _ _ _ _ _ _ _ _ _ _ _
   | exact ih3 _ _ _ _ _ _ _ _ _ _ _
   | exact ih4 _ _ _ _ _ _ _ _ _ _ _
   | exact LeO.none _
   | refine LeO.ite ?_ ?_
   | refine LeO.bind ?_ (fun _ => ?_)
theorem impl_OneWay.mono : ∀ a0 a1 k, LeO (impl_OneWay.f k a0 a1) (impl_OneWay.f (k + 1) a0 a1) := by
 intro a0 a1 k
 obtain ⟨ih0, ih1, ih2, ih3, ih4⟩ := impl_OneWay.mono_l k
 unfold impl_OneWay.f
 repeat' first
   | (with_reducible exact ih0 _ _ _)
   | (with_reducible exact ih1 _ _ _ _ _ _ _)
   | (with_reducible exact ih2 _ _ _ _ _ _ _ _ _ _ _)
   | (with_reducible exact ih3 _ _ _ _ _ _ _ _ _ _ _)
   | (with_reducible exact ih4 _ _ _ _ _ _ _ _ _ _ _)
   | (with_reducible exact LeO.refl _)
   | (with_reducible exact LeO.none _)
   | (with_reducible refine LeO.ite ?_ ?_)
   | (with_reducible refine LeO.bind ?_ (fun _ => ?_))
   | exact ih0 _ _ _
   | exact ih1 _ _ _ _ _ _ _
   | exact ih2 _ _ _ _ _ _ _ _ _ _ _
   | exact ih3 _ _ _ _ _ _ _ _ _ _ _
   | exact ih4 _ _ _ _ _ _ _ _ _ _ _
   | exact LeO.none _
   | refine LeO.ite ?_ ?_
   | refine LeO.bind ?_ (fun _ => ?_)
set_option maxHeartbeats 8000000 in
set_option maxRecDepth 100000 in
theorem impl_OneWay.calls (k : Nat) (a0 : Int) (a1 : Int) (r1 : Int) (r2 : Int) (r3 : List Int) (r4 : Bool) (w : World) (h : impl_OneWay.f k a0 a1 = some (r1, r2, r3, r4)) :
  Calls Try.prog 35 #[.int .i64 a0, .int .i64 a1] w fun e w' => ∃ v2_ : Value, e = .returned (.tuple #[.agg #[.int .i64 r1, .int .i64 r2, v2_], .bool r4]) ∧ Kd.R (Kd.int .i64) 3 w' w.heap.size (fun _ => True) v2_ r3 ∧ Below w.heap.size w w' := by
 have hu84 := Try.underlying84
 have HB := Aside0.mk (Below.refl w.heap.size w)
 have H : ((impl_in.f a0 2 10).bind fun t103 => (if t103 = true then ((impl_in.f a1 2 10).bind fun t104 => (impl_OneWay.j0 k a0 a1 (!t104))) else (impl_OneWay.j0 k a0 a1 true))) = some (r1, r2, r3, r4) := h
 clear h
 have HC3 := Aside0.mk H
 clear H
 go_enter Try.func35, Try.ntmps35
 go_upto_region 1 with (first | ((with_reducible refine gate_dst (N := 4) rfl ?_); refine box_event ?hg (N := 4) ?hd (cs := #[.int .i64 0, .int .i64 0, .slice none 0 0]) (t := 84) ?hr ?_; (case hd => rfl); (case hg => rfl); (case hr => first | (go_simp; done) | (go_simp; rfl)); intro gb102 hg w4 hbox hb; have n0_ := Aside0.mk (below_step (bel_ HB.out) hb); have n1_ := Aside0.mk (hbox); have n2_ := Aside0.mk ((by rw [hg]; exact (below_size (bel_ HB.out)) : w.heap.size ≤ gb102)); have n3_ := Aside0.mk ((by rw [hg]; exact (below_size (bel_ HB.out)) : w.heap.size ≤ gb102)); clear HB; have HB := n0_; have BK102 := n1_; have GW102 := n2_; have GE102 := n3_; clear n0_ n1_ n2_ n3_; clear hb hbox hg))
 repeat (go_quiet (first | ((with_reducible refine gate_dst (N := 4) rfl ?_); refine box_event ?hg (N := 4) ?hd (cs := #[.int .i64 0, .int .i64 0, .slice none 0 0]) (t := 84) ?hr ?_; (case hd => rfl); (case hg => rfl); (case hr => first | (go_simp; done) | (go_simp; rfl)); intro gb102 hg w4 hbox hb; have n0_ := Aside0.mk (below_step (bel_ HB.out) hb); have n1_ := Aside0.mk (hbox); have n2_ := Aside0.mk ((by rw [hg]; exact (below_size (bel_ HB.out)) : w.heap.size ≤ gb102)); have n3_ := Aside0.mk ((by rw [hg]; exact (below_size (bel_ HB.out)) : w.heap.size ≤ gb102)); clear HB; have HB := n0_; have BK102 := n1_; have GW102 := n2_; have GE102 := n3_; clear n0_ n1_ n2_ n3_; clear hb hbox hg)); go_upto_region 1 with (first | ((with_reducible refine gate_dst (N := 4) rfl ?_); refine box_event ?hg (N := 4) ?hd (cs := #[.int .i64 0, .int .i64 0, .slice none 0 0]) (t := 84) ?hr ?_; (case hd => rfl); (case hg => rfl); (case hr => first | (go_simp; done) | (go_simp; rfl)); intro gb102 hg w4 hbox hb; have n0_ := Aside0.mk (below_step (bel_ HB.out) hb); have n1_ := Aside0.mk (hbox); have n2_ := Aside0.mk ((by rw [hg]; exact (below_size (bel_ HB.out)) : w.heap.size ≤ gb102)); have n3_ := Aside0.mk ((by rw [hg]; exact (below_size (bel_ HB.out)) : w.heap.size ≤ gb102)); clear HB; have HB := n0_; have BK102 := n1_; have GW102 := n2_; have GE102 := n3_; clear n0_ n1_ n2_ n3_; clear hb hbox hg)))
 (try simp only [Act.put, sA_, sZ_, sS_])
 go_cut [17] (fun v17 wc => ∃ (kq : Nat) (x17_2 : Bool), v17 = .bool x17_2 ∧ Aside0 (impl_OneWay.j0 kq a0 a1 x17_2 = some (r1, r2, r3, r4)) ∧ Aside0 (kq ≤ k) ∧ Aside0 (wc.heap[gb102]? = some (.cells #[.int .i64 0, .int .i64 0, (.slice none 0 0)] 84 (0, 0))) ∧ Aside0 (Below w.heap.size w wc))
 case first =>
  have H := HC3.out
  clear HC3
  replace H := Option.bind_eq_some_iff.mp H
  obtain ⟨t103, A50, H⟩ := H
  replace H : (if t103 = true then ((impl_in.f a1 2 10).bind fun t104 => (impl_OneWay.j0 k a0 a1 (!t104))) else (impl_OneWay.j0 k a0 a1 true)) = some (r1, r2, r3, r4) := H
  have A5 := Aside0.mk A50
  clear A50
  by_cases c6 : t103 = true
  ·subst c6
   have H1 : ((impl_in.f a1 2 10).bind fun t104 => (impl_OneWay.j0 k a0 a1 (!t104))) = some (r1, r2, r3, r4) := by rw [if_pos rfl] at H; exact H
   clear H
   have H := H1
   clear H1
   replace H := Option.bind_eq_some_iff.mp H
   obtain ⟨t104, A70, H⟩ := H
   replace H : (impl_OneWay.j0 k a0 a1 (!t104)) = some (r1, r2, r3, r4) := H
   have A7 := Aside0.mk A70
   clear A70
   have H' := Aside0.mk H
   clear H
   go_wp2_with (first | (go_at_call 48; (with_reducible refine (impl_in.calls a0 2 10 true _ A5.out).mono ?_); rintro e w' ⟨rfl, ⟨nd, rfl⟩⟩; (try first | exact ⟨rfl, _, World.drewN_drewN _ _ _⟩ | exact ⟨rfl, _, Eq.trans (World.drewN_drewN _ _ _) (congrArg (World.drewN _) (Nat.add_assoc _ _ _))⟩)) | (go_at_call 48; (with_reducible refine (impl_in.calls a1 2 10 t104 _ A7.out).mono ?_); rintro e w' ⟨rfl, ⟨nd, rfl⟩⟩; (try first | exact ⟨rfl, _, World.drewN_drewN _ _ _⟩ | exact ⟨rfl, _, Eq.trans (World.drewN_drewN _ _ _) (congrArg (World.drewN _) (Nat.add_assoc _ _ _))⟩)))
   repeat (go_quiet (first | (go_at_call 48; (with_reducible refine (impl_in.calls a0 2 10 true _ A5.out).mono ?_); rintro e w' ⟨rfl, ⟨nd, rfl⟩⟩; (try first | exact ⟨rfl, _, World.drewN_drewN _ _ _⟩ | exact ⟨rfl, _, Eq.trans (World.drewN_drewN _ _ _) (congrArg (World.drewN _) (Nat.add_assoc _ _ _))⟩)) | (go_at_call 48; (with_reducible refine (impl_in.calls a1 2 10 t104 _ A7.out).mono ?_); rintro e w' ⟨rfl, ⟨nd, rfl⟩⟩; (try first | exact ⟨rfl, _, World.drewN_drewN _ _ _⟩ | exact ⟨rfl, _, Eq.trans (World.drewN_drewN _ _ _) (congrArg (World.drewN _) (Nat.add_assoc _ _ _))⟩))); try go_wp2_with (first | (go_at_call 48; (with_reducible refine (impl_in.calls a0 2 10 true _ A5.out).mono ?_); rintro e w' ⟨rfl, ⟨nd, rfl⟩⟩; (try first | exact ⟨rfl, _, World.drewN_drewN _ _ _⟩ | exact ⟨rfl, _, Eq.trans (World.drewN_drewN _ _ _) (congrArg (World.drewN _) (Nat.add_assoc _ _ _))⟩)) | (go_at_call 48; (with_reducible refine (impl_in.calls a1 2 10 t104 _ A7.out).mono ?_); rintro e w' ⟨rfl, ⟨nd, rfl⟩⟩; (try first | exact ⟨rfl, _, World.drewN_drewN _ _ _⟩ | exact ⟨rfl, _, Eq.trans (World.drewN_drewN _ _ _) (congrArg (World.drewN _) (Nat.add_assoc _ _ _))⟩))))
   go_meet
   case rel => exact ⟨_, (!t104), (by first | rfl | (simp; done) | (simp [*]; done) | (simp [wrap64]; done)), H', ⟨by first | omega | exact Nat.le_refl _⟩, ⟨by (with_reducible repeat (first | refine blk_drewN ?_ _ | refine blk_drew ?_ | refine blk_alloc ?_ _)); exact BK102.out⟩, ⟨bel_ HB.out⟩⟩
  ·replace c6 := Bool.eq_false_iff.mpr c6
   subst c6
   have H1 : (impl_OneWay.j0 k a0 a1 true) = some (r1, r2, r3, r4) := by rw [if_neg (show ¬ (false = true) by decide)] at H; exact H
   clear H
   have H := H1
   clear H1
   have H' := Aside0.mk H
   clear H
   go_wp2_with (first | (go_at_call 48; (with_reducible refine (impl_in.calls a0 2 10 false _ A5.out).mono ?_); rintro e w' ⟨rfl, ⟨nd, rfl⟩⟩; (try first | exact ⟨rfl, _, World.drewN_drewN _ _ _⟩ | exact ⟨rfl, _, Eq.trans (World.drewN_drewN _ _ _) (congrArg (World.drewN _) (Nat.add_assoc _ _ _))⟩)))
   repeat (go_quiet (first | (go_at_call 48; (with_reducible refine (impl_in.calls a0 2 10 false _ A5.out).mono ?_); rintro e w' ⟨rfl, ⟨nd, rfl⟩⟩; (try first | exact ⟨rfl, _, World.drewN_drewN _ _ _⟩ | exact ⟨rfl, _, Eq.trans (World.drewN_drewN _ _ _) (congrArg (World.drewN _) (Nat.add_assoc _ _ _))⟩))); try go_wp2_with (first | (go_at_call 48; (with_reducible refine (impl_in.calls a0 2 10 false _ A5.out).mono ?_); rintro e w' ⟨rfl, ⟨nd, rfl⟩⟩; (try first | exact ⟨rfl, _, World.drewN_drewN _ _ _⟩ | exact ⟨rfl, _, Eq.trans (World.drewN_drewN _ _ _) (congrArg (World.drewN _) (Nat.add_assoc _ _ _))⟩))))
   go_meet
   case rel => exact ⟨_, (true), (by first | rfl | (simp; done) | (simp [*]; done) | (simp [wrap64]; done)), H', ⟨by first | omega | exact Nat.le_refl _⟩, ⟨by (with_reducible repeat (first | refine blk_drewN ?_ _ | refine blk_drew ?_ | refine blk_alloc ?_ _)); exact BK102.out⟩, ⟨bel_ HB.out⟩⟩
 case rest =>
  clear HC3
  obtain ⟨kq, x17_2, rfl, HA, HJ2, BK102, HB⟩ := hcut
  cases kq with
  | zero => exact absurd HA.out (by simp [impl_OneWay.j0])
  | succ kj2 =>
   have H := HA.out
   clear HA
   simp only [impl_OneWay.j0] at H
   by_cases c8 : x17_2 = true
   ·subst c8
    have H1 : (some (0, 0, ([] : List Int), false)) = some (r1, r2, r3, r4) := by rw [if_pos rfl] at H; exact H
    clear H
    have H := H1
    clear H1
    simp only [Option.some.injEq, Prod.mk.injEq] at H
    obtain ⟨rfl, rfl, rfl, rfl⟩ := H
    have hcz9_0 : wc.cell? ⟨gb102, 0, none⟩ = some (.int .i64 0) := (blk_cell BK102.out 0).trans rfl
    have hcz9_1 : wc.cell? ⟨gb102, 1, none⟩ = some (.int .i64 0) := (blk_cell BK102.out 1).trans rfl
    have hcz9_2 : wc.cell? ⟨gb102, 2, none⟩ = some (.slice none 0 0) := (blk_cell BK102.out 2).trans rfl
    have hfz9_0 := blk_frozen BK102.out 0
    have hfz9_1 := blk_frozen BK102.out 1
    have hfz9_2 := blk_frozen BK102.out 2
    go_wp2
    repeat (go_quiet (fail); try go_wp2)
    refine bodyPost_ret (results_ct rfl _ _ gb102 84 #[.int .i64 0, .int .i64 0, .slice none 0 0] (0, 0) _ rfl (by (with_reducible repeat (first | refine blk_drewN ?_ _ | refine blk_drew ?_ | refine blk_alloc ?_ _)); refine blk_put (cs := #[.int .i64 0, .int .i64 0, .slice none 0 0]) ?_ 2 _ rfl; (with_reducible repeat (first | refine blk_drewN ?_ _ | refine blk_drew ?_ | refine blk_alloc ?_ _)); refine blk_put (cs := #[.int .i64 0, .int .i64 0, .slice none 0 0]) ?_ 1 _ rfl; (with_reducible repeat (first | refine blk_drewN ?_ _ | refine blk_drew ?_ | refine blk_alloc ?_ _)); refine blk_put (cs := #[.int .i64 0, .int .i64 0, .slice none 0 0]) ?_ 0 _ rfl; (with_reducible repeat (first | refine blk_drewN ?_ _ | refine blk_drew ?_ | refine blk_alloc ?_ _)); exact BK102.out) Try.underlying84 rfl (by kernel_rfl)) rfl ?_
    exact ⟨_, by first | rfl | (simp [errW_none, errW_some] <;> rfl) | (simp [*, errW_none, errW_some] <;> rfl), by first | exact Kd.R_nil _ _ _ _ _ | exact Kd.N_nil _ _ _ _ _ | exact Kd.V_nil _ _ _ _ _ | exact Kd.Q_nil _ _ _ _ _ | exact Kd.S_nil _ _ _ _ _, bel_ HB.out⟩
   ·replace c8 := Bool.eq_false_iff.mpr c8
    subst c8
    have H1 : (if 0 ≤ (wrap64 (a0 * a1)) then (if (wrap64 (a0 * a1) : Int).toNat ≤ 35184372088832 then ((some (List.replicate (wrap64 (a0 * a1) : Int).toNat 0 : List Int)).bind fun y105 => (impl_OneWay.l0 kj2 a0 a1 (y105.length : Int) 0 a0 a1 y105)) else (none)) else (none)) = some (r1, r2, r3, r4) := by rw [if_neg (show ¬ (false = true) by decide)] at H; exact H
    clear H
    have H := H1
    clear H1
    obtain ⟨ji10, hji10⟩ : ∃ j_ : Int, (wrap64 (a0 * a1)) = j_ := ⟨_, rfl⟩
    replace H : (if 0 ≤ (ji10) then (if (ji10 : Int).toNat ≤ 35184372088832 then ((some (List.replicate (ji10 : Int).toNat 0 : List Int)).bind fun y105 => (impl_OneWay.l0 kj2 a0 a1 (y105.length : Int) 0 a0 a1 y105)) else (none)) else (none)) = some (r1, r2, r3, r4) := by first | (rw [hji10] at H; exact H) | (simp only [hji10] at H ⊢; exact H)
    have hji10w : (IntKind.i64.wrap (a0 * a1)) = ji10 := (i64_w _).trans hji10
    by_cases c11 : 0 ≤ (ji10)
    ·rw [if_pos c11] at H
     have c11b0 := eq_true c11
     have c11b1 : decide (0 ≤ (ji10)) = true := decide_eq_true c11
     clear c11
     by_cases c12 : (ji10 : Int).toNat ≤ 35184372088832
     ·rw [if_pos c12] at H
      have c12b0 := eq_true c12
      have c12b1 : decide ((ji10 : Int).toNat ≤ 35184372088832) = true := decide_eq_true c12
      clear c12
      obtain ⟨y105, hy105⟩ : ∃ y_ : List Int, y_ = (List.replicate (ji10 : Int).toNat 0) := ⟨_, rfl⟩
      replace H : (impl_OneWay.l0 kj2 a0 a1 (y105.length : Int) 0 a0 a1 y105) = some (r1, r2, r3, r4) := by first | (rw [hy105]; with_reducible exact H) | (have H2_ := (Option.bind_some _ _).symm.trans H; rw [hy105]; with_reducible exact H2_) | (have H2_ := (Option.bind_some _ _).symm.trans H; with_reducible exact H2_) | with_reducible exact H | (rw [hy105]; exact H) | exact H
      have Ny105 := Aside0.mk hy105
      clear hy105
      have H' := Aside0.mk H
      clear H
      go_wp2_with (first | ((with_reducible refine gate_dst (N := 24) rfl ?_); refine Kd.R_make (Kd.int .i64) _ 3 rfl (N := 24) rfl 28 _ _ rfl ji10 rfl rfl Try.underlying28 (.int .i64 0) 8 info3 rfl (by decide) (by omega) 0 (ok := fun _ => True) (okp := fun _ => True) rfl (fun _ hk => hk) trivial (of_decide_eq_true (by first | (with_reducible assumption) | assumption)) (Nat.le_trans (Nat.mul_le_mul_right _ (of_decide_eq_true (by first | (with_reducible assumption) | assumption) : ji10.toNat ≤ 35184372088832)) (by omega)) (Below.refl _ _) (Nat.le_refl _) ?_; intro v106 w13 ho14 hb hg_ hnew_; clear hg_ hnew_; (first | rw [← Ny105.out] at ho14 | (simp only [Int.reduceToNat] at ho14; rw [← Ny105.out] at ho14)); have n0_ := Aside0.mk (Kd.R_lower ho14 (below_size (bel_ HB.out))); have n1_ := Aside0.mk (blk_below (g := gb102) (o := .cells #[.int .i64 0, .int .i64 0, .slice none 0 0] 84 (0, 0)) (fb_ BK102.out) hb); have n2_ := Aside0.mk (below_step (bel_ HB.out) hb); clear BK102; clear HB; have HO107 := n0_; have BK102 := n1_; have HB := n2_; clear n0_ n1_ n2_; clear hb ho14; obtain ⟨Ao15, co15, eo15⟩ := Kd.R_slice HO107.out; subst eo15) | ((with_reducible refine gate_dst (N := 6) rfl ?_); refine box_event ?hg (N := 6) ?hd (cs := #[.int .i64 0, .int .i64 0, .slice none 0 0]) (t := 84) ?hr ?_; (case hd => rfl); (case hg => rfl); (case hr => first | (go_simp; done) | (go_simp; rfl)); intro gb108 hg w16 hbox hb; have n0_ := Aside0.mk (Kd.R_below (fr_ HO107.out) hb); have n1_ := Aside0.mk (blk_below (g := gb102) (o := .cells #[.int .i64 0, .int .i64 0, .slice none 0 0] 84 (0, 0)) (fb_ BK102.out) hb); have n2_ := Aside0.mk (below_step (bel_ HB.out) hb); have n3_ := Aside0.mk (hbox); have n4_ := Aside0.mk ((by rw [hg]; exact (below_size (bel_ HB.out)) : w.heap.size ≤ gb108)); have n5_ := Aside0.mk ((by rw [hg]; exact (below_size (bel_ HB.out)) : w.heap.size ≤ gb108)); have n6_ := Aside0.mk ((by rw [hg]; exact Nat.ne_of_lt (blk_lt (g := gb102) (o := .cells #[.int .i64 0, .int .i64 0, .slice none 0 0] 84 (0, 0)) (fb_ BK102.out)) : gb102 ≠ gb108)); have n7_ := Aside0.mk ((by rw [hg]; exact Nat.ne_of_gt (blk_lt (g := gb102) (o := .cells #[.int .i64 0, .int .i64 0, .slice none 0 0] 84 (0, 0)) (fb_ BK102.out)) : gb108 ≠ gb102)); clear HO107; clear BK102; clear HB; have HO107 := n0_; have BK102 := n1_; have HB := n2_; have BK108 := n3_; have GW108 := n4_; have GE108 := n5_; have NB102_108 := n6_; have NB108_102 := n7_; clear n0_ n1_ n2_ n3_ n4_ n5_ n6_ n7_; clear hb hbox hg; have hnb17 := NB108_102.out; have hnc17 := NB102_108.out; have hcz18_0 : w16.cell? ⟨gb108, 0, none⟩ = some (.int .i64 0) := (blk_cell BK108.out 0).trans rfl; have hcz18_1 : w16.cell? ⟨gb108, 1, none⟩ = some (.int .i64 0) := (blk_cell BK108.out 1).trans rfl; have hcz18_2 : w16.cell? ⟨gb108, 2, none⟩ = some (.slice none 0 0) := (blk_cell BK108.out 2).trans rfl; have hfz18_0 := blk_frozen BK108.out 0; have hfz18_1 := blk_frozen BK108.out 1; have hfz18_2 := blk_frozen BK108.out 2))
      repeat (go_quiet (first | ((with_reducible refine gate_dst (N := 24) rfl ?_); refine Kd.R_make (Kd.int .i64) _ 3 rfl (N := 24) rfl 28 _ _ rfl ji10 rfl rfl Try.underlying28 (.int .i64 0) 8 info3 rfl (by decide) (by omega) 0 (ok := fun _ => True) (okp := fun _ => True) rfl (fun _ hk => hk) trivial (of_decide_eq_true (by first | (with_reducible assumption) | assumption)) (Nat.le_trans (Nat.mul_le_mul_right _ (of_decide_eq_true (by first | (with_reducible assumption) | assumption) : ji10.toNat ≤ 35184372088832)) (by omega)) (Below.refl _ _) (Nat.le_refl _) ?_; intro v106 w13 ho14 hb hg_ hnew_; clear hg_ hnew_; (first | rw [← Ny105.out] at ho14 | (simp only [Int.reduceToNat] at ho14; rw [← Ny105.out] at ho14)); have n0_ := Aside0.mk (Kd.R_lower ho14 (below_size (bel_ HB.out))); have n1_ := Aside0.mk (blk_below (g := gb102) (o := .cells #[.int .i64 0, .int .i64 0, .slice none 0 0] 84 (0, 0)) (fb_ BK102.out) hb); have n2_ := Aside0.mk (below_step (bel_ HB.out) hb); clear BK102; clear HB; have HO107 := n0_; have BK102 := n1_; have HB := n2_; clear n0_ n1_ n2_; clear hb ho14; obtain ⟨Ao15, co15, eo15⟩ := Kd.R_slice HO107.out; subst eo15) | ((with_reducible refine gate_dst (N := 6) rfl ?_); refine box_event ?hg (N := 6) ?hd (cs := #[.int .i64 0, .int .i64 0, .slice none 0 0]) (t := 84) ?hr ?_; (case hd => rfl); (case hg => rfl); (case hr => first | (go_simp; done) | (go_simp; rfl)); intro gb108 hg w16 hbox hb; have n0_ := Aside0.mk (Kd.R_below (fr_ HO107.out) hb); have n1_ := Aside0.mk (blk_below (g := gb102) (o := .cells #[.int .i64 0, .int .i64 0, .slice none 0 0] 84 (0, 0)) (fb_ BK102.out) hb); have n2_ := Aside0.mk (below_step (bel_ HB.out) hb); have n3_ := Aside0.mk (hbox); have n4_ := Aside0.mk ((by rw [hg]; exact (below_size (bel_ HB.out)) : w.heap.size ≤ gb108)); have n5_ := Aside0.mk ((by rw [hg]; exact (below_size (bel_ HB.out)) : w.heap.size ≤ gb108)); have n6_ := Aside0.mk ((by rw [hg]; exact Nat.ne_of_lt (blk_lt (g := gb102) (o := .cells #[.int .i64 0, .int .i64 0, .slice none 0 0] 84 (0, 0)) (fb_ BK102.out)) : gb102 ≠ gb108)); have n7_ := Aside0.mk ((by rw [hg]; exact Nat.ne_of_gt (blk_lt (g := gb102) (o := .cells #[.int .i64 0, .int .i64 0, .slice none 0 0] 84 (0, 0)) (fb_ BK102.out)) : gb108 ≠ gb102)); clear HO107; clear BK102; clear HB; have HO107 := n0_; have BK102 := n1_; have HB := n2_; have BK108 := n3_; have GW108 := n4_; have GE108 := n5_; have NB102_108 := n6_; have NB108_102 := n7_; clear n0_ n1_ n2_ n3_ n4_ n5_ n6_ n7_; clear hb hbox hg; have hnb17 := NB108_102.out; have hnc17 := NB102_108.out; have hcz18_0 : w16.cell? ⟨gb108, 0, none⟩ = some (.int .i64 0) := (blk_cell BK108.out 0).trans rfl; have hcz18_1 : w16.cell? ⟨gb108, 1, none⟩ = some (.int .i64 0) := (blk_cell BK108.out 1).trans rfl; have hcz18_2 : w16.cell? ⟨gb108, 2, none⟩ = some (.slice none 0 0) := (blk_cell BK108.out 2).trans rfl; have hfz18_0 := blk_frozen BK108.out 0; have hfz18_1 := blk_frozen BK108.out 1; have hfz18_2 := blk_frozen BK108.out 2)); try go_wp2_with (first | ((with_reducible refine gate_dst (N := 24) rfl ?_); refine Kd.R_make (Kd.int .i64) _ 3 rfl (N := 24) rfl 28 _ _ rfl ji10 rfl rfl Try.underlying28 (.int .i64 0) 8 info3 rfl (by decide) (by omega) 0 (ok := fun _ => True) (okp := fun _ => True) rfl (fun _ hk => hk) trivial (of_decide_eq_true (by first | (with_reducible assumption) | assumption)) (Nat.le_trans (Nat.mul_le_mul_right _ (of_decide_eq_true (by first | (with_reducible assumption) | assumption) : ji10.toNat ≤ 35184372088832)) (by omega)) (Below.refl _ _) (Nat.le_refl _) ?_; intro v106 w13 ho14 hb hg_ hnew_; clear hg_ hnew_; (first | rw [← Ny105.out] at ho14 | (simp only [Int.reduceToNat] at ho14; rw [← Ny105.out] at ho14)); have n0_ := Aside0.mk (Kd.R_lower ho14 (below_size (bel_ HB.out))); have n1_ := Aside0.mk (blk_below (g := gb102) (o := .cells #[.int .i64 0, .int .i64 0, .slice none 0 0] 84 (0, 0)) (fb_ BK102.out) hb); have n2_ := Aside0.mk (below_step (bel_ HB.out) hb); clear BK102; clear HB; have HO107 := n0_; have BK102 := n1_; have HB := n2_; clear n0_ n1_ n2_; clear hb ho14; obtain ⟨Ao15, co15, eo15⟩ := Kd.R_slice HO107.out; subst eo15) | ((with_reducible refine gate_dst (N := 6) rfl ?_); refine box_event ?hg (N := 6) ?hd (cs := #[.int .i64 0, .int .i64 0, .slice none 0 0]) (t := 84) ?hr ?_; (case hd => rfl); (case hg => rfl); (case hr => first | (go_simp; done) | (go_simp; rfl)); intro gb108 hg w16 hbox hb; have n0_ := Aside0.mk (Kd.R_below (fr_ HO107.out) hb); have n1_ := Aside0.mk (blk_below (g := gb102) (o := .cells #[.int .i64 0, .int .i64 0, .slice none 0 0] 84 (0, 0)) (fb_ BK102.out) hb); have n2_ := Aside0.mk (below_step (bel_ HB.out) hb); have n3_ := Aside0.mk (hbox); have n4_ := Aside0.mk ((by rw [hg]; exact (below_size (bel_ HB.out)) : w.heap.size ≤ gb108)); have n5_ := Aside0.mk ((by rw [hg]; exact (below_size (bel_ HB.out)) : w.heap.size ≤ gb108)); have n6_ := Aside0.mk ((by rw [hg]; exact Nat.ne_of_lt (blk_lt (g := gb102) (o := .cells #[.int .i64 0, .int .i64 0, .slice none 0 0] 84 (0, 0)) (fb_ BK102.out)) : gb102 ≠ gb108)); have n7_ := Aside0.mk ((by rw [hg]; exact Nat.ne_of_gt (blk_lt (g := gb102) (o := .cells #[.int .i64 0, .int .i64 0, .slice none 0 0] 84 (0, 0)) (fb_ BK102.out)) : gb108 ≠ gb102)); clear HO107; clear BK102; clear HB; have HO107 := n0_; have BK102 := n1_; have HB := n2_; have BK108 := n3_; have GW108 := n4_; have GE108 := n5_; have NB102_108 := n6_; have NB108_102 := n7_; clear n0_ n1_ n2_ n3_ n4_ n5_ n6_ n7_; clear hb hbox hg; have hnb17 := NB108_102.out; have hnc17 := NB102_108.out; have hcz18_0 : w16.cell? ⟨gb108, 0, none⟩ = some (.int .i64 0) := (blk_cell BK108.out 0).trans rfl; have hcz18_1 : w16.cell? ⟨gb108, 1, none⟩ = some (.int .i64 0) := (blk_cell BK108.out 1).trans rfl; have hcz18_2 : w16.cell? ⟨gb108, 2, none⟩ = some (.slice none 0 0) := (blk_cell BK108.out 2).trans rfl; have hfz18_0 := blk_frozen BK108.out 0; have hfz18_1 := blk_frozen BK108.out 1; have hfz18_2 := blk_frozen BK108.out 2)))
      go_loopg [29] kj2 (fun kq v29 w' => ∃ (x29_2 : Int) (x109002_2 : List Int) (u109002 : Value), v29 = .int .i64 x29_2 ∧ Aside0 (impl_OneWay.l0 kq a0 a1 (y105.length : Int) x29_2 a0 a1 x109002_2 = some (r1, r2, r3, r4)) ∧ Aside0 (kq ≤ kj2) ∧ Aside0 (Kd.R (Kd.int .i64) 3 w' w.heap.size (fun _ => True) u109002 x109002_2) ∧ Aside0 (w'.heap[gb102]? = some (.cells #[.int .i64 0, .int .i64 0, (.slice none 0 0)] 84 (0, 0))) ∧ Aside0 (w'.heap[gb108]? = some (.cells #[.int .i64 a0, .int .i64 a1, u109002] 84 (0, 0))) ∧ Aside0 (Below w.heap.size w w'))
      case atStart => exact ⟨(0), (y105), (.slice Ao15 y105.length co15), (by first | rfl | (simp; done) | (simp [*]; done) | (simp [wrap64]; done)), H', ⟨Nat.le_refl _⟩, ⟨by (with_reducible repeat (first | apply Kd.R_alloc | apply Kd.R_drewN | apply Kd.R_drew)); exact Kd.R_mono (Kd.R_far (p := ⟨gb108, 2, none⟩) (Kd.R_far (p := ⟨gb108, 1, none⟩) (Kd.R_far (p := ⟨gb108, 0, none⟩) (Kd.R_types HO107.out BK108.out (by decide)) (fun _ hk => hk.2) (.int .i64 a0)) (fun _ hk => hk.2) (.int .i64 a1)) (fun _ hk => hk.2) (.slice Ao15 y105.length co15)) (fun _ hk => trivial)⟩, ⟨by (with_reducible repeat (first | refine blk_drewN ?_ _ | refine blk_drew ?_ | refine blk_alloc ?_ _)); refine blk_far ?_ NB102_108.out _; (with_reducible repeat (first | refine blk_drewN ?_ _ | refine blk_drew ?_ | refine blk_alloc ?_ _)); refine blk_far ?_ NB102_108.out _; (with_reducible repeat (first | refine blk_drewN ?_ _ | refine blk_drew ?_ | refine blk_alloc ?_ _)); refine blk_far ?_ NB102_108.out _; (with_reducible repeat (first | refine blk_drewN ?_ _ | refine blk_drew ?_ | refine blk_alloc ?_ _)); exact BK102.out⟩, ⟨by (with_reducible repeat (first | refine blk_drewN ?_ _ | refine blk_drew ?_ | refine blk_alloc ?_ _)); refine blk_put (cs := #[.int .i64 a0, .int .i64 a1, .slice none 0 0]) ?_ 2 _ rfl; (with_reducible repeat (first | refine blk_drewN ?_ _ | refine blk_drew ?_ | refine blk_alloc ?_ _)); refine blk_put (cs := #[.int .i64 a0, .int .i64 0, .slice none 0 0]) ?_ 1 _ rfl; (with_reducible repeat (first | refine blk_drewN ?_ _ | refine blk_drew ?_ | refine blk_alloc ?_ _)); refine blk_put (cs := #[.int .i64 0, .int .i64 0, .slice none 0 0]) ?_ 0 _ rfl; (with_reducible repeat (first | refine blk_drewN ?_ _ | refine blk_drew ?_ | refine blk_alloc ?_ _)); exact BK108.out⟩, ⟨bel_ HB.out⟩⟩
      case round =>
       clear H'
       try clear c8
       try clear c11
       try clear c11b0
       try clear c11b1
       try clear c12
       try clear c12b0
       try clear c12b1
       try clear hcz18_0
       try clear hcz18_1
       try clear hcz18_2
       try clear hfz18_0
       try clear hfz18_1
       try clear hfz18_2
       obtain ⟨x29_2, x109002_2, u109002, rfl, HA, HK2, HO_109002, BK102, BK108, HB⟩ := hrel
       cases gk with
       | zero => exact absurd HA.out (by simp [impl_OneWay.l0])
       | succ k2 =>
        have H := HA.out
        clear HA
        simp only [impl_OneWay.l0] at H
        by_cases c19 : x29_2 < (y105.length : Int)
        ·rw [if_pos c19] at H
         have c19b0 : decide (x29_2 < (y105.length : Int)) = true := decide_eq_true c19
         clear c19
         by_cases c20 : a0 = 0
         ·rw [if_pos c20] at H
          exact absurd H (by simp)
         ·rw [if_neg c20] at H
          have c20b0 : (a0 == 0) = false := beq_eq_false_iff_ne.mpr c20
          have c20b1 : (a0 != 0) = true := bne_iff_ne.mpr c20
          have HC21 := Aside0.mk H
          clear H
          go_upto_region 9 with (fail)
          repeat (go_quiet (fail); go_upto_region 9 with (fail))
          go_cut [42] (fun v42 wc => ∃ (kq : Nat) (x42_20 : Bool), v42 = .bool x42_20 ∧ Aside0 (impl_OneWay.j2 kq a0 a1 x29_2 (Int.tmod x29_2 a0) (wrap64 (Int.tdiv x29_2 a0)) (y105.length : Int) x29_2 x42_20 a0 a1 x109002_2 = some (r1, r2, r3, r4)) ∧ Aside0 (kq ≤ k2) ∧ Aside0 (Kd.R (Kd.int .i64) 3 wc w.heap.size (fun _ => True) u109002 x109002_2) ∧ Aside0 (wc.heap[gb102]? = some (.cells #[.int .i64 0, .int .i64 0, (.slice none 0 0)] 84 (0, 0))) ∧ Aside0 (wc.heap[gb108]? = some (.cells #[.int .i64 a0, .int .i64 a1, u109002] 84 (0, 0))) ∧ Aside0 (Below w.heap.size w wc))
          case first =>
           have H := HC21.out
           clear HC21
           by_cases c22 : (wrap64 (Int.tdiv x29_2 a0)) = 0
           ·rw [if_pos c22] at H
            have c22b0 : ((wrap64 (Int.tdiv x29_2 a0)) == 0) = true := beq_iff_eq.mpr c22
            have c22b1 : ((wrap64 (Int.tdiv x29_2 a0)) != 0) = false := bne_eq_false_iff_eq.mpr c22
            clear c22
            (first | rw [c22b0] | (simp only [i64_w, i32_w]; rw [c22b0]) | skip)
            have H' := Aside0.mk H
            clear H
            go_wp2
            repeat (go_quiet (fail); try go_wp2)
            go_meet
            case rel => exact ⟨_, (decide ((Int.tmod x29_2 a0) < (wrap64 (a0 - 1)))), (by first | rfl | (simp; done) | (simp [*]; done) | (simp [wrap64]; done)), H', ⟨by have := HJ2.out; have := HK2.out; first | omega | exact Nat.le_refl _⟩, ⟨by (with_reducible repeat (first | apply Kd.R_alloc | apply Kd.R_drewN | apply Kd.R_drew)); exact HO_109002.out⟩, ⟨by (with_reducible repeat (first | refine blk_drewN ?_ _ | refine blk_drew ?_ | refine blk_alloc ?_ _)); exact BK102.out⟩, ⟨by (with_reducible repeat (first | refine blk_drewN ?_ _ | refine blk_drew ?_ | refine blk_alloc ?_ _)); exact BK108.out⟩, ⟨bel_ HB.out⟩⟩
           ·rw [if_neg c22] at H
            have c22b0 : ((wrap64 (Int.tdiv x29_2 a0)) == 0) = false := beq_eq_false_iff_ne.mpr c22
            have c22b1 : ((wrap64 (Int.tdiv x29_2 a0)) != 0) = true := bne_iff_ne.mpr c22
            (first | rw [c22b0] | (simp only [i64_w, i32_w]; rw [c22b0]) | skip)
            have H' := Aside0.mk H
            clear H
            go_wp2
            repeat (go_quiet (fail); try go_wp2)
            go_meet
            case rel => exact ⟨_, (false), (by first | rfl | (simp; done) | (simp [*]; done) | (simp [wrap64]; done)), H', ⟨by have := HJ2.out; have := HK2.out; first | omega | exact Nat.le_refl _⟩, ⟨by (with_reducible repeat (first | apply Kd.R_alloc | apply Kd.R_drewN | apply Kd.R_drew)); exact HO_109002.out⟩, ⟨by (with_reducible repeat (first | refine blk_drewN ?_ _ | refine blk_drew ?_ | refine blk_alloc ?_ _)); exact BK102.out⟩, ⟨by (with_reducible repeat (first | refine blk_drewN ?_ _ | refine blk_drew ?_ | refine blk_alloc ?_ _)); exact BK108.out⟩, ⟨bel_ HB.out⟩⟩
          case rest =>
           clear HC21
           try clear c8
           try clear c11
           try clear c11b0
           try clear c11b1
           try clear c12
           try clear c12b0
           try clear c12b1
           try clear c19
           try clear c19b0
           try clear c20
           try clear c20b0
           try clear c20b1
           try clear hcz18_0
           try clear hcz18_1
           try clear hcz18_2
           try clear hfz18_0
           try clear hfz18_1
           try clear hfz18_2
           obtain ⟨kq, x42_20, rfl, HA, HJ20, HO_109002, BK102, BK108, HB⟩ := hcut
           cases kq with
           | zero => exact absurd HA.out (by simp [impl_OneWay.j2])
           | succ kj20 =>
            have H := HA.out
            clear HA
            simp only [impl_OneWay.j2] at H
            by_cases c23 : x42_20 = true
            ·subst c23
             have H1 : (if 0 ≤ x29_2 then (if x29_2 < (x109002_2.length : Int) then (impl_OneWay.l0 kj20 a0 a1 (y105.length : Int) (wrap64 (x29_2 + 1)) a0 a1 (x109002_2.set (x29_2 : Int).toNat 1)) else (none)) else (none)) = some (r1, r2, r3, r4) := by rw [if_pos rfl] at H; exact H
             clear H
             have H := H1
             clear H1
             by_cases c24 : 0 ≤ x29_2
             ·rw [if_pos c24] at H
              have c24b0 : decide (0 ≤ x29_2) = true := decide_eq_true c24
              clear c24
              by_cases c25 : x29_2 < (x109002_2.length : Int)
              ·rw [if_pos c25] at H
               have c25b0 : decide (x29_2 < (x109002_2.length : Int)) = true := decide_eq_true c25
               clear c25
               obtain ⟨y109, hy109⟩ : ∃ y_ : List Int, y_ = (x109002_2.set (x29_2 : Int).toNat 1) := ⟨_, rfl⟩
               replace H : (impl_OneWay.l0 kj20 a0 a1 (y105.length : Int) (wrap64 (x29_2 + 1)) a0 a1 y109) = some (r1, r2, r3, r4) := by first | (rw [hy109]; with_reducible exact H) | (have H2_ := (Option.bind_some _ _).symm.trans H; rw [hy109]; with_reducible exact H2_) | (have H2_ := (Option.bind_some _ _).symm.trans H; with_reducible exact H2_) | with_reducible exact H | (rw [hy109]; exact H) | exact H
               have Ny109 := Aside0.mk hy109
               clear hy109
               have H' := Aside0.mk H
               clear H
               have hnb27 := NB108_102.out
               have hnc27 := NB102_108.out
               have hcz28_0 : wc.cell? ⟨gb108, 0, none⟩ = some (.int .i64 a0) := (blk_cell BK108.out 0).trans rfl
               have hcz28_1 : wc.cell? ⟨gb108, 1, none⟩ = some (.int .i64 a1) := (blk_cell BK108.out 1).trans rfl
               have hcz28_2 : wc.cell? ⟨gb108, 2, none⟩ = some (u109002) := (blk_cell BK108.out 2).trans rfl
               have hfz28_0 := blk_frozen BK108.out 0
               have hfz28_1 := blk_frozen BK108.out 1
               have hfz28_2 := blk_frozen BK108.out 2
               have p26 : 0 ≤ (x29_2 : Int) := of_decide_eq_true (by first | (with_reducible assumption) | assumption)
               have q26 : (x29_2 : Int) < ((x109002_2.length : Int) : Int) := of_decide_eq_true (by first | (with_reducible assumption) | assumption)
               obtain ⟨go26, co26, eo26, gb26, gl26, cl26, HG26⟩ := Kd.R_form HO_109002.out (by omega)
               (first | cases eo26 | (injection eo26 with ea_ en_ ec_; (first | subst ea_ | (injection ea_ with ea_; subst ea_)); subst ec_; clear en_))
               have GB26 := Aside0.mk gb26
               have GG26 := Aside0.mk HG26
               clear gb26 gl26 HG26
               obtain ⟨hx26_0, hf26_0⟩ := Kd.R_celln 0 HO_109002.out (x29_2 : Int) p26 q26
               replace p26 := eq_true p26
               replace q26 := eq_true q26
               have HP29 := Kd.R_putg HO_109002.out (x29_2 : Int) 1
               go_wp2_with (first | ((with_reducible refine gate_store (t := 3) (p := 54) rfl ?_); (try ((first | ((conv in (World.drewN wc _) => skip); generalize hq_ : World.drewN wc _ = wc) | (rw [drewN_self wc]; generalize hq_ : World.drewN wc _ = wc)); have n0_ := Aside0.mk (Kd.R_at hq_ HO_109002.out); have n1_ := Aside0.mk (blk_at hq_ BK102.out); have n2_ := Aside0.mk (blk_at hq_ BK108.out); have n3_ := Aside0.mk (below_at hq_ HB.out); clear hq_ HO_109002 BK102 BK108 HB; have HO_109002 := n0_; have BK102 := n1_; have BK108 := n2_; have HB := n3_; clear n0_ n1_ n2_ n3_; (try (have HP29 := Kd.R_putg HO_109002.out (x29_2 : Int) 1)))); refine store_event (t := 3) (p := 54) (v := ?vo_w30) (w1 := (wc.setCell ⟨go26, (x29_2 : Int).toNat, none⟩ (.int .i64 1))) ?hg ?ho ?hn ?hr ?_; (case ho => rfl); (case hg => rfl); (case hn => rfl); (case hr => first | (go_simp; done) | (go_simp; rfl)); intro w30 hw; have hg : wc.grownBy w30 (some go26) := (by rw [hw]; exact HP29.2); have hp_ : Kd.R (Kd.int .i64) 3 w30 w.heap.size (fun _ => True) (.slice (some ⟨go26, 0, none⟩) x109002_2.length co26) y109 := (by rw [hw, Ny109.out]; exact HP29.1); clear HP29; have n0_ := Aside0.mk (hp_); have n1_ := Aside0.mk (blk_grown (g := gb102) (o := .cells #[.int .i64 0, .int .i64 0, .slice none 0 0] 84 (0, 0)) (fb_ BK102.out) hg (Kd.R_ne HO_109002.out BK102.out (by decide))); have n2_ := Aside0.mk (blk_grown (g := gb108) (o := .cells #[.int .i64 a0, .int .i64 a1, .slice (some ⟨go26, 0, none⟩) x109002_2.length co26] 84 (0, 0)) (fb_ BK108.out) hg (Kd.R_ne HO_109002.out BK108.out (by decide))); have n3_ := Aside0.mk ((by rw [hw]; exact below_set (HB.out) GB26.out : Below w.heap.size w w30)); clear HO_109002; clear BK102; clear BK108; clear HB; have HO_109002 := n0_; have BK102 := n1_; have BK108 := n2_; have HB := n3_; clear n0_ n1_ n2_ n3_; clear hg hw hp_))
               repeat (go_quiet (first | ((with_reducible refine gate_store (t := 3) (p := 54) rfl ?_); (try ((first | ((conv in (World.drewN wc _) => skip); generalize hq_ : World.drewN wc _ = wc) | (rw [drewN_self wc]; generalize hq_ : World.drewN wc _ = wc)); have n0_ := Aside0.mk (Kd.R_at hq_ HO_109002.out); have n1_ := Aside0.mk (blk_at hq_ BK102.out); have n2_ := Aside0.mk (blk_at hq_ BK108.out); have n3_ := Aside0.mk (below_at hq_ HB.out); clear hq_ HO_109002 BK102 BK108 HB; have HO_109002 := n0_; have BK102 := n1_; have BK108 := n2_; have HB := n3_; clear n0_ n1_ n2_ n3_; (try (have HP29 := Kd.R_putg HO_109002.out (x29_2 : Int) 1)))); refine store_event (t := 3) (p := 54) (v := ?vo_w30) (w1 := (wc.setCell ⟨go26, (x29_2 : Int).toNat, none⟩ (.int .i64 1))) ?hg ?ho ?hn ?hr ?_; (case ho => rfl); (case hg => rfl); (case hn => rfl); (case hr => first | (go_simp; done) | (go_simp; rfl)); intro w30 hw; have hg : wc.grownBy w30 (some go26) := (by rw [hw]; exact HP29.2); have hp_ : Kd.R (Kd.int .i64) 3 w30 w.heap.size (fun _ => True) (.slice (some ⟨go26, 0, none⟩) x109002_2.length co26) y109 := (by rw [hw, Ny109.out]; exact HP29.1); clear HP29; have n0_ := Aside0.mk (hp_); have n1_ := Aside0.mk (blk_grown (g := gb102) (o := .cells #[.int .i64 0, .int .i64 0, .slice none 0 0] 84 (0, 0)) (fb_ BK102.out) hg (Kd.R_ne HO_109002.out BK102.out (by decide))); have n2_ := Aside0.mk (blk_grown (g := gb108) (o := .cells #[.int .i64 a0, .int .i64 a1, .slice (some ⟨go26, 0, none⟩) x109002_2.length co26] 84 (0, 0)) (fb_ BK108.out) hg (Kd.R_ne HO_109002.out BK108.out (by decide))); have n3_ := Aside0.mk ((by rw [hw]; exact below_set (HB.out) GB26.out : Below w.heap.size w w30)); clear HO_109002; clear BK102; clear BK108; clear HB; have HO_109002 := n0_; have BK102 := n1_; have BK108 := n2_; have HB := n3_; clear n0_ n1_ n2_ n3_; clear hg hw hp_)); try go_wp2_with (first | ((with_reducible refine gate_store (t := 3) (p := 54) rfl ?_); (try ((first | ((conv in (World.drewN wc _) => skip); generalize hq_ : World.drewN wc _ = wc) | (rw [drewN_self wc]; generalize hq_ : World.drewN wc _ = wc)); have n0_ := Aside0.mk (Kd.R_at hq_ HO_109002.out); have n1_ := Aside0.mk (blk_at hq_ BK102.out); have n2_ := Aside0.mk (blk_at hq_ BK108.out); have n3_ := Aside0.mk (below_at hq_ HB.out); clear hq_ HO_109002 BK102 BK108 HB; have HO_109002 := n0_; have BK102 := n1_; have BK108 := n2_; have HB := n3_; clear n0_ n1_ n2_ n3_; (try (have HP29 := Kd.R_putg HO_109002.out (x29_2 : Int) 1)))); refine store_event (t := 3) (p := 54) (v := ?vo_w30) (w1 := (wc.setCell ⟨go26, (x29_2 : Int).toNat, none⟩ (.int .i64 1))) ?hg ?ho ?hn ?hr ?_; (case ho => rfl); (case hg => rfl); (case hn => rfl); (case hr => first | (go_simp; done) | (go_simp; rfl)); intro w30 hw; have hg : wc.grownBy w30 (some go26) := (by rw [hw]; exact HP29.2); have hp_ : Kd.R (Kd.int .i64) 3 w30 w.heap.size (fun _ => True) (.slice (some ⟨go26, 0, none⟩) x109002_2.length co26) y109 := (by rw [hw, Ny109.out]; exact HP29.1); clear HP29; have n0_ := Aside0.mk (hp_); have n1_ := Aside0.mk (blk_grown (g := gb102) (o := .cells #[.int .i64 0, .int .i64 0, .slice none 0 0] 84 (0, 0)) (fb_ BK102.out) hg (Kd.R_ne HO_109002.out BK102.out (by decide))); have n2_ := Aside0.mk (blk_grown (g := gb108) (o := .cells #[.int .i64 a0, .int .i64 a1, .slice (some ⟨go26, 0, none⟩) x109002_2.length co26] 84 (0, 0)) (fb_ BK108.out) hg (Kd.R_ne HO_109002.out BK108.out (by decide))); have n3_ := Aside0.mk ((by rw [hw]; exact below_set (HB.out) GB26.out : Below w.heap.size w w30)); clear HO_109002; clear BK102; clear BK108; clear HB; have HO_109002 := n0_; have BK102 := n1_; have BK108 := n2_; have HB := n3_; clear n0_ n1_ n2_ n3_; clear hg hw hp_)))
               (try ((try ((first | ((conv in (World.drewN wc _) => skip); generalize hq_ : World.drewN wc _ = wc) | (rw [drewN_self wc]; generalize hq_ : World.drewN wc _ = wc)); have n0_ := Aside0.mk (Kd.R_at hq_ HO_109002.out); have n1_ := Aside0.mk (blk_at hq_ BK102.out); have n2_ := Aside0.mk (blk_at hq_ BK108.out); have n3_ := Aside0.mk (below_at hq_ HB.out); clear hq_ HO_109002 BK102 BK108 HB; have HO_109002 := n0_; have BK102 := n1_; have BK108 := n2_; have HB := n3_; clear n0_ n1_ n2_ n3_; (try (have HP29 := Kd.R_putg HO_109002.out (x29_2 : Int) 1)))); generalize hw : (wc.setCell ⟨go26, (x29_2 : Int).toNat, none⟩ (.int .i64 1)) = w30; replace hw := hw.symm; have hg : wc.grownBy w30 (some go26) := (by rw [hw]; exact HP29.2); have hp_ : Kd.R (Kd.int .i64) 3 w30 w.heap.size (fun _ => True) (.slice (some ⟨go26, 0, none⟩) x109002_2.length co26) y109 := (by rw [hw, Ny109.out]; exact HP29.1); clear HP29; have n0_ := Aside0.mk (hp_); have n1_ := Aside0.mk (blk_grown (g := gb102) (o := .cells #[.int .i64 0, .int .i64 0, .slice none 0 0] 84 (0, 0)) (fb_ BK102.out) hg (Kd.R_ne HO_109002.out BK102.out (by decide))); have n2_ := Aside0.mk (blk_grown (g := gb108) (o := .cells #[.int .i64 a0, .int .i64 a1, .slice (some ⟨go26, 0, none⟩) x109002_2.length co26] 84 (0, 0)) (fb_ BK108.out) hg (Kd.R_ne HO_109002.out BK108.out (by decide))); have n3_ := Aside0.mk ((by rw [hw]; exact below_set (HB.out) GB26.out : Below w.heap.size w w30)); clear HO_109002; clear BK102; clear BK108; clear HB; have HO_109002 := n0_; have BK102 := n1_; have BK108 := n2_; have HB := n3_; clear n0_ n1_ n2_ n3_; clear hg hw hp_))
               (first | go_roundg kj20 | (simp only [← hji10]; go_roundg kj20) | (refine Handed.intro kj20 ?measure ?_; rotate_left; go_step; (repeat apply Exists.intro); simp only [add_plain]; refine ⟨?rel, rfl⟩))
               case measure => have := HJ2.out; have := HK2.out; have := HJ20.out; omega
               case rel => exact ⟨(wrap64 (x29_2 + 1)), (y109), (.slice (some ⟨go26, 0, none⟩) x109002_2.length co26), (by first | rfl | (simp; done) | (simp [*]; done) | (simp [wrap64]; done)), H', ⟨by have := HJ2.out; have := HK2.out; have := HJ20.out; omega⟩, ⟨by (with_reducible repeat (first | apply Kd.R_alloc | apply Kd.R_drewN | apply Kd.R_drew)); exact HO_109002.out⟩, ⟨by (with_reducible repeat (first | refine blk_drewN ?_ _ | refine blk_drew ?_ | refine blk_alloc ?_ _)); exact BK102.out⟩, ⟨by (with_reducible repeat (first | refine blk_drewN ?_ _ | refine blk_drew ?_ | refine blk_alloc ?_ _)); exact BK108.out⟩, ⟨bel_ HB.out⟩⟩
              ·rw [if_neg c25] at H
               exact absurd H (by simp)
             ·rw [if_neg c24] at H
              exact absurd H (by simp)
            ·replace c23 := Bool.eq_false_iff.mpr c23
             subst c23
             have H1 : (if (Int.tmod x29_2 a0) = (wrap64 (a0 - 1)) then (impl_OneWay.j3 kj20 a0 a1 x29_2 (Int.tmod x29_2 a0) (wrap64 (Int.tdiv x29_2 a0)) (y105.length : Int) x29_2 (decide ((wrap64 (Int.tdiv x29_2 a0)) < (wrap64 (a1 - 1)))) a0 a1 x109002_2) else (impl_OneWay.j3 kj20 a0 a1 x29_2 (Int.tmod x29_2 a0) (wrap64 (Int.tdiv x29_2 a0)) (y105.length : Int) x29_2 false a0 a1 x109002_2)) = some (r1, r2, r3, r4) := by rw [if_neg (show ¬ (false = true) by decide)] at H; exact H
             clear H
             have H := H1
             clear H1
             have HC31 := Aside0.mk H
             clear H
             go_upto_region 11 with (fail)
             repeat (go_quiet (fail); go_upto_region 11 with (fail))
             go_cut [55] (fun v55 wc => ∃ (kq : Nat) (x55_30 : Bool), v55 = .bool x55_30 ∧ Aside0 (impl_OneWay.j3 kq a0 a1 x29_2 (Int.tmod x29_2 a0) (wrap64 (Int.tdiv x29_2 a0)) (y105.length : Int) x29_2 x55_30 a0 a1 x109002_2 = some (r1, r2, r3, r4)) ∧ Aside0 (kq ≤ kj20) ∧ Aside0 (Kd.R (Kd.int .i64) 3 wc w.heap.size (fun _ => True) u109002 x109002_2) ∧ Aside0 (wc.heap[gb102]? = some (.cells #[.int .i64 0, .int .i64 0, (.slice none 0 0)] 84 (0, 0))) ∧ Aside0 (wc.heap[gb108]? = some (.cells #[.int .i64 a0, .int .i64 a1, u109002] 84 (0, 0))) ∧ Aside0 (Below w.heap.size w wc))
             case first =>
              have H := HC31.out
              clear HC31
              by_cases c32 : (Int.tmod x29_2 a0) = (wrap64 (a0 - 1))
              ·rw [if_pos c32] at H
               have c32b0 : ((Int.tmod x29_2 a0) == (wrap64 (a0 - 1))) = true := beq_iff_eq.mpr c32
               have c32b1 : ((Int.tmod x29_2 a0) != (wrap64 (a0 - 1))) = false := bne_eq_false_iff_eq.mpr c32
               clear c32
               (first | rw [c32b0] | (simp only [i64_w, i32_w]; rw [c32b0]) | skip)
               have H' := Aside0.mk H
               clear H
               go_wp2
               repeat (go_quiet (fail); try go_wp2)
               go_meet
               case rel => exact ⟨_, (decide ((wrap64 (Int.tdiv x29_2 a0)) < (wrap64 (a1 - 1)))), (by first | rfl | (simp; done) | (simp [*]; done) | (simp [wrap64]; done)), H', ⟨by have := HJ2.out; have := HK2.out; have := HJ20.out; first | omega | exact Nat.le_refl _⟩, ⟨by (with_reducible repeat (first | apply Kd.R_alloc | apply Kd.R_drewN | apply Kd.R_drew)); exact HO_109002.out⟩, ⟨by (with_reducible repeat (first | refine blk_drewN ?_ _ | refine blk_drew ?_ | refine blk_alloc ?_ _)); exact BK102.out⟩, ⟨by (with_reducible repeat (first | refine blk_drewN ?_ _ | refine blk_drew ?_ | refine blk_alloc ?_ _)); exact BK108.out⟩, ⟨bel_ HB.out⟩⟩
              ·rw [if_neg c32] at H
               have c32b0 : ((Int.tmod x29_2 a0) == (wrap64 (a0 - 1))) = false := beq_eq_false_iff_ne.mpr c32
               have c32b1 : ((Int.tmod x29_2 a0) != (wrap64 (a0 - 1))) = true := bne_iff_ne.mpr c32
               (first | rw [c32b0] | (simp only [i64_w, i32_w]; rw [c32b0]) | skip)
               have H' := Aside0.mk H
               clear H
               go_wp2
               repeat (go_quiet (fail); try go_wp2)
               go_meet
               case rel => exact ⟨_, (false), (by first | rfl | (simp; done) | (simp [*]; done) | (simp [wrap64]; done)), H', ⟨by have := HJ2.out; have := HK2.out; have := HJ20.out; first | omega | exact Nat.le_refl _⟩, ⟨by (with_reducible repeat (first | apply Kd.R_alloc | apply Kd.R_drewN | apply Kd.R_drew)); exact HO_109002.out⟩, ⟨by (with_reducible repeat (first | refine blk_drewN ?_ _ | refine blk_drew ?_ | refine blk_alloc ?_ _)); exact BK102.out⟩, ⟨by (with_reducible repeat (first | refine blk_drewN ?_ _ | refine blk_drew ?_ | refine blk_alloc ?_ _)); exact BK108.out⟩, ⟨bel_ HB.out⟩⟩
             case rest =>
              clear HC31
              try clear c8
              try clear c11
              try clear c11b0
              try clear c11b1
              try clear c12
              try clear c12b0
              try clear c12b1
              try clear c19
              try clear c19b0
              try clear c20
              try clear c20b0
              try clear c20b1
              try clear c23
              try clear hcz18_0
              try clear hcz18_1
              try clear hcz18_2
              try clear hfz18_0
              try clear hfz18_1
              try clear hfz18_2
              obtain ⟨kq, x55_30, rfl, HA, HJ30, HO_109002, BK102, BK108, HB⟩ := hcut
              cases kq with
              | zero => exact absurd HA.out (by simp [impl_OneWay.j3])
              | succ kj30 =>
               have H := HA.out
               clear HA
               simp only [impl_OneWay.j3] at H
               by_cases c33 : x55_30 = true
               ·subst c33
                have H1 : (if 0 ≤ x29_2 then (if x29_2 < (x109002_2.length : Int) then (impl_OneWay.l0 kj30 a0 a1 (y105.length : Int) (wrap64 (x29_2 + 1)) a0 a1 (x109002_2.set (x29_2 : Int).toNat 2)) else (none)) else (none)) = some (r1, r2, r3, r4) := by rw [if_pos rfl] at H; exact H
                clear H
                have H := H1
                clear H1
                by_cases c34 : 0 ≤ x29_2
                ·rw [if_pos c34] at H
                 have c34b0 : decide (0 ≤ x29_2) = true := decide_eq_true c34
                 clear c34
                 by_cases c35 : x29_2 < (x109002_2.length : Int)
                 ·rw [if_pos c35] at H
                  have c35b0 : decide (x29_2 < (x109002_2.length : Int)) = true := decide_eq_true c35
                  clear c35
                  obtain ⟨y110, hy110⟩ : ∃ y_ : List Int, y_ = (x109002_2.set (x29_2 : Int).toNat 2) := ⟨_, rfl⟩
                  replace H : (impl_OneWay.l0 kj30 a0 a1 (y105.length : Int) (wrap64 (x29_2 + 1)) a0 a1 y110) = some (r1, r2, r3, r4) := by first | (rw [hy110]; with_reducible exact H) | (have H2_ := (Option.bind_some _ _).symm.trans H; rw [hy110]; with_reducible exact H2_) | (have H2_ := (Option.bind_some _ _).symm.trans H; with_reducible exact H2_) | with_reducible exact H | (rw [hy110]; exact H) | exact H
                  have Ny110 := Aside0.mk hy110
                  clear hy110
                  have H' := Aside0.mk H
                  clear H
                  have hnb37 := NB108_102.out
                  have hnc37 := NB102_108.out
                  have hcz38_0 : wc.cell? ⟨gb108, 0, none⟩ = some (.int .i64 a0) := (blk_cell BK108.out 0).trans rfl
                  have hcz38_1 : wc.cell? ⟨gb108, 1, none⟩ = some (.int .i64 a1) := (blk_cell BK108.out 1).trans rfl
                  have hcz38_2 : wc.cell? ⟨gb108, 2, none⟩ = some (u109002) := (blk_cell BK108.out 2).trans rfl
                  have hfz38_0 := blk_frozen BK108.out 0
                  have hfz38_1 := blk_frozen BK108.out 1
                  have hfz38_2 := blk_frozen BK108.out 2
                  have p36 : 0 ≤ (x29_2 : Int) := of_decide_eq_true (by first | (with_reducible assumption) | assumption)
                  have q36 : (x29_2 : Int) < ((x109002_2.length : Int) : Int) := of_decide_eq_true (by first | (with_reducible assumption) | assumption)
                  obtain ⟨go36, co36, eo36, gb36, gl36, cl36, HG36⟩ := Kd.R_form HO_109002.out (by omega)
                  (first | cases eo36 | (injection eo36 with ea_ en_ ec_; (first | subst ea_ | (injection ea_ with ea_; subst ea_)); subst ec_; clear en_))
                  have GB36 := Aside0.mk gb36
                  have GG36 := Aside0.mk HG36
                  clear gb36 gl36 HG36
                  obtain ⟨hx36_0, hf36_0⟩ := Kd.R_celln 0 HO_109002.out (x29_2 : Int) p36 q36
                  replace p36 := eq_true p36
                  replace q36 := eq_true q36
                  have HP39 := Kd.R_putg HO_109002.out (x29_2 : Int) 2
                  go_wp2_with (first | ((with_reducible refine gate_store (t := 3) (p := 69) rfl ?_); (try ((first | ((conv in (World.drewN wc _) => skip); generalize hq_ : World.drewN wc _ = wc) | (rw [drewN_self wc]; generalize hq_ : World.drewN wc _ = wc)); have n0_ := Aside0.mk (Kd.R_at hq_ HO_109002.out); have n1_ := Aside0.mk (blk_at hq_ BK102.out); have n2_ := Aside0.mk (blk_at hq_ BK108.out); have n3_ := Aside0.mk (below_at hq_ HB.out); clear hq_ HO_109002 BK102 BK108 HB; have HO_109002 := n0_; have BK102 := n1_; have BK108 := n2_; have HB := n3_; clear n0_ n1_ n2_ n3_; (try (have HP39 := Kd.R_putg HO_109002.out (x29_2 : Int) 2)))); refine store_event (t := 3) (p := 69) (v := ?vo_w40) (w1 := (wc.setCell ⟨go36, (x29_2 : Int).toNat, none⟩ (.int .i64 2))) ?hg ?ho ?hn ?hr ?_; (case ho => rfl); (case hg => rfl); (case hn => rfl); (case hr => first | (go_simp; done) | (go_simp; rfl)); intro w40 hw; have hg : wc.grownBy w40 (some go36) := (by rw [hw]; exact HP39.2); have hp_ : Kd.R (Kd.int .i64) 3 w40 w.heap.size (fun _ => True) (.slice (some ⟨go36, 0, none⟩) x109002_2.length co36) y110 := (by rw [hw, Ny110.out]; exact HP39.1); clear HP39; have n0_ := Aside0.mk (hp_); have n1_ := Aside0.mk (blk_grown (g := gb102) (o := .cells #[.int .i64 0, .int .i64 0, .slice none 0 0] 84 (0, 0)) (fb_ BK102.out) hg (Kd.R_ne HO_109002.out BK102.out (by decide))); have n2_ := Aside0.mk (blk_grown (g := gb108) (o := .cells #[.int .i64 a0, .int .i64 a1, .slice (some ⟨go36, 0, none⟩) x109002_2.length co36] 84 (0, 0)) (fb_ BK108.out) hg (Kd.R_ne HO_109002.out BK108.out (by decide))); have n3_ := Aside0.mk ((by rw [hw]; exact below_set (HB.out) GB36.out : Below w.heap.size w w40)); clear HO_109002; clear BK102; clear BK108; clear HB; have HO_109002 := n0_; have BK102 := n1_; have BK108 := n2_; have HB := n3_; clear n0_ n1_ n2_ n3_; clear hg hw hp_))
                  repeat (go_quiet (first | ((with_reducible refine gate_store (t := 3) (p := 69) rfl ?_); (try ((first | ((conv in (World.drewN wc _) => skip); generalize hq_ : World.drewN wc _ = wc) | (rw [drewN_self wc]; generalize hq_ : World.drewN wc _ = wc)); have n0_ := Aside0.mk (Kd.R_at hq_ HO_109002.out); have n1_ := Aside0.mk (blk_at hq_ BK102.out); have n2_ := Aside0.mk (blk_at hq_ BK108.out); have n3_ := Aside0.mk (below_at hq_ HB.out); clear hq_ HO_109002 BK102 BK108 HB; have HO_109002 := n0_; have BK102 := n1_; have BK108 := n2_; have HB := n3_; clear n0_ n1_ n2_ n3_; (try (have HP39 := Kd.R_putg HO_109002.out (x29_2 : Int) 2)))); refine store_event (t := 3) (p := 69) (v := ?vo_w40) (w1 := (wc.setCell ⟨go36, (x29_2 : Int).toNat, none⟩ (.int .i64 2))) ?hg ?ho ?hn ?hr ?_; (case ho => rfl); (case hg => rfl); (case hn => rfl); (case hr => first | (go_simp; done) | (go_simp; rfl)); intro w40 hw; have hg : wc.grownBy w40 (some go36) := (by rw [hw]; exact HP39.2); have hp_ : Kd.R (Kd.int .i64) 3 w40 w.heap.size (fun _ => True) (.slice (some ⟨go36, 0, none⟩) x109002_2.length co36) y110 := (by rw [hw, Ny110.out]; exact HP39.1); clear HP39; have n0_ := Aside0.mk (hp_); have n1_ := Aside0.mk (blk_grown (g := gb102) (o := .cells #[.int .i64 0, .int .i64 0, .slice none 0 0] 84 (0, 0)) (fb_ BK102.out) hg (Kd.R_ne HO_109002.out BK102.out (by decide))); have n2_ := Aside0.mk (blk_grown (g := gb108) (o := .cells #[.int .i64 a0, .int .i64 a1, .slice (some ⟨go36, 0, none⟩) x109002_2.length co36] 84 (0, 0)) (fb_ BK108.out) hg (Kd.R_ne HO_109002.out BK108.out (by decide))); have n3_ := Aside0.mk ((by rw [hw]; exact below_set (HB.out) GB36.out : Below w.heap.size w w40)); clear HO_109002; clear BK102; clear BK108; clear HB; have HO_109002 := n0_; have BK102 := n1_; have BK108 := n2_; have HB := n3_; clear n0_ n1_ n2_ n3_; clear hg hw hp_)); try go_wp2_with (first | ((with_reducible refine gate_store (t := 3) (p := 69) rfl ?_); (try ((first | ((conv in (World.drewN wc _) => skip); generalize hq_ : World.drewN wc _ = wc) | (rw [drewN_self wc]; generalize hq_ : World.drewN wc _ = wc)); have n0_ := Aside0.mk (Kd.R_at hq_ HO_109002.out); have n1_ := Aside0.mk (blk_at hq_ BK102.out); have n2_ := Aside0.mk (blk_at hq_ BK108.out); have n3_ := Aside0.mk (below_at hq_ HB.out); clear hq_ HO_109002 BK102 BK108 HB; have HO_109002 := n0_; have BK102 := n1_; have BK108 := n2_; have HB := n3_; clear n0_ n1_ n2_ n3_; (try (have HP39 := Kd.R_putg HO_109002.out (x29_2 : Int) 2)))); refine store_event (t := 3) (p := 69) (v := ?vo_w40) (w1 := (wc.setCell ⟨go36, (x29_2 : Int).toNat, none⟩ (.int .i64 2))) ?hg ?ho ?hn ?hr ?_; (case ho => rfl); (case hg => rfl); (case hn => rfl); (case hr => first | (go_simp; done) | (go_simp; rfl)); intro w40 hw; have hg : wc.grownBy w40 (some go36) := (by rw [hw]; exact HP39.2); have hp_ : Kd.R (Kd.int .i64) 3 w40 w.heap.size (fun _ => True) (.slice (some ⟨go36, 0, none⟩) x109002_2.length co36) y110 := (by rw [hw, Ny110.out]; exact HP39.1); clear HP39; have n0_ := Aside0.mk (hp_); have n1_ := Aside0.mk (blk_grown (g := gb102) (o := .cells #[.int .i64 0, .int .i64 0, .slice none 0 0] 84 (0, 0)) (fb_ BK102.out) hg (Kd.R_ne HO_109002.out BK102.out (by decide))); have n2_ := Aside0.mk (blk_grown (g := gb108) (o := .cells #[.int .i64 a0, .int .i64 a1, .slice (some ⟨go36, 0, none⟩) x109002_2.length co36] 84 (0, 0)) (fb_ BK108.out) hg (Kd.R_ne HO_109002.out BK108.out (by decide))); have n3_ := Aside0.mk ((by rw [hw]; exact below_set (HB.out) GB36.out : Below w.heap.size w w40)); clear HO_109002; clear BK102; clear BK108; clear HB; have HO_109002 := n0_; have BK102 := n1_; have BK108 := n2_; have HB := n3_; clear n0_ n1_ n2_ n3_; clear hg hw hp_)))
                  (try ((try ((first | ((conv in (World.drewN wc _) => skip); generalize hq_ : World.drewN wc _ = wc) | (rw [drewN_self wc]; generalize hq_ : World.drewN wc _ = wc)); have n0_ := Aside0.mk (Kd.R_at hq_ HO_109002.out); have n1_ := Aside0.mk (blk_at hq_ BK102.out); have n2_ := Aside0.mk (blk_at hq_ BK108.out); have n3_ := Aside0.mk (below_at hq_ HB.out); clear hq_ HO_109002 BK102 BK108 HB; have HO_109002 := n0_; have BK102 := n1_; have BK108 := n2_; have HB := n3_; clear n0_ n1_ n2_ n3_; (try (have HP39 := Kd.R_putg HO_109002.out (x29_2 : Int) 2)))); generalize hw : (wc.setCell ⟨go36, (x29_2 : Int).toNat, none⟩ (.int .i64 2)) = w40; replace hw := hw.symm; have hg : wc.grownBy w40 (some go36) := (by rw [hw]; exact HP39.2); have hp_ : Kd.R (Kd.int .i64) 3 w40 w.heap.size (fun _ => True) (.slice (some ⟨go36, 0, none⟩) x109002_2.length co36) y110 := (by rw [hw, Ny110.out]; exact HP39.1); clear HP39; have n0_ := Aside0.mk (hp_); have n1_ := Aside0.mk (blk_grown (g := gb102) (o := .cells #[.int .i64 0, .int .i64 0, .slice none 0 0] 84 (0, 0)) (fb_ BK102.out) hg (Kd.R_ne HO_109002.out BK102.out (by decide))); have n2_ := Aside0.mk (blk_grown (g := gb108) (o := .cells #[.int .i64 a0, .int .i64 a1, .slice (some ⟨go36, 0, none⟩) x109002_2.length co36] 84 (0, 0)) (fb_ BK108.out) hg (Kd.R_ne HO_109002.out BK108.out (by decide))); have n3_ := Aside0.mk ((by rw [hw]; exact below_set (HB.out) GB36.out : Below w.heap.size w w40)); clear HO_109002; clear BK102; clear BK108; clear HB; have HO_109002 := n0_; have BK102 := n1_; have BK108 := n2_; have HB := n3_; clear n0_ n1_ n2_ n3_; clear hg hw hp_))
                  (first | go_roundg kj30 | (simp only [← hji10]; go_roundg kj30) | (refine Handed.intro kj30 ?measure ?_; rotate_left; go_step; (repeat apply Exists.intro); simp only [add_plain]; refine ⟨?rel, rfl⟩))
                  case measure => have := HJ2.out; have := HK2.out; have := HJ20.out; have := HJ30.out; omega
                  case rel => exact ⟨(wrap64 (x29_2 + 1)), (y110), (.slice (some ⟨go36, 0, none⟩) x109002_2.length co36), (by first | rfl | (simp; done) | (simp [*]; done) | (simp [wrap64]; done)), H', ⟨by have := HJ2.out; have := HK2.out; have := HJ20.out; have := HJ30.out; omega⟩, ⟨by (with_reducible repeat (first | apply Kd.R_alloc | apply Kd.R_drewN | apply Kd.R_drew)); exact HO_109002.out⟩, ⟨by (with_reducible repeat (first | refine blk_drewN ?_ _ | refine blk_drew ?_ | refine blk_alloc ?_ _)); exact BK102.out⟩, ⟨by (with_reducible repeat (first | refine blk_drewN ?_ _ | refine blk_drew ?_ | refine blk_alloc ?_ _)); exact BK108.out⟩, ⟨bel_ HB.out⟩⟩
                 ·rw [if_neg c35] at H
                  exact absurd H (by simp)
                ·rw [if_neg c34] at H
                 exact absurd H (by simp)
               ·replace c33 := Bool.eq_false_iff.mpr c33
                subst c33
                have H1 : (if (wrap64 (Int.tdiv x29_2 a0)) = (wrap64 (a1 - 1)) then (impl_OneWay.j4 kj30 a0 a1 x29_2 (Int.tmod x29_2 a0) (wrap64 (Int.tdiv x29_2 a0)) (y105.length : Int) x29_2 (decide ((Int.tmod x29_2 a0) > 0)) a0 a1 x109002_2) else (impl_OneWay.j4 kj30 a0 a1 x29_2 (Int.tmod x29_2 a0) (wrap64 (Int.tdiv x29_2 a0)) (y105.length : Int) x29_2 false a0 a1 x109002_2)) = some (r1, r2, r3, r4) := by rw [if_neg (show ¬ (false = true) by decide)] at H; exact H
                clear H
                have H := H1
                clear H1
                have HC41 := Aside0.mk H
                clear H
                go_upto_region 13 with (fail)
                repeat (go_quiet (fail); go_upto_region 13 with (fail))
                go_cut [70] (fun v70 wc => ∃ (kq : Nat) (x70_40 : Bool), v70 = .bool x70_40 ∧ Aside0 (impl_OneWay.j4 kq a0 a1 x29_2 (Int.tmod x29_2 a0) (wrap64 (Int.tdiv x29_2 a0)) (y105.length : Int) x29_2 x70_40 a0 a1 x109002_2 = some (r1, r2, r3, r4)) ∧ Aside0 (kq ≤ kj30) ∧ Aside0 (Kd.R (Kd.int .i64) 3 wc w.heap.size (fun _ => True) u109002 x109002_2) ∧ Aside0 (wc.heap[gb102]? = some (.cells #[.int .i64 0, .int .i64 0, (.slice none 0 0)] 84 (0, 0))) ∧ Aside0 (wc.heap[gb108]? = some (.cells #[.int .i64 a0, .int .i64 a1, u109002] 84 (0, 0))) ∧ Aside0 (Below w.heap.size w wc))
                case first =>
                 have H := HC41.out
                 clear HC41
                 by_cases c42 : (wrap64 (Int.tdiv x29_2 a0)) = (wrap64 (a1 - 1))
                 ·rw [if_pos c42] at H
                  have c42b0 : ((wrap64 (Int.tdiv x29_2 a0)) == (wrap64 (a1 - 1))) = true := beq_iff_eq.mpr c42
                  have c42b1 : ((wrap64 (Int.tdiv x29_2 a0)) != (wrap64 (a1 - 1))) = false := bne_eq_false_iff_eq.mpr c42
                  clear c42
                  (first | rw [c42b0] | (simp only [i64_w, i32_w]; rw [c42b0]) | skip)
                  have H' := Aside0.mk H
                  clear H
                  go_wp2
                  repeat (go_quiet (fail); try go_wp2)
                  go_meet
                  case rel => exact ⟨_, (decide ((Int.tmod x29_2 a0) > 0)), (by first | rfl | (simp; done) | (simp [*]; done) | (simp [wrap64]; done)), H', ⟨by have := HJ2.out; have := HK2.out; have := HJ20.out; have := HJ30.out; first | omega | exact Nat.le_refl _⟩, ⟨by (with_reducible repeat (first | apply Kd.R_alloc | apply Kd.R_drewN | apply Kd.R_drew)); exact HO_109002.out⟩, ⟨by (with_reducible repeat (first | refine blk_drewN ?_ _ | refine blk_drew ?_ | refine blk_alloc ?_ _)); exact BK102.out⟩, ⟨by (with_reducible repeat (first | refine blk_drewN ?_ _ | refine blk_drew ?_ | refine blk_alloc ?_ _)); exact BK108.out⟩, ⟨bel_ HB.out⟩⟩
                 ·rw [if_neg c42] at H
                  have c42b0 : ((wrap64 (Int.tdiv x29_2 a0)) == (wrap64 (a1 - 1))) = false := beq_eq_false_iff_ne.mpr c42
                  have c42b1 : ((wrap64 (Int.tdiv x29_2 a0)) != (wrap64 (a1 - 1))) = true := bne_iff_ne.mpr c42
                  (first | rw [c42b0] | (simp only [i64_w, i32_w]; rw [c42b0]) | skip)
                  have H' := Aside0.mk H
                  clear H
                  go_wp2
                  repeat (go_quiet (fail); try go_wp2)
                  go_meet
                  case rel => exact ⟨_, (false), (by first | rfl | (simp; done) | (simp [*]; done) | (simp [wrap64]; done)), H', ⟨by have := HJ2.out; have := HK2.out; have := HJ20.out; have := HJ30.out; first | omega | exact Nat.le_refl _⟩, ⟨by (with_reducible repeat (first | apply Kd.R_alloc | apply Kd.R_drewN | apply Kd.R_drew)); exact HO_109002.out⟩, ⟨by (with_reducible repeat (first | refine blk_drewN ?_ _ | refine blk_drew ?_ | refine blk_alloc ?_ _)); exact BK102.out⟩, ⟨by (with_reducible repeat (first | refine blk_drewN ?_ _ | refine blk_drew ?_ | refine blk_alloc ?_ _)); exact BK108.out⟩, ⟨bel_ HB.out⟩⟩
                case rest =>
                 clear HC41
                 try clear c8
                 try clear c11
                 try clear c11b0
                 try clear c11b1
                 try clear c12
                 try clear c12b0
                 try clear c12b1
                 try clear c19
                 try clear c19b0
                 try clear c20
                 try clear c20b0
                 try clear c20b1
                 try clear c23
                 try clear c33
                 try clear hcz18_0
                 try clear hcz18_1
                 try clear hcz18_2
                 try clear hfz18_0
                 try clear hfz18_1
                 try clear hfz18_2
                 obtain ⟨kq, x70_40, rfl, HA, HJ40, HO_109002, BK102, BK108, HB⟩ := hcut
                 cases kq with
                 | zero => exact absurd HA.out (by simp [impl_OneWay.j4])
                 | succ kj40 =>
                  have H := HA.out
                  clear HA
                  simp only [impl_OneWay.j4] at H
                  by_cases c43 : x70_40 = true
                  ·subst c43
                   have H1 : (if 0 ≤ x29_2 then (if x29_2 < (x109002_2.length : Int) then (impl_OneWay.l0 kj40 a0 a1 (y105.length : Int) (wrap64 (x29_2 + 1)) a0 a1 (x109002_2.set (x29_2 : Int).toNat 4)) else (none)) else (none)) = some (r1, r2, r3, r4) := by rw [if_pos rfl] at H; exact H
                   clear H
                   have H := H1
                   clear H1
                   by_cases c44 : 0 ≤ x29_2
                   ·rw [if_pos c44] at H
                    have c44b0 : decide (0 ≤ x29_2) = true := decide_eq_true c44
                    clear c44
                    by_cases c45 : x29_2 < (x109002_2.length : Int)
                    ·rw [if_pos c45] at H
                     have c45b0 : decide (x29_2 < (x109002_2.length : Int)) = true := decide_eq_true c45
                     clear c45
                     obtain ⟨y111, hy111⟩ : ∃ y_ : List Int, y_ = (x109002_2.set (x29_2 : Int).toNat 4) := ⟨_, rfl⟩
                     replace H : (impl_OneWay.l0 kj40 a0 a1 (y105.length : Int) (wrap64 (x29_2 + 1)) a0 a1 y111) = some (r1, r2, r3, r4) := by first | (rw [hy111]; with_reducible exact H) | (have H2_ := (Option.bind_some _ _).symm.trans H; rw [hy111]; with_reducible exact H2_) | (have H2_ := (Option.bind_some _ _).symm.trans H; with_reducible exact H2_) | with_reducible exact H | (rw [hy111]; exact H) | exact H
                     have Ny111 := Aside0.mk hy111
                     clear hy111
                     have H' := Aside0.mk H
                     clear H
                     have hnb47 := NB108_102.out
                     have hnc47 := NB102_108.out
                     have hcz48_0 : wc.cell? ⟨gb108, 0, none⟩ = some (.int .i64 a0) := (blk_cell BK108.out 0).trans rfl
                     have hcz48_1 : wc.cell? ⟨gb108, 1, none⟩ = some (.int .i64 a1) := (blk_cell BK108.out 1).trans rfl
                     have hcz48_2 : wc.cell? ⟨gb108, 2, none⟩ = some (u109002) := (blk_cell BK108.out 2).trans rfl
                     have hfz48_0 := blk_frozen BK108.out 0
                     have hfz48_1 := blk_frozen BK108.out 1
                     have hfz48_2 := blk_frozen BK108.out 2
                     have p46 : 0 ≤ (x29_2 : Int) := of_decide_eq_true (by first | (with_reducible assumption) | assumption)
                     have q46 : (x29_2 : Int) < ((x109002_2.length : Int) : Int) := of_decide_eq_true (by first | (with_reducible assumption) | assumption)
                     obtain ⟨go46, co46, eo46, gb46, gl46, cl46, HG46⟩ := Kd.R_form HO_109002.out (by omega)
                     (first | cases eo46 | (injection eo46 with ea_ en_ ec_; (first | subst ea_ | (injection ea_ with ea_; subst ea_)); subst ec_; clear en_))
                     have GB46 := Aside0.mk gb46
                     have GG46 := Aside0.mk HG46
                     clear gb46 gl46 HG46
                     obtain ⟨hx46_0, hf46_0⟩ := Kd.R_celln 0 HO_109002.out (x29_2 : Int) p46 q46
                     replace p46 := eq_true p46
                     replace q46 := eq_true q46
                     have HP49 := Kd.R_putg HO_109002.out (x29_2 : Int) 4
                     go_wp2_with (first | ((with_reducible refine gate_store (t := 3) (p := 82) rfl ?_); (try ((first | ((conv in (World.drewN wc _) => skip); generalize hq_ : World.drewN wc _ = wc) | (rw [drewN_self wc]; generalize hq_ : World.drewN wc _ = wc)); have n0_ := Aside0.mk (Kd.R_at hq_ HO_109002.out); have n1_ := Aside0.mk (blk_at hq_ BK102.out); have n2_ := Aside0.mk (blk_at hq_ BK108.out); have n3_ := Aside0.mk (below_at hq_ HB.out); clear hq_ HO_109002 BK102 BK108 HB; have HO_109002 := n0_; have BK102 := n1_; have BK108 := n2_; have HB := n3_; clear n0_ n1_ n2_ n3_; (try (have HP49 := Kd.R_putg HO_109002.out (x29_2 : Int) 4)))); refine store_event (t := 3) (p := 82) (v := ?vo_w50) (w1 := (wc.setCell ⟨go46, (x29_2 : Int).toNat, none⟩ (.int .i64 4))) ?hg ?ho ?hn ?hr ?_; (case ho => rfl); (case hg => rfl); (case hn => rfl); (case hr => first | (go_simp; done) | (go_simp; rfl)); intro w50 hw; have hg : wc.grownBy w50 (some go46) := (by rw [hw]; exact HP49.2); have hp_ : Kd.R (Kd.int .i64) 3 w50 w.heap.size (fun _ => True) (.slice (some ⟨go46, 0, none⟩) x109002_2.length co46) y111 := (by rw [hw, Ny111.out]; exact HP49.1); clear HP49; have n0_ := Aside0.mk (hp_); have n1_ := Aside0.mk (blk_grown (g := gb102) (o := .cells #[.int .i64 0, .int .i64 0, .slice none 0 0] 84 (0, 0)) (fb_ BK102.out) hg (Kd.R_ne HO_109002.out BK102.out (by decide))); have n2_ := Aside0.mk (blk_grown (g := gb108) (o := .cells #[.int .i64 a0, .int .i64 a1, .slice (some ⟨go46, 0, none⟩) x109002_2.length co46] 84 (0, 0)) (fb_ BK108.out) hg (Kd.R_ne HO_109002.out BK108.out (by decide))); have n3_ := Aside0.mk ((by rw [hw]; exact below_set (HB.out) GB46.out : Below w.heap.size w w50)); clear HO_109002; clear BK102; clear BK108; clear HB; have HO_109002 := n0_; have BK102 := n1_; have BK108 := n2_; have HB := n3_; clear n0_ n1_ n2_ n3_; clear hg hw hp_))
                     repeat (go_quiet (first | ((with_reducible refine gate_store (t := 3) (p := 82) rfl ?_); (try ((first | ((conv in (World.drewN wc _) => skip); generalize hq_ : World.drewN wc _ = wc) | (rw [drewN_self wc]; generalize hq_ : World.drewN wc _ = wc)); have n0_ := Aside0.mk (Kd.R_at hq_ HO_109002.out); have n1_ := Aside0.mk (blk_at hq_ BK102.out); have n2_ := Aside0.mk (blk_at hq_ BK108.out); have n3_ := Aside0.mk (below_at hq_ HB.out); clear hq_ HO_109002 BK102 BK108 HB; have HO_109002 := n0_; have BK102 := n1_; have BK108 := n2_; have HB := n3_; clear n0_ n1_ n2_ n3_; (try (have HP49 := Kd.R_putg HO_109002.out (x29_2 : Int) 4)))); refine store_event (t := 3) (p := 82) (v := ?vo_w50) (w1 := (wc.setCell ⟨go46, (x29_2 : Int).toNat, none⟩ (.int .i64 4))) ?hg ?ho ?hn ?hr ?_; (case ho => rfl); (case hg => rfl); (case hn => rfl); (case hr => first | (go_simp; done) | (go_simp; rfl)); intro w50 hw; have hg : wc.grownBy w50 (some go46) := (by rw [hw]; exact HP49.2); have hp_ : Kd.R (Kd.int .i64) 3 w50 w.heap.size (fun _ => True) (.slice (some ⟨go46, 0, none⟩) x109002_2.length co46) y111 := (by rw [hw, Ny111.out]; exact HP49.1); clear HP49; have n0_ := Aside0.mk (hp_); have n1_ := Aside0.mk (blk_grown (g := gb102) (o := .cells #[.int .i64 0, .int .i64 0, .slice none 0 0] 84 (0, 0)) (fb_ BK102.out) hg (Kd.R_ne HO_109002.out BK102.out (by decide))); have n2_ := Aside0.mk (blk_grown (g := gb108) (o := .cells #[.int .i64 a0, .int .i64 a1, .slice (some ⟨go46, 0, none⟩) x109002_2.length co46] 84 (0, 0)) (fb_ BK108.out) hg (Kd.R_ne HO_109002.out BK108.out (by decide))); have n3_ := Aside0.mk ((by rw [hw]; exact below_set (HB.out) GB46.out : Below w.heap.size w w50)); clear HO_109002; clear BK102; clear BK108; clear HB; have HO_109002 := n0_; have BK102 := n1_; have BK108 := n2_; have HB := n3_; clear n0_ n1_ n2_ n3_; clear hg hw hp_)); try go_wp2_with (first | ((with_reducible refine gate_store (t := 3) (p := 82) rfl ?_); (try ((first | ((conv in (World.drewN wc _) => skip); generalize hq_ : World.drewN wc _ = wc) | (rw [drewN_self wc]; generalize hq_ : World.drewN wc _ = wc)); have n0_ := Aside0.mk (Kd.R_at hq_ HO_109002.out); have n1_ := Aside0.mk (blk_at hq_ BK102.out); have n2_ := Aside0.mk (blk_at hq_ BK108.out); have n3_ := Aside0.mk (below_at hq_ HB.out); clear hq_ HO_109002 BK102 BK108 HB; have HO_109002 := n0_; have BK102 := n1_; have BK108 := n2_; have HB := n3_; clear n0_ n1_ n2_ n3_; (try (have HP49 := Kd.R_putg HO_109002.out (x29_2 : Int) 4)))); refine store_event (t := 3) (p := 82) (v := ?vo_w50) (w1 := (wc.setCell ⟨go46, (x29_2 : Int).toNat, none⟩ (.int .i64 4))) ?hg ?ho ?hn ?hr ?_; (case ho => rfl); (case hg => rfl); (case hn => rfl); (case hr => first | (go_simp; done) | (go_simp; rfl)); intro w50 hw; have hg : wc.grownBy w50 (some go46) := (by rw [hw]; exact HP49.2); have hp_ : Kd.R (Kd.int .i64) 3 w50 w.heap.size (fun _ => True) (.slice (some ⟨go46, 0, none⟩) x109002_2.length co46) y111 := (by rw [hw, Ny111.out]; exact HP49.1); clear HP49; have n0_ := Aside0.mk (hp_); have n1_ := Aside0.mk (blk_grown (g := gb102) (o := .cells #[.int .i64 0, .int .i64 0, .slice none 0 0] 84 (0, 0)) (fb_ BK102.out) hg (Kd.R_ne HO_109002.out BK102.out (by decide))); have n2_ := Aside0.mk (blk_grown (g := gb108) (o := .cells #[.int .i64 a0, .int .i64 a1, .slice (some ⟨go46, 0, none⟩) x109002_2.length co46] 84 (0, 0)) (fb_ BK108.out) hg (Kd.R_ne HO_109002.out BK108.out (by decide))); have n3_ := Aside0.mk ((by rw [hw]; exact below_set (HB.out) GB46.out : Below w.heap.size w w50)); clear HO_109002; clear BK102; clear BK108; clear HB; have HO_109002 := n0_; have BK102 := n1_; have BK108 := n2_; have HB := n3_; clear n0_ n1_ n2_ n3_; clear hg hw hp_)))
                     (try ((try ((first | ((conv in (World.drewN wc _) => skip); generalize hq_ : World.drewN wc _ = wc) | (rw [drewN_self wc]; generalize hq_ : World.drewN wc _ = wc)); have n0_ := Aside0.mk (Kd.R_at hq_ HO_109002.out); have n1_ := Aside0.mk (blk_at hq_ BK102.out); have n2_ := Aside0.mk (blk_at hq_ BK108.out); have n3_ := Aside0.mk (below_at hq_ HB.out); clear hq_ HO_109002 BK102 BK108 HB; have HO_109002 := n0_; have BK102 := n1_; have BK108 := n2_; have HB := n3_; clear n0_ n1_ n2_ n3_; (try (have HP49 := Kd.R_putg HO_109002.out (x29_2 : Int) 4)))); generalize hw : (wc.setCell ⟨go46, (x29_2 : Int).toNat, none⟩ (.int .i64 4)) = w50; replace hw := hw.symm; have hg : wc.grownBy w50 (some go46) := (by rw [hw]; exact HP49.2); have hp_ : Kd.R (Kd.int .i64) 3 w50 w.heap.size (fun _ => True) (.slice (some ⟨go46, 0, none⟩) x109002_2.length co46) y111 := (by rw [hw, Ny111.out]; exact HP49.1); clear HP49; have n0_ := Aside0.mk (hp_); have n1_ := Aside0.mk (blk_grown (g := gb102) (o := .cells #[.int .i64 0, .int .i64 0, .slice none 0 0] 84 (0, 0)) (fb_ BK102.out) hg (Kd.R_ne HO_109002.out BK102.out (by decide))); have n2_ := Aside0.mk (blk_grown (g := gb108) (o := .cells #[.int .i64 a0, .int .i64 a1, .slice (some ⟨go46, 0, none⟩) x109002_2.length co46] 84 (0, 0)) (fb_ BK108.out) hg (Kd.R_ne HO_109002.out BK108.out (by decide))); have n3_ := Aside0.mk ((by rw [hw]; exact below_set (HB.out) GB46.out : Below w.heap.size w w50)); clear HO_109002; clear BK102; clear BK108; clear HB; have HO_109002 := n0_; have BK102 := n1_; have BK108 := n2_; have HB := n3_; clear n0_ n1_ n2_ n3_; clear hg hw hp_))
                     (first | go_roundg kj40 | (simp only [← hji10]; go_roundg kj40) | (refine Handed.intro kj40 ?measure ?_; rotate_left; go_step; (repeat apply Exists.intro); simp only [add_plain]; refine ⟨?rel, rfl⟩))
                     case measure => have := HJ2.out; have := HK2.out; have := HJ20.out; have := HJ30.out; have := HJ40.out; omega
                     case rel => exact ⟨(wrap64 (x29_2 + 1)), (y111), (.slice (some ⟨go46, 0, none⟩) x109002_2.length co46), (by first | rfl | (simp; done) | (simp [*]; done) | (simp [wrap64]; done)), H', ⟨by have := HJ2.out; have := HK2.out; have := HJ20.out; have := HJ30.out; have := HJ40.out; omega⟩, ⟨by (with_reducible repeat (first | apply Kd.R_alloc | apply Kd.R_drewN | apply Kd.R_drew)); exact HO_109002.out⟩, ⟨by (with_reducible repeat (first | refine blk_drewN ?_ _ | refine blk_drew ?_ | refine blk_alloc ?_ _)); exact BK102.out⟩, ⟨by (with_reducible repeat (first | refine blk_drewN ?_ _ | refine blk_drew ?_ | refine blk_alloc ?_ _)); exact BK108.out⟩, ⟨bel_ HB.out⟩⟩
                    ·rw [if_neg c45] at H
                     exact absurd H (by simp)
                   ·rw [if_neg c44] at H
                    exact absurd H (by simp)
                  ·replace c43 := Bool.eq_false_iff.mpr c43
                   subst c43
                   have H1 : (if (Int.tmod x29_2 a0) = 0 then (if (wrap64 (Int.tdiv x29_2 a0)) > 0 then (if 0 ≤ x29_2 then (if x29_2 < (x109002_2.length : Int) then (impl_OneWay.l0 kj40 a0 a1 (y105.length : Int) (wrap64 (x29_2 + 1)) a0 a1 (x109002_2.set (x29_2 : Int).toNat 8)) else (none)) else (none)) else (if 0 ≤ x29_2 then (if x29_2 < (x109002_2.length : Int) then (impl_OneWay.l0 kj40 a0 a1 (y105.length : Int) (wrap64 (x29_2 + 1)) a0 a1 (x109002_2.set (x29_2 : Int).toNat 15)) else (none)) else (none))) else (if 0 ≤ x29_2 then (if x29_2 < (x109002_2.length : Int) then (impl_OneWay.l0 kj40 a0 a1 (y105.length : Int) (wrap64 (x29_2 + 1)) a0 a1 (x109002_2.set (x29_2 : Int).toNat 15)) else (none)) else (none))) = some (r1, r2, r3, r4) := by rw [if_neg (show ¬ (false = true) by decide)] at H; exact H
                   clear H
                   have H := H1
                   clear H1
                   by_cases c51 : (Int.tmod x29_2 a0) = 0
                   ·rw [if_pos c51] at H
                    have c51b0 : ((Int.tmod x29_2 a0) == 0) = true := beq_iff_eq.mpr c51
                    have c51b1 : ((Int.tmod x29_2 a0) != 0) = false := bne_eq_false_iff_eq.mpr c51
                    clear c51
                    by_cases c52 : (wrap64 (Int.tdiv x29_2 a0)) > 0
                    ·rw [if_pos c52] at H
                     have c52b0 : decide (0 < (wrap64 (Int.tdiv x29_2 a0))) = true := decide_eq_true c52
                     clear c52
                     by_cases c53 : 0 ≤ x29_2
                     ·rw [if_pos c53] at H
                      have c53b0 : decide (0 ≤ x29_2) = true := decide_eq_true c53
                      clear c53
                      by_cases c54 : x29_2 < (x109002_2.length : Int)
                      ·rw [if_pos c54] at H
                       have c54b0 : decide (x29_2 < (x109002_2.length : Int)) = true := decide_eq_true c54
                       clear c54
                       obtain ⟨y112, hy112⟩ : ∃ y_ : List Int, y_ = (x109002_2.set (x29_2 : Int).toNat 8) := ⟨_, rfl⟩
                       replace H : (impl_OneWay.l0 kj40 a0 a1 (y105.length : Int) (wrap64 (x29_2 + 1)) a0 a1 y112) = some (r1, r2, r3, r4) := by first | (rw [hy112]; with_reducible exact H) | (have H2_ := (Option.bind_some _ _).symm.trans H; rw [hy112]; with_reducible exact H2_) | (have H2_ := (Option.bind_some _ _).symm.trans H; with_reducible exact H2_) | with_reducible exact H | (rw [hy112]; exact H) | exact H
                       have Ny112 := Aside0.mk hy112
                       clear hy112
                       have H' := Aside0.mk H
                       clear H
                       have hnb56 := NB108_102.out
                       have hnc56 := NB102_108.out
                       have hcz57_0 : wc.cell? ⟨gb108, 0, none⟩ = some (.int .i64 a0) := (blk_cell BK108.out 0).trans rfl
                       have hcz57_1 : wc.cell? ⟨gb108, 1, none⟩ = some (.int .i64 a1) := (blk_cell BK108.out 1).trans rfl
                       have hcz57_2 : wc.cell? ⟨gb108, 2, none⟩ = some (u109002) := (blk_cell BK108.out 2).trans rfl
                       have hfz57_0 := blk_frozen BK108.out 0
                       have hfz57_1 := blk_frozen BK108.out 1
                       have hfz57_2 := blk_frozen BK108.out 2
                       have p55 : 0 ≤ (x29_2 : Int) := of_decide_eq_true (by first | (with_reducible assumption) | assumption)
                       have q55 : (x29_2 : Int) < ((x109002_2.length : Int) : Int) := of_decide_eq_true (by first | (with_reducible assumption) | assumption)
                       obtain ⟨go55, co55, eo55, gb55, gl55, cl55, HG55⟩ := Kd.R_form HO_109002.out (by omega)
                       (first | cases eo55 | (injection eo55 with ea_ en_ ec_; (first | subst ea_ | (injection ea_ with ea_; subst ea_)); subst ec_; clear en_))
                       have GB55 := Aside0.mk gb55
                       have GG55 := Aside0.mk HG55
                       clear gb55 gl55 HG55
                       obtain ⟨hx55_0, hf55_0⟩ := Kd.R_celln 0 HO_109002.out (x29_2 : Int) p55 q55
                       replace p55 := eq_true p55
                       replace q55 := eq_true q55
                       have HP58 := Kd.R_putg HO_109002.out (x29_2 : Int) 8
                       go_wp2_with (first | ((with_reducible refine gate_store (t := 3) (p := 93) rfl ?_); (try ((first | ((conv in (World.drewN wc _) => skip); generalize hq_ : World.drewN wc _ = wc) | (rw [drewN_self wc]; generalize hq_ : World.drewN wc _ = wc)); have n0_ := Aside0.mk (Kd.R_at hq_ HO_109002.out); have n1_ := Aside0.mk (blk_at hq_ BK102.out); have n2_ := Aside0.mk (blk_at hq_ BK108.out); have n3_ := Aside0.mk (below_at hq_ HB.out); clear hq_ HO_109002 BK102 BK108 HB; have HO_109002 := n0_; have BK102 := n1_; have BK108 := n2_; have HB := n3_; clear n0_ n1_ n2_ n3_; (try (have HP58 := Kd.R_putg HO_109002.out (x29_2 : Int) 8)))); refine store_event (t := 3) (p := 93) (v := ?vo_w59) (w1 := (wc.setCell ⟨go55, (x29_2 : Int).toNat, none⟩ (.int .i64 8))) ?hg ?ho ?hn ?hr ?_; (case ho => rfl); (case hg => rfl); (case hn => rfl); (case hr => first | (go_simp; done) | (go_simp; rfl)); intro w59 hw; have hg : wc.grownBy w59 (some go55) := (by rw [hw]; exact HP58.2); have hp_ : Kd.R (Kd.int .i64) 3 w59 w.heap.size (fun _ => True) (.slice (some ⟨go55, 0, none⟩) x109002_2.length co55) y112 := (by rw [hw, Ny112.out]; exact HP58.1); clear HP58; have n0_ := Aside0.mk (hp_); have n1_ := Aside0.mk (blk_grown (g := gb102) (o := .cells #[.int .i64 0, .int .i64 0, .slice none 0 0] 84 (0, 0)) (fb_ BK102.out) hg (Kd.R_ne HO_109002.out BK102.out (by decide))); have n2_ := Aside0.mk (blk_grown (g := gb108) (o := .cells #[.int .i64 a0, .int .i64 a1, .slice (some ⟨go55, 0, none⟩) x109002_2.length co55] 84 (0, 0)) (fb_ BK108.out) hg (Kd.R_ne HO_109002.out BK108.out (by decide))); have n3_ := Aside0.mk ((by rw [hw]; exact below_set (HB.out) GB55.out : Below w.heap.size w w59)); clear HO_109002; clear BK102; clear BK108; clear HB; have HO_109002 := n0_; have BK102 := n1_; have BK108 := n2_; have HB := n3_; clear n0_ n1_ n2_ n3_; clear hg hw hp_))
                       repeat (go_quiet (first | ((with_reducible refine gate_store (t := 3) (p := 93) rfl ?_); (try ((first | ((conv in (World.drewN wc _) => skip); generalize hq_ : World.drewN wc _ = wc) | (rw [drewN_self wc]; generalize hq_ : World.drewN wc _ = wc)); have n0_ := Aside0.mk (Kd.R_at hq_ HO_109002.out); have n1_ := Aside0.mk (blk_at hq_ BK102.out); have n2_ := Aside0.mk (blk_at hq_ BK108.out); have n3_ := Aside0.mk (below_at hq_ HB.out); clear hq_ HO_109002 BK102 BK108 HB; have HO_109002 := n0_; have BK102 := n1_; have BK108 := n2_; have HB := n3_; clear n0_ n1_ n2_ n3_; (try (have HP58 := Kd.R_putg HO_109002.out (x29_2 : Int) 8)))); refine store_event (t := 3) (p := 93) (v := ?vo_w59) (w1 := (wc.setCell ⟨go55, (x29_2 : Int).toNat, none⟩ (.int .i64 8))) ?hg ?ho ?hn ?hr ?_; (case ho => rfl); (case hg => rfl); (case hn => rfl); (case hr => first | (go_simp; done) | (go_simp; rfl)); intro w59 hw; have hg : wc.grownBy w59 (some go55) := (by rw [hw]; exact HP58.2); have hp_ : Kd.R (Kd.int .i64) 3 w59 w.heap.size (fun _ => True) (.slice (some ⟨go55, 0, none⟩) x109002_2.length co55) y112 := (by rw [hw, Ny112.out]; exact HP58.1); clear HP58; have n0_ := Aside0.mk (hp_); have n1_ := Aside0.mk (blk_grown (g := gb102) (o := .cells #[.int .i64 0, .int .i64 0, .slice none 0 0] 84 (0, 0)) (fb_ BK102.out) hg (Kd.R_ne HO_109002.out BK102.out (by decide))); have n2_ := Aside0.mk (blk_grown (g := gb108) (o := .cells #[.int .i64 a0, .int .i64 a1, .slice (some ⟨go55, 0, none⟩) x109002_2.length co55] 84 (0, 0)) (fb_ BK108.out) hg (Kd.R_ne HO_109002.out BK108.out (by decide))); have n3_ := Aside0.mk ((by rw [hw]; exact below_set (HB.out) GB55.out : Below w.heap.size w w59)); clear HO_109002; clear BK102; clear BK108; clear HB; have HO_109002 := n0_; have BK102 := n1_; have BK108 := n2_; have HB := n3_; clear n0_ n1_ n2_ n3_; clear hg hw hp_)); try go_wp2_with (first | ((with_reducible refine gate_store (t := 3) (p := 93) rfl ?_); (try ((first | ((conv in (World.drewN wc _) => skip); generalize hq_ : World.drewN wc _ = wc) | (rw [drewN_self wc]; generalize hq_ : World.drewN wc _ = wc)); have n0_ := Aside0.mk (Kd.R_at hq_ HO_109002.out); have n1_ := Aside0.mk (blk_at hq_ BK102.out); have n2_ := Aside0.mk (blk_at hq_ BK108.out); have n3_ := Aside0.mk (below_at hq_ HB.out); clear hq_ HO_109002 BK102 BK108 HB; have HO_109002 := n0_; have BK102 := n1_; have BK108 := n2_; have HB := n3_; clear n0_ n1_ n2_ n3_; (try (have HP58 := Kd.R_putg HO_109002.out (x29_2 : Int) 8)))); refine store_event (t := 3) (p := 93) (v := ?vo_w59) (w1 := (wc.setCell ⟨go55, (x29_2 : Int).toNat, none⟩ (.int .i64 8))) ?hg ?ho ?hn ?hr ?_; (case ho => rfl); (case hg => rfl); (case hn => rfl); (case hr => first | (go_simp; done) | (go_simp; rfl)); intro w59 hw; have hg : wc.grownBy w59 (some go55) := (by rw [hw]; exact HP58.2); have hp_ : Kd.R (Kd.int .i64) 3 w59 w.heap.size (fun _ => True) (.slice (some ⟨go55, 0, none⟩) x109002_2.length co55) y112 := (by rw [hw, Ny112.out]; exact HP58.1); clear HP58; have n0_ := Aside0.mk (hp_); have n1_ := Aside0.mk (blk_grown (g := gb102) (o := .cells #[.int .i64 0, .int .i64 0, .slice none 0 0] 84 (0, 0)) (fb_ BK102.out) hg (Kd.R_ne HO_109002.out BK102.out (by decide))); have n2_ := Aside0.mk (blk_grown (g := gb108) (o := .cells #[.int .i64 a0, .int .i64 a1, .slice (some ⟨go55, 0, none⟩) x109002_2.length co55] 84 (0, 0)) (fb_ BK108.out) hg (Kd.R_ne HO_109002.out BK108.out (by decide))); have n3_ := Aside0.mk ((by rw [hw]; exact below_set (HB.out) GB55.out : Below w.heap.size w w59)); clear HO_109002; clear BK102; clear BK108; clear HB; have HO_109002 := n0_; have BK102 := n1_; have BK108 := n2_; have HB := n3_; clear n0_ n1_ n2_ n3_; clear hg hw hp_)))
                       (try ((try ((first | ((conv in (World.drewN wc _) => skip); generalize hq_ : World.drewN wc _ = wc) | (rw [drewN_self wc]; generalize hq_ : World.drewN wc _ = wc)); have n0_ := Aside0.mk (Kd.R_at hq_ HO_109002.out); have n1_ := Aside0.mk (blk_at hq_ BK102.out); have n2_ := Aside0.mk (blk_at hq_ BK108.out); have n3_ := Aside0.mk (below_at hq_ HB.out); clear hq_ HO_109002 BK102 BK108 HB; have HO_109002 := n0_; have BK102 := n1_; have BK108 := n2_; have HB := n3_; clear n0_ n1_ n2_ n3_; (try (have HP58 := Kd.R_putg HO_109002.out (x29_2 : Int) 8)))); generalize hw : (wc.setCell ⟨go55, (x29_2 : Int).toNat, none⟩ (.int .i64 8)) = w59; replace hw := hw.symm; have hg : wc.grownBy w59 (some go55) := (by rw [hw]; exact HP58.2); have hp_ : Kd.R (Kd.int .i64) 3 w59 w.heap.size (fun _ => True) (.slice (some ⟨go55, 0, none⟩) x109002_2.length co55) y112 := (by rw [hw, Ny112.out]; exact HP58.1); clear HP58; have n0_ := Aside0.mk (hp_); have n1_ := Aside0.mk (blk_grown (g := gb102) (o := .cells #[.int .i64 0, .int .i64 0, .slice none 0 0] 84 (0, 0)) (fb_ BK102.out) hg (Kd.R_ne HO_109002.out BK102.out (by decide))); have n2_ := Aside0.mk (blk_grown (g := gb108) (o := .cells #[.int .i64 a0, .int .i64 a1, .slice (some ⟨go55, 0, none⟩) x109002_2.length co55] 84 (0, 0)) (fb_ BK108.out) hg (Kd.R_ne HO_109002.out BK108.out (by decide))); have n3_ := Aside0.mk ((by rw [hw]; exact below_set (HB.out) GB55.out : Below w.heap.size w w59)); clear HO_109002; clear BK102; clear BK108; clear HB; have HO_109002 := n0_; have BK102 := n1_; have BK108 := n2_; have HB := n3_; clear n0_ n1_ n2_ n3_; clear hg hw hp_))
                       (first | go_roundg kj40 | (simp only [← hji10]; go_roundg kj40) | (refine Handed.intro kj40 ?measure ?_; rotate_left; go_step; (repeat apply Exists.intro); simp only [add_plain]; refine ⟨?rel, rfl⟩))
                       case measure => have := HJ2.out; have := HK2.out; have := HJ20.out; have := HJ30.out; have := HJ40.out; omega
                       case rel => exact ⟨(wrap64 (x29_2 + 1)), (y112), (.slice (some ⟨go55, 0, none⟩) x109002_2.length co55), (by first | rfl | (simp; done) | (simp [*]; done) | (simp [wrap64]; done)), H', ⟨by have := HJ2.out; have := HK2.out; have := HJ20.out; have := HJ30.out; have := HJ40.out; omega⟩, ⟨by (with_reducible repeat (first | apply Kd.R_alloc | apply Kd.R_drewN | apply Kd.R_drew)); exact HO_109002.out⟩, ⟨by (with_reducible repeat (first | refine blk_drewN ?_ _ | refine blk_drew ?_ | refine blk_alloc ?_ _)); exact BK102.out⟩, ⟨by (with_reducible repeat (first | refine blk_drewN ?_ _ | refine blk_drew ?_ | refine blk_alloc ?_ _)); exact BK108.out⟩, ⟨bel_ HB.out⟩⟩
                      ·rw [if_neg c54] at H
                       exact absurd H (by simp)
                     ·rw [if_neg c53] at H
                      exact absurd H (by simp)
                    ·rw [if_neg c52] at H
                     have c52b0 : decide (0 < (wrap64 (Int.tdiv x29_2 a0))) = false := decide_eq_false c52
                     clear c52
                     by_cases c60 : 0 ≤ x29_2
                     ·rw [if_pos c60] at H
                      have c60b0 : decide (0 ≤ x29_2) = true := decide_eq_true c60
                      clear c60
                      by_cases c61 : x29_2 < (x109002_2.length : Int)
                      ·rw [if_pos c61] at H
                       have c61b0 : decide (x29_2 < (x109002_2.length : Int)) = true := decide_eq_true c61
                       clear c61
                       obtain ⟨y113, hy113⟩ : ∃ y_ : List Int, y_ = (x109002_2.set (x29_2 : Int).toNat 15) := ⟨_, rfl⟩
                       replace H : (impl_OneWay.l0 kj40 a0 a1 (y105.length : Int) (wrap64 (x29_2 + 1)) a0 a1 y113) = some (r1, r2, r3, r4) := by first | (rw [hy113]; with_reducible exact H) | (have H2_ := (Option.bind_some _ _).symm.trans H; rw [hy113]; with_reducible exact H2_) | (have H2_ := (Option.bind_some _ _).symm.trans H; with_reducible exact H2_) | with_reducible exact H | (rw [hy113]; exact H) | exact H
                       have Ny113 := Aside0.mk hy113
                       clear hy113
                       have H' := Aside0.mk H
                       clear H
                       have hnb63 := NB108_102.out
                       have hnc63 := NB102_108.out
                       have hcz64_0 : wc.cell? ⟨gb108, 0, none⟩ = some (.int .i64 a0) := (blk_cell BK108.out 0).trans rfl
                       have hcz64_1 : wc.cell? ⟨gb108, 1, none⟩ = some (.int .i64 a1) := (blk_cell BK108.out 1).trans rfl
                       have hcz64_2 : wc.cell? ⟨gb108, 2, none⟩ = some (u109002) := (blk_cell BK108.out 2).trans rfl
                       have hfz64_0 := blk_frozen BK108.out 0
                       have hfz64_1 := blk_frozen BK108.out 1
                       have hfz64_2 := blk_frozen BK108.out 2
                       have p62 : 0 ≤ (x29_2 : Int) := of_decide_eq_true (by first | (with_reducible assumption) | assumption)
                       have q62 : (x29_2 : Int) < ((x109002_2.length : Int) : Int) := of_decide_eq_true (by first | (with_reducible assumption) | assumption)
                       obtain ⟨go62, co62, eo62, gb62, gl62, cl62, HG62⟩ := Kd.R_form HO_109002.out (by omega)
                       (first | cases eo62 | (injection eo62 with ea_ en_ ec_; (first | subst ea_ | (injection ea_ with ea_; subst ea_)); subst ec_; clear en_))
                       have GB62 := Aside0.mk gb62
                       have GG62 := Aside0.mk HG62
                       clear gb62 gl62 HG62
                       obtain ⟨hx62_0, hf62_0⟩ := Kd.R_celln 0 HO_109002.out (x29_2 : Int) p62 q62
                       replace p62 := eq_true p62
                       replace q62 := eq_true q62
                       have HP65 := Kd.R_putg HO_109002.out (x29_2 : Int) 15
                       go_wp2_with (first | ((with_reducible refine gate_store (t := 3) (p := 41) rfl ?_); (try ((first | ((conv in (World.drewN wc _) => skip); generalize hq_ : World.drewN wc _ = wc) | (rw [drewN_self wc]; generalize hq_ : World.drewN wc _ = wc)); have n0_ := Aside0.mk (Kd.R_at hq_ HO_109002.out); have n1_ := Aside0.mk (blk_at hq_ BK102.out); have n2_ := Aside0.mk (blk_at hq_ BK108.out); have n3_ := Aside0.mk (below_at hq_ HB.out); clear hq_ HO_109002 BK102 BK108 HB; have HO_109002 := n0_; have BK102 := n1_; have BK108 := n2_; have HB := n3_; clear n0_ n1_ n2_ n3_; (try (have HP65 := Kd.R_putg HO_109002.out (x29_2 : Int) 15)))); refine store_event (t := 3) (p := 41) (v := ?vo_w66) (w1 := (wc.setCell ⟨go62, (x29_2 : Int).toNat, none⟩ (.int .i64 15))) ?hg ?ho ?hn ?hr ?_; (case ho => rfl); (case hg => rfl); (case hn => rfl); (case hr => first | (go_simp; done) | (go_simp; rfl)); intro w66 hw; have hg : wc.grownBy w66 (some go62) := (by rw [hw]; exact HP65.2); have hp_ : Kd.R (Kd.int .i64) 3 w66 w.heap.size (fun _ => True) (.slice (some ⟨go62, 0, none⟩) x109002_2.length co62) y113 := (by rw [hw, Ny113.out]; exact HP65.1); clear HP65; have n0_ := Aside0.mk (hp_); have n1_ := Aside0.mk (blk_grown (g := gb102) (o := .cells #[.int .i64 0, .int .i64 0, .slice none 0 0] 84 (0, 0)) (fb_ BK102.out) hg (Kd.R_ne HO_109002.out BK102.out (by decide))); have n2_ := Aside0.mk (blk_grown (g := gb108) (o := .cells #[.int .i64 a0, .int .i64 a1, .slice (some ⟨go62, 0, none⟩) x109002_2.length co62] 84 (0, 0)) (fb_ BK108.out) hg (Kd.R_ne HO_109002.out BK108.out (by decide))); have n3_ := Aside0.mk ((by rw [hw]; exact below_set (HB.out) GB62.out : Below w.heap.size w w66)); clear HO_109002; clear BK102; clear BK108; clear HB; have HO_109002 := n0_; have BK102 := n1_; have BK108 := n2_; have HB := n3_; clear n0_ n1_ n2_ n3_; clear hg hw hp_))
                       repeat (go_quiet (first | ((with_reducible refine gate_store (t := 3) (p := 41) rfl ?_); (try ((first | ((conv in (World.drewN wc _) => skip); generalize hq_ : World.drewN wc _ = wc) | (rw [drewN_self wc]; generalize hq_ : World.drewN wc _ = wc)); have n0_ := Aside0.mk (Kd.R_at hq_ HO_109002.out); have n1_ := Aside0.mk (blk_at hq_ BK102.out); have n2_ := Aside0.mk (blk_at hq_ BK108.out); have n3_ := Aside0.mk (below_at hq_ HB.out); clear hq_ HO_109002 BK102 BK108 HB; have HO_109002 := n0_; have BK102 := n1_; have BK108 := n2_; have HB := n3_; clear n0_ n1_ n2_ n3_; (try (have HP65 := Kd.R_putg HO_109002.out (x29_2 : Int) 15)))); refine store_event (t := 3) (p := 41) (v := ?vo_w66) (w1 := (wc.setCell ⟨go62, (x29_2 : Int).toNat, none⟩ (.int .i64 15))) ?hg ?ho ?hn ?hr ?_; (case ho => rfl); (case hg => rfl); (case hn => rfl); (case hr => first | (go_simp; done) | (go_simp; rfl)); intro w66 hw; have hg : wc.grownBy w66 (some go62) := (by rw [hw]; exact HP65.2); have hp_ : Kd.R (Kd.int .i64) 3 w66 w.heap.size (fun _ => True) (.slice (some ⟨go62, 0, none⟩) x109002_2.length co62) y113 := (by rw [hw, Ny113.out]; exact HP65.1); clear HP65; have n0_ := Aside0.mk (hp_); have n1_ := Aside0.mk (blk_grown (g := gb102) (o := .cells #[.int .i64 0, .int .i64 0, .slice none 0 0] 84 (0, 0)) (fb_ BK102.out) hg (Kd.R_ne HO_109002.out BK102.out (by decide))); have n2_ := Aside0.mk (blk_grown (g := gb108) (o := .cells #[.int .i64 a0, .int .i64 a1, .slice (some ⟨go62, 0, none⟩) x109002_2.length co62] 84 (0, 0)) (fb_ BK108.out) hg (Kd.R_ne HO_109002.out BK108.out (by decide))); have n3_ := Aside0.mk ((by rw [hw]; exact below_set (HB.out) GB62.out : Below w.heap.size w w66)); clear HO_109002; clear BK102; clear BK108; clear HB; have HO_109002 := n0_; have BK102 := n1_; have BK108 := n2_; have HB := n3_; clear n0_ n1_ n2_ n3_; clear hg hw hp_)); try go_wp2_with (first | ((with_reducible refine gate_store (t := 3) (p := 41) rfl ?_); (try ((first | ((conv in (World.drewN wc _) => skip); generalize hq_ : World.drewN wc _ = wc) | (rw [drewN_self wc]; generalize hq_ : World.drewN wc _ = wc)); have n0_ := Aside0.mk (Kd.R_at hq_ HO_109002.out); have n1_ := Aside0.mk (blk_at hq_ BK102.out); have n2_ := Aside0.mk (blk_at hq_ BK108.out); have n3_ := Aside0.mk (below_at hq_ HB.out); clear hq_ HO_109002 BK102 BK108 HB; have HO_109002 := n0_; have BK102 := n1_; have BK108 := n2_; have HB := n3_; clear n0_ n1_ n2_ n3_; (try (have HP65 := Kd.R_putg HO_109002.out (x29_2 : Int) 15)))); refine store_event (t := 3) (p := 41) (v := ?vo_w66) (w1 := (wc.setCell ⟨go62, (x29_2 : Int).toNat, none⟩ (.int .i64 15))) ?hg ?ho ?hn ?hr ?_; (case ho => rfl); (case hg => rfl); (case hn => rfl); (case hr => first | (go_simp; done) | (go_simp; rfl)); intro w66 hw; have hg : wc.grownBy w66 (some go62) := (by rw [hw]; exact HP65.2); have hp_ : Kd.R (Kd.int .i64) 3 w66 w.heap.size (fun _ => True) (.slice (some ⟨go62, 0, none⟩) x109002_2.length co62) y113 := (by rw [hw, Ny113.out]; exact HP65.1); clear HP65; have n0_ := Aside0.mk (hp_); have n1_ := Aside0.mk (blk_grown (g := gb102) (o := .cells #[.int .i64 0, .int .i64 0, .slice none 0 0] 84 (0, 0)) (fb_ BK102.out) hg (Kd.R_ne HO_109002.out BK102.out (by decide))); have n2_ := Aside0.mk (blk_grown (g := gb108) (o := .cells #[.int .i64 a0, .int .i64 a1, .slice (some ⟨go62, 0, none⟩) x109002_2.length co62] 84 (0, 0)) (fb_ BK108.out) hg (Kd.R_ne HO_109002.out BK108.out (by decide))); have n3_ := Aside0.mk ((by rw [hw]; exact below_set (HB.out) GB62.out : Below w.heap.size w w66)); clear HO_109002; clear BK102; clear BK108; clear HB; have HO_109002 := n0_; have BK102 := n1_; have BK108 := n2_; have HB := n3_; clear n0_ n1_ n2_ n3_; clear hg hw hp_)))
                       (try ((try ((first | ((conv in (World.drewN wc _) => skip); generalize hq_ : World.drewN wc _ = wc) | (rw [drewN_self wc]; generalize hq_ : World.drewN wc _ = wc)); have n0_ := Aside0.mk (Kd.R_at hq_ HO_109002.out); have n1_ := Aside0.mk (blk_at hq_ BK102.out); have n2_ := Aside0.mk (blk_at hq_ BK108.out); have n3_ := Aside0.mk (below_at hq_ HB.out); clear hq_ HO_109002 BK102 BK108 HB; have HO_109002 := n0_; have BK102 := n1_; have BK108 := n2_; have HB := n3_; clear n0_ n1_ n2_ n3_; (try (have HP65 := Kd.R_putg HO_109002.out (x29_2 : Int) 15)))); generalize hw : (wc.setCell ⟨go62, (x29_2 : Int).toNat, none⟩ (.int .i64 15)) = w66; replace hw := hw.symm; have hg : wc.grownBy w66 (some go62) := (by rw [hw]; exact HP65.2); have hp_ : Kd.R (Kd.int .i64) 3 w66 w.heap.size (fun _ => True) (.slice (some ⟨go62, 0, none⟩) x109002_2.length co62) y113 := (by rw [hw, Ny113.out]; exact HP65.1); clear HP65; have n0_ := Aside0.mk (hp_); have n1_ := Aside0.mk (blk_grown (g := gb102) (o := .cells #[.int .i64 0, .int .i64 0, .slice none 0 0] 84 (0, 0)) (fb_ BK102.out) hg (Kd.R_ne HO_109002.out BK102.out (by decide))); have n2_ := Aside0.mk (blk_grown (g := gb108) (o := .cells #[.int .i64 a0, .int .i64 a1, .slice (some ⟨go62, 0, none⟩) x109002_2.length co62] 84 (0, 0)) (fb_ BK108.out) hg (Kd.R_ne HO_109002.out BK108.out (by decide))); have n3_ := Aside0.mk ((by rw [hw]; exact below_set (HB.out) GB62.out : Below w.heap.size w w66)); clear HO_109002; clear BK102; clear BK108; clear HB; have HO_109002 := n0_; have BK102 := n1_; have BK108 := n2_; have HB := n3_; clear n0_ n1_ n2_ n3_; clear hg hw hp_))
                       (first | go_roundg kj40 | (simp only [← hji10]; go_roundg kj40) | (refine Handed.intro kj40 ?measure ?_; rotate_left; go_step; (repeat apply Exists.intro); simp only [add_plain]; refine ⟨?rel, rfl⟩))
                       case measure => have := HJ2.out; have := HK2.out; have := HJ20.out; have := HJ30.out; have := HJ40.out; omega
                       case rel => exact ⟨(wrap64 (x29_2 + 1)), (y113), (.slice (some ⟨go62, 0, none⟩) x109002_2.length co62), (by first | rfl | (simp; done) | (simp [*]; done) | (simp [wrap64]; done)), H', ⟨by have := HJ2.out; have := HK2.out; have := HJ20.out; have := HJ30.out; have := HJ40.out; omega⟩, ⟨by (with_reducible repeat (first | apply Kd.R_alloc | apply Kd.R_drewN | apply Kd.R_drew)); exact HO_109002.out⟩, ⟨by (with_reducible repeat (first | refine blk_drewN ?_ _ | refine blk_drew ?_ | refine blk_alloc ?_ _)); exact BK102.out⟩, ⟨by (with_reducible repeat (first | refine blk_drewN ?_ _ | refine blk_drew ?_ | refine blk_alloc ?_ _)); exact BK108.out⟩, ⟨bel_ HB.out⟩⟩
                      ·rw [if_neg c61] at H
                       exact absurd H (by simp)
                     ·rw [if_neg c60] at H
                      exact absurd H (by simp)
                   ·rw [if_neg c51] at H
                    have c51b0 : ((Int.tmod x29_2 a0) == 0) = false := beq_eq_false_iff_ne.mpr c51
                    have c51b1 : ((Int.tmod x29_2 a0) != 0) = true := bne_iff_ne.mpr c51
                    by_cases c67 : 0 ≤ x29_2
                    ·rw [if_pos c67] at H
                     have c67b0 : decide (0 ≤ x29_2) = true := decide_eq_true c67
                     clear c67
                     by_cases c68 : x29_2 < (x109002_2.length : Int)
                     ·rw [if_pos c68] at H
                      have c68b0 : decide (x29_2 < (x109002_2.length : Int)) = true := decide_eq_true c68
                      clear c68
                      obtain ⟨y114, hy114⟩ : ∃ y_ : List Int, y_ = (x109002_2.set (x29_2 : Int).toNat 15) := ⟨_, rfl⟩
                      replace H : (impl_OneWay.l0 kj40 a0 a1 (y105.length : Int) (wrap64 (x29_2 + 1)) a0 a1 y114) = some (r1, r2, r3, r4) := by first | (rw [hy114]; with_reducible exact H) | (have H2_ := (Option.bind_some _ _).symm.trans H; rw [hy114]; with_reducible exact H2_) | (have H2_ := (Option.bind_some _ _).symm.trans H; with_reducible exact H2_) | with_reducible exact H | (rw [hy114]; exact H) | exact H
                      have Ny114 := Aside0.mk hy114
                      clear hy114
                      have H' := Aside0.mk H
                      clear H
                      have hnb70 := NB108_102.out
                      have hnc70 := NB102_108.out
                      have hcz71_0 : wc.cell? ⟨gb108, 0, none⟩ = some (.int .i64 a0) := (blk_cell BK108.out 0).trans rfl
                      have hcz71_1 : wc.cell? ⟨gb108, 1, none⟩ = some (.int .i64 a1) := (blk_cell BK108.out 1).trans rfl
                      have hcz71_2 : wc.cell? ⟨gb108, 2, none⟩ = some (u109002) := (blk_cell BK108.out 2).trans rfl
                      have hfz71_0 := blk_frozen BK108.out 0
                      have hfz71_1 := blk_frozen BK108.out 1
                      have hfz71_2 := blk_frozen BK108.out 2
                      have p69 : 0 ≤ (x29_2 : Int) := of_decide_eq_true (by first | (with_reducible assumption) | assumption)
                      have q69 : (x29_2 : Int) < ((x109002_2.length : Int) : Int) := of_decide_eq_true (by first | (with_reducible assumption) | assumption)
                      obtain ⟨go69, co69, eo69, gb69, gl69, cl69, HG69⟩ := Kd.R_form HO_109002.out (by omega)
                      (first | cases eo69 | (injection eo69 with ea_ en_ ec_; (first | subst ea_ | (injection ea_ with ea_; subst ea_)); subst ec_; clear en_))
                      have GB69 := Aside0.mk gb69
                      have GG69 := Aside0.mk HG69
                      clear gb69 gl69 HG69
                      obtain ⟨hx69_0, hf69_0⟩ := Kd.R_celln 0 HO_109002.out (x29_2 : Int) p69 q69
                      replace p69 := eq_true p69
                      replace q69 := eq_true q69
                      have HP72 := Kd.R_putg HO_109002.out (x29_2 : Int) 15
                      go_wp2_with (first | ((with_reducible refine gate_store (t := 3) (p := 41) rfl ?_); (try ((first | ((conv in (World.drewN wc _) => skip); generalize hq_ : World.drewN wc _ = wc) | (rw [drewN_self wc]; generalize hq_ : World.drewN wc _ = wc)); have n0_ := Aside0.mk (Kd.R_at hq_ HO_109002.out); have n1_ := Aside0.mk (blk_at hq_ BK102.out); have n2_ := Aside0.mk (blk_at hq_ BK108.out); have n3_ := Aside0.mk (below_at hq_ HB.out); clear hq_ HO_109002 BK102 BK108 HB; have HO_109002 := n0_; have BK102 := n1_; have BK108 := n2_; have HB := n3_; clear n0_ n1_ n2_ n3_; (try (have HP72 := Kd.R_putg HO_109002.out (x29_2 : Int) 15)))); refine store_event (t := 3) (p := 41) (v := ?vo_w73) (w1 := (wc.setCell ⟨go69, (x29_2 : Int).toNat, none⟩ (.int .i64 15))) ?hg ?ho ?hn ?hr ?_; (case ho => rfl); (case hg => rfl); (case hn => rfl); (case hr => first | (go_simp; done) | (go_simp; rfl)); intro w73 hw; have hg : wc.grownBy w73 (some go69) := (by rw [hw]; exact HP72.2); have hp_ : Kd.R (Kd.int .i64) 3 w73 w.heap.size (fun _ => True) (.slice (some ⟨go69, 0, none⟩) x109002_2.length co69) y114 := (by rw [hw, Ny114.out]; exact HP72.1); clear HP72; have n0_ := Aside0.mk (hp_); have n1_ := Aside0.mk (blk_grown (g := gb102) (o := .cells #[.int .i64 0, .int .i64 0, .slice none 0 0] 84 (0, 0)) (fb_ BK102.out) hg (Kd.R_ne HO_109002.out BK102.out (by decide))); have n2_ := Aside0.mk (blk_grown (g := gb108) (o := .cells #[.int .i64 a0, .int .i64 a1, .slice (some ⟨go69, 0, none⟩) x109002_2.length co69] 84 (0, 0)) (fb_ BK108.out) hg (Kd.R_ne HO_109002.out BK108.out (by decide))); have n3_ := Aside0.mk ((by rw [hw]; exact below_set (HB.out) GB69.out : Below w.heap.size w w73)); clear HO_109002; clear BK102; clear BK108; clear HB; have HO_109002 := n0_; have BK102 := n1_; have BK108 := n2_; have HB := n3_; clear n0_ n1_ n2_ n3_; clear hg hw hp_))
                      repeat (go_quiet (first | ((with_reducible refine gate_store (t := 3) (p := 41) rfl ?_); (try ((first | ((conv in (World.drewN wc _) => skip); generalize hq_ : World.drewN wc _ = wc) | (rw [drewN_self wc]; generalize hq_ : World.drewN wc _ = wc)); have n0_ := Aside0.mk (Kd.R_at hq_ HO_109002.out); have n1_ := Aside0.mk (blk_at hq_ BK102.out); have n2_ := Aside0.mk (blk_at hq_ BK108.out); have n3_ := Aside0.mk (below_at hq_ HB.out); clear hq_ HO_109002 BK102 BK108 HB; have HO_109002 := n0_; have BK102 := n1_; have BK108 := n2_; have HB := n3_; clear n0_ n1_ n2_ n3_; (try (have HP72 := Kd.R_putg HO_109002.out (x29_2 : Int) 15)))); refine store_event (t := 3) (p := 41) (v := ?vo_w73) (w1 := (wc.setCell ⟨go69, (x29_2 : Int).toNat, none⟩ (.int .i64 15))) ?hg ?ho ?hn ?hr ?_; (case ho => rfl); (case hg => rfl); (case hn => rfl); (case hr => first | (go_simp; done) | (go_simp; rfl)); intro w73 hw; have hg : wc.grownBy w73 (some go69) := (by rw [hw]; exact HP72.2); have hp_ : Kd.R (Kd.int .i64) 3 w73 w.heap.size (fun _ => True) (.slice (some ⟨go69, 0, none⟩) x109002_2.length co69) y114 := (by rw [hw, Ny114.out]; exact HP72.1); clear HP72; have n0_ := Aside0.mk (hp_); have n1_ := Aside0.mk (blk_grown (g := gb102) (o := .cells #[.int .i64 0, .int .i64 0, .slice none 0 0] 84 (0, 0)) (fb_ BK102.out) hg (Kd.R_ne HO_109002.out BK102.out (by decide))); have n2_ := Aside0.mk (blk_grown (g := gb108) (o := .cells #[.int .i64 a0, .int .i64 a1, .slice (some ⟨go69, 0, none⟩) x109002_2.length co69] 84 (0, 0)) (fb_ BK108.out) hg (Kd.R_ne HO_109002.out BK108.out (by decide))); have n3_ := Aside0.mk ((by rw [hw]; exact below_set (HB.out) GB69.out : Below w.heap.size w w73)); clear HO_109002; clear BK102; clear BK108; clear HB; have HO_109002 := n0_; have BK102 := n1_; have BK108 := n2_; have HB := n3_; clear n0_ n1_ n2_ n3_; clear hg hw hp_)); try go_wp2_with (first | ((with_reducible refine gate_store (t := 3) (p := 41) rfl ?_); (try ((first | ((conv in (World.drewN wc _) => skip); generalize hq_ : World.drewN wc _ = wc) | (rw [drewN_self wc]; generalize hq_ : World.drewN wc _ = wc)); have n0_ := Aside0.mk (Kd.R_at hq_ HO_109002.out); have n1_ := Aside0.mk (blk_at hq_ BK102.out); have n2_ := Aside0.mk (blk_at hq_ BK108.out); have n3_ := Aside0.mk (below_at hq_ HB.out); clear hq_ HO_109002 BK102 BK108 HB; have HO_109002 := n0_; have BK102 := n1_; have BK108 := n2_; have HB := n3_; clear n0_ n1_ n2_ n3_; (try (have HP72 := Kd.R_putg HO_109002.out (x29_2 : Int) 15)))); refine store_event (t := 3) (p := 41) (v := ?vo_w73) (w1 := (wc.setCell ⟨go69, (x29_2 : Int).toNat, none⟩ (.int .i64 15))) ?hg ?ho ?hn ?hr ?_; (case ho => rfl); (case hg => rfl); (case hn => rfl); (case hr => first | (go_simp; done) | (go_simp; rfl)); intro w73 hw; have hg : wc.grownBy w73 (some go69) := (by rw [hw]; exact HP72.2); have hp_ : Kd.R (Kd.int .i64) 3 w73 w.heap.size (fun _ => True) (.slice (some ⟨go69, 0, none⟩) x109002_2.length co69) y114 := (by rw [hw, Ny114.out]; exact HP72.1); clear HP72; have n0_ := Aside0.mk (hp_); have n1_ := Aside0.mk (blk_grown (g := gb102) (o := .cells #[.int .i64 0, .int .i64 0, .slice none 0 0] 84 (0, 0)) (fb_ BK102.out) hg (Kd.R_ne HO_109002.out BK102.out (by decide))); have n2_ := Aside0.mk (blk_grown (g := gb108) (o := .cells #[.int .i64 a0, .int .i64 a1, .slice (some ⟨go69, 0, none⟩) x109002_2.length co69] 84 (0, 0)) (fb_ BK108.out) hg (Kd.R_ne HO_109002.out BK108.out (by decide))); have n3_ := Aside0.mk ((by rw [hw]; exact below_set (HB.out) GB69.out : Below w.heap.size w w73)); clear HO_109002; clear BK102; clear BK108; clear HB; have HO_109002 := n0_; have BK102 := n1_; have BK108 := n2_; have HB := n3_; clear n0_ n1_ n2_ n3_; clear hg hw hp_)))
                      (try ((try ((first | ((conv in (World.drewN wc _) => skip); generalize hq_ : World.drewN wc _ = wc) | (rw [drewN_self wc]; generalize hq_ : World.drewN wc _ = wc)); have n0_ := Aside0.mk (Kd.R_at hq_ HO_109002.out); have n1_ := Aside0.mk (blk_at hq_ BK102.out); have n2_ := Aside0.mk (blk_at hq_ BK108.out); have n3_ := Aside0.mk (below_at hq_ HB.out); clear hq_ HO_109002 BK102 BK108 HB; have HO_109002 := n0_; have BK102 := n1_; have BK108 := n2_; have HB := n3_; clear n0_ n1_ n2_ n3_; (try (have HP72 := Kd.R_putg HO_109002.out (x29_2 : Int) 15)))); generalize hw : (wc.setCell ⟨go69, (x29_2 : Int).toNat, none⟩ (.int .i64 15)) = w73; replace hw := hw.symm; have hg : wc.grownBy w73 (some go69) := (by rw [hw]; exact HP72.2); have hp_ : Kd.R (Kd.int .i64) 3 w73 w.heap.size (fun _ => True) (.slice (some ⟨go69, 0, none⟩) x109002_2.length co69) y114 := (by rw [hw, Ny114.out]; exact HP72.1); clear HP72; have n0_ := Aside0.mk (hp_); have n1_ := Aside0.mk (blk_grown (g := gb102) (o := .cells #[.int .i64 0, .int .i64 0, .slice none 0 0] 84 (0, 0)) (fb_ BK102.out) hg (Kd.R_ne HO_109002.out BK102.out (by decide))); have n2_ := Aside0.mk (blk_grown (g := gb108) (o := .cells #[.int .i64 a0, .int .i64 a1, .slice (some ⟨go69, 0, none⟩) x109002_2.length co69] 84 (0, 0)) (fb_ BK108.out) hg (Kd.R_ne HO_109002.out BK108.out (by decide))); have n3_ := Aside0.mk ((by rw [hw]; exact below_set (HB.out) GB69.out : Below w.heap.size w w73)); clear HO_109002; clear BK102; clear BK108; clear HB; have HO_109002 := n0_; have BK102 := n1_; have BK108 := n2_; have HB := n3_; clear n0_ n1_ n2_ n3_; clear hg hw hp_))
                      (first | go_roundg kj40 | (simp only [← hji10]; go_roundg kj40) | (refine Handed.intro kj40 ?measure ?_; rotate_left; go_step; (repeat apply Exists.intro); simp only [add_plain]; refine ⟨?rel, rfl⟩))
                      case measure => have := HJ2.out; have := HK2.out; have := HJ20.out; have := HJ30.out; have := HJ40.out; omega
                      case rel => exact ⟨(wrap64 (x29_2 + 1)), (y114), (.slice (some ⟨go69, 0, none⟩) x109002_2.length co69), (by first | rfl | (simp; done) | (simp [*]; done) | (simp [wrap64]; done)), H', ⟨by have := HJ2.out; have := HK2.out; have := HJ20.out; have := HJ30.out; have := HJ40.out; omega⟩, ⟨by (with_reducible repeat (first | apply Kd.R_alloc | apply Kd.R_drewN | apply Kd.R_drew)); exact HO_109002.out⟩, ⟨by (with_reducible repeat (first | refine blk_drewN ?_ _ | refine blk_drew ?_ | refine blk_alloc ?_ _)); exact BK102.out⟩, ⟨by (with_reducible repeat (first | refine blk_drewN ?_ _ | refine blk_drew ?_ | refine blk_alloc ?_ _)); exact BK108.out⟩, ⟨bel_ HB.out⟩⟩
                     ·rw [if_neg c68] at H
                      exact absurd H (by simp)
                    ·rw [if_neg c67] at H
                     exact absurd H (by simp)
        ·rw [if_neg c19] at H
         have c19b0 : decide (x29_2 < (y105.length : Int)) = false := decide_eq_false c19
         clear c19
         simp only [Option.some.injEq, Prod.mk.injEq] at H
         obtain ⟨rfl, rfl, rfl, rfl⟩ := H
         have hnb74 := NB108_102.out
         have hnc74 := NB102_108.out
         have hcz75_0 : wr.cell? ⟨gb108, 0, none⟩ = some (.int .i64 a0) := (blk_cell BK108.out 0).trans rfl
         have hcz75_1 : wr.cell? ⟨gb108, 1, none⟩ = some (.int .i64 a1) := (blk_cell BK108.out 1).trans rfl
         have hcz75_2 : wr.cell? ⟨gb108, 2, none⟩ = some (u109002) := (blk_cell BK108.out 2).trans rfl
         have hfz75_0 := blk_frozen BK108.out 0
         have hfz75_1 := blk_frozen BK108.out 1
         have hfz75_2 := blk_frozen BK108.out 2
         have hcz76_0 : wr.cell? ⟨gb102, 0, none⟩ = some (.int .i64 0) := (blk_cell BK102.out 0).trans rfl
         have hcz76_1 : wr.cell? ⟨gb102, 1, none⟩ = some (.int .i64 0) := (blk_cell BK102.out 1).trans rfl
         have hcz76_2 : wr.cell? ⟨gb102, 2, none⟩ = some (.slice none 0 0) := (blk_cell BK102.out 2).trans rfl
         have hfz76_0 := blk_frozen BK102.out 0
         have hfz76_1 := blk_frozen BK102.out 1
         have hfz76_2 := blk_frozen BK102.out 2
         obtain ⟨Ao77, co77, eo77⟩ := Kd.R_slice HO_109002.out
         subst eo77
         go_wp2
         repeat (go_quiet (fail); try go_wp2)
         refine bodyPost_ret (results_ct rfl _ _ gb102 84 #[.int .i64 a0, .int .i64 a1, .slice Ao77 x109002_2.length co77] (0, 0) _ rfl (by (with_reducible repeat (first | refine blk_drewN ?_ _ | refine blk_drew ?_ | refine blk_alloc ?_ _)); refine blk_put (cs := #[.int .i64 a0, .int .i64 a1, .slice none 0 0]) ?_ 2 _ rfl; (with_reducible repeat (first | refine blk_drewN ?_ _ | refine blk_drew ?_ | refine blk_alloc ?_ _)); refine blk_put (cs := #[.int .i64 a0, .int .i64 0, .slice none 0 0]) ?_ 1 _ rfl; (with_reducible repeat (first | refine blk_drewN ?_ _ | refine blk_drew ?_ | refine blk_alloc ?_ _)); refine blk_put (cs := #[.int .i64 0, .int .i64 0, .slice none 0 0]) ?_ 0 _ rfl; (with_reducible repeat (first | refine blk_drewN ?_ _ | refine blk_drew ?_ | refine blk_alloc ?_ _)); exact BK102.out) Try.underlying84 rfl (by kernel_rfl)) rfl ?_
         exact ⟨_, by first | rfl | (simp [errW_none, errW_some] <;> rfl) | (simp only [← hji10]; first | rfl | (simp [errW_none, errW_some] <;> rfl)) | (simp [*, errW_none, errW_some] <;> rfl), by (with_reducible repeat (first | apply Kd.R_alloc | apply Kd.R_drewN | apply Kd.R_drew)); exact Kd.R_mono (Kd.R_far (p := ⟨gb102, 2, none⟩) (Kd.R_far (p := ⟨gb102, 1, none⟩) (Kd.R_far (p := ⟨gb102, 0, none⟩) (Kd.R_types HO_109002.out BK102.out (by decide)) (fun _ hk => hk.2) (.int .i64 a0)) (fun _ hk => hk.2) (.int .i64 a1)) (fun _ hk => hk.2) (.slice Ao77 x109002_2.length co77)) (fun _ hk => trivial), bel_ HB.out⟩
     ·rw [if_neg c12] at H
      exact absurd H (by simp)
    ·rw [if_neg c11] at H
     exact absurd H (by simp)

-- NOT PRINTED: function 91 (slices_IndexFunc_int_int)

-- NOT PRINTED: function 76 (slices_ContainsFunc_int_int)

-- NOT PRINTED: function 90 (impl_all_1)

end Go.Proofs.Ytlphfhibnbhkfaa.PFnRing
