/- The Lean side of Go functions of this seat: what each answers, and that its run comes to that answer; written by a program of this work. -/
import Derived.Test.YtbhdnhpkpbhilaaPFnApartx0
import Derived.Test.YtbhdnhpkpbhilaaPFnApartx1
import Derived.Test.YtbhdnhpkpbhilaaPFnApartx2
import Derived.Test.YtbhdnhpkpbhilaaPFnApartx3
import Derived.Test.YtbhdnhpkpbhilaaPFnApartx4
namespace Go.Proofs.Ytbhdnhpkpbhilaa.PFnApart
open Go.RowKit Go.Proofs.YtbhdnhpkpbhilaaW.PrintWords Go.Proofs.YtbhdnhpkpbhilaaW.PrintLast Go.Proofs.YtbhdnhpkpbhilaaW.PrintMore
attribute [local go_sem] max2_int min2_int max_two min_two max_three min_three max_four min_four   -- for this text's walks alone
set_option linter.unusedVariables false
set_option linter.unusedSimpArgs false

attribute [local go_sem high] eqA31
/-! ### laws_FnApart: function 4 -/
mutual
def laws_FnApart.j0 : Nat → List Int → Int → Int → Option (Bool)
  | 0, _, _, _ => none
  | k + 1, x0, x3, x4 => (impl_Apart.f k x3 x4).bind fun t132 => ((impl_Apart.f k x4 x3).bind fun t133 => (if t132 = t133 then ((impl_Apart.f k x3 x3).bind fun t134 => (if t134 = 0 then (if t132 < 0 then (laws_FnApart.j1 k x0 x3 x4 t132 true) else (if t132 > 3 then (laws_FnApart.j1 k x0 x3 x4 t132 true) else ((impl_Apart.f k x3 10).bind fun t135 => (laws_FnApart.j1 k x0 x3 x4 t132 (t135 != (-1)))))) else (laws_FnApart.j1 k x0 x3 x4 t132 true))) else (laws_FnApart.j1 k x0 x3 x4 t132 true)))
def laws_FnApart.j1 : Nat → List Int → Int → Int → Int → Bool → Option (Bool)
  | 0, _, _, _, _, _ => none
  | k + 1, x0, x3, x4, x5, x46 => if x46 = true then (some false) else (laws_FnApart.j2 k x0 x5 (⟨#[67, 83, 81, 85, 51, 48, 53, 52, 51, 56, 51]⟩ : ByteArray) 5 x3 false 0 3 (⟨#[67, 83, 81, 85, 51, 48, 53, 52, 51, 56, 51]⟩ : ByteArray) 5 x4 false 0 3)
def laws_FnApart.j2 : Nat → List Int → Int → ByteArray → Int → Int → Bool → Int → Int → ByteArray → Int → Int → Bool → Int → Int → Option (Bool)
  | 0, _, _, _, _, _, _, _, _, _, _, _, _, _, _ => none
  | k + 1, x0, x5, x137000, x137001, x137002, x137003, x137004, x137005, x138000, x138001, x138002, x138003, x138004, x138005 => (laws_at.f x0 2).bind fun t138 => ((laws_at.f x0 3).bind fun t139 => ((laws_at.f x0 4).bind fun t140 => ((laws_at.f x0 5).bind fun t142 => ((laws_at.f x0 6).bind fun t143 => ((laws_at.f x0 7).bind fun t144 => ((impl_KeepsApart.f k x137000 x137001 x137002 x137003 x137004 x137005 (Int.tmod t138 4) (Int.tmod t139 3) (Int.tmod t140 3) x138000 x138001 x138002 x138003 x138004 x138005 (Int.tmod t142 4) (Int.tmod t143 3) (Int.tmod t144 3)).bind fun t146 => (laws_FnApart.j3 k x5 t146 x137000 x137001 x137002 x137003 x137004 x137005 x138000 x138001 x138002 x138003 x138004 x138005 (Int.tmod t138 4) (Int.tmod t139 3) (Int.tmod t140 3) (Int.tmod t142 4) (Int.tmod t143 3) (Int.tmod t144 3))))))))
def laws_FnApart.j3 : Nat → Int → Bool → ByteArray → Int → Int → Bool → Int → Int → ByteArray → Int → Int → Bool → Int → Int → Int → Int → Int → Int → Int → Int → Option (Bool)
  | 0, _, _, _, _, _, _, _, _, _, _, _, _, _, _, _, _, _, _, _, _ => none
  | k + 1, x5, x10, x137000, x137001, x137002, x137003, x137004, x137005, x138000, x138001, x138002, x138003, x138004, x138005, x142000, x142001, x142002, x146000, x146001, x146002 => if (x142000 == x146000 && (x142001 == x146001 && (x142002 == x146002))) = true then (if x10 = true then (some false) else ((impl_BoxOk.f k x137000 x137001 x137002 x137003 x137004 x137005).bind fun t147 => (some t147))) else (laws_FnApart.j4 k x5 x10 x137000 x137001 x137002 x137003 x137004 x137005 x138000 x138001 x138002 x138003 x138004 x138005 x142000 x142001 x142002 x146000 x146001 x146002 (wrap64 (x142000 + 9)) x146001 x146002)
def laws_FnApart.j4 : Nat → Int → Bool → ByteArray → Int → Int → Bool → Int → Int → ByteArray → Int → Int → Bool → Int → Int → Int → Int → Int → Int → Int → Int → Int → Int → Int → Option (Bool)
  | 0, _, _, _, _, _, _, _, _, _, _, _, _, _, _, _, _, _, _, _, _, _, _, _ => none
  | k + 1, x5, x10, x137000, x137001, x137002, x137003, x137004, x137005, x138000, x138001, x138002, x138003, x138004, x138005, x142000, x142001, x142002, x146000, x146001, x146002, x149000, x149001, x149002 => (impl_KeepsApart.f k x138000 x138001 x138002 x138003 x138004 x138005 x146000 x146001 x146002 x137000 x137001 x137002 x137003 x137004 x137005 x142000 x142001 x142002).bind fun t149 => (if (x10 == t149) = true then ((impl_BoxOk.f k x137000 x137001 x137002 x137003 x137004 x137005).bind fun t150 => (if t150 = true then ((impl_KeepsApart.f k x137000 x137001 x137002 x137003 x137004 x137005 x142000 x142001 x142002 x138000 x138001 x138002 x138003 x138004 x138005 x149000 x149001 x149002).bind fun t151 => (if (t151 == (x5 != 3)) = true then (if x5 = 0 then (some x10) else (some true)) else (some false))) else (some false))) else (some false))
end
def laws_FnApart.f (k : Nat) (l0 : List Int) : Option (Bool) := (laws_big.f l0).bind fun t129 => (if t129 = true then (some true) else ((laws_at.f l0 0).bind fun t130 => ((laws_at.f l0 1).bind fun t131 => (laws_FnApart.j0 k l0 (Int.tmod t130 10) (Int.tmod t131 10)))))
theorem laws_FnApart.mono_l : ∀ k, (∀ y0 y1 y2, LeO (laws_FnApart.j0 k y0 y1 y2) (laws_FnApart.j0 (k + 1) y0 y1 y2)) ∧ (∀ y0 y1 y2 y3 y4, LeO (laws_FnApart.j1 k y0 y1 y2 y3 y4) (laws_FnApart.j1 (k + 1) y0 y1 y2 y3 y4)) ∧ (∀ y0 y1 y2 y3 y4 y5 y6 y7 y8 y9 y10 y11 y12 y13, LeO (laws_FnApart.j2 k y0 y1 y2 y3 y4 y5 y6 y7 y8 y9 y10 y11 y12 y13) (laws_FnApart.j2 (k + 1) y0 y1 y2 y3 y4 y5 y6 y7 y8 y9 y10 y11 y12 y13)) ∧ (∀ y0 y1 y2 y3 y4 y5 y6 y7 y8 y9 y10 y11 y12 y13 y14 y15 y16 y17 y18 y19, LeO (laws_FnApart.j3 k y0 y1 y2 y3 y4 y5 y6 y7 y8 y9 y10 y11 y12 y13 y14 y15 y16 y17 y18 y19) (laws_FnApart.j3 (k + 1) y0 y1 y2 y3 y4 y5 y6 y7 y8 y9 y10 y11 y12 y13 y14 y15 y16 y17 y18 y19)) ∧ (∀ y0 y1 y2 y3 y4 y5 y6 y7 y8 y9 y10 y11 y12 y13 y14 y15 y16 y17 y18 y19 y20 y21 y22, LeO (laws_FnApart.j4 k y0 y1 y2 y3 y4 y5 y6 y7 y8 y9 y10 y11 y12 y13 y14 y15 y16 y17 y18 y19 y20 y21 y22) (laws_FnApart.j4 (k + 1) y0 y1 y2 y3 y4 y5 y6 y7 y8 y9 y10 y11 y12 y13 y14 y15 y16 y17 y18 y19 y20 y21 y22))
  | 0 => ⟨fun _ _ _ r h => by simp [laws_FnApart.j0] at h, fun _ _ _ _ _ r h => by simp [laws_FnApart.j1] at h, fun _ _ _ _ _ _ _ _ _ _ _ _ _ _ r h => by simp [laws_FnApart.j2] at h, fun _ _ _ _ _ _ _ _ _ _ _ _ _ _ _ _ _ _ _ _ r h => by simp [laws_FnApart.j3] at h, fun _ _ _ _ _ _ _ _ _ _ _ _ _ _ _ _ _ _ _ _ _ _ _ r h => by simp [laws_FnApart.j4] at h⟩
  | k + 1 => by
    obtain ⟨ih0, ih1, ih2, ih3, ih4⟩ := laws_FnApart.mono_l k
    refine ⟨?_, ?_, ?_, ?_, ?_⟩
    · intro y0 y1 y2
      unfold laws_FnApart.j0
      repeat' first
      | (with_reducible exact ih0 _ _ _)
      | (with_reducible exact ih1 _ _ _ _ _)
      | (with_reducible exact ih2 _ _ _ _ _ _ _ _ _ _ _ _ _ _)
      | (with_reducible exact ih3 _ _ _ _ _ _ _ _ _ _ _ _ _ _ _ _ _ _ _ _)
      | (with_reducible exact ih4 _ _ _ _ _ _ _ _ _ _ _ _ _ _ _ _ _ _ _ _ _ _ _)
      | (with_reducible exact impl_Apart.mono _ _ _)
      | (with_reducible exact impl_BoxOk.mono _ _ _ _ _ _ _)
      | (with_reducible exact impl_KeepsApart.mono _ _ _ _ _ _ _ _ _ _ _ _ _ _ _ _ _ _ _)
      | (with_reducible exact LeO.refl _)
      | (with_reducible exact LeO.none _)
      | (with_reducible refine LeO.ite ?_ ?_)
      | (with_reducible refine LeO.bind ?_ (fun _ => ?_))
      | exact ih0 _ _ _
      | exact ih1 _ _ _ _ _
      | exact ih2 _ _ _ _ _ _ _ _ _ _ _ _ _ _
      | exact ih3 _ _ _ _ _ _ _ _ _ _ _ _ _ _ _ _ _ _ _ _
      | exact ih4 _ _ _ _ _ _ _ _ _ _ _ _ _ _ _ _ _ _ _ _ _ _ _
      | exact impl_Apart.mono _ _ _
      | exact impl_BoxOk.mono _ _ _ _ _ _ _
      | exact impl_KeepsApart.mono _ _ _ _ _ _ _ _ _ _ _ _ _ _ _ _ _ _ _
      | exact LeO.none _
      | refine LeO.ite ?_ ?_
      | refine LeO.bind ?_ (fun _ => ?_)
    · intro y0 y1 y2 y3 y4
      unfold laws_FnApart.j1
      repeat' first
      | (with_reducible exact ih0 _ _ _)
      | (with_reducible exact ih1 _ _ _ _ _)
      | (with_reducible exact ih2 _ _ _ _ _ _ _ _ _ _ _ _ _ _)
      | (with_reducible exact ih3 _ _ _ _ _ _ _ _ _ _ _ _ _ _ _ _ _ _ _ _)
      | (with_reducible exact ih4 _ _ _ _ _ _ _ _ _ _ _ _ _ _ _ _ _ _ _ _ _ _ _)
      | (with_reducible exact impl_Apart.mono _ _ _)
      | (with_reducible exact impl_BoxOk.mono _ _ _ _ _ _ _)
      | (with_reducible exact impl_KeepsApart.mono _ _ _ _ _ _ _ _ _ _ _ _ _ _ _ _ _ _ _)
      | (with_reducible exact LeO.refl _)
      | (with_reducible exact LeO.none _)
      | (with_reducible refine LeO.ite ?_ ?_)
      | (with_reducible refine LeO.bind ?_ (fun _ => ?_))
      | exact ih0 _ _ _
      | exact ih1 _ _ _ _ _
      | exact ih2 _ _ _ _ _ _ _ _ _ _ _ _ _ _
      | exact ih3 _ _ _ _ _ _ _ _ _ _ _ _ _ _ _ _ _ _ _ _
      | exact ih4 _ _ _ _ _ _ _ _ _ _ _ _ _ _ _ _ _ _ _ _ _ _ _
      | exact impl_Apart.mono _ _ _
      | exact impl_BoxOk.mono _ _ _ _ _ _ _
      | exact impl_KeepsApart.mono _ _ _ _ _ _ _ _ _ _ _ _ _ _ _ _ _ _ _
      | exact LeO.none _
      | refine LeO.ite ?_ ?_
      | refine LeO.bind ?_ (fun _ => ?_)
    · intro y0 y1 y2 y3 y4 y5 y6 y7 y8 y9 y10 y11 y12 y13
      unfold laws_FnApart.j2
      repeat' first
      | (with_reducible exact ih0 _ _ _)
      | (with_reducible exact ih1 _ _ _ _ _)
      | (with_reducible exact ih2 _ _ _ _ _ _ _ _ _ _ _ _ _ _)
      | (with_reducible exact ih3 _ _ _ _ _ _ _ _ _ _ _ _ _ _ _ _ _ _ _ _)
      | (with_reducible exact ih4 _ _ _ _ _ _ _ _ _ _ _ _ _ _ _ _ _ _ _ _ _ _ _)
      | (with_reducible exact impl_Apart.mono _ _ _)
      | (with_reducible exact impl_BoxOk.mono _ _ _ _ _ _ _)
      | (with_reducible exact impl_KeepsApart.mono _ _ _ _ _ _ _ _ _ _ _ _ _ _ _ _ _ _ _)
      | (with_reducible exact LeO.refl _)
      | (with_reducible exact LeO.none _)
      | (with_reducible refine LeO.ite ?_ ?_)
      | (with_reducible refine LeO.bind ?_ (fun _ => ?_))
      | exact ih0 _ _ _
      | exact ih1 _ _ _ _ _
      | exact ih2 _ _ _ _ _ _ _ _ _ _ _ _ _ _
      | exact ih3 _ _ _ _ _ _ _ _ _ _ _ _ _ _ _ _ _ _ _ _
      | exact ih4 _ _ _ _ _ _ _ _ _ _ _ _ _ _ _ _ _ _ _ _ _ _ _
      | exact impl_Apart.mono _ _ _
      | exact impl_BoxOk.mono _ _ _ _ _ _ _
      | exact impl_KeepsApart.mono _ _ _ _ _ _ _ _ _ _ _ _ _ _ _ _ _ _ _
      | exact LeO.none _
      | refine LeO.ite ?_ ?_
      | refine LeO.bind ?_ (fun _ => ?_)
    · intro y0 y1 y2 y3 y4 y5 y6 y7 y8 y9 y10 y11 y12 y13 y14 y15 y16 y17 y18 y19
      unfold laws_FnApart.j3
      repeat' first
      | (with_reducible exact ih0 _ _ _)
      | (with_reducible exact ih1 _ _ _ _ _)
      | (with_reducible exact ih2 _ _ _ _ _ _ _ _ _ _ _ _ _ _)
      | (with_reducible exact ih3 _ _ _ _ _ _ _ _ _ _ _ _ _ _ _ _ _ _ _ _)
      | (with_reducible exact ih4 _ _ _ _ _ _ _ _ _ _ _ _ _ _ _ _ _ _ _ _ _ _ _)
      | (with_reducible exact impl_Apart.mono _ _ _)
      | (with_reducible exact impl_BoxOk.mono _ _ _ _ _ _ _)
      | (with_reducible exact impl_KeepsApart.mono _ _ _ _ _ _ _ _ _ _ _ _ _ _ _ _ _ _ _)
      | (with_reducible exact LeO.refl _)
      | (with_reducible exact LeO.none _)
      | (with_reducible refine LeO.ite ?_ ?_)
      | (with_reducible refine LeO.bind ?_ (fun _ => ?_))
      | exact ih0 _ _ _
      | exact ih1 _ _ _ _ _
      | exact ih2 _ _ _ _ _ _ _ _ _ _ _ _ _ _
      | exact ih3 _ _ _ _ _ _ _ _ _ _ _ _ _ _ _ _ _ _ _ _
      | exact ih4 _ _ _ _ _ _ _ _ _ _ _ _ _ _ _ _ _ _ _ _ _ _ _
      | exact impl_Apart.mono _ _ _
      | exact impl_BoxOk.mono _ _ _ _ _ _ _
      | exact impl_KeepsApart.mono _ _ _ _ _ _ _ _ _ _ _ _ _ _ _ _ _ _ _
      | exact LeO.none _
      | refine LeO.ite ?_ ?_
      | refine LeO.bind ?_ (fun _ => ?_)
    · intro y0 y1 y2 y3 y4 y5 y6 y7 y8 y9 y10 y11 y12 y13 y14 y15 y16 y17 y18 y19 y20 y21 y22
      unfold laws_FnApart.j4
      repeat' first
      | (with_reducible exact ih0 _ _ _)
      | (with_reducible exact ih1 _ _ _ _ _)
      | (with_reducible exact ih2 _ _ _ _ _ _ _ _ _ _ _ _ _ _)
      | (with_reducible exact ih3 _ _ _ _ _ _ _ _ _ _ _ _ _ _ _ _ _ _ _ _)
      | (with_reducible exact ih4 _ _ _ _ _ _ _ _ _ _ _ _ _ _ _ _ _ _ _ _ _ _ _)
      | (with_reducible exact impl_Apart.mono _ _ _)
      | (with_reducible exact impl_BoxOk.mono _ _ _ _ _ _ _)
      | (with_reducible exact impl_KeepsApart.mono _ _ _ _ _ _ _ _ _ _ _ _ _ _ _ _ _ _ _)
      | (with_reducible exact LeO.refl _)
      | (with_reducible exact LeO.none _)
      | (with_reducible refine LeO.ite ?_ ?_)
      | (with_reducible refine LeO.bind ?_ (fun _ => ?_))
      | exact ih0 _ _ _
      | exact ih1 _ _ _ _ _
      | exact ih2 _ _ _ _ _ _ _ _ _ _ _ _ _ _
      | exact ih3 _ _ _ _ _ _ _ _ _ _ _ _ _ _ _ _ _ _ _ _
      | exact ih4 _ _ _ _ _ _ _ _ _ _ _ _ _ _ _ _ _ _ _ _ _ _ _
      | exact impl_Apart.mono _ _ _
      | exact impl_BoxOk.mono _ _ _ _ _ _ _
      | exact impl_KeepsApart.mono _ _ _ _ _ _ _ _ _ _ _ _ _ _ _ _ _ _ _
      | exact LeO.none _
      | refine LeO.ite ?_ ?_
      | refine LeO.bind ?_ (fun _ => ?_)
theorem laws_FnApart.mono : ∀ a0 k, LeO (laws_FnApart.f k a0) (laws_FnApart.f (k + 1) a0) := by
  intro a0 k
  obtain ⟨ih0, ih1, ih2, ih3, ih4⟩ := laws_FnApart.mono_l k
  unfold laws_FnApart.f
  repeat' first
      | (with_reducible exact ih0 _ _ _)
      | (with_reducible exact ih1 _ _ _ _ _)
      | (with_reducible exact ih2 _ _ _ _ _ _ _ _ _ _ _ _ _ _)
      | (with_reducible exact ih3 _ _ _ _ _ _ _ _ _ _ _ _ _ _ _ _ _ _ _ _)
      | (with_reducible exact ih4 _ _ _ _ _ _ _ _ _ _ _ _ _ _ _ _ _ _ _ _ _ _ _)
      | (with_reducible exact impl_Apart.mono _ _ _)
      | (with_reducible exact impl_BoxOk.mono _ _ _ _ _ _ _)
      | (with_reducible exact impl_KeepsApart.mono _ _ _ _ _ _ _ _ _ _ _ _ _ _ _ _ _ _ _)
      | (with_reducible exact LeO.refl _)
      | (with_reducible exact LeO.none _)
      | (with_reducible refine LeO.ite ?_ ?_)
      | (with_reducible refine LeO.bind ?_ (fun _ => ?_))
      | exact ih0 _ _ _
      | exact ih1 _ _ _ _ _
      | exact ih2 _ _ _ _ _ _ _ _ _ _ _ _ _ _
      | exact ih3 _ _ _ _ _ _ _ _ _ _ _ _ _ _ _ _ _ _ _ _
      | exact ih4 _ _ _ _ _ _ _ _ _ _ _ _ _ _ _ _ _ _ _ _ _ _ _
      | exact impl_Apart.mono _ _ _
      | exact impl_BoxOk.mono _ _ _ _ _ _ _
      | exact impl_KeepsApart.mono _ _ _ _ _ _ _ _ _ _ _ _ _ _ _ _ _ _ _
      | exact LeO.none _
      | refine LeO.ite ?_ ?_
      | refine LeO.bind ?_ (fun _ => ?_)
set_option maxHeartbeats 8000000 in
set_option maxRecDepth 100000 in
theorem laws_FnApart.calls (k : Nat) (A0 : Option Addr) (c0 : Nat) (l0 : List Int) (r : Bool) (w : World) (hr0 : Kd.C (Kd.int .u8) w A0 l0.length l0) (hc0 : l0.length ≤ c0) (h : laws_FnApart.f k l0 = some r) :
    Calls Try.prog 4 #[.slice A0 l0.length c0] w fun e w' => e = .returned (.bool r) ∧ Below w.heap.size w w' := by
  have hu29 := Try.underlying29
  have hu31 := Try.underlying31
  have HR0 := Aside0.mk hr0
  have HC0 := Aside0.mk hc0
  clear hr0 hc0
  have HB := Aside0.mk (Below.refl w.heap.size w)
  have H : ((laws_big.f l0).bind fun t129 => (if t129 = true then (some true) else ((laws_at.f l0 0).bind fun t130 => ((laws_at.f l0 1).bind fun t131 => (laws_FnApart.j0 k l0 (Int.tmod t130 10) (Int.tmod t131 10)))))) = some r := h
  clear h
  replace H := Option.bind_eq_some_iff.mp H
  obtain ⟨t129, A20, H⟩ := H
  replace H : (if t129 = true then (some true) else ((laws_at.f l0 0).bind fun t130 => ((laws_at.f l0 1).bind fun t131 => (laws_FnApart.j0 k l0 (Int.tmod t130 10) (Int.tmod t131 10))))) = some r := H
  have A2 := Aside0.mk A20
  clear A20
  by_cases c3 : t129 = true
  · subst c3
    have H1 : (some true) = some r := by rw [if_pos rfl] at H; exact H
    clear H
    have H := H1
    clear H1
    obtain rfl := Option.some.inj H
    go_enter Try.func4, Try.ntmps4
    go_wp2_with (first | ((with_reducible refine gate_callee (f := 9) rfl ?_); refine goesL_ (some 13) rfl rfl Try.func9 (by kernel_rfl) rfl #[.slice A0 l0.length c0] rfl (by (try simp only [List.map_toArray, List.map_cons, List.map_nil]); first | done | rfl | (simp only [List.length_drop, List.length_take]; rfl)) ?_; (with_reducible refine (laws_big.calls _ _ l0 true _ ?side1 ?side2 A2.out).mono ?_); (case side1 => repeat (first | exact HR0.out | (with_reducible refine Kd.C_alloc ?_ _) | (with_reducible refine Kd.C_drewN ?_ _) | (with_reducible refine Kd.C_drew ?_))); (case side2 => exact HC0.out); rintro e w' ⟨rfl, ⟨nd, rfl⟩⟩; refine ⟨_, rfl, ?_⟩))
    go_ret
    exact ⟨by first | rfl | (simp [errW_none, errW_some] <;> rfl) | (simp [*, errW_none, errW_some] <;> rfl), by repeat (first | (with_reducible first | exact HB.out | apply below_alloc | apply pw_below_drewN | apply below_drew1) | exact HB.out)⟩
  · replace c3 := Bool.eq_false_iff.mpr c3
    subst c3
    have H1 : ((laws_at.f l0 0).bind fun t130 => ((laws_at.f l0 1).bind fun t131 => (laws_FnApart.j0 k l0 (Int.tmod t130 10) (Int.tmod t131 10)))) = some r := by rw [if_neg (show ¬ (false = true) by decide)] at H; exact H
    clear H
    have H := H1
    clear H1
    have HC4 := Aside0.mk H
    clear H
    go_enter Try.func4, Try.ntmps4
    go_upto_region 3 with (first | ((with_reducible refine gate_callee (f := 9) rfl ?_); refine goesL_ (some 13) rfl rfl Try.func9 (by kernel_rfl) rfl #[.slice A0 l0.length c0] rfl (by (try simp only [List.map_toArray, List.map_cons, List.map_nil]); first | done | rfl | (simp only [List.length_drop, List.length_take]; rfl)) ?_; (with_reducible refine (laws_big.calls _ _ l0 false _ ?side1 ?side2 A2.out).mono ?_); (case side1 => repeat (first | exact HR0.out | (with_reducible refine Kd.C_alloc ?_ _) | (with_reducible refine Kd.C_drewN ?_ _) | (with_reducible refine Kd.C_drew ?_))); (case side2 => exact HC0.out); rintro e w' ⟨rfl, ⟨nd, rfl⟩⟩; refine ⟨_, rfl, ?_⟩))
    (try simp only [Act.put, List.setIfInBounds_toArray, List.set_cons_zero, List.set_cons_succ])
    go_cut [3, 4] (fun v3 v4 wc => ∃ (kq : Nat) (x3_3 : Int) (x4_3 : Int), v3 = .int .i64 x3_3 ∧ v4 = .int .i64 x4_3 ∧ Aside0 (laws_FnApart.j0 kq l0 x3_3 x4_3 = some r) ∧ Aside0 (kq ≤ k) ∧ Aside0 (Below w.heap.size w wc))
    case first =>
      have H := HC4.out
      clear HC4
      replace H := Option.bind_eq_some_iff.mp H
      obtain ⟨t130, A50, H⟩ := H
      replace H : ((laws_at.f l0 1).bind fun t131 => (laws_FnApart.j0 k l0 (Int.tmod t130 10) (Int.tmod t131 10))) = some r := H
      have A5 := Aside0.mk A50
      clear A50
      replace H := Option.bind_eq_some_iff.mp H
      obtain ⟨t131, A60, H⟩ := H
      replace H : (laws_FnApart.j0 k l0 (Int.tmod t130 10) (Int.tmod t131 10)) = some r := H
      have A6 := Aside0.mk A60
      clear A60
      have H' := Aside0.mk H
      clear H
      go_wp2_with (first | ((with_reducible refine gate_callee (f := 10) rfl ?_); refine goesL_ (some 15) rfl rfl Try.func10 (by kernel_rfl) rfl #[.slice A0 l0.length c0, .int .i64 0] rfl (by (try simp only [List.map_toArray, List.map_cons, List.map_nil]); first | done | rfl | (simp only [List.length_drop, List.length_take]; rfl)) ?_; (with_reducible refine (laws_at.calls _ _ l0 0 t130 _ ?side1 ?side2 A5.out).mono ?_); (case side1 => repeat (first | exact (Kd.C_below HR0.out (by repeat (first | (with_reducible first | exact HB.out | apply below_alloc | apply pw_below_drewN | apply below_drew1) | exact HB.out))) | (with_reducible refine Kd.C_alloc ?_ _) | (with_reducible refine Kd.C_drewN ?_ _) | (with_reducible refine Kd.C_drew ?_))); (case side2 => exact HC0.out); rintro e w' ⟨rfl, ⟨nd, rfl⟩⟩; refine ⟨_, rfl, ?_⟩) | ((with_reducible refine gate_callee (f := 10) rfl ?_); refine goesL_ (some 18) rfl rfl Try.func10 (by kernel_rfl) rfl #[.slice A0 l0.length c0, .int .i64 1] rfl (by (try simp only [List.map_toArray, List.map_cons, List.map_nil]); first | done | rfl | (simp only [List.length_drop, List.length_take]; rfl)) ?_; (with_reducible refine (laws_at.calls _ _ l0 1 t131 _ ?side1 ?side2 A6.out).mono ?_); (case side1 => repeat (first | exact (Kd.C_below HR0.out (by repeat (first | (with_reducible first | exact HB.out | apply below_alloc | apply pw_below_drewN | apply below_drew1) | exact HB.out))) | (with_reducible refine Kd.C_alloc ?_ _) | (with_reducible refine Kd.C_drewN ?_ _) | (with_reducible refine Kd.C_drew ?_))); (case side2 => exact HC0.out); rintro e w' ⟨rfl, ⟨nd, rfl⟩⟩; refine ⟨_, rfl, ?_⟩))
      go_meet
      case rel => exact ⟨_, (Int.tmod t130 10), (Int.tmod t131 10), (by first | rfl | (simp; done) | (simp [*]; done) | (simp [wrap64]; done)), (by first | rfl | (simp; done) | (simp [*]; done) | (simp [wrap64]; done)), H', ⟨by first | omega | exact Nat.le_refl _⟩, ⟨by repeat (first | (with_reducible first | exact HB.out | apply below_alloc | apply pw_below_drewN | apply below_drew1) | exact HB.out)⟩⟩
    case rest =>
      clear HC4
      try clear c1
      try clear p2
      try clear c3
      try clear c4
      try clear p6
      obtain ⟨kq, x3_3, x4_3, rfl, rfl, HA, HJ3, HB⟩ := hcut
      cases kq with
      | zero => exact absurd HA.out (by simp [laws_FnApart.j0])
      | succ kj3 =>
        have H := HA.out
        clear HA
        simp only [laws_FnApart.j0] at H
        replace H := Option.bind_eq_some_iff.mp H
        obtain ⟨t132, A70, H⟩ := H
        replace H : ((impl_Apart.f kj3 x4_3 x3_3).bind fun t133 => (if t132 = t133 then ((impl_Apart.f kj3 x3_3 x3_3).bind fun t134 => (if t134 = 0 then (if t132 < 0 then (laws_FnApart.j1 kj3 l0 x3_3 x4_3 t132 true) else (if t132 > 3 then (laws_FnApart.j1 kj3 l0 x3_3 x4_3 t132 true) else ((impl_Apart.f kj3 x3_3 10).bind fun t135 => (laws_FnApart.j1 kj3 l0 x3_3 x4_3 t132 (t135 != (-1)))))) else (laws_FnApart.j1 kj3 l0 x3_3 x4_3 t132 true))) else (laws_FnApart.j1 kj3 l0 x3_3 x4_3 t132 true))) = some r := H
        have A7 := Aside0.mk A70
        clear A70
        have HC8 := Aside0.mk H
        clear H
        go_upto_region 5 with (first | ((with_reducible refine gate_callee (f := 14) rfl ?_); refine goesL_ (some 22) rfl rfl Try.func14 (by kernel_rfl) rfl #[.int .i64 x3_3, .int .i64 x4_3] rfl (by (try simp only [List.map_toArray, List.map_cons, List.map_nil]); first | done | rfl | (simp only [List.length_drop, List.length_take]; rfl)) ?_; (with_reducible refine (impl_Apart.calls kj3 x3_3 x4_3 t132 _ A7.out).mono ?_); rintro e w9 ⟨rfl, hb⟩; refine ⟨_, rfl, ?_⟩; have n0_ := Aside0.mk (below_step (by repeat (first | (with_reducible first | exact HB.out | apply below_alloc | apply pw_below_drewN | apply below_drew1) | exact HB.out)) hb); clear HB; have HB := n0_; clear n0_; (try clear hb); (try clear hb2); (try clear hk); (try clear hi)))
        (try simp only [Act.put, List.setIfInBounds_toArray, List.set_cons_zero, List.set_cons_succ])
        go_cut [46] (fun v46 wc => ∃ (kq : Nat) (x46_7 : Bool), v46 = .bool x46_7 ∧ Aside0 (laws_FnApart.j1 kq l0 x3_3 x4_3 t132 x46_7 = some r) ∧ Aside0 (kq ≤ kj3) ∧ Aside0 (Below w.heap.size w wc))
        case first =>
          have H := HC8.out
          clear HC8
          replace H := Option.bind_eq_some_iff.mp H
          obtain ⟨t133, A100, H⟩ := H
          replace H : (if t132 = t133 then ((impl_Apart.f kj3 x3_3 x3_3).bind fun t134 => (if t134 = 0 then (if t132 < 0 then (laws_FnApart.j1 kj3 l0 x3_3 x4_3 t132 true) else (if t132 > 3 then (laws_FnApart.j1 kj3 l0 x3_3 x4_3 t132 true) else ((impl_Apart.f kj3 x3_3 10).bind fun t135 => (laws_FnApart.j1 kj3 l0 x3_3 x4_3 t132 (t135 != (-1)))))) else (laws_FnApart.j1 kj3 l0 x3_3 x4_3 t132 true))) else (laws_FnApart.j1 kj3 l0 x3_3 x4_3 t132 true)) = some r := H
          have A10 := Aside0.mk A100
          clear A100
          by_cases c11 : t132 = t133
          · rw [if_pos c11] at H
            have c11b0 : (t132 == t133) = true := beq_iff_eq.mpr c11
            have c11b1 : (t132 != t133) = false := bne_eq_false_iff_eq.mpr c11
            clear c11
            (first | rw [c11b0] | (simp only [i64_w, i32_w]; rw [c11b0]) | skip)
            replace H := Option.bind_eq_some_iff.mp H
            obtain ⟨t134, A120, H⟩ := H
            replace H : (if t134 = 0 then (if t132 < 0 then (laws_FnApart.j1 kj3 l0 x3_3 x4_3 t132 true) else (if t132 > 3 then (laws_FnApart.j1 kj3 l0 x3_3 x4_3 t132 true) else ((impl_Apart.f kj3 x3_3 10).bind fun t135 => (laws_FnApart.j1 kj3 l0 x3_3 x4_3 t132 (t135 != (-1)))))) else (laws_FnApart.j1 kj3 l0 x3_3 x4_3 t132 true)) = some r := H
            have A12 := Aside0.mk A120
            clear A120
            by_cases c13 : t134 = 0
            · rw [if_pos c13] at H
              have c13b0 : (t134 == 0) = true := beq_iff_eq.mpr c13
              have c13b1 : (t134 != 0) = false := bne_eq_false_iff_eq.mpr c13
              clear c13
              by_cases c14 : t132 < 0
              · rw [if_pos c14] at H
                have c14b0 : decide (t132 < 0) = true := decide_eq_true c14
                clear c14
                have H' := Aside0.mk H
                clear H
                go_wp2_with (first | ((with_reducible refine gate_callee (f := 14) rfl ?_); refine goesL_ (some 26) rfl rfl Try.func14 (by kernel_rfl) rfl #[.int .i64 x4_3, .int .i64 x3_3] rfl (by (try simp only [List.map_toArray, List.map_cons, List.map_nil]); first | done | rfl | (simp only [List.length_drop, List.length_take]; rfl)) ?_; (with_reducible refine (impl_Apart.calls kj3 x4_3 x3_3 t133 _ A10.out).mono ?_); rintro e w15 ⟨rfl, hb⟩; refine ⟨_, rfl, ?_⟩; have n0_ := Aside0.mk (below_step (by repeat (first | (with_reducible first | exact HB.out | apply below_alloc | apply pw_below_drewN | apply below_drew1) | exact HB.out)) hb); clear HB; have HB := n0_; clear n0_; (try clear hb); (try clear hb2); (try clear hk); (try clear hi)) | (go_at_call 14; (with_reducible refine (impl_Apart.calls kj3 x3_3 x3_3 t134 _ A12.out).mono ?_); rintro e w16 ⟨rfl, hb⟩; have n0_ := Aside0.mk (below_step (by repeat (first | (with_reducible first | exact HB.out | apply below_alloc | apply pw_below_drewN | apply below_drew1) | exact HB.out)) hb); clear HB; have HB := n0_; clear n0_; (try clear hb); (try clear hb2); (try clear hk); (try clear hi)))
                go_meet
                case rel => exact ⟨_, (true), (by first | rfl | (simp; done) | (simp [*]; done) | (simp [wrap64]; done)), H', ⟨by have := HJ3.out; first | omega | exact Nat.le_refl _⟩, ⟨by repeat (first | (with_reducible first | exact HB.out | apply below_alloc | apply pw_below_drewN | apply below_drew1) | exact HB.out)⟩⟩
              · rw [if_neg c14] at H
                have c14b0 : decide (t132 < 0) = false := decide_eq_false c14
                clear c14
                by_cases c17 : t132 > 3
                · rw [if_pos c17] at H
                  have c17b0 : decide (3 < t132) = true := decide_eq_true c17
                  clear c17
                  have H' := Aside0.mk H
                  clear H
                  go_wp2_with (first | ((with_reducible refine gate_callee (f := 14) rfl ?_); refine goesL_ (some 26) rfl rfl Try.func14 (by kernel_rfl) rfl #[.int .i64 x4_3, .int .i64 x3_3] rfl (by (try simp only [List.map_toArray, List.map_cons, List.map_nil]); first | done | rfl | (simp only [List.length_drop, List.length_take]; rfl)) ?_; (with_reducible refine (impl_Apart.calls kj3 x4_3 x3_3 t133 _ A10.out).mono ?_); rintro e w18 ⟨rfl, hb⟩; refine ⟨_, rfl, ?_⟩; have n0_ := Aside0.mk (below_step (by repeat (first | (with_reducible first | exact HB.out | apply below_alloc | apply pw_below_drewN | apply below_drew1) | exact HB.out)) hb); clear HB; have HB := n0_; clear n0_; (try clear hb); (try clear hb2); (try clear hk); (try clear hi)) | (go_at_call 14; (with_reducible refine (impl_Apart.calls kj3 x3_3 x3_3 t134 _ A12.out).mono ?_); rintro e w19 ⟨rfl, hb⟩; have n0_ := Aside0.mk (below_step (by repeat (first | (with_reducible first | exact HB.out | apply below_alloc | apply pw_below_drewN | apply below_drew1) | exact HB.out)) hb); clear HB; have HB := n0_; clear n0_; (try clear hb); (try clear hb2); (try clear hk); (try clear hi)))
                  go_meet
                  case rel => exact ⟨_, (true), (by first | rfl | (simp; done) | (simp [*]; done) | (simp [wrap64]; done)), H', ⟨by have := HJ3.out; first | omega | exact Nat.le_refl _⟩, ⟨by repeat (first | (with_reducible first | exact HB.out | apply below_alloc | apply pw_below_drewN | apply below_drew1) | exact HB.out)⟩⟩
                · rw [if_neg c17] at H
                  have c17b0 : decide (3 < t132) = false := decide_eq_false c17
                  clear c17
                  replace H := Option.bind_eq_some_iff.mp H
                  obtain ⟨t135, A200, H⟩ := H
                  replace H : (laws_FnApart.j1 kj3 l0 x3_3 x4_3 t132 (t135 != (-1))) = some r := H
                  have A20 := Aside0.mk A200
                  clear A200
                  have H' := Aside0.mk H
                  clear H
                  go_wp2_with (first | ((with_reducible refine gate_callee (f := 14) rfl ?_); refine goesL_ (some 26) rfl rfl Try.func14 (by kernel_rfl) rfl #[.int .i64 x4_3, .int .i64 x3_3] rfl (by (try simp only [List.map_toArray, List.map_cons, List.map_nil]); first | done | rfl | (simp only [List.length_drop, List.length_take]; rfl)) ?_; (with_reducible refine (impl_Apart.calls kj3 x4_3 x3_3 t133 _ A10.out).mono ?_); rintro e w21 ⟨rfl, hb⟩; refine ⟨_, rfl, ?_⟩; have n0_ := Aside0.mk (below_step (by repeat (first | (with_reducible first | exact HB.out | apply below_alloc | apply pw_below_drewN | apply below_drew1) | exact HB.out)) hb); clear HB; have HB := n0_; clear n0_; (try clear hb); (try clear hb2); (try clear hk); (try clear hi)) | (go_at_call 14; (with_reducible refine (impl_Apart.calls kj3 x3_3 x3_3 t134 _ A12.out).mono ?_); rintro e w22 ⟨rfl, hb⟩; have n0_ := Aside0.mk (below_step (by repeat (first | (with_reducible first | exact HB.out | apply below_alloc | apply pw_below_drewN | apply below_drew1) | exact HB.out)) hb); clear HB; have HB := n0_; clear n0_; (try clear hb); (try clear hb2); (try clear hk); (try clear hi)) | (go_at_call 14; (with_reducible refine (impl_Apart.calls kj3 x3_3 10 t135 _ A20.out).mono ?_); rintro e w23 ⟨rfl, hb⟩; have n0_ := Aside0.mk (below_step (by repeat (first | (with_reducible first | exact HB.out | apply below_alloc | apply pw_below_drewN | apply below_drew1) | exact HB.out)) hb); clear HB; have HB := n0_; clear n0_; (try clear hb); (try clear hb2); (try clear hk); (try clear hi)))
                  go_meet
                  case rel => exact ⟨_, ((t135 != (-1))), (by first | rfl | (simp; done) | (simp [*]; done) | (simp [wrap64]; done)), H', ⟨by have := HJ3.out; first | omega | exact Nat.le_refl _⟩, ⟨by repeat (first | (with_reducible first | exact HB.out | apply below_alloc | apply pw_below_drewN | apply below_drew1) | exact HB.out)⟩⟩
            · rw [if_neg c13] at H
              have c13b0 : (t134 == 0) = false := beq_eq_false_iff_ne.mpr c13
              have c13b1 : (t134 != 0) = true := bne_iff_ne.mpr c13
              have H' := Aside0.mk H
              clear H
              go_wp2_with (first | ((with_reducible refine gate_callee (f := 14) rfl ?_); refine goesL_ (some 26) rfl rfl Try.func14 (by kernel_rfl) rfl #[.int .i64 x4_3, .int .i64 x3_3] rfl (by (try simp only [List.map_toArray, List.map_cons, List.map_nil]); first | done | rfl | (simp only [List.length_drop, List.length_take]; rfl)) ?_; (with_reducible refine (impl_Apart.calls kj3 x4_3 x3_3 t133 _ A10.out).mono ?_); rintro e w24 ⟨rfl, hb⟩; refine ⟨_, rfl, ?_⟩; have n0_ := Aside0.mk (below_step (by repeat (first | (with_reducible first | exact HB.out | apply below_alloc | apply pw_below_drewN | apply below_drew1) | exact HB.out)) hb); clear HB; have HB := n0_; clear n0_; (try clear hb); (try clear hb2); (try clear hk); (try clear hi)) | (go_at_call 14; (with_reducible refine (impl_Apart.calls kj3 x3_3 x3_3 t134 _ A12.out).mono ?_); rintro e w25 ⟨rfl, hb⟩; have n0_ := Aside0.mk (below_step (by repeat (first | (with_reducible first | exact HB.out | apply below_alloc | apply pw_below_drewN | apply below_drew1) | exact HB.out)) hb); clear HB; have HB := n0_; clear n0_; (try clear hb); (try clear hb2); (try clear hk); (try clear hi)))
              go_meet
              case rel => exact ⟨_, (true), (by first | rfl | (simp; done) | (simp [*]; done) | (simp [wrap64]; done)), H', ⟨by have := HJ3.out; first | omega | exact Nat.le_refl _⟩, ⟨by repeat (first | (with_reducible first | exact HB.out | apply below_alloc | apply pw_below_drewN | apply below_drew1) | exact HB.out)⟩⟩
          · rw [if_neg c11] at H
            have c11b0 : (t132 == t133) = false := beq_eq_false_iff_ne.mpr c11
            have c11b1 : (t132 != t133) = true := bne_iff_ne.mpr c11
            (first | rw [c11b0] | (simp only [i64_w, i32_w]; rw [c11b0]) | skip)
            have H' := Aside0.mk H
            clear H
            go_wp2_with (first | ((with_reducible refine gate_callee (f := 14) rfl ?_); refine goesL_ (some 26) rfl rfl Try.func14 (by kernel_rfl) rfl #[.int .i64 x4_3, .int .i64 x3_3] rfl (by (try simp only [List.map_toArray, List.map_cons, List.map_nil]); first | done | rfl | (simp only [List.length_drop, List.length_take]; rfl)) ?_; (with_reducible refine (impl_Apart.calls kj3 x4_3 x3_3 t133 _ A10.out).mono ?_); rintro e w26 ⟨rfl, hb⟩; refine ⟨_, rfl, ?_⟩; have n0_ := Aside0.mk (below_step (by repeat (first | (with_reducible first | exact HB.out | apply below_alloc | apply pw_below_drewN | apply below_drew1) | exact HB.out)) hb); clear HB; have HB := n0_; clear n0_; (try clear hb); (try clear hb2); (try clear hk); (try clear hi)))
            go_meet
            case rel => exact ⟨_, (true), (by first | rfl | (simp; done) | (simp [*]; done) | (simp [wrap64]; done)), H', ⟨by have := HJ3.out; first | omega | exact Nat.le_refl _⟩, ⟨by repeat (first | (with_reducible first | exact HB.out | apply below_alloc | apply pw_below_drewN | apply below_drew1) | exact HB.out)⟩⟩
        case rest =>
          clear HC8
          try clear c1
          try clear p2
          try clear c3
          try clear c4
          try clear p6
          try clear c9
          try clear c10
          try clear c11
          try clear c11b0
          try clear c11b1
          try clear c13
          try clear c13b0
          try clear c13b1
          try clear c14
          try clear c14b0
          try clear c17
          try clear c17b0
          try clear p2
          try clear p6
          obtain ⟨kq, x46_7, rfl, HA, HJ7, HB⟩ := hcut
          cases kq with
          | zero => exact absurd HA.out (by simp [laws_FnApart.j1])
          | succ kj7 =>
            have H := HA.out
            clear HA
            simp only [laws_FnApart.j1] at H
            by_cases c27 : x46_7 = true
            · subst c27
              have H1 : (some false) = some r := by rw [if_pos rfl] at H; exact H
              clear H
              have H := H1
              clear H1
              obtain rfl := Option.some.inj H
              go_wp2
              go_ret
              exact ⟨by first | rfl | (simp [errW_none, errW_some] <;> rfl) | (simp [*, errW_none, errW_some] <;> rfl), by repeat (first | (with_reducible first | exact HB.out | apply below_alloc | apply pw_below_drewN | apply below_drew1) | exact HB.out)⟩
            · replace c27 := Bool.eq_false_iff.mpr c27
              subst c27
              have H1 : (laws_FnApart.j2 kj7 l0 t132 (⟨#[67, 83, 81, 85, 51, 48, 53, 52, 51, 56, 51]⟩ : ByteArray) 5 x3_3 false 0 3 (⟨#[67, 83, 81, 85, 51, 48, 53, 52, 51, 56, 51]⟩ : ByteArray) 5 x4_3 false 0 3) = some r := by rw [if_neg (show ¬ (false = true) by decide)] at H; exact H
              clear H
              have H := H1
              clear H1
              have HC28 := Aside0.mk H
              clear H
              go_upto_region 9 with (first | ((with_reducible refine gate_dst (N := 6) rfl ?_); refine box_event ?hg (N := 6) ?hd (cs := #[.string (⟨#[]⟩ : ByteArray), .int .i64 0, .int .i64 0, .bool false, .int .i64 0, .int .i64 0]) (t := 29) ?hr ?_; (case hd => rfl); (case hg => rfl); (case hr => first | (go_simp; done) | (go_simp; rfl)); intro gb136 hg w29 hbox hb; have n0_ := Aside0.mk (below_step (by repeat (first | (with_reducible first | exact HB.out | apply below_alloc | apply pw_below_drewN | apply below_drew1) | exact HB.out)) hb); have n1_ := Aside0.mk (hbox); have n2_ := Aside0.mk ((by rw [hg]; exact (below_size (by repeat (first | (with_reducible first | exact HB.out | apply below_alloc | apply pw_below_drewN | apply below_drew1) | exact HB.out))) : w.heap.size ≤ gb136)); have n3_ := Aside0.mk ((by rw [hg]; exact (below_size (by repeat (first | (with_reducible first | exact HB.out | apply below_alloc | apply pw_below_drewN | apply below_drew1) | exact HB.out))) : w.heap.size ≤ gb136)); clear HB; have HB := n0_; have BK136 := n1_; have GW136 := n2_; have GE136 := n3_; clear n0_ n1_ n2_ n3_; clear hb hbox hg; have hcz30_0 : w29.cell? ⟨gb136, 0, none⟩ = some (.string (⟨#[]⟩ : ByteArray)) := (blk_cell BK136.out 0).trans rfl; have hcz30_1 : w29.cell? ⟨gb136, 1, none⟩ = some (.int .i64 0) := (blk_cell BK136.out 1).trans rfl; have hcz30_2 : w29.cell? ⟨gb136, 2, none⟩ = some (.int .i64 0) := (blk_cell BK136.out 2).trans rfl; have hcz30_3 : w29.cell? ⟨gb136, 3, none⟩ = some (.bool false) := (blk_cell BK136.out 3).trans rfl; have hcz30_4 : w29.cell? ⟨gb136, 4, none⟩ = some (.int .i64 0) := (blk_cell BK136.out 4).trans rfl; have hcz30_5 : w29.cell? ⟨gb136, 5, none⟩ = some (.int .i64 0) := (blk_cell BK136.out 5).trans rfl; have hfz30_0 := blk_frozen BK136.out 0; have hfz30_1 := blk_frozen BK136.out 1; have hfz30_2 := blk_frozen BK136.out 2; have hfz30_3 := blk_frozen BK136.out 3; have hfz30_4 := blk_frozen BK136.out 4; have hfz30_5 := blk_frozen BK136.out 5) | ((with_reducible refine gate_dst (N := 7) rfl ?_); refine box_event ?hg (N := 7) ?hd (cs := #[.string (⟨#[]⟩ : ByteArray), .int .i64 0, .int .i64 0, .bool false, .int .i64 0, .int .i64 0]) (t := 29) ?hr ?_; (case hd => rfl); (case hg => rfl); (case hr => first | (go_simp; done) | (go_simp; rfl)); intro gb137 hg w31 hbox hb; have n0_ := Aside0.mk (blk_below (g := gb136) (o := .cells #[.string (⟨#[67, 83, 81, 85, 51, 48, 53, 52, 51, 56, 51]⟩ : ByteArray), .int .i64 5, .int .i64 x3_3, .bool false, .int .i64 0, .int .i64 3] 29 (0, 0)) (by (with_reducible repeat (first | refine blk_drewN ?_ _ | refine blk_drew ?_ | refine blk_alloc ?_ _)); refine blk_put (cs := #[.string (⟨#[67, 83, 81, 85, 51, 48, 53, 52, 51, 56, 51]⟩ : ByteArray), .int .i64 5, .int .i64 x3_3, .bool false, .int .i64 0, .int .i64 0]) ?_ 5 _ rfl; (with_reducible repeat (first | refine blk_drewN ?_ _ | refine blk_drew ?_ | refine blk_alloc ?_ _)); refine blk_put (cs := #[.string (⟨#[67, 83, 81, 85, 51, 48, 53, 52, 51, 56, 51]⟩ : ByteArray), .int .i64 5, .int .i64 x3_3, .bool false, .int .i64 0, .int .i64 0]) ?_ 4 _ rfl; (with_reducible repeat (first | refine blk_drewN ?_ _ | refine blk_drew ?_ | refine blk_alloc ?_ _)); refine blk_put (cs := #[.string (⟨#[67, 83, 81, 85, 51, 48, 53, 52, 51, 56, 51]⟩ : ByteArray), .int .i64 5, .int .i64 x3_3, .bool false, .int .i64 0, .int .i64 0]) ?_ 3 _ rfl; (with_reducible repeat (first | refine blk_drewN ?_ _ | refine blk_drew ?_ | refine blk_alloc ?_ _)); refine blk_put (cs := #[.string (⟨#[67, 83, 81, 85, 51, 48, 53, 52, 51, 56, 51]⟩ : ByteArray), .int .i64 5, .int .i64 0, .bool false, .int .i64 0, .int .i64 0]) ?_ 2 _ rfl; (with_reducible repeat (first | refine blk_drewN ?_ _ | refine blk_drew ?_ | refine blk_alloc ?_ _)); refine blk_put (cs := #[.string (⟨#[67, 83, 81, 85, 51, 48, 53, 52, 51, 56, 51]⟩ : ByteArray), .int .i64 0, .int .i64 0, .bool false, .int .i64 0, .int .i64 0]) ?_ 1 _ rfl; (with_reducible repeat (first | refine blk_drewN ?_ _ | refine blk_drew ?_ | refine blk_alloc ?_ _)); refine blk_put (cs := #[.string (⟨#[]⟩ : ByteArray), .int .i64 0, .int .i64 0, .bool false, .int .i64 0, .int .i64 0]) ?_ 0 _ rfl; (with_reducible repeat (first | refine blk_drewN ?_ _ | refine blk_drew ?_ | refine blk_alloc ?_ _)); exact BK136.out) hb); have n1_ := Aside0.mk (below_step (by repeat (first | (with_reducible first | exact HB.out | apply below_alloc | apply pw_below_drewN | apply below_drew1 | refine below_set ?_ GE136.out) | exact HB.out)) hb); have n2_ := Aside0.mk (hbox); have n3_ := Aside0.mk ((by rw [hg]; exact (below_size (by repeat (first | (with_reducible first | exact HB.out | apply below_alloc | apply pw_below_drewN | apply below_drew1 | refine below_set ?_ GE136.out) | exact HB.out))) : w.heap.size ≤ gb137)); have n4_ := Aside0.mk ((by rw [hg]; exact (below_size (by repeat (first | (with_reducible first | exact HB.out | apply below_alloc | apply pw_below_drewN | apply below_drew1 | refine below_set ?_ GE136.out) | exact HB.out))) : w.heap.size ≤ gb137)); have n5_ := Aside0.mk ((by rw [hg]; exact Nat.ne_of_lt (blk_lt (g := gb136) (o := .cells #[.string (⟨#[67, 83, 81, 85, 51, 48, 53, 52, 51, 56, 51]⟩ : ByteArray), .int .i64 5, .int .i64 x3_3, .bool false, .int .i64 0, .int .i64 3] 29 (0, 0)) (by (with_reducible repeat (first | refine blk_drewN ?_ _ | refine blk_drew ?_ | refine blk_alloc ?_ _)); refine blk_put (cs := #[.string (⟨#[67, 83, 81, 85, 51, 48, 53, 52, 51, 56, 51]⟩ : ByteArray), .int .i64 5, .int .i64 x3_3, .bool false, .int .i64 0, .int .i64 0]) ?_ 5 _ rfl; (with_reducible repeat (first | refine blk_drewN ?_ _ | refine blk_drew ?_ | refine blk_alloc ?_ _)); refine blk_put (cs := #[.string (⟨#[67, 83, 81, 85, 51, 48, 53, 52, 51, 56, 51]⟩ : ByteArray), .int .i64 5, .int .i64 x3_3, .bool false, .int .i64 0, .int .i64 0]) ?_ 4 _ rfl; (with_reducible repeat (first | refine blk_drewN ?_ _ | refine blk_drew ?_ | refine blk_alloc ?_ _)); refine blk_put (cs := #[.string (⟨#[67, 83, 81, 85, 51, 48, 53, 52, 51, 56, 51]⟩ : ByteArray), .int .i64 5, .int .i64 x3_3, .bool false, .int .i64 0, .int .i64 0]) ?_ 3 _ rfl; (with_reducible repeat (first | refine blk_drewN ?_ _ | refine blk_drew ?_ | refine blk_alloc ?_ _)); refine blk_put (cs := #[.string (⟨#[67, 83, 81, 85, 51, 48, 53, 52, 51, 56, 51]⟩ : ByteArray), .int .i64 5, .int .i64 0, .bool false, .int .i64 0, .int .i64 0]) ?_ 2 _ rfl; (with_reducible repeat (first | refine blk_drewN ?_ _ | refine blk_drew ?_ | refine blk_alloc ?_ _)); refine blk_put (cs := #[.string (⟨#[67, 83, 81, 85, 51, 48, 53, 52, 51, 56, 51]⟩ : ByteArray), .int .i64 0, .int .i64 0, .bool false, .int .i64 0, .int .i64 0]) ?_ 1 _ rfl; (with_reducible repeat (first | refine blk_drewN ?_ _ | refine blk_drew ?_ | refine blk_alloc ?_ _)); refine blk_put (cs := #[.string (⟨#[]⟩ : ByteArray), .int .i64 0, .int .i64 0, .bool false, .int .i64 0, .int .i64 0]) ?_ 0 _ rfl; (with_reducible repeat (first | refine blk_drewN ?_ _ | refine blk_drew ?_ | refine blk_alloc ?_ _)); exact BK136.out)) : gb136 ≠ gb137)); have n6_ := Aside0.mk ((by rw [hg]; exact Nat.ne_of_gt (blk_lt (g := gb136) (o := .cells #[.string (⟨#[67, 83, 81, 85, 51, 48, 53, 52, 51, 56, 51]⟩ : ByteArray), .int .i64 5, .int .i64 x3_3, .bool false, .int .i64 0, .int .i64 3] 29 (0, 0)) (by (with_reducible repeat (first | refine blk_drewN ?_ _ | refine blk_drew ?_ | refine blk_alloc ?_ _)); refine blk_put (cs := #[.string (⟨#[67, 83, 81, 85, 51, 48, 53, 52, 51, 56, 51]⟩ : ByteArray), .int .i64 5, .int .i64 x3_3, .bool false, .int .i64 0, .int .i64 0]) ?_ 5 _ rfl; (with_reducible repeat (first | refine blk_drewN ?_ _ | refine blk_drew ?_ | refine blk_alloc ?_ _)); refine blk_put (cs := #[.string (⟨#[67, 83, 81, 85, 51, 48, 53, 52, 51, 56, 51]⟩ : ByteArray), .int .i64 5, .int .i64 x3_3, .bool false, .int .i64 0, .int .i64 0]) ?_ 4 _ rfl; (with_reducible repeat (first | refine blk_drewN ?_ _ | refine blk_drew ?_ | refine blk_alloc ?_ _)); refine blk_put (cs := #[.string (⟨#[67, 83, 81, 85, 51, 48, 53, 52, 51, 56, 51]⟩ : ByteArray), .int .i64 5, .int .i64 x3_3, .bool false, .int .i64 0, .int .i64 0]) ?_ 3 _ rfl; (with_reducible repeat (first | refine blk_drewN ?_ _ | refine blk_drew ?_ | refine blk_alloc ?_ _)); refine blk_put (cs := #[.string (⟨#[67, 83, 81, 85, 51, 48, 53, 52, 51, 56, 51]⟩ : ByteArray), .int .i64 5, .int .i64 0, .bool false, .int .i64 0, .int .i64 0]) ?_ 2 _ rfl; (with_reducible repeat (first | refine blk_drewN ?_ _ | refine blk_drew ?_ | refine blk_alloc ?_ _)); refine blk_put (cs := #[.string (⟨#[67, 83, 81, 85, 51, 48, 53, 52, 51, 56, 51]⟩ : ByteArray), .int .i64 0, .int .i64 0, .bool false, .int .i64 0, .int .i64 0]) ?_ 1 _ rfl; (with_reducible repeat (first | refine blk_drewN ?_ _ | refine blk_drew ?_ | refine blk_alloc ?_ _)); refine blk_put (cs := #[.string (⟨#[]⟩ : ByteArray), .int .i64 0, .int .i64 0, .bool false, .int .i64 0, .int .i64 0]) ?_ 0 _ rfl; (with_reducible repeat (first | refine blk_drewN ?_ _ | refine blk_drew ?_ | refine blk_alloc ?_ _)); exact BK136.out)) : gb137 ≠ gb136)); clear BK136; clear HB; have BK136 := n0_; have HB := n1_; have BK137 := n2_; have GW137 := n3_; have GE137 := n4_; have NB136_137 := n5_; have NB137_136 := n6_; clear n0_ n1_ n2_ n3_ n4_ n5_ n6_; clear hb hbox hg; have hnb32 := NB137_136.out; have hnc32 := NB136_137.out; have hcz33_0 : w31.cell? ⟨gb137, 0, none⟩ = some (.string (⟨#[]⟩ : ByteArray)) := (blk_cell BK137.out 0).trans rfl; have hcz33_1 : w31.cell? ⟨gb137, 1, none⟩ = some (.int .i64 0) := (blk_cell BK137.out 1).trans rfl; have hcz33_2 : w31.cell? ⟨gb137, 2, none⟩ = some (.int .i64 0) := (blk_cell BK137.out 2).trans rfl; have hcz33_3 : w31.cell? ⟨gb137, 3, none⟩ = some (.bool false) := (blk_cell BK137.out 3).trans rfl; have hcz33_4 : w31.cell? ⟨gb137, 4, none⟩ = some (.int .i64 0) := (blk_cell BK137.out 4).trans rfl; have hcz33_5 : w31.cell? ⟨gb137, 5, none⟩ = some (.int .i64 0) := (blk_cell BK137.out 5).trans rfl; have hfz33_0 := blk_frozen BK137.out 0; have hfz33_1 := blk_frozen BK137.out 1; have hfz33_2 := blk_frozen BK137.out 2; have hfz33_3 := blk_frozen BK137.out 3; have hfz33_4 := blk_frozen BK137.out 4; have hfz33_5 := blk_frozen BK137.out 5))
              (try simp only [Act.put, List.setIfInBounds_toArray, List.set_cons_zero, List.set_cons_succ])
              go_cut [] (fun wc => ∃ (kq : Nat) (x138002_27 : Int), Aside0 (laws_FnApart.j2 kq l0 t132 (⟨#[67, 83, 81, 85, 51, 48, 53, 52, 51, 56, 51]⟩ : ByteArray) 5 x3_3 false 0 3 (⟨#[67, 83, 81, 85, 51, 48, 53, 52, 51, 56, 51]⟩ : ByteArray) 5 x138002_27 false 0 3 = some r) ∧ Aside0 (kq ≤ kj7) ∧ Aside0 (wc.heap[gb136]? = some (.cells #[.string (⟨#[67, 83, 81, 85, 51, 48, 53, 52, 51, 56, 51]⟩ : ByteArray), .int .i64 5, .int .i64 x3_3, .bool false, .int .i64 0, .int .i64 3] 29 (0, 0))) ∧ Aside0 (wc.heap[gb137]? = some (.cells #[.string (⟨#[67, 83, 81, 85, 51, 48, 53, 52, 51, 56, 51]⟩ : ByteArray), .int .i64 5, .int .i64 x138002_27, .bool false, .int .i64 0, .int .i64 3] 29 (0, 0))) ∧ Aside0 (Below w.heap.size w wc))
              case first =>
                have H := HC28.out
                clear HC28
                have H' := Aside0.mk H
                clear H
                have hnb34 := NB137_136.out
                have hnc34 := NB136_137.out
                have hcz35_0 : w31.cell? ⟨gb137, 0, none⟩ = some (.string (⟨#[]⟩ : ByteArray)) := (blk_cell BK137.out 0).trans rfl
                have hcz35_1 : w31.cell? ⟨gb137, 1, none⟩ = some (.int .i64 0) := (blk_cell BK137.out 1).trans rfl
                have hcz35_2 : w31.cell? ⟨gb137, 2, none⟩ = some (.int .i64 0) := (blk_cell BK137.out 2).trans rfl
                have hcz35_3 : w31.cell? ⟨gb137, 3, none⟩ = some (.bool false) := (blk_cell BK137.out 3).trans rfl
                have hcz35_4 : w31.cell? ⟨gb137, 4, none⟩ = some (.int .i64 0) := (blk_cell BK137.out 4).trans rfl
                have hcz35_5 : w31.cell? ⟨gb137, 5, none⟩ = some (.int .i64 0) := (blk_cell BK137.out 5).trans rfl
                have hfz35_0 := blk_frozen BK137.out 0
                have hfz35_1 := blk_frozen BK137.out 1
                have hfz35_2 := blk_frozen BK137.out 2
                have hfz35_3 := blk_frozen BK137.out 3
                have hfz35_4 := blk_frozen BK137.out 4
                have hfz35_5 := blk_frozen BK137.out 5
                go_wp2
                go_meet
                case rel => exact ⟨_, (x4_3), H', ⟨by have := HJ3.out; have := HJ7.out; first | omega | exact Nat.le_refl _⟩, ⟨by (with_reducible repeat (first | refine blk_drewN ?_ _ | refine blk_drew ?_ | refine blk_alloc ?_ _)); refine blk_far ?_ NB136_137.out _; (with_reducible repeat (first | refine blk_drewN ?_ _ | refine blk_drew ?_ | refine blk_alloc ?_ _)); refine blk_far ?_ NB136_137.out _; (with_reducible repeat (first | refine blk_drewN ?_ _ | refine blk_drew ?_ | refine blk_alloc ?_ _)); refine blk_far ?_ NB136_137.out _; (with_reducible repeat (first | refine blk_drewN ?_ _ | refine blk_drew ?_ | refine blk_alloc ?_ _)); refine blk_far ?_ NB136_137.out _; (with_reducible repeat (first | refine blk_drewN ?_ _ | refine blk_drew ?_ | refine blk_alloc ?_ _)); refine blk_far ?_ NB136_137.out _; (with_reducible repeat (first | refine blk_drewN ?_ _ | refine blk_drew ?_ | refine blk_alloc ?_ _)); refine blk_far ?_ NB136_137.out _; (with_reducible repeat (first | refine blk_drewN ?_ _ | refine blk_drew ?_ | refine blk_alloc ?_ _)); refine blk_far ?_ NB136_137.out _; (with_reducible repeat (first | refine blk_drewN ?_ _ | refine blk_drew ?_ | refine blk_alloc ?_ _)); exact BK136.out⟩, ⟨by (with_reducible repeat (first | refine blk_drewN ?_ _ | refine blk_drew ?_ | refine blk_alloc ?_ _)); refine blk_put (cs := #[.string (⟨#[67, 83, 81, 85, 51, 48, 53, 52, 51, 56, 51]⟩ : ByteArray), .int .i64 5, .int .i64 x3_3, .bool false, .int .i64 0, .int .i64 3]) ?_ 2 _ rfl; (with_reducible repeat (first | refine blk_drewN ?_ _ | refine blk_drew ?_ | refine blk_alloc ?_ _)); refine blk_put (cs := #[.string (⟨#[67, 83, 81, 85, 51, 48, 53, 52, 51, 56, 51]⟩ : ByteArray), .int .i64 5, .int .i64 x3_3, .bool false, .int .i64 0, .int .i64 0]) ?_ 5 _ rfl; (with_reducible repeat (first | refine blk_drewN ?_ _ | refine blk_drew ?_ | refine blk_alloc ?_ _)); refine blk_put (cs := #[.string (⟨#[67, 83, 81, 85, 51, 48, 53, 52, 51, 56, 51]⟩ : ByteArray), .int .i64 5, .int .i64 x3_3, .bool false, .int .i64 0, .int .i64 0]) ?_ 4 _ rfl; (with_reducible repeat (first | refine blk_drewN ?_ _ | refine blk_drew ?_ | refine blk_alloc ?_ _)); refine blk_put (cs := #[.string (⟨#[67, 83, 81, 85, 51, 48, 53, 52, 51, 56, 51]⟩ : ByteArray), .int .i64 5, .int .i64 x3_3, .bool false, .int .i64 0, .int .i64 0]) ?_ 3 _ rfl; (with_reducible repeat (first | refine blk_drewN ?_ _ | refine blk_drew ?_ | refine blk_alloc ?_ _)); refine blk_put (cs := #[.string (⟨#[67, 83, 81, 85, 51, 48, 53, 52, 51, 56, 51]⟩ : ByteArray), .int .i64 5, .int .i64 0, .bool false, .int .i64 0, .int .i64 0]) ?_ 2 _ rfl; (with_reducible repeat (first | refine blk_drewN ?_ _ | refine blk_drew ?_ | refine blk_alloc ?_ _)); refine blk_put (cs := #[.string (⟨#[67, 83, 81, 85, 51, 48, 53, 52, 51, 56, 51]⟩ : ByteArray), .int .i64 0, .int .i64 0, .bool false, .int .i64 0, .int .i64 0]) ?_ 1 _ rfl; (with_reducible repeat (first | refine blk_drewN ?_ _ | refine blk_drew ?_ | refine blk_alloc ?_ _)); refine blk_put (cs := #[.string (⟨#[]⟩ : ByteArray), .int .i64 0, .int .i64 0, .bool false, .int .i64 0, .int .i64 0]) ?_ 0 _ rfl; (with_reducible repeat (first | refine blk_drewN ?_ _ | refine blk_drew ?_ | refine blk_alloc ?_ _)); exact BK137.out⟩, ⟨by repeat (first | (with_reducible first | exact HB.out | apply below_alloc | apply pw_below_drewN | apply below_drew1 | refine below_set ?_ GE136.out | refine below_set ?_ GE137.out) | exact HB.out)⟩⟩
              case rest =>
                clear HC28
                try clear c1
                try clear c2
                try clear p2
                try clear c3
                try clear c4
                try clear p6
                try clear c9
                try clear c10
                try clear c11
                try clear c11b0
                try clear c11b1
                try clear c13
                try clear c13b0
                try clear c13b1
                try clear c14
                try clear c14b0
                try clear c17
                try clear c17b0
                try clear c27
                try clear c32
                try clear c34
                try clear hcz30_0
                try clear hcz30_1
                try clear hcz30_2
                try clear hcz30_3
                try clear hcz30_4
                try clear hcz30_5
                try clear hcz33_0
                try clear hcz33_1
                try clear hcz33_2
                try clear hcz33_3
                try clear hcz33_4
                try clear hcz33_5
                try clear hcz35_0
                try clear hcz35_1
                try clear hcz35_2
                try clear hcz35_3
                try clear hcz35_4
                try clear hcz35_5
                try clear hfz30_0
                try clear hfz30_1
                try clear hfz30_2
                try clear hfz30_3
                try clear hfz30_4
                try clear hfz30_5
                try clear hfz33_0
                try clear hfz33_1
                try clear hfz33_2
                try clear hfz33_3
                try clear hfz33_4
                try clear hfz33_5
                try clear hfz35_0
                try clear hfz35_1
                try clear hfz35_2
                try clear hfz35_3
                try clear hfz35_4
                try clear hfz35_5
                try clear p2
                try clear p6
                obtain ⟨kq, x138002_27, HA, HJ27, BK136, BK137, HB⟩ := hcut
                cases kq with
                | zero => exact absurd HA.out (by simp [laws_FnApart.j2])
                | succ kj27 =>
                  have H := HA.out
                  clear HA
                  simp only [laws_FnApart.j2] at H
                  replace H := Option.bind_eq_some_iff.mp H
                  obtain ⟨t138, A360, H⟩ := H
                  replace H : ((laws_at.f l0 3).bind fun t139 => ((laws_at.f l0 4).bind fun t140 => ((laws_at.f l0 5).bind fun t142 => ((laws_at.f l0 6).bind fun t143 => ((laws_at.f l0 7).bind fun t144 => ((impl_KeepsApart.f kj27 (⟨#[67, 83, 81, 85, 51, 48, 53, 52, 51, 56, 51]⟩ : ByteArray) 5 x3_3 false 0 3 (Int.tmod t138 4) (Int.tmod t139 3) (Int.tmod t140 3) (⟨#[67, 83, 81, 85, 51, 48, 53, 52, 51, 56, 51]⟩ : ByteArray) 5 x138002_27 false 0 3 (Int.tmod t142 4) (Int.tmod t143 3) (Int.tmod t144 3)).bind fun t146 => (laws_FnApart.j3 kj27 t132 t146 (⟨#[67, 83, 81, 85, 51, 48, 53, 52, 51, 56, 51]⟩ : ByteArray) 5 x3_3 false 0 3 (⟨#[67, 83, 81, 85, 51, 48, 53, 52, 51, 56, 51]⟩ : ByteArray) 5 x138002_27 false 0 3 (Int.tmod t138 4) (Int.tmod t139 3) (Int.tmod t140 3) (Int.tmod t142 4) (Int.tmod t143 3) (Int.tmod t144 3)))))))) = some r := H
                  have A36 := Aside0.mk A360
                  clear A360
                  replace H := Option.bind_eq_some_iff.mp H
                  obtain ⟨t139, A370, H⟩ := H
                  replace H : ((laws_at.f l0 4).bind fun t140 => ((laws_at.f l0 5).bind fun t142 => ((laws_at.f l0 6).bind fun t143 => ((laws_at.f l0 7).bind fun t144 => ((impl_KeepsApart.f kj27 (⟨#[67, 83, 81, 85, 51, 48, 53, 52, 51, 56, 51]⟩ : ByteArray) 5 x3_3 false 0 3 (Int.tmod t138 4) (Int.tmod t139 3) (Int.tmod t140 3) (⟨#[67, 83, 81, 85, 51, 48, 53, 52, 51, 56, 51]⟩ : ByteArray) 5 x138002_27 false 0 3 (Int.tmod t142 4) (Int.tmod t143 3) (Int.tmod t144 3)).bind fun t146 => (laws_FnApart.j3 kj27 t132 t146 (⟨#[67, 83, 81, 85, 51, 48, 53, 52, 51, 56, 51]⟩ : ByteArray) 5 x3_3 false 0 3 (⟨#[67, 83, 81, 85, 51, 48, 53, 52, 51, 56, 51]⟩ : ByteArray) 5 x138002_27 false 0 3 (Int.tmod t138 4) (Int.tmod t139 3) (Int.tmod t140 3) (Int.tmod t142 4) (Int.tmod t143 3) (Int.tmod t144 3))))))) = some r := H
                  have A37 := Aside0.mk A370
                  clear A370
                  replace H := Option.bind_eq_some_iff.mp H
                  obtain ⟨t140, A380, H⟩ := H
                  replace H : ((laws_at.f l0 5).bind fun t142 => ((laws_at.f l0 6).bind fun t143 => ((laws_at.f l0 7).bind fun t144 => ((impl_KeepsApart.f kj27 (⟨#[67, 83, 81, 85, 51, 48, 53, 52, 51, 56, 51]⟩ : ByteArray) 5 x3_3 false 0 3 (Int.tmod t138 4) (Int.tmod t139 3) (Int.tmod t140 3) (⟨#[67, 83, 81, 85, 51, 48, 53, 52, 51, 56, 51]⟩ : ByteArray) 5 x138002_27 false 0 3 (Int.tmod t142 4) (Int.tmod t143 3) (Int.tmod t144 3)).bind fun t146 => (laws_FnApart.j3 kj27 t132 t146 (⟨#[67, 83, 81, 85, 51, 48, 53, 52, 51, 56, 51]⟩ : ByteArray) 5 x3_3 false 0 3 (⟨#[67, 83, 81, 85, 51, 48, 53, 52, 51, 56, 51]⟩ : ByteArray) 5 x138002_27 false 0 3 (Int.tmod t138 4) (Int.tmod t139 3) (Int.tmod t140 3) (Int.tmod t142 4) (Int.tmod t143 3) (Int.tmod t144 3)))))) = some r := H
                  have A38 := Aside0.mk A380
                  clear A380
                  replace H := Option.bind_eq_some_iff.mp H
                  obtain ⟨t142, A390, H⟩ := H
                  replace H : ((laws_at.f l0 6).bind fun t143 => ((laws_at.f l0 7).bind fun t144 => ((impl_KeepsApart.f kj27 (⟨#[67, 83, 81, 85, 51, 48, 53, 52, 51, 56, 51]⟩ : ByteArray) 5 x3_3 false 0 3 (Int.tmod t138 4) (Int.tmod t139 3) (Int.tmod t140 3) (⟨#[67, 83, 81, 85, 51, 48, 53, 52, 51, 56, 51]⟩ : ByteArray) 5 x138002_27 false 0 3 (Int.tmod t142 4) (Int.tmod t143 3) (Int.tmod t144 3)).bind fun t146 => (laws_FnApart.j3 kj27 t132 t146 (⟨#[67, 83, 81, 85, 51, 48, 53, 52, 51, 56, 51]⟩ : ByteArray) 5 x3_3 false 0 3 (⟨#[67, 83, 81, 85, 51, 48, 53, 52, 51, 56, 51]⟩ : ByteArray) 5 x138002_27 false 0 3 (Int.tmod t138 4) (Int.tmod t139 3) (Int.tmod t140 3) (Int.tmod t142 4) (Int.tmod t143 3) (Int.tmod t144 3))))) = some r := H
                  have A39 := Aside0.mk A390
                  clear A390
                  replace H := Option.bind_eq_some_iff.mp H
                  obtain ⟨t143, A400, H⟩ := H
                  replace H : ((laws_at.f l0 7).bind fun t144 => ((impl_KeepsApart.f kj27 (⟨#[67, 83, 81, 85, 51, 48, 53, 52, 51, 56, 51]⟩ : ByteArray) 5 x3_3 false 0 3 (Int.tmod t138 4) (Int.tmod t139 3) (Int.tmod t140 3) (⟨#[67, 83, 81, 85, 51, 48, 53, 52, 51, 56, 51]⟩ : ByteArray) 5 x138002_27 false 0 3 (Int.tmod t142 4) (Int.tmod t143 3) (Int.tmod t144 3)).bind fun t146 => (laws_FnApart.j3 kj27 t132 t146 (⟨#[67, 83, 81, 85, 51, 48, 53, 52, 51, 56, 51]⟩ : ByteArray) 5 x3_3 false 0 3 (⟨#[67, 83, 81, 85, 51, 48, 53, 52, 51, 56, 51]⟩ : ByteArray) 5 x138002_27 false 0 3 (Int.tmod t138 4) (Int.tmod t139 3) (Int.tmod t140 3) (Int.tmod t142 4) (Int.tmod t143 3) (Int.tmod t144 3)))) = some r := H
                  have A40 := Aside0.mk A400
                  clear A400
                  replace H := Option.bind_eq_some_iff.mp H
                  obtain ⟨t144, A410, H⟩ := H
                  replace H : ((impl_KeepsApart.f kj27 (⟨#[67, 83, 81, 85, 51, 48, 53, 52, 51, 56, 51]⟩ : ByteArray) 5 x3_3 false 0 3 (Int.tmod t138 4) (Int.tmod t139 3) (Int.tmod t140 3) (⟨#[67, 83, 81, 85, 51, 48, 53, 52, 51, 56, 51]⟩ : ByteArray) 5 x138002_27 false 0 3 (Int.tmod t142 4) (Int.tmod t143 3) (Int.tmod t144 3)).bind fun t146 => (laws_FnApart.j3 kj27 t132 t146 (⟨#[67, 83, 81, 85, 51, 48, 53, 52, 51, 56, 51]⟩ : ByteArray) 5 x3_3 false 0 3 (⟨#[67, 83, 81, 85, 51, 48, 53, 52, 51, 56, 51]⟩ : ByteArray) 5 x138002_27 false 0 3 (Int.tmod t138 4) (Int.tmod t139 3) (Int.tmod t140 3) (Int.tmod t142 4) (Int.tmod t143 3) (Int.tmod t144 3))) = some r := H
                  have A41 := Aside0.mk A410
                  clear A410
                  have HC42 := Aside0.mk H
                  clear H
                  go_upto_region 12 with (first | ((with_reducible refine gate_callee (f := 10) rfl ?_); refine goesL_ (some 53) rfl rfl Try.func10 (by kernel_rfl) rfl #[.slice A0 l0.length c0, .int .i64 2] rfl (by (try simp only [List.map_toArray, List.map_cons, List.map_nil]); first | done | rfl | (simp only [List.length_drop, List.length_take]; rfl)) ?_; (with_reducible refine (laws_at.calls _ _ l0 2 t138 _ ?side1 ?side2 A36.out).mono ?_); (case side1 => repeat (first | exact (Kd.C_below HR0.out HB.out) | (with_reducible refine Kd.C_alloc ?_ _) | (with_reducible refine Kd.C_drewN ?_ _) | (with_reducible refine Kd.C_drew ?_))); (case side2 => exact HC0.out); rintro e w' ⟨rfl, ⟨nd, rfl⟩⟩; refine ⟨_, rfl, ?_⟩; (try ((first | generalize hq_ : World.drewN wc _ = wc | (rw [drewN_self wc]; generalize hq_ : World.drewN wc _ = wc)); have n0_ : Aside0 (wc.heap[gb136]? = some (.cells #[.string (⟨#[67, 83, 81, 85, 51, 48, 53, 52, 51, 56, 51]⟩ : ByteArray), .int .i64 5, .int .i64 x3_3, .bool false, .int .i64 0, .int .i64 3] 29 (0, 0))) := ⟨by rw [← hq_]; exact (by (with_reducible repeat (first | refine blk_drewN ?_ _ | refine blk_drew ?_ | refine blk_alloc ?_ _)); exact BK136.out)⟩; have n1_ : Aside0 (wc.heap[gb137]? = some (.cells #[.string (⟨#[67, 83, 81, 85, 51, 48, 53, 52, 51, 56, 51]⟩ : ByteArray), .int .i64 5, .int .i64 x138002_27, .bool false, .int .i64 0, .int .i64 3] 29 (0, 0))) := ⟨by rw [← hq_]; exact (by (with_reducible repeat (first | refine blk_drewN ?_ _ | refine blk_drew ?_ | refine blk_alloc ?_ _)); exact BK137.out)⟩; have n2_ : Aside0 (Below w.heap.size w wc) := ⟨by rw [← hq_]; exact (by repeat (first | (with_reducible first | exact HB.out | apply below_alloc | apply pw_below_drewN | apply below_drew1 | refine below_set ?_ GE136.out | refine below_set ?_ GE137.out) | exact HB.out))⟩; clear BK136 BK137 HB hq_; have BK136 := n0_; have BK137 := n1_; have HB := n2_; clear n0_ n1_ n2_))) | ((with_reducible refine gate_callee (f := 10) rfl ?_); refine goesL_ (some 56) rfl rfl Try.func10 (by kernel_rfl) rfl #[.slice A0 l0.length c0, .int .i64 3] rfl (by (try simp only [List.map_toArray, List.map_cons, List.map_nil]); first | done | rfl | (simp only [List.length_drop, List.length_take]; rfl)) ?_; (with_reducible refine (laws_at.calls _ _ l0 3 t139 _ ?side1 ?side2 A37.out).mono ?_); (case side1 => repeat (first | exact (Kd.C_below HR0.out HB.out) | (with_reducible refine Kd.C_alloc ?_ _) | (with_reducible refine Kd.C_drewN ?_ _) | (with_reducible refine Kd.C_drew ?_))); (case side2 => exact HC0.out); rintro e w' ⟨rfl, ⟨nd, rfl⟩⟩; refine ⟨_, rfl, ?_⟩; (try ((first | generalize hq_ : World.drewN wc _ = wc | (rw [drewN_self wc]; generalize hq_ : World.drewN wc _ = wc)); have n0_ : Aside0 (wc.heap[gb136]? = some (.cells #[.string (⟨#[67, 83, 81, 85, 51, 48, 53, 52, 51, 56, 51]⟩ : ByteArray), .int .i64 5, .int .i64 x3_3, .bool false, .int .i64 0, .int .i64 3] 29 (0, 0))) := ⟨by rw [← hq_]; exact (by (with_reducible repeat (first | refine blk_drewN ?_ _ | refine blk_drew ?_ | refine blk_alloc ?_ _)); exact BK136.out)⟩; have n1_ : Aside0 (wc.heap[gb137]? = some (.cells #[.string (⟨#[67, 83, 81, 85, 51, 48, 53, 52, 51, 56, 51]⟩ : ByteArray), .int .i64 5, .int .i64 x138002_27, .bool false, .int .i64 0, .int .i64 3] 29 (0, 0))) := ⟨by rw [← hq_]; exact (by (with_reducible repeat (first | refine blk_drewN ?_ _ | refine blk_drew ?_ | refine blk_alloc ?_ _)); exact BK137.out)⟩; have n2_ : Aside0 (Below w.heap.size w wc) := ⟨by rw [← hq_]; exact (by repeat (first | (with_reducible first | exact HB.out | apply below_alloc | apply pw_below_drewN | apply below_drew1 | refine below_set ?_ GE136.out | refine below_set ?_ GE137.out) | exact HB.out))⟩; clear BK136 BK137 HB hq_; have BK136 := n0_; have BK137 := n1_; have HB := n2_; clear n0_ n1_ n2_))) | ((with_reducible refine gate_callee (f := 10) rfl ?_); refine goesL_ (some 59) rfl rfl Try.func10 (by kernel_rfl) rfl #[.slice A0 l0.length c0, .int .i64 4] rfl (by (try simp only [List.map_toArray, List.map_cons, List.map_nil]); first | done | rfl | (simp only [List.length_drop, List.length_take]; rfl)) ?_; (with_reducible refine (laws_at.calls _ _ l0 4 t140 _ ?side1 ?side2 A38.out).mono ?_); (case side1 => repeat (first | exact (Kd.C_below HR0.out HB.out) | (with_reducible refine Kd.C_alloc ?_ _) | (with_reducible refine Kd.C_drewN ?_ _) | (with_reducible refine Kd.C_drew ?_))); (case side2 => exact HC0.out); rintro e w' ⟨rfl, ⟨nd, rfl⟩⟩; refine ⟨_, rfl, ?_⟩; (try ((first | generalize hq_ : World.drewN wc _ = wc | (rw [drewN_self wc]; generalize hq_ : World.drewN wc _ = wc)); have n0_ : Aside0 (wc.heap[gb136]? = some (.cells #[.string (⟨#[67, 83, 81, 85, 51, 48, 53, 52, 51, 56, 51]⟩ : ByteArray), .int .i64 5, .int .i64 x3_3, .bool false, .int .i64 0, .int .i64 3] 29 (0, 0))) := ⟨by rw [← hq_]; exact (by (with_reducible repeat (first | refine blk_drewN ?_ _ | refine blk_drew ?_ | refine blk_alloc ?_ _)); exact BK136.out)⟩; have n1_ : Aside0 (wc.heap[gb137]? = some (.cells #[.string (⟨#[67, 83, 81, 85, 51, 48, 53, 52, 51, 56, 51]⟩ : ByteArray), .int .i64 5, .int .i64 x138002_27, .bool false, .int .i64 0, .int .i64 3] 29 (0, 0))) := ⟨by rw [← hq_]; exact (by (with_reducible repeat (first | refine blk_drewN ?_ _ | refine blk_drew ?_ | refine blk_alloc ?_ _)); exact BK137.out)⟩; have n2_ : Aside0 (Below w.heap.size w wc) := ⟨by rw [← hq_]; exact (by repeat (first | (with_reducible first | exact HB.out | apply below_alloc | apply pw_below_drewN | apply below_drew1 | refine below_set ?_ GE136.out | refine below_set ?_ GE137.out) | exact HB.out))⟩; clear BK136 BK137 HB hq_; have BK136 := n0_; have BK137 := n1_; have HB := n2_; clear n0_ n1_ n2_))) | ((with_reducible refine gate_dst (N := 8) rfl ?_); refine box_event ?hg (N := 8) ?hd (cs := #[.int .i64 0, .int .i64 0, .int .i64 0]) (t := 31) ?hr ?_; (case hd => rfl); (case hg => rfl); (case hr => first | (go_simp; done) | (go_simp; rfl)); intro gb141 hg w43 hbox hb; have n0_ := Aside0.mk (blk_below (g := gb136) (o := .cells #[.string (⟨#[67, 83, 81, 85, 51, 48, 53, 52, 51, 56, 51]⟩ : ByteArray), .int .i64 5, .int .i64 x3_3, .bool false, .int .i64 0, .int .i64 3] 29 (0, 0)) (by (with_reducible repeat (first | refine blk_drewN ?_ _ | refine blk_drew ?_ | refine blk_alloc ?_ _)); exact BK136.out) hb); have n1_ := Aside0.mk (blk_below (g := gb137) (o := .cells #[.string (⟨#[67, 83, 81, 85, 51, 48, 53, 52, 51, 56, 51]⟩ : ByteArray), .int .i64 5, .int .i64 x138002_27, .bool false, .int .i64 0, .int .i64 3] 29 (0, 0)) (by (with_reducible repeat (first | refine blk_drewN ?_ _ | refine blk_drew ?_ | refine blk_alloc ?_ _)); exact BK137.out) hb); have n2_ := Aside0.mk (below_step (by repeat (first | (with_reducible first | exact HB.out | apply below_alloc | apply pw_below_drewN | apply below_drew1 | refine below_set ?_ GE136.out | refine below_set ?_ GE137.out) | exact HB.out)) hb); have n3_ := Aside0.mk (hbox); have n4_ := Aside0.mk ((by rw [hg]; exact (below_size (by repeat (first | (with_reducible first | exact HB.out | apply below_alloc | apply pw_below_drewN | apply below_drew1 | refine below_set ?_ GE136.out | refine below_set ?_ GE137.out) | exact HB.out))) : w.heap.size ≤ gb141)); have n5_ := Aside0.mk ((by rw [hg]; exact (below_size (by repeat (first | (with_reducible first | exact HB.out | apply below_alloc | apply pw_below_drewN | apply below_drew1 | refine below_set ?_ GE136.out | refine below_set ?_ GE137.out) | exact HB.out))) : w.heap.size ≤ gb141)); have n6_ := Aside0.mk ((by rw [hg]; exact Nat.ne_of_lt (blk_lt (g := gb136) (o := .cells #[.string (⟨#[67, 83, 81, 85, 51, 48, 53, 52, 51, 56, 51]⟩ : ByteArray), .int .i64 5, .int .i64 x3_3, .bool false, .int .i64 0, .int .i64 3] 29 (0, 0)) (by (with_reducible repeat (first | refine blk_drewN ?_ _ | refine blk_drew ?_ | refine blk_alloc ?_ _)); exact BK136.out)) : gb136 ≠ gb141)); have n7_ := Aside0.mk ((by rw [hg]; exact Nat.ne_of_gt (blk_lt (g := gb136) (o := .cells #[.string (⟨#[67, 83, 81, 85, 51, 48, 53, 52, 51, 56, 51]⟩ : ByteArray), .int .i64 5, .int .i64 x3_3, .bool false, .int .i64 0, .int .i64 3] 29 (0, 0)) (by (with_reducible repeat (first | refine blk_drewN ?_ _ | refine blk_drew ?_ | refine blk_alloc ?_ _)); exact BK136.out)) : gb141 ≠ gb136)); have n8_ := Aside0.mk ((by rw [hg]; exact Nat.ne_of_lt (blk_lt (g := gb137) (o := .cells #[.string (⟨#[67, 83, 81, 85, 51, 48, 53, 52, 51, 56, 51]⟩ : ByteArray), .int .i64 5, .int .i64 x138002_27, .bool false, .int .i64 0, .int .i64 3] 29 (0, 0)) (by (with_reducible repeat (first | refine blk_drewN ?_ _ | refine blk_drew ?_ | refine blk_alloc ?_ _)); exact BK137.out)) : gb137 ≠ gb141)); have n9_ := Aside0.mk ((by rw [hg]; exact Nat.ne_of_gt (blk_lt (g := gb137) (o := .cells #[.string (⟨#[67, 83, 81, 85, 51, 48, 53, 52, 51, 56, 51]⟩ : ByteArray), .int .i64 5, .int .i64 x138002_27, .bool false, .int .i64 0, .int .i64 3] 29 (0, 0)) (by (with_reducible repeat (first | refine blk_drewN ?_ _ | refine blk_drew ?_ | refine blk_alloc ?_ _)); exact BK137.out)) : gb141 ≠ gb137)); clear BK136; clear BK137; clear HB; have BK136 := n0_; have BK137 := n1_; have HB := n2_; have BK141 := n3_; have GW141 := n4_; have GE141 := n5_; have NB136_141 := n6_; have NB141_136 := n7_; have NB137_141 := n8_; have NB141_137 := n9_; clear n0_ n1_ n2_ n3_ n4_ n5_ n6_ n7_ n8_ n9_; clear hb hbox hg; have hnb44 := NB141_136.out; have hnc44 := NB136_141.out; have hnb45 := NB141_137.out; have hnc45 := NB137_141.out; have hcz46_0 : w43.cell? ⟨gb141, 0, none⟩ = some (.int .i64 0) := (blk_cell BK141.out 0).trans rfl; have hcz46_1 : w43.cell? ⟨gb141, 1, none⟩ = some (.int .i64 0) := (blk_cell BK141.out 1).trans rfl; have hcz46_2 : w43.cell? ⟨gb141, 2, none⟩ = some (.int .i64 0) := (blk_cell BK141.out 2).trans rfl; have hfz46_0 := blk_frozen BK141.out 0; have hfz46_1 := blk_frozen BK141.out 1; have hfz46_2 := blk_frozen BK141.out 2) | ((with_reducible refine gate_callee (f := 10) rfl ?_); refine goesL_ (some 63) rfl rfl Try.func10 (by kernel_rfl) rfl #[.slice A0 l0.length c0, .int .i64 5] rfl (by (try simp only [List.map_toArray, List.map_cons, List.map_nil]); first | done | rfl | (simp only [List.length_drop, List.length_take]; rfl)) ?_; (with_reducible refine (laws_at.calls _ _ l0 5 t142 _ ?side1 ?side2 A39.out).mono ?_); (case side1 => exact Kd.C_below HR0.out (by repeat (first | (with_reducible first | exact HB.out | apply below_alloc | apply pw_below_drewN | apply below_drew1 | refine below_set ?_ GE136.out | refine below_set ?_ GE137.out | refine below_set ?_ GE141.out) | exact HB.out))); (case side2 => exact HC0.out); rintro e w' ⟨rfl, ⟨nd, rfl⟩⟩; refine ⟨_, rfl, ?_⟩) | ((with_reducible refine gate_callee (f := 10) rfl ?_); refine goesL_ (some 66) rfl rfl Try.func10 (by kernel_rfl) rfl #[.slice A0 l0.length c0, .int .i64 6] rfl (by (try simp only [List.map_toArray, List.map_cons, List.map_nil]); first | done | rfl | (simp only [List.length_drop, List.length_take]; rfl)) ?_; (with_reducible refine (laws_at.calls _ _ l0 6 t143 _ ?side1 ?side2 A40.out).mono ?_); (case side1 => exact Kd.C_below HR0.out (by repeat (first | (with_reducible first | exact HB.out | apply below_alloc | apply pw_below_drewN | apply below_drew1 | refine below_set ?_ GE136.out | refine below_set ?_ GE137.out | refine below_set ?_ GE141.out) | exact HB.out))); (case side2 => exact HC0.out); rintro e w' ⟨rfl, ⟨nd, rfl⟩⟩; refine ⟨_, rfl, ?_⟩) | ((with_reducible refine gate_callee (f := 10) rfl ?_); refine goesL_ (some 69) rfl rfl Try.func10 (by kernel_rfl) rfl #[.slice A0 l0.length c0, .int .i64 7] rfl (by (try simp only [List.map_toArray, List.map_cons, List.map_nil]); first | done | rfl | (simp only [List.length_drop, List.length_take]; rfl)) ?_; (with_reducible refine (laws_at.calls _ _ l0 7 t144 _ ?side1 ?side2 A41.out).mono ?_); (case side1 => exact Kd.C_below HR0.out (by repeat (first | (with_reducible first | exact HB.out | apply below_alloc | apply pw_below_drewN | apply below_drew1 | refine below_set ?_ GE136.out | refine below_set ?_ GE137.out | refine below_set ?_ GE141.out) | exact HB.out))); (case side2 => exact HC0.out); rintro e w' ⟨rfl, ⟨nd, rfl⟩⟩; refine ⟨_, rfl, ?_⟩) | ((with_reducible refine gate_dst (N := 9) rfl ?_); refine box_event ?hg (N := 9) ?hd (cs := #[.int .i64 0, .int .i64 0, .int .i64 0]) (t := 31) ?hr ?_; (case hd => rfl); (case hg => rfl); (case hr => first | (go_simp; done) | (go_simp; rfl)); intro gb145 hg w47 hbox hb; have n0_ := Aside0.mk (blk_below (g := gb136) (o := .cells #[.string (⟨#[67, 83, 81, 85, 51, 48, 53, 52, 51, 56, 51]⟩ : ByteArray), .int .i64 5, .int .i64 x3_3, .bool false, .int .i64 0, .int .i64 3] 29 (0, 0)) (by (with_reducible repeat (first | refine blk_drewN ?_ _ | refine blk_drew ?_ | refine blk_alloc ?_ _)); refine blk_far ?_ NB136_141.out _; (with_reducible repeat (first | refine blk_drewN ?_ _ | refine blk_drew ?_ | refine blk_alloc ?_ _)); refine blk_far ?_ NB136_141.out _; (with_reducible repeat (first | refine blk_drewN ?_ _ | refine blk_drew ?_ | refine blk_alloc ?_ _)); refine blk_far ?_ NB136_141.out _; (with_reducible repeat (first | refine blk_drewN ?_ _ | refine blk_drew ?_ | refine blk_alloc ?_ _)); exact BK136.out) hb); have n1_ := Aside0.mk (blk_below (g := gb137) (o := .cells #[.string (⟨#[67, 83, 81, 85, 51, 48, 53, 52, 51, 56, 51]⟩ : ByteArray), .int .i64 5, .int .i64 x138002_27, .bool false, .int .i64 0, .int .i64 3] 29 (0, 0)) (by (with_reducible repeat (first | refine blk_drewN ?_ _ | refine blk_drew ?_ | refine blk_alloc ?_ _)); refine blk_far ?_ NB137_141.out _; (with_reducible repeat (first | refine blk_drewN ?_ _ | refine blk_drew ?_ | refine blk_alloc ?_ _)); refine blk_far ?_ NB137_141.out _; (with_reducible repeat (first | refine blk_drewN ?_ _ | refine blk_drew ?_ | refine blk_alloc ?_ _)); refine blk_far ?_ NB137_141.out _; (with_reducible repeat (first | refine blk_drewN ?_ _ | refine blk_drew ?_ | refine blk_alloc ?_ _)); exact BK137.out) hb); have n2_ := Aside0.mk (blk_below (g := gb141) (o := .cells #[.int .i64 (Int.tmod t138 4), .int .i64 (Int.tmod t139 3), .int .i64 (Int.tmod t140 3)] 31 (0, 0)) (by (with_reducible repeat (first | refine blk_drewN ?_ _ | refine blk_drew ?_ | refine blk_alloc ?_ _)); refine blk_put (cs := #[.int .i64 (Int.tmod t138 4), .int .i64 (Int.tmod t139 3), .int .i64 0]) ?_ 2 _ rfl; (with_reducible repeat (first | refine blk_drewN ?_ _ | refine blk_drew ?_ | refine blk_alloc ?_ _)); refine blk_put (cs := #[.int .i64 (Int.tmod t138 4), .int .i64 0, .int .i64 0]) ?_ 1 _ rfl; (with_reducible repeat (first | refine blk_drewN ?_ _ | refine blk_drew ?_ | refine blk_alloc ?_ _)); refine blk_put (cs := #[.int .i64 0, .int .i64 0, .int .i64 0]) ?_ 0 _ rfl; (with_reducible repeat (first | refine blk_drewN ?_ _ | refine blk_drew ?_ | refine blk_alloc ?_ _)); exact BK141.out) hb); have n3_ := Aside0.mk (below_step (by repeat (first | (with_reducible first | exact HB.out | apply below_alloc | apply pw_below_drewN | apply below_drew1 | refine below_set ?_ GE136.out | refine below_set ?_ GE137.out | refine below_set ?_ GE141.out) | exact HB.out)) hb); have n4_ := Aside0.mk (hbox); have n5_ := Aside0.mk ((by rw [hg]; exact (below_size (by repeat (first | (with_reducible first | exact HB.out | apply below_alloc | apply pw_below_drewN | apply below_drew1 | refine below_set ?_ GE136.out | refine below_set ?_ GE137.out | refine below_set ?_ GE141.out) | exact HB.out))) : w.heap.size ≤ gb145)); have n6_ := Aside0.mk ((by rw [hg]; exact (below_size (by repeat (first | (with_reducible first | exact HB.out | apply below_alloc | apply pw_below_drewN | apply below_drew1 | refine below_set ?_ GE136.out | refine below_set ?_ GE137.out | refine below_set ?_ GE141.out) | exact HB.out))) : w.heap.size ≤ gb145)); have n7_ := Aside0.mk ((by rw [hg]; exact Nat.ne_of_lt (blk_lt (g := gb136) (o := .cells #[.string (⟨#[67, 83, 81, 85, 51, 48, 53, 52, 51, 56, 51]⟩ : ByteArray), .int .i64 5, .int .i64 x3_3, .bool false, .int .i64 0, .int .i64 3] 29 (0, 0)) (by (with_reducible repeat (first | refine blk_drewN ?_ _ | refine blk_drew ?_ | refine blk_alloc ?_ _)); refine blk_far ?_ NB136_141.out _; (with_reducible repeat (first | refine blk_drewN ?_ _ | refine blk_drew ?_ | refine blk_alloc ?_ _)); refine blk_far ?_ NB136_141.out _; (with_reducible repeat (first | refine blk_drewN ?_ _ | refine blk_drew ?_ | refine blk_alloc ?_ _)); refine blk_far ?_ NB136_141.out _; (with_reducible repeat (first | refine blk_drewN ?_ _ | refine blk_drew ?_ | refine blk_alloc ?_ _)); exact BK136.out)) : gb136 ≠ gb145)); have n8_ := Aside0.mk ((by rw [hg]; exact Nat.ne_of_gt (blk_lt (g := gb136) (o := .cells #[.string (⟨#[67, 83, 81, 85, 51, 48, 53, 52, 51, 56, 51]⟩ : ByteArray), .int .i64 5, .int .i64 x3_3, .bool false, .int .i64 0, .int .i64 3] 29 (0, 0)) (by (with_reducible repeat (first | refine blk_drewN ?_ _ | refine blk_drew ?_ | refine blk_alloc ?_ _)); refine blk_far ?_ NB136_141.out _; (with_reducible repeat (first | refine blk_drewN ?_ _ | refine blk_drew ?_ | refine blk_alloc ?_ _)); refine blk_far ?_ NB136_141.out _; (with_reducible repeat (first | refine blk_drewN ?_ _ | refine blk_drew ?_ | refine blk_alloc ?_ _)); refine blk_far ?_ NB136_141.out _; (with_reducible repeat (first | refine blk_drewN ?_ _ | refine blk_drew ?_ | refine blk_alloc ?_ _)); exact BK136.out)) : gb145 ≠ gb136)); have n9_ := Aside0.mk ((by rw [hg]; exact Nat.ne_of_lt (blk_lt (g := gb137) (o := .cells #[.string (⟨#[67, 83, 81, 85, 51, 48, 53, 52, 51, 56, 51]⟩ : ByteArray), .int .i64 5, .int .i64 x138002_27, .bool false, .int .i64 0, .int .i64 3] 29 (0, 0)) (by (with_reducible repeat (first | refine blk_drewN ?_ _ | refine blk_drew ?_ | refine blk_alloc ?_ _)); refine blk_far ?_ NB137_141.out _; (with_reducible repeat (first | refine blk_drewN ?_ _ | refine blk_drew ?_ | refine blk_alloc ?_ _)); refine blk_far ?_ NB137_141.out _; (with_reducible repeat (first | refine blk_drewN ?_ _ | refine blk_drew ?_ | refine blk_alloc ?_ _)); refine blk_far ?_ NB137_141.out _; (with_reducible repeat (first | refine blk_drewN ?_ _ | refine blk_drew ?_ | refine blk_alloc ?_ _)); exact BK137.out)) : gb137 ≠ gb145)); have n10_ := Aside0.mk ((by rw [hg]; exact Nat.ne_of_gt (blk_lt (g := gb137) (o := .cells #[.string (⟨#[67, 83, 81, 85, 51, 48, 53, 52, 51, 56, 51]⟩ : ByteArray), .int .i64 5, .int .i64 x138002_27, .bool false, .int .i64 0, .int .i64 3] 29 (0, 0)) (by (with_reducible repeat (first | refine blk_drewN ?_ _ | refine blk_drew ?_ | refine blk_alloc ?_ _)); refine blk_far ?_ NB137_141.out _; (with_reducible repeat (first | refine blk_drewN ?_ _ | refine blk_drew ?_ | refine blk_alloc ?_ _)); refine blk_far ?_ NB137_141.out _; (with_reducible repeat (first | refine blk_drewN ?_ _ | refine blk_drew ?_ | refine blk_alloc ?_ _)); refine blk_far ?_ NB137_141.out _; (with_reducible repeat (first | refine blk_drewN ?_ _ | refine blk_drew ?_ | refine blk_alloc ?_ _)); exact BK137.out)) : gb145 ≠ gb137)); have n11_ := Aside0.mk ((by rw [hg]; exact Nat.ne_of_lt (blk_lt (g := gb141) (o := .cells #[.int .i64 (Int.tmod t138 4), .int .i64 (Int.tmod t139 3), .int .i64 (Int.tmod t140 3)] 31 (0, 0)) (by (with_reducible repeat (first | refine blk_drewN ?_ _ | refine blk_drew ?_ | refine blk_alloc ?_ _)); refine blk_put (cs := #[.int .i64 (Int.tmod t138 4), .int .i64 (Int.tmod t139 3), .int .i64 0]) ?_ 2 _ rfl; (with_reducible repeat (first | refine blk_drewN ?_ _ | refine blk_drew ?_ | refine blk_alloc ?_ _)); refine blk_put (cs := #[.int .i64 (Int.tmod t138 4), .int .i64 0, .int .i64 0]) ?_ 1 _ rfl; (with_reducible repeat (first | refine blk_drewN ?_ _ | refine blk_drew ?_ | refine blk_alloc ?_ _)); refine blk_put (cs := #[.int .i64 0, .int .i64 0, .int .i64 0]) ?_ 0 _ rfl; (with_reducible repeat (first | refine blk_drewN ?_ _ | refine blk_drew ?_ | refine blk_alloc ?_ _)); exact BK141.out)) : gb141 ≠ gb145)); have n12_ := Aside0.mk ((by rw [hg]; exact Nat.ne_of_gt (blk_lt (g := gb141) (o := .cells #[.int .i64 (Int.tmod t138 4), .int .i64 (Int.tmod t139 3), .int .i64 (Int.tmod t140 3)] 31 (0, 0)) (by (with_reducible repeat (first | refine blk_drewN ?_ _ | refine blk_drew ?_ | refine blk_alloc ?_ _)); refine blk_put (cs := #[.int .i64 (Int.tmod t138 4), .int .i64 (Int.tmod t139 3), .int .i64 0]) ?_ 2 _ rfl; (with_reducible repeat (first | refine blk_drewN ?_ _ | refine blk_drew ?_ | refine blk_alloc ?_ _)); refine blk_put (cs := #[.int .i64 (Int.tmod t138 4), .int .i64 0, .int .i64 0]) ?_ 1 _ rfl; (with_reducible repeat (first | refine blk_drewN ?_ _ | refine blk_drew ?_ | refine blk_alloc ?_ _)); refine blk_put (cs := #[.int .i64 0, .int .i64 0, .int .i64 0]) ?_ 0 _ rfl; (with_reducible repeat (first | refine blk_drewN ?_ _ | refine blk_drew ?_ | refine blk_alloc ?_ _)); exact BK141.out)) : gb145 ≠ gb141)); clear BK136; clear BK137; clear BK141; clear HB; have BK136 := n0_; have BK137 := n1_; have BK141 := n2_; have HB := n3_; have BK145 := n4_; have GW145 := n5_; have GE145 := n6_; have NB136_145 := n7_; have NB145_136 := n8_; have NB137_145 := n9_; have NB145_137 := n10_; have NB141_145 := n11_; have NB145_141 := n12_; clear n0_ n1_ n2_ n3_ n4_ n5_ n6_ n7_ n8_ n9_ n10_ n11_ n12_; clear hb hbox hg; have hnb48 := NB145_136.out; have hnc48 := NB136_145.out; have hnb49 := NB145_137.out; have hnc49 := NB137_145.out; have hnb50 := NB145_141.out; have hnc50 := NB141_145.out; have hcz51_0 : w47.cell? ⟨gb145, 0, none⟩ = some (.int .i64 0) := (blk_cell BK145.out 0).trans rfl; have hcz51_1 : w47.cell? ⟨gb145, 1, none⟩ = some (.int .i64 0) := (blk_cell BK145.out 1).trans rfl; have hcz51_2 : w47.cell? ⟨gb145, 2, none⟩ = some (.int .i64 0) := (blk_cell BK145.out 2).trans rfl; have hfz51_0 := blk_frozen BK145.out 0; have hfz51_1 := blk_frozen BK145.out 1; have hfz51_2 := blk_frozen BK145.out 2))
                  (try simp only [Act.put, List.setIfInBounds_toArray, List.set_cons_zero, List.set_cons_succ])
                  go_cut [10] (fun v10 wc => ∃ (kq : Nat) (x10_41 : Bool), v10 = .bool x10_41 ∧ Aside0 (laws_FnApart.j3 kq t132 x10_41 (⟨#[67, 83, 81, 85, 51, 48, 53, 52, 51, 56, 51]⟩ : ByteArray) 5 x3_3 false 0 3 (⟨#[67, 83, 81, 85, 51, 48, 53, 52, 51, 56, 51]⟩ : ByteArray) 5 x138002_27 false 0 3 (Int.tmod t138 4) (Int.tmod t139 3) (Int.tmod t140 3) (Int.tmod t142 4) (Int.tmod t143 3) (Int.tmod t144 3) = some r) ∧ Aside0 (kq ≤ kj27) ∧ Aside0 (wc.heap[gb136]? = some (.cells #[.string (⟨#[67, 83, 81, 85, 51, 48, 53, 52, 51, 56, 51]⟩ : ByteArray), .int .i64 5, .int .i64 x3_3, .bool false, .int .i64 0, .int .i64 3] 29 (0, 0))) ∧ Aside0 (wc.heap[gb137]? = some (.cells #[.string (⟨#[67, 83, 81, 85, 51, 48, 53, 52, 51, 56, 51]⟩ : ByteArray), .int .i64 5, .int .i64 x138002_27, .bool false, .int .i64 0, .int .i64 3] 29 (0, 0))) ∧ Aside0 (wc.heap[gb141]? = some (.cells #[.int .i64 (Int.tmod t138 4), .int .i64 (Int.tmod t139 3), .int .i64 (Int.tmod t140 3)] 31 (0, 0))) ∧ Aside0 (wc.heap[gb145]? = some (.cells #[.int .i64 (Int.tmod t142 4), .int .i64 (Int.tmod t143 3), .int .i64 (Int.tmod t144 3)] 31 (0, 0))) ∧ Aside0 (Below w.heap.size w wc))
                  case first =>
                    have H := HC42.out
                    clear HC42
                    replace H := Option.bind_eq_some_iff.mp H
                    obtain ⟨t146, A520, H⟩ := H
                    replace H : (laws_FnApart.j3 kj27 t132 t146 (⟨#[67, 83, 81, 85, 51, 48, 53, 52, 51, 56, 51]⟩ : ByteArray) 5 x3_3 false 0 3 (⟨#[67, 83, 81, 85, 51, 48, 53, 52, 51, 56, 51]⟩ : ByteArray) 5 x138002_27 false 0 3 (Int.tmod t138 4) (Int.tmod t139 3) (Int.tmod t140 3) (Int.tmod t142 4) (Int.tmod t143 3) (Int.tmod t144 3)) = some r := H
                    have A52 := Aside0.mk A520
                    clear A520
                    have H' := Aside0.mk H
                    clear H
                    have hnb53 := NB136_137.out
                    have hnc53 := NB137_136.out
                    have hnb54 := NB136_141.out
                    have hnc54 := NB141_136.out
                    have hnb55 := NB136_145.out
                    have hnc55 := NB145_136.out
                    have hcz56_0 : w47.cell? ⟨gb136, 0, none⟩ = some (.string (⟨#[67, 83, 81, 85, 51, 48, 53, 52, 51, 56, 51]⟩ : ByteArray)) := (blk_cell BK136.out 0).trans rfl
                    have hcz56_1 : w47.cell? ⟨gb136, 1, none⟩ = some (.int .i64 5) := (blk_cell BK136.out 1).trans rfl
                    have hcz56_2 : w47.cell? ⟨gb136, 2, none⟩ = some (.int .i64 x3_3) := (blk_cell BK136.out 2).trans rfl
                    have hcz56_3 : w47.cell? ⟨gb136, 3, none⟩ = some (.bool false) := (blk_cell BK136.out 3).trans rfl
                    have hcz56_4 : w47.cell? ⟨gb136, 4, none⟩ = some (.int .i64 0) := (blk_cell BK136.out 4).trans rfl
                    have hcz56_5 : w47.cell? ⟨gb136, 5, none⟩ = some (.int .i64 3) := (blk_cell BK136.out 5).trans rfl
                    have hfz56_0 := blk_frozen BK136.out 0
                    have hfz56_1 := blk_frozen BK136.out 1
                    have hfz56_2 := blk_frozen BK136.out 2
                    have hfz56_3 := blk_frozen BK136.out 3
                    have hfz56_4 := blk_frozen BK136.out 4
                    have hfz56_5 := blk_frozen BK136.out 5
                    have hnb57 := NB141_137.out
                    have hnc57 := NB137_141.out
                    have hnb58 := NB141_145.out
                    have hnc58 := NB145_141.out
                    have hcz59_0 : w47.cell? ⟨gb141, 0, none⟩ = some (.int .i64 (Int.tmod t138 4)) := (blk_cell BK141.out 0).trans rfl
                    have hcz59_1 : w47.cell? ⟨gb141, 1, none⟩ = some (.int .i64 (Int.tmod t139 3)) := (blk_cell BK141.out 1).trans rfl
                    have hcz59_2 : w47.cell? ⟨gb141, 2, none⟩ = some (.int .i64 (Int.tmod t140 3)) := (blk_cell BK141.out 2).trans rfl
                    have hfz59_0 := blk_frozen BK141.out 0
                    have hfz59_1 := blk_frozen BK141.out 1
                    have hfz59_2 := blk_frozen BK141.out 2
                    have hnb60 := NB137_145.out
                    have hnc60 := NB145_137.out
                    have hcz61_0 : w47.cell? ⟨gb137, 0, none⟩ = some (.string (⟨#[67, 83, 81, 85, 51, 48, 53, 52, 51, 56, 51]⟩ : ByteArray)) := (blk_cell BK137.out 0).trans rfl
                    have hcz61_1 : w47.cell? ⟨gb137, 1, none⟩ = some (.int .i64 5) := (blk_cell BK137.out 1).trans rfl
                    have hcz61_2 : w47.cell? ⟨gb137, 2, none⟩ = some (.int .i64 x138002_27) := (blk_cell BK137.out 2).trans rfl
                    have hcz61_3 : w47.cell? ⟨gb137, 3, none⟩ = some (.bool false) := (blk_cell BK137.out 3).trans rfl
                    have hcz61_4 : w47.cell? ⟨gb137, 4, none⟩ = some (.int .i64 0) := (blk_cell BK137.out 4).trans rfl
                    have hcz61_5 : w47.cell? ⟨gb137, 5, none⟩ = some (.int .i64 3) := (blk_cell BK137.out 5).trans rfl
                    have hfz61_0 := blk_frozen BK137.out 0
                    have hfz61_1 := blk_frozen BK137.out 1
                    have hfz61_2 := blk_frozen BK137.out 2
                    have hfz61_3 := blk_frozen BK137.out 3
                    have hfz61_4 := blk_frozen BK137.out 4
                    have hfz61_5 := blk_frozen BK137.out 5
                    have hcz62_0 : w47.cell? ⟨gb145, 0, none⟩ = some (.int .i64 0) := (blk_cell BK145.out 0).trans rfl
                    have hcz62_1 : w47.cell? ⟨gb145, 1, none⟩ = some (.int .i64 0) := (blk_cell BK145.out 1).trans rfl
                    have hcz62_2 : w47.cell? ⟨gb145, 2, none⟩ = some (.int .i64 0) := (blk_cell BK145.out 2).trans rfl
                    have hfz62_0 := blk_frozen BK145.out 0
                    have hfz62_1 := blk_frozen BK145.out 1
                    have hfz62_2 := blk_frozen BK145.out 2
                    go_wp2_with (first | ((with_reducible refine gate_callee (f := 15) rfl ?_); refine goesL_ (some 76) rfl rfl Try.func15 (by kernel_rfl) rfl #[.agg #[.string (⟨#[67, 83, 81, 85, 51, 48, 53, 52, 51, 56, 51]⟩ : ByteArray), .int .i64 5, .int .i64 x3_3, .bool false, .int .i64 0, .int .i64 3], .agg #[.int .i64 (Int.tmod t138 4), .int .i64 (Int.tmod t139 3), .int .i64 (Int.tmod t140 3)], .agg #[.string (⟨#[67, 83, 81, 85, 51, 48, 53, 52, 51, 56, 51]⟩ : ByteArray), .int .i64 5, .int .i64 x138002_27, .bool false, .int .i64 0, .int .i64 3], .agg #[.int .i64 (Int.tmod t142 4), .int .i64 (Int.tmod t143 3), .int .i64 (Int.tmod t144 3)]] rfl (by (try simp only [List.map_toArray, List.map_cons, List.map_nil]); first | done | rfl | (simp only [List.length_drop, List.length_take]; rfl)) ?_; (with_reducible refine (impl_KeepsApart.calls kj27 (⟨#[67, 83, 81, 85, 51, 48, 53, 52, 51, 56, 51]⟩ : ByteArray) 5 x3_3 false 0 3 (Int.tmod t138 4) (Int.tmod t139 3) (Int.tmod t140 3) (⟨#[67, 83, 81, 85, 51, 48, 53, 52, 51, 56, 51]⟩ : ByteArray) 5 x138002_27 false 0 3 (Int.tmod t142 4) (Int.tmod t143 3) (Int.tmod t144 3) t146 _ A52.out).mono ?_); rintro e w63 ⟨rfl, hb⟩; refine ⟨_, rfl, ?_⟩; have n0_ := Aside0.mk (blk_below (g := gb136) (o := .cells #[.string (⟨#[67, 83, 81, 85, 51, 48, 53, 52, 51, 56, 51]⟩ : ByteArray), .int .i64 5, .int .i64 x3_3, .bool false, .int .i64 0, .int .i64 3] 29 (0, 0)) (by (with_reducible repeat (first | refine blk_drewN ?_ _ | refine blk_drew ?_ | refine blk_alloc ?_ _)); refine blk_far ?_ NB136_145.out _; (with_reducible repeat (first | refine blk_drewN ?_ _ | refine blk_drew ?_ | refine blk_alloc ?_ _)); refine blk_far ?_ NB136_145.out _; (with_reducible repeat (first | refine blk_drewN ?_ _ | refine blk_drew ?_ | refine blk_alloc ?_ _)); refine blk_far ?_ NB136_145.out _; (with_reducible repeat (first | refine blk_drewN ?_ _ | refine blk_drew ?_ | refine blk_alloc ?_ _)); exact BK136.out) hb); have n1_ := Aside0.mk (blk_below (g := gb137) (o := .cells #[.string (⟨#[67, 83, 81, 85, 51, 48, 53, 52, 51, 56, 51]⟩ : ByteArray), .int .i64 5, .int .i64 x138002_27, .bool false, .int .i64 0, .int .i64 3] 29 (0, 0)) (by (with_reducible repeat (first | refine blk_drewN ?_ _ | refine blk_drew ?_ | refine blk_alloc ?_ _)); refine blk_far ?_ NB137_145.out _; (with_reducible repeat (first | refine blk_drewN ?_ _ | refine blk_drew ?_ | refine blk_alloc ?_ _)); refine blk_far ?_ NB137_145.out _; (with_reducible repeat (first | refine blk_drewN ?_ _ | refine blk_drew ?_ | refine blk_alloc ?_ _)); refine blk_far ?_ NB137_145.out _; (with_reducible repeat (first | refine blk_drewN ?_ _ | refine blk_drew ?_ | refine blk_alloc ?_ _)); exact BK137.out) hb); have n2_ := Aside0.mk (blk_below (g := gb141) (o := .cells #[.int .i64 (Int.tmod t138 4), .int .i64 (Int.tmod t139 3), .int .i64 (Int.tmod t140 3)] 31 (0, 0)) (by (with_reducible repeat (first | refine blk_drewN ?_ _ | refine blk_drew ?_ | refine blk_alloc ?_ _)); refine blk_far ?_ NB141_145.out _; (with_reducible repeat (first | refine blk_drewN ?_ _ | refine blk_drew ?_ | refine blk_alloc ?_ _)); refine blk_far ?_ NB141_145.out _; (with_reducible repeat (first | refine blk_drewN ?_ _ | refine blk_drew ?_ | refine blk_alloc ?_ _)); refine blk_far ?_ NB141_145.out _; (with_reducible repeat (first | refine blk_drewN ?_ _ | refine blk_drew ?_ | refine blk_alloc ?_ _)); exact BK141.out) hb); have n3_ := Aside0.mk (blk_below (g := gb145) (o := .cells #[.int .i64 (Int.tmod t142 4), .int .i64 (Int.tmod t143 3), .int .i64 (Int.tmod t144 3)] 31 (0, 0)) (by (with_reducible repeat (first | refine blk_drewN ?_ _ | refine blk_drew ?_ | refine blk_alloc ?_ _)); refine blk_put (cs := #[.int .i64 (Int.tmod t142 4), .int .i64 (Int.tmod t143 3), .int .i64 0]) ?_ 2 _ rfl; (with_reducible repeat (first | refine blk_drewN ?_ _ | refine blk_drew ?_ | refine blk_alloc ?_ _)); refine blk_put (cs := #[.int .i64 (Int.tmod t142 4), .int .i64 0, .int .i64 0]) ?_ 1 _ rfl; (with_reducible repeat (first | refine blk_drewN ?_ _ | refine blk_drew ?_ | refine blk_alloc ?_ _)); refine blk_put (cs := #[.int .i64 0, .int .i64 0, .int .i64 0]) ?_ 0 _ rfl; (with_reducible repeat (first | refine blk_drewN ?_ _ | refine blk_drew ?_ | refine blk_alloc ?_ _)); exact BK145.out) hb); have n4_ := Aside0.mk (below_step (by repeat (first | (with_reducible first | exact HB.out | apply below_alloc | apply pw_below_drewN | apply below_drew1 | refine below_set ?_ GE136.out | refine below_set ?_ GE137.out | refine below_set ?_ GE141.out | refine below_set ?_ GE145.out) | exact HB.out)) hb); clear BK136; clear BK137; clear BK141; clear BK145; clear HB; have BK136 := n0_; have BK137 := n1_; have BK141 := n2_; have BK145 := n3_; have HB := n4_; clear n0_ n1_ n2_ n3_ n4_; (try clear hb); (try clear hb2); (try clear hk); (try clear hi)))
                    go_meet
                    case rel => exact ⟨_, (t146), (by first | rfl | (simp; done) | (simp [*]; done) | (simp [wrap64]; done)), H', ⟨by have := HJ3.out; have := HJ7.out; have := HJ27.out; first | omega | exact Nat.le_refl _⟩, ⟨by (with_reducible repeat (first | refine blk_drewN ?_ _ | refine blk_drew ?_ | refine blk_alloc ?_ _)); exact BK136.out⟩, ⟨by (with_reducible repeat (first | refine blk_drewN ?_ _ | refine blk_drew ?_ | refine blk_alloc ?_ _)); exact BK137.out⟩, ⟨by (with_reducible repeat (first | refine blk_drewN ?_ _ | refine blk_drew ?_ | refine blk_alloc ?_ _)); exact BK141.out⟩, ⟨by (with_reducible repeat (first | refine blk_drewN ?_ _ | refine blk_drew ?_ | refine blk_alloc ?_ _)); exact BK145.out⟩, ⟨by repeat (first | (with_reducible first | exact HB.out | apply below_alloc | apply pw_below_drewN | apply below_drew1 | refine below_set ?_ GE136.out | refine below_set ?_ GE137.out | refine below_set ?_ GE141.out | refine below_set ?_ GE145.out) | exact HB.out)⟩⟩
                  case rest =>
                    clear HC42
                    try clear c1
                    try clear c2
                    try clear p2
                    try clear c3
                    try clear c4
                    try clear c5
                    try clear c6
                    try clear p6
                    try clear c9
                    try clear c10
                    try clear c11
                    try clear c11b0
                    try clear c11b1
                    try clear c13
                    try clear c13b0
                    try clear c13b1
                    try clear c14
                    try clear c14b0
                    try clear c15
                    try clear c17
                    try clear c17b0
                    try clear c27
                    try clear c32
                    try clear c34
                    try clear c44
                    try clear c45
                    try clear c48
                    try clear c49
                    try clear c50
                    try clear c53
                    try clear c54
                    try clear c55
                    try clear c57
                    try clear c58
                    try clear c60
                    try clear hcz30_0
                    try clear hcz30_1
                    try clear hcz30_2
                    try clear hcz30_3
                    try clear hcz30_4
                    try clear hcz30_5
                    try clear hcz33_0
                    try clear hcz33_1
                    try clear hcz33_2
                    try clear hcz33_3
                    try clear hcz33_4
                    try clear hcz33_5
                    try clear hcz35_0
                    try clear hcz35_1
                    try clear hcz35_2
                    try clear hcz35_3
                    try clear hcz35_4
                    try clear hcz35_5
                    try clear hcz46_0
                    try clear hcz46_1
                    try clear hcz46_2
                    try clear hcz51_0
                    try clear hcz51_1
                    try clear hcz51_2
                    try clear hcz56_0
                    try clear hcz56_1
                    try clear hcz56_2
                    try clear hcz56_3
                    try clear hcz56_4
                    try clear hcz56_5
                    try clear hcz59_0
                    try clear hcz59_1
                    try clear hcz59_2
                    try clear hcz61_0
                    try clear hcz61_1
                    try clear hcz61_2
                    try clear hcz61_3
                    try clear hcz61_4
                    try clear hcz61_5
                    try clear hcz62_0
                    try clear hcz62_1
                    try clear hcz62_2
                    try clear hfz30_0
                    try clear hfz30_1
                    try clear hfz30_2
                    try clear hfz30_3
                    try clear hfz30_4
                    try clear hfz30_5
                    try clear hfz33_0
                    try clear hfz33_1
                    try clear hfz33_2
                    try clear hfz33_3
                    try clear hfz33_4
                    try clear hfz33_5
                    try clear hfz35_0
                    try clear hfz35_1
                    try clear hfz35_2
                    try clear hfz35_3
                    try clear hfz35_4
                    try clear hfz35_5
                    try clear hfz46_0
                    try clear hfz46_1
                    try clear hfz46_2
                    try clear hfz51_0
                    try clear hfz51_1
                    try clear hfz51_2
                    try clear hfz56_0
                    try clear hfz56_1
                    try clear hfz56_2
                    try clear hfz56_3
                    try clear hfz56_4
                    try clear hfz56_5
                    try clear hfz59_0
                    try clear hfz59_1
                    try clear hfz59_2
                    try clear hfz61_0
                    try clear hfz61_1
                    try clear hfz61_2
                    try clear hfz61_3
                    try clear hfz61_4
                    try clear hfz61_5
                    try clear hfz62_0
                    try clear hfz62_1
                    try clear hfz62_2
                    try clear p2
                    try clear p6
                    obtain ⟨kq, x10_41, rfl, HA, HJ41, BK136, BK137, BK141, BK145, HB⟩ := hcut
                    cases kq with
                    | zero => exact absurd HA.out (by simp [laws_FnApart.j3])
                    | succ kj41 =>
                      have H := HA.out
                      clear HA
                      simp only [laws_FnApart.j3] at H
                      by_cases c64 : ((Int.tmod t138 4) == (Int.tmod t142 4) && ((Int.tmod t139 3) == (Int.tmod t143 3) && ((Int.tmod t140 3) == (Int.tmod t144 3)))) = true
                      · rw [if_pos c64] at H
                        have c64b0 : ((Int.tmod t138 4) == (Int.tmod t142 4) && ((Int.tmod t139 3) == (Int.tmod t143 3) && ((Int.tmod t140 3) == (Int.tmod t144 3)))) = true := c64
                        (try (have c64b1 : decide ((Int.tmod t138 4) = (Int.tmod t142 4) && ((Int.tmod t139 3) == (Int.tmod t143 3) && ((Int.tmod t140 3) == (Int.tmod t144 3)))) = true := by simpa using c64))
                        (try (have c64b2 : ((Int.tmod t138 4) == (Int.tmod t142 4) && ((Int.tmod t139 3) == (Int.tmod t143 3) && ((Int.tmod t140 3) == (Int.tmod t144 3)))) = true := by simpa using c64))
                        clear c64
                        by_cases c65 : x10_41 = true
                        · subst c65
                          have H1 : (some false) = some r := by rw [if_pos rfl] at H; exact H
                          clear H
                          have H := H1
                          clear H1
                          obtain rfl := Option.some.inj H
                          have hnb66 := NB141_136.out
                          have hnc66 := NB136_141.out
                          have hnb67 := NB141_137.out
                          have hnc67 := NB137_141.out
                          have hnb68 := NB141_145.out
                          have hnc68 := NB145_141.out
                          have hcz69_0 : wc.cell? ⟨gb141, 0, none⟩ = some (.int .i64 (Int.tmod t138 4)) := (blk_cell BK141.out 0).trans rfl
                          have hcz69_1 : wc.cell? ⟨gb141, 1, none⟩ = some (.int .i64 (Int.tmod t139 3)) := (blk_cell BK141.out 1).trans rfl
                          have hcz69_2 : wc.cell? ⟨gb141, 2, none⟩ = some (.int .i64 (Int.tmod t140 3)) := (blk_cell BK141.out 2).trans rfl
                          have hfz69_0 := blk_frozen BK141.out 0
                          have hfz69_1 := blk_frozen BK141.out 1
                          have hfz69_2 := blk_frozen BK141.out 2
                          have hnb70 := NB145_136.out
                          have hnc70 := NB136_145.out
                          have hnb71 := NB145_137.out
                          have hnc71 := NB137_145.out
                          have hcz72_0 : wc.cell? ⟨gb145, 0, none⟩ = some (.int .i64 (Int.tmod t142 4)) := (blk_cell BK145.out 0).trans rfl
                          have hcz72_1 : wc.cell? ⟨gb145, 1, none⟩ = some (.int .i64 (Int.tmod t143 3)) := (blk_cell BK145.out 1).trans rfl
                          have hcz72_2 : wc.cell? ⟨gb145, 2, none⟩ = some (.int .i64 (Int.tmod t144 3)) := (blk_cell BK145.out 2).trans rfl
                          have hfz72_0 := blk_frozen BK145.out 0
                          have hfz72_1 := blk_frozen BK145.out 1
                          have hfz72_2 := blk_frozen BK145.out 2
                          go_wp2
                          go_ret
                          exact ⟨by first | rfl | (simp [errW_none, errW_some] <;> rfl) | (simp [*, errW_none, errW_some] <;> rfl), by repeat (first | (with_reducible first | exact HB.out | apply below_alloc | apply pw_below_drewN | apply below_drew1 | refine below_set ?_ GE136.out | refine below_set ?_ GE137.out | refine below_set ?_ GE141.out | refine below_set ?_ GE145.out) | exact HB.out)⟩
                        · replace c65 := Bool.eq_false_iff.mpr c65
                          subst c65
                          have H1 : ((impl_BoxOk.f kj41 (⟨#[67, 83, 81, 85, 51, 48, 53, 52, 51, 56, 51]⟩ : ByteArray) 5 x3_3 false 0 3).bind fun t147 => (some t147)) = some r := by rw [if_neg (show ¬ (false = true) by decide)] at H; exact H
                          clear H
                          have H := H1
                          clear H1
                          replace H := Option.bind_eq_some_iff.mp H
                          obtain ⟨t147, A730, H⟩ := H
                          replace H : (some t147) = some r := H
                          have A73 := Aside0.mk A730
                          clear A730
                          obtain rfl := Option.some.inj H
                          have hnb74 := NB141_136.out
                          have hnc74 := NB136_141.out
                          have hnb75 := NB141_137.out
                          have hnc75 := NB137_141.out
                          have hnb76 := NB141_145.out
                          have hnc76 := NB145_141.out
                          have hcz77_0 : wc.cell? ⟨gb141, 0, none⟩ = some (.int .i64 (Int.tmod t138 4)) := (blk_cell BK141.out 0).trans rfl
                          have hcz77_1 : wc.cell? ⟨gb141, 1, none⟩ = some (.int .i64 (Int.tmod t139 3)) := (blk_cell BK141.out 1).trans rfl
                          have hcz77_2 : wc.cell? ⟨gb141, 2, none⟩ = some (.int .i64 (Int.tmod t140 3)) := (blk_cell BK141.out 2).trans rfl
                          have hfz77_0 := blk_frozen BK141.out 0
                          have hfz77_1 := blk_frozen BK141.out 1
                          have hfz77_2 := blk_frozen BK141.out 2
                          have hnb78 := NB145_136.out
                          have hnc78 := NB136_145.out
                          have hnb79 := NB145_137.out
                          have hnc79 := NB137_145.out
                          have hcz80_0 : wc.cell? ⟨gb145, 0, none⟩ = some (.int .i64 (Int.tmod t142 4)) := (blk_cell BK145.out 0).trans rfl
                          have hcz80_1 : wc.cell? ⟨gb145, 1, none⟩ = some (.int .i64 (Int.tmod t143 3)) := (blk_cell BK145.out 1).trans rfl
                          have hcz80_2 : wc.cell? ⟨gb145, 2, none⟩ = some (.int .i64 (Int.tmod t144 3)) := (blk_cell BK145.out 2).trans rfl
                          have hfz80_0 := blk_frozen BK145.out 0
                          have hfz80_1 := blk_frozen BK145.out 1
                          have hfz80_2 := blk_frozen BK145.out 2
                          have hnb81 := NB136_137.out
                          have hnc81 := NB137_136.out
                          have hcz82_0 : wc.cell? ⟨gb136, 0, none⟩ = some (.string (⟨#[67, 83, 81, 85, 51, 48, 53, 52, 51, 56, 51]⟩ : ByteArray)) := (blk_cell BK136.out 0).trans rfl
                          have hcz82_1 : wc.cell? ⟨gb136, 1, none⟩ = some (.int .i64 5) := (blk_cell BK136.out 1).trans rfl
                          have hcz82_2 : wc.cell? ⟨gb136, 2, none⟩ = some (.int .i64 x3_3) := (blk_cell BK136.out 2).trans rfl
                          have hcz82_3 : wc.cell? ⟨gb136, 3, none⟩ = some (.bool false) := (blk_cell BK136.out 3).trans rfl
                          have hcz82_4 : wc.cell? ⟨gb136, 4, none⟩ = some (.int .i64 0) := (blk_cell BK136.out 4).trans rfl
                          have hcz82_5 : wc.cell? ⟨gb136, 5, none⟩ = some (.int .i64 3) := (blk_cell BK136.out 5).trans rfl
                          have hfz82_0 := blk_frozen BK136.out 0
                          have hfz82_1 := blk_frozen BK136.out 1
                          have hfz82_2 := blk_frozen BK136.out 2
                          have hfz82_3 := blk_frozen BK136.out 3
                          have hfz82_4 := blk_frozen BK136.out 4
                          have hfz82_5 := blk_frozen BK136.out 5
                          go_wp2_with (first | (go_at_call 16; (with_reducible refine (impl_BoxOk.calls kj41 (⟨#[67, 83, 81, 85, 51, 48, 53, 52, 51, 56, 51]⟩ : ByteArray) 5 x3_3 false 0 3 t147 _ A73.out).mono ?_); rintro e w83 ⟨rfl, hb⟩; have n0_ := Aside0.mk (blk_below (g := gb136) (o := .cells #[.string (⟨#[67, 83, 81, 85, 51, 48, 53, 52, 51, 56, 51]⟩ : ByteArray), .int .i64 5, .int .i64 x3_3, .bool false, .int .i64 0, .int .i64 3] 29 (0, 0)) (by (with_reducible repeat (first | refine blk_drewN ?_ _ | refine blk_drew ?_ | refine blk_alloc ?_ _)); exact BK136.out) hb); have n1_ := Aside0.mk (blk_below (g := gb137) (o := .cells #[.string (⟨#[67, 83, 81, 85, 51, 48, 53, 52, 51, 56, 51]⟩ : ByteArray), .int .i64 5, .int .i64 x138002_27, .bool false, .int .i64 0, .int .i64 3] 29 (0, 0)) (by (with_reducible repeat (first | refine blk_drewN ?_ _ | refine blk_drew ?_ | refine blk_alloc ?_ _)); exact BK137.out) hb); have n2_ := Aside0.mk (blk_below (g := gb141) (o := .cells #[.int .i64 (Int.tmod t138 4), .int .i64 (Int.tmod t139 3), .int .i64 (Int.tmod t140 3)] 31 (0, 0)) (by (with_reducible repeat (first | refine blk_drewN ?_ _ | refine blk_drew ?_ | refine blk_alloc ?_ _)); exact BK141.out) hb); have n3_ := Aside0.mk (blk_below (g := gb145) (o := .cells #[.int .i64 (Int.tmod t142 4), .int .i64 (Int.tmod t143 3), .int .i64 (Int.tmod t144 3)] 31 (0, 0)) (by (with_reducible repeat (first | refine blk_drewN ?_ _ | refine blk_drew ?_ | refine blk_alloc ?_ _)); exact BK145.out) hb); have n4_ := Aside0.mk (below_step (by repeat (first | (with_reducible first | exact HB.out | apply below_alloc | apply pw_below_drewN | apply below_drew1 | refine below_set ?_ GE136.out | refine below_set ?_ GE137.out | refine below_set ?_ GE141.out | refine below_set ?_ GE145.out) | exact HB.out)) hb); clear BK136; clear BK137; clear BK141; clear BK145; clear HB; have BK136 := n0_; have BK137 := n1_; have BK141 := n2_; have BK145 := n3_; have HB := n4_; clear n0_ n1_ n2_ n3_ n4_; (try clear hb); (try clear hb2); (try clear hk); (try clear hi)))
                          go_ret
                          exact ⟨by first | rfl | (simp [errW_none, errW_some] <;> rfl) | (simp [*, errW_none, errW_some] <;> rfl), by repeat (first | (with_reducible first | exact HB.out | apply below_alloc | apply pw_below_drewN | apply below_drew1 | refine below_set ?_ GE136.out | refine below_set ?_ GE137.out | refine below_set ?_ GE141.out | refine below_set ?_ GE145.out) | exact HB.out)⟩
                      · rw [if_neg c64] at H
                        have c64b0 : ((Int.tmod t138 4) == (Int.tmod t142 4) && ((Int.tmod t139 3) == (Int.tmod t143 3) && ((Int.tmod t140 3) == (Int.tmod t144 3)))) = false := by simpa using c64
                        (try (have c64b1 : decide ((Int.tmod t138 4) = (Int.tmod t142 4) && ((Int.tmod t139 3) == (Int.tmod t143 3) && ((Int.tmod t140 3) == (Int.tmod t144 3)))) = false := by simpa using c64))
                        (try (have c64b2 : ((Int.tmod t138 4) == (Int.tmod t142 4) && ((Int.tmod t139 3) == (Int.tmod t143 3) && ((Int.tmod t140 3) == (Int.tmod t144 3)))) = false := by simpa using c64))
                        (try (have c64b3 : ¬ ((Int.tmod t138 4) = (Int.tmod t142 4) && ((Int.tmod t139 3) == (Int.tmod t143 3) && ((Int.tmod t140 3) == (Int.tmod t144 3)))) := by simpa using c64))
                        clear c64
                        have HC84 := Aside0.mk H
                        clear H
                        have hnb85 := NB141_136.out
                        have hnc85 := NB136_141.out
                        have hnb86 := NB141_137.out
                        have hnc86 := NB137_141.out
                        have hnb87 := NB141_145.out
                        have hnc87 := NB145_141.out
                        have hcz88_0 : wc.cell? ⟨gb141, 0, none⟩ = some (.int .i64 (Int.tmod t138 4)) := (blk_cell BK141.out 0).trans rfl
                        have hcz88_1 : wc.cell? ⟨gb141, 1, none⟩ = some (.int .i64 (Int.tmod t139 3)) := (blk_cell BK141.out 1).trans rfl
                        have hcz88_2 : wc.cell? ⟨gb141, 2, none⟩ = some (.int .i64 (Int.tmod t140 3)) := (blk_cell BK141.out 2).trans rfl
                        have hfz88_0 := blk_frozen BK141.out 0
                        have hfz88_1 := blk_frozen BK141.out 1
                        have hfz88_2 := blk_frozen BK141.out 2
                        have hnb89 := NB145_136.out
                        have hnc89 := NB136_145.out
                        have hnb90 := NB145_137.out
                        have hnc90 := NB137_145.out
                        have hcz91_0 : wc.cell? ⟨gb145, 0, none⟩ = some (.int .i64 (Int.tmod t142 4)) := (blk_cell BK145.out 0).trans rfl
                        have hcz91_1 : wc.cell? ⟨gb145, 1, none⟩ = some (.int .i64 (Int.tmod t143 3)) := (blk_cell BK145.out 1).trans rfl
                        have hcz91_2 : wc.cell? ⟨gb145, 2, none⟩ = some (.int .i64 (Int.tmod t144 3)) := (blk_cell BK145.out 2).trans rfl
                        have hfz91_0 := blk_frozen BK145.out 0
                        have hfz91_1 := blk_frozen BK145.out 1
                        have hfz91_2 := blk_frozen BK145.out 2
                        go_upto_region 16 with (first | ((with_reducible refine gate_dst (N := 11) rfl ?_); refine box_event ?hg (N := 11) ?hd (cs := #[.int .i64 0, .int .i64 0, .int .i64 0]) (t := 31) ?hr ?_; (case hd => rfl); (case hg => rfl); (case hr => first | (go_simp; done) | (go_simp; rfl)); intro gb148 hg w92 hbox hb; have n0_ := Aside0.mk (blk_below (g := gb136) (o := .cells #[.string (⟨#[67, 83, 81, 85, 51, 48, 53, 52, 51, 56, 51]⟩ : ByteArray), .int .i64 5, .int .i64 x3_3, .bool false, .int .i64 0, .int .i64 3] 29 (0, 0)) (by (with_reducible repeat (first | refine blk_drewN ?_ _ | refine blk_drew ?_ | refine blk_alloc ?_ _)); exact BK136.out) hb); have n1_ := Aside0.mk (blk_below (g := gb137) (o := .cells #[.string (⟨#[67, 83, 81, 85, 51, 48, 53, 52, 51, 56, 51]⟩ : ByteArray), .int .i64 5, .int .i64 x138002_27, .bool false, .int .i64 0, .int .i64 3] 29 (0, 0)) (by (with_reducible repeat (first | refine blk_drewN ?_ _ | refine blk_drew ?_ | refine blk_alloc ?_ _)); exact BK137.out) hb); have n2_ := Aside0.mk (blk_below (g := gb141) (o := .cells #[.int .i64 (Int.tmod t138 4), .int .i64 (Int.tmod t139 3), .int .i64 (Int.tmod t140 3)] 31 (0, 0)) (by (with_reducible repeat (first | refine blk_drewN ?_ _ | refine blk_drew ?_ | refine blk_alloc ?_ _)); exact BK141.out) hb); have n3_ := Aside0.mk (blk_below (g := gb145) (o := .cells #[.int .i64 (Int.tmod t142 4), .int .i64 (Int.tmod t143 3), .int .i64 (Int.tmod t144 3)] 31 (0, 0)) (by (with_reducible repeat (first | refine blk_drewN ?_ _ | refine blk_drew ?_ | refine blk_alloc ?_ _)); exact BK145.out) hb); have n4_ := Aside0.mk (below_step (by repeat (first | (with_reducible first | exact HB.out | apply below_alloc | apply pw_below_drewN | apply below_drew1 | refine below_set ?_ GE136.out | refine below_set ?_ GE137.out | refine below_set ?_ GE141.out | refine below_set ?_ GE145.out) | exact HB.out)) hb); have n5_ := Aside0.mk (hbox); have n6_ := Aside0.mk ((by rw [hg]; exact (below_size (by repeat (first | (with_reducible first | exact HB.out | apply below_alloc | apply pw_below_drewN | apply below_drew1 | refine below_set ?_ GE136.out | refine below_set ?_ GE137.out | refine below_set ?_ GE141.out | refine below_set ?_ GE145.out) | exact HB.out))) : w.heap.size ≤ gb148)); have n7_ := Aside0.mk ((by rw [hg]; exact (below_size (by repeat (first | (with_reducible first | exact HB.out | apply below_alloc | apply pw_below_drewN | apply below_drew1 | refine below_set ?_ GE136.out | refine below_set ?_ GE137.out | refine below_set ?_ GE141.out | refine below_set ?_ GE145.out) | exact HB.out))) : w.heap.size ≤ gb148)); have n8_ := Aside0.mk ((by rw [hg]; exact Nat.ne_of_lt (blk_lt (g := gb136) (o := .cells #[.string (⟨#[67, 83, 81, 85, 51, 48, 53, 52, 51, 56, 51]⟩ : ByteArray), .int .i64 5, .int .i64 x3_3, .bool false, .int .i64 0, .int .i64 3] 29 (0, 0)) (by (with_reducible repeat (first | refine blk_drewN ?_ _ | refine blk_drew ?_ | refine blk_alloc ?_ _)); exact BK136.out)) : gb136 ≠ gb148)); have n9_ := Aside0.mk ((by rw [hg]; exact Nat.ne_of_gt (blk_lt (g := gb136) (o := .cells #[.string (⟨#[67, 83, 81, 85, 51, 48, 53, 52, 51, 56, 51]⟩ : ByteArray), .int .i64 5, .int .i64 x3_3, .bool false, .int .i64 0, .int .i64 3] 29 (0, 0)) (by (with_reducible repeat (first | refine blk_drewN ?_ _ | refine blk_drew ?_ | refine blk_alloc ?_ _)); exact BK136.out)) : gb148 ≠ gb136)); have n10_ := Aside0.mk ((by rw [hg]; exact Nat.ne_of_lt (blk_lt (g := gb137) (o := .cells #[.string (⟨#[67, 83, 81, 85, 51, 48, 53, 52, 51, 56, 51]⟩ : ByteArray), .int .i64 5, .int .i64 x138002_27, .bool false, .int .i64 0, .int .i64 3] 29 (0, 0)) (by (with_reducible repeat (first | refine blk_drewN ?_ _ | refine blk_drew ?_ | refine blk_alloc ?_ _)); exact BK137.out)) : gb137 ≠ gb148)); have n11_ := Aside0.mk ((by rw [hg]; exact Nat.ne_of_gt (blk_lt (g := gb137) (o := .cells #[.string (⟨#[67, 83, 81, 85, 51, 48, 53, 52, 51, 56, 51]⟩ : ByteArray), .int .i64 5, .int .i64 x138002_27, .bool false, .int .i64 0, .int .i64 3] 29 (0, 0)) (by (with_reducible repeat (first | refine blk_drewN ?_ _ | refine blk_drew ?_ | refine blk_alloc ?_ _)); exact BK137.out)) : gb148 ≠ gb137)); have n12_ := Aside0.mk ((by rw [hg]; exact Nat.ne_of_lt (blk_lt (g := gb141) (o := .cells #[.int .i64 (Int.tmod t138 4), .int .i64 (Int.tmod t139 3), .int .i64 (Int.tmod t140 3)] 31 (0, 0)) (by (with_reducible repeat (first | refine blk_drewN ?_ _ | refine blk_drew ?_ | refine blk_alloc ?_ _)); exact BK141.out)) : gb141 ≠ gb148)); have n13_ := Aside0.mk ((by rw [hg]; exact Nat.ne_of_gt (blk_lt (g := gb141) (o := .cells #[.int .i64 (Int.tmod t138 4), .int .i64 (Int.tmod t139 3), .int .i64 (Int.tmod t140 3)] 31 (0, 0)) (by (with_reducible repeat (first | refine blk_drewN ?_ _ | refine blk_drew ?_ | refine blk_alloc ?_ _)); exact BK141.out)) : gb148 ≠ gb141)); have n14_ := Aside0.mk ((by rw [hg]; exact Nat.ne_of_lt (blk_lt (g := gb145) (o := .cells #[.int .i64 (Int.tmod t142 4), .int .i64 (Int.tmod t143 3), .int .i64 (Int.tmod t144 3)] 31 (0, 0)) (by (with_reducible repeat (first | refine blk_drewN ?_ _ | refine blk_drew ?_ | refine blk_alloc ?_ _)); exact BK145.out)) : gb145 ≠ gb148)); have n15_ := Aside0.mk ((by rw [hg]; exact Nat.ne_of_gt (blk_lt (g := gb145) (o := .cells #[.int .i64 (Int.tmod t142 4), .int .i64 (Int.tmod t143 3), .int .i64 (Int.tmod t144 3)] 31 (0, 0)) (by (with_reducible repeat (first | refine blk_drewN ?_ _ | refine blk_drew ?_ | refine blk_alloc ?_ _)); exact BK145.out)) : gb148 ≠ gb145)); clear BK136; clear BK137; clear BK141; clear BK145; clear HB; have BK136 := n0_; have BK137 := n1_; have BK141 := n2_; have BK145 := n3_; have HB := n4_; have BK148 := n5_; have GW148 := n6_; have GE148 := n7_; have NB136_148 := n8_; have NB148_136 := n9_; have NB137_148 := n10_; have NB148_137 := n11_; have NB141_148 := n12_; have NB148_141 := n13_; have NB145_148 := n14_; have NB148_145 := n15_; clear n0_ n1_ n2_ n3_ n4_ n5_ n6_ n7_ n8_ n9_ n10_ n11_ n12_ n13_ n14_ n15_; clear hb hbox hg; have hnb93 := NB148_136.out; have hnc93 := NB136_148.out; have hnb94 := NB148_137.out; have hnc94 := NB137_148.out; have hnb95 := NB148_141.out; have hnc95 := NB141_148.out; have hnb96 := NB148_145.out; have hnc96 := NB145_148.out; have hcz97_0 : w92.cell? ⟨gb148, 0, none⟩ = some (.int .i64 0) := (blk_cell BK148.out 0).trans rfl; have hcz97_1 : w92.cell? ⟨gb148, 1, none⟩ = some (.int .i64 0) := (blk_cell BK148.out 1).trans rfl; have hcz97_2 : w92.cell? ⟨gb148, 2, none⟩ = some (.int .i64 0) := (blk_cell BK148.out 2).trans rfl; have hfz97_0 := blk_frozen BK148.out 0; have hfz97_1 := blk_frozen BK148.out 1; have hfz97_2 := blk_frozen BK148.out 2))
                        (try simp only [Act.put, List.setIfInBounds_toArray, List.set_cons_zero, List.set_cons_succ])
                        go_cut [] (fun wc => ∃ (kq : Nat) (x149000_83 : Int), Aside0 (laws_FnApart.j4 kq t132 x10_41 (⟨#[67, 83, 81, 85, 51, 48, 53, 52, 51, 56, 51]⟩ : ByteArray) 5 x3_3 false 0 3 (⟨#[67, 83, 81, 85, 51, 48, 53, 52, 51, 56, 51]⟩ : ByteArray) 5 x138002_27 false 0 3 (Int.tmod t138 4) (Int.tmod t139 3) (Int.tmod t140 3) (Int.tmod t142 4) (Int.tmod t143 3) (Int.tmod t144 3) x149000_83 (Int.tmod t143 3) (Int.tmod t144 3) = some r) ∧ Aside0 (kq ≤ kj41) ∧ Aside0 (wc.heap[gb136]? = some (.cells #[.string (⟨#[67, 83, 81, 85, 51, 48, 53, 52, 51, 56, 51]⟩ : ByteArray), .int .i64 5, .int .i64 x3_3, .bool false, .int .i64 0, .int .i64 3] 29 (0, 0))) ∧ Aside0 (wc.heap[gb137]? = some (.cells #[.string (⟨#[67, 83, 81, 85, 51, 48, 53, 52, 51, 56, 51]⟩ : ByteArray), .int .i64 5, .int .i64 x138002_27, .bool false, .int .i64 0, .int .i64 3] 29 (0, 0))) ∧ Aside0 (wc.heap[gb141]? = some (.cells #[.int .i64 (Int.tmod t138 4), .int .i64 (Int.tmod t139 3), .int .i64 (Int.tmod t140 3)] 31 (0, 0))) ∧ Aside0 (wc.heap[gb145]? = some (.cells #[.int .i64 (Int.tmod t142 4), .int .i64 (Int.tmod t143 3), .int .i64 (Int.tmod t144 3)] 31 (0, 0))) ∧ Aside0 (wc.heap[gb148]? = some (.cells #[.int .i64 x149000_83, .int .i64 (Int.tmod t143 3), .int .i64 (Int.tmod t144 3)] 31 (0, 0))) ∧ Aside0 (Below w.heap.size w wc))
                        case first =>
                          have H := HC84.out
                          clear HC84
                          have H' := Aside0.mk H
                          clear H
                          have hnb98 := NB141_136.out
                          have hnc98 := NB136_141.out
                          have hnb99 := NB141_137.out
                          have hnc99 := NB137_141.out
                          have hnb100 := NB141_145.out
                          have hnc100 := NB145_141.out
                          have hnb101 := NB141_148.out
                          have hnc101 := NB148_141.out
                          have hcz102_0 : w92.cell? ⟨gb141, 0, none⟩ = some (.int .i64 (Int.tmod t138 4)) := (blk_cell BK141.out 0).trans rfl
                          have hcz102_1 : w92.cell? ⟨gb141, 1, none⟩ = some (.int .i64 (Int.tmod t139 3)) := (blk_cell BK141.out 1).trans rfl
                          have hcz102_2 : w92.cell? ⟨gb141, 2, none⟩ = some (.int .i64 (Int.tmod t140 3)) := (blk_cell BK141.out 2).trans rfl
                          have hfz102_0 := blk_frozen BK141.out 0
                          have hfz102_1 := blk_frozen BK141.out 1
                          have hfz102_2 := blk_frozen BK141.out 2
                          have hnb103 := NB148_136.out
                          have hnc103 := NB136_148.out
                          have hnb104 := NB148_137.out
                          have hnc104 := NB137_148.out
                          have hnb105 := NB148_145.out
                          have hnc105 := NB145_148.out
                          have hcz106_0 : w92.cell? ⟨gb148, 0, none⟩ = some (.int .i64 0) := (blk_cell BK148.out 0).trans rfl
                          have hcz106_1 : w92.cell? ⟨gb148, 1, none⟩ = some (.int .i64 0) := (blk_cell BK148.out 1).trans rfl
                          have hcz106_2 : w92.cell? ⟨gb148, 2, none⟩ = some (.int .i64 0) := (blk_cell BK148.out 2).trans rfl
                          have hfz106_0 := blk_frozen BK148.out 0
                          have hfz106_1 := blk_frozen BK148.out 1
                          have hfz106_2 := blk_frozen BK148.out 2
                          go_wp2
                          go_meet
                          case rel => exact ⟨_, (wrap64 ((Int.tmod t138 4) + 9)), H', ⟨by have := HJ3.out; have := HJ7.out; have := HJ27.out; have := HJ41.out; first | omega | exact Nat.le_refl _⟩, ⟨by (with_reducible repeat (first | refine blk_drewN ?_ _ | refine blk_drew ?_ | refine blk_alloc ?_ _)); refine blk_far ?_ NB136_148.out _; (with_reducible repeat (first | refine blk_drewN ?_ _ | refine blk_drew ?_ | refine blk_alloc ?_ _)); refine blk_far ?_ NB136_148.out _; (with_reducible repeat (first | refine blk_drewN ?_ _ | refine blk_drew ?_ | refine blk_alloc ?_ _)); refine blk_far ?_ NB136_148.out _; (with_reducible repeat (first | refine blk_drewN ?_ _ | refine blk_drew ?_ | refine blk_alloc ?_ _)); refine blk_far ?_ NB136_148.out _; (with_reducible repeat (first | refine blk_drewN ?_ _ | refine blk_drew ?_ | refine blk_alloc ?_ _)); exact BK136.out⟩, ⟨by (with_reducible repeat (first | refine blk_drewN ?_ _ | refine blk_drew ?_ | refine blk_alloc ?_ _)); refine blk_far ?_ NB137_148.out _; (with_reducible repeat (first | refine blk_drewN ?_ _ | refine blk_drew ?_ | refine blk_alloc ?_ _)); refine blk_far ?_ NB137_148.out _; (with_reducible repeat (first | refine blk_drewN ?_ _ | refine blk_drew ?_ | refine blk_alloc ?_ _)); refine blk_far ?_ NB137_148.out _; (with_reducible repeat (first | refine blk_drewN ?_ _ | refine blk_drew ?_ | refine blk_alloc ?_ _)); refine blk_far ?_ NB137_148.out _; (with_reducible repeat (first | refine blk_drewN ?_ _ | refine blk_drew ?_ | refine blk_alloc ?_ _)); exact BK137.out⟩, ⟨by (with_reducible repeat (first | refine blk_drewN ?_ _ | refine blk_drew ?_ | refine blk_alloc ?_ _)); refine blk_far ?_ NB141_148.out _; (with_reducible repeat (first | refine blk_drewN ?_ _ | refine blk_drew ?_ | refine blk_alloc ?_ _)); refine blk_far ?_ NB141_148.out _; (with_reducible repeat (first | refine blk_drewN ?_ _ | refine blk_drew ?_ | refine blk_alloc ?_ _)); refine blk_far ?_ NB141_148.out _; (with_reducible repeat (first | refine blk_drewN ?_ _ | refine blk_drew ?_ | refine blk_alloc ?_ _)); refine blk_far ?_ NB141_148.out _; (with_reducible repeat (first | refine blk_drewN ?_ _ | refine blk_drew ?_ | refine blk_alloc ?_ _)); exact BK141.out⟩, ⟨by (with_reducible repeat (first | refine blk_drewN ?_ _ | refine blk_drew ?_ | refine blk_alloc ?_ _)); refine blk_far ?_ NB145_148.out _; (with_reducible repeat (first | refine blk_drewN ?_ _ | refine blk_drew ?_ | refine blk_alloc ?_ _)); refine blk_far ?_ NB145_148.out _; (with_reducible repeat (first | refine blk_drewN ?_ _ | refine blk_drew ?_ | refine blk_alloc ?_ _)); refine blk_far ?_ NB145_148.out _; (with_reducible repeat (first | refine blk_drewN ?_ _ | refine blk_drew ?_ | refine blk_alloc ?_ _)); refine blk_far ?_ NB145_148.out _; (with_reducible repeat (first | refine blk_drewN ?_ _ | refine blk_drew ?_ | refine blk_alloc ?_ _)); exact BK145.out⟩, ⟨by (with_reducible repeat (first | refine blk_drewN ?_ _ | refine blk_drew ?_ | refine blk_alloc ?_ _)); refine blk_put (cs := #[.int .i64 (Int.tmod t142 4), .int .i64 (Int.tmod t143 3), .int .i64 (Int.tmod t144 3)]) ?_ 0 _ rfl; (with_reducible repeat (first | refine blk_drewN ?_ _ | refine blk_drew ?_ | refine blk_alloc ?_ _)); refine blk_put (cs := #[.int .i64 (Int.tmod t142 4), .int .i64 (Int.tmod t143 3), .int .i64 0]) ?_ 2 _ rfl; (with_reducible repeat (first | refine blk_drewN ?_ _ | refine blk_drew ?_ | refine blk_alloc ?_ _)); refine blk_put (cs := #[.int .i64 (Int.tmod t142 4), .int .i64 0, .int .i64 0]) ?_ 1 _ rfl; (with_reducible repeat (first | refine blk_drewN ?_ _ | refine blk_drew ?_ | refine blk_alloc ?_ _)); refine blk_put (cs := #[.int .i64 0, .int .i64 0, .int .i64 0]) ?_ 0 _ rfl; (with_reducible repeat (first | refine blk_drewN ?_ _ | refine blk_drew ?_ | refine blk_alloc ?_ _)); exact BK148.out⟩, ⟨by repeat (first | (with_reducible first | exact HB.out | apply below_alloc | apply pw_below_drewN | apply below_drew1 | refine below_set ?_ GE136.out | refine below_set ?_ GE137.out | refine below_set ?_ GE141.out | refine below_set ?_ GE145.out | refine below_set ?_ GE148.out) | exact HB.out)⟩⟩
                        case rest =>
                          clear HC84
                          try clear c1
                          try clear c2
                          try clear p2
                          try clear c3
                          try clear c4
                          try clear c5
                          try clear c6
                          try clear p6
                          try clear c7
                          try clear c8
                          try clear c9
                          try clear c10
                          try clear c11
                          try clear c11b0
                          try clear c11b1
                          try clear c13
                          try clear c13b0
                          try clear c13b1
                          try clear c14
                          try clear c14b0
                          try clear c15
                          try clear c17
                          try clear c17b0
                          try clear c27
                          try clear c32
                          try clear c34
                          try clear c44
                          try clear c45
                          try clear c48
                          try clear c49
                          try clear c50
                          try clear c53
                          try clear c54
                          try clear c55
                          try clear c57
                          try clear c58
                          try clear c60
                          try clear c64
                          try clear c64b0
                          try clear c64b1
                          try clear c64b2
                          try clear p64
                          try clear c65
                          try clear c66
                          try clear c67
                          try clear c68
                          try clear c70
                          try clear c71
                          try clear c74
                          try clear c75
                          try clear c76
                          try clear c78
                          try clear c79
                          try clear c81
                          try clear c85
                          try clear c86
                          try clear c87
                          try clear c89
                          try clear c90
                          try clear c93
                          try clear c94
                          try clear c95
                          try clear c96
                          try clear c98
                          try clear c99
                          try clear c100
                          try clear c101
                          try clear c103
                          try clear c104
                          try clear c105
                          try clear hcz102_0
                          try clear hcz102_1
                          try clear hcz102_2
                          try clear hcz106_0
                          try clear hcz106_1
                          try clear hcz106_2
                          try clear hcz30_0
                          try clear hcz30_1
                          try clear hcz30_2
                          try clear hcz30_3
                          try clear hcz30_4
                          try clear hcz30_5
                          try clear hcz33_0
                          try clear hcz33_1
                          try clear hcz33_2
                          try clear hcz33_3
                          try clear hcz33_4
                          try clear hcz33_5
                          try clear hcz35_0
                          try clear hcz35_1
                          try clear hcz35_2
                          try clear hcz35_3
                          try clear hcz35_4
                          try clear hcz35_5
                          try clear hcz46_0
                          try clear hcz46_1
                          try clear hcz46_2
                          try clear hcz51_0
                          try clear hcz51_1
                          try clear hcz51_2
                          try clear hcz56_0
                          try clear hcz56_1
                          try clear hcz56_2
                          try clear hcz56_3
                          try clear hcz56_4
                          try clear hcz56_5
                          try clear hcz59_0
                          try clear hcz59_1
                          try clear hcz59_2
                          try clear hcz61_0
                          try clear hcz61_1
                          try clear hcz61_2
                          try clear hcz61_3
                          try clear hcz61_4
                          try clear hcz61_5
                          try clear hcz62_0
                          try clear hcz62_1
                          try clear hcz62_2
                          try clear hcz69_0
                          try clear hcz69_1
                          try clear hcz69_2
                          try clear hcz72_0
                          try clear hcz72_1
                          try clear hcz72_2
                          try clear hcz77_0
                          try clear hcz77_1
                          try clear hcz77_2
                          try clear hcz80_0
                          try clear hcz80_1
                          try clear hcz80_2
                          try clear hcz82_0
                          try clear hcz82_1
                          try clear hcz82_2
                          try clear hcz82_3
                          try clear hcz82_4
                          try clear hcz82_5
                          try clear hcz88_0
                          try clear hcz88_1
                          try clear hcz88_2
                          try clear hcz91_0
                          try clear hcz91_1
                          try clear hcz91_2
                          try clear hcz97_0
                          try clear hcz97_1
                          try clear hcz97_2
                          try clear hfz102_0
                          try clear hfz102_1
                          try clear hfz102_2
                          try clear hfz106_0
                          try clear hfz106_1
                          try clear hfz106_2
                          try clear hfz30_0
                          try clear hfz30_1
                          try clear hfz30_2
                          try clear hfz30_3
                          try clear hfz30_4
                          try clear hfz30_5
                          try clear hfz33_0
                          try clear hfz33_1
                          try clear hfz33_2
                          try clear hfz33_3
                          try clear hfz33_4
                          try clear hfz33_5
                          try clear hfz35_0
                          try clear hfz35_1
                          try clear hfz35_2
                          try clear hfz35_3
                          try clear hfz35_4
                          try clear hfz35_5
                          try clear hfz46_0
                          try clear hfz46_1
                          try clear hfz46_2
                          try clear hfz51_0
                          try clear hfz51_1
                          try clear hfz51_2
                          try clear hfz56_0
                          try clear hfz56_1
                          try clear hfz56_2
                          try clear hfz56_3
                          try clear hfz56_4
                          try clear hfz56_5
                          try clear hfz59_0
                          try clear hfz59_1
                          try clear hfz59_2
                          try clear hfz61_0
                          try clear hfz61_1
                          try clear hfz61_2
                          try clear hfz61_3
                          try clear hfz61_4
                          try clear hfz61_5
                          try clear hfz62_0
                          try clear hfz62_1
                          try clear hfz62_2
                          try clear hfz69_0
                          try clear hfz69_1
                          try clear hfz69_2
                          try clear hfz72_0
                          try clear hfz72_1
                          try clear hfz72_2
                          try clear hfz77_0
                          try clear hfz77_1
                          try clear hfz77_2
                          try clear hfz80_0
                          try clear hfz80_1
                          try clear hfz80_2
                          try clear hfz82_0
                          try clear hfz82_1
                          try clear hfz82_2
                          try clear hfz82_3
                          try clear hfz82_4
                          try clear hfz82_5
                          try clear hfz88_0
                          try clear hfz88_1
                          try clear hfz88_2
                          try clear hfz91_0
                          try clear hfz91_1
                          try clear hfz91_2
                          try clear hfz97_0
                          try clear hfz97_1
                          try clear hfz97_2
                          try clear p2
                          try clear p6
                          obtain ⟨kq, x149000_83, HA, HJ83, BK136, BK137, BK141, BK145, BK148, HB⟩ := hcut
                          cases kq with
                          | zero => exact absurd HA.out (by simp [laws_FnApart.j4])
                          | succ kj83 =>
                            have H := HA.out
                            clear HA
                            simp only [laws_FnApart.j4] at H
                            replace H := Option.bind_eq_some_iff.mp H
                            obtain ⟨t149, A1070, H⟩ := H
                            replace H : (if (x10_41 == t149) = true then ((impl_BoxOk.f kj83 (⟨#[67, 83, 81, 85, 51, 48, 53, 52, 51, 56, 51]⟩ : ByteArray) 5 x3_3 false 0 3).bind fun t150 => (if t150 = true then ((impl_KeepsApart.f kj83 (⟨#[67, 83, 81, 85, 51, 48, 53, 52, 51, 56, 51]⟩ : ByteArray) 5 x3_3 false 0 3 (Int.tmod t138 4) (Int.tmod t139 3) (Int.tmod t140 3) (⟨#[67, 83, 81, 85, 51, 48, 53, 52, 51, 56, 51]⟩ : ByteArray) 5 x138002_27 false 0 3 x149000_83 (Int.tmod t143 3) (Int.tmod t144 3)).bind fun t151 => (if (t151 == (t132 != 3)) = true then (if t132 = 0 then (some x10_41) else (some true)) else (some false))) else (some false))) else (some false)) = some r := H
                            have A107 := Aside0.mk A1070
                            clear A1070
                            by_cases c108 : (x10_41 == t149) = true
                            · rw [if_pos c108] at H
                              have c108b0 : (x10_41 == t149) = true := c108
                              (try (have c108b1 : decide (x10_41 = t149) = true := by simpa using c108))
                              (try (have c108b2 : (x10_41 == t149) = true := by simpa using c108))
                              clear c108
                              replace H := Option.bind_eq_some_iff.mp H
                              obtain ⟨t150, A1090, H⟩ := H
                              replace H : (if t150 = true then ((impl_KeepsApart.f kj83 (⟨#[67, 83, 81, 85, 51, 48, 53, 52, 51, 56, 51]⟩ : ByteArray) 5 x3_3 false 0 3 (Int.tmod t138 4) (Int.tmod t139 3) (Int.tmod t140 3) (⟨#[67, 83, 81, 85, 51, 48, 53, 52, 51, 56, 51]⟩ : ByteArray) 5 x138002_27 false 0 3 x149000_83 (Int.tmod t143 3) (Int.tmod t144 3)).bind fun t151 => (if (t151 == (t132 != 3)) = true then (if t132 = 0 then (some x10_41) else (some true)) else (some false))) else (some false)) = some r := H
                              have A109 := Aside0.mk A1090
                              clear A1090
                              by_cases c110 : t150 = true
                              · subst c110
                                have H1 : ((impl_KeepsApart.f kj83 (⟨#[67, 83, 81, 85, 51, 48, 53, 52, 51, 56, 51]⟩ : ByteArray) 5 x3_3 false 0 3 (Int.tmod t138 4) (Int.tmod t139 3) (Int.tmod t140 3) (⟨#[67, 83, 81, 85, 51, 48, 53, 52, 51, 56, 51]⟩ : ByteArray) 5 x138002_27 false 0 3 x149000_83 (Int.tmod t143 3) (Int.tmod t144 3)).bind fun t151 => (if (t151 == (t132 != 3)) = true then (if t132 = 0 then (some x10_41) else (some true)) else (some false))) = some r := by rw [if_pos rfl] at H; exact H
                                clear H
                                have H := H1
                                clear H1
                                replace H := Option.bind_eq_some_iff.mp H
                                obtain ⟨t151, A1110, H⟩ := H
                                replace H : (if (t151 == (t132 != 3)) = true then (if t132 = 0 then (some x10_41) else (some true)) else (some false)) = some r := H
                                have A111 := Aside0.mk A1110
                                clear A1110
                                by_cases c112 : (t151 == (t132 != 3)) = true
                                · rw [if_pos c112] at H
                                  have c112b0 : (t151 == (t132 != 3)) = true := c112
                                  (try (have c112b1 : decide (t151 = (t132 != 3)) = true := by simpa using c112))
                                  (try (have c112b2 : (t151 == (t132 != 3)) = true := by simpa using c112))
                                  clear c112
                                  by_cases c113 : t132 = 0
                                  · rw [if_pos c113] at H
                                    have c113b0 : (t132 == 0) = true := beq_iff_eq.mpr c113
                                    have c113b1 : (t132 != 0) = false := bne_eq_false_iff_eq.mpr c113
                                    clear c113
                                    obtain rfl := Option.some.inj H
                                    have hnb114 := NB137_136.out
                                    have hnc114 := NB136_137.out
                                    have hnb115 := NB137_141.out
                                    have hnc115 := NB141_137.out
                                    have hnb116 := NB137_145.out
                                    have hnc116 := NB145_137.out
                                    have hnb117 := NB137_148.out
                                    have hnc117 := NB148_137.out
                                    have hcz118_0 : wc.cell? ⟨gb137, 0, none⟩ = some (.string (⟨#[67, 83, 81, 85, 51, 48, 53, 52, 51, 56, 51]⟩ : ByteArray)) := (blk_cell BK137.out 0).trans rfl
                                    have hcz118_1 : wc.cell? ⟨gb137, 1, none⟩ = some (.int .i64 5) := (blk_cell BK137.out 1).trans rfl
                                    have hcz118_2 : wc.cell? ⟨gb137, 2, none⟩ = some (.int .i64 x138002_27) := (blk_cell BK137.out 2).trans rfl
                                    have hcz118_3 : wc.cell? ⟨gb137, 3, none⟩ = some (.bool false) := (blk_cell BK137.out 3).trans rfl
                                    have hcz118_4 : wc.cell? ⟨gb137, 4, none⟩ = some (.int .i64 0) := (blk_cell BK137.out 4).trans rfl
                                    have hcz118_5 : wc.cell? ⟨gb137, 5, none⟩ = some (.int .i64 3) := (blk_cell BK137.out 5).trans rfl
                                    have hfz118_0 := blk_frozen BK137.out 0
                                    have hfz118_1 := blk_frozen BK137.out 1
                                    have hfz118_2 := blk_frozen BK137.out 2
                                    have hfz118_3 := blk_frozen BK137.out 3
                                    have hfz118_4 := blk_frozen BK137.out 4
                                    have hfz118_5 := blk_frozen BK137.out 5
                                    have hnb119 := NB145_136.out
                                    have hnc119 := NB136_145.out
                                    have hnb120 := NB145_141.out
                                    have hnc120 := NB141_145.out
                                    have hnb121 := NB145_148.out
                                    have hnc121 := NB148_145.out
                                    have hcz122_0 : wc.cell? ⟨gb145, 0, none⟩ = some (.int .i64 (Int.tmod t142 4)) := (blk_cell BK145.out 0).trans rfl
                                    have hcz122_1 : wc.cell? ⟨gb145, 1, none⟩ = some (.int .i64 (Int.tmod t143 3)) := (blk_cell BK145.out 1).trans rfl
                                    have hcz122_2 : wc.cell? ⟨gb145, 2, none⟩ = some (.int .i64 (Int.tmod t144 3)) := (blk_cell BK145.out 2).trans rfl
                                    have hfz122_0 := blk_frozen BK145.out 0
                                    have hfz122_1 := blk_frozen BK145.out 1
                                    have hfz122_2 := blk_frozen BK145.out 2
                                    have hnb123 := NB136_141.out
                                    have hnc123 := NB141_136.out
                                    have hnb124 := NB136_148.out
                                    have hnc124 := NB148_136.out
                                    have hcz125_0 : wc.cell? ⟨gb136, 0, none⟩ = some (.string (⟨#[67, 83, 81, 85, 51, 48, 53, 52, 51, 56, 51]⟩ : ByteArray)) := (blk_cell BK136.out 0).trans rfl
                                    have hcz125_1 : wc.cell? ⟨gb136, 1, none⟩ = some (.int .i64 5) := (blk_cell BK136.out 1).trans rfl
                                    have hcz125_2 : wc.cell? ⟨gb136, 2, none⟩ = some (.int .i64 x3_3) := (blk_cell BK136.out 2).trans rfl
                                    have hcz125_3 : wc.cell? ⟨gb136, 3, none⟩ = some (.bool false) := (blk_cell BK136.out 3).trans rfl
                                    have hcz125_4 : wc.cell? ⟨gb136, 4, none⟩ = some (.int .i64 0) := (blk_cell BK136.out 4).trans rfl
                                    have hcz125_5 : wc.cell? ⟨gb136, 5, none⟩ = some (.int .i64 3) := (blk_cell BK136.out 5).trans rfl
                                    have hfz125_0 := blk_frozen BK136.out 0
                                    have hfz125_1 := blk_frozen BK136.out 1
                                    have hfz125_2 := blk_frozen BK136.out 2
                                    have hfz125_3 := blk_frozen BK136.out 3
                                    have hfz125_4 := blk_frozen BK136.out 4
                                    have hfz125_5 := blk_frozen BK136.out 5
                                    have hnb126 := NB141_148.out
                                    have hnc126 := NB148_141.out
                                    have hcz127_0 : wc.cell? ⟨gb141, 0, none⟩ = some (.int .i64 (Int.tmod t138 4)) := (blk_cell BK141.out 0).trans rfl
                                    have hcz127_1 : wc.cell? ⟨gb141, 1, none⟩ = some (.int .i64 (Int.tmod t139 3)) := (blk_cell BK141.out 1).trans rfl
                                    have hcz127_2 : wc.cell? ⟨gb141, 2, none⟩ = some (.int .i64 (Int.tmod t140 3)) := (blk_cell BK141.out 2).trans rfl
                                    have hfz127_0 := blk_frozen BK141.out 0
                                    have hfz127_1 := blk_frozen BK141.out 1
                                    have hfz127_2 := blk_frozen BK141.out 2
                                    go_wp2_with (first | ((with_reducible refine gate_callee (f := 15) rfl ?_); refine goesL_ (some 96) rfl rfl Try.func15 (by kernel_rfl) rfl #[.agg #[.string (⟨#[67, 83, 81, 85, 51, 48, 53, 52, 51, 56, 51]⟩ : ByteArray), .int .i64 5, .int .i64 x138002_27, .bool false, .int .i64 0, .int .i64 3], .agg #[.int .i64 (Int.tmod t142 4), .int .i64 (Int.tmod t143 3), .int .i64 (Int.tmod t144 3)], .agg #[.string (⟨#[67, 83, 81, 85, 51, 48, 53, 52, 51, 56, 51]⟩ : ByteArray), .int .i64 5, .int .i64 x3_3, .bool false, .int .i64 0, .int .i64 3], .agg #[.int .i64 (Int.tmod t138 4), .int .i64 (Int.tmod t139 3), .int .i64 (Int.tmod t140 3)]] rfl (by (try simp only [List.map_toArray, List.map_cons, List.map_nil]); first | done | rfl | (simp only [List.length_drop, List.length_take]; rfl)) ?_; (with_reducible refine (impl_KeepsApart.calls kj83 (⟨#[67, 83, 81, 85, 51, 48, 53, 52, 51, 56, 51]⟩ : ByteArray) 5 x138002_27 false 0 3 (Int.tmod t142 4) (Int.tmod t143 3) (Int.tmod t144 3) (⟨#[67, 83, 81, 85, 51, 48, 53, 52, 51, 56, 51]⟩ : ByteArray) 5 x3_3 false 0 3 (Int.tmod t138 4) (Int.tmod t139 3) (Int.tmod t140 3) t149 _ A107.out).mono ?_); rintro e w128 ⟨rfl, hb⟩; refine ⟨_, rfl, ?_⟩; have n0_ := Aside0.mk (blk_below (g := gb136) (o := .cells #[.string (⟨#[67, 83, 81, 85, 51, 48, 53, 52, 51, 56, 51]⟩ : ByteArray), .int .i64 5, .int .i64 x3_3, .bool false, .int .i64 0, .int .i64 3] 29 (0, 0)) (by (with_reducible repeat (first | refine blk_drewN ?_ _ | refine blk_drew ?_ | refine blk_alloc ?_ _)); exact BK136.out) hb); have n1_ := Aside0.mk (blk_below (g := gb137) (o := .cells #[.string (⟨#[67, 83, 81, 85, 51, 48, 53, 52, 51, 56, 51]⟩ : ByteArray), .int .i64 5, .int .i64 x138002_27, .bool false, .int .i64 0, .int .i64 3] 29 (0, 0)) (by (with_reducible repeat (first | refine blk_drewN ?_ _ | refine blk_drew ?_ | refine blk_alloc ?_ _)); exact BK137.out) hb); have n2_ := Aside0.mk (blk_below (g := gb141) (o := .cells #[.int .i64 (Int.tmod t138 4), .int .i64 (Int.tmod t139 3), .int .i64 (Int.tmod t140 3)] 31 (0, 0)) (by (with_reducible repeat (first | refine blk_drewN ?_ _ | refine blk_drew ?_ | refine blk_alloc ?_ _)); exact BK141.out) hb); have n3_ := Aside0.mk (blk_below (g := gb145) (o := .cells #[.int .i64 (Int.tmod t142 4), .int .i64 (Int.tmod t143 3), .int .i64 (Int.tmod t144 3)] 31 (0, 0)) (by (with_reducible repeat (first | refine blk_drewN ?_ _ | refine blk_drew ?_ | refine blk_alloc ?_ _)); exact BK145.out) hb); have n4_ := Aside0.mk (blk_below (g := gb148) (o := .cells #[.int .i64 x149000_83, .int .i64 (Int.tmod t143 3), .int .i64 (Int.tmod t144 3)] 31 (0, 0)) (by (with_reducible repeat (first | refine blk_drewN ?_ _ | refine blk_drew ?_ | refine blk_alloc ?_ _)); exact BK148.out) hb); have n5_ := Aside0.mk (below_step (by repeat (first | (with_reducible first | exact HB.out | apply below_alloc | apply pw_below_drewN | apply below_drew1 | refine below_set ?_ GE136.out | refine below_set ?_ GE137.out | refine below_set ?_ GE141.out | refine below_set ?_ GE145.out | refine below_set ?_ GE148.out) | exact HB.out)) hb); clear BK136; clear BK137; clear BK141; clear BK145; clear BK148; clear HB; have BK136 := n0_; have BK137 := n1_; have BK141 := n2_; have BK145 := n3_; have BK148 := n4_; have HB := n5_; clear n0_ n1_ n2_ n3_ n4_ n5_; (try clear hb); (try clear hb2); (try clear hk); (try clear hi); have hcz129_0 : w128.cell? ⟨gb136, 0, none⟩ = some (.string (⟨#[67, 83, 81, 85, 51, 48, 53, 52, 51, 56, 51]⟩ : ByteArray)) := (blk_cell BK136.out 0).trans rfl; have hcz129_1 : w128.cell? ⟨gb136, 1, none⟩ = some (.int .i64 5) := (blk_cell BK136.out 1).trans rfl; have hcz129_2 : w128.cell? ⟨gb136, 2, none⟩ = some (.int .i64 x3_3) := (blk_cell BK136.out 2).trans rfl; have hcz129_3 : w128.cell? ⟨gb136, 3, none⟩ = some (.bool false) := (blk_cell BK136.out 3).trans rfl; have hcz129_4 : w128.cell? ⟨gb136, 4, none⟩ = some (.int .i64 0) := (blk_cell BK136.out 4).trans rfl; have hcz129_5 : w128.cell? ⟨gb136, 5, none⟩ = some (.int .i64 3) := (blk_cell BK136.out 5).trans rfl; have hfz129_0 := blk_frozen BK136.out 0; have hfz129_1 := blk_frozen BK136.out 1; have hfz129_2 := blk_frozen BK136.out 2; have hfz129_3 := blk_frozen BK136.out 3; have hfz129_4 := blk_frozen BK136.out 4; have hfz129_5 := blk_frozen BK136.out 5) | (go_at_call 16; (with_reducible refine (impl_BoxOk.calls kj83 (⟨#[67, 83, 81, 85, 51, 48, 53, 52, 51, 56, 51]⟩ : ByteArray) 5 x3_3 false 0 3 true _ A109.out).mono ?_); rintro e w130 ⟨rfl, hb⟩; have n0_ := Aside0.mk (blk_below (g := gb136) (o := .cells #[.string (⟨#[67, 83, 81, 85, 51, 48, 53, 52, 51, 56, 51]⟩ : ByteArray), .int .i64 5, .int .i64 x3_3, .bool false, .int .i64 0, .int .i64 3] 29 (0, 0)) (by (with_reducible repeat (first | refine blk_drewN ?_ _ | refine blk_drew ?_ | refine blk_alloc ?_ _)); exact BK136.out) hb); have n1_ := Aside0.mk (blk_below (g := gb137) (o := .cells #[.string (⟨#[67, 83, 81, 85, 51, 48, 53, 52, 51, 56, 51]⟩ : ByteArray), .int .i64 5, .int .i64 x138002_27, .bool false, .int .i64 0, .int .i64 3] 29 (0, 0)) (by (with_reducible repeat (first | refine blk_drewN ?_ _ | refine blk_drew ?_ | refine blk_alloc ?_ _)); exact BK137.out) hb); have n2_ := Aside0.mk (blk_below (g := gb141) (o := .cells #[.int .i64 (Int.tmod t138 4), .int .i64 (Int.tmod t139 3), .int .i64 (Int.tmod t140 3)] 31 (0, 0)) (by (with_reducible repeat (first | refine blk_drewN ?_ _ | refine blk_drew ?_ | refine blk_alloc ?_ _)); exact BK141.out) hb); have n3_ := Aside0.mk (blk_below (g := gb145) (o := .cells #[.int .i64 (Int.tmod t142 4), .int .i64 (Int.tmod t143 3), .int .i64 (Int.tmod t144 3)] 31 (0, 0)) (by (with_reducible repeat (first | refine blk_drewN ?_ _ | refine blk_drew ?_ | refine blk_alloc ?_ _)); exact BK145.out) hb); have n4_ := Aside0.mk (blk_below (g := gb148) (o := .cells #[.int .i64 x149000_83, .int .i64 (Int.tmod t143 3), .int .i64 (Int.tmod t144 3)] 31 (0, 0)) (by (with_reducible repeat (first | refine blk_drewN ?_ _ | refine blk_drew ?_ | refine blk_alloc ?_ _)); exact BK148.out) hb); have n5_ := Aside0.mk (below_step (by repeat (first | (with_reducible first | exact HB.out | apply below_alloc | apply pw_below_drewN | apply below_drew1 | refine below_set ?_ GE136.out | refine below_set ?_ GE137.out | refine below_set ?_ GE141.out | refine below_set ?_ GE145.out | refine below_set ?_ GE148.out) | exact HB.out)) hb); clear BK136; clear BK137; clear BK141; clear BK145; clear BK148; clear HB; have BK136 := n0_; have BK137 := n1_; have BK141 := n2_; have BK145 := n3_; have BK148 := n4_; have HB := n5_; clear n0_ n1_ n2_ n3_ n4_ n5_; (try clear hb); (try clear hb2); (try clear hk); (try clear hi); have hcz131_0 : w130.cell? ⟨gb136, 0, none⟩ = some (.string (⟨#[67, 83, 81, 85, 51, 48, 53, 52, 51, 56, 51]⟩ : ByteArray)) := (blk_cell BK136.out 0).trans rfl; have hcz131_1 : w130.cell? ⟨gb136, 1, none⟩ = some (.int .i64 5) := (blk_cell BK136.out 1).trans rfl; have hcz131_2 : w130.cell? ⟨gb136, 2, none⟩ = some (.int .i64 x3_3) := (blk_cell BK136.out 2).trans rfl; have hcz131_3 : w130.cell? ⟨gb136, 3, none⟩ = some (.bool false) := (blk_cell BK136.out 3).trans rfl; have hcz131_4 : w130.cell? ⟨gb136, 4, none⟩ = some (.int .i64 0) := (blk_cell BK136.out 4).trans rfl; have hcz131_5 : w130.cell? ⟨gb136, 5, none⟩ = some (.int .i64 3) := (blk_cell BK136.out 5).trans rfl; have hfz131_0 := blk_frozen BK136.out 0; have hfz131_1 := blk_frozen BK136.out 1; have hfz131_2 := blk_frozen BK136.out 2; have hfz131_3 := blk_frozen BK136.out 3; have hfz131_4 := blk_frozen BK136.out 4; have hfz131_5 := blk_frozen BK136.out 5; have hcz132_0 : w130.cell? ⟨gb141, 0, none⟩ = some (.int .i64 (Int.tmod t138 4)) := (blk_cell BK141.out 0).trans rfl; have hcz132_1 : w130.cell? ⟨gb141, 1, none⟩ = some (.int .i64 (Int.tmod t139 3)) := (blk_cell BK141.out 1).trans rfl; have hcz132_2 : w130.cell? ⟨gb141, 2, none⟩ = some (.int .i64 (Int.tmod t140 3)) := (blk_cell BK141.out 2).trans rfl; have hfz132_0 := blk_frozen BK141.out 0; have hfz132_1 := blk_frozen BK141.out 1; have hfz132_2 := blk_frozen BK141.out 2; have hcz133_0 : w130.cell? ⟨gb137, 0, none⟩ = some (.string (⟨#[67, 83, 81, 85, 51, 48, 53, 52, 51, 56, 51]⟩ : ByteArray)) := (blk_cell BK137.out 0).trans rfl; have hcz133_1 : w130.cell? ⟨gb137, 1, none⟩ = some (.int .i64 5) := (blk_cell BK137.out 1).trans rfl; have hcz133_2 : w130.cell? ⟨gb137, 2, none⟩ = some (.int .i64 x138002_27) := (blk_cell BK137.out 2).trans rfl; have hcz133_3 : w130.cell? ⟨gb137, 3, none⟩ = some (.bool false) := (blk_cell BK137.out 3).trans rfl; have hcz133_4 : w130.cell? ⟨gb137, 4, none⟩ = some (.int .i64 0) := (blk_cell BK137.out 4).trans rfl; have hcz133_5 : w130.cell? ⟨gb137, 5, none⟩ = some (.int .i64 3) := (blk_cell BK137.out 5).trans rfl; have hfz133_0 := blk_frozen BK137.out 0; have hfz133_1 := blk_frozen BK137.out 1; have hfz133_2 := blk_frozen BK137.out 2; have hfz133_3 := blk_frozen BK137.out 3; have hfz133_4 := blk_frozen BK137.out 4; have hfz133_5 := blk_frozen BK137.out 5; have hcz134_0 : w130.cell? ⟨gb148, 0, none⟩ = some (.int .i64 x149000_83) := (blk_cell BK148.out 0).trans rfl; have hcz134_1 : w130.cell? ⟨gb148, 1, none⟩ = some (.int .i64 (Int.tmod t143 3)) := (blk_cell BK148.out 1).trans rfl; have hcz134_2 : w130.cell? ⟨gb148, 2, none⟩ = some (.int .i64 (Int.tmod t144 3)) := (blk_cell BK148.out 2).trans rfl; have hfz134_0 := blk_frozen BK148.out 0; have hfz134_1 := blk_frozen BK148.out 1; have hfz134_2 := blk_frozen BK148.out 2) | (go_at_call 15; (with_reducible refine (impl_KeepsApart.calls kj83 (⟨#[67, 83, 81, 85, 51, 48, 53, 52, 51, 56, 51]⟩ : ByteArray) 5 x3_3 false 0 3 (Int.tmod t138 4) (Int.tmod t139 3) (Int.tmod t140 3) (⟨#[67, 83, 81, 85, 51, 48, 53, 52, 51, 56, 51]⟩ : ByteArray) 5 x138002_27 false 0 3 x149000_83 (Int.tmod t143 3) (Int.tmod t144 3) t151 _ A111.out).mono ?_); rintro e w135 ⟨rfl, hb⟩; have n0_ := Aside0.mk (blk_below (g := gb136) (o := .cells #[.string (⟨#[67, 83, 81, 85, 51, 48, 53, 52, 51, 56, 51]⟩ : ByteArray), .int .i64 5, .int .i64 x3_3, .bool false, .int .i64 0, .int .i64 3] 29 (0, 0)) (by (with_reducible repeat (first | refine blk_drewN ?_ _ | refine blk_drew ?_ | refine blk_alloc ?_ _)); exact BK136.out) hb); have n1_ := Aside0.mk (blk_below (g := gb137) (o := .cells #[.string (⟨#[67, 83, 81, 85, 51, 48, 53, 52, 51, 56, 51]⟩ : ByteArray), .int .i64 5, .int .i64 x138002_27, .bool false, .int .i64 0, .int .i64 3] 29 (0, 0)) (by (with_reducible repeat (first | refine blk_drewN ?_ _ | refine blk_drew ?_ | refine blk_alloc ?_ _)); exact BK137.out) hb); have n2_ := Aside0.mk (blk_below (g := gb141) (o := .cells #[.int .i64 (Int.tmod t138 4), .int .i64 (Int.tmod t139 3), .int .i64 (Int.tmod t140 3)] 31 (0, 0)) (by (with_reducible repeat (first | refine blk_drewN ?_ _ | refine blk_drew ?_ | refine blk_alloc ?_ _)); exact BK141.out) hb); have n3_ := Aside0.mk (blk_below (g := gb145) (o := .cells #[.int .i64 (Int.tmod t142 4), .int .i64 (Int.tmod t143 3), .int .i64 (Int.tmod t144 3)] 31 (0, 0)) (by (with_reducible repeat (first | refine blk_drewN ?_ _ | refine blk_drew ?_ | refine blk_alloc ?_ _)); exact BK145.out) hb); have n4_ := Aside0.mk (blk_below (g := gb148) (o := .cells #[.int .i64 x149000_83, .int .i64 (Int.tmod t143 3), .int .i64 (Int.tmod t144 3)] 31 (0, 0)) (by (with_reducible repeat (first | refine blk_drewN ?_ _ | refine blk_drew ?_ | refine blk_alloc ?_ _)); exact BK148.out) hb); have n5_ := Aside0.mk (below_step (by repeat (first | (with_reducible first | exact HB.out | apply below_alloc | apply pw_below_drewN | apply below_drew1 | refine below_set ?_ GE136.out | refine below_set ?_ GE137.out | refine below_set ?_ GE141.out | refine below_set ?_ GE145.out | refine below_set ?_ GE148.out) | exact HB.out)) hb); clear BK136; clear BK137; clear BK141; clear BK145; clear BK148; clear HB; have BK136 := n0_; have BK137 := n1_; have BK141 := n2_; have BK145 := n3_; have BK148 := n4_; have HB := n5_; clear n0_ n1_ n2_ n3_ n4_ n5_; (try clear hb); (try clear hb2); (try clear hk); (try clear hi)))
                                    go_ret
                                    exact ⟨by first | rfl | (simp [errW_none, errW_some] <;> rfl) | (simp [*, errW_none, errW_some] <;> rfl), by repeat (first | (with_reducible first | exact HB.out | apply below_alloc | apply pw_below_drewN | apply below_drew1 | refine below_set ?_ GE136.out | refine below_set ?_ GE137.out | refine below_set ?_ GE141.out | refine below_set ?_ GE145.out | refine below_set ?_ GE148.out) | exact HB.out)⟩
                                  · rw [if_neg c113] at H
                                    have c113b0 : (t132 == 0) = false := beq_eq_false_iff_ne.mpr c113
                                    have c113b1 : (t132 != 0) = true := bne_iff_ne.mpr c113
                                    obtain rfl := Option.some.inj H
                                    have hnb136 := NB137_136.out
                                    have hnc136 := NB136_137.out
                                    have hnb137 := NB137_141.out
                                    have hnc137 := NB141_137.out
                                    have hnb138 := NB137_145.out
                                    have hnc138 := NB145_137.out
                                    have hnb139 := NB137_148.out
                                    have hnc139 := NB148_137.out
                                    have hcz140_0 : wc.cell? ⟨gb137, 0, none⟩ = some (.string (⟨#[67, 83, 81, 85, 51, 48, 53, 52, 51, 56, 51]⟩ : ByteArray)) := (blk_cell BK137.out 0).trans rfl
                                    have hcz140_1 : wc.cell? ⟨gb137, 1, none⟩ = some (.int .i64 5) := (blk_cell BK137.out 1).trans rfl
                                    have hcz140_2 : wc.cell? ⟨gb137, 2, none⟩ = some (.int .i64 x138002_27) := (blk_cell BK137.out 2).trans rfl
                                    have hcz140_3 : wc.cell? ⟨gb137, 3, none⟩ = some (.bool false) := (blk_cell BK137.out 3).trans rfl
                                    have hcz140_4 : wc.cell? ⟨gb137, 4, none⟩ = some (.int .i64 0) := (blk_cell BK137.out 4).trans rfl
                                    have hcz140_5 : wc.cell? ⟨gb137, 5, none⟩ = some (.int .i64 3) := (blk_cell BK137.out 5).trans rfl
                                    have hfz140_0 := blk_frozen BK137.out 0
                                    have hfz140_1 := blk_frozen BK137.out 1
                                    have hfz140_2 := blk_frozen BK137.out 2
                                    have hfz140_3 := blk_frozen BK137.out 3
                                    have hfz140_4 := blk_frozen BK137.out 4
                                    have hfz140_5 := blk_frozen BK137.out 5
                                    have hnb141 := NB145_136.out
                                    have hnc141 := NB136_145.out
                                    have hnb142 := NB145_141.out
                                    have hnc142 := NB141_145.out
                                    have hnb143 := NB145_148.out
                                    have hnc143 := NB148_145.out
                                    have hcz144_0 : wc.cell? ⟨gb145, 0, none⟩ = some (.int .i64 (Int.tmod t142 4)) := (blk_cell BK145.out 0).trans rfl
                                    have hcz144_1 : wc.cell? ⟨gb145, 1, none⟩ = some (.int .i64 (Int.tmod t143 3)) := (blk_cell BK145.out 1).trans rfl
                                    have hcz144_2 : wc.cell? ⟨gb145, 2, none⟩ = some (.int .i64 (Int.tmod t144 3)) := (blk_cell BK145.out 2).trans rfl
                                    have hfz144_0 := blk_frozen BK145.out 0
                                    have hfz144_1 := blk_frozen BK145.out 1
                                    have hfz144_2 := blk_frozen BK145.out 2
                                    have hnb145 := NB136_141.out
                                    have hnc145 := NB141_136.out
                                    have hnb146 := NB136_148.out
                                    have hnc146 := NB148_136.out
                                    have hcz147_0 : wc.cell? ⟨gb136, 0, none⟩ = some (.string (⟨#[67, 83, 81, 85, 51, 48, 53, 52, 51, 56, 51]⟩ : ByteArray)) := (blk_cell BK136.out 0).trans rfl
                                    have hcz147_1 : wc.cell? ⟨gb136, 1, none⟩ = some (.int .i64 5) := (blk_cell BK136.out 1).trans rfl
                                    have hcz147_2 : wc.cell? ⟨gb136, 2, none⟩ = some (.int .i64 x3_3) := (blk_cell BK136.out 2).trans rfl
                                    have hcz147_3 : wc.cell? ⟨gb136, 3, none⟩ = some (.bool false) := (blk_cell BK136.out 3).trans rfl
                                    have hcz147_4 : wc.cell? ⟨gb136, 4, none⟩ = some (.int .i64 0) := (blk_cell BK136.out 4).trans rfl
                                    have hcz147_5 : wc.cell? ⟨gb136, 5, none⟩ = some (.int .i64 3) := (blk_cell BK136.out 5).trans rfl
                                    have hfz147_0 := blk_frozen BK136.out 0
                                    have hfz147_1 := blk_frozen BK136.out 1
                                    have hfz147_2 := blk_frozen BK136.out 2
                                    have hfz147_3 := blk_frozen BK136.out 3
                                    have hfz147_4 := blk_frozen BK136.out 4
                                    have hfz147_5 := blk_frozen BK136.out 5
                                    have hnb148 := NB141_148.out
                                    have hnc148 := NB148_141.out
                                    have hcz149_0 : wc.cell? ⟨gb141, 0, none⟩ = some (.int .i64 (Int.tmod t138 4)) := (blk_cell BK141.out 0).trans rfl
                                    have hcz149_1 : wc.cell? ⟨gb141, 1, none⟩ = some (.int .i64 (Int.tmod t139 3)) := (blk_cell BK141.out 1).trans rfl
                                    have hcz149_2 : wc.cell? ⟨gb141, 2, none⟩ = some (.int .i64 (Int.tmod t140 3)) := (blk_cell BK141.out 2).trans rfl
                                    have hfz149_0 := blk_frozen BK141.out 0
                                    have hfz149_1 := blk_frozen BK141.out 1
                                    have hfz149_2 := blk_frozen BK141.out 2
                                    go_wp2_with (first | ((with_reducible refine gate_callee (f := 15) rfl ?_); refine goesL_ (some 96) rfl rfl Try.func15 (by kernel_rfl) rfl #[.agg #[.string (⟨#[67, 83, 81, 85, 51, 48, 53, 52, 51, 56, 51]⟩ : ByteArray), .int .i64 5, .int .i64 x138002_27, .bool false, .int .i64 0, .int .i64 3], .agg #[.int .i64 (Int.tmod t142 4), .int .i64 (Int.tmod t143 3), .int .i64 (Int.tmod t144 3)], .agg #[.string (⟨#[67, 83, 81, 85, 51, 48, 53, 52, 51, 56, 51]⟩ : ByteArray), .int .i64 5, .int .i64 x3_3, .bool false, .int .i64 0, .int .i64 3], .agg #[.int .i64 (Int.tmod t138 4), .int .i64 (Int.tmod t139 3), .int .i64 (Int.tmod t140 3)]] rfl (by (try simp only [List.map_toArray, List.map_cons, List.map_nil]); first | done | rfl | (simp only [List.length_drop, List.length_take]; rfl)) ?_; (with_reducible refine (impl_KeepsApart.calls kj83 (⟨#[67, 83, 81, 85, 51, 48, 53, 52, 51, 56, 51]⟩ : ByteArray) 5 x138002_27 false 0 3 (Int.tmod t142 4) (Int.tmod t143 3) (Int.tmod t144 3) (⟨#[67, 83, 81, 85, 51, 48, 53, 52, 51, 56, 51]⟩ : ByteArray) 5 x3_3 false 0 3 (Int.tmod t138 4) (Int.tmod t139 3) (Int.tmod t140 3) t149 _ A107.out).mono ?_); rintro e w150 ⟨rfl, hb⟩; refine ⟨_, rfl, ?_⟩; have n0_ := Aside0.mk (blk_below (g := gb136) (o := .cells #[.string (⟨#[67, 83, 81, 85, 51, 48, 53, 52, 51, 56, 51]⟩ : ByteArray), .int .i64 5, .int .i64 x3_3, .bool false, .int .i64 0, .int .i64 3] 29 (0, 0)) (by (with_reducible repeat (first | refine blk_drewN ?_ _ | refine blk_drew ?_ | refine blk_alloc ?_ _)); exact BK136.out) hb); have n1_ := Aside0.mk (blk_below (g := gb137) (o := .cells #[.string (⟨#[67, 83, 81, 85, 51, 48, 53, 52, 51, 56, 51]⟩ : ByteArray), .int .i64 5, .int .i64 x138002_27, .bool false, .int .i64 0, .int .i64 3] 29 (0, 0)) (by (with_reducible repeat (first | refine blk_drewN ?_ _ | refine blk_drew ?_ | refine blk_alloc ?_ _)); exact BK137.out) hb); have n2_ := Aside0.mk (blk_below (g := gb141) (o := .cells #[.int .i64 (Int.tmod t138 4), .int .i64 (Int.tmod t139 3), .int .i64 (Int.tmod t140 3)] 31 (0, 0)) (by (with_reducible repeat (first | refine blk_drewN ?_ _ | refine blk_drew ?_ | refine blk_alloc ?_ _)); exact BK141.out) hb); have n3_ := Aside0.mk (blk_below (g := gb145) (o := .cells #[.int .i64 (Int.tmod t142 4), .int .i64 (Int.tmod t143 3), .int .i64 (Int.tmod t144 3)] 31 (0, 0)) (by (with_reducible repeat (first | refine blk_drewN ?_ _ | refine blk_drew ?_ | refine blk_alloc ?_ _)); exact BK145.out) hb); have n4_ := Aside0.mk (blk_below (g := gb148) (o := .cells #[.int .i64 x149000_83, .int .i64 (Int.tmod t143 3), .int .i64 (Int.tmod t144 3)] 31 (0, 0)) (by (with_reducible repeat (first | refine blk_drewN ?_ _ | refine blk_drew ?_ | refine blk_alloc ?_ _)); exact BK148.out) hb); have n5_ := Aside0.mk (below_step (by repeat (first | (with_reducible first | exact HB.out | apply below_alloc | apply pw_below_drewN | apply below_drew1 | refine below_set ?_ GE136.out | refine below_set ?_ GE137.out | refine below_set ?_ GE141.out | refine below_set ?_ GE145.out | refine below_set ?_ GE148.out) | exact HB.out)) hb); clear BK136; clear BK137; clear BK141; clear BK145; clear BK148; clear HB; have BK136 := n0_; have BK137 := n1_; have BK141 := n2_; have BK145 := n3_; have BK148 := n4_; have HB := n5_; clear n0_ n1_ n2_ n3_ n4_ n5_; (try clear hb); (try clear hb2); (try clear hk); (try clear hi); have hcz151_0 : w150.cell? ⟨gb136, 0, none⟩ = some (.string (⟨#[67, 83, 81, 85, 51, 48, 53, 52, 51, 56, 51]⟩ : ByteArray)) := (blk_cell BK136.out 0).trans rfl; have hcz151_1 : w150.cell? ⟨gb136, 1, none⟩ = some (.int .i64 5) := (blk_cell BK136.out 1).trans rfl; have hcz151_2 : w150.cell? ⟨gb136, 2, none⟩ = some (.int .i64 x3_3) := (blk_cell BK136.out 2).trans rfl; have hcz151_3 : w150.cell? ⟨gb136, 3, none⟩ = some (.bool false) := (blk_cell BK136.out 3).trans rfl; have hcz151_4 : w150.cell? ⟨gb136, 4, none⟩ = some (.int .i64 0) := (blk_cell BK136.out 4).trans rfl; have hcz151_5 : w150.cell? ⟨gb136, 5, none⟩ = some (.int .i64 3) := (blk_cell BK136.out 5).trans rfl; have hfz151_0 := blk_frozen BK136.out 0; have hfz151_1 := blk_frozen BK136.out 1; have hfz151_2 := blk_frozen BK136.out 2; have hfz151_3 := blk_frozen BK136.out 3; have hfz151_4 := blk_frozen BK136.out 4; have hfz151_5 := blk_frozen BK136.out 5) | (go_at_call 16; (with_reducible refine (impl_BoxOk.calls kj83 (⟨#[67, 83, 81, 85, 51, 48, 53, 52, 51, 56, 51]⟩ : ByteArray) 5 x3_3 false 0 3 true _ A109.out).mono ?_); rintro e w152 ⟨rfl, hb⟩; have n0_ := Aside0.mk (blk_below (g := gb136) (o := .cells #[.string (⟨#[67, 83, 81, 85, 51, 48, 53, 52, 51, 56, 51]⟩ : ByteArray), .int .i64 5, .int .i64 x3_3, .bool false, .int .i64 0, .int .i64 3] 29 (0, 0)) (by (with_reducible repeat (first | refine blk_drewN ?_ _ | refine blk_drew ?_ | refine blk_alloc ?_ _)); exact BK136.out) hb); have n1_ := Aside0.mk (blk_below (g := gb137) (o := .cells #[.string (⟨#[67, 83, 81, 85, 51, 48, 53, 52, 51, 56, 51]⟩ : ByteArray), .int .i64 5, .int .i64 x138002_27, .bool false, .int .i64 0, .int .i64 3] 29 (0, 0)) (by (with_reducible repeat (first | refine blk_drewN ?_ _ | refine blk_drew ?_ | refine blk_alloc ?_ _)); exact BK137.out) hb); have n2_ := Aside0.mk (blk_below (g := gb141) (o := .cells #[.int .i64 (Int.tmod t138 4), .int .i64 (Int.tmod t139 3), .int .i64 (Int.tmod t140 3)] 31 (0, 0)) (by (with_reducible repeat (first | refine blk_drewN ?_ _ | refine blk_drew ?_ | refine blk_alloc ?_ _)); exact BK141.out) hb); have n3_ := Aside0.mk (blk_below (g := gb145) (o := .cells #[.int .i64 (Int.tmod t142 4), .int .i64 (Int.tmod t143 3), .int .i64 (Int.tmod t144 3)] 31 (0, 0)) (by (with_reducible repeat (first | refine blk_drewN ?_ _ | refine blk_drew ?_ | refine blk_alloc ?_ _)); exact BK145.out) hb); have n4_ := Aside0.mk (blk_below (g := gb148) (o := .cells #[.int .i64 x149000_83, .int .i64 (Int.tmod t143 3), .int .i64 (Int.tmod t144 3)] 31 (0, 0)) (by (with_reducible repeat (first | refine blk_drewN ?_ _ | refine blk_drew ?_ | refine blk_alloc ?_ _)); exact BK148.out) hb); have n5_ := Aside0.mk (below_step (by repeat (first | (with_reducible first | exact HB.out | apply below_alloc | apply pw_below_drewN | apply below_drew1 | refine below_set ?_ GE136.out | refine below_set ?_ GE137.out | refine below_set ?_ GE141.out | refine below_set ?_ GE145.out | refine below_set ?_ GE148.out) | exact HB.out)) hb); clear BK136; clear BK137; clear BK141; clear BK145; clear BK148; clear HB; have BK136 := n0_; have BK137 := n1_; have BK141 := n2_; have BK145 := n3_; have BK148 := n4_; have HB := n5_; clear n0_ n1_ n2_ n3_ n4_ n5_; (try clear hb); (try clear hb2); (try clear hk); (try clear hi); have hcz153_0 : w152.cell? ⟨gb136, 0, none⟩ = some (.string (⟨#[67, 83, 81, 85, 51, 48, 53, 52, 51, 56, 51]⟩ : ByteArray)) := (blk_cell BK136.out 0).trans rfl; have hcz153_1 : w152.cell? ⟨gb136, 1, none⟩ = some (.int .i64 5) := (blk_cell BK136.out 1).trans rfl; have hcz153_2 : w152.cell? ⟨gb136, 2, none⟩ = some (.int .i64 x3_3) := (blk_cell BK136.out 2).trans rfl; have hcz153_3 : w152.cell? ⟨gb136, 3, none⟩ = some (.bool false) := (blk_cell BK136.out 3).trans rfl; have hcz153_4 : w152.cell? ⟨gb136, 4, none⟩ = some (.int .i64 0) := (blk_cell BK136.out 4).trans rfl; have hcz153_5 : w152.cell? ⟨gb136, 5, none⟩ = some (.int .i64 3) := (blk_cell BK136.out 5).trans rfl; have hfz153_0 := blk_frozen BK136.out 0; have hfz153_1 := blk_frozen BK136.out 1; have hfz153_2 := blk_frozen BK136.out 2; have hfz153_3 := blk_frozen BK136.out 3; have hfz153_4 := blk_frozen BK136.out 4; have hfz153_5 := blk_frozen BK136.out 5; have hcz154_0 : w152.cell? ⟨gb141, 0, none⟩ = some (.int .i64 (Int.tmod t138 4)) := (blk_cell BK141.out 0).trans rfl; have hcz154_1 : w152.cell? ⟨gb141, 1, none⟩ = some (.int .i64 (Int.tmod t139 3)) := (blk_cell BK141.out 1).trans rfl; have hcz154_2 : w152.cell? ⟨gb141, 2, none⟩ = some (.int .i64 (Int.tmod t140 3)) := (blk_cell BK141.out 2).trans rfl; have hfz154_0 := blk_frozen BK141.out 0; have hfz154_1 := blk_frozen BK141.out 1; have hfz154_2 := blk_frozen BK141.out 2; have hcz155_0 : w152.cell? ⟨gb137, 0, none⟩ = some (.string (⟨#[67, 83, 81, 85, 51, 48, 53, 52, 51, 56, 51]⟩ : ByteArray)) := (blk_cell BK137.out 0).trans rfl; have hcz155_1 : w152.cell? ⟨gb137, 1, none⟩ = some (.int .i64 5) := (blk_cell BK137.out 1).trans rfl; have hcz155_2 : w152.cell? ⟨gb137, 2, none⟩ = some (.int .i64 x138002_27) := (blk_cell BK137.out 2).trans rfl; have hcz155_3 : w152.cell? ⟨gb137, 3, none⟩ = some (.bool false) := (blk_cell BK137.out 3).trans rfl; have hcz155_4 : w152.cell? ⟨gb137, 4, none⟩ = some (.int .i64 0) := (blk_cell BK137.out 4).trans rfl; have hcz155_5 : w152.cell? ⟨gb137, 5, none⟩ = some (.int .i64 3) := (blk_cell BK137.out 5).trans rfl; have hfz155_0 := blk_frozen BK137.out 0; have hfz155_1 := blk_frozen BK137.out 1; have hfz155_2 := blk_frozen BK137.out 2; have hfz155_3 := blk_frozen BK137.out 3; have hfz155_4 := blk_frozen BK137.out 4; have hfz155_5 := blk_frozen BK137.out 5; have hcz156_0 : w152.cell? ⟨gb148, 0, none⟩ = some (.int .i64 x149000_83) := (blk_cell BK148.out 0).trans rfl; have hcz156_1 : w152.cell? ⟨gb148, 1, none⟩ = some (.int .i64 (Int.tmod t143 3)) := (blk_cell BK148.out 1).trans rfl; have hcz156_2 : w152.cell? ⟨gb148, 2, none⟩ = some (.int .i64 (Int.tmod t144 3)) := (blk_cell BK148.out 2).trans rfl; have hfz156_0 := blk_frozen BK148.out 0; have hfz156_1 := blk_frozen BK148.out 1; have hfz156_2 := blk_frozen BK148.out 2) | (go_at_call 15; (with_reducible refine (impl_KeepsApart.calls kj83 (⟨#[67, 83, 81, 85, 51, 48, 53, 52, 51, 56, 51]⟩ : ByteArray) 5 x3_3 false 0 3 (Int.tmod t138 4) (Int.tmod t139 3) (Int.tmod t140 3) (⟨#[67, 83, 81, 85, 51, 48, 53, 52, 51, 56, 51]⟩ : ByteArray) 5 x138002_27 false 0 3 x149000_83 (Int.tmod t143 3) (Int.tmod t144 3) t151 _ A111.out).mono ?_); rintro e w157 ⟨rfl, hb⟩; have n0_ := Aside0.mk (blk_below (g := gb136) (o := .cells #[.string (⟨#[67, 83, 81, 85, 51, 48, 53, 52, 51, 56, 51]⟩ : ByteArray), .int .i64 5, .int .i64 x3_3, .bool false, .int .i64 0, .int .i64 3] 29 (0, 0)) (by (with_reducible repeat (first | refine blk_drewN ?_ _ | refine blk_drew ?_ | refine blk_alloc ?_ _)); exact BK136.out) hb); have n1_ := Aside0.mk (blk_below (g := gb137) (o := .cells #[.string (⟨#[67, 83, 81, 85, 51, 48, 53, 52, 51, 56, 51]⟩ : ByteArray), .int .i64 5, .int .i64 x138002_27, .bool false, .int .i64 0, .int .i64 3] 29 (0, 0)) (by (with_reducible repeat (first | refine blk_drewN ?_ _ | refine blk_drew ?_ | refine blk_alloc ?_ _)); exact BK137.out) hb); have n2_ := Aside0.mk (blk_below (g := gb141) (o := .cells #[.int .i64 (Int.tmod t138 4), .int .i64 (Int.tmod t139 3), .int .i64 (Int.tmod t140 3)] 31 (0, 0)) (by (with_reducible repeat (first | refine blk_drewN ?_ _ | refine blk_drew ?_ | refine blk_alloc ?_ _)); exact BK141.out) hb); have n3_ := Aside0.mk (blk_below (g := gb145) (o := .cells #[.int .i64 (Int.tmod t142 4), .int .i64 (Int.tmod t143 3), .int .i64 (Int.tmod t144 3)] 31 (0, 0)) (by (with_reducible repeat (first | refine blk_drewN ?_ _ | refine blk_drew ?_ | refine blk_alloc ?_ _)); exact BK145.out) hb); have n4_ := Aside0.mk (blk_below (g := gb148) (o := .cells #[.int .i64 x149000_83, .int .i64 (Int.tmod t143 3), .int .i64 (Int.tmod t144 3)] 31 (0, 0)) (by (with_reducible repeat (first | refine blk_drewN ?_ _ | refine blk_drew ?_ | refine blk_alloc ?_ _)); exact BK148.out) hb); have n5_ := Aside0.mk (below_step (by repeat (first | (with_reducible first | exact HB.out | apply below_alloc | apply pw_below_drewN | apply below_drew1 | refine below_set ?_ GE136.out | refine below_set ?_ GE137.out | refine below_set ?_ GE141.out | refine below_set ?_ GE145.out | refine below_set ?_ GE148.out) | exact HB.out)) hb); clear BK136; clear BK137; clear BK141; clear BK145; clear BK148; clear HB; have BK136 := n0_; have BK137 := n1_; have BK141 := n2_; have BK145 := n3_; have BK148 := n4_; have HB := n5_; clear n0_ n1_ n2_ n3_ n4_ n5_; (try clear hb); (try clear hb2); (try clear hk); (try clear hi)))
                                    go_ret
                                    exact ⟨by first | rfl | (simp [errW_none, errW_some] <;> rfl) | (simp [*, errW_none, errW_some] <;> rfl), by repeat (first | (with_reducible first | exact HB.out | apply below_alloc | apply pw_below_drewN | apply below_drew1 | refine below_set ?_ GE136.out | refine below_set ?_ GE137.out | refine below_set ?_ GE141.out | refine below_set ?_ GE145.out | refine below_set ?_ GE148.out) | exact HB.out)⟩
                                · rw [if_neg c112] at H
                                  have c112b0 : (t151 == (t132 != 3)) = false := by simpa using c112
                                  (try (have c112b1 : decide (t151 = (t132 != 3)) = false := by simpa using c112))
                                  (try (have c112b2 : (t151 == (t132 != 3)) = false := by simpa using c112))
                                  (try (have c112b3 : ¬ (t151 = (t132 != 3)) := by simpa using c112))
                                  clear c112
                                  obtain rfl := Option.some.inj H
                                  have hnb158 := NB137_136.out
                                  have hnc158 := NB136_137.out
                                  have hnb159 := NB137_141.out
                                  have hnc159 := NB141_137.out
                                  have hnb160 := NB137_145.out
                                  have hnc160 := NB145_137.out
                                  have hnb161 := NB137_148.out
                                  have hnc161 := NB148_137.out
                                  have hcz162_0 : wc.cell? ⟨gb137, 0, none⟩ = some (.string (⟨#[67, 83, 81, 85, 51, 48, 53, 52, 51, 56, 51]⟩ : ByteArray)) := (blk_cell BK137.out 0).trans rfl
                                  have hcz162_1 : wc.cell? ⟨gb137, 1, none⟩ = some (.int .i64 5) := (blk_cell BK137.out 1).trans rfl
                                  have hcz162_2 : wc.cell? ⟨gb137, 2, none⟩ = some (.int .i64 x138002_27) := (blk_cell BK137.out 2).trans rfl
                                  have hcz162_3 : wc.cell? ⟨gb137, 3, none⟩ = some (.bool false) := (blk_cell BK137.out 3).trans rfl
                                  have hcz162_4 : wc.cell? ⟨gb137, 4, none⟩ = some (.int .i64 0) := (blk_cell BK137.out 4).trans rfl
                                  have hcz162_5 : wc.cell? ⟨gb137, 5, none⟩ = some (.int .i64 3) := (blk_cell BK137.out 5).trans rfl
                                  have hfz162_0 := blk_frozen BK137.out 0
                                  have hfz162_1 := blk_frozen BK137.out 1
                                  have hfz162_2 := blk_frozen BK137.out 2
                                  have hfz162_3 := blk_frozen BK137.out 3
                                  have hfz162_4 := blk_frozen BK137.out 4
                                  have hfz162_5 := blk_frozen BK137.out 5
                                  have hnb163 := NB145_136.out
                                  have hnc163 := NB136_145.out
                                  have hnb164 := NB145_141.out
                                  have hnc164 := NB141_145.out
                                  have hnb165 := NB145_148.out
                                  have hnc165 := NB148_145.out
                                  have hcz166_0 : wc.cell? ⟨gb145, 0, none⟩ = some (.int .i64 (Int.tmod t142 4)) := (blk_cell BK145.out 0).trans rfl
                                  have hcz166_1 : wc.cell? ⟨gb145, 1, none⟩ = some (.int .i64 (Int.tmod t143 3)) := (blk_cell BK145.out 1).trans rfl
                                  have hcz166_2 : wc.cell? ⟨gb145, 2, none⟩ = some (.int .i64 (Int.tmod t144 3)) := (blk_cell BK145.out 2).trans rfl
                                  have hfz166_0 := blk_frozen BK145.out 0
                                  have hfz166_1 := blk_frozen BK145.out 1
                                  have hfz166_2 := blk_frozen BK145.out 2
                                  have hnb167 := NB136_141.out
                                  have hnc167 := NB141_136.out
                                  have hnb168 := NB136_148.out
                                  have hnc168 := NB148_136.out
                                  have hcz169_0 : wc.cell? ⟨gb136, 0, none⟩ = some (.string (⟨#[67, 83, 81, 85, 51, 48, 53, 52, 51, 56, 51]⟩ : ByteArray)) := (blk_cell BK136.out 0).trans rfl
                                  have hcz169_1 : wc.cell? ⟨gb136, 1, none⟩ = some (.int .i64 5) := (blk_cell BK136.out 1).trans rfl
                                  have hcz169_2 : wc.cell? ⟨gb136, 2, none⟩ = some (.int .i64 x3_3) := (blk_cell BK136.out 2).trans rfl
                                  have hcz169_3 : wc.cell? ⟨gb136, 3, none⟩ = some (.bool false) := (blk_cell BK136.out 3).trans rfl
                                  have hcz169_4 : wc.cell? ⟨gb136, 4, none⟩ = some (.int .i64 0) := (blk_cell BK136.out 4).trans rfl
                                  have hcz169_5 : wc.cell? ⟨gb136, 5, none⟩ = some (.int .i64 3) := (blk_cell BK136.out 5).trans rfl
                                  have hfz169_0 := blk_frozen BK136.out 0
                                  have hfz169_1 := blk_frozen BK136.out 1
                                  have hfz169_2 := blk_frozen BK136.out 2
                                  have hfz169_3 := blk_frozen BK136.out 3
                                  have hfz169_4 := blk_frozen BK136.out 4
                                  have hfz169_5 := blk_frozen BK136.out 5
                                  have hnb170 := NB141_148.out
                                  have hnc170 := NB148_141.out
                                  have hcz171_0 : wc.cell? ⟨gb141, 0, none⟩ = some (.int .i64 (Int.tmod t138 4)) := (blk_cell BK141.out 0).trans rfl
                                  have hcz171_1 : wc.cell? ⟨gb141, 1, none⟩ = some (.int .i64 (Int.tmod t139 3)) := (blk_cell BK141.out 1).trans rfl
                                  have hcz171_2 : wc.cell? ⟨gb141, 2, none⟩ = some (.int .i64 (Int.tmod t140 3)) := (blk_cell BK141.out 2).trans rfl
                                  have hfz171_0 := blk_frozen BK141.out 0
                                  have hfz171_1 := blk_frozen BK141.out 1
                                  have hfz171_2 := blk_frozen BK141.out 2
                                  go_wp2_with (first | ((with_reducible refine gate_callee (f := 15) rfl ?_); refine goesL_ (some 96) rfl rfl Try.func15 (by kernel_rfl) rfl #[.agg #[.string (⟨#[67, 83, 81, 85, 51, 48, 53, 52, 51, 56, 51]⟩ : ByteArray), .int .i64 5, .int .i64 x138002_27, .bool false, .int .i64 0, .int .i64 3], .agg #[.int .i64 (Int.tmod t142 4), .int .i64 (Int.tmod t143 3), .int .i64 (Int.tmod t144 3)], .agg #[.string (⟨#[67, 83, 81, 85, 51, 48, 53, 52, 51, 56, 51]⟩ : ByteArray), .int .i64 5, .int .i64 x3_3, .bool false, .int .i64 0, .int .i64 3], .agg #[.int .i64 (Int.tmod t138 4), .int .i64 (Int.tmod t139 3), .int .i64 (Int.tmod t140 3)]] rfl (by (try simp only [List.map_toArray, List.map_cons, List.map_nil]); first | done | rfl | (simp only [List.length_drop, List.length_take]; rfl)) ?_; (with_reducible refine (impl_KeepsApart.calls kj83 (⟨#[67, 83, 81, 85, 51, 48, 53, 52, 51, 56, 51]⟩ : ByteArray) 5 x138002_27 false 0 3 (Int.tmod t142 4) (Int.tmod t143 3) (Int.tmod t144 3) (⟨#[67, 83, 81, 85, 51, 48, 53, 52, 51, 56, 51]⟩ : ByteArray) 5 x3_3 false 0 3 (Int.tmod t138 4) (Int.tmod t139 3) (Int.tmod t140 3) t149 _ A107.out).mono ?_); rintro e w172 ⟨rfl, hb⟩; refine ⟨_, rfl, ?_⟩; have n0_ := Aside0.mk (blk_below (g := gb136) (o := .cells #[.string (⟨#[67, 83, 81, 85, 51, 48, 53, 52, 51, 56, 51]⟩ : ByteArray), .int .i64 5, .int .i64 x3_3, .bool false, .int .i64 0, .int .i64 3] 29 (0, 0)) (by (with_reducible repeat (first | refine blk_drewN ?_ _ | refine blk_drew ?_ | refine blk_alloc ?_ _)); exact BK136.out) hb); have n1_ := Aside0.mk (blk_below (g := gb137) (o := .cells #[.string (⟨#[67, 83, 81, 85, 51, 48, 53, 52, 51, 56, 51]⟩ : ByteArray), .int .i64 5, .int .i64 x138002_27, .bool false, .int .i64 0, .int .i64 3] 29 (0, 0)) (by (with_reducible repeat (first | refine blk_drewN ?_ _ | refine blk_drew ?_ | refine blk_alloc ?_ _)); exact BK137.out) hb); have n2_ := Aside0.mk (blk_below (g := gb141) (o := .cells #[.int .i64 (Int.tmod t138 4), .int .i64 (Int.tmod t139 3), .int .i64 (Int.tmod t140 3)] 31 (0, 0)) (by (with_reducible repeat (first | refine blk_drewN ?_ _ | refine blk_drew ?_ | refine blk_alloc ?_ _)); exact BK141.out) hb); have n3_ := Aside0.mk (blk_below (g := gb145) (o := .cells #[.int .i64 (Int.tmod t142 4), .int .i64 (Int.tmod t143 3), .int .i64 (Int.tmod t144 3)] 31 (0, 0)) (by (with_reducible repeat (first | refine blk_drewN ?_ _ | refine blk_drew ?_ | refine blk_alloc ?_ _)); exact BK145.out) hb); have n4_ := Aside0.mk (blk_below (g := gb148) (o := .cells #[.int .i64 x149000_83, .int .i64 (Int.tmod t143 3), .int .i64 (Int.tmod t144 3)] 31 (0, 0)) (by (with_reducible repeat (first | refine blk_drewN ?_ _ | refine blk_drew ?_ | refine blk_alloc ?_ _)); exact BK148.out) hb); have n5_ := Aside0.mk (below_step (by repeat (first | (with_reducible first | exact HB.out | apply below_alloc | apply pw_below_drewN | apply below_drew1 | refine below_set ?_ GE136.out | refine below_set ?_ GE137.out | refine below_set ?_ GE141.out | refine below_set ?_ GE145.out | refine below_set ?_ GE148.out) | exact HB.out)) hb); clear BK136; clear BK137; clear BK141; clear BK145; clear BK148; clear HB; have BK136 := n0_; have BK137 := n1_; have BK141 := n2_; have BK145 := n3_; have BK148 := n4_; have HB := n5_; clear n0_ n1_ n2_ n3_ n4_ n5_; (try clear hb); (try clear hb2); (try clear hk); (try clear hi); have hcz173_0 : w172.cell? ⟨gb136, 0, none⟩ = some (.string (⟨#[67, 83, 81, 85, 51, 48, 53, 52, 51, 56, 51]⟩ : ByteArray)) := (blk_cell BK136.out 0).trans rfl; have hcz173_1 : w172.cell? ⟨gb136, 1, none⟩ = some (.int .i64 5) := (blk_cell BK136.out 1).trans rfl; have hcz173_2 : w172.cell? ⟨gb136, 2, none⟩ = some (.int .i64 x3_3) := (blk_cell BK136.out 2).trans rfl; have hcz173_3 : w172.cell? ⟨gb136, 3, none⟩ = some (.bool false) := (blk_cell BK136.out 3).trans rfl; have hcz173_4 : w172.cell? ⟨gb136, 4, none⟩ = some (.int .i64 0) := (blk_cell BK136.out 4).trans rfl; have hcz173_5 : w172.cell? ⟨gb136, 5, none⟩ = some (.int .i64 3) := (blk_cell BK136.out 5).trans rfl; have hfz173_0 := blk_frozen BK136.out 0; have hfz173_1 := blk_frozen BK136.out 1; have hfz173_2 := blk_frozen BK136.out 2; have hfz173_3 := blk_frozen BK136.out 3; have hfz173_4 := blk_frozen BK136.out 4; have hfz173_5 := blk_frozen BK136.out 5) | (go_at_call 16; (with_reducible refine (impl_BoxOk.calls kj83 (⟨#[67, 83, 81, 85, 51, 48, 53, 52, 51, 56, 51]⟩ : ByteArray) 5 x3_3 false 0 3 true _ A109.out).mono ?_); rintro e w174 ⟨rfl, hb⟩; have n0_ := Aside0.mk (blk_below (g := gb136) (o := .cells #[.string (⟨#[67, 83, 81, 85, 51, 48, 53, 52, 51, 56, 51]⟩ : ByteArray), .int .i64 5, .int .i64 x3_3, .bool false, .int .i64 0, .int .i64 3] 29 (0, 0)) (by (with_reducible repeat (first | refine blk_drewN ?_ _ | refine blk_drew ?_ | refine blk_alloc ?_ _)); exact BK136.out) hb); have n1_ := Aside0.mk (blk_below (g := gb137) (o := .cells #[.string (⟨#[67, 83, 81, 85, 51, 48, 53, 52, 51, 56, 51]⟩ : ByteArray), .int .i64 5, .int .i64 x138002_27, .bool false, .int .i64 0, .int .i64 3] 29 (0, 0)) (by (with_reducible repeat (first | refine blk_drewN ?_ _ | refine blk_drew ?_ | refine blk_alloc ?_ _)); exact BK137.out) hb); have n2_ := Aside0.mk (blk_below (g := gb141) (o := .cells #[.int .i64 (Int.tmod t138 4), .int .i64 (Int.tmod t139 3), .int .i64 (Int.tmod t140 3)] 31 (0, 0)) (by (with_reducible repeat (first | refine blk_drewN ?_ _ | refine blk_drew ?_ | refine blk_alloc ?_ _)); exact BK141.out) hb); have n3_ := Aside0.mk (blk_below (g := gb145) (o := .cells #[.int .i64 (Int.tmod t142 4), .int .i64 (Int.tmod t143 3), .int .i64 (Int.tmod t144 3)] 31 (0, 0)) (by (with_reducible repeat (first | refine blk_drewN ?_ _ | refine blk_drew ?_ | refine blk_alloc ?_ _)); exact BK145.out) hb); have n4_ := Aside0.mk (blk_below (g := gb148) (o := .cells #[.int .i64 x149000_83, .int .i64 (Int.tmod t143 3), .int .i64 (Int.tmod t144 3)] 31 (0, 0)) (by (with_reducible repeat (first | refine blk_drewN ?_ _ | refine blk_drew ?_ | refine blk_alloc ?_ _)); exact BK148.out) hb); have n5_ := Aside0.mk (below_step (by repeat (first | (with_reducible first | exact HB.out | apply below_alloc | apply pw_below_drewN | apply below_drew1 | refine below_set ?_ GE136.out | refine below_set ?_ GE137.out | refine below_set ?_ GE141.out | refine below_set ?_ GE145.out | refine below_set ?_ GE148.out) | exact HB.out)) hb); clear BK136; clear BK137; clear BK141; clear BK145; clear BK148; clear HB; have BK136 := n0_; have BK137 := n1_; have BK141 := n2_; have BK145 := n3_; have BK148 := n4_; have HB := n5_; clear n0_ n1_ n2_ n3_ n4_ n5_; (try clear hb); (try clear hb2); (try clear hk); (try clear hi); have hcz175_0 : w174.cell? ⟨gb136, 0, none⟩ = some (.string (⟨#[67, 83, 81, 85, 51, 48, 53, 52, 51, 56, 51]⟩ : ByteArray)) := (blk_cell BK136.out 0).trans rfl; have hcz175_1 : w174.cell? ⟨gb136, 1, none⟩ = some (.int .i64 5) := (blk_cell BK136.out 1).trans rfl; have hcz175_2 : w174.cell? ⟨gb136, 2, none⟩ = some (.int .i64 x3_3) := (blk_cell BK136.out 2).trans rfl; have hcz175_3 : w174.cell? ⟨gb136, 3, none⟩ = some (.bool false) := (blk_cell BK136.out 3).trans rfl; have hcz175_4 : w174.cell? ⟨gb136, 4, none⟩ = some (.int .i64 0) := (blk_cell BK136.out 4).trans rfl; have hcz175_5 : w174.cell? ⟨gb136, 5, none⟩ = some (.int .i64 3) := (blk_cell BK136.out 5).trans rfl; have hfz175_0 := blk_frozen BK136.out 0; have hfz175_1 := blk_frozen BK136.out 1; have hfz175_2 := blk_frozen BK136.out 2; have hfz175_3 := blk_frozen BK136.out 3; have hfz175_4 := blk_frozen BK136.out 4; have hfz175_5 := blk_frozen BK136.out 5; have hcz176_0 : w174.cell? ⟨gb141, 0, none⟩ = some (.int .i64 (Int.tmod t138 4)) := (blk_cell BK141.out 0).trans rfl; have hcz176_1 : w174.cell? ⟨gb141, 1, none⟩ = some (.int .i64 (Int.tmod t139 3)) := (blk_cell BK141.out 1).trans rfl; have hcz176_2 : w174.cell? ⟨gb141, 2, none⟩ = some (.int .i64 (Int.tmod t140 3)) := (blk_cell BK141.out 2).trans rfl; have hfz176_0 := blk_frozen BK141.out 0; have hfz176_1 := blk_frozen BK141.out 1; have hfz176_2 := blk_frozen BK141.out 2; have hcz177_0 : w174.cell? ⟨gb137, 0, none⟩ = some (.string (⟨#[67, 83, 81, 85, 51, 48, 53, 52, 51, 56, 51]⟩ : ByteArray)) := (blk_cell BK137.out 0).trans rfl; have hcz177_1 : w174.cell? ⟨gb137, 1, none⟩ = some (.int .i64 5) := (blk_cell BK137.out 1).trans rfl; have hcz177_2 : w174.cell? ⟨gb137, 2, none⟩ = some (.int .i64 x138002_27) := (blk_cell BK137.out 2).trans rfl; have hcz177_3 : w174.cell? ⟨gb137, 3, none⟩ = some (.bool false) := (blk_cell BK137.out 3).trans rfl; have hcz177_4 : w174.cell? ⟨gb137, 4, none⟩ = some (.int .i64 0) := (blk_cell BK137.out 4).trans rfl; have hcz177_5 : w174.cell? ⟨gb137, 5, none⟩ = some (.int .i64 3) := (blk_cell BK137.out 5).trans rfl; have hfz177_0 := blk_frozen BK137.out 0; have hfz177_1 := blk_frozen BK137.out 1; have hfz177_2 := blk_frozen BK137.out 2; have hfz177_3 := blk_frozen BK137.out 3; have hfz177_4 := blk_frozen BK137.out 4; have hfz177_5 := blk_frozen BK137.out 5; have hcz178_0 : w174.cell? ⟨gb148, 0, none⟩ = some (.int .i64 x149000_83) := (blk_cell BK148.out 0).trans rfl; have hcz178_1 : w174.cell? ⟨gb148, 1, none⟩ = some (.int .i64 (Int.tmod t143 3)) := (blk_cell BK148.out 1).trans rfl; have hcz178_2 : w174.cell? ⟨gb148, 2, none⟩ = some (.int .i64 (Int.tmod t144 3)) := (blk_cell BK148.out 2).trans rfl; have hfz178_0 := blk_frozen BK148.out 0; have hfz178_1 := blk_frozen BK148.out 1; have hfz178_2 := blk_frozen BK148.out 2) | (go_at_call 15; (with_reducible refine (impl_KeepsApart.calls kj83 (⟨#[67, 83, 81, 85, 51, 48, 53, 52, 51, 56, 51]⟩ : ByteArray) 5 x3_3 false 0 3 (Int.tmod t138 4) (Int.tmod t139 3) (Int.tmod t140 3) (⟨#[67, 83, 81, 85, 51, 48, 53, 52, 51, 56, 51]⟩ : ByteArray) 5 x138002_27 false 0 3 x149000_83 (Int.tmod t143 3) (Int.tmod t144 3) t151 _ A111.out).mono ?_); rintro e w179 ⟨rfl, hb⟩; have n0_ := Aside0.mk (blk_below (g := gb136) (o := .cells #[.string (⟨#[67, 83, 81, 85, 51, 48, 53, 52, 51, 56, 51]⟩ : ByteArray), .int .i64 5, .int .i64 x3_3, .bool false, .int .i64 0, .int .i64 3] 29 (0, 0)) (by (with_reducible repeat (first | refine blk_drewN ?_ _ | refine blk_drew ?_ | refine blk_alloc ?_ _)); exact BK136.out) hb); have n1_ := Aside0.mk (blk_below (g := gb137) (o := .cells #[.string (⟨#[67, 83, 81, 85, 51, 48, 53, 52, 51, 56, 51]⟩ : ByteArray), .int .i64 5, .int .i64 x138002_27, .bool false, .int .i64 0, .int .i64 3] 29 (0, 0)) (by (with_reducible repeat (first | refine blk_drewN ?_ _ | refine blk_drew ?_ | refine blk_alloc ?_ _)); exact BK137.out) hb); have n2_ := Aside0.mk (blk_below (g := gb141) (o := .cells #[.int .i64 (Int.tmod t138 4), .int .i64 (Int.tmod t139 3), .int .i64 (Int.tmod t140 3)] 31 (0, 0)) (by (with_reducible repeat (first | refine blk_drewN ?_ _ | refine blk_drew ?_ | refine blk_alloc ?_ _)); exact BK141.out) hb); have n3_ := Aside0.mk (blk_below (g := gb145) (o := .cells #[.int .i64 (Int.tmod t142 4), .int .i64 (Int.tmod t143 3), .int .i64 (Int.tmod t144 3)] 31 (0, 0)) (by (with_reducible repeat (first | refine blk_drewN ?_ _ | refine blk_drew ?_ | refine blk_alloc ?_ _)); exact BK145.out) hb); have n4_ := Aside0.mk (blk_below (g := gb148) (o := .cells #[.int .i64 x149000_83, .int .i64 (Int.tmod t143 3), .int .i64 (Int.tmod t144 3)] 31 (0, 0)) (by (with_reducible repeat (first | refine blk_drewN ?_ _ | refine blk_drew ?_ | refine blk_alloc ?_ _)); exact BK148.out) hb); have n5_ := Aside0.mk (below_step (by repeat (first | (with_reducible first | exact HB.out | apply below_alloc | apply pw_below_drewN | apply below_drew1 | refine below_set ?_ GE136.out | refine below_set ?_ GE137.out | refine below_set ?_ GE141.out | refine below_set ?_ GE145.out | refine below_set ?_ GE148.out) | exact HB.out)) hb); clear BK136; clear BK137; clear BK141; clear BK145; clear BK148; clear HB; have BK136 := n0_; have BK137 := n1_; have BK141 := n2_; have BK145 := n3_; have BK148 := n4_; have HB := n5_; clear n0_ n1_ n2_ n3_ n4_ n5_; (try clear hb); (try clear hb2); (try clear hk); (try clear hi)))
                                  go_ret
                                  exact ⟨by first | rfl | (simp [errW_none, errW_some] <;> rfl) | (simp [*, errW_none, errW_some] <;> rfl), by repeat (first | (with_reducible first | exact HB.out | apply below_alloc | apply pw_below_drewN | apply below_drew1 | refine below_set ?_ GE136.out | refine below_set ?_ GE137.out | refine below_set ?_ GE141.out | refine below_set ?_ GE145.out | refine below_set ?_ GE148.out) | exact HB.out)⟩
                              · replace c110 := Bool.eq_false_iff.mpr c110
                                subst c110
                                have H1 : (some false) = some r := by rw [if_neg (show ¬ (false = true) by decide)] at H; exact H
                                clear H
                                have H := H1
                                clear H1
                                obtain rfl := Option.some.inj H
                                have hnb180 := NB137_136.out
                                have hnc180 := NB136_137.out
                                have hnb181 := NB137_141.out
                                have hnc181 := NB141_137.out
                                have hnb182 := NB137_145.out
                                have hnc182 := NB145_137.out
                                have hnb183 := NB137_148.out
                                have hnc183 := NB148_137.out
                                have hcz184_0 : wc.cell? ⟨gb137, 0, none⟩ = some (.string (⟨#[67, 83, 81, 85, 51, 48, 53, 52, 51, 56, 51]⟩ : ByteArray)) := (blk_cell BK137.out 0).trans rfl
                                have hcz184_1 : wc.cell? ⟨gb137, 1, none⟩ = some (.int .i64 5) := (blk_cell BK137.out 1).trans rfl
                                have hcz184_2 : wc.cell? ⟨gb137, 2, none⟩ = some (.int .i64 x138002_27) := (blk_cell BK137.out 2).trans rfl
                                have hcz184_3 : wc.cell? ⟨gb137, 3, none⟩ = some (.bool false) := (blk_cell BK137.out 3).trans rfl
                                have hcz184_4 : wc.cell? ⟨gb137, 4, none⟩ = some (.int .i64 0) := (blk_cell BK137.out 4).trans rfl
                                have hcz184_5 : wc.cell? ⟨gb137, 5, none⟩ = some (.int .i64 3) := (blk_cell BK137.out 5).trans rfl
                                have hfz184_0 := blk_frozen BK137.out 0
                                have hfz184_1 := blk_frozen BK137.out 1
                                have hfz184_2 := blk_frozen BK137.out 2
                                have hfz184_3 := blk_frozen BK137.out 3
                                have hfz184_4 := blk_frozen BK137.out 4
                                have hfz184_5 := blk_frozen BK137.out 5
                                have hnb185 := NB145_136.out
                                have hnc185 := NB136_145.out
                                have hnb186 := NB145_141.out
                                have hnc186 := NB141_145.out
                                have hnb187 := NB145_148.out
                                have hnc187 := NB148_145.out
                                have hcz188_0 : wc.cell? ⟨gb145, 0, none⟩ = some (.int .i64 (Int.tmod t142 4)) := (blk_cell BK145.out 0).trans rfl
                                have hcz188_1 : wc.cell? ⟨gb145, 1, none⟩ = some (.int .i64 (Int.tmod t143 3)) := (blk_cell BK145.out 1).trans rfl
                                have hcz188_2 : wc.cell? ⟨gb145, 2, none⟩ = some (.int .i64 (Int.tmod t144 3)) := (blk_cell BK145.out 2).trans rfl
                                have hfz188_0 := blk_frozen BK145.out 0
                                have hfz188_1 := blk_frozen BK145.out 1
                                have hfz188_2 := blk_frozen BK145.out 2
                                have hnb189 := NB136_141.out
                                have hnc189 := NB141_136.out
                                have hnb190 := NB136_148.out
                                have hnc190 := NB148_136.out
                                have hcz191_0 : wc.cell? ⟨gb136, 0, none⟩ = some (.string (⟨#[67, 83, 81, 85, 51, 48, 53, 52, 51, 56, 51]⟩ : ByteArray)) := (blk_cell BK136.out 0).trans rfl
                                have hcz191_1 : wc.cell? ⟨gb136, 1, none⟩ = some (.int .i64 5) := (blk_cell BK136.out 1).trans rfl
                                have hcz191_2 : wc.cell? ⟨gb136, 2, none⟩ = some (.int .i64 x3_3) := (blk_cell BK136.out 2).trans rfl
                                have hcz191_3 : wc.cell? ⟨gb136, 3, none⟩ = some (.bool false) := (blk_cell BK136.out 3).trans rfl
                                have hcz191_4 : wc.cell? ⟨gb136, 4, none⟩ = some (.int .i64 0) := (blk_cell BK136.out 4).trans rfl
                                have hcz191_5 : wc.cell? ⟨gb136, 5, none⟩ = some (.int .i64 3) := (blk_cell BK136.out 5).trans rfl
                                have hfz191_0 := blk_frozen BK136.out 0
                                have hfz191_1 := blk_frozen BK136.out 1
                                have hfz191_2 := blk_frozen BK136.out 2
                                have hfz191_3 := blk_frozen BK136.out 3
                                have hfz191_4 := blk_frozen BK136.out 4
                                have hfz191_5 := blk_frozen BK136.out 5
                                have hnb192 := NB141_148.out
                                have hnc192 := NB148_141.out
                                have hcz193_0 : wc.cell? ⟨gb141, 0, none⟩ = some (.int .i64 (Int.tmod t138 4)) := (blk_cell BK141.out 0).trans rfl
                                have hcz193_1 : wc.cell? ⟨gb141, 1, none⟩ = some (.int .i64 (Int.tmod t139 3)) := (blk_cell BK141.out 1).trans rfl
                                have hcz193_2 : wc.cell? ⟨gb141, 2, none⟩ = some (.int .i64 (Int.tmod t140 3)) := (blk_cell BK141.out 2).trans rfl
                                have hfz193_0 := blk_frozen BK141.out 0
                                have hfz193_1 := blk_frozen BK141.out 1
                                have hfz193_2 := blk_frozen BK141.out 2
                                go_wp2_with (first | ((with_reducible refine gate_callee (f := 15) rfl ?_); refine goesL_ (some 96) rfl rfl Try.func15 (by kernel_rfl) rfl #[.agg #[.string (⟨#[67, 83, 81, 85, 51, 48, 53, 52, 51, 56, 51]⟩ : ByteArray), .int .i64 5, .int .i64 x138002_27, .bool false, .int .i64 0, .int .i64 3], .agg #[.int .i64 (Int.tmod t142 4), .int .i64 (Int.tmod t143 3), .int .i64 (Int.tmod t144 3)], .agg #[.string (⟨#[67, 83, 81, 85, 51, 48, 53, 52, 51, 56, 51]⟩ : ByteArray), .int .i64 5, .int .i64 x3_3, .bool false, .int .i64 0, .int .i64 3], .agg #[.int .i64 (Int.tmod t138 4), .int .i64 (Int.tmod t139 3), .int .i64 (Int.tmod t140 3)]] rfl (by (try simp only [List.map_toArray, List.map_cons, List.map_nil]); first | done | rfl | (simp only [List.length_drop, List.length_take]; rfl)) ?_; (with_reducible refine (impl_KeepsApart.calls kj83 (⟨#[67, 83, 81, 85, 51, 48, 53, 52, 51, 56, 51]⟩ : ByteArray) 5 x138002_27 false 0 3 (Int.tmod t142 4) (Int.tmod t143 3) (Int.tmod t144 3) (⟨#[67, 83, 81, 85, 51, 48, 53, 52, 51, 56, 51]⟩ : ByteArray) 5 x3_3 false 0 3 (Int.tmod t138 4) (Int.tmod t139 3) (Int.tmod t140 3) t149 _ A107.out).mono ?_); rintro e w194 ⟨rfl, hb⟩; refine ⟨_, rfl, ?_⟩; have n0_ := Aside0.mk (blk_below (g := gb136) (o := .cells #[.string (⟨#[67, 83, 81, 85, 51, 48, 53, 52, 51, 56, 51]⟩ : ByteArray), .int .i64 5, .int .i64 x3_3, .bool false, .int .i64 0, .int .i64 3] 29 (0, 0)) (by (with_reducible repeat (first | refine blk_drewN ?_ _ | refine blk_drew ?_ | refine blk_alloc ?_ _)); exact BK136.out) hb); have n1_ := Aside0.mk (blk_below (g := gb137) (o := .cells #[.string (⟨#[67, 83, 81, 85, 51, 48, 53, 52, 51, 56, 51]⟩ : ByteArray), .int .i64 5, .int .i64 x138002_27, .bool false, .int .i64 0, .int .i64 3] 29 (0, 0)) (by (with_reducible repeat (first | refine blk_drewN ?_ _ | refine blk_drew ?_ | refine blk_alloc ?_ _)); exact BK137.out) hb); have n2_ := Aside0.mk (blk_below (g := gb141) (o := .cells #[.int .i64 (Int.tmod t138 4), .int .i64 (Int.tmod t139 3), .int .i64 (Int.tmod t140 3)] 31 (0, 0)) (by (with_reducible repeat (first | refine blk_drewN ?_ _ | refine blk_drew ?_ | refine blk_alloc ?_ _)); exact BK141.out) hb); have n3_ := Aside0.mk (blk_below (g := gb145) (o := .cells #[.int .i64 (Int.tmod t142 4), .int .i64 (Int.tmod t143 3), .int .i64 (Int.tmod t144 3)] 31 (0, 0)) (by (with_reducible repeat (first | refine blk_drewN ?_ _ | refine blk_drew ?_ | refine blk_alloc ?_ _)); exact BK145.out) hb); have n4_ := Aside0.mk (blk_below (g := gb148) (o := .cells #[.int .i64 x149000_83, .int .i64 (Int.tmod t143 3), .int .i64 (Int.tmod t144 3)] 31 (0, 0)) (by (with_reducible repeat (first | refine blk_drewN ?_ _ | refine blk_drew ?_ | refine blk_alloc ?_ _)); exact BK148.out) hb); have n5_ := Aside0.mk (below_step (by repeat (first | (with_reducible first | exact HB.out | apply below_alloc | apply pw_below_drewN | apply below_drew1 | refine below_set ?_ GE136.out | refine below_set ?_ GE137.out | refine below_set ?_ GE141.out | refine below_set ?_ GE145.out | refine below_set ?_ GE148.out) | exact HB.out)) hb); clear BK136; clear BK137; clear BK141; clear BK145; clear BK148; clear HB; have BK136 := n0_; have BK137 := n1_; have BK141 := n2_; have BK145 := n3_; have BK148 := n4_; have HB := n5_; clear n0_ n1_ n2_ n3_ n4_ n5_; (try clear hb); (try clear hb2); (try clear hk); (try clear hi); have hcz195_0 : w194.cell? ⟨gb136, 0, none⟩ = some (.string (⟨#[67, 83, 81, 85, 51, 48, 53, 52, 51, 56, 51]⟩ : ByteArray)) := (blk_cell BK136.out 0).trans rfl; have hcz195_1 : w194.cell? ⟨gb136, 1, none⟩ = some (.int .i64 5) := (blk_cell BK136.out 1).trans rfl; have hcz195_2 : w194.cell? ⟨gb136, 2, none⟩ = some (.int .i64 x3_3) := (blk_cell BK136.out 2).trans rfl; have hcz195_3 : w194.cell? ⟨gb136, 3, none⟩ = some (.bool false) := (blk_cell BK136.out 3).trans rfl; have hcz195_4 : w194.cell? ⟨gb136, 4, none⟩ = some (.int .i64 0) := (blk_cell BK136.out 4).trans rfl; have hcz195_5 : w194.cell? ⟨gb136, 5, none⟩ = some (.int .i64 3) := (blk_cell BK136.out 5).trans rfl; have hfz195_0 := blk_frozen BK136.out 0; have hfz195_1 := blk_frozen BK136.out 1; have hfz195_2 := blk_frozen BK136.out 2; have hfz195_3 := blk_frozen BK136.out 3; have hfz195_4 := blk_frozen BK136.out 4; have hfz195_5 := blk_frozen BK136.out 5) | (go_at_call 16; (with_reducible refine (impl_BoxOk.calls kj83 (⟨#[67, 83, 81, 85, 51, 48, 53, 52, 51, 56, 51]⟩ : ByteArray) 5 x3_3 false 0 3 false _ A109.out).mono ?_); rintro e w196 ⟨rfl, hb⟩; have n0_ := Aside0.mk (blk_below (g := gb136) (o := .cells #[.string (⟨#[67, 83, 81, 85, 51, 48, 53, 52, 51, 56, 51]⟩ : ByteArray), .int .i64 5, .int .i64 x3_3, .bool false, .int .i64 0, .int .i64 3] 29 (0, 0)) (by (with_reducible repeat (first | refine blk_drewN ?_ _ | refine blk_drew ?_ | refine blk_alloc ?_ _)); exact BK136.out) hb); have n1_ := Aside0.mk (blk_below (g := gb137) (o := .cells #[.string (⟨#[67, 83, 81, 85, 51, 48, 53, 52, 51, 56, 51]⟩ : ByteArray), .int .i64 5, .int .i64 x138002_27, .bool false, .int .i64 0, .int .i64 3] 29 (0, 0)) (by (with_reducible repeat (first | refine blk_drewN ?_ _ | refine blk_drew ?_ | refine blk_alloc ?_ _)); exact BK137.out) hb); have n2_ := Aside0.mk (blk_below (g := gb141) (o := .cells #[.int .i64 (Int.tmod t138 4), .int .i64 (Int.tmod t139 3), .int .i64 (Int.tmod t140 3)] 31 (0, 0)) (by (with_reducible repeat (first | refine blk_drewN ?_ _ | refine blk_drew ?_ | refine blk_alloc ?_ _)); exact BK141.out) hb); have n3_ := Aside0.mk (blk_below (g := gb145) (o := .cells #[.int .i64 (Int.tmod t142 4), .int .i64 (Int.tmod t143 3), .int .i64 (Int.tmod t144 3)] 31 (0, 0)) (by (with_reducible repeat (first | refine blk_drewN ?_ _ | refine blk_drew ?_ | refine blk_alloc ?_ _)); exact BK145.out) hb); have n4_ := Aside0.mk (blk_below (g := gb148) (o := .cells #[.int .i64 x149000_83, .int .i64 (Int.tmod t143 3), .int .i64 (Int.tmod t144 3)] 31 (0, 0)) (by (with_reducible repeat (first | refine blk_drewN ?_ _ | refine blk_drew ?_ | refine blk_alloc ?_ _)); exact BK148.out) hb); have n5_ := Aside0.mk (below_step (by repeat (first | (with_reducible first | exact HB.out | apply below_alloc | apply pw_below_drewN | apply below_drew1 | refine below_set ?_ GE136.out | refine below_set ?_ GE137.out | refine below_set ?_ GE141.out | refine below_set ?_ GE145.out | refine below_set ?_ GE148.out) | exact HB.out)) hb); clear BK136; clear BK137; clear BK141; clear BK145; clear BK148; clear HB; have BK136 := n0_; have BK137 := n1_; have BK141 := n2_; have BK145 := n3_; have BK148 := n4_; have HB := n5_; clear n0_ n1_ n2_ n3_ n4_ n5_; (try clear hb); (try clear hb2); (try clear hk); (try clear hi)))
                                go_ret
                                exact ⟨by first | rfl | (simp [errW_none, errW_some] <;> rfl) | (simp [*, errW_none, errW_some] <;> rfl), by repeat (first | (with_reducible first | exact HB.out | apply below_alloc | apply pw_below_drewN | apply below_drew1 | refine below_set ?_ GE136.out | refine below_set ?_ GE137.out | refine below_set ?_ GE141.out | refine below_set ?_ GE145.out | refine below_set ?_ GE148.out) | exact HB.out)⟩
                            · rw [if_neg c108] at H
                              have c108b0 : (x10_41 == t149) = false := by simpa using c108
                              (try (have c108b1 : decide (x10_41 = t149) = false := by simpa using c108))
                              (try (have c108b2 : (x10_41 == t149) = false := by simpa using c108))
                              (try (have c108b3 : ¬ (x10_41 = t149) := by simpa using c108))
                              clear c108
                              obtain rfl := Option.some.inj H
                              have hnb197 := NB137_136.out
                              have hnc197 := NB136_137.out
                              have hnb198 := NB137_141.out
                              have hnc198 := NB141_137.out
                              have hnb199 := NB137_145.out
                              have hnc199 := NB145_137.out
                              have hnb200 := NB137_148.out
                              have hnc200 := NB148_137.out
                              have hcz201_0 : wc.cell? ⟨gb137, 0, none⟩ = some (.string (⟨#[67, 83, 81, 85, 51, 48, 53, 52, 51, 56, 51]⟩ : ByteArray)) := (blk_cell BK137.out 0).trans rfl
                              have hcz201_1 : wc.cell? ⟨gb137, 1, none⟩ = some (.int .i64 5) := (blk_cell BK137.out 1).trans rfl
                              have hcz201_2 : wc.cell? ⟨gb137, 2, none⟩ = some (.int .i64 x138002_27) := (blk_cell BK137.out 2).trans rfl
                              have hcz201_3 : wc.cell? ⟨gb137, 3, none⟩ = some (.bool false) := (blk_cell BK137.out 3).trans rfl
                              have hcz201_4 : wc.cell? ⟨gb137, 4, none⟩ = some (.int .i64 0) := (blk_cell BK137.out 4).trans rfl
                              have hcz201_5 : wc.cell? ⟨gb137, 5, none⟩ = some (.int .i64 3) := (blk_cell BK137.out 5).trans rfl
                              have hfz201_0 := blk_frozen BK137.out 0
                              have hfz201_1 := blk_frozen BK137.out 1
                              have hfz201_2 := blk_frozen BK137.out 2
                              have hfz201_3 := blk_frozen BK137.out 3
                              have hfz201_4 := blk_frozen BK137.out 4
                              have hfz201_5 := blk_frozen BK137.out 5
                              have hnb202 := NB145_136.out
                              have hnc202 := NB136_145.out
                              have hnb203 := NB145_141.out
                              have hnc203 := NB141_145.out
                              have hnb204 := NB145_148.out
                              have hnc204 := NB148_145.out
                              have hcz205_0 : wc.cell? ⟨gb145, 0, none⟩ = some (.int .i64 (Int.tmod t142 4)) := (blk_cell BK145.out 0).trans rfl
                              have hcz205_1 : wc.cell? ⟨gb145, 1, none⟩ = some (.int .i64 (Int.tmod t143 3)) := (blk_cell BK145.out 1).trans rfl
                              have hcz205_2 : wc.cell? ⟨gb145, 2, none⟩ = some (.int .i64 (Int.tmod t144 3)) := (blk_cell BK145.out 2).trans rfl
                              have hfz205_0 := blk_frozen BK145.out 0
                              have hfz205_1 := blk_frozen BK145.out 1
                              have hfz205_2 := blk_frozen BK145.out 2
                              have hnb206 := NB136_141.out
                              have hnc206 := NB141_136.out
                              have hnb207 := NB136_148.out
                              have hnc207 := NB148_136.out
                              have hcz208_0 : wc.cell? ⟨gb136, 0, none⟩ = some (.string (⟨#[67, 83, 81, 85, 51, 48, 53, 52, 51, 56, 51]⟩ : ByteArray)) := (blk_cell BK136.out 0).trans rfl
                              have hcz208_1 : wc.cell? ⟨gb136, 1, none⟩ = some (.int .i64 5) := (blk_cell BK136.out 1).trans rfl
                              have hcz208_2 : wc.cell? ⟨gb136, 2, none⟩ = some (.int .i64 x3_3) := (blk_cell BK136.out 2).trans rfl
                              have hcz208_3 : wc.cell? ⟨gb136, 3, none⟩ = some (.bool false) := (blk_cell BK136.out 3).trans rfl
                              have hcz208_4 : wc.cell? ⟨gb136, 4, none⟩ = some (.int .i64 0) := (blk_cell BK136.out 4).trans rfl
                              have hcz208_5 : wc.cell? ⟨gb136, 5, none⟩ = some (.int .i64 3) := (blk_cell BK136.out 5).trans rfl
                              have hfz208_0 := blk_frozen BK136.out 0
                              have hfz208_1 := blk_frozen BK136.out 1
                              have hfz208_2 := blk_frozen BK136.out 2
                              have hfz208_3 := blk_frozen BK136.out 3
                              have hfz208_4 := blk_frozen BK136.out 4
                              have hfz208_5 := blk_frozen BK136.out 5
                              have hnb209 := NB141_148.out
                              have hnc209 := NB148_141.out
                              have hcz210_0 : wc.cell? ⟨gb141, 0, none⟩ = some (.int .i64 (Int.tmod t138 4)) := (blk_cell BK141.out 0).trans rfl
                              have hcz210_1 : wc.cell? ⟨gb141, 1, none⟩ = some (.int .i64 (Int.tmod t139 3)) := (blk_cell BK141.out 1).trans rfl
                              have hcz210_2 : wc.cell? ⟨gb141, 2, none⟩ = some (.int .i64 (Int.tmod t140 3)) := (blk_cell BK141.out 2).trans rfl
                              have hfz210_0 := blk_frozen BK141.out 0
                              have hfz210_1 := blk_frozen BK141.out 1
                              have hfz210_2 := blk_frozen BK141.out 2
                              go_wp2_with (first | ((with_reducible refine gate_callee (f := 15) rfl ?_); refine goesL_ (some 96) rfl rfl Try.func15 (by kernel_rfl) rfl #[.agg #[.string (⟨#[67, 83, 81, 85, 51, 48, 53, 52, 51, 56, 51]⟩ : ByteArray), .int .i64 5, .int .i64 x138002_27, .bool false, .int .i64 0, .int .i64 3], .agg #[.int .i64 (Int.tmod t142 4), .int .i64 (Int.tmod t143 3), .int .i64 (Int.tmod t144 3)], .agg #[.string (⟨#[67, 83, 81, 85, 51, 48, 53, 52, 51, 56, 51]⟩ : ByteArray), .int .i64 5, .int .i64 x3_3, .bool false, .int .i64 0, .int .i64 3], .agg #[.int .i64 (Int.tmod t138 4), .int .i64 (Int.tmod t139 3), .int .i64 (Int.tmod t140 3)]] rfl (by (try simp only [List.map_toArray, List.map_cons, List.map_nil]); first | done | rfl | (simp only [List.length_drop, List.length_take]; rfl)) ?_; (with_reducible refine (impl_KeepsApart.calls kj83 (⟨#[67, 83, 81, 85, 51, 48, 53, 52, 51, 56, 51]⟩ : ByteArray) 5 x138002_27 false 0 3 (Int.tmod t142 4) (Int.tmod t143 3) (Int.tmod t144 3) (⟨#[67, 83, 81, 85, 51, 48, 53, 52, 51, 56, 51]⟩ : ByteArray) 5 x3_3 false 0 3 (Int.tmod t138 4) (Int.tmod t139 3) (Int.tmod t140 3) t149 _ A107.out).mono ?_); rintro e w211 ⟨rfl, hb⟩; refine ⟨_, rfl, ?_⟩; have n0_ := Aside0.mk (blk_below (g := gb136) (o := .cells #[.string (⟨#[67, 83, 81, 85, 51, 48, 53, 52, 51, 56, 51]⟩ : ByteArray), .int .i64 5, .int .i64 x3_3, .bool false, .int .i64 0, .int .i64 3] 29 (0, 0)) (by (with_reducible repeat (first | refine blk_drewN ?_ _ | refine blk_drew ?_ | refine blk_alloc ?_ _)); exact BK136.out) hb); have n1_ := Aside0.mk (blk_below (g := gb137) (o := .cells #[.string (⟨#[67, 83, 81, 85, 51, 48, 53, 52, 51, 56, 51]⟩ : ByteArray), .int .i64 5, .int .i64 x138002_27, .bool false, .int .i64 0, .int .i64 3] 29 (0, 0)) (by (with_reducible repeat (first | refine blk_drewN ?_ _ | refine blk_drew ?_ | refine blk_alloc ?_ _)); exact BK137.out) hb); have n2_ := Aside0.mk (blk_below (g := gb141) (o := .cells #[.int .i64 (Int.tmod t138 4), .int .i64 (Int.tmod t139 3), .int .i64 (Int.tmod t140 3)] 31 (0, 0)) (by (with_reducible repeat (first | refine blk_drewN ?_ _ | refine blk_drew ?_ | refine blk_alloc ?_ _)); exact BK141.out) hb); have n3_ := Aside0.mk (blk_below (g := gb145) (o := .cells #[.int .i64 (Int.tmod t142 4), .int .i64 (Int.tmod t143 3), .int .i64 (Int.tmod t144 3)] 31 (0, 0)) (by (with_reducible repeat (first | refine blk_drewN ?_ _ | refine blk_drew ?_ | refine blk_alloc ?_ _)); exact BK145.out) hb); have n4_ := Aside0.mk (blk_below (g := gb148) (o := .cells #[.int .i64 x149000_83, .int .i64 (Int.tmod t143 3), .int .i64 (Int.tmod t144 3)] 31 (0, 0)) (by (with_reducible repeat (first | refine blk_drewN ?_ _ | refine blk_drew ?_ | refine blk_alloc ?_ _)); exact BK148.out) hb); have n5_ := Aside0.mk (below_step (by repeat (first | (with_reducible first | exact HB.out | apply below_alloc | apply pw_below_drewN | apply below_drew1 | refine below_set ?_ GE136.out | refine below_set ?_ GE137.out | refine below_set ?_ GE141.out | refine below_set ?_ GE145.out | refine below_set ?_ GE148.out) | exact HB.out)) hb); clear BK136; clear BK137; clear BK141; clear BK145; clear BK148; clear HB; have BK136 := n0_; have BK137 := n1_; have BK141 := n2_; have BK145 := n3_; have BK148 := n4_; have HB := n5_; clear n0_ n1_ n2_ n3_ n4_ n5_; (try clear hb); (try clear hb2); (try clear hk); (try clear hi)))
                              go_ret
                              exact ⟨by first | rfl | (simp [errW_none, errW_some] <;> rfl) | (simp [*, errW_none, errW_some] <;> rfl), by repeat (first | (with_reducible first | exact HB.out | apply below_alloc | apply pw_below_drewN | apply below_drew1 | refine below_set ?_ GE136.out | refine below_set ?_ GE137.out | refine below_set ?_ GE141.out | refine below_set ?_ GE145.out | refine below_set ?_ GE148.out) | exact HB.out)⟩

/-- THE ONE PURE STATEMENT of laws_FnApart: yours. -/
def laws_FnApart.Pure : Prop := ∀ (l0 : List Int), l0.length ≤ maxLen → l0.length * 1 ≤ 140737488351232 → (∀ x ∈ l0, (Lit.int .u8 x).wf = true) → ∃ k, laws_FnApart.f k l0 = some true
theorem laws_FnApart.walk (P : laws_FnApart.Pure) (a0 : Option Addr) (len0 cap0 : Nat) (z0 : List Int) (w : World) (w0 : (a0 = none ∧ len0 = 0 ∧ cap0 = 0 ∧ z0 = []) ∨ ∃ x, a0 = some x ∧ len0 ≤ cap0 ∧ cap0 ≤ maxLen ∧ z0.length = cap0 ∧ (∀ i, i < z0.length → w.cell? (x.add i) = some (.int .u8 (z0.getD i 0))) ∧ ∀ n ∈ z0, (Lit.int .u8 n).wf = true) (y0 : len0 * 1 ≤ 140737488351232) :
    Calls Try.prog 4 #[.slice a0 len0 cap0] w fun e w' => e = .returned (.bool true) ∧ Below w.heap.size w w' := by
  obtain ⟨l0, rfl, hr0, hm0, hw0, hc0⟩ := ReadsInt.ofRowC w0
  obtain ⟨k, h⟩ := P l0 hm0 y0 hw0
  refine (laws_FnApart.calls k _ _ l0 true w (Kd.C_of_reads (d := (0 : Int)) (h1 := fun _ => rfl) hr0) hc0 h).mono ?_
  rintro e w' ⟨rfl, hd⟩
  exact ⟨rfl, hd⟩

end Go.Proofs.Ytbhdnhpkpbhilaa.PFnApart
