/- The Lean side of Go functions of this seat: what each answers, and that its run comes to that answer; written by a program of this work. -/
import Derived.Test.YtmglilikmbbidaaPFnExactSend21x0
import Derived.Test.YtmglilikmbbidaaPFnExactSend21x2
import Derived.Test.YtmglilikmbbidaaPFnExactSend21x3
import Derived.Test.YtmglilikmbbidaaPFnExactSend21x4
import Derived.Test.YtmglilikmbbidaaPFnExactSend21x5
namespace Go.Proofs.Ytmglilikmbbidaa.PFnExactSend21
open Go.RowKit Go.Proofs.YtmglilikmbbidaaW.PrintWords Go.Proofs.YtmglilikmbbidaaW.PrintLast Go.Proofs.YtmglilikmbbidaaW.PrintMore
attribute [local go_sem] max2_int min2_int max_two min_two max_three min_three max_four min_four   -- for this text's walks alone
set_option linter.unusedVariables false
set_option linter.unusedSimpArgs false

/-! ### laws_FnExactSend21: function 5 -/
mutual
def laws_FnExactSend21.j0 : Nat → Int → ByteArray → Int → Int → Bool → List ByteArray → Int → List ByteArray → List ByteArray → Int → List ByteArray → Int → Int → Int → ByteArray → List ByteArray → Int → List ByteArray → List ByteArray → Int → List ByteArray → Int → Int → Int → ByteArray → Option (Bool)
 | 0, _, _, _, _, _, _, _, _, _, _, _, _, _, _, _, _, _, _, _, _, _, _, _, _, _ => none
 | k + 1, x1, x2, x10, x14, x62, x219000, x219001, x219002, x240000, x240001, x240002, x241000, x241001, x241002, x241003, x249000, x249001, x249002, x262000, x262001, x262002, x263000, x263001, x263002, x263003 => if x62 = true then (some false) else ((laws_toParty.f k x219000 x219001 x219002).bind fun bt265 => ((laws_eqParty.f k x249000 x249001 x249002 bt265.1 bt265.2.1 bt265.2.2).bind fun t272 => (if t272 = true then ((laws_markParty.f k x249000 x249001 x249002 1).bind fun bt273 => (if bt273.1 < 0 then (laws_FnExactSend21.j1 k x1 x2 x10 true x219000 x219001 x219002 x240000 x240001 x240002 x241000 x241001 x241002 x241003 x262000 x262001 x262002) else ((laws_eqParty.f k x262000 x262001 x262002 x240000 x240001 x240002).bind fun t276 => (if t276 = true then ((laws_eqPost.f x263000 x263001 x263002 x263003 x241000 x241001 x241002 x241003).bind fun t277 => (if t277 = true then (laws_FnExactSend21.j1 k x1 x2 x10 (x14 != x10) x219000 x219001 x219002 x240000 x240001 x240002 x241000 x241001 x241002 x241003 x262000 x262001 x262002) else (laws_FnExactSend21.j1 k x1 x2 x10 true x219000 x219001 x219002 x240000 x240001 x240002 x241000 x241001 x241002 x241003 x262000 x262001 x262002))) else (laws_FnExactSend21.j1 k x1 x2 x10 true x219000 x219001 x219002 x240000 x240001 x240002 x241000 x241001 x241002 x241003 x262000 x262001 x262002))))) else (some false))))
def laws_FnExactSend21.j1 : Nat → Int → ByteArray → Int → Bool → List ByteArray → Int → List ByteArray → List ByteArray → Int → List ByteArray → Int → Int → Int → ByteArray → List ByteArray → Int → List ByteArray → Option (Bool)
 | 0, _, _, _, _, _, _, _, _, _, _, _, _, _, _, _, _, _ => none
 | k + 1, x1, x2, x10, x89, x219000, x219001, x219002, x240000, x240001, x240002, x241000, x241001, x241002, x241003, x262000, x262001, x262002 => if x89 = true then (some false) else ((laws_markParty.f k x262000 x262001 x262002 1).bind fun bt278 => ((laws_heldParty.f k bt278.2.1 x262001 bt278.2.2 1).bind fun t281 => (if t281 < 0 then (some false) else (if t281 = bt278.1 then ((laws_toParty.f k x219000 x219001 x219002).bind fun bt282 => ((impl_Send21.f k bt282.1 bt282.2.1 bt282.2.2 x1 x2).bind fun bt289 => ((laws_eqParty.f k bt289.1 bt289.2.1 bt289.2.2.1 x240000 x240001 x240002).bind fun t303 => (if t303 = true then ((laws_eqPost.f bt289.2.2.2.1 bt289.2.2.2.2.1 bt289.2.2.2.2.2.1 bt289.2.2.2.2.2.2.1 x241000 x241001 x241002 x241003).bind fun t304 => (if t304 = true then (laws_FnExactSend21.j2 k bt278.1 (bt289.2.2.2.2.2.2.2 != x10) bt278.2.1 x262001 bt278.2.2) else (laws_FnExactSend21.j2 k bt278.1 true bt278.2.1 x262001 bt278.2.2))) else (laws_FnExactSend21.j2 k bt278.1 true bt278.2.1 x262001 bt278.2.2))))) else (some false)))))
def laws_FnExactSend21.j2 : Nat → Int → Bool → List ByteArray → Int → List ByteArray → Option (Bool)
 | 0, _, _, _, _, _ => none
 | k + 1, x16, x124, x262000, x262001, x262002 => if x124 = true then (some false) else ((laws_heldParty.f k x262000 x262001 x262002 1).bind fun t305 => (if t305 < 0 then (some false) else (if t305 = x16 then (some true) else (some false))))
end
def laws_FnExactSend21.f (k : Nat) (l0_0 : List ByteArray) (a0_1 : Int) (l0_2 : List ByteArray) (a1 : Int) (a2 : ByteArray) : Option (Bool) := if (a2.size : Int) > 1048576 then (some true) else ((laws_szParty.f k l0_0 a0_1 l0_2 1048576).bind fun t219 => (if t219 < 0 then (some true) else ((laws_toParty.f k l0_0 a0_1 l0_2).bind fun bt220 => ((spec_Send21.f k bt220.1 bt220.2.1 bt220.2.2 a1 a2).bind fun bt227 => ((laws_toParty.f k l0_0 a0_1 l0_2).bind fun bt241 => ((impl_Send21.f k bt241.1 bt241.2.1 bt241.2.2 a1 a2).bind fun bt249 => ((laws_eqParty.f k bt249.1 bt249.2.1 bt249.2.2.1 bt227.1 bt227.2.1 bt227.2.2.1).bind fun t263 => (if t263 = true then ((laws_eqPost.f bt249.2.2.2.1 bt249.2.2.2.2.1 bt249.2.2.2.2.2.1 bt249.2.2.2.2.2.2.1 bt227.2.2.2.1 bt227.2.2.2.2.1 bt227.2.2.2.2.2.1 bt227.2.2.2.2.2.2.1).bind fun t264 => (if t264 = true then (laws_FnExactSend21.j0 k a1 a2 bt227.2.2.2.2.2.2.2 bt249.2.2.2.2.2.2.2 (bt249.2.2.2.2.2.2.2 != bt227.2.2.2.2.2.2.2) l0_0 a0_1 l0_2 bt227.1 bt227.2.1 bt227.2.2.1 bt227.2.2.2.1 bt227.2.2.2.2.1 bt227.2.2.2.2.2.1 bt227.2.2.2.2.2.2.1 bt241.1 bt241.2.1 bt241.2.2 bt249.1 bt249.2.1 bt249.2.2.1 bt249.2.2.2.1 bt249.2.2.2.2.1 bt249.2.2.2.2.2.1 bt249.2.2.2.2.2.2.1) else (laws_FnExactSend21.j0 k a1 a2 bt227.2.2.2.2.2.2.2 bt249.2.2.2.2.2.2.2 true l0_0 a0_1 l0_2 bt227.1 bt227.2.1 bt227.2.2.1 bt227.2.2.2.1 bt227.2.2.2.2.1 bt227.2.2.2.2.2.1 bt227.2.2.2.2.2.2.1 bt241.1 bt241.2.1 bt241.2.2 bt249.1 bt249.2.1 bt249.2.2.1 bt249.2.2.2.1 bt249.2.2.2.2.1 bt249.2.2.2.2.2.1 bt249.2.2.2.2.2.2.1))) else (laws_FnExactSend21.j0 k a1 a2 bt227.2.2.2.2.2.2.2 bt249.2.2.2.2.2.2.2 true l0_0 a0_1 l0_2 bt227.1 bt227.2.1 bt227.2.2.1 bt227.2.2.2.1 bt227.2.2.2.2.1 bt227.2.2.2.2.2.1 bt227.2.2.2.2.2.2.1 bt241.1 bt241.2.1 bt241.2.2 bt249.1 bt249.2.1 bt249.2.2.1 bt249.2.2.2.1 bt249.2.2.2.2.1 bt249.2.2.2.2.2.1 bt249.2.2.2.2.2.2.1)))))))))
theorem laws_FnExactSend21.mono_l : ∀ k, (∀ y0 y1 y2 y3 y4 y5 y6 y7 y8 y9 y10 y11 y12 y13 y14 y15 y16 y17 y18 y19 y20 y21 y22 y23 y24, LeO (laws_FnExactSend21.j0 k y0 y1 y2 y3 y4 y5 y6 y7 y8 y9 y10 y11 y12 y13 y14 y15 y16 y17 y18 y19 y20 y21 y22 y23 y24) (laws_FnExactSend21.j0 (k + 1) y0 y1 y2 y3 y4 y5 y6 y7 y8 y9 y10 y11 y12 y13 y14 y15 y16 y17 y18 y19 y20 y21 y22 y23 y24)) ∧ (∀ y0 y1 y2 y3 y4 y5 y6 y7 y8 y9 y10 y11 y12 y13 y14 y15 y16, LeO (laws_FnExactSend21.j1 k y0 y1 y2 y3 y4 y5 y6 y7 y8 y9 y10 y11 y12 y13 y14 y15 y16) (laws_FnExactSend21.j1 (k + 1) y0 y1 y2 y3 y4 y5 y6 y7 y8 y9 y10 y11 y12 y13 y14 y15 y16)) ∧ (∀ y0 y1 y2 y3 y4, LeO (laws_FnExactSend21.j2 k y0 y1 y2 y3 y4) (laws_FnExactSend21.j2 (k + 1) y0 y1 y2 y3 y4))
 | 0 => ⟨fun _ _ _ _ _ _ _ _ _ _ _ _ _ _ _ _ _ _ _ _ _ _ _ _ _ r h => by simp [laws_FnExactSend21.j0] at h, fun _ _ _ _ _ _ _ _ _ _ _ _ _ _ _ _ _ r h => by simp [laws_FnExactSend21.j1] at h, fun _ _ _ _ _ r h => by simp [laws_FnExactSend21.j2] at h⟩
 | k + 1 => by
  obtain ⟨ih0, ih1, ih2⟩ := laws_FnExactSend21.mono_l k
  refine ⟨?_, ?_, ?_⟩
  ·intro y0 y1 y2 y3 y4 y5 y6 y7 y8 y9 y10 y11 y12 y13 y14 y15 y16 y17 y18 y19 y20 y21 y22 y23 y24
   unfold laws_FnExactSend21.j0
   repeat' first
   | (with_reducible exact ih0 _ _ _ _ _ _ _ _ _ _ _ _ _ _ _ _ _ _ _ _ _ _ _ _ _)
   | (with_reducible exact ih1 _ _ _ _ _ _ _ _ _ _ _ _ _ _ _ _ _)
   | (with_reducible exact ih2 _ _ _ _ _)
   | (with_reducible exact impl_Send21.mono _ _ _ _ _ _)
   | (with_reducible exact laws_eqParty.mono _ _ _ _ _ _ _)
   | (with_reducible exact laws_heldParty.mono _ _ _ _ _)
   | (with_reducible exact laws_markParty.mono _ _ _ _ _)
   | (with_reducible exact laws_szParty.mono _ _ _ _ _)
   | (with_reducible exact laws_toParty.mono _ _ _ _)
   | (with_reducible exact spec_Send21.mono _ _ _ _ _ _)
   | (with_reducible exact LeO.refl _)
   | (with_reducible exact LeO.none _)
   | (with_reducible refine LeO.ite ?_ ?_)
   | (with_reducible refine LeO.bind ?_ (fun _ => ?_))
   | exact ih0 _ _ _ _ _ _ _ _ _ _ _ _ _ _ _ _ _ _ _ _ _ _ _ _ _
   | exact ih1 _ _ _ _ _ _ _ _ _ _ _ _ _ _ _ _ _
   | exact ih2 _ _ _ _ _
   | exact impl_Send21.mono _ _ _ _ _ _
   | exact laws_eqParty.mono _ _ _ _ _ _ _
   | exact laws_heldParty.mono _ _ _ _ _
   | exact laws_markParty.mono _ _ _ _ _
   | exact laws_szParty.mono _ _ _ _ _
   | exact laws_toParty.mono _ _ _ _
   | exact spec_Send21.mono _ _ _ _ _ _
   | exact LeO.none _
   | refine LeO.ite ?_ ?_
   | refine LeO.bind ?_ (fun _ => ?_)
  ·intro y0 y1 y2 y3 y4 y5 y6 y7 y8 y9 y10 y11 y12 y13 y14 y15 y16
   unfold laws_FnExactSend21.j1
   repeat' first
   | (with_reducible exact ih0 _ _ _ _ _ _ _ _ _ _ _ _ _ _ _ _ _ _ _ _ _ _ _ _ _)
   | (with_reducible exact ih1 _ _ _ _ _ _ _ _ _ _ _ _ _ _ _ _ _)
   | (with_reducible exact ih2 _ _ _ _ _)
   | (with_reducible exact impl_Send21.mono _ _ _ _ _ _)
   | (with_reducible exact laws_eqParty.mono _ _ _ _ _ _ _)
   | (with_reducible exact laws_heldParty.mono _ _ _ _ _)
   | (with_reducible exact laws_markParty.mono _ _ _ _ _)
   | (with_reducible exact laws_szParty.mono _ _ _ _ _)
   | (with_reducible exact laws_toParty.mono _ _ _ _)
   | (with_reducible exact spec_Send21.mono _ _ _ _ _ _)
   | (with_reducible exact LeO.refl _)
   | (with_reducible exact LeO.none _)
   | (with_reducible refine LeO.ite ?_ ?_)
   | (with_reducible refine LeO.bind ?_ (fun _ => ?_))
   | exact ih0 _ _ _ _ _ _ _ _ _ _ _ _ _ _ _ _ _ _ _ _ _ _ _ _ _
   | exact ih1 _ _ _ _ _ _ _ _ _ _ _ _ _ _ _ _ _
   | exact ih2 _ _ _ _ _
   | exact impl_Send21.mono _ _ _ _ _ _
   | exact laws_eqParty.mono _ _ _ _ _ _ _
   | exact laws_heldParty.mono _ _ _ _ _
   | exact laws_markParty.mono _ _ _ _ _
   | exact laws_szParty.mono _ _ _ _ _
   | exact laws_toParty.mono _ _ _ _
   | exact spec_Send21.mono _ _ _ _ _ _
   | exact LeO.none _
   | refine LeO.ite ?_ ?_
   | refine LeO.bind ?_ (fun _ => ?_)
  ·intro y0 y1 y2 y3 y4
   unfold laws_FnExactSend21.j2
   repeat' first
   | (with_reducible exact ih0 _ _ _ _ _ _ _ _ _ _ _ _ _ _ _ _ _ _ _ _ _ _ _ _ _)
   | (with_reducible exact ih1 _ _ _ _ _ _ _ _ _ _ _ _ _ _ _ _ _)
   | (with_reducible exact ih2 _ _ _ _ _)
   | (with_reducible exact impl_Send21.mono _ _ _ _ _ _)
   | (with_reducible exact laws_eqParty.mono _ _ _ _ _ _ _)
   | (with_reducible exact laws_heldParty.mono _ _ _ _ _)
   | (with_reducible exact laws_markParty.mono _ _ _ _ _)
   | (with_reducible exact laws_szParty.mono _ _ _ _ _)
   | (with_reducible exact laws_toParty.mono _ _ _ _)
   | (with_reducible exact spec_Send21.mono _ _ _ _ _ _)
   | (with_reducible exact LeO.refl _)
   | (with_reducible exact LeO.none _)
   | (with_reducible refine LeO.ite ?_ ?_)
   | (with_reducible refine LeO.bind ?_ (fun _ => ?_))
   | exact ih0 _ _ _ _ _ _ _ _ _ _ _ _ _ _ _ _ _ _ _ _ _ _ _ _ _
   | exact ih1 _ _ _ _ _ _ _ _ _ _ _ _ _ _ _ _ _
   | exact ih2 _ _ _ _ _
   | exact impl_Send21.mono _ _ _ _ _ _
   | exact laws_eqParty.mono _ _ _ _ _ _ _
   | exact laws_heldParty.mono _ _ _ _ _
   | exact laws_markParty.mono _ _ _ _ _
   | exact laws_szParty.mono _ _ _ _ _
   | exact laws_toParty.mono _ _ _ _
   | exact spec_Send21.mono _ _ _ _ _ _
   | exact LeO.none _
   | refine LeO.ite ?_ ?_
   | refine LeO.bind ?_ (fun _ => ?_)
theorem laws_FnExactSend21.mono : ∀ a0 a1 a2 a3 a4 k, LeO (laws_FnExactSend21.f k a0 a1 a2 a3 a4) (laws_FnExactSend21.f (k + 1) a0 a1 a2 a3 a4) := by
 intro a0 a1 a2 a3 a4 k
 obtain ⟨ih0, ih1, ih2⟩ := laws_FnExactSend21.mono_l k
 unfold laws_FnExactSend21.f
 repeat' first
   | (with_reducible exact ih0 _ _ _ _ _ _ _ _ _ _ _ _ _ _ _ _ _ _ _ _ _ _ _ _ _)
   | (with_reducible exact ih1 _ _ _ _ _ _ _ _ _ _ _ _ _ _ _ _ _)
   | (with_reducible exact ih2 _ _ _ _ _)
   | (with_reducible exact impl_Send21.mono _ _ _ _ _ _)
   | (with_reducible exact laws_eqParty.mono _ _ _ _ _ _ _)
   | (with_reducible exact laws_heldParty.mono _ _ _ _ _)
   | (with_reducible exact laws_markParty.mono _ _ _ _ _)
   | (with_reducible exact laws_szParty.mono _ _ _ _ _)
   | (with_reducible exact laws_toParty.mono _ _ _ _)
   | (with_reducible exact spec_Send21.mono _ _ _ _ _ _)
   | (with_reducible exact LeO.refl _)
   | (with_reducible exact LeO.none _)
   | (with_reducible refine LeO.ite ?_ ?_)
   | (with_reducible refine LeO.bind ?_ (fun _ => ?_))
   | exact ih0 _ _ _ _ _ _ _ _ _ _ _ _ _ _ _ _ _ _ _ _ _ _ _ _ _
   | exact ih1 _ _ _ _ _ _ _ _ _ _ _ _ _ _ _ _ _
   | exact ih2 _ _ _ _ _
   | exact impl_Send21.mono _ _ _ _ _ _
   | exact laws_eqParty.mono _ _ _ _ _ _ _
   | exact laws_heldParty.mono _ _ _ _ _
   | exact laws_markParty.mono _ _ _ _ _
   | exact laws_szParty.mono _ _ _ _ _
   | exact laws_toParty.mono _ _ _ _
   | exact spec_Send21.mono _ _ _ _ _ _
   | exact LeO.none _
   | refine LeO.ite ?_ ?_
   | refine LeO.bind ?_ (fun _ => ?_)
set_option maxHeartbeats 8000000 in
set_option maxRecDepth 100000 in
theorem laws_FnExactSend21.calls (k : Nat) (A0_0 : Option Addr) (c0_0 : Nat) (l0_0 : List ByteArray) (a0_1 : Int) (A0_2 : Option Addr) (c0_2 : Nat) (l0_2 : List ByteArray) (a1 : Int) (a2 : ByteArray) (r : Bool) (w : World) (hr0_0 : Kd.C Kd.string w A0_0 l0_0.length l0_0) (hc0_0 : l0_0.length ≤ c0_0) (hr0_2 : Kd.C Kd.string w A0_2 l0_2.length l0_2) (hc0_2 : l0_2.length ≤ c0_2) (h : laws_FnExactSend21.f k l0_0 a0_1 l0_2 a1 a2 = some r) :
  Calls Try.prog 5 #[.agg #[.slice A0_0 l0_0.length c0_0, .int .i64 a0_1, .slice A0_2 l0_2.length c0_2], .int .i64 a1, .string a2] w fun e w' => e = .returned (.bool r) ∧ Below w.heap.size w w' := by
 have hu42 := Try.underlying42
 have hu26 := Try.underlying26
 have hu34 := Try.underlying34
 have HR0_0 := Aside0.mk hr0_0
 have HC0_0 := Aside0.mk hc0_0
 clear hr0_0 hc0_0
 have HR0_2 := Aside0.mk hr0_2
 have HC0_2 := Aside0.mk hc0_2
 clear hr0_2 hc0_2
 have HB := Aside0.mk (Below.refl w.heap.size w)
 have H : (if (a2.size : Int) > 1048576 then (some true) else ((laws_szParty.f k l0_0 a0_1 l0_2 1048576).bind fun t219 => (if t219 < 0 then (some true) else ((laws_toParty.f k l0_0 a0_1 l0_2).bind fun bt220 => ((spec_Send21.f k bt220.1 bt220.2.1 bt220.2.2 a1 a2).bind fun bt227 => ((laws_toParty.f k l0_0 a0_1 l0_2).bind fun bt241 => ((impl_Send21.f k bt241.1 bt241.2.1 bt241.2.2 a1 a2).bind fun bt249 => ((laws_eqParty.f k bt249.1 bt249.2.1 bt249.2.2.1 bt227.1 bt227.2.1 bt227.2.2.1).bind fun t263 => (if t263 = true then ((laws_eqPost.f bt249.2.2.2.1 bt249.2.2.2.2.1 bt249.2.2.2.2.2.1 bt249.2.2.2.2.2.2.1 bt227.2.2.2.1 bt227.2.2.2.2.1 bt227.2.2.2.2.2.1 bt227.2.2.2.2.2.2.1).bind fun t264 => (if t264 = true then (laws_FnExactSend21.j0 k a1 a2 bt227.2.2.2.2.2.2.2 bt249.2.2.2.2.2.2.2 (bt249.2.2.2.2.2.2.2 != bt227.2.2.2.2.2.2.2) l0_0 a0_1 l0_2 bt227.1 bt227.2.1 bt227.2.2.1 bt227.2.2.2.1 bt227.2.2.2.2.1 bt227.2.2.2.2.2.1 bt227.2.2.2.2.2.2.1 bt241.1 bt241.2.1 bt241.2.2 bt249.1 bt249.2.1 bt249.2.2.1 bt249.2.2.2.1 bt249.2.2.2.2.1 bt249.2.2.2.2.2.1 bt249.2.2.2.2.2.2.1) else (laws_FnExactSend21.j0 k a1 a2 bt227.2.2.2.2.2.2.2 bt249.2.2.2.2.2.2.2 true l0_0 a0_1 l0_2 bt227.1 bt227.2.1 bt227.2.2.1 bt227.2.2.2.1 bt227.2.2.2.2.1 bt227.2.2.2.2.2.1 bt227.2.2.2.2.2.2.1 bt241.1 bt241.2.1 bt241.2.2 bt249.1 bt249.2.1 bt249.2.2.1 bt249.2.2.2.1 bt249.2.2.2.2.1 bt249.2.2.2.2.2.1 bt249.2.2.2.2.2.2.1))) else (laws_FnExactSend21.j0 k a1 a2 bt227.2.2.2.2.2.2.2 bt249.2.2.2.2.2.2.2 true l0_0 a0_1 l0_2 bt227.1 bt227.2.1 bt227.2.2.1 bt227.2.2.2.1 bt227.2.2.2.2.1 bt227.2.2.2.2.2.1 bt227.2.2.2.2.2.2.1 bt241.1 bt241.2.1 bt241.2.2 bt249.1 bt249.2.1 bt249.2.2.1 bt249.2.2.2.1 bt249.2.2.2.2.1 bt249.2.2.2.2.2.1 bt249.2.2.2.2.2.2.1)))))))))) = some r := h
 clear h
 by_cases c4 : (a2.size : Int) > 1048576
 ·rw [if_pos c4] at H
  have c4b0 : decide (1048576 < (a2.size : Int)) = true := decide_eq_true c4
  have c4b1 : decide (1048576 < a2.size) = true := decide_eq_true (by omega)
  clear c4
  obtain rfl := Option.some.inj H
  go_enter Try.func5, Try.ntmps5
  go_wp2_with (first | ((with_reducible refine gate_dst (N := 3) rfl ?_); refine box_event ?hg (N := 3) ?hd (cs := #[.slice A0_0 l0_0.length c0_0, .int .i64 a0_1, .slice A0_2 l0_2.length c0_2]) (t := 42) ?hr ?_; (case hd => rfl); (case hg => rfl); (case hr => first | (go_simp; done) | (go_simp; rfl)); intro gb218 hg w5 hbox hb; have n0_ := Aside0.mk (below_step (bel_ HB.out) hb); have n1_ := Aside0.mk (hbox); have n2_ := Aside0.mk ((by rw [hg]; exact (below_size (bel_ HB.out)) : w.heap.size ≤ gb218)); have n3_ := Aside0.mk ((by rw [hg]; exact (below_size (bel_ HB.out)) : w.heap.size ≤ gb218)); clear HB; have HB := n0_; have BK218 := n1_; have GW218 := n2_; have GE218 := n3_; clear n0_ n1_ n2_ n3_; clear hb hbox hg))
  go_ret
  exact ⟨by first | rfl | (simp [errW_none, errW_some] <;> rfl) | (simp [*, errW_none, errW_some] <;> rfl), bel_ HB.out⟩
 ·rw [if_neg c4] at H
  have c4b0 : decide (1048576 < (a2.size : Int)) = false := decide_eq_false c4
  have c4b1 : decide (1048576 < a2.size) = false := decide_eq_false (by omega)
  clear c4
  replace H := Option.bind_eq_some_iff.mp H
  obtain ⟨t219, A60, H⟩ := H
  replace H : (if t219 < 0 then (some true) else ((laws_toParty.f k l0_0 a0_1 l0_2).bind fun bt220 => ((spec_Send21.f k bt220.1 bt220.2.1 bt220.2.2 a1 a2).bind fun bt227 => ((laws_toParty.f k l0_0 a0_1 l0_2).bind fun bt241 => ((impl_Send21.f k bt241.1 bt241.2.1 bt241.2.2 a1 a2).bind fun bt249 => ((laws_eqParty.f k bt249.1 bt249.2.1 bt249.2.2.1 bt227.1 bt227.2.1 bt227.2.2.1).bind fun t263 => (if t263 = true then ((laws_eqPost.f bt249.2.2.2.1 bt249.2.2.2.2.1 bt249.2.2.2.2.2.1 bt249.2.2.2.2.2.2.1 bt227.2.2.2.1 bt227.2.2.2.2.1 bt227.2.2.2.2.2.1 bt227.2.2.2.2.2.2.1).bind fun t264 => (if t264 = true then (laws_FnExactSend21.j0 k a1 a2 bt227.2.2.2.2.2.2.2 bt249.2.2.2.2.2.2.2 (bt249.2.2.2.2.2.2.2 != bt227.2.2.2.2.2.2.2) l0_0 a0_1 l0_2 bt227.1 bt227.2.1 bt227.2.2.1 bt227.2.2.2.1 bt227.2.2.2.2.1 bt227.2.2.2.2.2.1 bt227.2.2.2.2.2.2.1 bt241.1 bt241.2.1 bt241.2.2 bt249.1 bt249.2.1 bt249.2.2.1 bt249.2.2.2.1 bt249.2.2.2.2.1 bt249.2.2.2.2.2.1 bt249.2.2.2.2.2.2.1) else (laws_FnExactSend21.j0 k a1 a2 bt227.2.2.2.2.2.2.2 bt249.2.2.2.2.2.2.2 true l0_0 a0_1 l0_2 bt227.1 bt227.2.1 bt227.2.2.1 bt227.2.2.2.1 bt227.2.2.2.2.1 bt227.2.2.2.2.2.1 bt227.2.2.2.2.2.2.1 bt241.1 bt241.2.1 bt241.2.2 bt249.1 bt249.2.1 bt249.2.2.1 bt249.2.2.2.1 bt249.2.2.2.2.1 bt249.2.2.2.2.2.1 bt249.2.2.2.2.2.2.1))) else (laws_FnExactSend21.j0 k a1 a2 bt227.2.2.2.2.2.2.2 bt249.2.2.2.2.2.2.2 true l0_0 a0_1 l0_2 bt227.1 bt227.2.1 bt227.2.2.1 bt227.2.2.2.1 bt227.2.2.2.2.1 bt227.2.2.2.2.2.1 bt227.2.2.2.2.2.2.1 bt241.1 bt241.2.1 bt241.2.2 bt249.1 bt249.2.1 bt249.2.2.1 bt249.2.2.2.1 bt249.2.2.2.2.1 bt249.2.2.2.2.2.1 bt249.2.2.2.2.2.2.1)))))))) = some r := H
  have A6 := Aside0.mk A60
  clear A60
  by_cases c7 : t219 < 0
  ·rw [if_pos c7] at H
   have c7b0 : decide (t219 < 0) = true := decide_eq_true c7
   clear c7
   obtain rfl := Option.some.inj H
   go_enter Try.func5, Try.ntmps5
   go_wp2_with (first | ((with_reducible refine gate_dst (N := 3) rfl ?_); refine box_event ?hg (N := 3) ?hd (cs := #[.slice A0_0 l0_0.length c0_0, .int .i64 a0_1, .slice A0_2 l0_2.length c0_2]) (t := 42) ?hr ?_; (case hd => rfl); (case hg => rfl); (case hr => first | (go_simp; done) | (go_simp; rfl)); intro gb218 hg w8 hbox hb; have n0_ := Aside0.mk (below_step (bel_ HB.out) hb); have n1_ := Aside0.mk (hbox); have n2_ := Aside0.mk ((by rw [hg]; exact (below_size (bel_ HB.out)) : w.heap.size ≤ gb218)); have n3_ := Aside0.mk ((by rw [hg]; exact (below_size (bel_ HB.out)) : w.heap.size ≤ gb218)); clear HB; have HB := n0_; have BK218 := n1_; have GW218 := n2_; have GE218 := n3_; clear n0_ n1_ n2_ n3_; clear hb hbox hg; have hcz9_0 : w8.cell? ⟨gb218, 0, none⟩ = some (.slice A0_0 l0_0.length c0_0) := (blk_cell BK218.out 0).trans rfl; have hcz9_1 : w8.cell? ⟨gb218, 1, none⟩ = some (.int .i64 a0_1) := (blk_cell BK218.out 1).trans rfl; have hcz9_2 : w8.cell? ⟨gb218, 2, none⟩ = some (.slice A0_2 l0_2.length c0_2) := (blk_cell BK218.out 2).trans rfl; have hfz9_0 := blk_frozen BK218.out 0; have hfz9_1 := blk_frozen BK218.out 1; have hfz9_2 := blk_frozen BK218.out 2) | ((with_reducible refine gate_callee (f := 15) rfl ?_); refine goesL_ (some 26) rfl rfl Try.func15 (by kernel_rfl) rfl #[.agg #[.slice A0_0 l0_0.length c0_0, .int .i64 a0_1, .slice A0_2 l0_2.length c0_2], .int .i64 1048576] rfl ml_ ?_; (with_reducible refine (laws_szParty.calls k _ _ l0_0 a0_1 _ _ l0_2 1048576 t219 _ ?side1 ?side2 ?side3 ?side4 A6.out).mono ?_); (case side1 => repeat (first | exact (Kd.C_below HR0_0.out HB.out) | (with_reducible refine Kd.C_alloc ?_ _) | (with_reducible refine Kd.C_drewN ?_ _) | (with_reducible refine Kd.C_drew ?_))); (case side2 => exact HC0_0.out); (case side3 => repeat (first | exact (Kd.C_below HR0_2.out HB.out) | (with_reducible refine Kd.C_alloc ?_ _) | (with_reducible refine Kd.C_drewN ?_ _) | (with_reducible refine Kd.C_drew ?_))); (case side4 => exact HC0_2.out); rintro e w10 ⟨rfl, hb⟩; refine ⟨_, rfl, ?_⟩; have n0_ := Aside0.mk (bb_ BK218.out hb); have n1_ := Aside0.mk (below_step (bel_ HB.out) hb); clear BK218; clear HB; have BK218 := n0_; have HB := n1_; clear n0_ n1_; (try clear hb); (try clear hb2); (try clear hk); (try clear hi)))
   go_ret
   exact ⟨by first | rfl | (simp [errW_none, errW_some] <;> rfl) | (simp [*, errW_none, errW_some] <;> rfl), bel_ HB.out⟩
  ·rw [if_neg c7] at H
   have c7b0 : decide (t219 < 0) = false := decide_eq_false c7
   clear c7
   replace H := Option.bind_eq_some_iff.mp H
   obtain ⟨⟨t220, t223, t224⟩, A110, H⟩ := H
   replace H : ((spec_Send21.f k t220 t223 t224 a1 a2).bind fun bt227 => ((laws_toParty.f k l0_0 a0_1 l0_2).bind fun bt241 => ((impl_Send21.f k bt241.1 bt241.2.1 bt241.2.2 a1 a2).bind fun bt249 => ((laws_eqParty.f k bt249.1 bt249.2.1 bt249.2.2.1 bt227.1 bt227.2.1 bt227.2.2.1).bind fun t263 => (if t263 = true then ((laws_eqPost.f bt249.2.2.2.1 bt249.2.2.2.2.1 bt249.2.2.2.2.2.1 bt249.2.2.2.2.2.2.1 bt227.2.2.2.1 bt227.2.2.2.2.1 bt227.2.2.2.2.2.1 bt227.2.2.2.2.2.2.1).bind fun t264 => (if t264 = true then (laws_FnExactSend21.j0 k a1 a2 bt227.2.2.2.2.2.2.2 bt249.2.2.2.2.2.2.2 (bt249.2.2.2.2.2.2.2 != bt227.2.2.2.2.2.2.2) l0_0 a0_1 l0_2 bt227.1 bt227.2.1 bt227.2.2.1 bt227.2.2.2.1 bt227.2.2.2.2.1 bt227.2.2.2.2.2.1 bt227.2.2.2.2.2.2.1 bt241.1 bt241.2.1 bt241.2.2 bt249.1 bt249.2.1 bt249.2.2.1 bt249.2.2.2.1 bt249.2.2.2.2.1 bt249.2.2.2.2.2.1 bt249.2.2.2.2.2.2.1) else (laws_FnExactSend21.j0 k a1 a2 bt227.2.2.2.2.2.2.2 bt249.2.2.2.2.2.2.2 true l0_0 a0_1 l0_2 bt227.1 bt227.2.1 bt227.2.2.1 bt227.2.2.2.1 bt227.2.2.2.2.1 bt227.2.2.2.2.2.1 bt227.2.2.2.2.2.2.1 bt241.1 bt241.2.1 bt241.2.2 bt249.1 bt249.2.1 bt249.2.2.1 bt249.2.2.2.1 bt249.2.2.2.2.1 bt249.2.2.2.2.2.1 bt249.2.2.2.2.2.2.1))) else (laws_FnExactSend21.j0 k a1 a2 bt227.2.2.2.2.2.2.2 bt249.2.2.2.2.2.2.2 true l0_0 a0_1 l0_2 bt227.1 bt227.2.1 bt227.2.2.1 bt227.2.2.2.1 bt227.2.2.2.2.1 bt227.2.2.2.2.2.1 bt227.2.2.2.2.2.2.1 bt241.1 bt241.2.1 bt241.2.2 bt249.1 bt249.2.1 bt249.2.2.1 bt249.2.2.2.1 bt249.2.2.2.2.1 bt249.2.2.2.2.2.1 bt249.2.2.2.2.2.2.1)))))) = some r := H
   have A11 := Aside0.mk A110
   clear A110
   replace H := Option.bind_eq_some_iff.mp H
   obtain ⟨⟨t227, t230, t231, t234, t235, t236, t237, t238⟩, A120, H⟩ := H
   replace H : ((laws_toParty.f k l0_0 a0_1 l0_2).bind fun bt241 => ((impl_Send21.f k bt241.1 bt241.2.1 bt241.2.2 a1 a2).bind fun bt249 => ((laws_eqParty.f k bt249.1 bt249.2.1 bt249.2.2.1 t227 t230 t231).bind fun t263 => (if t263 = true then ((laws_eqPost.f bt249.2.2.2.1 bt249.2.2.2.2.1 bt249.2.2.2.2.2.1 bt249.2.2.2.2.2.2.1 t234 t235 t236 t237).bind fun t264 => (if t264 = true then (laws_FnExactSend21.j0 k a1 a2 t238 bt249.2.2.2.2.2.2.2 (bt249.2.2.2.2.2.2.2 != t238) l0_0 a0_1 l0_2 t227 t230 t231 t234 t235 t236 t237 bt241.1 bt241.2.1 bt241.2.2 bt249.1 bt249.2.1 bt249.2.2.1 bt249.2.2.2.1 bt249.2.2.2.2.1 bt249.2.2.2.2.2.1 bt249.2.2.2.2.2.2.1) else (laws_FnExactSend21.j0 k a1 a2 t238 bt249.2.2.2.2.2.2.2 true l0_0 a0_1 l0_2 t227 t230 t231 t234 t235 t236 t237 bt241.1 bt241.2.1 bt241.2.2 bt249.1 bt249.2.1 bt249.2.2.1 bt249.2.2.2.1 bt249.2.2.2.2.1 bt249.2.2.2.2.2.1 bt249.2.2.2.2.2.2.1))) else (laws_FnExactSend21.j0 k a1 a2 t238 bt249.2.2.2.2.2.2.2 true l0_0 a0_1 l0_2 t227 t230 t231 t234 t235 t236 t237 bt241.1 bt241.2.1 bt241.2.2 bt249.1 bt249.2.1 bt249.2.2.1 bt249.2.2.2.1 bt249.2.2.2.2.1 bt249.2.2.2.2.2.1 bt249.2.2.2.2.2.2.1))))) = some r := H
   have A12 := Aside0.mk A120
   clear A120
   replace H := Option.bind_eq_some_iff.mp H
   obtain ⟨⟨t241, t244, t245⟩, A130, H⟩ := H
   replace H : ((impl_Send21.f k t241 t244 t245 a1 a2).bind fun bt249 => ((laws_eqParty.f k bt249.1 bt249.2.1 bt249.2.2.1 t227 t230 t231).bind fun t263 => (if t263 = true then ((laws_eqPost.f bt249.2.2.2.1 bt249.2.2.2.2.1 bt249.2.2.2.2.2.1 bt249.2.2.2.2.2.2.1 t234 t235 t236 t237).bind fun t264 => (if t264 = true then (laws_FnExactSend21.j0 k a1 a2 t238 bt249.2.2.2.2.2.2.2 (bt249.2.2.2.2.2.2.2 != t238) l0_0 a0_1 l0_2 t227 t230 t231 t234 t235 t236 t237 t241 t244 t245 bt249.1 bt249.2.1 bt249.2.2.1 bt249.2.2.2.1 bt249.2.2.2.2.1 bt249.2.2.2.2.2.1 bt249.2.2.2.2.2.2.1) else (laws_FnExactSend21.j0 k a1 a2 t238 bt249.2.2.2.2.2.2.2 true l0_0 a0_1 l0_2 t227 t230 t231 t234 t235 t236 t237 t241 t244 t245 bt249.1 bt249.2.1 bt249.2.2.1 bt249.2.2.2.1 bt249.2.2.2.2.1 bt249.2.2.2.2.2.1 bt249.2.2.2.2.2.2.1))) else (laws_FnExactSend21.j0 k a1 a2 t238 bt249.2.2.2.2.2.2.2 true l0_0 a0_1 l0_2 t227 t230 t231 t234 t235 t236 t237 t241 t244 t245 bt249.1 bt249.2.1 bt249.2.2.1 bt249.2.2.2.1 bt249.2.2.2.2.1 bt249.2.2.2.2.2.1 bt249.2.2.2.2.2.2.1)))) = some r := H
   have A13 := Aside0.mk A130
   clear A130
   replace H := Option.bind_eq_some_iff.mp H
   obtain ⟨⟨t249, t252, t253, t256, t257, t258, t259, t260⟩, A140, H⟩ := H
   replace H : ((laws_eqParty.f k t249 t252 t253 t227 t230 t231).bind fun t263 => (if t263 = true then ((laws_eqPost.f t256 t257 t258 t259 t234 t235 t236 t237).bind fun t264 => (if t264 = true then (laws_FnExactSend21.j0 k a1 a2 t238 t260 (t260 != t238) l0_0 a0_1 l0_2 t227 t230 t231 t234 t235 t236 t237 t241 t244 t245 t249 t252 t253 t256 t257 t258 t259) else (laws_FnExactSend21.j0 k a1 a2 t238 t260 true l0_0 a0_1 l0_2 t227 t230 t231 t234 t235 t236 t237 t241 t244 t245 t249 t252 t253 t256 t257 t258 t259))) else (laws_FnExactSend21.j0 k a1 a2 t238 t260 true l0_0 a0_1 l0_2 t227 t230 t231 t234 t235 t236 t237 t241 t244 t245 t249 t252 t253 t256 t257 t258 t259))) = some r := H
   have A14 := Aside0.mk A140
   clear A140
   have HC15 := Aside0.mk H
   clear H
   go_enter Try.func5, Try.ntmps5
   go_upto_region 10 with (first | ((with_reducible refine gate_dst (N := 3) rfl ?_); refine box_event ?hg (N := 3) ?hd (cs := #[.slice A0_0 l0_0.length c0_0, .int .i64 a0_1, .slice A0_2 l0_2.length c0_2]) (t := 42) ?hr ?_; (case hd => rfl); (case hg => rfl); (case hr => first | (go_simp; done) | (go_simp; rfl)); intro gb218 hg w16 hbox hb; have n0_ := Aside0.mk (below_step (bel_ HB.out) hb); have n1_ := Aside0.mk (hbox); have n2_ := Aside0.mk ((by rw [hg]; exact (below_size (bel_ HB.out)) : w.heap.size ≤ gb218)); have n3_ := Aside0.mk ((by rw [hg]; exact (below_size (bel_ HB.out)) : w.heap.size ≤ gb218)); clear HB; have HB := n0_; have BK218 := n1_; have GW218 := n2_; have GE218 := n3_; clear n0_ n1_ n2_ n3_; clear hb hbox hg; have hcz17_0 : w16.cell? ⟨gb218, 0, none⟩ = some (.slice A0_0 l0_0.length c0_0) := (blk_cell BK218.out 0).trans rfl; have hcz17_1 : w16.cell? ⟨gb218, 1, none⟩ = some (.int .i64 a0_1) := (blk_cell BK218.out 1).trans rfl; have hcz17_2 : w16.cell? ⟨gb218, 2, none⟩ = some (.slice A0_2 l0_2.length c0_2) := (blk_cell BK218.out 2).trans rfl; have hfz17_0 := blk_frozen BK218.out 0; have hfz17_1 := blk_frozen BK218.out 1; have hfz17_2 := blk_frozen BK218.out 2) | ((with_reducible refine gate_callee (f := 15) rfl ?_); refine goesL_ (some 26) rfl rfl Try.func15 (by kernel_rfl) rfl #[.agg #[.slice A0_0 l0_0.length c0_0, .int .i64 a0_1, .slice A0_2 l0_2.length c0_2], .int .i64 1048576] rfl ml_ ?_; (with_reducible refine (laws_szParty.calls k _ _ l0_0 a0_1 _ _ l0_2 1048576 t219 _ ?side1 ?side2 ?side3 ?side4 A6.out).mono ?_); (case side1 => repeat (first | exact (Kd.C_below HR0_0.out HB.out) | (with_reducible refine Kd.C_alloc ?_ _) | (with_reducible refine Kd.C_drewN ?_ _) | (with_reducible refine Kd.C_drew ?_))); (case side2 => exact HC0_0.out); (case side3 => repeat (first | exact (Kd.C_below HR0_2.out HB.out) | (with_reducible refine Kd.C_alloc ?_ _) | (with_reducible refine Kd.C_drewN ?_ _) | (with_reducible refine Kd.C_drew ?_))); (case side4 => exact HC0_2.out); rintro e w18 ⟨rfl, hb⟩; refine ⟨_, rfl, ?_⟩; have n0_ := Aside0.mk (bb_ BK218.out hb); have n1_ := Aside0.mk (below_step (bel_ HB.out) hb); clear BK218; clear HB; have BK218 := n0_; have HB := n1_; clear n0_ n1_; (try clear hb); (try clear hb2); (try clear hk); (try clear hi); have hcz19_0 : w18.cell? ⟨gb218, 0, none⟩ = some (.slice A0_0 l0_0.length c0_0) := (blk_cell BK218.out 0).trans rfl; have hcz19_1 : w18.cell? ⟨gb218, 1, none⟩ = some (.int .i64 a0_1) := (blk_cell BK218.out 1).trans rfl; have hcz19_2 : w18.cell? ⟨gb218, 2, none⟩ = some (.slice A0_2 l0_2.length c0_2) := (blk_cell BK218.out 2).trans rfl; have hfz19_0 := blk_frozen BK218.out 0; have hfz19_1 := blk_frozen BK218.out 1; have hfz19_2 := blk_frozen BK218.out 2) | ((with_reducible refine gate_callee (f := 17) rfl ?_); refine goesL_ (some 31) rfl rfl Try.func17 (by kernel_rfl) rfl #[.agg #[.slice A0_0 l0_0.length c0_0, .int .i64 a0_1, .slice A0_2 l0_2.length c0_2]] rfl ml_ ?_; (with_reducible refine (laws_toParty.calls k _ _ l0_0 a0_1 _ _ l0_2 t220 t223 t224 _ ?side1 ?side2 ?side3 ?side4 A11.out).mono ?_); (case side1 => repeat (first | exact (Kd.C_below HR0_0.out HB.out) | (with_reducible refine Kd.C_alloc ?_ _) | (with_reducible refine Kd.C_drewN ?_ _) | (with_reducible refine Kd.C_drew ?_))); (case side2 => exact HC0_0.out); (case side3 => repeat (first | exact (Kd.C_below HR0_2.out HB.out) | (with_reducible refine Kd.C_alloc ?_ _) | (with_reducible refine Kd.C_drewN ?_ _) | (with_reducible refine Kd.C_drew ?_))); (case side4 => exact HC0_2.out); rintro e w20 ⟨v221, v225, rfl, ho0, ho1, hb⟩; refine ⟨_, rfl, ?_⟩; have n0_ := Aside0.mk (Kd.R_lower ho0 (below_size (bel_ HB.out))); have n1_ := Aside0.mk (Kd.R_lower ho1 (below_size (bel_ HB.out))); have n2_ := Aside0.mk (bb_ BK218.out hb); have n3_ := Aside0.mk (below_step (bel_ HB.out) hb); clear BK218; clear HB; have HO222 := n0_; have HO226 := n1_; have BK218 := n2_; have HB := n3_; clear n0_ n1_ n2_ n3_; (try clear hb); (try clear hb2); (try clear hk); (try clear hi); (try clear ho0); (try clear ho1); obtain ⟨Ao21, co21, eo21⟩ := Kd.R_slice HO222.out; subst eo21; obtain ⟨Ao22, co22, eo22⟩ := Kd.R_slice HO226.out; subst eo22) | ((with_reducible refine gate_callee (f := 19) rfl ?_); refine goesL_ (some 34) rfl rfl Try.func19 (by kernel_rfl) rfl #[.agg #[.slice Ao21 t220.length co21, .int .i64 t223, .slice Ao22 t224.length co22], .int .i64 a1, .string a2] rfl ml_ ?_; (with_reducible refine (spec_Send21.calls k _ _ t220 t223 _ _ t224 a1 a2 t227 t230 t231 t234 t235 t236 t237 t238 _ ?side1 ?side2 ?side3 ?side4 A12.out).mono ?_); (case side1 => exact rc_ (Kd.R_reads' HO222.out).2.2); (case side2 => exact (Kd.R_reads' HO222.out).2.1); (case side3 => exact rc_ (Kd.R_reads' HO226.out).2.2); (case side4 => exact (Kd.R_reads' HO226.out).2.1); rintro e w23 ⟨v228, v232, rfl, ho0, ho1, hb⟩; refine ⟨_, rfl, ?_⟩; have n0_ := Aside0.mk (Kd.R_mono (Kd.R_told (Kd.R_told (Kd.R_old (fr_ HO222.out) hb) (Kd.R_base ho0)) (Kd.R_base ho1)) (fun _ h_ => h_.1)); have n1_ := Aside0.mk (Kd.R_mono (Kd.R_told (Kd.R_told (Kd.R_old (fr_ HO226.out) hb) (Kd.R_base ho0)) (Kd.R_base ho1)) (fun _ h_ => h_.1)); have n2_ := Aside0.mk (Kd.R_lower (Kd.R_new' (Kd.R_new' ho0 (Kd.R_lt (fr_ HO222.out))) (Kd.R_lt (fr_ HO226.out))) (below_size (bel_ HB.out))); have n3_ := Aside0.mk (Kd.R_lower (Kd.R_new' (Kd.R_new' ho1 (Kd.R_lt (fr_ HO222.out))) (Kd.R_lt (fr_ HO226.out))) (below_size (bel_ HB.out))); have n4_ := Aside0.mk (bb_ BK218.out hb); have n5_ := Aside0.mk (below_step (bel_ HB.out) hb); clear HO222; clear HO226; clear BK218; clear HB; have HO222 := n0_; have HO226 := n1_; have HO229 := n2_; have HO233 := n3_; have BK218 := n4_; have HB := n5_; clear n0_ n1_ n2_ n3_ n4_ n5_; (try clear hb); (try clear hb2); (try clear hk); (try clear hi); (try clear ho0); (try clear ho1)) | ((with_reducible refine gate_dst (N := 8) rfl ?_); refine box_event ?hg (N := 8) ?hd (cs := #[.slice none 0 0, .int .i64 0, .slice none 0 0]) (t := 26) ?hr ?_; (case hd => rfl); (case hg => rfl); (case hr => first | (go_simp; done) | (go_simp; rfl)); intro gb239 hg w24 hbox hb; have n0_ := Aside0.mk (Kd.R_below (fr_ HO222.out) hb); have n1_ := Aside0.mk (Kd.R_below (fr_ HO226.out) hb); have n2_ := Aside0.mk (Kd.R_below (fr_ HO229.out) hb); have n3_ := Aside0.mk (Kd.R_below (fr_ HO233.out) hb); have n4_ := Aside0.mk (bb_ BK218.out hb); have n5_ := Aside0.mk (below_step (bel_ HB.out) hb); have n6_ := Aside0.mk (hbox); have n7_ := Aside0.mk ((by rw [hg]; exact (below_size (bel_ HB.out)) : w.heap.size ≤ gb239)); have n8_ := Aside0.mk ((by rw [hg]; exact (below_size (bel_ HB.out)) : w.heap.size ≤ gb239)); have n9_ := Aside0.mk (nl_ BK218.out hg); have n10_ := Aside0.mk (ng_ BK218.out hg); clear HO222; clear HO226; clear HO229; clear HO233; clear BK218; clear HB; have HO222 := n0_; have HO226 := n1_; have HO229 := n2_; have HO233 := n3_; have BK218 := n4_; have HB := n5_; have BK239 := n6_; have GW239 := n7_; have GE239 := n8_; have NB218_239 := n9_; have NB239_218 := n10_; clear n0_ n1_ n2_ n3_ n4_ n5_ n6_ n7_ n8_ n9_ n10_; clear hb hbox hg) | ((with_reducible refine gate_dst (N := 9) rfl ?_); refine box_event ?hg (N := 9) ?hd (cs := #[.int .i64 0, .int .i64 0, .int .i64 0, .string (⟨#[]⟩ : ByteArray)]) (t := 34) ?hr ?_; (case hd => rfl); (case hg => rfl); (case hr => first | (go_simp; done) | (go_simp; rfl)); intro gb240 hg w25 hbox hb; have n0_ := Aside0.mk (Kd.R_below (fr_ HO222.out) hb); have n1_ := Aside0.mk (Kd.R_below (fr_ HO226.out) hb); have n2_ := Aside0.mk (Kd.R_below (fr_ HO229.out) hb); have n3_ := Aside0.mk (Kd.R_below (fr_ HO233.out) hb); have n4_ := Aside0.mk (bb_ BK218.out hb); have n5_ := Aside0.mk (bb_ BK239.out hb); have n6_ := Aside0.mk (below_step (bel_ HB.out) hb); have n7_ := Aside0.mk (hbox); have n8_ := Aside0.mk ((by rw [hg]; exact (below_size (bel_ HB.out)) : w.heap.size ≤ gb240)); have n9_ := Aside0.mk ((by rw [hg]; exact (below_size (bel_ HB.out)) : w.heap.size ≤ gb240)); have n10_ := Aside0.mk (nl_ BK218.out hg); have n11_ := Aside0.mk (ng_ BK218.out hg); have n12_ := Aside0.mk (nl_ BK239.out hg); have n13_ := Aside0.mk (ng_ BK239.out hg); clear HO222; clear HO226; clear HO229; clear HO233; clear BK218; clear BK239; clear HB; have HO222 := n0_; have HO226 := n1_; have HO229 := n2_; have HO233 := n3_; have BK218 := n4_; have BK239 := n5_; have HB := n6_; have BK240 := n7_; have GW240 := n8_; have GE240 := n9_; have NB218_240 := n10_; have NB240_218 := n11_; have NB239_240 := n12_; have NB240_239 := n13_; clear n0_ n1_ n2_ n3_ n4_ n5_ n6_ n7_ n8_ n9_ n10_ n11_ n12_ n13_; clear hb hbox hg; obtain ⟨Ao26, co26, eo26⟩ := Kd.R_slice HO229.out; subst eo26; have hnb27 := NB239_218.out; have hnc27 := NB218_239.out; have hnb28 := NB239_240.out; have hnc28 := NB240_239.out; have hcz29_0 : w25.cell? ⟨gb239, 0, none⟩ = some (.slice none 0 0) := (blk_cell BK239.out 0).trans rfl; have hcz29_1 : w25.cell? ⟨gb239, 1, none⟩ = some (.int .i64 0) := (blk_cell BK239.out 1).trans rfl; have hcz29_2 : w25.cell? ⟨gb239, 2, none⟩ = some (.slice none 0 0) := (blk_cell BK239.out 2).trans rfl; have hfz29_0 := blk_frozen BK239.out 0; have hfz29_1 := blk_frozen BK239.out 1; have hfz29_2 := blk_frozen BK239.out 2; obtain ⟨Ao30, co30, eo30⟩ := Kd.R_slice HO233.out; subst eo30; have hnb31 := NB240_218.out; have hnc31 := NB218_240.out; have hcz32_0 : w25.cell? ⟨gb240, 0, none⟩ = some (.int .i64 0) := (blk_cell BK240.out 0).trans rfl; have hcz32_1 : w25.cell? ⟨gb240, 1, none⟩ = some (.int .i64 0) := (blk_cell BK240.out 1).trans rfl; have hcz32_2 : w25.cell? ⟨gb240, 2, none⟩ = some (.int .i64 0) := (blk_cell BK240.out 2).trans rfl; have hcz32_3 : w25.cell? ⟨gb240, 3, none⟩ = some (.string (⟨#[]⟩ : ByteArray)) := (blk_cell BK240.out 3).trans rfl; have hfz32_0 := blk_frozen BK240.out 0; have hfz32_1 := blk_frozen BK240.out 1; have hfz32_2 := blk_frozen BK240.out 2; have hfz32_3 := blk_frozen BK240.out 3; have hcz33_0 : w25.cell? ⟨gb218, 0, none⟩ = some (.slice A0_0 l0_0.length c0_0) := (blk_cell BK218.out 0).trans rfl; have hcz33_1 : w25.cell? ⟨gb218, 1, none⟩ = some (.int .i64 a0_1) := (blk_cell BK218.out 1).trans rfl; have hcz33_2 : w25.cell? ⟨gb218, 2, none⟩ = some (.slice A0_2 l0_2.length c0_2) := (blk_cell BK218.out 2).trans rfl; have hfz33_0 := blk_frozen BK218.out 0; have hfz33_1 := blk_frozen BK218.out 1; have hfz33_2 := blk_frozen BK218.out 2) | ((with_reducible refine gate_callee (f := 17) rfl ?_); refine goesL_ (some 39) rfl rfl Try.func17 (by kernel_rfl) rfl #[.agg #[.slice A0_0 l0_0.length c0_0, .int .i64 a0_1, .slice A0_2 l0_2.length c0_2]] rfl ml_ ?_; (with_reducible refine (laws_toParty.calls k _ _ l0_0 a0_1 _ _ l0_2 t241 t244 t245 _ ?side1 ?side2 ?side3 ?side4 A13.out).mono ?_); (case side1 => exact Kd.C_below HR0_0.out (bel_ HB.out)); (case side2 => exact HC0_0.out); (case side3 => exact Kd.C_below HR0_2.out (bel_ HB.out)); (case side4 => exact HC0_2.out); rintro e w34 ⟨v242, v246, rfl, ho0, ho1, hb⟩; refine ⟨_, rfl, ?_⟩; have n0_ := Aside0.mk (Kd.R_mono (Kd.R_told (Kd.R_told (Kd.R_old (rf2_ (rt_ (rt_ HO222.out BK239.out) BK240.out)) hb) (Kd.R_base ho0)) (Kd.R_base ho1)) (fun _ h_ => h_.1)); have n1_ := Aside0.mk (Kd.R_mono (Kd.R_told (Kd.R_told (Kd.R_old (rf2_ (rt_ (rt_ HO226.out BK239.out) BK240.out)) hb) (Kd.R_base ho0)) (Kd.R_base ho1)) (fun _ h_ => h_.1)); have n2_ := Aside0.mk (Kd.R_mono (Kd.R_told (Kd.R_told (Kd.R_old (rf2_ (rt_ (rt_ HO229.out BK239.out) BK240.out)) hb) (Kd.R_base ho0)) (Kd.R_base ho1)) (fun _ h_ => h_.1)); have n3_ := Aside0.mk (Kd.R_mono (Kd.R_told (Kd.R_told (Kd.R_old (rf2_ (rt_ (rt_ HO233.out BK239.out) BK240.out)) hb) (Kd.R_base ho0)) (Kd.R_base ho1)) (fun _ h_ => h_.1)); have n4_ := Aside0.mk (Kd.R_lower (Kd.R_new' (Kd.R_new' (Kd.R_new' (Kd.R_new' ho0 (Kd.R_lt (rf2_ (rt_ (rt_ HO222.out BK239.out) BK240.out)))) (Kd.R_lt (rf2_ (rt_ (rt_ HO226.out BK239.out) BK240.out)))) (Kd.R_lt (rf2_ (rt_ (rt_ HO229.out BK239.out) BK240.out)))) (Kd.R_lt (rf2_ (rt_ (rt_ HO233.out BK239.out) BK240.out)))) (below_size (bel_ HB.out))); have n5_ := Aside0.mk (Kd.R_lower (Kd.R_new' (Kd.R_new' (Kd.R_new' (Kd.R_new' ho1 (Kd.R_lt (rf2_ (rt_ (rt_ HO222.out BK239.out) BK240.out)))) (Kd.R_lt (rf2_ (rt_ (rt_ HO226.out BK239.out) BK240.out)))) (Kd.R_lt (rf2_ (rt_ (rt_ HO229.out BK239.out) BK240.out)))) (Kd.R_lt (rf2_ (rt_ (rt_ HO233.out BK239.out) BK240.out)))) (below_size (bel_ HB.out))); have n6_ := Aside0.mk (ba_ BK218.out hb); have n7_ := Aside0.mk (blk_below (g := gb239) (o := .cells #[.slice Ao26 t227.length co26, .int .i64 t230, .slice Ao30 t231.length co30] 26 (0, 0)) (by refine rp_ ?_; refine blk_far ?_ NB239_240.out _; refine rp_ ?_; refine blk_far ?_ NB239_240.out _; refine rp_ ?_; refine blk_far ?_ NB239_240.out _; refine rp_ ?_; refine blk_far ?_ NB239_240.out _; refine rp_ ?_; refine blk_put (cs := #[.slice Ao26 t227.length co26, .int .i64 t230, .slice none 0 0]) ?_ 2 _ rfl; refine rp_ ?_; refine blk_put (cs := #[.slice Ao26 t227.length co26, .int .i64 0, .slice none 0 0]) ?_ 1 _ rfl; refine rp_ ?_; refine blk_put (cs := #[.slice none 0 0, .int .i64 0, .slice none 0 0]) ?_ 0 _ rfl; refine rp_ ?_; exact BK239.out) hb); have n8_ := Aside0.mk (blk_below (g := gb240) (o := .cells #[.int .i64 t234, .int .i64 t235, .int .i64 t236, .string t237] 34 (0, 0)) (by refine rp_ ?_; refine blk_put (cs := #[.int .i64 t234, .int .i64 t235, .int .i64 t236, .string (⟨#[]⟩ : ByteArray)]) ?_ 3 _ rfl; refine rp_ ?_; refine blk_put (cs := #[.int .i64 t234, .int .i64 t235, .int .i64 0, .string (⟨#[]⟩ : ByteArray)]) ?_ 2 _ rfl; refine rp_ ?_; refine blk_put (cs := #[.int .i64 t234, .int .i64 0, .int .i64 0, .string (⟨#[]⟩ : ByteArray)]) ?_ 1 _ rfl; refine rp_ ?_; refine blk_put (cs := #[.int .i64 0, .int .i64 0, .int .i64 0, .string (⟨#[]⟩ : ByteArray)]) ?_ 0 _ rfl; refine rp_ ?_; refine blk_far ?_ NB240_239.out _; refine rp_ ?_; refine blk_far ?_ NB240_239.out _; refine rp_ ?_; refine blk_far ?_ NB240_239.out _; refine rp_ ?_; exact BK240.out) hb); have n9_ := Aside0.mk (below_step (bel_ HB.out) hb); clear HO222; clear HO226; clear HO229; clear HO233; clear BK218; clear BK239; clear BK240; clear HB; have HO222 := n0_; have HO226 := n1_; have HO229 := n2_; have HO233 := n3_; have HO243 := n4_; have HO247 := n5_; have BK218 := n6_; have BK239 := n7_; have BK240 := n8_; have HB := n9_; clear n0_ n1_ n2_ n3_ n4_ n5_ n6_ n7_ n8_ n9_; (try clear hb); (try clear hb2); (try clear hk); (try clear hi); (try clear ho0); (try clear ho1)) | ((with_reducible refine gate_dst (N := 11) rfl ?_); refine box_event ?hg (N := 11) ?hd (cs := #[.slice none 0 0, .int .i64 0, .slice none 0 0]) (t := 26) ?hr ?_; (case hd => rfl); (case hg => rfl); (case hr => first | (go_simp; done) | (go_simp; rfl)); intro gb248 hg w35 hbox hb; have n0_ := Aside0.mk (Kd.R_below (fr_ HO222.out) hb); have n1_ := Aside0.mk (Kd.R_below (fr_ HO226.out) hb); have n2_ := Aside0.mk (Kd.R_below (fr_ HO229.out) hb); have n3_ := Aside0.mk (Kd.R_below (fr_ HO233.out) hb); have n4_ := Aside0.mk (Kd.R_below (fr_ HO243.out) hb); have n5_ := Aside0.mk (Kd.R_below (fr_ HO247.out) hb); have n6_ := Aside0.mk (bb_ BK218.out hb); have n7_ := Aside0.mk (bb_ BK239.out hb); have n8_ := Aside0.mk (bb_ BK240.out hb); have n9_ := Aside0.mk (below_step (bel_ HB.out) hb); have n10_ := Aside0.mk (hbox); have n11_ := Aside0.mk ((by rw [hg]; exact (below_size (bel_ HB.out)) : w.heap.size ≤ gb248)); have n12_ := Aside0.mk ((by rw [hg]; exact (below_size (bel_ HB.out)) : w.heap.size ≤ gb248)); have n13_ := Aside0.mk (nl_ BK218.out hg); have n14_ := Aside0.mk (ng_ BK218.out hg); have n15_ := Aside0.mk (nl_ BK239.out hg); have n16_ := Aside0.mk (ng_ BK239.out hg); have n17_ := Aside0.mk (nl_ BK240.out hg); have n18_ := Aside0.mk (ng_ BK240.out hg); clear HO222; clear HO226; clear HO229; clear HO233; clear HO243; clear HO247; clear BK218; clear BK239; clear BK240; clear HB; have HO222 := n0_; have HO226 := n1_; have HO229 := n2_; have HO233 := n3_; have HO243 := n4_; have HO247 := n5_; have BK218 := n6_; have BK239 := n7_; have BK240 := n8_; have HB := n9_; have BK248 := n10_; have GW248 := n11_; have GE248 := n12_; have NB218_248 := n13_; have NB248_218 := n14_; have NB239_248 := n15_; have NB248_239 := n16_; have NB240_248 := n17_; have NB248_240 := n18_; clear n0_ n1_ n2_ n3_ n4_ n5_ n6_ n7_ n8_ n9_ n10_ n11_ n12_ n13_ n14_ n15_ n16_ n17_ n18_; clear hb hbox hg; obtain ⟨Ao36, co36, eo36⟩ := Kd.R_slice HO243.out; subst eo36; have hnb37 := NB248_218.out; have hnc37 := NB218_248.out; have hnb38 := NB248_239.out; have hnc38 := NB239_248.out; have hnb39 := NB248_240.out; have hnc39 := NB240_248.out; have hcz40_0 : w35.cell? ⟨gb248, 0, none⟩ = some (.slice none 0 0) := (blk_cell BK248.out 0).trans rfl; have hcz40_1 : w35.cell? ⟨gb248, 1, none⟩ = some (.int .i64 0) := (blk_cell BK248.out 1).trans rfl; have hcz40_2 : w35.cell? ⟨gb248, 2, none⟩ = some (.slice none 0 0) := (blk_cell BK248.out 2).trans rfl; have hfz40_0 := blk_frozen BK248.out 0; have hfz40_1 := blk_frozen BK248.out 1; have hfz40_2 := blk_frozen BK248.out 2; obtain ⟨Ao41, co41, eo41⟩ := Kd.R_slice HO247.out; subst eo41) | ((with_reducible refine gate_callee (f := 12) rfl ?_); refine goesL_ (some 44) rfl rfl Try.func12 (by kernel_rfl) rfl #[.agg #[.slice Ao36 t241.length co36, .int .i64 t244, .slice Ao41 t245.length co41], .int .i64 a1, .string a2] rfl ml_ ?_; (with_reducible refine (impl_Send21.calls k _ _ t241 t244 _ _ t245 a1 a2 t249 t252 t253 t256 t257 t258 t259 t260 _ ?side1 ?side2 ?side3 ?side4 A14.out).mono ?_); (case side1 => exact (Kd.R_reads' (rf1_ (rt_ HO243.out BK248.out))).2.2); (case side2 => exact (Kd.R_reads' HO243.out).2.1); (case side3 => exact (Kd.R_reads' (rf1_ (rt_ HO247.out BK248.out))).2.2); (case side4 => exact (Kd.R_reads' HO247.out).2.1); rintro e w42 ⟨v250, v254, rfl, ho0, ho1, hb⟩; refine ⟨_, rfl, ?_⟩; have n0_ := Aside0.mk (Kd.R_mono (Kd.R_told (Kd.R_told (Kd.R_old (rf1_ (rt_ HO222.out BK248.out)) hb) (Kd.R_base ho0)) (Kd.R_base ho1)) (fun _ h_ => h_.1)); have n1_ := Aside0.mk (Kd.R_mono (Kd.R_told (Kd.R_told (Kd.R_old (rf1_ (rt_ HO226.out BK248.out)) hb) (Kd.R_base ho0)) (Kd.R_base ho1)) (fun _ h_ => h_.1)); have n2_ := Aside0.mk (Kd.R_mono (Kd.R_told (Kd.R_told (Kd.R_old (rf1_ (rt_ HO229.out BK248.out)) hb) (Kd.R_base ho0)) (Kd.R_base ho1)) (fun _ h_ => h_.1)); have n3_ := Aside0.mk (Kd.R_mono (Kd.R_told (Kd.R_told (Kd.R_old (rf1_ (rt_ HO233.out BK248.out)) hb) (Kd.R_base ho0)) (Kd.R_base ho1)) (fun _ h_ => h_.1)); have n4_ := Aside0.mk (Kd.R_mono (Kd.R_told (Kd.R_told (Kd.R_old (rf1_ (rt_ HO243.out BK248.out)) hb) (Kd.R_base ho0)) (Kd.R_base ho1)) (fun _ h_ => h_.1)); have n5_ := Aside0.mk (Kd.R_mono (Kd.R_told (Kd.R_told (Kd.R_old (rf1_ (rt_ HO247.out BK248.out)) hb) (Kd.R_base ho0)) (Kd.R_base ho1)) (fun _ h_ => h_.1)); have n6_ := Aside0.mk (Kd.R_lower (Kd.R_new' (Kd.R_new' (Kd.R_new' (Kd.R_new' (Kd.R_new' (Kd.R_new' ho0 (Kd.R_lt (rf1_ (rt_ HO222.out BK248.out)))) (Kd.R_lt (rf1_ (rt_ HO226.out BK248.out)))) (Kd.R_lt (rf1_ (rt_ HO229.out BK248.out)))) (Kd.R_lt (rf1_ (rt_ HO233.out BK248.out)))) (Kd.R_lt (rf1_ (rt_ HO243.out BK248.out)))) (Kd.R_lt (rf1_ (rt_ HO247.out BK248.out)))) (below_size (bel_ HB.out))); have n7_ := Aside0.mk (Kd.R_lower (Kd.R_new' (Kd.R_new' (Kd.R_new' (Kd.R_new' (Kd.R_new' (Kd.R_new' ho1 (Kd.R_lt (rf1_ (rt_ HO222.out BK248.out)))) (Kd.R_lt (rf1_ (rt_ HO226.out BK248.out)))) (Kd.R_lt (rf1_ (rt_ HO229.out BK248.out)))) (Kd.R_lt (rf1_ (rt_ HO233.out BK248.out)))) (Kd.R_lt (rf1_ (rt_ HO243.out BK248.out)))) (Kd.R_lt (rf1_ (rt_ HO247.out BK248.out)))) (below_size (bel_ HB.out))); have n8_ := Aside0.mk (ba_ BK218.out hb); have n9_ := Aside0.mk (ba_ BK239.out hb); have n10_ := Aside0.mk (ba_ BK240.out hb); have n11_ := Aside0.mk (blk_below (g := gb248) (o := .cells #[.slice Ao36 t241.length co36, .int .i64 t244, .slice Ao41 t245.length co41] 26 (0, 0)) (by refine rp_ ?_; refine blk_put (cs := #[.slice Ao36 t241.length co36, .int .i64 t244, .slice none 0 0]) ?_ 2 _ rfl; refine rp_ ?_; refine blk_put (cs := #[.slice Ao36 t241.length co36, .int .i64 0, .slice none 0 0]) ?_ 1 _ rfl; refine rp_ ?_; refine blk_put (cs := #[.slice none 0 0, .int .i64 0, .slice none 0 0]) ?_ 0 _ rfl; refine rp_ ?_; exact BK248.out) hb); have n12_ := Aside0.mk (below_step (bel_ HB.out) hb); clear HO222; clear HO226; clear HO229; clear HO233; clear HO243; clear HO247; clear BK218; clear BK239; clear BK240; clear BK248; clear HB; have HO222 := n0_; have HO226 := n1_; have HO229 := n2_; have HO233 := n3_; have HO243 := n4_; have HO247 := n5_; have HO251 := n6_; have HO255 := n7_; have BK218 := n8_; have BK239 := n9_; have BK240 := n10_; have BK248 := n11_; have HB := n12_; clear n0_ n1_ n2_ n3_ n4_ n5_ n6_ n7_ n8_ n9_ n10_ n11_ n12_; (try clear hb); (try clear hb2); (try clear hk); (try clear hi); (try clear ho0); (try clear ho1)) | ((with_reducible refine gate_dst (N := 12) rfl ?_); refine box_event ?hg (N := 12) ?hd (cs := #[.slice none 0 0, .int .i64 0, .slice none 0 0]) (t := 26) ?hr ?_; (case hd => rfl); (case hg => rfl); (case hr => first | (go_simp; done) | (go_simp; rfl)); intro gb261 hg w43 hbox hb; have n0_ := Aside0.mk (Kd.R_below (fr_ HO222.out) hb); have n1_ := Aside0.mk (Kd.R_below (fr_ HO226.out) hb); have n2_ := Aside0.mk (Kd.R_below (fr_ HO229.out) hb); have n3_ := Aside0.mk (Kd.R_below (fr_ HO233.out) hb); have n4_ := Aside0.mk (Kd.R_below (fr_ HO243.out) hb); have n5_ := Aside0.mk (Kd.R_below (fr_ HO247.out) hb); have n6_ := Aside0.mk (Kd.R_below (fr_ HO251.out) hb); have n7_ := Aside0.mk (Kd.R_below (fr_ HO255.out) hb); have n8_ := Aside0.mk (bb_ BK218.out hb); have n9_ := Aside0.mk (bb_ BK239.out hb); have n10_ := Aside0.mk (bb_ BK240.out hb); have n11_ := Aside0.mk (bb_ BK248.out hb); have n12_ := Aside0.mk (below_step (bel_ HB.out) hb); have n13_ := Aside0.mk (hbox); have n14_ := Aside0.mk ((by rw [hg]; exact (below_size (bel_ HB.out)) : w.heap.size ≤ gb261)); have n15_ := Aside0.mk ((by rw [hg]; exact (below_size (bel_ HB.out)) : w.heap.size ≤ gb261)); have n16_ := Aside0.mk (nl_ BK218.out hg); have n17_ := Aside0.mk (ng_ BK218.out hg); have n18_ := Aside0.mk (nl_ BK239.out hg); have n19_ := Aside0.mk (ng_ BK239.out hg); have n20_ := Aside0.mk (nl_ BK240.out hg); have n21_ := Aside0.mk (ng_ BK240.out hg); have n22_ := Aside0.mk (nl_ BK248.out hg); have n23_ := Aside0.mk (ng_ BK248.out hg); clear HO222; clear HO226; clear HO229; clear HO233; clear HO243; clear HO247; clear HO251; clear HO255; clear BK218; clear BK239; clear BK240; clear BK248; clear HB; have HO222 := n0_; have HO226 := n1_; have HO229 := n2_; have HO233 := n3_; have HO243 := n4_; have HO247 := n5_; have HO251 := n6_; have HO255 := n7_; have BK218 := n8_; have BK239 := n9_; have BK240 := n10_; have BK248 := n11_; have HB := n12_; have BK261 := n13_; have GW261 := n14_; have GE261 := n15_; have NB218_261 := n16_; have NB261_218 := n17_; have NB239_261 := n18_; have NB261_239 := n19_; have NB240_261 := n20_; have NB261_240 := n21_; have NB248_261 := n22_; have NB261_248 := n23_; clear n0_ n1_ n2_ n3_ n4_ n5_ n6_ n7_ n8_ n9_ n10_ n11_ n12_ n13_ n14_ n15_ n16_ n17_ n18_ n19_ n20_ n21_ n22_ n23_; clear hb hbox hg) | ((with_reducible refine gate_dst (N := 13) rfl ?_); refine box_event ?hg (N := 13) ?hd (cs := #[.int .i64 0, .int .i64 0, .int .i64 0, .string (⟨#[]⟩ : ByteArray)]) (t := 34) ?hr ?_; (case hd => rfl); (case hg => rfl); (case hr => first | (go_simp; done) | (go_simp; rfl)); intro gb262 hg w44 hbox hb; have n0_ := Aside0.mk (Kd.R_below (fr_ HO222.out) hb); have n1_ := Aside0.mk (Kd.R_below (fr_ HO226.out) hb); have n2_ := Aside0.mk (Kd.R_below (fr_ HO229.out) hb); have n3_ := Aside0.mk (Kd.R_below (fr_ HO233.out) hb); have n4_ := Aside0.mk (Kd.R_below (fr_ HO243.out) hb); have n5_ := Aside0.mk (Kd.R_below (fr_ HO247.out) hb); have n6_ := Aside0.mk (Kd.R_below (fr_ HO251.out) hb); have n7_ := Aside0.mk (Kd.R_below (fr_ HO255.out) hb); have n8_ := Aside0.mk (bb_ BK218.out hb); have n9_ := Aside0.mk (bb_ BK239.out hb); have n10_ := Aside0.mk (bb_ BK240.out hb); have n11_ := Aside0.mk (bb_ BK248.out hb); have n12_ := Aside0.mk (bb_ BK261.out hb); have n13_ := Aside0.mk (below_step (bel_ HB.out) hb); have n14_ := Aside0.mk (hbox); have n15_ := Aside0.mk ((by rw [hg]; exact (below_size (bel_ HB.out)) : w.heap.size ≤ gb262)); have n16_ := Aside0.mk ((by rw [hg]; exact (below_size (bel_ HB.out)) : w.heap.size ≤ gb262)); have n17_ := Aside0.mk (nl_ BK218.out hg); have n18_ := Aside0.mk (ng_ BK218.out hg); have n19_ := Aside0.mk (nl_ BK239.out hg); have n20_ := Aside0.mk (ng_ BK239.out hg); have n21_ := Aside0.mk (nl_ BK240.out hg); have n22_ := Aside0.mk (ng_ BK240.out hg); have n23_ := Aside0.mk (nl_ BK248.out hg); have n24_ := Aside0.mk (ng_ BK248.out hg); have n25_ := Aside0.mk (nl_ BK261.out hg); have n26_ := Aside0.mk (ng_ BK261.out hg); clear HO222; clear HO226; clear HO229; clear HO233; clear HO243; clear HO247; clear HO251; clear HO255; clear BK218; clear BK239; clear BK240; clear BK248; clear BK261; clear HB; have HO222 := n0_; have HO226 := n1_; have HO229 := n2_; have HO233 := n3_; have HO243 := n4_; have HO247 := n5_; have HO251 := n6_; have HO255 := n7_; have BK218 := n8_; have BK239 := n9_; have BK240 := n10_; have BK248 := n11_; have BK261 := n12_; have HB := n13_; have BK262 := n14_; have GW262 := n15_; have GE262 := n16_; have NB218_262 := n17_; have NB262_218 := n18_; have NB239_262 := n19_; have NB262_239 := n20_; have NB240_262 := n21_; have NB262_240 := n22_; have NB248_262 := n23_; have NB262_248 := n24_; have NB261_262 := n25_; have NB262_261 := n26_; clear n0_ n1_ n2_ n3_ n4_ n5_ n6_ n7_ n8_ n9_ n10_ n11_ n12_ n13_ n14_ n15_ n16_ n17_ n18_ n19_ n20_ n21_ n22_ n23_ n24_ n25_ n26_; clear hb hbox hg; obtain ⟨Ao45, co45, eo45⟩ := Kd.R_slice HO251.out; subst eo45; have hnb46 := NB261_218.out; have hnc46 := NB218_261.out; have hnb47 := NB261_239.out; have hnc47 := NB239_261.out; have hnb48 := NB261_240.out; have hnc48 := NB240_261.out; have hnb49 := NB261_248.out; have hnc49 := NB248_261.out; have hnb50 := NB261_262.out; have hnc50 := NB262_261.out; have hcz51_0 : w44.cell? ⟨gb261, 0, none⟩ = some (.slice none 0 0) := (blk_cell BK261.out 0).trans rfl; have hcz51_1 : w44.cell? ⟨gb261, 1, none⟩ = some (.int .i64 0) := (blk_cell BK261.out 1).trans rfl; have hcz51_2 : w44.cell? ⟨gb261, 2, none⟩ = some (.slice none 0 0) := (blk_cell BK261.out 2).trans rfl; have hfz51_0 := blk_frozen BK261.out 0; have hfz51_1 := blk_frozen BK261.out 1; have hfz51_2 := blk_frozen BK261.out 2; obtain ⟨Ao52, co52, eo52⟩ := Kd.R_slice HO255.out; subst eo52; have hnb53 := NB262_218.out; have hnc53 := NB218_262.out; have hnb54 := NB262_239.out; have hnc54 := NB239_262.out; have hnb55 := NB262_240.out; have hnc55 := NB240_262.out; have hnb56 := NB262_248.out; have hnc56 := NB248_262.out; have hcz57_0 : w44.cell? ⟨gb262, 0, none⟩ = some (.int .i64 0) := (blk_cell BK262.out 0).trans rfl; have hcz57_1 : w44.cell? ⟨gb262, 1, none⟩ = some (.int .i64 0) := (blk_cell BK262.out 1).trans rfl; have hcz57_2 : w44.cell? ⟨gb262, 2, none⟩ = some (.int .i64 0) := (blk_cell BK262.out 2).trans rfl; have hcz57_3 : w44.cell? ⟨gb262, 3, none⟩ = some (.string (⟨#[]⟩ : ByteArray)) := (blk_cell BK262.out 3).trans rfl; have hfz57_0 := blk_frozen BK262.out 0; have hfz57_1 := blk_frozen BK262.out 1; have hfz57_2 := blk_frozen BK262.out 2; have hfz57_3 := blk_frozen BK262.out 3))
   (try simp only [Act.put, sA_, sZ_, sS_])
   go_cut [62] (fun v62 wc => ∃ (kq : Nat) (x62_14 : Bool), v62 = .bool x62_14 ∧ Aside0 (laws_FnExactSend21.j0 kq a1 a2 t238 t260 x62_14 l0_0 a0_1 l0_2 t227 t230 t231 t234 t235 t236 t237 t241 t244 t245 t249 t252 t253 t256 t257 t258 t259 = some r) ∧ Aside0 (kq ≤ k) ∧ Aside0 (Kd.R Kd.string 9 wc w.heap.size (fun k_ => some k_ ≠ ((.slice Ao30 t231.length co30) : Value).ownBlock ∧ some k_ ≠ ((.slice Ao36 t241.length co36) : Value).ownBlock ∧ some k_ ≠ ((.slice Ao41 t245.length co41) : Value).ownBlock ∧ some k_ ≠ ((.slice Ao45 t249.length co45) : Value).ownBlock ∧ some k_ ≠ ((.slice Ao52 t253.length co52) : Value).ownBlock) (.slice Ao26 t227.length co26) t227) ∧ Aside0 (Kd.R Kd.string 9 wc w.heap.size (fun k_ => some k_ ≠ ((.slice Ao26 t227.length co26) : Value).ownBlock ∧ some k_ ≠ ((.slice Ao36 t241.length co36) : Value).ownBlock ∧ some k_ ≠ ((.slice Ao41 t245.length co41) : Value).ownBlock ∧ some k_ ≠ ((.slice Ao45 t249.length co45) : Value).ownBlock ∧ some k_ ≠ ((.slice Ao52 t253.length co52) : Value).ownBlock) (.slice Ao30 t231.length co30) t231) ∧ Aside0 (Kd.R Kd.string 9 wc w.heap.size (fun k_ => some k_ ≠ ((.slice Ao26 t227.length co26) : Value).ownBlock ∧ some k_ ≠ ((.slice Ao30 t231.length co30) : Value).ownBlock ∧ some k_ ≠ ((.slice Ao41 t245.length co41) : Value).ownBlock ∧ some k_ ≠ ((.slice Ao45 t249.length co45) : Value).ownBlock ∧ some k_ ≠ ((.slice Ao52 t253.length co52) : Value).ownBlock) (.slice Ao36 t241.length co36) t241) ∧ Aside0 (Kd.R Kd.string 9 wc w.heap.size (fun k_ => some k_ ≠ ((.slice Ao26 t227.length co26) : Value).ownBlock ∧ some k_ ≠ ((.slice Ao30 t231.length co30) : Value).ownBlock ∧ some k_ ≠ ((.slice Ao36 t241.length co36) : Value).ownBlock ∧ some k_ ≠ ((.slice Ao45 t249.length co45) : Value).ownBlock ∧ some k_ ≠ ((.slice Ao52 t253.length co52) : Value).ownBlock) (.slice Ao41 t245.length co41) t245) ∧ Aside0 (Kd.R Kd.string 9 wc w.heap.size (fun k_ => some k_ ≠ ((.slice Ao26 t227.length co26) : Value).ownBlock ∧ some k_ ≠ ((.slice Ao30 t231.length co30) : Value).ownBlock ∧ some k_ ≠ ((.slice Ao36 t241.length co36) : Value).ownBlock ∧ some k_ ≠ ((.slice Ao41 t245.length co41) : Value).ownBlock ∧ some k_ ≠ ((.slice Ao52 t253.length co52) : Value).ownBlock) (.slice Ao45 t249.length co45) t249) ∧ Aside0 (Kd.R Kd.string 9 wc w.heap.size (fun k_ => some k_ ≠ ((.slice Ao26 t227.length co26) : Value).ownBlock ∧ some k_ ≠ ((.slice Ao30 t231.length co30) : Value).ownBlock ∧ some k_ ≠ ((.slice Ao36 t241.length co36) : Value).ownBlock ∧ some k_ ≠ ((.slice Ao41 t245.length co41) : Value).ownBlock ∧ some k_ ≠ ((.slice Ao45 t249.length co45) : Value).ownBlock) (.slice Ao52 t253.length co52) t253) ∧ Aside0 (wc.heap[gb218]? = some (.cells #[(.slice A0_0 l0_0.length c0_0), .int .i64 a0_1, (.slice A0_2 l0_2.length c0_2)] 42 (0, 0))) ∧ Aside0 (wc.heap[gb239]? = some (.cells #[(.slice Ao26 t227.length co26), .int .i64 t230, (.slice Ao30 t231.length co30)] 26 (0, 0))) ∧ Aside0 (wc.heap[gb240]? = some (.cells #[.int .i64 t234, .int .i64 t235, .int .i64 t236, .string t237] 34 (0, 0))) ∧ Aside0 (wc.heap[gb248]? = some (.cells #[(.slice Ao36 t241.length co36), .int .i64 t244, (.slice Ao41 t245.length co41)] 26 (0, 0))) ∧ Aside0 (wc.heap[gb261]? = some (.cells #[(.slice Ao45 t249.length co45), .int .i64 t252, (.slice Ao52 t253.length co52)] 26 (0, 0))) ∧ Aside0 (wc.heap[gb262]? = some (.cells #[.int .i64 t256, .int .i64 t257, .int .i64 t258, .string t259] 34 (0, 0))) ∧ Aside0 (Below w.heap.size w wc))
   case first =>
    have H := HC15.out
    clear HC15
    replace H := Option.bind_eq_some_iff.mp H
    obtain ⟨t263, A580, H⟩ := H
    replace H : (if t263 = true then ((laws_eqPost.f t256 t257 t258 t259 t234 t235 t236 t237).bind fun t264 => (if t264 = true then (laws_FnExactSend21.j0 k a1 a2 t238 t260 (t260 != t238) l0_0 a0_1 l0_2 t227 t230 t231 t234 t235 t236 t237 t241 t244 t245 t249 t252 t253 t256 t257 t258 t259) else (laws_FnExactSend21.j0 k a1 a2 t238 t260 true l0_0 a0_1 l0_2 t227 t230 t231 t234 t235 t236 t237 t241 t244 t245 t249 t252 t253 t256 t257 t258 t259))) else (laws_FnExactSend21.j0 k a1 a2 t238 t260 true l0_0 a0_1 l0_2 t227 t230 t231 t234 t235 t236 t237 t241 t244 t245 t249 t252 t253 t256 t257 t258 t259)) = some r := H
    have A58 := Aside0.mk A580
    clear A580
    by_cases c59 : t263 = true
    ·subst c59
     have H1 : ((laws_eqPost.f t256 t257 t258 t259 t234 t235 t236 t237).bind fun t264 => (if t264 = true then (laws_FnExactSend21.j0 k a1 a2 t238 t260 (t260 != t238) l0_0 a0_1 l0_2 t227 t230 t231 t234 t235 t236 t237 t241 t244 t245 t249 t252 t253 t256 t257 t258 t259) else (laws_FnExactSend21.j0 k a1 a2 t238 t260 true l0_0 a0_1 l0_2 t227 t230 t231 t234 t235 t236 t237 t241 t244 t245 t249 t252 t253 t256 t257 t258 t259))) = some r := by rw [if_pos rfl] at H; exact H
     clear H
     have H := H1
     clear H1
     replace H := Option.bind_eq_some_iff.mp H
     obtain ⟨t264, A600, H⟩ := H
     replace H : (if t264 = true then (laws_FnExactSend21.j0 k a1 a2 t238 t260 (t260 != t238) l0_0 a0_1 l0_2 t227 t230 t231 t234 t235 t236 t237 t241 t244 t245 t249 t252 t253 t256 t257 t258 t259) else (laws_FnExactSend21.j0 k a1 a2 t238 t260 true l0_0 a0_1 l0_2 t227 t230 t231 t234 t235 t236 t237 t241 t244 t245 t249 t252 t253 t256 t257 t258 t259)) = some r := H
     have A60 := Aside0.mk A600
     clear A600
     by_cases c61 : t264 = true
     ·subst c61
      have H1 : (laws_FnExactSend21.j0 k a1 a2 t238 t260 (t260 != t238) l0_0 a0_1 l0_2 t227 t230 t231 t234 t235 t236 t237 t241 t244 t245 t249 t252 t253 t256 t257 t258 t259) = some r := by rw [if_pos rfl] at H; exact H
      clear H
      have H := H1
      clear H1
      have H' := Aside0.mk H
      clear H
      have hnb62 := NB261_218.out
      have hnc62 := NB218_261.out
      have hnb63 := NB261_239.out
      have hnc63 := NB239_261.out
      have hnb64 := NB261_240.out
      have hnc64 := NB240_261.out
      have hnb65 := NB261_248.out
      have hnc65 := NB248_261.out
      have hnb66 := NB261_262.out
      have hnc66 := NB262_261.out
      have hcz67_0 : w44.cell? ⟨gb261, 0, none⟩ = some (.slice none 0 0) := (blk_cell BK261.out 0).trans rfl
      have hcz67_1 : w44.cell? ⟨gb261, 1, none⟩ = some (.int .i64 0) := (blk_cell BK261.out 1).trans rfl
      have hcz67_2 : w44.cell? ⟨gb261, 2, none⟩ = some (.slice none 0 0) := (blk_cell BK261.out 2).trans rfl
      have hfz67_0 := blk_frozen BK261.out 0
      have hfz67_1 := blk_frozen BK261.out 1
      have hfz67_2 := blk_frozen BK261.out 2
      have hnb68 := NB239_218.out
      have hnc68 := NB218_239.out
      have hnb69 := NB239_240.out
      have hnc69 := NB240_239.out
      have hnb70 := NB239_248.out
      have hnc70 := NB248_239.out
      have hnb71 := NB239_262.out
      have hnc71 := NB262_239.out
      have hcz72_0 : w44.cell? ⟨gb239, 0, none⟩ = some (.slice Ao26 t227.length co26) := (blk_cell BK239.out 0).trans rfl
      have hcz72_1 : w44.cell? ⟨gb239, 1, none⟩ = some (.int .i64 t230) := (blk_cell BK239.out 1).trans rfl
      have hcz72_2 : w44.cell? ⟨gb239, 2, none⟩ = some (.slice Ao30 t231.length co30) := (blk_cell BK239.out 2).trans rfl
      have hfz72_0 := blk_frozen BK239.out 0
      have hfz72_1 := blk_frozen BK239.out 1
      have hfz72_2 := blk_frozen BK239.out 2
      go_wp2_with (first | ((with_reducible refine gate_callee (f := 18) rfl ?_); refine goesL_ (some 50) rfl rfl Try.func18 (by kernel_rfl) rfl #[.agg #[.slice Ao45 t249.length co45, .int .i64 t252, .slice Ao52 t253.length co52], .agg #[.slice Ao26 t227.length co26, .int .i64 t230, .slice Ao30 t231.length co30]] rfl ml_ ?_; (with_reducible refine (laws_eqParty.calls k _ _ t249 t252 _ _ t253 _ _ t227 t230 _ _ t231 true _ ?side1 ?side2 ?side3 ?side4 ?side5 ?side6 ?side7 ?side8 A58.out).mono ?_); (case side1 => exact (Kd.R_reads' (rf2_ (rt_ (rt_ HO251.out BK261.out) BK262.out))).2.2); (case side2 => exact (Kd.R_reads' HO251.out).2.1); (case side3 => exact (Kd.R_reads' (rf2_ (rt_ (rt_ HO255.out BK261.out) BK262.out))).2.2); (case side4 => exact (Kd.R_reads' HO255.out).2.1); (case side5 => exact (Kd.R_reads' (rf2_ (rt_ (rt_ HO229.out BK261.out) BK262.out))).2.2); (case side6 => exact (Kd.R_reads' HO229.out).2.1); (case side7 => exact (Kd.R_reads' (rf2_ (rt_ (rt_ HO233.out BK261.out) BK262.out))).2.2); (case side8 => exact (Kd.R_reads' HO233.out).2.1); rintro e w73 ⟨rfl, hb⟩; refine ⟨_, rfl, ?_⟩; have n0_ := Aside0.mk (Kd.R_below (rf2_ (rt_ (rt_ HO222.out BK261.out) BK262.out)) hb); have n1_ := Aside0.mk (Kd.R_below (rf2_ (rt_ (rt_ HO226.out BK261.out) BK262.out)) hb); have n2_ := Aside0.mk (Kd.R_below (rf2_ (rt_ (rt_ HO229.out BK261.out) BK262.out)) hb); have n3_ := Aside0.mk (Kd.R_below (rf2_ (rt_ (rt_ HO233.out BK261.out) BK262.out)) hb); have n4_ := Aside0.mk (Kd.R_below (rf2_ (rt_ (rt_ HO243.out BK261.out) BK262.out)) hb); have n5_ := Aside0.mk (Kd.R_below (rf2_ (rt_ (rt_ HO247.out BK261.out) BK262.out)) hb); have n6_ := Aside0.mk (Kd.R_below (rf2_ (rt_ (rt_ HO251.out BK261.out) BK262.out)) hb); have n7_ := Aside0.mk (Kd.R_below (rf2_ (rt_ (rt_ HO255.out BK261.out) BK262.out)) hb); have n8_ := Aside0.mk (ba_ BK218.out hb); have n9_ := Aside0.mk (ba_ BK239.out hb); have n10_ := Aside0.mk (ba_ BK240.out hb); have n11_ := Aside0.mk (ba_ BK248.out hb); have n12_ := Aside0.mk (blk_below (g := gb261) (o := .cells #[.slice Ao45 t249.length co45, .int .i64 t252, .slice Ao52 t253.length co52] 26 (0, 0)) (by refine rp_ ?_; refine blk_far ?_ NB261_262.out _; refine rp_ ?_; refine blk_far ?_ NB261_262.out _; refine rp_ ?_; refine blk_far ?_ NB261_262.out _; refine rp_ ?_; refine blk_far ?_ NB261_262.out _; refine rp_ ?_; refine blk_put (cs := #[.slice Ao45 t249.length co45, .int .i64 t252, .slice none 0 0]) ?_ 2 _ rfl; refine rp_ ?_; refine blk_put (cs := #[.slice Ao45 t249.length co45, .int .i64 0, .slice none 0 0]) ?_ 1 _ rfl; refine rp_ ?_; refine blk_put (cs := #[.slice none 0 0, .int .i64 0, .slice none 0 0]) ?_ 0 _ rfl; refine rp_ ?_; exact BK261.out) hb); have n13_ := Aside0.mk (blk_below (g := gb262) (o := .cells #[.int .i64 t256, .int .i64 t257, .int .i64 t258, .string t259] 34 (0, 0)) (by refine rp_ ?_; refine blk_put (cs := #[.int .i64 t256, .int .i64 t257, .int .i64 t258, .string (⟨#[]⟩ : ByteArray)]) ?_ 3 _ rfl; refine rp_ ?_; refine blk_put (cs := #[.int .i64 t256, .int .i64 t257, .int .i64 0, .string (⟨#[]⟩ : ByteArray)]) ?_ 2 _ rfl; refine rp_ ?_; refine blk_put (cs := #[.int .i64 t256, .int .i64 0, .int .i64 0, .string (⟨#[]⟩ : ByteArray)]) ?_ 1 _ rfl; refine rp_ ?_; refine blk_put (cs := #[.int .i64 0, .int .i64 0, .int .i64 0, .string (⟨#[]⟩ : ByteArray)]) ?_ 0 _ rfl; refine rp_ ?_; refine blk_far ?_ NB262_261.out _; refine rp_ ?_; refine blk_far ?_ NB262_261.out _; refine rp_ ?_; refine blk_far ?_ NB262_261.out _; refine rp_ ?_; exact BK262.out) hb); have n14_ := Aside0.mk (below_step (bel_ HB.out) hb); clear HO222; clear HO226; clear HO229; clear HO233; clear HO243; clear HO247; clear HO251; clear HO255; clear BK218; clear BK239; clear BK240; clear BK248; clear BK261; clear BK262; clear HB; have HO222 := n0_; have HO226 := n1_; have HO229 := n2_; have HO233 := n3_; have HO243 := n4_; have HO247 := n5_; have HO251 := n6_; have HO255 := n7_; have BK218 := n8_; have BK239 := n9_; have BK240 := n10_; have BK248 := n11_; have BK261 := n12_; have BK262 := n13_; have HB := n14_; clear n0_ n1_ n2_ n3_ n4_ n5_ n6_ n7_ n8_ n9_ n10_ n11_ n12_ n13_ n14_; (try clear hb); (try clear hb2); (try clear hk); (try clear hi); have hnb74 := NB262_218.out; have hnc74 := NB218_262.out; have hnb75 := NB262_240.out; have hnc75 := NB240_262.out; have hnb76 := NB262_248.out; have hnc76 := NB248_262.out; have hcz77_0 : w73.cell? ⟨gb262, 0, none⟩ = some (.int .i64 t256) := (blk_cell BK262.out 0).trans rfl; have hcz77_1 : w73.cell? ⟨gb262, 1, none⟩ = some (.int .i64 t257) := (blk_cell BK262.out 1).trans rfl; have hcz77_2 : w73.cell? ⟨gb262, 2, none⟩ = some (.int .i64 t258) := (blk_cell BK262.out 2).trans rfl; have hcz77_3 : w73.cell? ⟨gb262, 3, none⟩ = some (.string t259) := (blk_cell BK262.out 3).trans rfl; have hfz77_0 := blk_frozen BK262.out 0; have hfz77_1 := blk_frozen BK262.out 1; have hfz77_2 := blk_frozen BK262.out 2; have hfz77_3 := blk_frozen BK262.out 3; have hnb78 := NB240_218.out; have hnc78 := NB218_240.out; have hnb79 := NB240_248.out; have hnc79 := NB248_240.out; have hcz80_0 : w73.cell? ⟨gb240, 0, none⟩ = some (.int .i64 t234) := (blk_cell BK240.out 0).trans rfl; have hcz80_1 : w73.cell? ⟨gb240, 1, none⟩ = some (.int .i64 t235) := (blk_cell BK240.out 1).trans rfl; have hcz80_2 : w73.cell? ⟨gb240, 2, none⟩ = some (.int .i64 t236) := (blk_cell BK240.out 2).trans rfl; have hcz80_3 : w73.cell? ⟨gb240, 3, none⟩ = some (.string t237) := (blk_cell BK240.out 3).trans rfl; have hfz80_0 := blk_frozen BK240.out 0; have hfz80_1 := blk_frozen BK240.out 1; have hfz80_2 := blk_frozen BK240.out 2; have hfz80_3 := blk_frozen BK240.out 3) | (go_at_call 20; (with_reducible refine (laws_eqPost.calls t256 t257 t258 t259 t234 t235 t236 t237 true _ A60.out).mono ?_); rintro e w81 ⟨rfl, hb⟩; have n0_ := Aside0.mk (Kd.R_below (fr_ HO222.out) hb); have n1_ := Aside0.mk (Kd.R_below (fr_ HO226.out) hb); have n2_ := Aside0.mk (Kd.R_below (fr_ HO229.out) hb); have n3_ := Aside0.mk (Kd.R_below (fr_ HO233.out) hb); have n4_ := Aside0.mk (Kd.R_below (fr_ HO243.out) hb); have n5_ := Aside0.mk (Kd.R_below (fr_ HO247.out) hb); have n6_ := Aside0.mk (Kd.R_below (fr_ HO251.out) hb); have n7_ := Aside0.mk (Kd.R_below (fr_ HO255.out) hb); have n8_ := Aside0.mk (bb_ BK218.out hb); have n9_ := Aside0.mk (bb_ BK239.out hb); have n10_ := Aside0.mk (bb_ BK240.out hb); have n11_ := Aside0.mk (bb_ BK248.out hb); have n12_ := Aside0.mk (bb_ BK261.out hb); have n13_ := Aside0.mk (bb_ BK262.out hb); have n14_ := Aside0.mk (below_step (bel_ HB.out) hb); clear HO222; clear HO226; clear HO229; clear HO233; clear HO243; clear HO247; clear HO251; clear HO255; clear BK218; clear BK239; clear BK240; clear BK248; clear BK261; clear BK262; clear HB; have HO222 := n0_; have HO226 := n1_; have HO229 := n2_; have HO233 := n3_; have HO243 := n4_; have HO247 := n5_; have HO251 := n6_; have HO255 := n7_; have BK218 := n8_; have BK239 := n9_; have BK240 := n10_; have BK248 := n11_; have BK261 := n12_; have BK262 := n13_; have HB := n14_; clear n0_ n1_ n2_ n3_ n4_ n5_ n6_ n7_ n8_ n9_ n10_ n11_ n12_ n13_ n14_; (try clear hb); (try clear hb2); (try clear hk); (try clear hi)))
      go_meet
      case rel => exact ⟨_, ((t260 != t238)), (by first | rfl | (simp; done) | (simp [*]; done) | (simp [wrap64]; done)), H', ⟨by first | omega | exact Nat.le_refl _⟩, ⟨by (with_reducible repeat (first | apply Kd.R_alloc | apply Kd.R_drewN | apply Kd.R_drew)); exact Kd.R_mono HO229.out (fun _ hk => ⟨hk.1.1.1.1.1.1, ⟨hk.1.1.1.2, ⟨hk.1.1.2, ⟨hk.1.2, hk.2⟩⟩⟩⟩)⟩, ⟨by (with_reducible repeat (first | apply Kd.R_alloc | apply Kd.R_drewN | apply Kd.R_drew)); exact Kd.R_mono HO233.out (fun _ hk => ⟨hk.1.1.1.1.1.1, ⟨hk.1.1.1.2, ⟨hk.1.1.2, ⟨hk.1.2, hk.2⟩⟩⟩⟩)⟩, ⟨by (with_reducible repeat (first | apply Kd.R_alloc | apply Kd.R_drewN | apply Kd.R_drew)); exact Kd.R_mono HO243.out (fun _ hk => ⟨hk.1.1.1.2, ⟨hk.1.1.2, ⟨hk.1.1.1.1.1.1, ⟨hk.1.2, hk.2⟩⟩⟩⟩)⟩, ⟨by (with_reducible repeat (first | apply Kd.R_alloc | apply Kd.R_drewN | apply Kd.R_drew)); exact Kd.R_mono HO247.out (fun _ hk => ⟨hk.1.1.1.2, ⟨hk.1.1.2, ⟨hk.1.1.1.1.1.1, ⟨hk.1.2, hk.2⟩⟩⟩⟩)⟩, ⟨by (with_reducible repeat (first | apply Kd.R_alloc | apply Kd.R_drewN | apply Kd.R_drew)); exact Kd.R_mono HO251.out (fun _ hk => ⟨hk.1.1.1.2, ⟨hk.1.1.2, ⟨hk.1.2, ⟨hk.2, hk.1.1.1.1.1.1⟩⟩⟩⟩)⟩, ⟨by (with_reducible repeat (first | apply Kd.R_alloc | apply Kd.R_drewN | apply Kd.R_drew)); exact Kd.R_mono HO255.out (fun _ hk => ⟨hk.1.1.1.2, ⟨hk.1.1.2, ⟨hk.1.2, ⟨hk.2, hk.1.1.1.1.1.1⟩⟩⟩⟩)⟩, ⟨by refine rp_ ?_; exact BK218.out⟩, ⟨by refine rp_ ?_; exact BK239.out⟩, ⟨by refine rp_ ?_; exact BK240.out⟩, ⟨by refine rp_ ?_; exact BK248.out⟩, ⟨by refine rp_ ?_; exact BK261.out⟩, ⟨by refine rp_ ?_; exact BK262.out⟩, ⟨bel_ HB.out⟩⟩
     ·replace c61 := Bool.eq_false_iff.mpr c61
      subst c61
      have H1 : (laws_FnExactSend21.j0 k a1 a2 t238 t260 true l0_0 a0_1 l0_2 t227 t230 t231 t234 t235 t236 t237 t241 t244 t245 t249 t252 t253 t256 t257 t258 t259) = some r := by rw [if_neg (show ¬ (false = true) by decide)] at H; exact H
      clear H
      have H := H1
      clear H1
      have H' := Aside0.mk H
      clear H
      have hnb82 := NB261_218.out
      have hnc82 := NB218_261.out
      have hnb83 := NB261_239.out
      have hnc83 := NB239_261.out
      have hnb84 := NB261_240.out
      have hnc84 := NB240_261.out
      have hnb85 := NB261_248.out
      have hnc85 := NB248_261.out
      have hnb86 := NB261_262.out
      have hnc86 := NB262_261.out
      have hcz87_0 : w44.cell? ⟨gb261, 0, none⟩ = some (.slice none 0 0) := (blk_cell BK261.out 0).trans rfl
      have hcz87_1 : w44.cell? ⟨gb261, 1, none⟩ = some (.int .i64 0) := (blk_cell BK261.out 1).trans rfl
      have hcz87_2 : w44.cell? ⟨gb261, 2, none⟩ = some (.slice none 0 0) := (blk_cell BK261.out 2).trans rfl
      have hfz87_0 := blk_frozen BK261.out 0
      have hfz87_1 := blk_frozen BK261.out 1
      have hfz87_2 := blk_frozen BK261.out 2
      have hnb88 := NB239_218.out
      have hnc88 := NB218_239.out
      have hnb89 := NB239_240.out
      have hnc89 := NB240_239.out
      have hnb90 := NB239_248.out
      have hnc90 := NB248_239.out
      have hnb91 := NB239_262.out
      have hnc91 := NB262_239.out
      have hcz92_0 : w44.cell? ⟨gb239, 0, none⟩ = some (.slice Ao26 t227.length co26) := (blk_cell BK239.out 0).trans rfl
      have hcz92_1 : w44.cell? ⟨gb239, 1, none⟩ = some (.int .i64 t230) := (blk_cell BK239.out 1).trans rfl
      have hcz92_2 : w44.cell? ⟨gb239, 2, none⟩ = some (.slice Ao30 t231.length co30) := (blk_cell BK239.out 2).trans rfl
      have hfz92_0 := blk_frozen BK239.out 0
      have hfz92_1 := blk_frozen BK239.out 1
      have hfz92_2 := blk_frozen BK239.out 2
      go_wp2_with (first | ((with_reducible refine gate_callee (f := 18) rfl ?_); refine goesL_ (some 50) rfl rfl Try.func18 (by kernel_rfl) rfl #[.agg #[.slice Ao45 t249.length co45, .int .i64 t252, .slice Ao52 t253.length co52], .agg #[.slice Ao26 t227.length co26, .int .i64 t230, .slice Ao30 t231.length co30]] rfl ml_ ?_; (with_reducible refine (laws_eqParty.calls k _ _ t249 t252 _ _ t253 _ _ t227 t230 _ _ t231 true _ ?side1 ?side2 ?side3 ?side4 ?side5 ?side6 ?side7 ?side8 A58.out).mono ?_); (case side1 => exact (Kd.R_reads' (rf2_ (rt_ (rt_ HO251.out BK261.out) BK262.out))).2.2); (case side2 => exact (Kd.R_reads' HO251.out).2.1); (case side3 => exact (Kd.R_reads' (rf2_ (rt_ (rt_ HO255.out BK261.out) BK262.out))).2.2); (case side4 => exact (Kd.R_reads' HO255.out).2.1); (case side5 => exact (Kd.R_reads' (rf2_ (rt_ (rt_ HO229.out BK261.out) BK262.out))).2.2); (case side6 => exact (Kd.R_reads' HO229.out).2.1); (case side7 => exact (Kd.R_reads' (rf2_ (rt_ (rt_ HO233.out BK261.out) BK262.out))).2.2); (case side8 => exact (Kd.R_reads' HO233.out).2.1); rintro e w93 ⟨rfl, hb⟩; refine ⟨_, rfl, ?_⟩; have n0_ := Aside0.mk (Kd.R_below (rf2_ (rt_ (rt_ HO222.out BK261.out) BK262.out)) hb); have n1_ := Aside0.mk (Kd.R_below (rf2_ (rt_ (rt_ HO226.out BK261.out) BK262.out)) hb); have n2_ := Aside0.mk (Kd.R_below (rf2_ (rt_ (rt_ HO229.out BK261.out) BK262.out)) hb); have n3_ := Aside0.mk (Kd.R_below (rf2_ (rt_ (rt_ HO233.out BK261.out) BK262.out)) hb); have n4_ := Aside0.mk (Kd.R_below (rf2_ (rt_ (rt_ HO243.out BK261.out) BK262.out)) hb); have n5_ := Aside0.mk (Kd.R_below (rf2_ (rt_ (rt_ HO247.out BK261.out) BK262.out)) hb); have n6_ := Aside0.mk (Kd.R_below (rf2_ (rt_ (rt_ HO251.out BK261.out) BK262.out)) hb); have n7_ := Aside0.mk (Kd.R_below (rf2_ (rt_ (rt_ HO255.out BK261.out) BK262.out)) hb); have n8_ := Aside0.mk (ba_ BK218.out hb); have n9_ := Aside0.mk (ba_ BK239.out hb); have n10_ := Aside0.mk (ba_ BK240.out hb); have n11_ := Aside0.mk (ba_ BK248.out hb); have n12_ := Aside0.mk (blk_below (g := gb261) (o := .cells #[.slice Ao45 t249.length co45, .int .i64 t252, .slice Ao52 t253.length co52] 26 (0, 0)) (by refine rp_ ?_; refine blk_far ?_ NB261_262.out _; refine rp_ ?_; refine blk_far ?_ NB261_262.out _; refine rp_ ?_; refine blk_far ?_ NB261_262.out _; refine rp_ ?_; refine blk_far ?_ NB261_262.out _; refine rp_ ?_; refine blk_put (cs := #[.slice Ao45 t249.length co45, .int .i64 t252, .slice none 0 0]) ?_ 2 _ rfl; refine rp_ ?_; refine blk_put (cs := #[.slice Ao45 t249.length co45, .int .i64 0, .slice none 0 0]) ?_ 1 _ rfl; refine rp_ ?_; refine blk_put (cs := #[.slice none 0 0, .int .i64 0, .slice none 0 0]) ?_ 0 _ rfl; refine rp_ ?_; exact BK261.out) hb); have n13_ := Aside0.mk (blk_below (g := gb262) (o := .cells #[.int .i64 t256, .int .i64 t257, .int .i64 t258, .string t259] 34 (0, 0)) (by refine rp_ ?_; refine blk_put (cs := #[.int .i64 t256, .int .i64 t257, .int .i64 t258, .string (⟨#[]⟩ : ByteArray)]) ?_ 3 _ rfl; refine rp_ ?_; refine blk_put (cs := #[.int .i64 t256, .int .i64 t257, .int .i64 0, .string (⟨#[]⟩ : ByteArray)]) ?_ 2 _ rfl; refine rp_ ?_; refine blk_put (cs := #[.int .i64 t256, .int .i64 0, .int .i64 0, .string (⟨#[]⟩ : ByteArray)]) ?_ 1 _ rfl; refine rp_ ?_; refine blk_put (cs := #[.int .i64 0, .int .i64 0, .int .i64 0, .string (⟨#[]⟩ : ByteArray)]) ?_ 0 _ rfl; refine rp_ ?_; refine blk_far ?_ NB262_261.out _; refine rp_ ?_; refine blk_far ?_ NB262_261.out _; refine rp_ ?_; refine blk_far ?_ NB262_261.out _; refine rp_ ?_; exact BK262.out) hb); have n14_ := Aside0.mk (below_step (bel_ HB.out) hb); clear HO222; clear HO226; clear HO229; clear HO233; clear HO243; clear HO247; clear HO251; clear HO255; clear BK218; clear BK239; clear BK240; clear BK248; clear BK261; clear BK262; clear HB; have HO222 := n0_; have HO226 := n1_; have HO229 := n2_; have HO233 := n3_; have HO243 := n4_; have HO247 := n5_; have HO251 := n6_; have HO255 := n7_; have BK218 := n8_; have BK239 := n9_; have BK240 := n10_; have BK248 := n11_; have BK261 := n12_; have BK262 := n13_; have HB := n14_; clear n0_ n1_ n2_ n3_ n4_ n5_ n6_ n7_ n8_ n9_ n10_ n11_ n12_ n13_ n14_; (try clear hb); (try clear hb2); (try clear hk); (try clear hi); have hnb94 := NB262_218.out; have hnc94 := NB218_262.out; have hnb95 := NB262_240.out; have hnc95 := NB240_262.out; have hnb96 := NB262_248.out; have hnc96 := NB248_262.out; have hcz97_0 : w93.cell? ⟨gb262, 0, none⟩ = some (.int .i64 t256) := (blk_cell BK262.out 0).trans rfl; have hcz97_1 : w93.cell? ⟨gb262, 1, none⟩ = some (.int .i64 t257) := (blk_cell BK262.out 1).trans rfl; have hcz97_2 : w93.cell? ⟨gb262, 2, none⟩ = some (.int .i64 t258) := (blk_cell BK262.out 2).trans rfl; have hcz97_3 : w93.cell? ⟨gb262, 3, none⟩ = some (.string t259) := (blk_cell BK262.out 3).trans rfl; have hfz97_0 := blk_frozen BK262.out 0; have hfz97_1 := blk_frozen BK262.out 1; have hfz97_2 := blk_frozen BK262.out 2; have hfz97_3 := blk_frozen BK262.out 3; have hnb98 := NB240_218.out; have hnc98 := NB218_240.out; have hnb99 := NB240_248.out; have hnc99 := NB248_240.out; have hcz100_0 : w93.cell? ⟨gb240, 0, none⟩ = some (.int .i64 t234) := (blk_cell BK240.out 0).trans rfl; have hcz100_1 : w93.cell? ⟨gb240, 1, none⟩ = some (.int .i64 t235) := (blk_cell BK240.out 1).trans rfl; have hcz100_2 : w93.cell? ⟨gb240, 2, none⟩ = some (.int .i64 t236) := (blk_cell BK240.out 2).trans rfl; have hcz100_3 : w93.cell? ⟨gb240, 3, none⟩ = some (.string t237) := (blk_cell BK240.out 3).trans rfl; have hfz100_0 := blk_frozen BK240.out 0; have hfz100_1 := blk_frozen BK240.out 1; have hfz100_2 := blk_frozen BK240.out 2; have hfz100_3 := blk_frozen BK240.out 3) | (go_at_call 20; (with_reducible refine (laws_eqPost.calls t256 t257 t258 t259 t234 t235 t236 t237 false _ A60.out).mono ?_); rintro e w101 ⟨rfl, hb⟩; have n0_ := Aside0.mk (Kd.R_below (fr_ HO222.out) hb); have n1_ := Aside0.mk (Kd.R_below (fr_ HO226.out) hb); have n2_ := Aside0.mk (Kd.R_below (fr_ HO229.out) hb); have n3_ := Aside0.mk (Kd.R_below (fr_ HO233.out) hb); have n4_ := Aside0.mk (Kd.R_below (fr_ HO243.out) hb); have n5_ := Aside0.mk (Kd.R_below (fr_ HO247.out) hb); have n6_ := Aside0.mk (Kd.R_below (fr_ HO251.out) hb); have n7_ := Aside0.mk (Kd.R_below (fr_ HO255.out) hb); have n8_ := Aside0.mk (bb_ BK218.out hb); have n9_ := Aside0.mk (bb_ BK239.out hb); have n10_ := Aside0.mk (bb_ BK240.out hb); have n11_ := Aside0.mk (bb_ BK248.out hb); have n12_ := Aside0.mk (bb_ BK261.out hb); have n13_ := Aside0.mk (bb_ BK262.out hb); have n14_ := Aside0.mk (below_step (bel_ HB.out) hb); clear HO222; clear HO226; clear HO229; clear HO233; clear HO243; clear HO247; clear HO251; clear HO255; clear BK218; clear BK239; clear BK240; clear BK248; clear BK261; clear BK262; clear HB; have HO222 := n0_; have HO226 := n1_; have HO229 := n2_; have HO233 := n3_; have HO243 := n4_; have HO247 := n5_; have HO251 := n6_; have HO255 := n7_; have BK218 := n8_; have BK239 := n9_; have BK240 := n10_; have BK248 := n11_; have BK261 := n12_; have BK262 := n13_; have HB := n14_; clear n0_ n1_ n2_ n3_ n4_ n5_ n6_ n7_ n8_ n9_ n10_ n11_ n12_ n13_ n14_; (try clear hb); (try clear hb2); (try clear hk); (try clear hi)))
      go_meet
      case rel => exact ⟨_, (true), (by first | rfl | (simp; done) | (simp [*]; done) | (simp [wrap64]; done)), H', ⟨by first | omega | exact Nat.le_refl _⟩, ⟨by (with_reducible repeat (first | apply Kd.R_alloc | apply Kd.R_drewN | apply Kd.R_drew)); exact Kd.R_mono HO229.out (fun _ hk => ⟨hk.1.1.1.1.1.1, ⟨hk.1.1.1.2, ⟨hk.1.1.2, ⟨hk.1.2, hk.2⟩⟩⟩⟩)⟩, ⟨by (with_reducible repeat (first | apply Kd.R_alloc | apply Kd.R_drewN | apply Kd.R_drew)); exact Kd.R_mono HO233.out (fun _ hk => ⟨hk.1.1.1.1.1.1, ⟨hk.1.1.1.2, ⟨hk.1.1.2, ⟨hk.1.2, hk.2⟩⟩⟩⟩)⟩, ⟨by (with_reducible repeat (first | apply Kd.R_alloc | apply Kd.R_drewN | apply Kd.R_drew)); exact Kd.R_mono HO243.out (fun _ hk => ⟨hk.1.1.1.2, ⟨hk.1.1.2, ⟨hk.1.1.1.1.1.1, ⟨hk.1.2, hk.2⟩⟩⟩⟩)⟩, ⟨by (with_reducible repeat (first | apply Kd.R_alloc | apply Kd.R_drewN | apply Kd.R_drew)); exact Kd.R_mono HO247.out (fun _ hk => ⟨hk.1.1.1.2, ⟨hk.1.1.2, ⟨hk.1.1.1.1.1.1, ⟨hk.1.2, hk.2⟩⟩⟩⟩)⟩, ⟨by (with_reducible repeat (first | apply Kd.R_alloc | apply Kd.R_drewN | apply Kd.R_drew)); exact Kd.R_mono HO251.out (fun _ hk => ⟨hk.1.1.1.2, ⟨hk.1.1.2, ⟨hk.1.2, ⟨hk.2, hk.1.1.1.1.1.1⟩⟩⟩⟩)⟩, ⟨by (with_reducible repeat (first | apply Kd.R_alloc | apply Kd.R_drewN | apply Kd.R_drew)); exact Kd.R_mono HO255.out (fun _ hk => ⟨hk.1.1.1.2, ⟨hk.1.1.2, ⟨hk.1.2, ⟨hk.2, hk.1.1.1.1.1.1⟩⟩⟩⟩)⟩, ⟨by refine rp_ ?_; exact BK218.out⟩, ⟨by refine rp_ ?_; exact BK239.out⟩, ⟨by refine rp_ ?_; exact BK240.out⟩, ⟨by refine rp_ ?_; exact BK248.out⟩, ⟨by refine rp_ ?_; exact BK261.out⟩, ⟨by refine rp_ ?_; exact BK262.out⟩, ⟨bel_ HB.out⟩⟩
    ·replace c59 := Bool.eq_false_iff.mpr c59
     subst c59
     have H1 : (laws_FnExactSend21.j0 k a1 a2 t238 t260 true l0_0 a0_1 l0_2 t227 t230 t231 t234 t235 t236 t237 t241 t244 t245 t249 t252 t253 t256 t257 t258 t259) = some r := by rw [if_neg (show ¬ (false = true) by decide)] at H; exact H
     clear H
     have H := H1
     clear H1
     have H' := Aside0.mk H
     clear H
     have hnb102 := NB261_218.out
     have hnc102 := NB218_261.out
     have hnb103 := NB261_239.out
     have hnc103 := NB239_261.out
     have hnb104 := NB261_240.out
     have hnc104 := NB240_261.out
     have hnb105 := NB261_248.out
     have hnc105 := NB248_261.out
     have hnb106 := NB261_262.out
     have hnc106 := NB262_261.out
     have hcz107_0 : w44.cell? ⟨gb261, 0, none⟩ = some (.slice none 0 0) := (blk_cell BK261.out 0).trans rfl
     have hcz107_1 : w44.cell? ⟨gb261, 1, none⟩ = some (.int .i64 0) := (blk_cell BK261.out 1).trans rfl
     have hcz107_2 : w44.cell? ⟨gb261, 2, none⟩ = some (.slice none 0 0) := (blk_cell BK261.out 2).trans rfl
     have hfz107_0 := blk_frozen BK261.out 0
     have hfz107_1 := blk_frozen BK261.out 1
     have hfz107_2 := blk_frozen BK261.out 2
     have hnb108 := NB239_218.out
     have hnc108 := NB218_239.out
     have hnb109 := NB239_240.out
     have hnc109 := NB240_239.out
     have hnb110 := NB239_248.out
     have hnc110 := NB248_239.out
     have hnb111 := NB239_262.out
     have hnc111 := NB262_239.out
     have hcz112_0 : w44.cell? ⟨gb239, 0, none⟩ = some (.slice Ao26 t227.length co26) := (blk_cell BK239.out 0).trans rfl
     have hcz112_1 : w44.cell? ⟨gb239, 1, none⟩ = some (.int .i64 t230) := (blk_cell BK239.out 1).trans rfl
     have hcz112_2 : w44.cell? ⟨gb239, 2, none⟩ = some (.slice Ao30 t231.length co30) := (blk_cell BK239.out 2).trans rfl
     have hfz112_0 := blk_frozen BK239.out 0
     have hfz112_1 := blk_frozen BK239.out 1
     have hfz112_2 := blk_frozen BK239.out 2
     go_wp2_with (first | ((with_reducible refine gate_callee (f := 18) rfl ?_); refine goesL_ (some 50) rfl rfl Try.func18 (by kernel_rfl) rfl #[.agg #[.slice Ao45 t249.length co45, .int .i64 t252, .slice Ao52 t253.length co52], .agg #[.slice Ao26 t227.length co26, .int .i64 t230, .slice Ao30 t231.length co30]] rfl ml_ ?_; (with_reducible refine (laws_eqParty.calls k _ _ t249 t252 _ _ t253 _ _ t227 t230 _ _ t231 false _ ?side1 ?side2 ?side3 ?side4 ?side5 ?side6 ?side7 ?side8 A58.out).mono ?_); (case side1 => exact (Kd.R_reads' (rf2_ (rt_ (rt_ HO251.out BK261.out) BK262.out))).2.2); (case side2 => exact (Kd.R_reads' HO251.out).2.1); (case side3 => exact (Kd.R_reads' (rf2_ (rt_ (rt_ HO255.out BK261.out) BK262.out))).2.2); (case side4 => exact (Kd.R_reads' HO255.out).2.1); (case side5 => exact (Kd.R_reads' (rf2_ (rt_ (rt_ HO229.out BK261.out) BK262.out))).2.2); (case side6 => exact (Kd.R_reads' HO229.out).2.1); (case side7 => exact (Kd.R_reads' (rf2_ (rt_ (rt_ HO233.out BK261.out) BK262.out))).2.2); (case side8 => exact (Kd.R_reads' HO233.out).2.1); rintro e w113 ⟨rfl, hb⟩; refine ⟨_, rfl, ?_⟩; have n0_ := Aside0.mk (Kd.R_below (rf2_ (rt_ (rt_ HO222.out BK261.out) BK262.out)) hb); have n1_ := Aside0.mk (Kd.R_below (rf2_ (rt_ (rt_ HO226.out BK261.out) BK262.out)) hb); have n2_ := Aside0.mk (Kd.R_below (rf2_ (rt_ (rt_ HO229.out BK261.out) BK262.out)) hb); have n3_ := Aside0.mk (Kd.R_below (rf2_ (rt_ (rt_ HO233.out BK261.out) BK262.out)) hb); have n4_ := Aside0.mk (Kd.R_below (rf2_ (rt_ (rt_ HO243.out BK261.out) BK262.out)) hb); have n5_ := Aside0.mk (Kd.R_below (rf2_ (rt_ (rt_ HO247.out BK261.out) BK262.out)) hb); have n6_ := Aside0.mk (Kd.R_below (rf2_ (rt_ (rt_ HO251.out BK261.out) BK262.out)) hb); have n7_ := Aside0.mk (Kd.R_below (rf2_ (rt_ (rt_ HO255.out BK261.out) BK262.out)) hb); have n8_ := Aside0.mk (ba_ BK218.out hb); have n9_ := Aside0.mk (ba_ BK239.out hb); have n10_ := Aside0.mk (ba_ BK240.out hb); have n11_ := Aside0.mk (ba_ BK248.out hb); have n12_ := Aside0.mk (blk_below (g := gb261) (o := .cells #[.slice Ao45 t249.length co45, .int .i64 t252, .slice Ao52 t253.length co52] 26 (0, 0)) (by refine rp_ ?_; refine blk_far ?_ NB261_262.out _; refine rp_ ?_; refine blk_far ?_ NB261_262.out _; refine rp_ ?_; refine blk_far ?_ NB261_262.out _; refine rp_ ?_; refine blk_far ?_ NB261_262.out _; refine rp_ ?_; refine blk_put (cs := #[.slice Ao45 t249.length co45, .int .i64 t252, .slice none 0 0]) ?_ 2 _ rfl; refine rp_ ?_; refine blk_put (cs := #[.slice Ao45 t249.length co45, .int .i64 0, .slice none 0 0]) ?_ 1 _ rfl; refine rp_ ?_; refine blk_put (cs := #[.slice none 0 0, .int .i64 0, .slice none 0 0]) ?_ 0 _ rfl; refine rp_ ?_; exact BK261.out) hb); have n13_ := Aside0.mk (blk_below (g := gb262) (o := .cells #[.int .i64 t256, .int .i64 t257, .int .i64 t258, .string t259] 34 (0, 0)) (by refine rp_ ?_; refine blk_put (cs := #[.int .i64 t256, .int .i64 t257, .int .i64 t258, .string (⟨#[]⟩ : ByteArray)]) ?_ 3 _ rfl; refine rp_ ?_; refine blk_put (cs := #[.int .i64 t256, .int .i64 t257, .int .i64 0, .string (⟨#[]⟩ : ByteArray)]) ?_ 2 _ rfl; refine rp_ ?_; refine blk_put (cs := #[.int .i64 t256, .int .i64 0, .int .i64 0, .string (⟨#[]⟩ : ByteArray)]) ?_ 1 _ rfl; refine rp_ ?_; refine blk_put (cs := #[.int .i64 0, .int .i64 0, .int .i64 0, .string (⟨#[]⟩ : ByteArray)]) ?_ 0 _ rfl; refine rp_ ?_; refine blk_far ?_ NB262_261.out _; refine rp_ ?_; refine blk_far ?_ NB262_261.out _; refine rp_ ?_; refine blk_far ?_ NB262_261.out _; refine rp_ ?_; exact BK262.out) hb); have n14_ := Aside0.mk (below_step (bel_ HB.out) hb); clear HO222; clear HO226; clear HO229; clear HO233; clear HO243; clear HO247; clear HO251; clear HO255; clear BK218; clear BK239; clear BK240; clear BK248; clear BK261; clear BK262; clear HB; have HO222 := n0_; have HO226 := n1_; have HO229 := n2_; have HO233 := n3_; have HO243 := n4_; have HO247 := n5_; have HO251 := n6_; have HO255 := n7_; have BK218 := n8_; have BK239 := n9_; have BK240 := n10_; have BK248 := n11_; have BK261 := n12_; have BK262 := n13_; have HB := n14_; clear n0_ n1_ n2_ n3_ n4_ n5_ n6_ n7_ n8_ n9_ n10_ n11_ n12_ n13_ n14_; (try clear hb); (try clear hb2); (try clear hk); (try clear hi)))
     go_meet
     case rel => exact ⟨_, (true), (by first | rfl | (simp; done) | (simp [*]; done) | (simp [wrap64]; done)), H', ⟨by first | omega | exact Nat.le_refl _⟩, ⟨by (with_reducible repeat (first | apply Kd.R_alloc | apply Kd.R_drewN | apply Kd.R_drew)); exact Kd.R_mono HO229.out (fun _ hk => ⟨hk.1.1.1.1.1.1, ⟨hk.1.1.1.2, ⟨hk.1.1.2, ⟨hk.1.2, hk.2⟩⟩⟩⟩)⟩, ⟨by (with_reducible repeat (first | apply Kd.R_alloc | apply Kd.R_drewN | apply Kd.R_drew)); exact Kd.R_mono HO233.out (fun _ hk => ⟨hk.1.1.1.1.1.1, ⟨hk.1.1.1.2, ⟨hk.1.1.2, ⟨hk.1.2, hk.2⟩⟩⟩⟩)⟩, ⟨by (with_reducible repeat (first | apply Kd.R_alloc | apply Kd.R_drewN | apply Kd.R_drew)); exact Kd.R_mono HO243.out (fun _ hk => ⟨hk.1.1.1.2, ⟨hk.1.1.2, ⟨hk.1.1.1.1.1.1, ⟨hk.1.2, hk.2⟩⟩⟩⟩)⟩, ⟨by (with_reducible repeat (first | apply Kd.R_alloc | apply Kd.R_drewN | apply Kd.R_drew)); exact Kd.R_mono HO247.out (fun _ hk => ⟨hk.1.1.1.2, ⟨hk.1.1.2, ⟨hk.1.1.1.1.1.1, ⟨hk.1.2, hk.2⟩⟩⟩⟩)⟩, ⟨by (with_reducible repeat (first | apply Kd.R_alloc | apply Kd.R_drewN | apply Kd.R_drew)); exact Kd.R_mono HO251.out (fun _ hk => ⟨hk.1.1.1.2, ⟨hk.1.1.2, ⟨hk.1.2, ⟨hk.2, hk.1.1.1.1.1.1⟩⟩⟩⟩)⟩, ⟨by (with_reducible repeat (first | apply Kd.R_alloc | apply Kd.R_drewN | apply Kd.R_drew)); exact Kd.R_mono HO255.out (fun _ hk => ⟨hk.1.1.1.2, ⟨hk.1.1.2, ⟨hk.1.2, ⟨hk.2, hk.1.1.1.1.1.1⟩⟩⟩⟩)⟩, ⟨by refine rp_ ?_; exact BK218.out⟩, ⟨by refine rp_ ?_; exact BK239.out⟩, ⟨by refine rp_ ?_; exact BK240.out⟩, ⟨by refine rp_ ?_; exact BK248.out⟩, ⟨by refine rp_ ?_; exact BK261.out⟩, ⟨by refine rp_ ?_; exact BK262.out⟩, ⟨bel_ HB.out⟩⟩
   case rest =>
    clear HC15
    try clear c4
    try clear c4b0
    try clear c4b1
    try clear c7
    try clear c7b0
    try clear hcz17_0
    try clear hcz17_1
    try clear hcz17_2
    try clear hcz19_0
    try clear hcz19_1
    try clear hcz19_2
    try clear hcz29_0
    try clear hcz29_1
    try clear hcz29_2
    try clear hcz32_0
    try clear hcz32_1
    try clear hcz32_2
    try clear hcz32_3
    try clear hcz33_0
    try clear hcz33_1
    try clear hcz33_2
    try clear hcz40_0
    try clear hcz40_1
    try clear hcz40_2
    try clear hcz51_0
    try clear hcz51_1
    try clear hcz51_2
    try clear hcz57_0
    try clear hcz57_1
    try clear hcz57_2
    try clear hcz57_3
    try clear hfz17_0
    try clear hfz17_1
    try clear hfz17_2
    try clear hfz19_0
    try clear hfz19_1
    try clear hfz19_2
    try clear hfz29_0
    try clear hfz29_1
    try clear hfz29_2
    try clear hfz32_0
    try clear hfz32_1
    try clear hfz32_2
    try clear hfz32_3
    try clear hfz33_0
    try clear hfz33_1
    try clear hfz33_2
    try clear hfz40_0
    try clear hfz40_1
    try clear hfz40_2
    try clear hfz51_0
    try clear hfz51_1
    try clear hfz51_2
    try clear hfz57_0
    try clear hfz57_1
    try clear hfz57_2
    try clear hfz57_3
    obtain ⟨kq, x62_14, rfl, HA, HJ14, HO_240000, HO_240002, HO_249000, HO_249002, HO_262000, HO_262002, BK218, BK239, BK240, BK248, BK261, BK262, HB⟩ := hcut
    cases kq with
    | zero => exact absurd HA.out (by simp [laws_FnExactSend21.j0])
    | succ kj14 =>
     have H := HA.out
     clear HA
     simp only [laws_FnExactSend21.j0] at H
     by_cases c114 : x62_14 = true
     ·subst c114
      have H1 : (some false) = some r := by rw [if_pos rfl] at H; exact H
      clear H
      have H := H1
      clear H1
      obtain rfl := Option.some.inj H
      go_wp2
      go_ret
      exact ⟨by first | rfl | (simp [errW_none, errW_some] <;> rfl) | (simp [*, errW_none, errW_some] <;> rfl), bel_ HB.out⟩
     ·replace c114 := Bool.eq_false_iff.mpr c114
      subst c114
      have H1 : ((laws_toParty.f kj14 l0_0 a0_1 l0_2).bind fun bt265 => ((laws_eqParty.f kj14 t241 t244 t245 bt265.1 bt265.2.1 bt265.2.2).bind fun t272 => (if t272 = true then ((laws_markParty.f kj14 t241 t244 t245 1).bind fun bt273 => (if bt273.1 < 0 then (laws_FnExactSend21.j1 kj14 a1 a2 t238 true l0_0 a0_1 l0_2 t227 t230 t231 t234 t235 t236 t237 t249 t252 t253) else ((laws_eqParty.f kj14 t249 t252 t253 t227 t230 t231).bind fun t276 => (if t276 = true then ((laws_eqPost.f t256 t257 t258 t259 t234 t235 t236 t237).bind fun t277 => (if t277 = true then (laws_FnExactSend21.j1 kj14 a1 a2 t238 (t260 != t238) l0_0 a0_1 l0_2 t227 t230 t231 t234 t235 t236 t237 t249 t252 t253) else (laws_FnExactSend21.j1 kj14 a1 a2 t238 true l0_0 a0_1 l0_2 t227 t230 t231 t234 t235 t236 t237 t249 t252 t253))) else (laws_FnExactSend21.j1 kj14 a1 a2 t238 true l0_0 a0_1 l0_2 t227 t230 t231 t234 t235 t236 t237 t249 t252 t253))))) else (some false)))) = some r := by rw [if_neg (show ¬ (false = true) by decide)] at H; exact H
      clear H
      have H := H1
      clear H1
      replace H := Option.bind_eq_some_iff.mp H
      obtain ⟨⟨t265, t268, t269⟩, A1150, H⟩ := H
      replace H : ((laws_eqParty.f kj14 t241 t244 t245 t265 t268 t269).bind fun t272 => (if t272 = true then ((laws_markParty.f kj14 t241 t244 t245 1).bind fun bt273 => (if bt273.1 < 0 then (laws_FnExactSend21.j1 kj14 a1 a2 t238 true l0_0 a0_1 l0_2 t227 t230 t231 t234 t235 t236 t237 t249 t252 t253) else ((laws_eqParty.f kj14 t249 t252 t253 t227 t230 t231).bind fun t276 => (if t276 = true then ((laws_eqPost.f t256 t257 t258 t259 t234 t235 t236 t237).bind fun t277 => (if t277 = true then (laws_FnExactSend21.j1 kj14 a1 a2 t238 (t260 != t238) l0_0 a0_1 l0_2 t227 t230 t231 t234 t235 t236 t237 t249 t252 t253) else (laws_FnExactSend21.j1 kj14 a1 a2 t238 true l0_0 a0_1 l0_2 t227 t230 t231 t234 t235 t236 t237 t249 t252 t253))) else (laws_FnExactSend21.j1 kj14 a1 a2 t238 true l0_0 a0_1 l0_2 t227 t230 t231 t234 t235 t236 t237 t249 t252 t253))))) else (some false))) = some r := H
      have A115 := Aside0.mk A1150
      clear A1150
      replace H := Option.bind_eq_some_iff.mp H
      obtain ⟨t272, A1160, H⟩ := H
      replace H : (if t272 = true then ((laws_markParty.f kj14 t241 t244 t245 1).bind fun bt273 => (if bt273.1 < 0 then (laws_FnExactSend21.j1 kj14 a1 a2 t238 true l0_0 a0_1 l0_2 t227 t230 t231 t234 t235 t236 t237 t249 t252 t253) else ((laws_eqParty.f kj14 t249 t252 t253 t227 t230 t231).bind fun t276 => (if t276 = true then ((laws_eqPost.f t256 t257 t258 t259 t234 t235 t236 t237).bind fun t277 => (if t277 = true then (laws_FnExactSend21.j1 kj14 a1 a2 t238 (t260 != t238) l0_0 a0_1 l0_2 t227 t230 t231 t234 t235 t236 t237 t249 t252 t253) else (laws_FnExactSend21.j1 kj14 a1 a2 t238 true l0_0 a0_1 l0_2 t227 t230 t231 t234 t235 t236 t237 t249 t252 t253))) else (laws_FnExactSend21.j1 kj14 a1 a2 t238 true l0_0 a0_1 l0_2 t227 t230 t231 t234 t235 t236 t237 t249 t252 t253))))) else (some false)) = some r := H
      have A116 := Aside0.mk A1160
      clear A1160
      by_cases c117 : t272 = true
      ·subst c117
       have H1 : ((laws_markParty.f kj14 t241 t244 t245 1).bind fun bt273 => (if bt273.1 < 0 then (laws_FnExactSend21.j1 kj14 a1 a2 t238 true l0_0 a0_1 l0_2 t227 t230 t231 t234 t235 t236 t237 t249 t252 t253) else ((laws_eqParty.f kj14 t249 t252 t253 t227 t230 t231).bind fun t276 => (if t276 = true then ((laws_eqPost.f t256 t257 t258 t259 t234 t235 t236 t237).bind fun t277 => (if t277 = true then (laws_FnExactSend21.j1 kj14 a1 a2 t238 (t260 != t238) l0_0 a0_1 l0_2 t227 t230 t231 t234 t235 t236 t237 t249 t252 t253) else (laws_FnExactSend21.j1 kj14 a1 a2 t238 true l0_0 a0_1 l0_2 t227 t230 t231 t234 t235 t236 t237 t249 t252 t253))) else (laws_FnExactSend21.j1 kj14 a1 a2 t238 true l0_0 a0_1 l0_2 t227 t230 t231 t234 t235 t236 t237 t249 t252 t253))))) = some r := by rw [if_pos rfl] at H; exact H
       clear H
       have H := H1
       clear H1
       replace H := Option.bind_eq_some_iff.mp H
       obtain ⟨⟨t273, t274, t275⟩, A1180, H⟩ := H
       replace H : (if t273 < 0 then (laws_FnExactSend21.j1 kj14 a1 a2 t238 true l0_0 a0_1 l0_2 t227 t230 t231 t234 t235 t236 t237 t249 t252 t253) else ((laws_eqParty.f kj14 t249 t252 t253 t227 t230 t231).bind fun t276 => (if t276 = true then ((laws_eqPost.f t256 t257 t258 t259 t234 t235 t236 t237).bind fun t277 => (if t277 = true then (laws_FnExactSend21.j1 kj14 a1 a2 t238 (t260 != t238) l0_0 a0_1 l0_2 t227 t230 t231 t234 t235 t236 t237 t249 t252 t253) else (laws_FnExactSend21.j1 kj14 a1 a2 t238 true l0_0 a0_1 l0_2 t227 t230 t231 t234 t235 t236 t237 t249 t252 t253))) else (laws_FnExactSend21.j1 kj14 a1 a2 t238 true l0_0 a0_1 l0_2 t227 t230 t231 t234 t235 t236 t237 t249 t252 t253)))) = some r := H
       have A118 := Aside0.mk A1180
       clear A1180
       have HC119 := Aside0.mk H
       clear H
       try go_wp2
       have n0_ := Aside0.mk (Kd.R_drew HO_240000.out)
       have n1_ := Aside0.mk (Kd.R_drew HO_240002.out)
       have n2_ := Aside0.mk (Kd.R_drew HO_249000.out)
       have n3_ := Aside0.mk (Kd.R_drew HO_249002.out)
       have n4_ := Aside0.mk (Kd.R_drew HO_262000.out)
       have n5_ := Aside0.mk (Kd.R_drew HO_262002.out)
       have n6_ := Aside0.mk (blk_drew BK218.out)
       have n7_ := Aside0.mk (blk_drew BK239.out)
       have n8_ := Aside0.mk (blk_drew BK240.out)
       have n9_ := Aside0.mk (blk_drew BK248.out)
       have n10_ := Aside0.mk (blk_drew BK261.out)
       have n11_ := Aside0.mk (blk_drew BK262.out)
       have n12_ := Aside0.mk (below_drew1 HB.out)
       clear HO_240000
       clear HO_240002
       clear HO_249000
       clear HO_249002
       clear HO_262000
       clear HO_262002
       clear BK218
       clear BK239
       clear BK240
       clear BK248
       clear BK261
       clear BK262
       clear HB
       have HO_240000 := n0_
       have HO_240002 := n1_
       have HO_249000 := n2_
       have HO_249002 := n3_
       have HO_262000 := n4_
       have HO_262002 := n5_
       have BK218 := n6_
       have BK239 := n7_
       have BK240 := n8_
       have BK248 := n9_
       have BK261 := n10_
       have BK262 := n11_
       have HB := n12_
       clear n0_ n1_ n2_ n3_ n4_ n5_ n6_ n7_ n8_ n9_ n10_ n11_ n12_
       refine start_ (n := 5) (S := fun w' => w'.cell? ⟨gb248, 0, none⟩ = some (.slice Ao36 t241.length co36) ∧ w'.cell? ⟨gb248, 1, none⟩ = some (.int .i64 t244) ∧ w'.cell? ⟨gb248, 2, none⟩ = some (.slice Ao41 t245.length co41) ∧ w'.cell? ⟨gb218, 0, none⟩ = some (.slice A0_0 l0_0.length c0_0) ∧ w'.cell? ⟨gb218, 1, none⟩ = some (.int .i64 a0_1) ∧ w'.cell? ⟨gb218, 2, none⟩ = some (.slice A0_2 l0_2.length c0_2)) (ds := []) (bs 5 0) (by kernel_rfl) rfl rfl ⟨(blk_cell BK248.out 0).trans rfl, (blk_cell BK248.out 1).trans rfl, (blk_cell BK248.out 2).trans rfl, (blk_cell BK218.out 0).trans rfl, (blk_cell BK218.out 1).trans rfl, (blk_cell BK218.out 2).trans rfl⟩ (fun hHeld => ?_)
       generalize wc.drew = w120 at HO_240000 HO_240002 HO_249000 HO_249002 HO_262000 HO_262002 BK218 BK239 BK240 BK248 BK261 BK262 HB hHeld ⊢
       refine take_ (i := 0) (N := some 63) (v := ?_) (a' := ?_) (bs 5 1) rfl rfl (by kernel_rfl) (fun _ _ _ h => h) (Or.inl ⟨by rfl, ?_⟩) hHeld ?_ ?_
       rotate_left
       ·rintro w' ⟨s0, s1, s2, s3, s4, s5⟩
        go_simp
        with_reducible rfl
       rotate_left
       ·simp only [Act.put, sA_, sZ_, sS_, i64_w, i32_w]
        rfl
       refine take_ (i := 1) (N := some 64) (v := ?_) (a' := ?_) (bs 5 3) rfl rfl (by kernel_rfl) (fun _ _ _ h => h) (Or.inl ⟨by rfl, ?_⟩) hHeld ?_ ?_
       rotate_left
       ·rintro w' ⟨s0, s1, s2, s3, s4, s5⟩
        go_simp
        with_reducible rfl
       rotate_left
       ·simp only [Act.put, sA_, sZ_, sS_, i64_w, i32_w]
        rfl
       refine one_ (i := 2) (N := some 65) (bs 5 7) rfl rfl (by kernel_rfl) (by decide) (fun K hK => ?_)
       refine goes_ Try.func17 (by kernel_rfl) rfl #[.agg #[.slice A0_0 l0_0.length c0_0, .int .i64 a0_1, .slice A0_2 l0_2.length c0_2]] (by rfl) rfl rfl ml_ ?_
       with_reducible refine (laws_toParty.calls kj14 _ _ l0_0 a0_1 _ _ l0_2 t265 t268 t269 _ ?side1 ?side2 ?side3 ?side4 A115.out).mono ?_
       (case side1 => repeat (first | exact (Kd.C_below HR0_0.out HB.out) | (with_reducible refine Kd.C_alloc ?_ _) | (with_reducible refine Kd.C_drewN ?_ _) | (with_reducible refine Kd.C_drew ?_)))
       (case side2 => exact HC0_0.out)
       (case side3 => repeat (first | exact (Kd.C_below HR0_2.out HB.out) | (with_reducible refine Kd.C_alloc ?_ _) | (with_reducible refine Kd.C_drewN ?_ _) | (with_reducible refine Kd.C_drew ?_)))
       (case side4 => exact HC0_2.out)
       rintro e w121 ⟨v266, v270, rfl, ho0, ho1, hb⟩
       refine ⟨_, rfl, ?_⟩
       have n0_ := Aside0.mk (Kd.R_mono (Kd.R_told (Kd.R_told (Kd.R_old (fr_ HO_240000.out) hb) (Kd.R_base ho0)) (Kd.R_base ho1)) (fun _ h_ => h_.1))
       have n1_ := Aside0.mk (Kd.R_mono (Kd.R_told (Kd.R_told (Kd.R_old (fr_ HO_240002.out) hb) (Kd.R_base ho0)) (Kd.R_base ho1)) (fun _ h_ => h_.1))
       have n2_ := Aside0.mk (Kd.R_mono (Kd.R_told (Kd.R_told (Kd.R_old (fr_ HO_249000.out) hb) (Kd.R_base ho0)) (Kd.R_base ho1)) (fun _ h_ => h_.1))
       have n3_ := Aside0.mk (Kd.R_mono (Kd.R_told (Kd.R_told (Kd.R_old (fr_ HO_249002.out) hb) (Kd.R_base ho0)) (Kd.R_base ho1)) (fun _ h_ => h_.1))
       have n4_ := Aside0.mk (Kd.R_mono (Kd.R_told (Kd.R_told (Kd.R_old (fr_ HO_262000.out) hb) (Kd.R_base ho0)) (Kd.R_base ho1)) (fun _ h_ => h_.1))
       have n5_ := Aside0.mk (Kd.R_mono (Kd.R_told (Kd.R_told (Kd.R_old (fr_ HO_262002.out) hb) (Kd.R_base ho0)) (Kd.R_base ho1)) (fun _ h_ => h_.1))
       have n6_ := Aside0.mk (Kd.R_lower (Kd.R_new' (Kd.R_new' (Kd.R_new' (Kd.R_new' (Kd.R_new' (Kd.R_new' ho0 (Kd.R_lt (fr_ HO_240000.out))) (Kd.R_lt (fr_ HO_240002.out))) (Kd.R_lt (fr_ HO_249000.out))) (Kd.R_lt (fr_ HO_249002.out))) (Kd.R_lt (fr_ HO_262000.out))) (Kd.R_lt (fr_ HO_262002.out))) (below_size (bel_ HB.out)))
       have n7_ := Aside0.mk (Kd.R_lower (Kd.R_new' (Kd.R_new' (Kd.R_new' (Kd.R_new' (Kd.R_new' (Kd.R_new' ho1 (Kd.R_lt (fr_ HO_240000.out))) (Kd.R_lt (fr_ HO_240002.out))) (Kd.R_lt (fr_ HO_249000.out))) (Kd.R_lt (fr_ HO_249002.out))) (Kd.R_lt (fr_ HO_262000.out))) (Kd.R_lt (fr_ HO_262002.out))) (below_size (bel_ HB.out)))
       have n8_ := Aside0.mk (bb_ BK218.out hb)
       have n9_ := Aside0.mk (bb_ BK239.out hb)
       have n10_ := Aside0.mk (bb_ BK240.out hb)
       have n11_ := Aside0.mk (bb_ BK248.out hb)
       have n12_ := Aside0.mk (bb_ BK261.out hb)
       have n13_ := Aside0.mk (bb_ BK262.out hb)
       have n14_ := Aside0.mk (below_step (bel_ HB.out) hb)
       clear HO_240000
       clear HO_240002
       clear HO_249000
       clear HO_249002
       clear HO_262000
       clear HO_262002
       clear BK218
       clear BK239
       clear BK240
       clear BK248
       clear BK261
       clear BK262
       clear HB
       have HO_240000 := n0_
       have HO_240002 := n1_
       have HO_249000 := n2_
       have HO_249002 := n3_
       have HO_262000 := n4_
       have HO_262002 := n5_
       have HO267 := n6_
       have HO271 := n7_
       have BK218 := n8_
       have BK239 := n9_
       have BK240 := n10_
       have BK248 := n11_
       have BK261 := n12_
       have BK262 := n13_
       have HB := n14_
       clear n0_ n1_ n2_ n3_ n4_ n5_ n6_ n7_ n8_ n9_ n10_ n11_ n12_ n13_ n14_
       (try clear hb)
       (try clear hb2)
       (try clear hk)
       (try clear hi)
       (try clear ho0)
       (try clear ho1)
       obtain ⟨Ao122, co122, eo122⟩ := Kd.R_slice HO267.out
       (first | subst eo122 | (injection eo122 with f1_ f2_ f3_; have f4_ := f1_.symm; have f5_ := f3_.symm; clear f1_ f2_ f3_; subst f4_; subst f5_))
       obtain ⟨Ao123, co123, eo123⟩ := Kd.R_slice HO271.out
       (first | subst eo123 | (injection eo123 with f1_ f2_ f3_; have f4_ := f1_.symm; have f5_ := f3_.symm; clear f1_ f2_ f3_; subst f4_; subst f5_))
       refine hK.out _ _ ⟨(blk_cell BK248.out 0).trans rfl, (blk_cell BK248.out 1).trans rfl, (blk_cell BK248.out 2).trans rfl, (blk_cell BK218.out 0).trans rfl, (blk_cell BK218.out 1).trans rfl, (blk_cell BK218.out 2).trans rfl⟩ (fun hHeld => ?_)
       clear hK K
       refine norm_ (a' := ?_) ?_ ?_
       rotate_left
       ·show Act.put _ (some 65) _ = _
        simp only [Act.put, sA_, sZ_, sS_, i64_w, i32_w]
        rfl
       refine one_ (i := 3) (N := some 66) (bs 5 15) rfl rfl (by kernel_rfl) (by decide) (fun K hK => ?_)
       refine goes_ Try.func18 (by kernel_rfl) rfl #[.agg #[.slice Ao36 t241.length co36, .int .i64 t244, .slice Ao41 t245.length co41], .agg #[.slice Ao122 t265.length co122, .int .i64 t268, .slice Ao123 t269.length co123]] (by rfl) rfl rfl ml_ ?_
       with_reducible refine (laws_eqParty.calls kj14 _ _ t241 t244 _ _ t245 _ _ t265 t268 _ _ t269 true _ ?side1 ?side2 ?side3 ?side4 ?side5 ?side6 ?side7 ?side8 A116.out).mono ?_
       (case side1 => exact rc_ (Kd.R_reads' HO_249000.out).2.2)
       (case side2 => exact (Kd.R_reads' HO_249000.out).2.1)
       (case side3 => exact rc_ (Kd.R_reads' HO_249002.out).2.2)
       (case side4 => exact (Kd.R_reads' HO_249002.out).2.1)
       (case side5 => exact rc_ (Kd.R_reads' HO267.out).2.2)
       (case side6 => exact (Kd.R_reads' HO267.out).2.1)
       (case side7 => exact rc_ (Kd.R_reads' HO271.out).2.2)
       (case side8 => exact (Kd.R_reads' HO271.out).2.1)
       rintro e w124 ⟨rfl, hb⟩
       refine ⟨_, rfl, ?_⟩
       have n0_ := Aside0.mk (Kd.R_below (fr_ HO_240000.out) hb)
       have n1_ := Aside0.mk (Kd.R_below (fr_ HO_240002.out) hb)
       have n2_ := Aside0.mk (Kd.R_below (fr_ HO_249000.out) hb)
       have n3_ := Aside0.mk (Kd.R_below (fr_ HO_249002.out) hb)
       have n4_ := Aside0.mk (Kd.R_below (fr_ HO_262000.out) hb)
       have n5_ := Aside0.mk (Kd.R_below (fr_ HO_262002.out) hb)
       have n6_ := Aside0.mk (Kd.R_below (fr_ HO267.out) hb)
       have n7_ := Aside0.mk (Kd.R_below (fr_ HO271.out) hb)
       have n8_ := Aside0.mk (bb_ BK218.out hb)
       have n9_ := Aside0.mk (bb_ BK239.out hb)
       have n10_ := Aside0.mk (bb_ BK240.out hb)
       have n11_ := Aside0.mk (bb_ BK248.out hb)
       have n12_ := Aside0.mk (bb_ BK261.out hb)
       have n13_ := Aside0.mk (bb_ BK262.out hb)
       have n14_ := Aside0.mk (below_step (bel_ HB.out) hb)
       clear HO_240000
       clear HO_240002
       clear HO_249000
       clear HO_249002
       clear HO_262000
       clear HO_262002
       clear HO267
       clear HO271
       clear BK218
       clear BK239
       clear BK240
       clear BK248
       clear BK261
       clear BK262
       clear HB
       have HO_240000 := n0_
       have HO_240002 := n1_
       have HO_249000 := n2_
       have HO_249002 := n3_
       have HO_262000 := n4_
       have HO_262002 := n5_
       have HO267 := n6_
       have HO271 := n7_
       have BK218 := n8_
       have BK239 := n9_
       have BK240 := n10_
       have BK248 := n11_
       have BK261 := n12_
       have BK262 := n13_
       have HB := n14_
       clear n0_ n1_ n2_ n3_ n4_ n5_ n6_ n7_ n8_ n9_ n10_ n11_ n12_ n13_ n14_
       (try clear hb)
       (try clear hb2)
       (try clear hk)
       (try clear hi)
       refine hK.out _ _ ⟨(blk_cell BK248.out 0).trans rfl, (blk_cell BK248.out 1).trans rfl, (blk_cell BK248.out 2).trans rfl, (blk_cell BK218.out 0).trans rfl, (blk_cell BK218.out 1).trans rfl, (blk_cell BK218.out 2).trans rfl⟩ (fun hHeld => ?_)
       clear hK K
       refine norm_ (a' := ?_) ?_ ?_
       rotate_left
       ·show Act.put _ (some 66) _ = _
        simp only [Act.put, sA_, sZ_, sS_, i64_w, i32_w]
        rfl
       refine pure_ (i := 4) (N := some 67) (v := ?_) (a' := ?_) (bs 5 31) rfl rfl (by kernel_rfl) (fun _ _ _ h => h) (Or.inl ⟨by rfl, ?_⟩) ?_ ?_
       rotate_left
       ·intro w'
        go_simp
        with_reducible rfl
       rotate_left
       ·simp only [Act.put, sA_, sZ_, sS_, i64_w, i32_w]
        rfl
       refine done_ (by kernel_rfl) ?_
       have hnb125 := NB248_218.out
       have hnc125 := NB218_248.out
       have hnb126 := NB248_239.out
       have hnc126 := NB239_248.out
       have hnb127 := NB248_240.out
       have hnc127 := NB240_248.out
       have hnb128 := NB248_261.out
       have hnc128 := NB261_248.out
       have hnb129 := NB248_262.out
       have hnc129 := NB262_248.out
       have hcz130_0 : w124.cell? ⟨gb248, 0, none⟩ = some (.slice Ao36 t241.length co36) := (blk_cell BK248.out 0).trans rfl
       have hcz130_1 : w124.cell? ⟨gb248, 1, none⟩ = some (.int .i64 t244) := (blk_cell BK248.out 1).trans rfl
       have hcz130_2 : w124.cell? ⟨gb248, 2, none⟩ = some (.slice Ao41 t245.length co41) := (blk_cell BK248.out 2).trans rfl
       have hfz130_0 := blk_frozen BK248.out 0
       have hfz130_1 := blk_frozen BK248.out 1
       have hfz130_2 := blk_frozen BK248.out 2
       go_upto_region 16 with (first | ((with_reducible refine gate_callee (f := 21) rfl ?_); refine goesL_ (some 70) rfl rfl Try.func21 (by kernel_rfl) rfl #[.agg #[.slice Ao36 t241.length co36, .int .i64 t244, .slice Ao41 t245.length co41], .int .i64 1] rfl ml_ ?_; (with_reducible refine (laws_markParty.calls kj14 (fun k_ => some k_ = (.slice Ao36 t241.length co36 : Value).ownBlock) (.slice Ao36 t241.length co36) t241 t244 (fun k_ => some k_ = (.slice Ao41 t245.length co41 : Value).ownBlock) (.slice Ao41 t245.length co41) t245 1 t273 t274 t275 w _ ?side1 ?side2 ?side3 ?side4 ?side5 A118.out).mono ?_); (case side1 => repeat (first | (with_reducible first | exact HB.out | apply below_alloc | apply pw_below_drewN | apply below_drew1 | refine below_set ?_ GE218.out | refine below_set ?_ GE239.out | refine below_set ?_ GE240.out | refine below_set ?_ GE248.out | refine below_set ?_ GE261.out | refine below_set ?_ GE262.out) | exact HB.out)); (case side2 => exact Kd.R_tight rfl HO_249000.out); (case side3 => exact fun k_ e_ => (HO_249000.out.1 k_ e_.symm).1.1.2.2.1); (case side4 => exact Kd.R_tight rfl HO_249002.out); (case side5 => exact fun k_ e_ => (HO_249002.out.1 k_ e_.symm).1.1.2.2.1); rintro e w131 ⟨rfl, hy0, hy1, hb, hkp⟩; refine ⟨_, rfl, ?_⟩; have n0_ := Aside0.mk (Kd.R_mono (ok' := fun k_ => some k_ ≠ (.slice Ao30 t231.length co30 : Value).ownBlock ∧ some k_ ≠ (.slice Ao36 t241.length co36 : Value).ownBlock ∧ some k_ ≠ (.slice Ao41 t245.length co41 : Value).ownBlock ∧ some k_ ≠ (.slice Ao45 t249.length co45 : Value).ownBlock ∧ some k_ ≠ (.slice Ao52 t253.length co52 : Value).ownBlock ∧ some k_ ≠ (.slice Ao122 t265.length co122 : Value).ownBlock ∧ some k_ ≠ (.slice Ao123 t269.length co123 : Value).ownBlock) (Kd.R_keptB (HO_240000.out) hkp (fun k_ hk_ hs_ => Or.elim hs_ (fun e_ => (hk_.1.1.2.1) e_) (fun e_ => (hk_.1.1.2.2.1) e_))) (fun k_ hk_ => ⟨hk_.1.1.1.1, hk_.1.1.1.2.1, hk_.1.1.1.2.2.1, hk_.1.1.1.2.2.2.1, hk_.1.1.1.2.2.2.2, hk_.1.1.2, hk_.1.2⟩)); have n1_ := Aside0.mk (Kd.R_mono (ok' := fun k_ => some k_ ≠ (.slice Ao26 t227.length co26 : Value).ownBlock ∧ some k_ ≠ (.slice Ao36 t241.length co36 : Value).ownBlock ∧ some k_ ≠ (.slice Ao41 t245.length co41 : Value).ownBlock ∧ some k_ ≠ (.slice Ao45 t249.length co45 : Value).ownBlock ∧ some k_ ≠ (.slice Ao52 t253.length co52 : Value).ownBlock ∧ some k_ ≠ (.slice Ao122 t265.length co122 : Value).ownBlock ∧ some k_ ≠ (.slice Ao123 t269.length co123 : Value).ownBlock) (Kd.R_keptB (HO_240002.out) hkp (fun k_ hk_ hs_ => Or.elim hs_ (fun e_ => (hk_.1.1.2.1) e_) (fun e_ => (hk_.1.1.2.2.1) e_))) (fun k_ hk_ => ⟨hk_.1.1.1.1, hk_.1.1.1.2.1, hk_.1.1.1.2.2.1, hk_.1.1.1.2.2.2.1, hk_.1.1.1.2.2.2.2, hk_.1.1.2, hk_.1.2⟩)); have n2_ := Aside0.mk (Kd.R_reok rfl hy0 (fun k_ e_ => HO_249000.out.1 k_ e_)); have n3_ := Aside0.mk (Kd.R_reok rfl hy1 (fun k_ e_ => HO_249002.out.1 k_ e_)); have n4_ := Aside0.mk (Kd.R_mono (ok' := fun k_ => some k_ ≠ (.slice Ao26 t227.length co26 : Value).ownBlock ∧ some k_ ≠ (.slice Ao30 t231.length co30 : Value).ownBlock ∧ some k_ ≠ (.slice Ao36 t241.length co36 : Value).ownBlock ∧ some k_ ≠ (.slice Ao41 t245.length co41 : Value).ownBlock ∧ some k_ ≠ (.slice Ao52 t253.length co52 : Value).ownBlock ∧ some k_ ≠ (.slice Ao122 t265.length co122 : Value).ownBlock ∧ some k_ ≠ (.slice Ao123 t269.length co123 : Value).ownBlock) (Kd.R_keptB (HO_262000.out) hkp (fun k_ hk_ hs_ => Or.elim hs_ (fun e_ => (hk_.1.1.2.2.1) e_) (fun e_ => (hk_.1.1.2.2.2.1) e_))) (fun k_ hk_ => ⟨hk_.1.1.1.1, hk_.1.1.1.2.1, hk_.1.1.1.2.2.1, hk_.1.1.1.2.2.2.1, hk_.1.1.1.2.2.2.2, hk_.1.1.2, hk_.1.2⟩)); have n5_ := Aside0.mk (Kd.R_mono (ok' := fun k_ => some k_ ≠ (.slice Ao26 t227.length co26 : Value).ownBlock ∧ some k_ ≠ (.slice Ao30 t231.length co30 : Value).ownBlock ∧ some k_ ≠ (.slice Ao36 t241.length co36 : Value).ownBlock ∧ some k_ ≠ (.slice Ao41 t245.length co41 : Value).ownBlock ∧ some k_ ≠ (.slice Ao45 t249.length co45 : Value).ownBlock ∧ some k_ ≠ (.slice Ao122 t265.length co122 : Value).ownBlock ∧ some k_ ≠ (.slice Ao123 t269.length co123 : Value).ownBlock) (Kd.R_keptB (HO_262002.out) hkp (fun k_ hk_ hs_ => Or.elim hs_ (fun e_ => (hk_.1.1.2.2.1) e_) (fun e_ => (hk_.1.1.2.2.2.1) e_))) (fun k_ hk_ => ⟨hk_.1.1.1.1, hk_.1.1.1.2.1, hk_.1.1.1.2.2.1, hk_.1.1.1.2.2.2.1, hk_.1.1.1.2.2.2.2, hk_.1.1.2, hk_.1.2⟩)); have n6_ := Aside0.mk (blk_kept (fb_ BK218.out) hkp (fun hs_ => Or.elim hs_ (fun e_ => (fun e_ => (Kd.R_ne HO_249000.out BK218.out (by decide)) e_) e_) (fun e_ => (fun e_ => (Kd.R_ne HO_249002.out BK218.out (by decide)) e_) e_))); have n7_ := Aside0.mk (blk_kept (fb_ BK239.out) hkp (fun hs_ => Or.elim hs_ (fun e_ => (fun e_ => (Kd.R_ne HO_249000.out BK239.out (by decide)) e_) e_) (fun e_ => (fun e_ => (Kd.R_ne HO_249002.out BK239.out (by decide)) e_) e_))); have n8_ := Aside0.mk (blk_kept (fb_ BK240.out) hkp (fun hs_ => Or.elim hs_ (fun e_ => (fun e_ => (Kd.R_ne HO_249000.out BK240.out (by decide)) e_) e_) (fun e_ => (fun e_ => (Kd.R_ne HO_249002.out BK240.out (by decide)) e_) e_))); have n9_ := Aside0.mk (blk_kept (fb_ BK248.out) hkp (fun hs_ => Or.elim hs_ (fun e_ => (fun e_ => (Kd.R_ne HO_249000.out BK248.out (by decide)) e_) e_) (fun e_ => (fun e_ => (Kd.R_ne HO_249002.out BK248.out (by decide)) e_) e_))); have n10_ := Aside0.mk (blk_kept (fb_ BK261.out) hkp (fun hs_ => Or.elim hs_ (fun e_ => (fun e_ => (Kd.R_ne HO_249000.out BK261.out (by decide)) e_) e_) (fun e_ => (fun e_ => (Kd.R_ne HO_249002.out BK261.out (by decide)) e_) e_))); have n11_ := Aside0.mk (blk_kept (fb_ BK262.out) hkp (fun hs_ => Or.elim hs_ (fun e_ => (fun e_ => (Kd.R_ne HO_249000.out BK262.out (by decide)) e_) e_) (fun e_ => (fun e_ => (Kd.R_ne HO_249002.out BK262.out (by decide)) e_) e_))); have n12_ := Aside0.mk (Kd.R_mono (ok' := fun k_ => some k_ ≠ (.slice Ao26 t227.length co26 : Value).ownBlock ∧ some k_ ≠ (.slice Ao30 t231.length co30 : Value).ownBlock ∧ some k_ ≠ (.slice Ao36 t241.length co36 : Value).ownBlock ∧ some k_ ≠ (.slice Ao41 t245.length co41 : Value).ownBlock ∧ some k_ ≠ (.slice Ao45 t249.length co45 : Value).ownBlock ∧ some k_ ≠ (.slice Ao52 t253.length co52 : Value).ownBlock ∧ some k_ ≠ (.slice Ao123 t269.length co123 : Value).ownBlock) (Kd.R_keptB (HO267.out) hkp (fun k_ hk_ hs_ => Or.elim hs_ (fun e_ => (hk_.1.1.1.2) e_) (fun e_ => (hk_.1.1.2) e_))) (fun k_ hk_ => ⟨hk_.1.1.1.1.1.1.2, hk_.1.1.1.1.1.2, hk_.1.1.1.1.2, hk_.1.1.1.2, hk_.1.1.2, hk_.1.2, hk_.1.1.1.1.1.1.1⟩)); have n13_ := Aside0.mk (Kd.R_mono (ok' := fun k_ => some k_ ≠ (.slice Ao26 t227.length co26 : Value).ownBlock ∧ some k_ ≠ (.slice Ao30 t231.length co30 : Value).ownBlock ∧ some k_ ≠ (.slice Ao36 t241.length co36 : Value).ownBlock ∧ some k_ ≠ (.slice Ao41 t245.length co41 : Value).ownBlock ∧ some k_ ≠ (.slice Ao45 t249.length co45 : Value).ownBlock ∧ some k_ ≠ (.slice Ao52 t253.length co52 : Value).ownBlock ∧ some k_ ≠ (.slice Ao122 t265.length co122 : Value).ownBlock) (Kd.R_keptB (HO271.out) hkp (fun k_ hk_ hs_ => Or.elim hs_ (fun e_ => (hk_.1.1.1.2) e_) (fun e_ => (hk_.1.1.2) e_))) (fun k_ hk_ => ⟨hk_.1.1.1.1.1.1.2, hk_.1.1.1.1.1.2, hk_.1.1.1.1.2, hk_.1.1.1.2, hk_.1.1.2, hk_.1.2, hk_.1.1.1.1.1.1.1⟩)); have n14_ := Aside0.mk (hb); clear HO_240000; clear HO_240002; clear HO_249000; clear HO_249002; clear HO_262000; clear HO_262002; clear BK218; clear BK239; clear BK240; clear BK248; clear BK261; clear BK262; clear HO267; clear HO271; clear HB; have HO_240000 := n0_; have HO_240002 := n1_; have HO_249000 := n2_; have HO_249002 := n3_; have HO_262000 := n4_; have HO_262002 := n5_; have BK218 := n6_; have BK239 := n7_; have BK240 := n8_; have BK248 := n9_; have BK261 := n10_; have BK262 := n11_; have HO267 := n12_; have HO271 := n13_; have HB := n14_; clear n0_ n1_ n2_ n3_ n4_ n5_ n6_ n7_ n8_ n9_ n10_ n11_ n12_ n13_ n14_; (try clear hb); (try clear hkp); (try clear hy0); (try clear hy1)))
       (try simp only [Act.put, sA_, sZ_, sS_])
       go_cut [89] (fun v89 wc => ∃ (kq : Nat) (x89_118 : Bool), v89 = .bool x89_118 ∧ Aside0 (laws_FnExactSend21.j1 kq a1 a2 t238 x89_118 l0_0 a0_1 l0_2 t227 t230 t231 t234 t235 t236 t237 t249 t252 t253 = some r) ∧ Aside0 (kq ≤ kj14) ∧ Aside0 (Kd.R Kd.string 9 wc w.heap.size (fun k_ => some k_ ≠ ((.slice Ao30 t231.length co30) : Value).ownBlock ∧ some k_ ≠ ((.slice Ao36 t241.length co36) : Value).ownBlock ∧ some k_ ≠ ((.slice Ao41 t245.length co41) : Value).ownBlock ∧ some k_ ≠ ((.slice Ao45 t249.length co45) : Value).ownBlock ∧ some k_ ≠ ((.slice Ao52 t253.length co52) : Value).ownBlock) (.slice Ao26 t227.length co26) t227) ∧ Aside0 (Kd.R Kd.string 9 wc w.heap.size (fun k_ => some k_ ≠ ((.slice Ao26 t227.length co26) : Value).ownBlock ∧ some k_ ≠ ((.slice Ao36 t241.length co36) : Value).ownBlock ∧ some k_ ≠ ((.slice Ao41 t245.length co41) : Value).ownBlock ∧ some k_ ≠ ((.slice Ao45 t249.length co45) : Value).ownBlock ∧ some k_ ≠ ((.slice Ao52 t253.length co52) : Value).ownBlock) (.slice Ao30 t231.length co30) t231) ∧ Aside0 (Kd.R Kd.string 9 wc w.heap.size (fun k_ => some k_ ≠ ((.slice Ao26 t227.length co26) : Value).ownBlock ∧ some k_ ≠ ((.slice Ao30 t231.length co30) : Value).ownBlock ∧ some k_ ≠ ((.slice Ao41 t245.length co41) : Value).ownBlock ∧ some k_ ≠ ((.slice Ao45 t249.length co45) : Value).ownBlock ∧ some k_ ≠ ((.slice Ao52 t253.length co52) : Value).ownBlock) (.slice Ao36 t241.length co36) t274) ∧ Aside0 (Kd.R Kd.string 9 wc w.heap.size (fun k_ => some k_ ≠ ((.slice Ao26 t227.length co26) : Value).ownBlock ∧ some k_ ≠ ((.slice Ao30 t231.length co30) : Value).ownBlock ∧ some k_ ≠ ((.slice Ao36 t241.length co36) : Value).ownBlock ∧ some k_ ≠ ((.slice Ao45 t249.length co45) : Value).ownBlock ∧ some k_ ≠ ((.slice Ao52 t253.length co52) : Value).ownBlock) (.slice Ao41 t245.length co41) t275) ∧ Aside0 (Kd.R Kd.string 9 wc w.heap.size (fun k_ => some k_ ≠ ((.slice Ao26 t227.length co26) : Value).ownBlock ∧ some k_ ≠ ((.slice Ao30 t231.length co30) : Value).ownBlock ∧ some k_ ≠ ((.slice Ao36 t241.length co36) : Value).ownBlock ∧ some k_ ≠ ((.slice Ao41 t245.length co41) : Value).ownBlock ∧ some k_ ≠ ((.slice Ao52 t253.length co52) : Value).ownBlock) (.slice Ao45 t249.length co45) t249) ∧ Aside0 (Kd.R Kd.string 9 wc w.heap.size (fun k_ => some k_ ≠ ((.slice Ao26 t227.length co26) : Value).ownBlock ∧ some k_ ≠ ((.slice Ao30 t231.length co30) : Value).ownBlock ∧ some k_ ≠ ((.slice Ao36 t241.length co36) : Value).ownBlock ∧ some k_ ≠ ((.slice Ao41 t245.length co41) : Value).ownBlock ∧ some k_ ≠ ((.slice Ao45 t249.length co45) : Value).ownBlock) (.slice Ao52 t253.length co52) t253) ∧ Aside0 (wc.heap[gb218]? = some (.cells #[(.slice A0_0 l0_0.length c0_0), .int .i64 a0_1, (.slice A0_2 l0_2.length c0_2)] 42 (0, 0))) ∧ Aside0 (wc.heap[gb239]? = some (.cells #[(.slice Ao26 t227.length co26), .int .i64 t230, (.slice Ao30 t231.length co30)] 26 (0, 0))) ∧ Aside0 (wc.heap[gb240]? = some (.cells #[.int .i64 t234, .int .i64 t235, .int .i64 t236, .string t237] 34 (0, 0))) ∧ Aside0 (wc.heap[gb248]? = some (.cells #[(.slice Ao36 t241.length co36), .int .i64 t244, (.slice Ao41 t245.length co41)] 26 (0, 0))) ∧ Aside0 (wc.heap[gb261]? = some (.cells #[(.slice Ao45 t249.length co45), .int .i64 t252, (.slice Ao52 t253.length co52)] 26 (0, 0))) ∧ Aside0 (wc.heap[gb262]? = some (.cells #[.int .i64 t256, .int .i64 t257, .int .i64 t258, .string t259] 34 (0, 0))) ∧ Aside0 (Below w.heap.size w wc))
       case first =>
        have H := HC119.out
        clear HC119
        by_cases c132 : t273 < 0
        ·rw [if_pos c132] at H
         have c132b0 : decide (t273 < 0) = true := decide_eq_true c132
         clear c132
         (first | rw [c132b0] | (simp only [i64_w, i32_w]; rw [c132b0]) | skip)
         have H' := Aside0.mk H
         clear H
         go_wp2
         go_meet
         case rel => exact ⟨_, (true), (by first | rfl | (simp; done) | (simp [*]; done) | (simp [wrap64]; done)), H', ⟨by have := HJ14.out; first | omega | exact Nat.le_refl _⟩, ⟨by (with_reducible repeat (first | apply Kd.R_alloc | apply Kd.R_drewN | apply Kd.R_drew)); exact Kd.R_mono HO_240000.out (fun _ hk => ⟨hk.1, ⟨hk.2.1, ⟨hk.2.2.1, ⟨hk.2.2.2.1, hk.2.2.2.2.1⟩⟩⟩⟩)⟩, ⟨by (with_reducible repeat (first | apply Kd.R_alloc | apply Kd.R_drewN | apply Kd.R_drew)); exact Kd.R_mono HO_240002.out (fun _ hk => ⟨hk.1, ⟨hk.2.1, ⟨hk.2.2.1, ⟨hk.2.2.2.1, hk.2.2.2.2.1⟩⟩⟩⟩)⟩, ⟨by (with_reducible repeat (first | apply Kd.R_alloc | apply Kd.R_drewN | apply Kd.R_drew)); exact Kd.R_mono HO_249000.out (fun _ hk => ⟨hk.1.1.1, ⟨hk.1.1.2.1, ⟨hk.1.1.2.2.1, ⟨hk.1.1.2.2.2.1, hk.1.1.2.2.2.2⟩⟩⟩⟩)⟩, ⟨by (with_reducible repeat (first | apply Kd.R_alloc | apply Kd.R_drewN | apply Kd.R_drew)); exact Kd.R_mono HO_249002.out (fun _ hk => ⟨hk.1.1.1, ⟨hk.1.1.2.1, ⟨hk.1.1.2.2.1, ⟨hk.1.1.2.2.2.1, hk.1.1.2.2.2.2⟩⟩⟩⟩)⟩, ⟨by (with_reducible repeat (first | apply Kd.R_alloc | apply Kd.R_drewN | apply Kd.R_drew)); exact Kd.R_mono HO_262000.out (fun _ hk => ⟨hk.1, ⟨hk.2.1, ⟨hk.2.2.1, ⟨hk.2.2.2.1, hk.2.2.2.2.1⟩⟩⟩⟩)⟩, ⟨by (with_reducible repeat (first | apply Kd.R_alloc | apply Kd.R_drewN | apply Kd.R_drew)); exact Kd.R_mono HO_262002.out (fun _ hk => ⟨hk.1, ⟨hk.2.1, ⟨hk.2.2.1, ⟨hk.2.2.2.1, hk.2.2.2.2.1⟩⟩⟩⟩)⟩, ⟨by refine rp_ ?_; exact BK218.out⟩, ⟨by refine rp_ ?_; exact BK239.out⟩, ⟨by refine rp_ ?_; exact BK240.out⟩, ⟨by refine rp_ ?_; exact BK248.out⟩, ⟨by refine rp_ ?_; exact BK261.out⟩, ⟨by refine rp_ ?_; exact BK262.out⟩, ⟨bel_ HB.out⟩⟩
        ·rw [if_neg c132] at H
         have c132b0 : decide (t273 < 0) = false := decide_eq_false c132
         clear c132
         (first | rw [c132b0] | (simp only [i64_w, i32_w]; rw [c132b0]) | skip)
         replace H := Option.bind_eq_some_iff.mp H
         obtain ⟨t276, A1330, H⟩ := H
         replace H : (if t276 = true then ((laws_eqPost.f t256 t257 t258 t259 t234 t235 t236 t237).bind fun t277 => (if t277 = true then (laws_FnExactSend21.j1 kj14 a1 a2 t238 (t260 != t238) l0_0 a0_1 l0_2 t227 t230 t231 t234 t235 t236 t237 t249 t252 t253) else (laws_FnExactSend21.j1 kj14 a1 a2 t238 true l0_0 a0_1 l0_2 t227 t230 t231 t234 t235 t236 t237 t249 t252 t253))) else (laws_FnExactSend21.j1 kj14 a1 a2 t238 true l0_0 a0_1 l0_2 t227 t230 t231 t234 t235 t236 t237 t249 t252 t253)) = some r := H
         have A133 := Aside0.mk A1330
         clear A1330
         by_cases c134 : t276 = true
         ·subst c134
          have H1 : ((laws_eqPost.f t256 t257 t258 t259 t234 t235 t236 t237).bind fun t277 => (if t277 = true then (laws_FnExactSend21.j1 kj14 a1 a2 t238 (t260 != t238) l0_0 a0_1 l0_2 t227 t230 t231 t234 t235 t236 t237 t249 t252 t253) else (laws_FnExactSend21.j1 kj14 a1 a2 t238 true l0_0 a0_1 l0_2 t227 t230 t231 t234 t235 t236 t237 t249 t252 t253))) = some r := by rw [if_pos rfl] at H; exact H
          clear H
          have H := H1
          clear H1
          replace H := Option.bind_eq_some_iff.mp H
          obtain ⟨t277, A1350, H⟩ := H
          replace H : (if t277 = true then (laws_FnExactSend21.j1 kj14 a1 a2 t238 (t260 != t238) l0_0 a0_1 l0_2 t227 t230 t231 t234 t235 t236 t237 t249 t252 t253) else (laws_FnExactSend21.j1 kj14 a1 a2 t238 true l0_0 a0_1 l0_2 t227 t230 t231 t234 t235 t236 t237 t249 t252 t253)) = some r := H
          have A135 := Aside0.mk A1350
          clear A1350
          by_cases c136 : t277 = true
          ·subst c136
           have H1 : (laws_FnExactSend21.j1 kj14 a1 a2 t238 (t260 != t238) l0_0 a0_1 l0_2 t227 t230 t231 t234 t235 t236 t237 t249 t252 t253) = some r := by rw [if_pos rfl] at H; exact H
           clear H
           have H := H1
           clear H1
           have H' := Aside0.mk H
           clear H
           have hnb137 := NB261_218.out
           have hnc137 := NB218_261.out
           have hnb138 := NB261_239.out
           have hnc138 := NB239_261.out
           have hnb139 := NB261_240.out
           have hnc139 := NB240_261.out
           have hnb140 := NB261_248.out
           have hnc140 := NB248_261.out
           have hnb141 := NB261_262.out
           have hnc141 := NB262_261.out
           have hcz142_0 : w131.cell? ⟨gb261, 0, none⟩ = some (.slice Ao45 t249.length co45) := (blk_cell BK261.out 0).trans rfl
           have hcz142_1 : w131.cell? ⟨gb261, 1, none⟩ = some (.int .i64 t252) := (blk_cell BK261.out 1).trans rfl
           have hcz142_2 : w131.cell? ⟨gb261, 2, none⟩ = some (.slice Ao52 t253.length co52) := (blk_cell BK261.out 2).trans rfl
           have hfz142_0 := blk_frozen BK261.out 0
           have hfz142_1 := blk_frozen BK261.out 1
           have hfz142_2 := blk_frozen BK261.out 2
           have hnb143 := NB239_218.out
           have hnc143 := NB218_239.out
           have hnb144 := NB239_240.out
           have hnc144 := NB240_239.out
           have hnb145 := NB239_248.out
           have hnc145 := NB248_239.out
           have hnb146 := NB239_262.out
           have hnc146 := NB262_239.out
           have hcz147_0 : w131.cell? ⟨gb239, 0, none⟩ = some (.slice Ao26 t227.length co26) := (blk_cell BK239.out 0).trans rfl
           have hcz147_1 : w131.cell? ⟨gb239, 1, none⟩ = some (.int .i64 t230) := (blk_cell BK239.out 1).trans rfl
           have hcz147_2 : w131.cell? ⟨gb239, 2, none⟩ = some (.slice Ao30 t231.length co30) := (blk_cell BK239.out 2).trans rfl
           have hfz147_0 := blk_frozen BK239.out 0
           have hfz147_1 := blk_frozen BK239.out 1
           have hfz147_2 := blk_frozen BK239.out 2
           go_wp2_with (first | (go_at_call 18; (with_reducible refine (laws_eqParty.calls kj14 _ _ t249 t252 _ _ t253 _ _ t227 t230 _ _ t231 true _ ?side1 ?side2 ?side3 ?side4 ?side5 ?side6 ?side7 ?side8 A133.out).mono ?_); (case side1 => exact rc_ (Kd.R_reads' HO_262000.out).2.2); (case side2 => exact (Kd.R_reads' HO_262000.out).2.1); (case side3 => exact rc_ (Kd.R_reads' HO_262002.out).2.2); (case side4 => exact (Kd.R_reads' HO_262002.out).2.1); (case side5 => exact rc_ (Kd.R_reads' HO_240000.out).2.2); (case side6 => exact (Kd.R_reads' HO_240000.out).2.1); (case side7 => exact rc_ (Kd.R_reads' HO_240002.out).2.2); (case side8 => exact (Kd.R_reads' HO_240002.out).2.1); rintro e w148 ⟨rfl, hb⟩; have n0_ := Aside0.mk (Kd.R_below (fr_ HO_240000.out) hb); have n1_ := Aside0.mk (Kd.R_below (fr_ HO_240002.out) hb); have n2_ := Aside0.mk (Kd.R_below (fr_ HO_249000.out) hb); have n3_ := Aside0.mk (Kd.R_below (fr_ HO_249002.out) hb); have n4_ := Aside0.mk (Kd.R_below (fr_ HO_262000.out) hb); have n5_ := Aside0.mk (Kd.R_below (fr_ HO_262002.out) hb); have n6_ := Aside0.mk (Kd.R_below (fr_ HO267.out) hb); have n7_ := Aside0.mk (Kd.R_below (fr_ HO271.out) hb); have n8_ := Aside0.mk (bb_ BK218.out hb); have n9_ := Aside0.mk (bb_ BK239.out hb); have n10_ := Aside0.mk (bb_ BK240.out hb); have n11_ := Aside0.mk (bb_ BK248.out hb); have n12_ := Aside0.mk (bb_ BK261.out hb); have n13_ := Aside0.mk (bb_ BK262.out hb); have n14_ := Aside0.mk (below_step (bel_ HB.out) hb); clear HO_240000; clear HO_240002; clear HO_249000; clear HO_249002; clear HO_262000; clear HO_262002; clear HO267; clear HO271; clear BK218; clear BK239; clear BK240; clear BK248; clear BK261; clear BK262; clear HB; have HO_240000 := n0_; have HO_240002 := n1_; have HO_249000 := n2_; have HO_249002 := n3_; have HO_262000 := n4_; have HO_262002 := n5_; have HO267 := n6_; have HO271 := n7_; have BK218 := n8_; have BK239 := n9_; have BK240 := n10_; have BK248 := n11_; have BK261 := n12_; have BK262 := n13_; have HB := n14_; clear n0_ n1_ n2_ n3_ n4_ n5_ n6_ n7_ n8_ n9_ n10_ n11_ n12_ n13_ n14_; (try clear hb); (try clear hb2); (try clear hk); (try clear hi); have hnb149 := NB262_218.out; have hnc149 := NB218_262.out; have hnb150 := NB262_240.out; have hnc150 := NB240_262.out; have hnb151 := NB262_248.out; have hnc151 := NB248_262.out; have hcz152_0 : w148.cell? ⟨gb262, 0, none⟩ = some (.int .i64 t256) := (blk_cell BK262.out 0).trans rfl; have hcz152_1 : w148.cell? ⟨gb262, 1, none⟩ = some (.int .i64 t257) := (blk_cell BK262.out 1).trans rfl; have hcz152_2 : w148.cell? ⟨gb262, 2, none⟩ = some (.int .i64 t258) := (blk_cell BK262.out 2).trans rfl; have hcz152_3 : w148.cell? ⟨gb262, 3, none⟩ = some (.string t259) := (blk_cell BK262.out 3).trans rfl; have hfz152_0 := blk_frozen BK262.out 0; have hfz152_1 := blk_frozen BK262.out 1; have hfz152_2 := blk_frozen BK262.out 2; have hfz152_3 := blk_frozen BK262.out 3; have hnb153 := NB240_218.out; have hnc153 := NB218_240.out; have hnb154 := NB240_248.out; have hnc154 := NB248_240.out; have hcz155_0 : w148.cell? ⟨gb240, 0, none⟩ = some (.int .i64 t234) := (blk_cell BK240.out 0).trans rfl; have hcz155_1 : w148.cell? ⟨gb240, 1, none⟩ = some (.int .i64 t235) := (blk_cell BK240.out 1).trans rfl; have hcz155_2 : w148.cell? ⟨gb240, 2, none⟩ = some (.int .i64 t236) := (blk_cell BK240.out 2).trans rfl; have hcz155_3 : w148.cell? ⟨gb240, 3, none⟩ = some (.string t237) := (blk_cell BK240.out 3).trans rfl; have hfz155_0 := blk_frozen BK240.out 0; have hfz155_1 := blk_frozen BK240.out 1; have hfz155_2 := blk_frozen BK240.out 2; have hfz155_3 := blk_frozen BK240.out 3) | (go_at_call 20; (with_reducible refine (laws_eqPost.calls t256 t257 t258 t259 t234 t235 t236 t237 true _ A135.out).mono ?_); rintro e w156 ⟨rfl, hb⟩; have n0_ := Aside0.mk (Kd.R_below (fr_ HO_240000.out) hb); have n1_ := Aside0.mk (Kd.R_below (fr_ HO_240002.out) hb); have n2_ := Aside0.mk (Kd.R_below (fr_ HO_249000.out) hb); have n3_ := Aside0.mk (Kd.R_below (fr_ HO_249002.out) hb); have n4_ := Aside0.mk (Kd.R_below (fr_ HO_262000.out) hb); have n5_ := Aside0.mk (Kd.R_below (fr_ HO_262002.out) hb); have n6_ := Aside0.mk (Kd.R_below (fr_ HO267.out) hb); have n7_ := Aside0.mk (Kd.R_below (fr_ HO271.out) hb); have n8_ := Aside0.mk (bb_ BK218.out hb); have n9_ := Aside0.mk (bb_ BK239.out hb); have n10_ := Aside0.mk (bb_ BK240.out hb); have n11_ := Aside0.mk (bb_ BK248.out hb); have n12_ := Aside0.mk (bb_ BK261.out hb); have n13_ := Aside0.mk (bb_ BK262.out hb); have n14_ := Aside0.mk (below_step (bel_ HB.out) hb); clear HO_240000; clear HO_240002; clear HO_249000; clear HO_249002; clear HO_262000; clear HO_262002; clear HO267; clear HO271; clear BK218; clear BK239; clear BK240; clear BK248; clear BK261; clear BK262; clear HB; have HO_240000 := n0_; have HO_240002 := n1_; have HO_249000 := n2_; have HO_249002 := n3_; have HO_262000 := n4_; have HO_262002 := n5_; have HO267 := n6_; have HO271 := n7_; have BK218 := n8_; have BK239 := n9_; have BK240 := n10_; have BK248 := n11_; have BK261 := n12_; have BK262 := n13_; have HB := n14_; clear n0_ n1_ n2_ n3_ n4_ n5_ n6_ n7_ n8_ n9_ n10_ n11_ n12_ n13_ n14_; (try clear hb); (try clear hb2); (try clear hk); (try clear hi)))
           go_meet
           case rel => exact ⟨_, ((t260 != t238)), (by first | rfl | (simp; done) | (simp [*]; done) | (simp [wrap64]; done)), H', ⟨by have := HJ14.out; first | omega | exact Nat.le_refl _⟩, ⟨by (with_reducible repeat (first | apply Kd.R_alloc | apply Kd.R_drewN | apply Kd.R_drew)); exact Kd.R_mono HO_240000.out (fun _ hk => ⟨hk.1, ⟨hk.2.1, ⟨hk.2.2.1, ⟨hk.2.2.2.1, hk.2.2.2.2.1⟩⟩⟩⟩)⟩, ⟨by (with_reducible repeat (first | apply Kd.R_alloc | apply Kd.R_drewN | apply Kd.R_drew)); exact Kd.R_mono HO_240002.out (fun _ hk => ⟨hk.1, ⟨hk.2.1, ⟨hk.2.2.1, ⟨hk.2.2.2.1, hk.2.2.2.2.1⟩⟩⟩⟩)⟩, ⟨by (with_reducible repeat (first | apply Kd.R_alloc | apply Kd.R_drewN | apply Kd.R_drew)); exact Kd.R_mono HO_249000.out (fun _ hk => ⟨hk.1.1.1, ⟨hk.1.1.2.1, ⟨hk.1.1.2.2.1, ⟨hk.1.1.2.2.2.1, hk.1.1.2.2.2.2⟩⟩⟩⟩)⟩, ⟨by (with_reducible repeat (first | apply Kd.R_alloc | apply Kd.R_drewN | apply Kd.R_drew)); exact Kd.R_mono HO_249002.out (fun _ hk => ⟨hk.1.1.1, ⟨hk.1.1.2.1, ⟨hk.1.1.2.2.1, ⟨hk.1.1.2.2.2.1, hk.1.1.2.2.2.2⟩⟩⟩⟩)⟩, ⟨by (with_reducible repeat (first | apply Kd.R_alloc | apply Kd.R_drewN | apply Kd.R_drew)); exact Kd.R_mono HO_262000.out (fun _ hk => ⟨hk.1, ⟨hk.2.1, ⟨hk.2.2.1, ⟨hk.2.2.2.1, hk.2.2.2.2.1⟩⟩⟩⟩)⟩, ⟨by (with_reducible repeat (first | apply Kd.R_alloc | apply Kd.R_drewN | apply Kd.R_drew)); exact Kd.R_mono HO_262002.out (fun _ hk => ⟨hk.1, ⟨hk.2.1, ⟨hk.2.2.1, ⟨hk.2.2.2.1, hk.2.2.2.2.1⟩⟩⟩⟩)⟩, ⟨by refine rp_ ?_; exact BK218.out⟩, ⟨by refine rp_ ?_; exact BK239.out⟩, ⟨by refine rp_ ?_; exact BK240.out⟩, ⟨by refine rp_ ?_; exact BK248.out⟩, ⟨by refine rp_ ?_; exact BK261.out⟩, ⟨by refine rp_ ?_; exact BK262.out⟩, ⟨bel_ HB.out⟩⟩
          ·replace c136 := Bool.eq_false_iff.mpr c136
           subst c136
           have H1 : (laws_FnExactSend21.j1 kj14 a1 a2 t238 true l0_0 a0_1 l0_2 t227 t230 t231 t234 t235 t236 t237 t249 t252 t253) = some r := by rw [if_neg (show ¬ (false = true) by decide)] at H; exact H
           clear H
           have H := H1
           clear H1
           have H' := Aside0.mk H
           clear H
           have hnb157 := NB261_218.out
           have hnc157 := NB218_261.out
           have hnb158 := NB261_239.out
           have hnc158 := NB239_261.out
           have hnb159 := NB261_240.out
           have hnc159 := NB240_261.out
           have hnb160 := NB261_248.out
           have hnc160 := NB248_261.out
           have hnb161 := NB261_262.out
           have hnc161 := NB262_261.out
           have hcz162_0 : w131.cell? ⟨gb261, 0, none⟩ = some (.slice Ao45 t249.length co45) := (blk_cell BK261.out 0).trans rfl
           have hcz162_1 : w131.cell? ⟨gb261, 1, none⟩ = some (.int .i64 t252) := (blk_cell BK261.out 1).trans rfl
           have hcz162_2 : w131.cell? ⟨gb261, 2, none⟩ = some (.slice Ao52 t253.length co52) := (blk_cell BK261.out 2).trans rfl
           have hfz162_0 := blk_frozen BK261.out 0
           have hfz162_1 := blk_frozen BK261.out 1
           have hfz162_2 := blk_frozen BK261.out 2
           have hnb163 := NB239_218.out
           have hnc163 := NB218_239.out
           have hnb164 := NB239_240.out
           have hnc164 := NB240_239.out
           have hnb165 := NB239_248.out
           have hnc165 := NB248_239.out
           have hnb166 := NB239_262.out
           have hnc166 := NB262_239.out
           have hcz167_0 : w131.cell? ⟨gb239, 0, none⟩ = some (.slice Ao26 t227.length co26) := (blk_cell BK239.out 0).trans rfl
           have hcz167_1 : w131.cell? ⟨gb239, 1, none⟩ = some (.int .i64 t230) := (blk_cell BK239.out 1).trans rfl
           have hcz167_2 : w131.cell? ⟨gb239, 2, none⟩ = some (.slice Ao30 t231.length co30) := (blk_cell BK239.out 2).trans rfl
           have hfz167_0 := blk_frozen BK239.out 0
           have hfz167_1 := blk_frozen BK239.out 1
           have hfz167_2 := blk_frozen BK239.out 2
           go_wp2_with (first | (go_at_call 18; (with_reducible refine (laws_eqParty.calls kj14 _ _ t249 t252 _ _ t253 _ _ t227 t230 _ _ t231 true _ ?side1 ?side2 ?side3 ?side4 ?side5 ?side6 ?side7 ?side8 A133.out).mono ?_); (case side1 => exact rc_ (Kd.R_reads' HO_262000.out).2.2); (case side2 => exact (Kd.R_reads' HO_262000.out).2.1); (case side3 => exact rc_ (Kd.R_reads' HO_262002.out).2.2); (case side4 => exact (Kd.R_reads' HO_262002.out).2.1); (case side5 => exact rc_ (Kd.R_reads' HO_240000.out).2.2); (case side6 => exact (Kd.R_reads' HO_240000.out).2.1); (case side7 => exact rc_ (Kd.R_reads' HO_240002.out).2.2); (case side8 => exact (Kd.R_reads' HO_240002.out).2.1); rintro e w168 ⟨rfl, hb⟩; have n0_ := Aside0.mk (Kd.R_below (fr_ HO_240000.out) hb); have n1_ := Aside0.mk (Kd.R_below (fr_ HO_240002.out) hb); have n2_ := Aside0.mk (Kd.R_below (fr_ HO_249000.out) hb); have n3_ := Aside0.mk (Kd.R_below (fr_ HO_249002.out) hb); have n4_ := Aside0.mk (Kd.R_below (fr_ HO_262000.out) hb); have n5_ := Aside0.mk (Kd.R_below (fr_ HO_262002.out) hb); have n6_ := Aside0.mk (Kd.R_below (fr_ HO267.out) hb); have n7_ := Aside0.mk (Kd.R_below (fr_ HO271.out) hb); have n8_ := Aside0.mk (bb_ BK218.out hb); have n9_ := Aside0.mk (bb_ BK239.out hb); have n10_ := Aside0.mk (bb_ BK240.out hb); have n11_ := Aside0.mk (bb_ BK248.out hb); have n12_ := Aside0.mk (bb_ BK261.out hb); have n13_ := Aside0.mk (bb_ BK262.out hb); have n14_ := Aside0.mk (below_step (bel_ HB.out) hb); clear HO_240000; clear HO_240002; clear HO_249000; clear HO_249002; clear HO_262000; clear HO_262002; clear HO267; clear HO271; clear BK218; clear BK239; clear BK240; clear BK248; clear BK261; clear BK262; clear HB; have HO_240000 := n0_; have HO_240002 := n1_; have HO_249000 := n2_; have HO_249002 := n3_; have HO_262000 := n4_; have HO_262002 := n5_; have HO267 := n6_; have HO271 := n7_; have BK218 := n8_; have BK239 := n9_; have BK240 := n10_; have BK248 := n11_; have BK261 := n12_; have BK262 := n13_; have HB := n14_; clear n0_ n1_ n2_ n3_ n4_ n5_ n6_ n7_ n8_ n9_ n10_ n11_ n12_ n13_ n14_; (try clear hb); (try clear hb2); (try clear hk); (try clear hi); have hnb169 := NB262_218.out; have hnc169 := NB218_262.out; have hnb170 := NB262_240.out; have hnc170 := NB240_262.out; have hnb171 := NB262_248.out; have hnc171 := NB248_262.out; have hcz172_0 : w168.cell? ⟨gb262, 0, none⟩ = some (.int .i64 t256) := (blk_cell BK262.out 0).trans rfl; have hcz172_1 : w168.cell? ⟨gb262, 1, none⟩ = some (.int .i64 t257) := (blk_cell BK262.out 1).trans rfl; have hcz172_2 : w168.cell? ⟨gb262, 2, none⟩ = some (.int .i64 t258) := (blk_cell BK262.out 2).trans rfl; have hcz172_3 : w168.cell? ⟨gb262, 3, none⟩ = some (.string t259) := (blk_cell BK262.out 3).trans rfl; have hfz172_0 := blk_frozen BK262.out 0; have hfz172_1 := blk_frozen BK262.out 1; have hfz172_2 := blk_frozen BK262.out 2; have hfz172_3 := blk_frozen BK262.out 3; have hnb173 := NB240_218.out; have hnc173 := NB218_240.out; have hnb174 := NB240_248.out; have hnc174 := NB248_240.out; have hcz175_0 : w168.cell? ⟨gb240, 0, none⟩ = some (.int .i64 t234) := (blk_cell BK240.out 0).trans rfl; have hcz175_1 : w168.cell? ⟨gb240, 1, none⟩ = some (.int .i64 t235) := (blk_cell BK240.out 1).trans rfl; have hcz175_2 : w168.cell? ⟨gb240, 2, none⟩ = some (.int .i64 t236) := (blk_cell BK240.out 2).trans rfl; have hcz175_3 : w168.cell? ⟨gb240, 3, none⟩ = some (.string t237) := (blk_cell BK240.out 3).trans rfl; have hfz175_0 := blk_frozen BK240.out 0; have hfz175_1 := blk_frozen BK240.out 1; have hfz175_2 := blk_frozen BK240.out 2; have hfz175_3 := blk_frozen BK240.out 3) | (go_at_call 20; (with_reducible refine (laws_eqPost.calls t256 t257 t258 t259 t234 t235 t236 t237 false _ A135.out).mono ?_); rintro e w176 ⟨rfl, hb⟩; have n0_ := Aside0.mk (Kd.R_below (fr_ HO_240000.out) hb); have n1_ := Aside0.mk (Kd.R_below (fr_ HO_240002.out) hb); have n2_ := Aside0.mk (Kd.R_below (fr_ HO_249000.out) hb); have n3_ := Aside0.mk (Kd.R_below (fr_ HO_249002.out) hb); have n4_ := Aside0.mk (Kd.R_below (fr_ HO_262000.out) hb); have n5_ := Aside0.mk (Kd.R_below (fr_ HO_262002.out) hb); have n6_ := Aside0.mk (Kd.R_below (fr_ HO267.out) hb); have n7_ := Aside0.mk (Kd.R_below (fr_ HO271.out) hb); have n8_ := Aside0.mk (bb_ BK218.out hb); have n9_ := Aside0.mk (bb_ BK239.out hb); have n10_ := Aside0.mk (bb_ BK240.out hb); have n11_ := Aside0.mk (bb_ BK248.out hb); have n12_ := Aside0.mk (bb_ BK261.out hb); have n13_ := Aside0.mk (bb_ BK262.out hb); have n14_ := Aside0.mk (below_step (bel_ HB.out) hb); clear HO_240000; clear HO_240002; clear HO_249000; clear HO_249002; clear HO_262000; clear HO_262002; clear HO267; clear HO271; clear BK218; clear BK239; clear BK240; clear BK248; clear BK261; clear BK262; clear HB; have HO_240000 := n0_; have HO_240002 := n1_; have HO_249000 := n2_; have HO_249002 := n3_; have HO_262000 := n4_; have HO_262002 := n5_; have HO267 := n6_; have HO271 := n7_; have BK218 := n8_; have BK239 := n9_; have BK240 := n10_; have BK248 := n11_; have BK261 := n12_; have BK262 := n13_; have HB := n14_; clear n0_ n1_ n2_ n3_ n4_ n5_ n6_ n7_ n8_ n9_ n10_ n11_ n12_ n13_ n14_; (try clear hb); (try clear hb2); (try clear hk); (try clear hi)))
           go_meet
           case rel => exact ⟨_, (true), (by first | rfl | (simp; done) | (simp [*]; done) | (simp [wrap64]; done)), H', ⟨by have := HJ14.out; first | omega | exact Nat.le_refl _⟩, ⟨by (with_reducible repeat (first | apply Kd.R_alloc | apply Kd.R_drewN | apply Kd.R_drew)); exact Kd.R_mono HO_240000.out (fun _ hk => ⟨hk.1, ⟨hk.2.1, ⟨hk.2.2.1, ⟨hk.2.2.2.1, hk.2.2.2.2.1⟩⟩⟩⟩)⟩, ⟨by (with_reducible repeat (first | apply Kd.R_alloc | apply Kd.R_drewN | apply Kd.R_drew)); exact Kd.R_mono HO_240002.out (fun _ hk => ⟨hk.1, ⟨hk.2.1, ⟨hk.2.2.1, ⟨hk.2.2.2.1, hk.2.2.2.2.1⟩⟩⟩⟩)⟩, ⟨by (with_reducible repeat (first | apply Kd.R_alloc | apply Kd.R_drewN | apply Kd.R_drew)); exact Kd.R_mono HO_249000.out (fun _ hk => ⟨hk.1.1.1, ⟨hk.1.1.2.1, ⟨hk.1.1.2.2.1, ⟨hk.1.1.2.2.2.1, hk.1.1.2.2.2.2⟩⟩⟩⟩)⟩, ⟨by (with_reducible repeat (first | apply Kd.R_alloc | apply Kd.R_drewN | apply Kd.R_drew)); exact Kd.R_mono HO_249002.out (fun _ hk => ⟨hk.1.1.1, ⟨hk.1.1.2.1, ⟨hk.1.1.2.2.1, ⟨hk.1.1.2.2.2.1, hk.1.1.2.2.2.2⟩⟩⟩⟩)⟩, ⟨by (with_reducible repeat (first | apply Kd.R_alloc | apply Kd.R_drewN | apply Kd.R_drew)); exact Kd.R_mono HO_262000.out (fun _ hk => ⟨hk.1, ⟨hk.2.1, ⟨hk.2.2.1, ⟨hk.2.2.2.1, hk.2.2.2.2.1⟩⟩⟩⟩)⟩, ⟨by (with_reducible repeat (first | apply Kd.R_alloc | apply Kd.R_drewN | apply Kd.R_drew)); exact Kd.R_mono HO_262002.out (fun _ hk => ⟨hk.1, ⟨hk.2.1, ⟨hk.2.2.1, ⟨hk.2.2.2.1, hk.2.2.2.2.1⟩⟩⟩⟩)⟩, ⟨by refine rp_ ?_; exact BK218.out⟩, ⟨by refine rp_ ?_; exact BK239.out⟩, ⟨by refine rp_ ?_; exact BK240.out⟩, ⟨by refine rp_ ?_; exact BK248.out⟩, ⟨by refine rp_ ?_; exact BK261.out⟩, ⟨by refine rp_ ?_; exact BK262.out⟩, ⟨bel_ HB.out⟩⟩
         ·replace c134 := Bool.eq_false_iff.mpr c134
          subst c134
          have H1 : (laws_FnExactSend21.j1 kj14 a1 a2 t238 true l0_0 a0_1 l0_2 t227 t230 t231 t234 t235 t236 t237 t249 t252 t253) = some r := by rw [if_neg (show ¬ (false = true) by decide)] at H; exact H
          clear H
          have H := H1
          clear H1
          have H' := Aside0.mk H
          clear H
          have hnb177 := NB261_218.out
          have hnc177 := NB218_261.out
          have hnb178 := NB261_239.out
          have hnc178 := NB239_261.out
          have hnb179 := NB261_240.out
          have hnc179 := NB240_261.out
          have hnb180 := NB261_248.out
          have hnc180 := NB248_261.out
          have hnb181 := NB261_262.out
          have hnc181 := NB262_261.out
          have hcz182_0 : w131.cell? ⟨gb261, 0, none⟩ = some (.slice Ao45 t249.length co45) := (blk_cell BK261.out 0).trans rfl
          have hcz182_1 : w131.cell? ⟨gb261, 1, none⟩ = some (.int .i64 t252) := (blk_cell BK261.out 1).trans rfl
          have hcz182_2 : w131.cell? ⟨gb261, 2, none⟩ = some (.slice Ao52 t253.length co52) := (blk_cell BK261.out 2).trans rfl
          have hfz182_0 := blk_frozen BK261.out 0
          have hfz182_1 := blk_frozen BK261.out 1
          have hfz182_2 := blk_frozen BK261.out 2
          have hnb183 := NB239_218.out
          have hnc183 := NB218_239.out
          have hnb184 := NB239_240.out
          have hnc184 := NB240_239.out
          have hnb185 := NB239_248.out
          have hnc185 := NB248_239.out
          have hnb186 := NB239_262.out
          have hnc186 := NB262_239.out
          have hcz187_0 : w131.cell? ⟨gb239, 0, none⟩ = some (.slice Ao26 t227.length co26) := (blk_cell BK239.out 0).trans rfl
          have hcz187_1 : w131.cell? ⟨gb239, 1, none⟩ = some (.int .i64 t230) := (blk_cell BK239.out 1).trans rfl
          have hcz187_2 : w131.cell? ⟨gb239, 2, none⟩ = some (.slice Ao30 t231.length co30) := (blk_cell BK239.out 2).trans rfl
          have hfz187_0 := blk_frozen BK239.out 0
          have hfz187_1 := blk_frozen BK239.out 1
          have hfz187_2 := blk_frozen BK239.out 2
          go_wp2_with (first | (go_at_call 18; (with_reducible refine (laws_eqParty.calls kj14 _ _ t249 t252 _ _ t253 _ _ t227 t230 _ _ t231 false _ ?side1 ?side2 ?side3 ?side4 ?side5 ?side6 ?side7 ?side8 A133.out).mono ?_); (case side1 => exact rc_ (Kd.R_reads' HO_262000.out).2.2); (case side2 => exact (Kd.R_reads' HO_262000.out).2.1); (case side3 => exact rc_ (Kd.R_reads' HO_262002.out).2.2); (case side4 => exact (Kd.R_reads' HO_262002.out).2.1); (case side5 => exact rc_ (Kd.R_reads' HO_240000.out).2.2); (case side6 => exact (Kd.R_reads' HO_240000.out).2.1); (case side7 => exact rc_ (Kd.R_reads' HO_240002.out).2.2); (case side8 => exact (Kd.R_reads' HO_240002.out).2.1); rintro e w188 ⟨rfl, hb⟩; have n0_ := Aside0.mk (Kd.R_below (fr_ HO_240000.out) hb); have n1_ := Aside0.mk (Kd.R_below (fr_ HO_240002.out) hb); have n2_ := Aside0.mk (Kd.R_below (fr_ HO_249000.out) hb); have n3_ := Aside0.mk (Kd.R_below (fr_ HO_249002.out) hb); have n4_ := Aside0.mk (Kd.R_below (fr_ HO_262000.out) hb); have n5_ := Aside0.mk (Kd.R_below (fr_ HO_262002.out) hb); have n6_ := Aside0.mk (Kd.R_below (fr_ HO267.out) hb); have n7_ := Aside0.mk (Kd.R_below (fr_ HO271.out) hb); have n8_ := Aside0.mk (bb_ BK218.out hb); have n9_ := Aside0.mk (bb_ BK239.out hb); have n10_ := Aside0.mk (bb_ BK240.out hb); have n11_ := Aside0.mk (bb_ BK248.out hb); have n12_ := Aside0.mk (bb_ BK261.out hb); have n13_ := Aside0.mk (bb_ BK262.out hb); have n14_ := Aside0.mk (below_step (bel_ HB.out) hb); clear HO_240000; clear HO_240002; clear HO_249000; clear HO_249002; clear HO_262000; clear HO_262002; clear HO267; clear HO271; clear BK218; clear BK239; clear BK240; clear BK248; clear BK261; clear BK262; clear HB; have HO_240000 := n0_; have HO_240002 := n1_; have HO_249000 := n2_; have HO_249002 := n3_; have HO_262000 := n4_; have HO_262002 := n5_; have HO267 := n6_; have HO271 := n7_; have BK218 := n8_; have BK239 := n9_; have BK240 := n10_; have BK248 := n11_; have BK261 := n12_; have BK262 := n13_; have HB := n14_; clear n0_ n1_ n2_ n3_ n4_ n5_ n6_ n7_ n8_ n9_ n10_ n11_ n12_ n13_ n14_; (try clear hb); (try clear hb2); (try clear hk); (try clear hi)))
          go_meet
          case rel => exact ⟨_, (true), (by first | rfl | (simp; done) | (simp [*]; done) | (simp [wrap64]; done)), H', ⟨by have := HJ14.out; first | omega | exact Nat.le_refl _⟩, ⟨by (with_reducible repeat (first | apply Kd.R_alloc | apply Kd.R_drewN | apply Kd.R_drew)); exact Kd.R_mono HO_240000.out (fun _ hk => ⟨hk.1, ⟨hk.2.1, ⟨hk.2.2.1, ⟨hk.2.2.2.1, hk.2.2.2.2.1⟩⟩⟩⟩)⟩, ⟨by (with_reducible repeat (first | apply Kd.R_alloc | apply Kd.R_drewN | apply Kd.R_drew)); exact Kd.R_mono HO_240002.out (fun _ hk => ⟨hk.1, ⟨hk.2.1, ⟨hk.2.2.1, ⟨hk.2.2.2.1, hk.2.2.2.2.1⟩⟩⟩⟩)⟩, ⟨by (with_reducible repeat (first | apply Kd.R_alloc | apply Kd.R_drewN | apply Kd.R_drew)); exact Kd.R_mono HO_249000.out (fun _ hk => ⟨hk.1.1.1, ⟨hk.1.1.2.1, ⟨hk.1.1.2.2.1, ⟨hk.1.1.2.2.2.1, hk.1.1.2.2.2.2⟩⟩⟩⟩)⟩, ⟨by (with_reducible repeat (first | apply Kd.R_alloc | apply Kd.R_drewN | apply Kd.R_drew)); exact Kd.R_mono HO_249002.out (fun _ hk => ⟨hk.1.1.1, ⟨hk.1.1.2.1, ⟨hk.1.1.2.2.1, ⟨hk.1.1.2.2.2.1, hk.1.1.2.2.2.2⟩⟩⟩⟩)⟩, ⟨by (with_reducible repeat (first | apply Kd.R_alloc | apply Kd.R_drewN | apply Kd.R_drew)); exact Kd.R_mono HO_262000.out (fun _ hk => ⟨hk.1, ⟨hk.2.1, ⟨hk.2.2.1, ⟨hk.2.2.2.1, hk.2.2.2.2.1⟩⟩⟩⟩)⟩, ⟨by (with_reducible repeat (first | apply Kd.R_alloc | apply Kd.R_drewN | apply Kd.R_drew)); exact Kd.R_mono HO_262002.out (fun _ hk => ⟨hk.1, ⟨hk.2.1, ⟨hk.2.2.1, ⟨hk.2.2.2.1, hk.2.2.2.2.1⟩⟩⟩⟩)⟩, ⟨by refine rp_ ?_; exact BK218.out⟩, ⟨by refine rp_ ?_; exact BK239.out⟩, ⟨by refine rp_ ?_; exact BK240.out⟩, ⟨by refine rp_ ?_; exact BK248.out⟩, ⟨by refine rp_ ?_; exact BK261.out⟩, ⟨by refine rp_ ?_; exact BK262.out⟩, ⟨bel_ HB.out⟩⟩
       case rest =>
        clear HC119
        try clear c7
        try clear c114
        try clear c117
        try clear hcz130_0
        try clear hcz130_1
        try clear hcz130_2
        try clear hcz17_0
        try clear hcz17_1
        try clear hcz17_2
        try clear hcz19_0
        try clear hcz19_1
        try clear hcz19_2
        try clear hcz29_0
        try clear hcz29_1
        try clear hcz29_2
        try clear hcz32_0
        try clear hcz32_1
        try clear hcz32_2
        try clear hcz32_3
        try clear hcz33_0
        try clear hcz33_1
        try clear hcz33_2
        try clear hcz40_0
        try clear hcz40_1
        try clear hcz40_2
        try clear hcz51_0
        try clear hcz51_1
        try clear hcz51_2
        try clear hcz57_0
        try clear hcz57_1
        try clear hcz57_2
        try clear hcz57_3
        try clear hfz130_0
        try clear hfz130_1
        try clear hfz130_2
        try clear hfz17_0
        try clear hfz17_1
        try clear hfz17_2
        try clear hfz19_0
        try clear hfz19_1
        try clear hfz19_2
        try clear hfz29_0
        try clear hfz29_1
        try clear hfz29_2
        try clear hfz32_0
        try clear hfz32_1
        try clear hfz32_2
        try clear hfz32_3
        try clear hfz33_0
        try clear hfz33_1
        try clear hfz33_2
        try clear hfz40_0
        try clear hfz40_1
        try clear hfz40_2
        try clear hfz51_0
        try clear hfz51_1
        try clear hfz51_2
        try clear hfz57_0
        try clear hfz57_1
        try clear hfz57_2
        try clear hfz57_3
        obtain ⟨kq, x89_118, rfl, HA, HJ118, HO_240000, HO_240002, HO_249000, HO_249002, HO_262000, HO_262002, BK218, BK239, BK240, BK248, BK261, BK262, HB⟩ := hcut
        have hl249000_118 := (Kd.R_reads' HO_249000.out).1
        rw [hl249000_118] at HO_249000
        (try simp only [hl249000_118])
        (try simp only [hl249000_118] at BK218)
        (try simp only [hl249000_118] at BK239)
        (try simp only [hl249000_118] at BK240)
        (try simp only [hl249000_118] at BK248)
        (try simp only [hl249000_118] at BK261)
        (try simp only [hl249000_118] at BK262)
        (try simp only [hl249000_118] at HO_240000)
        (try simp only [hl249000_118] at HO_240002)
        (try simp only [hl249000_118] at HO_249002)
        (try simp only [hl249000_118] at HO_262000)
        (try simp only [hl249000_118] at HO_262002)
        have hl249002_118 := (Kd.R_reads' HO_249002.out).1
        rw [hl249002_118] at HO_249002
        (try simp only [hl249002_118])
        (try simp only [hl249002_118] at BK218)
        (try simp only [hl249002_118] at BK239)
        (try simp only [hl249002_118] at BK240)
        (try simp only [hl249002_118] at BK248)
        (try simp only [hl249002_118] at BK261)
        (try simp only [hl249002_118] at BK262)
        (try simp only [hl249002_118] at HO_240000)
        (try simp only [hl249002_118] at HO_240002)
        (try simp only [hl249002_118] at HO_249000)
        (try simp only [hl249002_118] at HO_262000)
        (try simp only [hl249002_118] at HO_262002)
        cases kq with
        | zero => exact absurd HA.out (by simp [laws_FnExactSend21.j1])
        | succ kj118 =>
         have H := HA.out
         clear HA
         simp only [laws_FnExactSend21.j1] at H
         by_cases c189 : x89_118 = true
         ·subst c189
          have H1 : (some false) = some r := by rw [if_pos rfl] at H; exact H
          clear H
          have H := H1
          clear H1
          obtain rfl := Option.some.inj H
          go_wp2
          go_ret
          exact ⟨by first | rfl | (simp [errW_none, errW_some] <;> rfl) | (simp [*, errW_none, errW_some] <;> rfl), bel_ HB.out⟩
         ·replace c189 := Bool.eq_false_iff.mpr c189
          subst c189
          have H1 : ((laws_markParty.f kj118 t249 t252 t253 1).bind fun bt278 => ((laws_heldParty.f kj118 bt278.2.1 t252 bt278.2.2 1).bind fun t281 => (if t281 < 0 then (some false) else (if t281 = bt278.1 then ((laws_toParty.f kj118 l0_0 a0_1 l0_2).bind fun bt282 => ((impl_Send21.f kj118 bt282.1 bt282.2.1 bt282.2.2 a1 a2).bind fun bt289 => ((laws_eqParty.f kj118 bt289.1 bt289.2.1 bt289.2.2.1 t227 t230 t231).bind fun t303 => (if t303 = true then ((laws_eqPost.f bt289.2.2.2.1 bt289.2.2.2.2.1 bt289.2.2.2.2.2.1 bt289.2.2.2.2.2.2.1 t234 t235 t236 t237).bind fun t304 => (if t304 = true then (laws_FnExactSend21.j2 kj118 bt278.1 (bt289.2.2.2.2.2.2.2 != t238) bt278.2.1 t252 bt278.2.2) else (laws_FnExactSend21.j2 kj118 bt278.1 true bt278.2.1 t252 bt278.2.2))) else (laws_FnExactSend21.j2 kj118 bt278.1 true bt278.2.1 t252 bt278.2.2))))) else (some false))))) = some r := by rw [if_neg (show ¬ (false = true) by decide)] at H; exact H
          clear H
          have H := H1
          clear H1
          replace H := Option.bind_eq_some_iff.mp H
          obtain ⟨⟨t278, t279, t280⟩, A1900, H⟩ := H
          replace H : ((laws_heldParty.f kj118 t279 t252 t280 1).bind fun t281 => (if t281 < 0 then (some false) else (if t281 = t278 then ((laws_toParty.f kj118 l0_0 a0_1 l0_2).bind fun bt282 => ((impl_Send21.f kj118 bt282.1 bt282.2.1 bt282.2.2 a1 a2).bind fun bt289 => ((laws_eqParty.f kj118 bt289.1 bt289.2.1 bt289.2.2.1 t227 t230 t231).bind fun t303 => (if t303 = true then ((laws_eqPost.f bt289.2.2.2.1 bt289.2.2.2.2.1 bt289.2.2.2.2.2.1 bt289.2.2.2.2.2.2.1 t234 t235 t236 t237).bind fun t304 => (if t304 = true then (laws_FnExactSend21.j2 kj118 t278 (bt289.2.2.2.2.2.2.2 != t238) t279 t252 t280) else (laws_FnExactSend21.j2 kj118 t278 true t279 t252 t280))) else (laws_FnExactSend21.j2 kj118 t278 true t279 t252 t280))))) else (some false)))) = some r := H
          have A190 := Aside0.mk A1900
          clear A1900
          replace H := Option.bind_eq_some_iff.mp H
          obtain ⟨t281, A1910, H⟩ := H
          replace H : (if t281 < 0 then (some false) else (if t281 = t278 then ((laws_toParty.f kj118 l0_0 a0_1 l0_2).bind fun bt282 => ((impl_Send21.f kj118 bt282.1 bt282.2.1 bt282.2.2 a1 a2).bind fun bt289 => ((laws_eqParty.f kj118 bt289.1 bt289.2.1 bt289.2.2.1 t227 t230 t231).bind fun t303 => (if t303 = true then ((laws_eqPost.f bt289.2.2.2.1 bt289.2.2.2.2.1 bt289.2.2.2.2.2.1 bt289.2.2.2.2.2.2.1 t234 t235 t236 t237).bind fun t304 => (if t304 = true then (laws_FnExactSend21.j2 kj118 t278 (bt289.2.2.2.2.2.2.2 != t238) t279 t252 t280) else (laws_FnExactSend21.j2 kj118 t278 true t279 t252 t280))) else (laws_FnExactSend21.j2 kj118 t278 true t279 t252 t280))))) else (some false))) = some r := H
          have A191 := Aside0.mk A1910
          clear A1910
          by_cases c192 : t281 < 0
          ·rw [if_pos c192] at H
           have c192b0 : decide (t281 < 0) = true := decide_eq_true c192
           clear c192
           obtain rfl := Option.some.inj H
           have hnb193 := NB261_218.out
           have hnc193 := NB218_261.out
           have hnb194 := NB261_239.out
           have hnc194 := NB239_261.out
           have hnb195 := NB261_240.out
           have hnc195 := NB240_261.out
           have hnb196 := NB261_248.out
           have hnc196 := NB248_261.out
           have hnb197 := NB261_262.out
           have hnc197 := NB262_261.out
           have hcz198_0 : wc.cell? ⟨gb261, 0, none⟩ = some (.slice Ao45 t249.length co45) := (blk_cell BK261.out 0).trans rfl
           have hcz198_1 : wc.cell? ⟨gb261, 1, none⟩ = some (.int .i64 t252) := (blk_cell BK261.out 1).trans rfl
           have hcz198_2 : wc.cell? ⟨gb261, 2, none⟩ = some (.slice Ao52 t253.length co52) := (blk_cell BK261.out 2).trans rfl
           have hfz198_0 := blk_frozen BK261.out 0
           have hfz198_1 := blk_frozen BK261.out 1
           have hfz198_2 := blk_frozen BK261.out 2
           go_wp2_with (first | ((with_reducible refine gate_callee (f := 21) rfl ?_); refine goesL_ (some 92) rfl rfl Try.func21 (by kernel_rfl) rfl #[.agg #[.slice Ao45 t249.length co45, .int .i64 t252, .slice Ao52 t253.length co52], .int .i64 1] rfl ml_ ?_; (with_reducible refine (laws_markParty.calls kj118 (fun k_ => some k_ = (.slice Ao45 t249.length co45 : Value).ownBlock) (.slice Ao45 t249.length co45) t249 t252 (fun k_ => some k_ = (.slice Ao52 t253.length co52 : Value).ownBlock) (.slice Ao52 t253.length co52) t253 1 t278 t279 t280 w _ ?side1 ?side2 ?side3 ?side4 ?side5 A190.out).mono ?_); (case side1 => repeat (first | (with_reducible first | exact HB.out | apply below_alloc | apply pw_below_drewN | apply below_drew1 | refine below_set ?_ GE218.out | refine below_set ?_ GE239.out | refine below_set ?_ GE240.out | refine below_set ?_ GE248.out | refine below_set ?_ GE261.out | refine below_set ?_ GE262.out) | exact HB.out)); (case side2 => exact Kd.R_tight rfl HO_262000.out); (case side3 => exact fun k_ e_ => (HO_262000.out.1 k_ e_.symm).2.2.2.2); (case side4 => exact Kd.R_tight rfl HO_262002.out); (case side5 => exact fun k_ e_ => (HO_262002.out.1 k_ e_.symm).2.2.2.2); rintro e w199 ⟨rfl, hy0, hy1, hb, hkp⟩; refine ⟨_, rfl, ?_⟩; have n0_ := Aside0.mk (Kd.R_mono (ok' := fun k_ => some k_ ≠ (.slice Ao30 t231.length co30 : Value).ownBlock ∧ some k_ ≠ (.slice Ao36 t274.length co36 : Value).ownBlock ∧ some k_ ≠ (.slice Ao41 t275.length co41 : Value).ownBlock ∧ some k_ ≠ (.slice Ao45 t249.length co45 : Value).ownBlock ∧ some k_ ≠ (.slice Ao52 t253.length co52 : Value).ownBlock) (Kd.R_keptB (HO_240000.out) hkp (fun k_ hk_ hs_ => Or.elim hs_ (fun e_ => (hk_.2.2.2.1) e_) (fun e_ => (hk_.2.2.2.2) e_))) (fun k_ hk_ => ⟨hk_.1.1, hk_.1.2.1, hk_.1.2.2.1, hk_.1.2.2.2.1, hk_.1.2.2.2.2⟩)); have n1_ := Aside0.mk (Kd.R_mono (ok' := fun k_ => some k_ ≠ (.slice Ao26 t227.length co26 : Value).ownBlock ∧ some k_ ≠ (.slice Ao36 t274.length co36 : Value).ownBlock ∧ some k_ ≠ (.slice Ao41 t275.length co41 : Value).ownBlock ∧ some k_ ≠ (.slice Ao45 t249.length co45 : Value).ownBlock ∧ some k_ ≠ (.slice Ao52 t253.length co52 : Value).ownBlock) (Kd.R_keptB (HO_240002.out) hkp (fun k_ hk_ hs_ => Or.elim hs_ (fun e_ => (hk_.2.2.2.1) e_) (fun e_ => (hk_.2.2.2.2) e_))) (fun k_ hk_ => ⟨hk_.1.1, hk_.1.2.1, hk_.1.2.2.1, hk_.1.2.2.2.1, hk_.1.2.2.2.2⟩)); have n2_ := Aside0.mk (Kd.R_mono (ok' := fun k_ => some k_ ≠ (.slice Ao26 t227.length co26 : Value).ownBlock ∧ some k_ ≠ (.slice Ao30 t231.length co30 : Value).ownBlock ∧ some k_ ≠ (.slice Ao41 t275.length co41 : Value).ownBlock ∧ some k_ ≠ (.slice Ao45 t249.length co45 : Value).ownBlock ∧ some k_ ≠ (.slice Ao52 t253.length co52 : Value).ownBlock) (Kd.R_keptB (HO_249000.out) hkp (fun k_ hk_ hs_ => Or.elim hs_ (fun e_ => (hk_.2.2.2.1) e_) (fun e_ => (hk_.2.2.2.2) e_))) (fun k_ hk_ => ⟨hk_.1.1, hk_.1.2.1, hk_.1.2.2.1, hk_.1.2.2.2.1, hk_.1.2.2.2.2⟩)); have n3_ := Aside0.mk (Kd.R_mono (ok' := fun k_ => some k_ ≠ (.slice Ao26 t227.length co26 : Value).ownBlock ∧ some k_ ≠ (.slice Ao30 t231.length co30 : Value).ownBlock ∧ some k_ ≠ (.slice Ao36 t274.length co36 : Value).ownBlock ∧ some k_ ≠ (.slice Ao45 t249.length co45 : Value).ownBlock ∧ some k_ ≠ (.slice Ao52 t253.length co52 : Value).ownBlock) (Kd.R_keptB (HO_249002.out) hkp (fun k_ hk_ hs_ => Or.elim hs_ (fun e_ => (hk_.2.2.2.1) e_) (fun e_ => (hk_.2.2.2.2) e_))) (fun k_ hk_ => ⟨hk_.1.1, hk_.1.2.1, hk_.1.2.2.1, hk_.1.2.2.2.1, hk_.1.2.2.2.2⟩)); have n4_ := Aside0.mk (Kd.R_reok rfl hy0 (fun k_ e_ => HO_262000.out.1 k_ e_)); have n5_ := Aside0.mk (Kd.R_reok rfl hy1 (fun k_ e_ => HO_262002.out.1 k_ e_)); have n6_ := Aside0.mk (blk_kept (fb_ BK218.out) hkp (fun hs_ => Or.elim hs_ (fun e_ => (fun e_ => (Kd.R_ne HO_262000.out BK218.out (by decide)) e_) e_) (fun e_ => (fun e_ => (Kd.R_ne HO_262002.out BK218.out (by decide)) e_) e_))); have n7_ := Aside0.mk (blk_kept (fb_ BK239.out) hkp (fun hs_ => Or.elim hs_ (fun e_ => (fun e_ => (Kd.R_ne HO_262000.out BK239.out (by decide)) e_) e_) (fun e_ => (fun e_ => (Kd.R_ne HO_262002.out BK239.out (by decide)) e_) e_))); have n8_ := Aside0.mk (blk_kept (fb_ BK240.out) hkp (fun hs_ => Or.elim hs_ (fun e_ => (fun e_ => (Kd.R_ne HO_262000.out BK240.out (by decide)) e_) e_) (fun e_ => (fun e_ => (Kd.R_ne HO_262002.out BK240.out (by decide)) e_) e_))); have n9_ := Aside0.mk (blk_kept (fb_ BK248.out) hkp (fun hs_ => Or.elim hs_ (fun e_ => (fun e_ => (Kd.R_ne HO_262000.out BK248.out (by decide)) e_) e_) (fun e_ => (fun e_ => (Kd.R_ne HO_262002.out BK248.out (by decide)) e_) e_))); have n10_ := Aside0.mk (blk_kept (fb_ BK261.out) hkp (fun hs_ => Or.elim hs_ (fun e_ => (fun e_ => (Kd.R_ne HO_262000.out BK261.out (by decide)) e_) e_) (fun e_ => (fun e_ => (Kd.R_ne HO_262002.out BK261.out (by decide)) e_) e_))); have n11_ := Aside0.mk (blk_kept (fb_ BK262.out) hkp (fun hs_ => Or.elim hs_ (fun e_ => (fun e_ => (Kd.R_ne HO_262000.out BK262.out (by decide)) e_) e_) (fun e_ => (fun e_ => (Kd.R_ne HO_262002.out BK262.out (by decide)) e_) e_))); have n12_ := Aside0.mk (hb); clear HO_240000; clear HO_240002; clear HO_249000; clear HO_249002; clear HO_262000; clear HO_262002; clear BK218; clear BK239; clear BK240; clear BK248; clear BK261; clear BK262; clear HB; have HO_240000 := n0_; have HO_240002 := n1_; have HO_249000 := n2_; have HO_249002 := n3_; have HO_262000 := n4_; have HO_262002 := n5_; have BK218 := n6_; have BK239 := n7_; have BK240 := n8_; have BK248 := n9_; have BK261 := n10_; have BK262 := n11_; have HB := n12_; clear n0_ n1_ n2_ n3_ n4_ n5_ n6_ n7_ n8_ n9_ n10_ n11_ n12_; (try clear hb); (try clear hkp); (try clear hy0); (try clear hy1); have hcz200_0 : w199.cell? ⟨gb261, 0, none⟩ = some (.slice Ao45 t249.length co45) := (blk_cell BK261.out 0).trans rfl; have hcz200_1 : w199.cell? ⟨gb261, 1, none⟩ = some (.int .i64 t252) := (blk_cell BK261.out 1).trans rfl; have hcz200_2 : w199.cell? ⟨gb261, 2, none⟩ = some (.slice Ao52 t253.length co52) := (blk_cell BK261.out 2).trans rfl; have hfz200_0 := blk_frozen BK261.out 0; have hfz200_1 := blk_frozen BK261.out 1; have hfz200_2 := blk_frozen BK261.out 2) | ((with_reducible refine gate_callee (f := 22) rfl ?_); refine goesL_ (some 95) rfl rfl Try.func22 (by kernel_rfl) rfl #[.agg #[.slice Ao45 t279.length co45, .int .i64 t252, .slice Ao52 t280.length co52], .int .i64 1] rfl (by (try simp only [List.map_toArray, List.map_cons, List.map_nil]); first | done | (rw [show t279.length = t249.length from (Kd.R_reads' HO_262000.out).1.symm, show t280.length = t253.length from (Kd.R_reads' HO_262002.out).1.symm] <;> rfl) | rfl | (simp only [List.length_drop, List.length_take]; rfl)) ?_; (with_reducible refine (laws_heldParty.calls kj118 _ _ t279 t252 _ _ t280 1 t281 _ ?side1 ?side2 ?side3 ?side4 A191.out).mono ?_); (case side1 => exact rc_ (Kd.R_reads' HO_262000.out).2.2); (case side2 => rw [show t279.length = t249.length from (Kd.R_reads' HO_262000.out).1.symm]; exact (Kd.R_reads' HO_262000.out).2.1); (case side3 => exact rc_ (Kd.R_reads' HO_262002.out).2.2); (case side4 => rw [show t280.length = t253.length from (Kd.R_reads' HO_262002.out).1.symm]; exact (Kd.R_reads' HO_262002.out).2.1); rintro e w201 ⟨rfl, hb⟩; refine ⟨_, rfl, ?_⟩; have n0_ := Aside0.mk (Kd.R_below (fr_ HO_240000.out) hb); have n1_ := Aside0.mk (Kd.R_below (fr_ HO_240002.out) hb); have n2_ := Aside0.mk (Kd.R_below (fr_ HO_249000.out) hb); have n3_ := Aside0.mk (Kd.R_below (fr_ HO_249002.out) hb); have n4_ := Aside0.mk (Kd.R_below (fr_ HO_262000.out) hb); have n5_ := Aside0.mk (Kd.R_below (fr_ HO_262002.out) hb); have n6_ := Aside0.mk (bb_ BK218.out hb); have n7_ := Aside0.mk (bb_ BK239.out hb); have n8_ := Aside0.mk (bb_ BK240.out hb); have n9_ := Aside0.mk (bb_ BK248.out hb); have n10_ := Aside0.mk (bb_ BK261.out hb); have n11_ := Aside0.mk (bb_ BK262.out hb); have n12_ := Aside0.mk (below_step (bel_ HB.out) hb); clear HO_240000; clear HO_240002; clear HO_249000; clear HO_249002; clear HO_262000; clear HO_262002; clear BK218; clear BK239; clear BK240; clear BK248; clear BK261; clear BK262; clear HB; have HO_240000 := n0_; have HO_240002 := n1_; have HO_249000 := n2_; have HO_249002 := n3_; have HO_262000 := n4_; have HO_262002 := n5_; have BK218 := n6_; have BK239 := n7_; have BK240 := n8_; have BK248 := n9_; have BK261 := n10_; have BK262 := n11_; have HB := n12_; clear n0_ n1_ n2_ n3_ n4_ n5_ n6_ n7_ n8_ n9_ n10_ n11_ n12_; (try clear hb); (try clear hb2); (try clear hk); (try clear hi)))
           go_ret
           exact ⟨by first | rfl | (simp [errW_none, errW_some] <;> rfl) | (simp [*, errW_none, errW_some] <;> rfl), bel_ HB.out⟩
          ·rw [if_neg c192] at H
           have c192b0 : decide (t281 < 0) = false := decide_eq_false c192
           clear c192
           by_cases c202 : t281 = t278
           ·rw [if_pos c202] at H
            have c202b0 : (t281 == t278) = true := beq_iff_eq.mpr c202
            have c202b1 : (t281 != t278) = false := bne_eq_false_iff_eq.mpr c202
            clear c202
            replace H := Option.bind_eq_some_iff.mp H
            obtain ⟨⟨t282, t285, t286⟩, A2030, H⟩ := H
            replace H : ((impl_Send21.f kj118 t282 t285 t286 a1 a2).bind fun bt289 => ((laws_eqParty.f kj118 bt289.1 bt289.2.1 bt289.2.2.1 t227 t230 t231).bind fun t303 => (if t303 = true then ((laws_eqPost.f bt289.2.2.2.1 bt289.2.2.2.2.1 bt289.2.2.2.2.2.1 bt289.2.2.2.2.2.2.1 t234 t235 t236 t237).bind fun t304 => (if t304 = true then (laws_FnExactSend21.j2 kj118 t278 (bt289.2.2.2.2.2.2.2 != t238) t279 t252 t280) else (laws_FnExactSend21.j2 kj118 t278 true t279 t252 t280))) else (laws_FnExactSend21.j2 kj118 t278 true t279 t252 t280)))) = some r := H
            have A203 := Aside0.mk A2030
            clear A2030
            replace H := Option.bind_eq_some_iff.mp H
            obtain ⟨⟨t289, t292, t293, t296, t297, t298, t299, t300⟩, A2040, H⟩ := H
            replace H : ((laws_eqParty.f kj118 t289 t292 t293 t227 t230 t231).bind fun t303 => (if t303 = true then ((laws_eqPost.f t296 t297 t298 t299 t234 t235 t236 t237).bind fun t304 => (if t304 = true then (laws_FnExactSend21.j2 kj118 t278 (t300 != t238) t279 t252 t280) else (laws_FnExactSend21.j2 kj118 t278 true t279 t252 t280))) else (laws_FnExactSend21.j2 kj118 t278 true t279 t252 t280))) = some r := H
            have A204 := Aside0.mk A2040
            clear A2040
            have HC205 := Aside0.mk H
            clear H
            have hnb206 := NB261_218.out
            have hnc206 := NB218_261.out
            have hnb207 := NB261_239.out
            have hnc207 := NB239_261.out
            have hnb208 := NB261_240.out
            have hnc208 := NB240_261.out
            have hnb209 := NB261_248.out
            have hnc209 := NB248_261.out
            have hnb210 := NB261_262.out
            have hnc210 := NB262_261.out
            have hcz211_0 : wc.cell? ⟨gb261, 0, none⟩ = some (.slice Ao45 t249.length co45) := (blk_cell BK261.out 0).trans rfl
            have hcz211_1 : wc.cell? ⟨gb261, 1, none⟩ = some (.int .i64 t252) := (blk_cell BK261.out 1).trans rfl
            have hcz211_2 : wc.cell? ⟨gb261, 2, none⟩ = some (.slice Ao52 t253.length co52) := (blk_cell BK261.out 2).trans rfl
            have hfz211_0 := blk_frozen BK261.out 0
            have hfz211_1 := blk_frozen BK261.out 1
            have hfz211_2 := blk_frozen BK261.out 2
            go_upto_region 27 with (first | ((with_reducible refine gate_callee (f := 21) rfl ?_); refine goesL_ (some 92) rfl rfl Try.func21 (by kernel_rfl) rfl #[.agg #[.slice Ao45 t249.length co45, .int .i64 t252, .slice Ao52 t253.length co52], .int .i64 1] rfl ml_ ?_; (with_reducible refine (laws_markParty.calls kj118 (fun k_ => some k_ = (.slice Ao45 t249.length co45 : Value).ownBlock) (.slice Ao45 t249.length co45) t249 t252 (fun k_ => some k_ = (.slice Ao52 t253.length co52 : Value).ownBlock) (.slice Ao52 t253.length co52) t253 1 t278 t279 t280 w _ ?side1 ?side2 ?side3 ?side4 ?side5 A190.out).mono ?_); (case side1 => repeat (first | (with_reducible first | exact HB.out | apply below_alloc | apply pw_below_drewN | apply below_drew1 | refine below_set ?_ GE218.out | refine below_set ?_ GE239.out | refine below_set ?_ GE240.out | refine below_set ?_ GE248.out | refine below_set ?_ GE261.out | refine below_set ?_ GE262.out) | exact HB.out)); (case side2 => exact Kd.R_tight rfl HO_262000.out); (case side3 => exact fun k_ e_ => (HO_262000.out.1 k_ e_.symm).2.2.2.2); (case side4 => exact Kd.R_tight rfl HO_262002.out); (case side5 => exact fun k_ e_ => (HO_262002.out.1 k_ e_.symm).2.2.2.2); rintro e w212 ⟨rfl, hy0, hy1, hb, hkp⟩; refine ⟨_, rfl, ?_⟩; have n0_ := Aside0.mk (Kd.R_mono (ok' := fun k_ => some k_ ≠ (.slice Ao30 t231.length co30 : Value).ownBlock ∧ some k_ ≠ (.slice Ao36 t274.length co36 : Value).ownBlock ∧ some k_ ≠ (.slice Ao41 t275.length co41 : Value).ownBlock ∧ some k_ ≠ (.slice Ao45 t249.length co45 : Value).ownBlock ∧ some k_ ≠ (.slice Ao52 t253.length co52 : Value).ownBlock) (Kd.R_keptB (HO_240000.out) hkp (fun k_ hk_ hs_ => Or.elim hs_ (fun e_ => (hk_.2.2.2.1) e_) (fun e_ => (hk_.2.2.2.2) e_))) (fun k_ hk_ => ⟨hk_.1.1, hk_.1.2.1, hk_.1.2.2.1, hk_.1.2.2.2.1, hk_.1.2.2.2.2⟩)); have n1_ := Aside0.mk (Kd.R_mono (ok' := fun k_ => some k_ ≠ (.slice Ao26 t227.length co26 : Value).ownBlock ∧ some k_ ≠ (.slice Ao36 t274.length co36 : Value).ownBlock ∧ some k_ ≠ (.slice Ao41 t275.length co41 : Value).ownBlock ∧ some k_ ≠ (.slice Ao45 t249.length co45 : Value).ownBlock ∧ some k_ ≠ (.slice Ao52 t253.length co52 : Value).ownBlock) (Kd.R_keptB (HO_240002.out) hkp (fun k_ hk_ hs_ => Or.elim hs_ (fun e_ => (hk_.2.2.2.1) e_) (fun e_ => (hk_.2.2.2.2) e_))) (fun k_ hk_ => ⟨hk_.1.1, hk_.1.2.1, hk_.1.2.2.1, hk_.1.2.2.2.1, hk_.1.2.2.2.2⟩)); have n2_ := Aside0.mk (Kd.R_mono (ok' := fun k_ => some k_ ≠ (.slice Ao26 t227.length co26 : Value).ownBlock ∧ some k_ ≠ (.slice Ao30 t231.length co30 : Value).ownBlock ∧ some k_ ≠ (.slice Ao41 t275.length co41 : Value).ownBlock ∧ some k_ ≠ (.slice Ao45 t249.length co45 : Value).ownBlock ∧ some k_ ≠ (.slice Ao52 t253.length co52 : Value).ownBlock) (Kd.R_keptB (HO_249000.out) hkp (fun k_ hk_ hs_ => Or.elim hs_ (fun e_ => (hk_.2.2.2.1) e_) (fun e_ => (hk_.2.2.2.2) e_))) (fun k_ hk_ => ⟨hk_.1.1, hk_.1.2.1, hk_.1.2.2.1, hk_.1.2.2.2.1, hk_.1.2.2.2.2⟩)); have n3_ := Aside0.mk (Kd.R_mono (ok' := fun k_ => some k_ ≠ (.slice Ao26 t227.length co26 : Value).ownBlock ∧ some k_ ≠ (.slice Ao30 t231.length co30 : Value).ownBlock ∧ some k_ ≠ (.slice Ao36 t274.length co36 : Value).ownBlock ∧ some k_ ≠ (.slice Ao45 t249.length co45 : Value).ownBlock ∧ some k_ ≠ (.slice Ao52 t253.length co52 : Value).ownBlock) (Kd.R_keptB (HO_249002.out) hkp (fun k_ hk_ hs_ => Or.elim hs_ (fun e_ => (hk_.2.2.2.1) e_) (fun e_ => (hk_.2.2.2.2) e_))) (fun k_ hk_ => ⟨hk_.1.1, hk_.1.2.1, hk_.1.2.2.1, hk_.1.2.2.2.1, hk_.1.2.2.2.2⟩)); have n4_ := Aside0.mk (Kd.R_reok rfl hy0 (fun k_ e_ => HO_262000.out.1 k_ e_)); have n5_ := Aside0.mk (Kd.R_reok rfl hy1 (fun k_ e_ => HO_262002.out.1 k_ e_)); have n6_ := Aside0.mk (blk_kept (fb_ BK218.out) hkp (fun hs_ => Or.elim hs_ (fun e_ => (fun e_ => (Kd.R_ne HO_262000.out BK218.out (by decide)) e_) e_) (fun e_ => (fun e_ => (Kd.R_ne HO_262002.out BK218.out (by decide)) e_) e_))); have n7_ := Aside0.mk (blk_kept (fb_ BK239.out) hkp (fun hs_ => Or.elim hs_ (fun e_ => (fun e_ => (Kd.R_ne HO_262000.out BK239.out (by decide)) e_) e_) (fun e_ => (fun e_ => (Kd.R_ne HO_262002.out BK239.out (by decide)) e_) e_))); have n8_ := Aside0.mk (blk_kept (fb_ BK240.out) hkp (fun hs_ => Or.elim hs_ (fun e_ => (fun e_ => (Kd.R_ne HO_262000.out BK240.out (by decide)) e_) e_) (fun e_ => (fun e_ => (Kd.R_ne HO_262002.out BK240.out (by decide)) e_) e_))); have n9_ := Aside0.mk (blk_kept (fb_ BK248.out) hkp (fun hs_ => Or.elim hs_ (fun e_ => (fun e_ => (Kd.R_ne HO_262000.out BK248.out (by decide)) e_) e_) (fun e_ => (fun e_ => (Kd.R_ne HO_262002.out BK248.out (by decide)) e_) e_))); have n10_ := Aside0.mk (blk_kept (fb_ BK261.out) hkp (fun hs_ => Or.elim hs_ (fun e_ => (fun e_ => (Kd.R_ne HO_262000.out BK261.out (by decide)) e_) e_) (fun e_ => (fun e_ => (Kd.R_ne HO_262002.out BK261.out (by decide)) e_) e_))); have n11_ := Aside0.mk (blk_kept (fb_ BK262.out) hkp (fun hs_ => Or.elim hs_ (fun e_ => (fun e_ => (Kd.R_ne HO_262000.out BK262.out (by decide)) e_) e_) (fun e_ => (fun e_ => (Kd.R_ne HO_262002.out BK262.out (by decide)) e_) e_))); have n12_ := Aside0.mk (hb); clear HO_240000; clear HO_240002; clear HO_249000; clear HO_249002; clear HO_262000; clear HO_262002; clear BK218; clear BK239; clear BK240; clear BK248; clear BK261; clear BK262; clear HB; have HO_240000 := n0_; have HO_240002 := n1_; have HO_249000 := n2_; have HO_249002 := n3_; have HO_262000 := n4_; have HO_262002 := n5_; have BK218 := n6_; have BK239 := n7_; have BK240 := n8_; have BK248 := n9_; have BK261 := n10_; have BK262 := n11_; have HB := n12_; clear n0_ n1_ n2_ n3_ n4_ n5_ n6_ n7_ n8_ n9_ n10_ n11_ n12_; (try clear hb); (try clear hkp); (try clear hy0); (try clear hy1); have hcz213_0 : w212.cell? ⟨gb261, 0, none⟩ = some (.slice Ao45 t249.length co45) := (blk_cell BK261.out 0).trans rfl; have hcz213_1 : w212.cell? ⟨gb261, 1, none⟩ = some (.int .i64 t252) := (blk_cell BK261.out 1).trans rfl; have hcz213_2 : w212.cell? ⟨gb261, 2, none⟩ = some (.slice Ao52 t253.length co52) := (blk_cell BK261.out 2).trans rfl; have hfz213_0 := blk_frozen BK261.out 0; have hfz213_1 := blk_frozen BK261.out 1; have hfz213_2 := blk_frozen BK261.out 2) | ((with_reducible refine gate_callee (f := 22) rfl ?_); refine goesL_ (some 95) rfl rfl Try.func22 (by kernel_rfl) rfl #[.agg #[.slice Ao45 t279.length co45, .int .i64 t252, .slice Ao52 t280.length co52], .int .i64 1] rfl (by (try simp only [List.map_toArray, List.map_cons, List.map_nil]); first | done | (rw [show t279.length = t249.length from (Kd.R_reads' HO_262000.out).1.symm, show t280.length = t253.length from (Kd.R_reads' HO_262002.out).1.symm] <;> rfl) | rfl | (simp only [List.length_drop, List.length_take]; rfl)) ?_; (with_reducible refine (laws_heldParty.calls kj118 _ _ t279 t252 _ _ t280 1 t281 _ ?side1 ?side2 ?side3 ?side4 A191.out).mono ?_); (case side1 => exact rc_ (Kd.R_reads' HO_262000.out).2.2); (case side2 => rw [show t279.length = t249.length from (Kd.R_reads' HO_262000.out).1.symm]; exact (Kd.R_reads' HO_262000.out).2.1); (case side3 => exact rc_ (Kd.R_reads' HO_262002.out).2.2); (case side4 => rw [show t280.length = t253.length from (Kd.R_reads' HO_262002.out).1.symm]; exact (Kd.R_reads' HO_262002.out).2.1); rintro e w214 ⟨rfl, hb⟩; refine ⟨_, rfl, ?_⟩; have n0_ := Aside0.mk (Kd.R_below (fr_ HO_240000.out) hb); have n1_ := Aside0.mk (Kd.R_below (fr_ HO_240002.out) hb); have n2_ := Aside0.mk (Kd.R_below (fr_ HO_249000.out) hb); have n3_ := Aside0.mk (Kd.R_below (fr_ HO_249002.out) hb); have n4_ := Aside0.mk (Kd.R_below (fr_ HO_262000.out) hb); have n5_ := Aside0.mk (Kd.R_below (fr_ HO_262002.out) hb); have n6_ := Aside0.mk (bb_ BK218.out hb); have n7_ := Aside0.mk (bb_ BK239.out hb); have n8_ := Aside0.mk (bb_ BK240.out hb); have n9_ := Aside0.mk (bb_ BK248.out hb); have n10_ := Aside0.mk (bb_ BK261.out hb); have n11_ := Aside0.mk (bb_ BK262.out hb); have n12_ := Aside0.mk (below_step (bel_ HB.out) hb); clear HO_240000; clear HO_240002; clear HO_249000; clear HO_249002; clear HO_262000; clear HO_262002; clear BK218; clear BK239; clear BK240; clear BK248; clear BK261; clear BK262; clear HB; have HO_240000 := n0_; have HO_240002 := n1_; have HO_249000 := n2_; have HO_249002 := n3_; have HO_262000 := n4_; have HO_262002 := n5_; have BK218 := n6_; have BK239 := n7_; have BK240 := n8_; have BK248 := n9_; have BK261 := n10_; have BK262 := n11_; have HB := n12_; clear n0_ n1_ n2_ n3_ n4_ n5_ n6_ n7_ n8_ n9_ n10_ n11_ n12_; (try clear hb); (try clear hb2); (try clear hk); (try clear hi); have hnb215 := NB218_239.out; have hnc215 := NB239_218.out; have hnb216 := NB218_240.out; have hnc216 := NB240_218.out; have hnb217 := NB218_248.out; have hnc217 := NB248_218.out; have hnb218 := NB218_262.out; have hnc218 := NB262_218.out; have hcz219_0 : w214.cell? ⟨gb218, 0, none⟩ = some (.slice A0_0 l0_0.length c0_0) := (blk_cell BK218.out 0).trans rfl; have hcz219_1 : w214.cell? ⟨gb218, 1, none⟩ = some (.int .i64 a0_1) := (blk_cell BK218.out 1).trans rfl; have hcz219_2 : w214.cell? ⟨gb218, 2, none⟩ = some (.slice A0_2 l0_2.length c0_2) := (blk_cell BK218.out 2).trans rfl; have hfz219_0 := blk_frozen BK218.out 0; have hfz219_1 := blk_frozen BK218.out 1; have hfz219_2 := blk_frozen BK218.out 2) | ((with_reducible refine gate_callee (f := 17) rfl ?_); refine goesL_ (some 103) rfl rfl Try.func17 (by kernel_rfl) rfl #[.agg #[.slice A0_0 l0_0.length c0_0, .int .i64 a0_1, .slice A0_2 l0_2.length c0_2]] rfl ml_ ?_; (with_reducible refine (laws_toParty.calls kj118 _ _ l0_0 a0_1 _ _ l0_2 t282 t285 t286 _ ?side1 ?side2 ?side3 ?side4 A203.out).mono ?_); (case side1 => repeat (first | exact (Kd.C_below HR0_0.out HB.out) | (with_reducible refine Kd.C_alloc ?_ _) | (with_reducible refine Kd.C_drewN ?_ _) | (with_reducible refine Kd.C_drew ?_))); (case side2 => exact HC0_0.out); (case side3 => repeat (first | exact (Kd.C_below HR0_2.out HB.out) | (with_reducible refine Kd.C_alloc ?_ _) | (with_reducible refine Kd.C_drewN ?_ _) | (with_reducible refine Kd.C_drew ?_))); (case side4 => exact HC0_2.out); rintro e w220 ⟨v283, v287, rfl, ho0, ho1, hb⟩; refine ⟨_, rfl, ?_⟩; have n0_ := Aside0.mk (Kd.R_mono (Kd.R_told (Kd.R_told (Kd.R_old (fr_ HO_240000.out) hb) (Kd.R_base ho0)) (Kd.R_base ho1)) (fun _ h_ => h_.1)); have n1_ := Aside0.mk (Kd.R_mono (Kd.R_told (Kd.R_told (Kd.R_old (fr_ HO_240002.out) hb) (Kd.R_base ho0)) (Kd.R_base ho1)) (fun _ h_ => h_.1)); have n2_ := Aside0.mk (Kd.R_mono (Kd.R_told (Kd.R_told (Kd.R_old (fr_ HO_249000.out) hb) (Kd.R_base ho0)) (Kd.R_base ho1)) (fun _ h_ => h_.1)); have n3_ := Aside0.mk (Kd.R_mono (Kd.R_told (Kd.R_told (Kd.R_old (fr_ HO_249002.out) hb) (Kd.R_base ho0)) (Kd.R_base ho1)) (fun _ h_ => h_.1)); have n4_ := Aside0.mk (Kd.R_mono (Kd.R_told (Kd.R_told (Kd.R_old (fr_ HO_262000.out) hb) (Kd.R_base ho0)) (Kd.R_base ho1)) (fun _ h_ => h_.1)); have n5_ := Aside0.mk (Kd.R_mono (Kd.R_told (Kd.R_told (Kd.R_old (fr_ HO_262002.out) hb) (Kd.R_base ho0)) (Kd.R_base ho1)) (fun _ h_ => h_.1)); have n6_ := Aside0.mk (Kd.R_lower (Kd.R_new' (Kd.R_new' (Kd.R_new' (Kd.R_new' (Kd.R_new' (Kd.R_new' ho0 (Kd.R_lt (fr_ HO_240000.out))) (Kd.R_lt (fr_ HO_240002.out))) (Kd.R_lt (fr_ HO_249000.out))) (Kd.R_lt (fr_ HO_249002.out))) (Kd.R_lt (fr_ HO_262000.out))) (Kd.R_lt (fr_ HO_262002.out))) (below_size (bel_ HB.out))); have n7_ := Aside0.mk (Kd.R_lower (Kd.R_new' (Kd.R_new' (Kd.R_new' (Kd.R_new' (Kd.R_new' (Kd.R_new' ho1 (Kd.R_lt (fr_ HO_240000.out))) (Kd.R_lt (fr_ HO_240002.out))) (Kd.R_lt (fr_ HO_249000.out))) (Kd.R_lt (fr_ HO_249002.out))) (Kd.R_lt (fr_ HO_262000.out))) (Kd.R_lt (fr_ HO_262002.out))) (below_size (bel_ HB.out))); have n8_ := Aside0.mk (bb_ BK218.out hb); have n9_ := Aside0.mk (bb_ BK239.out hb); have n10_ := Aside0.mk (bb_ BK240.out hb); have n11_ := Aside0.mk (bb_ BK248.out hb); have n12_ := Aside0.mk (bb_ BK261.out hb); have n13_ := Aside0.mk (bb_ BK262.out hb); have n14_ := Aside0.mk (below_step (bel_ HB.out) hb); clear HO_240000; clear HO_240002; clear HO_249000; clear HO_249002; clear HO_262000; clear HO_262002; clear BK218; clear BK239; clear BK240; clear BK248; clear BK261; clear BK262; clear HB; have HO_240000 := n0_; have HO_240002 := n1_; have HO_249000 := n2_; have HO_249002 := n3_; have HO_262000 := n4_; have HO_262002 := n5_; have HO284 := n6_; have HO288 := n7_; have BK218 := n8_; have BK239 := n9_; have BK240 := n10_; have BK248 := n11_; have BK261 := n12_; have BK262 := n13_; have HB := n14_; clear n0_ n1_ n2_ n3_ n4_ n5_ n6_ n7_ n8_ n9_ n10_ n11_ n12_ n13_ n14_; (try clear hb); (try clear hb2); (try clear hk); (try clear hi); (try clear ho0); (try clear ho1); obtain ⟨Ao221, co221, eo221⟩ := Kd.R_slice HO284.out; subst eo221; obtain ⟨Ao222, co222, eo222⟩ := Kd.R_slice HO288.out; subst eo222) | ((with_reducible refine gate_callee (f := 12) rfl ?_); refine goesL_ (some 106) rfl rfl Try.func12 (by kernel_rfl) rfl #[.agg #[.slice Ao221 t282.length co221, .int .i64 t285, .slice Ao222 t286.length co222], .int .i64 a1, .string a2] rfl ml_ ?_; (with_reducible refine (impl_Send21.calls kj118 _ _ t282 t285 _ _ t286 a1 a2 t289 t292 t293 t296 t297 t298 t299 t300 _ ?side1 ?side2 ?side3 ?side4 A204.out).mono ?_); (case side1 => exact rc_ (Kd.R_reads' HO284.out).2.2); (case side2 => exact (Kd.R_reads' HO284.out).2.1); (case side3 => exact rc_ (Kd.R_reads' HO288.out).2.2); (case side4 => exact (Kd.R_reads' HO288.out).2.1); rintro e w223 ⟨v290, v294, rfl, ho0, ho1, hb⟩; refine ⟨_, rfl, ?_⟩; have n0_ := Aside0.mk (Kd.R_mono (Kd.R_told (Kd.R_told (Kd.R_old (fr_ HO_240000.out) hb) (Kd.R_base ho0)) (Kd.R_base ho1)) (fun _ h_ => h_.1)); have n1_ := Aside0.mk (Kd.R_mono (Kd.R_told (Kd.R_told (Kd.R_old (fr_ HO_240002.out) hb) (Kd.R_base ho0)) (Kd.R_base ho1)) (fun _ h_ => h_.1)); have n2_ := Aside0.mk (Kd.R_mono (Kd.R_told (Kd.R_told (Kd.R_old (fr_ HO_249000.out) hb) (Kd.R_base ho0)) (Kd.R_base ho1)) (fun _ h_ => h_.1)); have n3_ := Aside0.mk (Kd.R_mono (Kd.R_told (Kd.R_told (Kd.R_old (fr_ HO_249002.out) hb) (Kd.R_base ho0)) (Kd.R_base ho1)) (fun _ h_ => h_.1)); have n4_ := Aside0.mk (Kd.R_mono (Kd.R_told (Kd.R_told (Kd.R_old (fr_ HO_262000.out) hb) (Kd.R_base ho0)) (Kd.R_base ho1)) (fun _ h_ => h_.1)); have n5_ := Aside0.mk (Kd.R_mono (Kd.R_told (Kd.R_told (Kd.R_old (fr_ HO_262002.out) hb) (Kd.R_base ho0)) (Kd.R_base ho1)) (fun _ h_ => h_.1)); have n6_ := Aside0.mk (Kd.R_mono (Kd.R_told (Kd.R_told (Kd.R_old (fr_ HO284.out) hb) (Kd.R_base ho0)) (Kd.R_base ho1)) (fun _ h_ => h_.1)); have n7_ := Aside0.mk (Kd.R_mono (Kd.R_told (Kd.R_told (Kd.R_old (fr_ HO288.out) hb) (Kd.R_base ho0)) (Kd.R_base ho1)) (fun _ h_ => h_.1)); have n8_ := Aside0.mk (Kd.R_lower (Kd.R_new' (Kd.R_new' (Kd.R_new' (Kd.R_new' (Kd.R_new' (Kd.R_new' (Kd.R_new' (Kd.R_new' ho0 (Kd.R_lt (fr_ HO_240000.out))) (Kd.R_lt (fr_ HO_240002.out))) (Kd.R_lt (fr_ HO_249000.out))) (Kd.R_lt (fr_ HO_249002.out))) (Kd.R_lt (fr_ HO_262000.out))) (Kd.R_lt (fr_ HO_262002.out))) (Kd.R_lt (fr_ HO284.out))) (Kd.R_lt (fr_ HO288.out))) (below_size (bel_ HB.out))); have n9_ := Aside0.mk (Kd.R_lower (Kd.R_new' (Kd.R_new' (Kd.R_new' (Kd.R_new' (Kd.R_new' (Kd.R_new' (Kd.R_new' (Kd.R_new' ho1 (Kd.R_lt (fr_ HO_240000.out))) (Kd.R_lt (fr_ HO_240002.out))) (Kd.R_lt (fr_ HO_249000.out))) (Kd.R_lt (fr_ HO_249002.out))) (Kd.R_lt (fr_ HO_262000.out))) (Kd.R_lt (fr_ HO_262002.out))) (Kd.R_lt (fr_ HO284.out))) (Kd.R_lt (fr_ HO288.out))) (below_size (bel_ HB.out))); have n10_ := Aside0.mk (bb_ BK218.out hb); have n11_ := Aside0.mk (bb_ BK239.out hb); have n12_ := Aside0.mk (bb_ BK240.out hb); have n13_ := Aside0.mk (bb_ BK248.out hb); have n14_ := Aside0.mk (bb_ BK261.out hb); have n15_ := Aside0.mk (bb_ BK262.out hb); have n16_ := Aside0.mk (below_step (bel_ HB.out) hb); clear HO_240000; clear HO_240002; clear HO_249000; clear HO_249002; clear HO_262000; clear HO_262002; clear HO284; clear HO288; clear BK218; clear BK239; clear BK240; clear BK248; clear BK261; clear BK262; clear HB; have HO_240000 := n0_; have HO_240002 := n1_; have HO_249000 := n2_; have HO_249002 := n3_; have HO_262000 := n4_; have HO_262002 := n5_; have HO284 := n6_; have HO288 := n7_; have HO291 := n8_; have HO295 := n9_; have BK218 := n10_; have BK239 := n11_; have BK240 := n12_; have BK248 := n13_; have BK261 := n14_; have BK262 := n15_; have HB := n16_; clear n0_ n1_ n2_ n3_ n4_ n5_ n6_ n7_ n8_ n9_ n10_ n11_ n12_ n13_ n14_ n15_ n16_; (try clear hb); (try clear hb2); (try clear hk); (try clear hi); (try clear ho0); (try clear ho1)) | ((with_reducible refine gate_dst (N := 18) rfl ?_); refine box_event ?hg (N := 18) ?hd (cs := #[.slice none 0 0, .int .i64 0, .slice none 0 0]) (t := 26) ?hr ?_; (case hd => rfl); (case hg => rfl); (case hr => first | (go_simp; done) | (go_simp; rfl)); intro gb301 hg w224 hbox hb; have n0_ := Aside0.mk (Kd.R_below (fr_ HO_240000.out) hb); have n1_ := Aside0.mk (Kd.R_below (fr_ HO_240002.out) hb); have n2_ := Aside0.mk (Kd.R_below (fr_ HO_249000.out) hb); have n3_ := Aside0.mk (Kd.R_below (fr_ HO_249002.out) hb); have n4_ := Aside0.mk (Kd.R_below (fr_ HO_262000.out) hb); have n5_ := Aside0.mk (Kd.R_below (fr_ HO_262002.out) hb); have n6_ := Aside0.mk (Kd.R_below (fr_ HO284.out) hb); have n7_ := Aside0.mk (Kd.R_below (fr_ HO288.out) hb); have n8_ := Aside0.mk (Kd.R_below (fr_ HO291.out) hb); have n9_ := Aside0.mk (Kd.R_below (fr_ HO295.out) hb); have n10_ := Aside0.mk (bb_ BK218.out hb); have n11_ := Aside0.mk (bb_ BK239.out hb); have n12_ := Aside0.mk (bb_ BK240.out hb); have n13_ := Aside0.mk (bb_ BK248.out hb); have n14_ := Aside0.mk (bb_ BK261.out hb); have n15_ := Aside0.mk (bb_ BK262.out hb); have n16_ := Aside0.mk (below_step (bel_ HB.out) hb); have n17_ := Aside0.mk (hbox); have n18_ := Aside0.mk ((by rw [hg]; exact (below_size (bel_ HB.out)) : w.heap.size ≤ gb301)); have n19_ := Aside0.mk ((by rw [hg]; exact (below_size (bel_ HB.out)) : w.heap.size ≤ gb301)); have n20_ := Aside0.mk (nl_ BK218.out hg); have n21_ := Aside0.mk (ng_ BK218.out hg); have n22_ := Aside0.mk (nl_ BK239.out hg); have n23_ := Aside0.mk (ng_ BK239.out hg); have n24_ := Aside0.mk (nl_ BK240.out hg); have n25_ := Aside0.mk (ng_ BK240.out hg); have n26_ := Aside0.mk (nl_ BK248.out hg); have n27_ := Aside0.mk (ng_ BK248.out hg); have n28_ := Aside0.mk (nl_ BK261.out hg); have n29_ := Aside0.mk (ng_ BK261.out hg); have n30_ := Aside0.mk (nl_ BK262.out hg); have n31_ := Aside0.mk (ng_ BK262.out hg); clear HO_240000; clear HO_240002; clear HO_249000; clear HO_249002; clear HO_262000; clear HO_262002; clear HO284; clear HO288; clear HO291; clear HO295; clear BK218; clear BK239; clear BK240; clear BK248; clear BK261; clear BK262; clear HB; have HO_240000 := n0_; have HO_240002 := n1_; have HO_249000 := n2_; have HO_249002 := n3_; have HO_262000 := n4_; have HO_262002 := n5_; have HO284 := n6_; have HO288 := n7_; have HO291 := n8_; have HO295 := n9_; have BK218 := n10_; have BK239 := n11_; have BK240 := n12_; have BK248 := n13_; have BK261 := n14_; have BK262 := n15_; have HB := n16_; have BK301 := n17_; have GW301 := n18_; have GE301 := n19_; have NB218_301 := n20_; have NB301_218 := n21_; have NB239_301 := n22_; have NB301_239 := n23_; have NB240_301 := n24_; have NB301_240 := n25_; have NB248_301 := n26_; have NB301_248 := n27_; have NB261_301 := n28_; have NB301_261 := n29_; have NB262_301 := n30_; have NB301_262 := n31_; clear n0_ n1_ n2_ n3_ n4_ n5_ n6_ n7_ n8_ n9_ n10_ n11_ n12_ n13_ n14_ n15_ n16_ n17_ n18_ n19_ n20_ n21_ n22_ n23_ n24_ n25_ n26_ n27_ n28_ n29_ n30_ n31_; clear hb hbox hg) | ((with_reducible refine gate_dst (N := 19) rfl ?_); refine box_event ?hg (N := 19) ?hd (cs := #[.int .i64 0, .int .i64 0, .int .i64 0, .string (⟨#[]⟩ : ByteArray)]) (t := 34) ?hr ?_; (case hd => rfl); (case hg => rfl); (case hr => first | (go_simp; done) | (go_simp; rfl)); intro gb302 hg w225 hbox hb; have n0_ := Aside0.mk (Kd.R_below (fr_ HO_240000.out) hb); have n1_ := Aside0.mk (Kd.R_below (fr_ HO_240002.out) hb); have n2_ := Aside0.mk (Kd.R_below (fr_ HO_249000.out) hb); have n3_ := Aside0.mk (Kd.R_below (fr_ HO_249002.out) hb); have n4_ := Aside0.mk (Kd.R_below (fr_ HO_262000.out) hb); have n5_ := Aside0.mk (Kd.R_below (fr_ HO_262002.out) hb); have n6_ := Aside0.mk (Kd.R_below (fr_ HO284.out) hb); have n7_ := Aside0.mk (Kd.R_below (fr_ HO288.out) hb); have n8_ := Aside0.mk (Kd.R_below (fr_ HO291.out) hb); have n9_ := Aside0.mk (Kd.R_below (fr_ HO295.out) hb); have n10_ := Aside0.mk (bb_ BK218.out hb); have n11_ := Aside0.mk (bb_ BK239.out hb); have n12_ := Aside0.mk (bb_ BK240.out hb); have n13_ := Aside0.mk (bb_ BK248.out hb); have n14_ := Aside0.mk (bb_ BK261.out hb); have n15_ := Aside0.mk (bb_ BK262.out hb); have n16_ := Aside0.mk (bb_ BK301.out hb); have n17_ := Aside0.mk (below_step (bel_ HB.out) hb); have n18_ := Aside0.mk (hbox); have n19_ := Aside0.mk ((by rw [hg]; exact (below_size (bel_ HB.out)) : w.heap.size ≤ gb302)); have n20_ := Aside0.mk ((by rw [hg]; exact (below_size (bel_ HB.out)) : w.heap.size ≤ gb302)); have n21_ := Aside0.mk (nl_ BK218.out hg); have n22_ := Aside0.mk (ng_ BK218.out hg); have n23_ := Aside0.mk (nl_ BK239.out hg); have n24_ := Aside0.mk (ng_ BK239.out hg); have n25_ := Aside0.mk (nl_ BK240.out hg); have n26_ := Aside0.mk (ng_ BK240.out hg); have n27_ := Aside0.mk (nl_ BK248.out hg); have n28_ := Aside0.mk (ng_ BK248.out hg); have n29_ := Aside0.mk (nl_ BK261.out hg); have n30_ := Aside0.mk (ng_ BK261.out hg); have n31_ := Aside0.mk (nl_ BK262.out hg); have n32_ := Aside0.mk (ng_ BK262.out hg); have n33_ := Aside0.mk (nl_ BK301.out hg); have n34_ := Aside0.mk (ng_ BK301.out hg); clear HO_240000; clear HO_240002; clear HO_249000; clear HO_249002; clear HO_262000; clear HO_262002; clear HO284; clear HO288; clear HO291; clear HO295; clear BK218; clear BK239; clear BK240; clear BK248; clear BK261; clear BK262; clear BK301; clear HB; have HO_240000 := n0_; have HO_240002 := n1_; have HO_249000 := n2_; have HO_249002 := n3_; have HO_262000 := n4_; have HO_262002 := n5_; have HO284 := n6_; have HO288 := n7_; have HO291 := n8_; have HO295 := n9_; have BK218 := n10_; have BK239 := n11_; have BK240 := n12_; have BK248 := n13_; have BK261 := n14_; have BK262 := n15_; have BK301 := n16_; have HB := n17_; have BK302 := n18_; have GW302 := n19_; have GE302 := n20_; have NB218_302 := n21_; have NB302_218 := n22_; have NB239_302 := n23_; have NB302_239 := n24_; have NB240_302 := n25_; have NB302_240 := n26_; have NB248_302 := n27_; have NB302_248 := n28_; have NB261_302 := n29_; have NB302_261 := n30_; have NB262_302 := n31_; have NB302_262 := n32_; have NB301_302 := n33_; have NB302_301 := n34_; clear n0_ n1_ n2_ n3_ n4_ n5_ n6_ n7_ n8_ n9_ n10_ n11_ n12_ n13_ n14_ n15_ n16_ n17_ n18_ n19_ n20_ n21_ n22_ n23_ n24_ n25_ n26_ n27_ n28_ n29_ n30_ n31_ n32_ n33_ n34_; clear hb hbox hg; obtain ⟨Ao226, co226, eo226⟩ := Kd.R_slice HO291.out; subst eo226; have hnb227 := NB301_218.out; have hnc227 := NB218_301.out; have hnb228 := NB301_239.out; have hnc228 := NB239_301.out; have hnb229 := NB301_240.out; have hnc229 := NB240_301.out; have hnb230 := NB301_248.out; have hnc230 := NB248_301.out; have hnb231 := NB301_261.out; have hnc231 := NB261_301.out; have hnb232 := NB301_262.out; have hnc232 := NB262_301.out; have hnb233 := NB301_302.out; have hnc233 := NB302_301.out; have hcz234_0 : w225.cell? ⟨gb301, 0, none⟩ = some (.slice none 0 0) := (blk_cell BK301.out 0).trans rfl; have hcz234_1 : w225.cell? ⟨gb301, 1, none⟩ = some (.int .i64 0) := (blk_cell BK301.out 1).trans rfl; have hcz234_2 : w225.cell? ⟨gb301, 2, none⟩ = some (.slice none 0 0) := (blk_cell BK301.out 2).trans rfl; have hfz234_0 := blk_frozen BK301.out 0; have hfz234_1 := blk_frozen BK301.out 1; have hfz234_2 := blk_frozen BK301.out 2; obtain ⟨Ao235, co235, eo235⟩ := Kd.R_slice HO295.out; subst eo235; have hnb236 := NB302_218.out; have hnc236 := NB218_302.out; have hnb237 := NB302_239.out; have hnc237 := NB239_302.out; have hnb238 := NB302_240.out; have hnc238 := NB240_302.out; have hnb239 := NB302_248.out; have hnc239 := NB248_302.out; have hnb240 := NB302_261.out; have hnc240 := NB261_302.out; have hnb241 := NB302_262.out; have hnc241 := NB262_302.out; have hcz242_0 : w225.cell? ⟨gb302, 0, none⟩ = some (.int .i64 0) := (blk_cell BK302.out 0).trans rfl; have hcz242_1 : w225.cell? ⟨gb302, 1, none⟩ = some (.int .i64 0) := (blk_cell BK302.out 1).trans rfl; have hcz242_2 : w225.cell? ⟨gb302, 2, none⟩ = some (.int .i64 0) := (blk_cell BK302.out 2).trans rfl; have hcz242_3 : w225.cell? ⟨gb302, 3, none⟩ = some (.string (⟨#[]⟩ : ByteArray)) := (blk_cell BK302.out 3).trans rfl; have hfz242_0 := blk_frozen BK302.out 0; have hfz242_1 := blk_frozen BK302.out 1; have hfz242_2 := blk_frozen BK302.out 2; have hfz242_3 := blk_frozen BK302.out 3))
            (try simp only [Act.put, sA_, sZ_, sS_])
            go_cut [124] (fun v124 wc => ∃ (kq : Nat) (x124_204 : Bool), v124 = .bool x124_204 ∧ Aside0 (laws_FnExactSend21.j2 kq t278 x124_204 t279 t252 t280 = some r) ∧ Aside0 (kq ≤ kj118) ∧ Aside0 (Kd.R Kd.string 9 wc w.heap.size (fun k_ => some k_ ≠ ((.slice Ao30 t231.length co30) : Value).ownBlock ∧ some k_ ≠ ((.slice Ao36 t274.length co36) : Value).ownBlock ∧ some k_ ≠ ((.slice Ao41 t275.length co41) : Value).ownBlock ∧ some k_ ≠ ((.slice Ao45 t249.length co45) : Value).ownBlock ∧ some k_ ≠ ((.slice Ao52 t253.length co52) : Value).ownBlock ∧ some k_ ≠ ((.slice Ao226 t289.length co226) : Value).ownBlock ∧ some k_ ≠ ((.slice Ao235 t293.length co235) : Value).ownBlock) (.slice Ao26 t227.length co26) t227) ∧ Aside0 (Kd.R Kd.string 9 wc w.heap.size (fun k_ => some k_ ≠ ((.slice Ao26 t227.length co26) : Value).ownBlock ∧ some k_ ≠ ((.slice Ao36 t274.length co36) : Value).ownBlock ∧ some k_ ≠ ((.slice Ao41 t275.length co41) : Value).ownBlock ∧ some k_ ≠ ((.slice Ao45 t249.length co45) : Value).ownBlock ∧ some k_ ≠ ((.slice Ao52 t253.length co52) : Value).ownBlock ∧ some k_ ≠ ((.slice Ao226 t289.length co226) : Value).ownBlock ∧ some k_ ≠ ((.slice Ao235 t293.length co235) : Value).ownBlock) (.slice Ao30 t231.length co30) t231) ∧ Aside0 (Kd.R Kd.string 9 wc w.heap.size (fun k_ => some k_ ≠ ((.slice Ao26 t227.length co26) : Value).ownBlock ∧ some k_ ≠ ((.slice Ao30 t231.length co30) : Value).ownBlock ∧ some k_ ≠ ((.slice Ao41 t275.length co41) : Value).ownBlock ∧ some k_ ≠ ((.slice Ao45 t249.length co45) : Value).ownBlock ∧ some k_ ≠ ((.slice Ao52 t253.length co52) : Value).ownBlock ∧ some k_ ≠ ((.slice Ao226 t289.length co226) : Value).ownBlock ∧ some k_ ≠ ((.slice Ao235 t293.length co235) : Value).ownBlock) (.slice Ao36 t274.length co36) t274) ∧ Aside0 (Kd.R Kd.string 9 wc w.heap.size (fun k_ => some k_ ≠ ((.slice Ao26 t227.length co26) : Value).ownBlock ∧ some k_ ≠ ((.slice Ao30 t231.length co30) : Value).ownBlock ∧ some k_ ≠ ((.slice Ao36 t274.length co36) : Value).ownBlock ∧ some k_ ≠ ((.slice Ao45 t249.length co45) : Value).ownBlock ∧ some k_ ≠ ((.slice Ao52 t253.length co52) : Value).ownBlock ∧ some k_ ≠ ((.slice Ao226 t289.length co226) : Value).ownBlock ∧ some k_ ≠ ((.slice Ao235 t293.length co235) : Value).ownBlock) (.slice Ao41 t275.length co41) t275) ∧ Aside0 (Kd.R Kd.string 9 wc w.heap.size (fun k_ => some k_ ≠ ((.slice Ao26 t227.length co26) : Value).ownBlock ∧ some k_ ≠ ((.slice Ao30 t231.length co30) : Value).ownBlock ∧ some k_ ≠ ((.slice Ao36 t274.length co36) : Value).ownBlock ∧ some k_ ≠ ((.slice Ao41 t275.length co41) : Value).ownBlock ∧ some k_ ≠ ((.slice Ao52 t253.length co52) : Value).ownBlock ∧ some k_ ≠ ((.slice Ao226 t289.length co226) : Value).ownBlock ∧ some k_ ≠ ((.slice Ao235 t293.length co235) : Value).ownBlock) (.slice Ao45 t249.length co45) t279) ∧ Aside0 (Kd.R Kd.string 9 wc w.heap.size (fun k_ => some k_ ≠ ((.slice Ao26 t227.length co26) : Value).ownBlock ∧ some k_ ≠ ((.slice Ao30 t231.length co30) : Value).ownBlock ∧ some k_ ≠ ((.slice Ao36 t274.length co36) : Value).ownBlock ∧ some k_ ≠ ((.slice Ao41 t275.length co41) : Value).ownBlock ∧ some k_ ≠ ((.slice Ao45 t249.length co45) : Value).ownBlock ∧ some k_ ≠ ((.slice Ao226 t289.length co226) : Value).ownBlock ∧ some k_ ≠ ((.slice Ao235 t293.length co235) : Value).ownBlock) (.slice Ao52 t253.length co52) t280) ∧ Aside0 (Kd.R Kd.string 9 wc w.heap.size (fun k_ => some k_ ≠ ((.slice Ao26 t227.length co26) : Value).ownBlock ∧ some k_ ≠ ((.slice Ao30 t231.length co30) : Value).ownBlock ∧ some k_ ≠ ((.slice Ao36 t274.length co36) : Value).ownBlock ∧ some k_ ≠ ((.slice Ao41 t275.length co41) : Value).ownBlock ∧ some k_ ≠ ((.slice Ao45 t249.length co45) : Value).ownBlock ∧ some k_ ≠ ((.slice Ao52 t253.length co52) : Value).ownBlock ∧ some k_ ≠ ((.slice Ao235 t293.length co235) : Value).ownBlock) (.slice Ao226 t289.length co226) t289) ∧ Aside0 (Kd.R Kd.string 9 wc w.heap.size (fun k_ => some k_ ≠ ((.slice Ao26 t227.length co26) : Value).ownBlock ∧ some k_ ≠ ((.slice Ao30 t231.length co30) : Value).ownBlock ∧ some k_ ≠ ((.slice Ao36 t274.length co36) : Value).ownBlock ∧ some k_ ≠ ((.slice Ao41 t275.length co41) : Value).ownBlock ∧ some k_ ≠ ((.slice Ao45 t249.length co45) : Value).ownBlock ∧ some k_ ≠ ((.slice Ao52 t253.length co52) : Value).ownBlock ∧ some k_ ≠ ((.slice Ao226 t289.length co226) : Value).ownBlock) (.slice Ao235 t293.length co235) t293) ∧ Aside0 (wc.heap[gb218]? = some (.cells #[(.slice A0_0 l0_0.length c0_0), .int .i64 a0_1, (.slice A0_2 l0_2.length c0_2)] 42 (0, 0))) ∧ Aside0 (wc.heap[gb239]? = some (.cells #[(.slice Ao26 t227.length co26), .int .i64 t230, (.slice Ao30 t231.length co30)] 26 (0, 0))) ∧ Aside0 (wc.heap[gb240]? = some (.cells #[.int .i64 t234, .int .i64 t235, .int .i64 t236, .string t237] 34 (0, 0))) ∧ Aside0 (wc.heap[gb248]? = some (.cells #[(.slice Ao36 t274.length co36), .int .i64 t244, (.slice Ao41 t275.length co41)] 26 (0, 0))) ∧ Aside0 (wc.heap[gb261]? = some (.cells #[(.slice Ao45 t249.length co45), .int .i64 t252, (.slice Ao52 t253.length co52)] 26 (0, 0))) ∧ Aside0 (wc.heap[gb262]? = some (.cells #[.int .i64 t256, .int .i64 t257, .int .i64 t258, .string t259] 34 (0, 0))) ∧ Aside0 (wc.heap[gb301]? = some (.cells #[(.slice Ao226 t289.length co226), .int .i64 t292, (.slice Ao235 t293.length co235)] 26 (0, 0))) ∧ Aside0 (wc.heap[gb302]? = some (.cells #[.int .i64 t296, .int .i64 t297, .int .i64 t298, .string t299] 34 (0, 0))) ∧ Aside0 (Below w.heap.size w wc))
            case first =>
             have H := HC205.out
             clear HC205
             replace H := Option.bind_eq_some_iff.mp H
             obtain ⟨t303, A2430, H⟩ := H
             replace H : (if t303 = true then ((laws_eqPost.f t296 t297 t298 t299 t234 t235 t236 t237).bind fun t304 => (if t304 = true then (laws_FnExactSend21.j2 kj118 t278 (t300 != t238) t279 t252 t280) else (laws_FnExactSend21.j2 kj118 t278 true t279 t252 t280))) else (laws_FnExactSend21.j2 kj118 t278 true t279 t252 t280)) = some r := H
             have A243 := Aside0.mk A2430
             clear A2430
             by_cases c244 : t303 = true
             ·subst c244
              have H1 : ((laws_eqPost.f t296 t297 t298 t299 t234 t235 t236 t237).bind fun t304 => (if t304 = true then (laws_FnExactSend21.j2 kj118 t278 (t300 != t238) t279 t252 t280) else (laws_FnExactSend21.j2 kj118 t278 true t279 t252 t280))) = some r := by rw [if_pos rfl] at H; exact H
              clear H
              have H := H1
              clear H1
              replace H := Option.bind_eq_some_iff.mp H
              obtain ⟨t304, A2450, H⟩ := H
              replace H : (if t304 = true then (laws_FnExactSend21.j2 kj118 t278 (t300 != t238) t279 t252 t280) else (laws_FnExactSend21.j2 kj118 t278 true t279 t252 t280)) = some r := H
              have A245 := Aside0.mk A2450
              clear A2450
              by_cases c246 : t304 = true
              ·subst c246
               have H1 : (laws_FnExactSend21.j2 kj118 t278 (t300 != t238) t279 t252 t280) = some r := by rw [if_pos rfl] at H; exact H
               clear H
               have H := H1
               clear H1
               have H' := Aside0.mk H
               clear H
               have hnb247 := NB301_218.out
               have hnc247 := NB218_301.out
               have hnb248 := NB301_239.out
               have hnc248 := NB239_301.out
               have hnb249 := NB301_240.out
               have hnc249 := NB240_301.out
               have hnb250 := NB301_248.out
               have hnc250 := NB248_301.out
               have hnb251 := NB301_261.out
               have hnc251 := NB261_301.out
               have hnb252 := NB301_262.out
               have hnc252 := NB262_301.out
               have hnb253 := NB301_302.out
               have hnc253 := NB302_301.out
               have hcz254_0 : w225.cell? ⟨gb301, 0, none⟩ = some (.slice none 0 0) := (blk_cell BK301.out 0).trans rfl
               have hcz254_1 : w225.cell? ⟨gb301, 1, none⟩ = some (.int .i64 0) := (blk_cell BK301.out 1).trans rfl
               have hcz254_2 : w225.cell? ⟨gb301, 2, none⟩ = some (.slice none 0 0) := (blk_cell BK301.out 2).trans rfl
               have hfz254_0 := blk_frozen BK301.out 0
               have hfz254_1 := blk_frozen BK301.out 1
               have hfz254_2 := blk_frozen BK301.out 2
               have hnb255 := NB239_218.out
               have hnc255 := NB218_239.out
               have hnb256 := NB239_240.out
               have hnc256 := NB240_239.out
               have hnb257 := NB239_248.out
               have hnc257 := NB248_239.out
               have hnb258 := NB239_261.out
               have hnc258 := NB261_239.out
               have hnb259 := NB239_262.out
               have hnc259 := NB262_239.out
               have hnb260 := NB239_302.out
               have hnc260 := NB302_239.out
               have hcz261_0 : w225.cell? ⟨gb239, 0, none⟩ = some (.slice Ao26 t227.length co26) := (blk_cell BK239.out 0).trans rfl
               have hcz261_1 : w225.cell? ⟨gb239, 1, none⟩ = some (.int .i64 t230) := (blk_cell BK239.out 1).trans rfl
               have hcz261_2 : w225.cell? ⟨gb239, 2, none⟩ = some (.slice Ao30 t231.length co30) := (blk_cell BK239.out 2).trans rfl
               have hfz261_0 := blk_frozen BK239.out 0
               have hfz261_1 := blk_frozen BK239.out 1
               have hfz261_2 := blk_frozen BK239.out 2
               go_wp2_with (first | ((with_reducible refine gate_callee (f := 18) rfl ?_); refine goesL_ (some 112) rfl rfl Try.func18 (by kernel_rfl) rfl #[.agg #[.slice Ao226 t289.length co226, .int .i64 t292, .slice Ao235 t293.length co235], .agg #[.slice Ao26 t227.length co26, .int .i64 t230, .slice Ao30 t231.length co30]] rfl ml_ ?_; (with_reducible refine (laws_eqParty.calls kj118 _ _ t289 t292 _ _ t293 _ _ t227 t230 _ _ t231 true _ ?side1 ?side2 ?side3 ?side4 ?side5 ?side6 ?side7 ?side8 A243.out).mono ?_); (case side1 => exact (Kd.R_reads' (rf2_ (rt_ (rt_ HO291.out BK301.out) BK302.out))).2.2); (case side2 => exact (Kd.R_reads' HO291.out).2.1); (case side3 => exact (Kd.R_reads' (rf2_ (rt_ (rt_ HO295.out BK301.out) BK302.out))).2.2); (case side4 => exact (Kd.R_reads' HO295.out).2.1); (case side5 => exact (Kd.R_reads' (rf2_ (rt_ (rt_ HO_240000.out BK301.out) BK302.out))).2.2); (case side6 => exact (Kd.R_reads' HO_240000.out).2.1); (case side7 => exact (Kd.R_reads' (rf2_ (rt_ (rt_ HO_240002.out BK301.out) BK302.out))).2.2); (case side8 => exact (Kd.R_reads' HO_240002.out).2.1); rintro e w262 ⟨rfl, hb⟩; refine ⟨_, rfl, ?_⟩; have n0_ := Aside0.mk (Kd.R_below (rf2_ (rt_ (rt_ HO_240000.out BK301.out) BK302.out)) hb); have n1_ := Aside0.mk (Kd.R_below (rf2_ (rt_ (rt_ HO_240002.out BK301.out) BK302.out)) hb); have n2_ := Aside0.mk (Kd.R_below (rf2_ (rt_ (rt_ HO_249000.out BK301.out) BK302.out)) hb); have n3_ := Aside0.mk (Kd.R_below (rf2_ (rt_ (rt_ HO_249002.out BK301.out) BK302.out)) hb); have n4_ := Aside0.mk (Kd.R_below (rf2_ (rt_ (rt_ HO_262000.out BK301.out) BK302.out)) hb); have n5_ := Aside0.mk (Kd.R_below (rf2_ (rt_ (rt_ HO_262002.out BK301.out) BK302.out)) hb); have n6_ := Aside0.mk (Kd.R_below (rf2_ (rt_ (rt_ HO284.out BK301.out) BK302.out)) hb); have n7_ := Aside0.mk (Kd.R_below (rf2_ (rt_ (rt_ HO288.out BK301.out) BK302.out)) hb); have n8_ := Aside0.mk (Kd.R_below (rf2_ (rt_ (rt_ HO291.out BK301.out) BK302.out)) hb); have n9_ := Aside0.mk (Kd.R_below (rf2_ (rt_ (rt_ HO295.out BK301.out) BK302.out)) hb); have n10_ := Aside0.mk (ba_ BK218.out hb); have n11_ := Aside0.mk (ba_ BK239.out hb); have n12_ := Aside0.mk (ba_ BK240.out hb); have n13_ := Aside0.mk (ba_ BK248.out hb); have n14_ := Aside0.mk (ba_ BK261.out hb); have n15_ := Aside0.mk (ba_ BK262.out hb); have n16_ := Aside0.mk (blk_below (g := gb301) (o := .cells #[.slice Ao226 t289.length co226, .int .i64 t292, .slice Ao235 t293.length co235] 26 (0, 0)) (by refine rp_ ?_; refine blk_far ?_ NB301_302.out _; refine rp_ ?_; refine blk_far ?_ NB301_302.out _; refine rp_ ?_; refine blk_far ?_ NB301_302.out _; refine rp_ ?_; refine blk_far ?_ NB301_302.out _; refine rp_ ?_; refine blk_put (cs := #[.slice Ao226 t289.length co226, .int .i64 t292, .slice none 0 0]) ?_ 2 _ rfl; refine rp_ ?_; refine blk_put (cs := #[.slice Ao226 t289.length co226, .int .i64 0, .slice none 0 0]) ?_ 1 _ rfl; refine rp_ ?_; refine blk_put (cs := #[.slice none 0 0, .int .i64 0, .slice none 0 0]) ?_ 0 _ rfl; refine rp_ ?_; exact BK301.out) hb); have n17_ := Aside0.mk (blk_below (g := gb302) (o := .cells #[.int .i64 t296, .int .i64 t297, .int .i64 t298, .string t299] 34 (0, 0)) (by refine rp_ ?_; refine blk_put (cs := #[.int .i64 t296, .int .i64 t297, .int .i64 t298, .string (⟨#[]⟩ : ByteArray)]) ?_ 3 _ rfl; refine rp_ ?_; refine blk_put (cs := #[.int .i64 t296, .int .i64 t297, .int .i64 0, .string (⟨#[]⟩ : ByteArray)]) ?_ 2 _ rfl; refine rp_ ?_; refine blk_put (cs := #[.int .i64 t296, .int .i64 0, .int .i64 0, .string (⟨#[]⟩ : ByteArray)]) ?_ 1 _ rfl; refine rp_ ?_; refine blk_put (cs := #[.int .i64 0, .int .i64 0, .int .i64 0, .string (⟨#[]⟩ : ByteArray)]) ?_ 0 _ rfl; refine rp_ ?_; refine blk_far ?_ NB302_301.out _; refine rp_ ?_; refine blk_far ?_ NB302_301.out _; refine rp_ ?_; refine blk_far ?_ NB302_301.out _; refine rp_ ?_; exact BK302.out) hb); have n18_ := Aside0.mk (below_step (bel_ HB.out) hb); clear HO_240000; clear HO_240002; clear HO_249000; clear HO_249002; clear HO_262000; clear HO_262002; clear HO284; clear HO288; clear HO291; clear HO295; clear BK218; clear BK239; clear BK240; clear BK248; clear BK261; clear BK262; clear BK301; clear BK302; clear HB; have HO_240000 := n0_; have HO_240002 := n1_; have HO_249000 := n2_; have HO_249002 := n3_; have HO_262000 := n4_; have HO_262002 := n5_; have HO284 := n6_; have HO288 := n7_; have HO291 := n8_; have HO295 := n9_; have BK218 := n10_; have BK239 := n11_; have BK240 := n12_; have BK248 := n13_; have BK261 := n14_; have BK262 := n15_; have BK301 := n16_; have BK302 := n17_; have HB := n18_; clear n0_ n1_ n2_ n3_ n4_ n5_ n6_ n7_ n8_ n9_ n10_ n11_ n12_ n13_ n14_ n15_ n16_ n17_ n18_; (try clear hb); (try clear hb2); (try clear hk); (try clear hi); have hnb263 := NB302_218.out; have hnc263 := NB218_302.out; have hnb264 := NB302_240.out; have hnc264 := NB240_302.out; have hnb265 := NB302_248.out; have hnc265 := NB248_302.out; have hnb266 := NB302_261.out; have hnc266 := NB261_302.out; have hnb267 := NB302_262.out; have hnc267 := NB262_302.out; have hcz268_0 : w262.cell? ⟨gb302, 0, none⟩ = some (.int .i64 t296) := (blk_cell BK302.out 0).trans rfl; have hcz268_1 : w262.cell? ⟨gb302, 1, none⟩ = some (.int .i64 t297) := (blk_cell BK302.out 1).trans rfl; have hcz268_2 : w262.cell? ⟨gb302, 2, none⟩ = some (.int .i64 t298) := (blk_cell BK302.out 2).trans rfl; have hcz268_3 : w262.cell? ⟨gb302, 3, none⟩ = some (.string t299) := (blk_cell BK302.out 3).trans rfl; have hfz268_0 := blk_frozen BK302.out 0; have hfz268_1 := blk_frozen BK302.out 1; have hfz268_2 := blk_frozen BK302.out 2; have hfz268_3 := blk_frozen BK302.out 3; have hnb269 := NB240_218.out; have hnc269 := NB218_240.out; have hnb270 := NB240_248.out; have hnc270 := NB248_240.out; have hnb271 := NB240_261.out; have hnc271 := NB261_240.out; have hnb272 := NB240_262.out; have hnc272 := NB262_240.out; have hcz273_0 : w262.cell? ⟨gb240, 0, none⟩ = some (.int .i64 t234) := (blk_cell BK240.out 0).trans rfl; have hcz273_1 : w262.cell? ⟨gb240, 1, none⟩ = some (.int .i64 t235) := (blk_cell BK240.out 1).trans rfl; have hcz273_2 : w262.cell? ⟨gb240, 2, none⟩ = some (.int .i64 t236) := (blk_cell BK240.out 2).trans rfl; have hcz273_3 : w262.cell? ⟨gb240, 3, none⟩ = some (.string t237) := (blk_cell BK240.out 3).trans rfl; have hfz273_0 := blk_frozen BK240.out 0; have hfz273_1 := blk_frozen BK240.out 1; have hfz273_2 := blk_frozen BK240.out 2; have hfz273_3 := blk_frozen BK240.out 3) | (go_at_call 20; (with_reducible refine (laws_eqPost.calls t296 t297 t298 t299 t234 t235 t236 t237 true _ A245.out).mono ?_); rintro e w274 ⟨rfl, hb⟩; have n0_ := Aside0.mk (Kd.R_below (fr_ HO_240000.out) hb); have n1_ := Aside0.mk (Kd.R_below (fr_ HO_240002.out) hb); have n2_ := Aside0.mk (Kd.R_below (fr_ HO_249000.out) hb); have n3_ := Aside0.mk (Kd.R_below (fr_ HO_249002.out) hb); have n4_ := Aside0.mk (Kd.R_below (fr_ HO_262000.out) hb); have n5_ := Aside0.mk (Kd.R_below (fr_ HO_262002.out) hb); have n6_ := Aside0.mk (Kd.R_below (fr_ HO284.out) hb); have n7_ := Aside0.mk (Kd.R_below (fr_ HO288.out) hb); have n8_ := Aside0.mk (Kd.R_below (fr_ HO291.out) hb); have n9_ := Aside0.mk (Kd.R_below (fr_ HO295.out) hb); have n10_ := Aside0.mk (bb_ BK218.out hb); have n11_ := Aside0.mk (bb_ BK239.out hb); have n12_ := Aside0.mk (bb_ BK240.out hb); have n13_ := Aside0.mk (bb_ BK248.out hb); have n14_ := Aside0.mk (bb_ BK261.out hb); have n15_ := Aside0.mk (bb_ BK262.out hb); have n16_ := Aside0.mk (bb_ BK301.out hb); have n17_ := Aside0.mk (bb_ BK302.out hb); have n18_ := Aside0.mk (below_step (bel_ HB.out) hb); clear HO_240000; clear HO_240002; clear HO_249000; clear HO_249002; clear HO_262000; clear HO_262002; clear HO284; clear HO288; clear HO291; clear HO295; clear BK218; clear BK239; clear BK240; clear BK248; clear BK261; clear BK262; clear BK301; clear BK302; clear HB; have HO_240000 := n0_; have HO_240002 := n1_; have HO_249000 := n2_; have HO_249002 := n3_; have HO_262000 := n4_; have HO_262002 := n5_; have HO284 := n6_; have HO288 := n7_; have HO291 := n8_; have HO295 := n9_; have BK218 := n10_; have BK239 := n11_; have BK240 := n12_; have BK248 := n13_; have BK261 := n14_; have BK262 := n15_; have BK301 := n16_; have BK302 := n17_; have HB := n18_; clear n0_ n1_ n2_ n3_ n4_ n5_ n6_ n7_ n8_ n9_ n10_ n11_ n12_ n13_ n14_ n15_ n16_ n17_ n18_; (try clear hb); (try clear hb2); (try clear hk); (try clear hi)))
               go_meet
               case rel => exact ⟨_, ((t300 != t238)), (by first | rfl | (simp; done) | (simp [*]; done) | (simp [wrap64]; done)), H', ⟨by have := HJ14.out; have := HJ118.out; first | omega | exact Nat.le_refl _⟩, ⟨by (try simp only [hl249000_118]); (try simp only [hl249002_118]); (with_reducible repeat (first | apply Kd.R_alloc | apply Kd.R_drewN | apply Kd.R_drew)); exact Kd.R_mono HO_240000.out (fun _ hk => ⟨hk.1.1.1.1.1, ⟨hk.1.1.1.1.2.1, ⟨hk.1.1.1.1.2.2.1, ⟨hk.1.1.1.1.2.2.2.1, ⟨hk.1.1.1.1.2.2.2.2, ⟨hk.1.2, hk.2⟩⟩⟩⟩⟩⟩)⟩, ⟨by (try simp only [hl249000_118]); (try simp only [hl249002_118]); (with_reducible repeat (first | apply Kd.R_alloc | apply Kd.R_drewN | apply Kd.R_drew)); exact Kd.R_mono HO_240002.out (fun _ hk => ⟨hk.1.1.1.1.1, ⟨hk.1.1.1.1.2.1, ⟨hk.1.1.1.1.2.2.1, ⟨hk.1.1.1.1.2.2.2.1, ⟨hk.1.1.1.1.2.2.2.2, ⟨hk.1.2, hk.2⟩⟩⟩⟩⟩⟩)⟩, ⟨by (try simp only [hl249000_118]); (try simp only [hl249002_118]); (with_reducible repeat (first | apply Kd.R_alloc | apply Kd.R_drewN | apply Kd.R_drew)); exact Kd.R_mono HO_249000.out (fun _ hk => ⟨hk.1.1.1.1.1, ⟨hk.1.1.1.1.2.1, ⟨hk.1.1.1.1.2.2.1, ⟨hk.1.1.1.1.2.2.2.1, ⟨hk.1.1.1.1.2.2.2.2, ⟨hk.1.2, hk.2⟩⟩⟩⟩⟩⟩)⟩, ⟨by (try simp only [hl249000_118]); (try simp only [hl249002_118]); (with_reducible repeat (first | apply Kd.R_alloc | apply Kd.R_drewN | apply Kd.R_drew)); exact Kd.R_mono HO_249002.out (fun _ hk => ⟨hk.1.1.1.1.1, ⟨hk.1.1.1.1.2.1, ⟨hk.1.1.1.1.2.2.1, ⟨hk.1.1.1.1.2.2.2.1, ⟨hk.1.1.1.1.2.2.2.2, ⟨hk.1.2, hk.2⟩⟩⟩⟩⟩⟩)⟩, ⟨by (try simp only [hl249000_118]); (try simp only [hl249002_118]); (with_reducible repeat (first | apply Kd.R_alloc | apply Kd.R_drewN | apply Kd.R_drew)); exact Kd.R_mono HO_262000.out (fun _ hk => ⟨hk.1.1.1.1.1, ⟨hk.1.1.1.1.2.1, ⟨hk.1.1.1.1.2.2.1, ⟨hk.1.1.1.1.2.2.2.1, ⟨hk.1.1.1.1.2.2.2.2, ⟨hk.1.2, hk.2⟩⟩⟩⟩⟩⟩)⟩, ⟨by (try simp only [hl249000_118]); (try simp only [hl249002_118]); (with_reducible repeat (first | apply Kd.R_alloc | apply Kd.R_drewN | apply Kd.R_drew)); exact Kd.R_mono HO_262002.out (fun _ hk => ⟨hk.1.1.1.1.1, ⟨hk.1.1.1.1.2.1, ⟨hk.1.1.1.1.2.2.1, ⟨hk.1.1.1.1.2.2.2.1, ⟨hk.1.1.1.1.2.2.2.2, ⟨hk.1.2, hk.2⟩⟩⟩⟩⟩⟩)⟩, ⟨by (try simp only [hl249000_118]); (try simp only [hl249002_118]); (with_reducible repeat (first | apply Kd.R_alloc | apply Kd.R_drewN | apply Kd.R_drew)); exact Kd.R_mono HO291.out (fun _ hk => ⟨hk.1.1.1.1.1.1.1.2, ⟨hk.1.1.1.1.1.1.2, ⟨hk.1.1.1.1.1.2, ⟨hk.1.1.1.1.2, ⟨hk.1.1.1.2, ⟨hk.1.1.2, hk.1.1.1.1.1.1.1.1⟩⟩⟩⟩⟩⟩)⟩, ⟨by (try simp only [hl249000_118]); (try simp only [hl249002_118]); (with_reducible repeat (first | apply Kd.R_alloc | apply Kd.R_drewN | apply Kd.R_drew)); exact Kd.R_mono HO295.out (fun _ hk => ⟨hk.1.1.1.1.1.1.1.2, ⟨hk.1.1.1.1.1.1.2, ⟨hk.1.1.1.1.1.2, ⟨hk.1.1.1.1.2, ⟨hk.1.1.1.2, ⟨hk.1.1.2, hk.1.1.1.1.1.1.1.1⟩⟩⟩⟩⟩⟩)⟩, ⟨by (try simp only [hl249000_118]); (try simp only [hl249002_118]); refine rp_ ?_; exact BK218.out⟩, ⟨by (try simp only [hl249000_118]); (try simp only [hl249002_118]); refine rp_ ?_; exact BK239.out⟩, ⟨by (try simp only [hl249000_118]); (try simp only [hl249002_118]); refine rp_ ?_; exact BK240.out⟩, ⟨by (try simp only [hl249000_118]); (try simp only [hl249002_118]); refine rp_ ?_; exact BK248.out⟩, ⟨by (try simp only [hl249000_118]); (try simp only [hl249002_118]); refine rp_ ?_; exact BK261.out⟩, ⟨by (try simp only [hl249000_118]); (try simp only [hl249002_118]); refine rp_ ?_; exact BK262.out⟩, ⟨by (try simp only [hl249000_118]); (try simp only [hl249002_118]); refine rp_ ?_; exact BK301.out⟩, ⟨by (try simp only [hl249000_118]); (try simp only [hl249002_118]); refine rp_ ?_; exact BK302.out⟩, ⟨bel_ HB.out⟩⟩
              ·replace c246 := Bool.eq_false_iff.mpr c246
               subst c246
               have H1 : (laws_FnExactSend21.j2 kj118 t278 true t279 t252 t280) = some r := by rw [if_neg (show ¬ (false = true) by decide)] at H; exact H
               clear H
               have H := H1
               clear H1
               have H' := Aside0.mk H
               clear H
               have hnb275 := NB301_218.out
               have hnc275 := NB218_301.out
               have hnb276 := NB301_239.out
               have hnc276 := NB239_301.out
               have hnb277 := NB301_240.out
               have hnc277 := NB240_301.out
               have hnb278 := NB301_248.out
               have hnc278 := NB248_301.out
               have hnb279 := NB301_261.out
               have hnc279 := NB261_301.out
               have hnb280 := NB301_262.out
               have hnc280 := NB262_301.out
               have hnb281 := NB301_302.out
               have hnc281 := NB302_301.out
               have hcz282_0 : w225.cell? ⟨gb301, 0, none⟩ = some (.slice none 0 0) := (blk_cell BK301.out 0).trans rfl
               have hcz282_1 : w225.cell? ⟨gb301, 1, none⟩ = some (.int .i64 0) := (blk_cell BK301.out 1).trans rfl
               have hcz282_2 : w225.cell? ⟨gb301, 2, none⟩ = some (.slice none 0 0) := (blk_cell BK301.out 2).trans rfl
               have hfz282_0 := blk_frozen BK301.out 0
               have hfz282_1 := blk_frozen BK301.out 1
               have hfz282_2 := blk_frozen BK301.out 2
               have hnb283 := NB239_218.out
               have hnc283 := NB218_239.out
               have hnb284 := NB239_240.out
               have hnc284 := NB240_239.out
               have hnb285 := NB239_248.out
               have hnc285 := NB248_239.out
               have hnb286 := NB239_261.out
               have hnc286 := NB261_239.out
               have hnb287 := NB239_262.out
               have hnc287 := NB262_239.out
               have hnb288 := NB239_302.out
               have hnc288 := NB302_239.out
               have hcz289_0 : w225.cell? ⟨gb239, 0, none⟩ = some (.slice Ao26 t227.length co26) := (blk_cell BK239.out 0).trans rfl
               have hcz289_1 : w225.cell? ⟨gb239, 1, none⟩ = some (.int .i64 t230) := (blk_cell BK239.out 1).trans rfl
               have hcz289_2 : w225.cell? ⟨gb239, 2, none⟩ = some (.slice Ao30 t231.length co30) := (blk_cell BK239.out 2).trans rfl
               have hfz289_0 := blk_frozen BK239.out 0
               have hfz289_1 := blk_frozen BK239.out 1
               have hfz289_2 := blk_frozen BK239.out 2
               go_wp2_with (first | ((with_reducible refine gate_callee (f := 18) rfl ?_); refine goesL_ (some 112) rfl rfl Try.func18 (by kernel_rfl) rfl #[.agg #[.slice Ao226 t289.length co226, .int .i64 t292, .slice Ao235 t293.length co235], .agg #[.slice Ao26 t227.length co26, .int .i64 t230, .slice Ao30 t231.length co30]] rfl ml_ ?_; (with_reducible refine (laws_eqParty.calls kj118 _ _ t289 t292 _ _ t293 _ _ t227 t230 _ _ t231 true _ ?side1 ?side2 ?side3 ?side4 ?side5 ?side6 ?side7 ?side8 A243.out).mono ?_); (case side1 => exact (Kd.R_reads' (rf2_ (rt_ (rt_ HO291.out BK301.out) BK302.out))).2.2); (case side2 => exact (Kd.R_reads' HO291.out).2.1); (case side3 => exact (Kd.R_reads' (rf2_ (rt_ (rt_ HO295.out BK301.out) BK302.out))).2.2); (case side4 => exact (Kd.R_reads' HO295.out).2.1); (case side5 => exact (Kd.R_reads' (rf2_ (rt_ (rt_ HO_240000.out BK301.out) BK302.out))).2.2); (case side6 => exact (Kd.R_reads' HO_240000.out).2.1); (case side7 => exact (Kd.R_reads' (rf2_ (rt_ (rt_ HO_240002.out BK301.out) BK302.out))).2.2); (case side8 => exact (Kd.R_reads' HO_240002.out).2.1); rintro e w290 ⟨rfl, hb⟩; refine ⟨_, rfl, ?_⟩; have n0_ := Aside0.mk (Kd.R_below (rf2_ (rt_ (rt_ HO_240000.out BK301.out) BK302.out)) hb); have n1_ := Aside0.mk (Kd.R_below (rf2_ (rt_ (rt_ HO_240002.out BK301.out) BK302.out)) hb); have n2_ := Aside0.mk (Kd.R_below (rf2_ (rt_ (rt_ HO_249000.out BK301.out) BK302.out)) hb); have n3_ := Aside0.mk (Kd.R_below (rf2_ (rt_ (rt_ HO_249002.out BK301.out) BK302.out)) hb); have n4_ := Aside0.mk (Kd.R_below (rf2_ (rt_ (rt_ HO_262000.out BK301.out) BK302.out)) hb); have n5_ := Aside0.mk (Kd.R_below (rf2_ (rt_ (rt_ HO_262002.out BK301.out) BK302.out)) hb); have n6_ := Aside0.mk (Kd.R_below (rf2_ (rt_ (rt_ HO284.out BK301.out) BK302.out)) hb); have n7_ := Aside0.mk (Kd.R_below (rf2_ (rt_ (rt_ HO288.out BK301.out) BK302.out)) hb); have n8_ := Aside0.mk (Kd.R_below (rf2_ (rt_ (rt_ HO291.out BK301.out) BK302.out)) hb); have n9_ := Aside0.mk (Kd.R_below (rf2_ (rt_ (rt_ HO295.out BK301.out) BK302.out)) hb); have n10_ := Aside0.mk (ba_ BK218.out hb); have n11_ := Aside0.mk (ba_ BK239.out hb); have n12_ := Aside0.mk (ba_ BK240.out hb); have n13_ := Aside0.mk (ba_ BK248.out hb); have n14_ := Aside0.mk (ba_ BK261.out hb); have n15_ := Aside0.mk (ba_ BK262.out hb); have n16_ := Aside0.mk (blk_below (g := gb301) (o := .cells #[.slice Ao226 t289.length co226, .int .i64 t292, .slice Ao235 t293.length co235] 26 (0, 0)) (by refine rp_ ?_; refine blk_far ?_ NB301_302.out _; refine rp_ ?_; refine blk_far ?_ NB301_302.out _; refine rp_ ?_; refine blk_far ?_ NB301_302.out _; refine rp_ ?_; refine blk_far ?_ NB301_302.out _; refine rp_ ?_; refine blk_put (cs := #[.slice Ao226 t289.length co226, .int .i64 t292, .slice none 0 0]) ?_ 2 _ rfl; refine rp_ ?_; refine blk_put (cs := #[.slice Ao226 t289.length co226, .int .i64 0, .slice none 0 0]) ?_ 1 _ rfl; refine rp_ ?_; refine blk_put (cs := #[.slice none 0 0, .int .i64 0, .slice none 0 0]) ?_ 0 _ rfl; refine rp_ ?_; exact BK301.out) hb); have n17_ := Aside0.mk (blk_below (g := gb302) (o := .cells #[.int .i64 t296, .int .i64 t297, .int .i64 t298, .string t299] 34 (0, 0)) (by refine rp_ ?_; refine blk_put (cs := #[.int .i64 t296, .int .i64 t297, .int .i64 t298, .string (⟨#[]⟩ : ByteArray)]) ?_ 3 _ rfl; refine rp_ ?_; refine blk_put (cs := #[.int .i64 t296, .int .i64 t297, .int .i64 0, .string (⟨#[]⟩ : ByteArray)]) ?_ 2 _ rfl; refine rp_ ?_; refine blk_put (cs := #[.int .i64 t296, .int .i64 0, .int .i64 0, .string (⟨#[]⟩ : ByteArray)]) ?_ 1 _ rfl; refine rp_ ?_; refine blk_put (cs := #[.int .i64 0, .int .i64 0, .int .i64 0, .string (⟨#[]⟩ : ByteArray)]) ?_ 0 _ rfl; refine rp_ ?_; refine blk_far ?_ NB302_301.out _; refine rp_ ?_; refine blk_far ?_ NB302_301.out _; refine rp_ ?_; refine blk_far ?_ NB302_301.out _; refine rp_ ?_; exact BK302.out) hb); have n18_ := Aside0.mk (below_step (bel_ HB.out) hb); clear HO_240000; clear HO_240002; clear HO_249000; clear HO_249002; clear HO_262000; clear HO_262002; clear HO284; clear HO288; clear HO291; clear HO295; clear BK218; clear BK239; clear BK240; clear BK248; clear BK261; clear BK262; clear BK301; clear BK302; clear HB; have HO_240000 := n0_; have HO_240002 := n1_; have HO_249000 := n2_; have HO_249002 := n3_; have HO_262000 := n4_; have HO_262002 := n5_; have HO284 := n6_; have HO288 := n7_; have HO291 := n8_; have HO295 := n9_; have BK218 := n10_; have BK239 := n11_; have BK240 := n12_; have BK248 := n13_; have BK261 := n14_; have BK262 := n15_; have BK301 := n16_; have BK302 := n17_; have HB := n18_; clear n0_ n1_ n2_ n3_ n4_ n5_ n6_ n7_ n8_ n9_ n10_ n11_ n12_ n13_ n14_ n15_ n16_ n17_ n18_; (try clear hb); (try clear hb2); (try clear hk); (try clear hi); have hnb291 := NB302_218.out; have hnc291 := NB218_302.out; have hnb292 := NB302_240.out; have hnc292 := NB240_302.out; have hnb293 := NB302_248.out; have hnc293 := NB248_302.out; have hnb294 := NB302_261.out; have hnc294 := NB261_302.out; have hnb295 := NB302_262.out; have hnc295 := NB262_302.out; have hcz296_0 : w290.cell? ⟨gb302, 0, none⟩ = some (.int .i64 t296) := (blk_cell BK302.out 0).trans rfl; have hcz296_1 : w290.cell? ⟨gb302, 1, none⟩ = some (.int .i64 t297) := (blk_cell BK302.out 1).trans rfl; have hcz296_2 : w290.cell? ⟨gb302, 2, none⟩ = some (.int .i64 t298) := (blk_cell BK302.out 2).trans rfl; have hcz296_3 : w290.cell? ⟨gb302, 3, none⟩ = some (.string t299) := (blk_cell BK302.out 3).trans rfl; have hfz296_0 := blk_frozen BK302.out 0; have hfz296_1 := blk_frozen BK302.out 1; have hfz296_2 := blk_frozen BK302.out 2; have hfz296_3 := blk_frozen BK302.out 3; have hnb297 := NB240_218.out; have hnc297 := NB218_240.out; have hnb298 := NB240_248.out; have hnc298 := NB248_240.out; have hnb299 := NB240_261.out; have hnc299 := NB261_240.out; have hnb300 := NB240_262.out; have hnc300 := NB262_240.out; have hcz301_0 : w290.cell? ⟨gb240, 0, none⟩ = some (.int .i64 t234) := (blk_cell BK240.out 0).trans rfl; have hcz301_1 : w290.cell? ⟨gb240, 1, none⟩ = some (.int .i64 t235) := (blk_cell BK240.out 1).trans rfl; have hcz301_2 : w290.cell? ⟨gb240, 2, none⟩ = some (.int .i64 t236) := (blk_cell BK240.out 2).trans rfl; have hcz301_3 : w290.cell? ⟨gb240, 3, none⟩ = some (.string t237) := (blk_cell BK240.out 3).trans rfl; have hfz301_0 := blk_frozen BK240.out 0; have hfz301_1 := blk_frozen BK240.out 1; have hfz301_2 := blk_frozen BK240.out 2; have hfz301_3 := blk_frozen BK240.out 3) | (go_at_call 20; (with_reducible refine (laws_eqPost.calls t296 t297 t298 t299 t234 t235 t236 t237 false _ A245.out).mono ?_); rintro e w302 ⟨rfl, hb⟩; have n0_ := Aside0.mk (Kd.R_below (fr_ HO_240000.out) hb); have n1_ := Aside0.mk (Kd.R_below (fr_ HO_240002.out) hb); have n2_ := Aside0.mk (Kd.R_below (fr_ HO_249000.out) hb); have n3_ := Aside0.mk (Kd.R_below (fr_ HO_249002.out) hb); have n4_ := Aside0.mk (Kd.R_below (fr_ HO_262000.out) hb); have n5_ := Aside0.mk (Kd.R_below (fr_ HO_262002.out) hb); have n6_ := Aside0.mk (Kd.R_below (fr_ HO284.out) hb); have n7_ := Aside0.mk (Kd.R_below (fr_ HO288.out) hb); have n8_ := Aside0.mk (Kd.R_below (fr_ HO291.out) hb); have n9_ := Aside0.mk (Kd.R_below (fr_ HO295.out) hb); have n10_ := Aside0.mk (bb_ BK218.out hb); have n11_ := Aside0.mk (bb_ BK239.out hb); have n12_ := Aside0.mk (bb_ BK240.out hb); have n13_ := Aside0.mk (bb_ BK248.out hb); have n14_ := Aside0.mk (bb_ BK261.out hb); have n15_ := Aside0.mk (bb_ BK262.out hb); have n16_ := Aside0.mk (bb_ BK301.out hb); have n17_ := Aside0.mk (bb_ BK302.out hb); have n18_ := Aside0.mk (below_step (bel_ HB.out) hb); clear HO_240000; clear HO_240002; clear HO_249000; clear HO_249002; clear HO_262000; clear HO_262002; clear HO284; clear HO288; clear HO291; clear HO295; clear BK218; clear BK239; clear BK240; clear BK248; clear BK261; clear BK262; clear BK301; clear BK302; clear HB; have HO_240000 := n0_; have HO_240002 := n1_; have HO_249000 := n2_; have HO_249002 := n3_; have HO_262000 := n4_; have HO_262002 := n5_; have HO284 := n6_; have HO288 := n7_; have HO291 := n8_; have HO295 := n9_; have BK218 := n10_; have BK239 := n11_; have BK240 := n12_; have BK248 := n13_; have BK261 := n14_; have BK262 := n15_; have BK301 := n16_; have BK302 := n17_; have HB := n18_; clear n0_ n1_ n2_ n3_ n4_ n5_ n6_ n7_ n8_ n9_ n10_ n11_ n12_ n13_ n14_ n15_ n16_ n17_ n18_; (try clear hb); (try clear hb2); (try clear hk); (try clear hi)))
               go_meet
               case rel => exact ⟨_, (true), (by first | rfl | (simp; done) | (simp [*]; done) | (simp [wrap64]; done)), H', ⟨by have := HJ14.out; have := HJ118.out; first | omega | exact Nat.le_refl _⟩, ⟨by (try simp only [hl249000_118]); (try simp only [hl249002_118]); (with_reducible repeat (first | apply Kd.R_alloc | apply Kd.R_drewN | apply Kd.R_drew)); exact Kd.R_mono HO_240000.out (fun _ hk => ⟨hk.1.1.1.1.1, ⟨hk.1.1.1.1.2.1, ⟨hk.1.1.1.1.2.2.1, ⟨hk.1.1.1.1.2.2.2.1, ⟨hk.1.1.1.1.2.2.2.2, ⟨hk.1.2, hk.2⟩⟩⟩⟩⟩⟩)⟩, ⟨by (try simp only [hl249000_118]); (try simp only [hl249002_118]); (with_reducible repeat (first | apply Kd.R_alloc | apply Kd.R_drewN | apply Kd.R_drew)); exact Kd.R_mono HO_240002.out (fun _ hk => ⟨hk.1.1.1.1.1, ⟨hk.1.1.1.1.2.1, ⟨hk.1.1.1.1.2.2.1, ⟨hk.1.1.1.1.2.2.2.1, ⟨hk.1.1.1.1.2.2.2.2, ⟨hk.1.2, hk.2⟩⟩⟩⟩⟩⟩)⟩, ⟨by (try simp only [hl249000_118]); (try simp only [hl249002_118]); (with_reducible repeat (first | apply Kd.R_alloc | apply Kd.R_drewN | apply Kd.R_drew)); exact Kd.R_mono HO_249000.out (fun _ hk => ⟨hk.1.1.1.1.1, ⟨hk.1.1.1.1.2.1, ⟨hk.1.1.1.1.2.2.1, ⟨hk.1.1.1.1.2.2.2.1, ⟨hk.1.1.1.1.2.2.2.2, ⟨hk.1.2, hk.2⟩⟩⟩⟩⟩⟩)⟩, ⟨by (try simp only [hl249000_118]); (try simp only [hl249002_118]); (with_reducible repeat (first | apply Kd.R_alloc | apply Kd.R_drewN | apply Kd.R_drew)); exact Kd.R_mono HO_249002.out (fun _ hk => ⟨hk.1.1.1.1.1, ⟨hk.1.1.1.1.2.1, ⟨hk.1.1.1.1.2.2.1, ⟨hk.1.1.1.1.2.2.2.1, ⟨hk.1.1.1.1.2.2.2.2, ⟨hk.1.2, hk.2⟩⟩⟩⟩⟩⟩)⟩, ⟨by (try simp only [hl249000_118]); (try simp only [hl249002_118]); (with_reducible repeat (first | apply Kd.R_alloc | apply Kd.R_drewN | apply Kd.R_drew)); exact Kd.R_mono HO_262000.out (fun _ hk => ⟨hk.1.1.1.1.1, ⟨hk.1.1.1.1.2.1, ⟨hk.1.1.1.1.2.2.1, ⟨hk.1.1.1.1.2.2.2.1, ⟨hk.1.1.1.1.2.2.2.2, ⟨hk.1.2, hk.2⟩⟩⟩⟩⟩⟩)⟩, ⟨by (try simp only [hl249000_118]); (try simp only [hl249002_118]); (with_reducible repeat (first | apply Kd.R_alloc | apply Kd.R_drewN | apply Kd.R_drew)); exact Kd.R_mono HO_262002.out (fun _ hk => ⟨hk.1.1.1.1.1, ⟨hk.1.1.1.1.2.1, ⟨hk.1.1.1.1.2.2.1, ⟨hk.1.1.1.1.2.2.2.1, ⟨hk.1.1.1.1.2.2.2.2, ⟨hk.1.2, hk.2⟩⟩⟩⟩⟩⟩)⟩, ⟨by (try simp only [hl249000_118]); (try simp only [hl249002_118]); (with_reducible repeat (first | apply Kd.R_alloc | apply Kd.R_drewN | apply Kd.R_drew)); exact Kd.R_mono HO291.out (fun _ hk => ⟨hk.1.1.1.1.1.1.1.2, ⟨hk.1.1.1.1.1.1.2, ⟨hk.1.1.1.1.1.2, ⟨hk.1.1.1.1.2, ⟨hk.1.1.1.2, ⟨hk.1.1.2, hk.1.1.1.1.1.1.1.1⟩⟩⟩⟩⟩⟩)⟩, ⟨by (try simp only [hl249000_118]); (try simp only [hl249002_118]); (with_reducible repeat (first | apply Kd.R_alloc | apply Kd.R_drewN | apply Kd.R_drew)); exact Kd.R_mono HO295.out (fun _ hk => ⟨hk.1.1.1.1.1.1.1.2, ⟨hk.1.1.1.1.1.1.2, ⟨hk.1.1.1.1.1.2, ⟨hk.1.1.1.1.2, ⟨hk.1.1.1.2, ⟨hk.1.1.2, hk.1.1.1.1.1.1.1.1⟩⟩⟩⟩⟩⟩)⟩, ⟨by (try simp only [hl249000_118]); (try simp only [hl249002_118]); refine rp_ ?_; exact BK218.out⟩, ⟨by (try simp only [hl249000_118]); (try simp only [hl249002_118]); refine rp_ ?_; exact BK239.out⟩, ⟨by (try simp only [hl249000_118]); (try simp only [hl249002_118]); refine rp_ ?_; exact BK240.out⟩, ⟨by (try simp only [hl249000_118]); (try simp only [hl249002_118]); refine rp_ ?_; exact BK248.out⟩, ⟨by (try simp only [hl249000_118]); (try simp only [hl249002_118]); refine rp_ ?_; exact BK261.out⟩, ⟨by (try simp only [hl249000_118]); (try simp only [hl249002_118]); refine rp_ ?_; exact BK262.out⟩, ⟨by (try simp only [hl249000_118]); (try simp only [hl249002_118]); refine rp_ ?_; exact BK301.out⟩, ⟨by (try simp only [hl249000_118]); (try simp only [hl249002_118]); refine rp_ ?_; exact BK302.out⟩, ⟨bel_ HB.out⟩⟩
             ·replace c244 := Bool.eq_false_iff.mpr c244
              subst c244
              have H1 : (laws_FnExactSend21.j2 kj118 t278 true t279 t252 t280) = some r := by rw [if_neg (show ¬ (false = true) by decide)] at H; exact H
              clear H
              have H := H1
              clear H1
              have H' := Aside0.mk H
              clear H
              have hnb303 := NB301_218.out
              have hnc303 := NB218_301.out
              have hnb304 := NB301_239.out
              have hnc304 := NB239_301.out
              have hnb305 := NB301_240.out
              have hnc305 := NB240_301.out
              have hnb306 := NB301_248.out
              have hnc306 := NB248_301.out
              have hnb307 := NB301_261.out
              have hnc307 := NB261_301.out
              have hnb308 := NB301_262.out
              have hnc308 := NB262_301.out
              have hnb309 := NB301_302.out
              have hnc309 := NB302_301.out
              have hcz310_0 : w225.cell? ⟨gb301, 0, none⟩ = some (.slice none 0 0) := (blk_cell BK301.out 0).trans rfl
              have hcz310_1 : w225.cell? ⟨gb301, 1, none⟩ = some (.int .i64 0) := (blk_cell BK301.out 1).trans rfl
              have hcz310_2 : w225.cell? ⟨gb301, 2, none⟩ = some (.slice none 0 0) := (blk_cell BK301.out 2).trans rfl
              have hfz310_0 := blk_frozen BK301.out 0
              have hfz310_1 := blk_frozen BK301.out 1
              have hfz310_2 := blk_frozen BK301.out 2
              have hnb311 := NB239_218.out
              have hnc311 := NB218_239.out
              have hnb312 := NB239_240.out
              have hnc312 := NB240_239.out
              have hnb313 := NB239_248.out
              have hnc313 := NB248_239.out
              have hnb314 := NB239_261.out
              have hnc314 := NB261_239.out
              have hnb315 := NB239_262.out
              have hnc315 := NB262_239.out
              have hnb316 := NB239_302.out
              have hnc316 := NB302_239.out
              have hcz317_0 : w225.cell? ⟨gb239, 0, none⟩ = some (.slice Ao26 t227.length co26) := (blk_cell BK239.out 0).trans rfl
              have hcz317_1 : w225.cell? ⟨gb239, 1, none⟩ = some (.int .i64 t230) := (blk_cell BK239.out 1).trans rfl
              have hcz317_2 : w225.cell? ⟨gb239, 2, none⟩ = some (.slice Ao30 t231.length co30) := (blk_cell BK239.out 2).trans rfl
              have hfz317_0 := blk_frozen BK239.out 0
              have hfz317_1 := blk_frozen BK239.out 1
              have hfz317_2 := blk_frozen BK239.out 2
              go_wp2_with (first | ((with_reducible refine gate_callee (f := 18) rfl ?_); refine goesL_ (some 112) rfl rfl Try.func18 (by kernel_rfl) rfl #[.agg #[.slice Ao226 t289.length co226, .int .i64 t292, .slice Ao235 t293.length co235], .agg #[.slice Ao26 t227.length co26, .int .i64 t230, .slice Ao30 t231.length co30]] rfl ml_ ?_; (with_reducible refine (laws_eqParty.calls kj118 _ _ t289 t292 _ _ t293 _ _ t227 t230 _ _ t231 false _ ?side1 ?side2 ?side3 ?side4 ?side5 ?side6 ?side7 ?side8 A243.out).mono ?_); (case side1 => exact (Kd.R_reads' (rf2_ (rt_ (rt_ HO291.out BK301.out) BK302.out))).2.2); (case side2 => exact (Kd.R_reads' HO291.out).2.1); (case side3 => exact (Kd.R_reads' (rf2_ (rt_ (rt_ HO295.out BK301.out) BK302.out))).2.2); (case side4 => exact (Kd.R_reads' HO295.out).2.1); (case side5 => exact (Kd.R_reads' (rf2_ (rt_ (rt_ HO_240000.out BK301.out) BK302.out))).2.2); (case side6 => exact (Kd.R_reads' HO_240000.out).2.1); (case side7 => exact (Kd.R_reads' (rf2_ (rt_ (rt_ HO_240002.out BK301.out) BK302.out))).2.2); (case side8 => exact (Kd.R_reads' HO_240002.out).2.1); rintro e w318 ⟨rfl, hb⟩; refine ⟨_, rfl, ?_⟩; have n0_ := Aside0.mk (Kd.R_below (rf2_ (rt_ (rt_ HO_240000.out BK301.out) BK302.out)) hb); have n1_ := Aside0.mk (Kd.R_below (rf2_ (rt_ (rt_ HO_240002.out BK301.out) BK302.out)) hb); have n2_ := Aside0.mk (Kd.R_below (rf2_ (rt_ (rt_ HO_249000.out BK301.out) BK302.out)) hb); have n3_ := Aside0.mk (Kd.R_below (rf2_ (rt_ (rt_ HO_249002.out BK301.out) BK302.out)) hb); have n4_ := Aside0.mk (Kd.R_below (rf2_ (rt_ (rt_ HO_262000.out BK301.out) BK302.out)) hb); have n5_ := Aside0.mk (Kd.R_below (rf2_ (rt_ (rt_ HO_262002.out BK301.out) BK302.out)) hb); have n6_ := Aside0.mk (Kd.R_below (rf2_ (rt_ (rt_ HO284.out BK301.out) BK302.out)) hb); have n7_ := Aside0.mk (Kd.R_below (rf2_ (rt_ (rt_ HO288.out BK301.out) BK302.out)) hb); have n8_ := Aside0.mk (Kd.R_below (rf2_ (rt_ (rt_ HO291.out BK301.out) BK302.out)) hb); have n9_ := Aside0.mk (Kd.R_below (rf2_ (rt_ (rt_ HO295.out BK301.out) BK302.out)) hb); have n10_ := Aside0.mk (ba_ BK218.out hb); have n11_ := Aside0.mk (ba_ BK239.out hb); have n12_ := Aside0.mk (ba_ BK240.out hb); have n13_ := Aside0.mk (ba_ BK248.out hb); have n14_ := Aside0.mk (ba_ BK261.out hb); have n15_ := Aside0.mk (ba_ BK262.out hb); have n16_ := Aside0.mk (blk_below (g := gb301) (o := .cells #[.slice Ao226 t289.length co226, .int .i64 t292, .slice Ao235 t293.length co235] 26 (0, 0)) (by refine rp_ ?_; refine blk_far ?_ NB301_302.out _; refine rp_ ?_; refine blk_far ?_ NB301_302.out _; refine rp_ ?_; refine blk_far ?_ NB301_302.out _; refine rp_ ?_; refine blk_far ?_ NB301_302.out _; refine rp_ ?_; refine blk_put (cs := #[.slice Ao226 t289.length co226, .int .i64 t292, .slice none 0 0]) ?_ 2 _ rfl; refine rp_ ?_; refine blk_put (cs := #[.slice Ao226 t289.length co226, .int .i64 0, .slice none 0 0]) ?_ 1 _ rfl; refine rp_ ?_; refine blk_put (cs := #[.slice none 0 0, .int .i64 0, .slice none 0 0]) ?_ 0 _ rfl; refine rp_ ?_; exact BK301.out) hb); have n17_ := Aside0.mk (blk_below (g := gb302) (o := .cells #[.int .i64 t296, .int .i64 t297, .int .i64 t298, .string t299] 34 (0, 0)) (by refine rp_ ?_; refine blk_put (cs := #[.int .i64 t296, .int .i64 t297, .int .i64 t298, .string (⟨#[]⟩ : ByteArray)]) ?_ 3 _ rfl; refine rp_ ?_; refine blk_put (cs := #[.int .i64 t296, .int .i64 t297, .int .i64 0, .string (⟨#[]⟩ : ByteArray)]) ?_ 2 _ rfl; refine rp_ ?_; refine blk_put (cs := #[.int .i64 t296, .int .i64 0, .int .i64 0, .string (⟨#[]⟩ : ByteArray)]) ?_ 1 _ rfl; refine rp_ ?_; refine blk_put (cs := #[.int .i64 0, .int .i64 0, .int .i64 0, .string (⟨#[]⟩ : ByteArray)]) ?_ 0 _ rfl; refine rp_ ?_; refine blk_far ?_ NB302_301.out _; refine rp_ ?_; refine blk_far ?_ NB302_301.out _; refine rp_ ?_; refine blk_far ?_ NB302_301.out _; refine rp_ ?_; exact BK302.out) hb); have n18_ := Aside0.mk (below_step (bel_ HB.out) hb); clear HO_240000; clear HO_240002; clear HO_249000; clear HO_249002; clear HO_262000; clear HO_262002; clear HO284; clear HO288; clear HO291; clear HO295; clear BK218; clear BK239; clear BK240; clear BK248; clear BK261; clear BK262; clear BK301; clear BK302; clear HB; have HO_240000 := n0_; have HO_240002 := n1_; have HO_249000 := n2_; have HO_249002 := n3_; have HO_262000 := n4_; have HO_262002 := n5_; have HO284 := n6_; have HO288 := n7_; have HO291 := n8_; have HO295 := n9_; have BK218 := n10_; have BK239 := n11_; have BK240 := n12_; have BK248 := n13_; have BK261 := n14_; have BK262 := n15_; have BK301 := n16_; have BK302 := n17_; have HB := n18_; clear n0_ n1_ n2_ n3_ n4_ n5_ n6_ n7_ n8_ n9_ n10_ n11_ n12_ n13_ n14_ n15_ n16_ n17_ n18_; (try clear hb); (try clear hb2); (try clear hk); (try clear hi)))
              go_meet
              case rel => exact ⟨_, (true), (by first | rfl | (simp; done) | (simp [*]; done) | (simp [wrap64]; done)), H', ⟨by have := HJ14.out; have := HJ118.out; first | omega | exact Nat.le_refl _⟩, ⟨by (try simp only [hl249000_118]); (try simp only [hl249002_118]); (with_reducible repeat (first | apply Kd.R_alloc | apply Kd.R_drewN | apply Kd.R_drew)); exact Kd.R_mono HO_240000.out (fun _ hk => ⟨hk.1.1.1.1.1, ⟨hk.1.1.1.1.2.1, ⟨hk.1.1.1.1.2.2.1, ⟨hk.1.1.1.1.2.2.2.1, ⟨hk.1.1.1.1.2.2.2.2, ⟨hk.1.2, hk.2⟩⟩⟩⟩⟩⟩)⟩, ⟨by (try simp only [hl249000_118]); (try simp only [hl249002_118]); (with_reducible repeat (first | apply Kd.R_alloc | apply Kd.R_drewN | apply Kd.R_drew)); exact Kd.R_mono HO_240002.out (fun _ hk => ⟨hk.1.1.1.1.1, ⟨hk.1.1.1.1.2.1, ⟨hk.1.1.1.1.2.2.1, ⟨hk.1.1.1.1.2.2.2.1, ⟨hk.1.1.1.1.2.2.2.2, ⟨hk.1.2, hk.2⟩⟩⟩⟩⟩⟩)⟩, ⟨by (try simp only [hl249000_118]); (try simp only [hl249002_118]); (with_reducible repeat (first | apply Kd.R_alloc | apply Kd.R_drewN | apply Kd.R_drew)); exact Kd.R_mono HO_249000.out (fun _ hk => ⟨hk.1.1.1.1.1, ⟨hk.1.1.1.1.2.1, ⟨hk.1.1.1.1.2.2.1, ⟨hk.1.1.1.1.2.2.2.1, ⟨hk.1.1.1.1.2.2.2.2, ⟨hk.1.2, hk.2⟩⟩⟩⟩⟩⟩)⟩, ⟨by (try simp only [hl249000_118]); (try simp only [hl249002_118]); (with_reducible repeat (first | apply Kd.R_alloc | apply Kd.R_drewN | apply Kd.R_drew)); exact Kd.R_mono HO_249002.out (fun _ hk => ⟨hk.1.1.1.1.1, ⟨hk.1.1.1.1.2.1, ⟨hk.1.1.1.1.2.2.1, ⟨hk.1.1.1.1.2.2.2.1, ⟨hk.1.1.1.1.2.2.2.2, ⟨hk.1.2, hk.2⟩⟩⟩⟩⟩⟩)⟩, ⟨by (try simp only [hl249000_118]); (try simp only [hl249002_118]); (with_reducible repeat (first | apply Kd.R_alloc | apply Kd.R_drewN | apply Kd.R_drew)); exact Kd.R_mono HO_262000.out (fun _ hk => ⟨hk.1.1.1.1.1, ⟨hk.1.1.1.1.2.1, ⟨hk.1.1.1.1.2.2.1, ⟨hk.1.1.1.1.2.2.2.1, ⟨hk.1.1.1.1.2.2.2.2, ⟨hk.1.2, hk.2⟩⟩⟩⟩⟩⟩)⟩, ⟨by (try simp only [hl249000_118]); (try simp only [hl249002_118]); (with_reducible repeat (first | apply Kd.R_alloc | apply Kd.R_drewN | apply Kd.R_drew)); exact Kd.R_mono HO_262002.out (fun _ hk => ⟨hk.1.1.1.1.1, ⟨hk.1.1.1.1.2.1, ⟨hk.1.1.1.1.2.2.1, ⟨hk.1.1.1.1.2.2.2.1, ⟨hk.1.1.1.1.2.2.2.2, ⟨hk.1.2, hk.2⟩⟩⟩⟩⟩⟩)⟩, ⟨by (try simp only [hl249000_118]); (try simp only [hl249002_118]); (with_reducible repeat (first | apply Kd.R_alloc | apply Kd.R_drewN | apply Kd.R_drew)); exact Kd.R_mono HO291.out (fun _ hk => ⟨hk.1.1.1.1.1.1.1.2, ⟨hk.1.1.1.1.1.1.2, ⟨hk.1.1.1.1.1.2, ⟨hk.1.1.1.1.2, ⟨hk.1.1.1.2, ⟨hk.1.1.2, hk.1.1.1.1.1.1.1.1⟩⟩⟩⟩⟩⟩)⟩, ⟨by (try simp only [hl249000_118]); (try simp only [hl249002_118]); (with_reducible repeat (first | apply Kd.R_alloc | apply Kd.R_drewN | apply Kd.R_drew)); exact Kd.R_mono HO295.out (fun _ hk => ⟨hk.1.1.1.1.1.1.1.2, ⟨hk.1.1.1.1.1.1.2, ⟨hk.1.1.1.1.1.2, ⟨hk.1.1.1.1.2, ⟨hk.1.1.1.2, ⟨hk.1.1.2, hk.1.1.1.1.1.1.1.1⟩⟩⟩⟩⟩⟩)⟩, ⟨by (try simp only [hl249000_118]); (try simp only [hl249002_118]); refine rp_ ?_; exact BK218.out⟩, ⟨by (try simp only [hl249000_118]); (try simp only [hl249002_118]); refine rp_ ?_; exact BK239.out⟩, ⟨by (try simp only [hl249000_118]); (try simp only [hl249002_118]); refine rp_ ?_; exact BK240.out⟩, ⟨by (try simp only [hl249000_118]); (try simp only [hl249002_118]); refine rp_ ?_; exact BK248.out⟩, ⟨by (try simp only [hl249000_118]); (try simp only [hl249002_118]); refine rp_ ?_; exact BK261.out⟩, ⟨by (try simp only [hl249000_118]); (try simp only [hl249002_118]); refine rp_ ?_; exact BK262.out⟩, ⟨by (try simp only [hl249000_118]); (try simp only [hl249002_118]); refine rp_ ?_; exact BK301.out⟩, ⟨by (try simp only [hl249000_118]); (try simp only [hl249002_118]); refine rp_ ?_; exact BK302.out⟩, ⟨bel_ HB.out⟩⟩
            case rest =>
             clear HC205
             try clear c7
             try clear c114
             try clear c117
             try clear c189
             try clear c192
             try clear c192b0
             try clear c202
             try clear c202b0
             try clear c202b1
             try clear hcz130_0
             try clear hcz130_1
             try clear hcz130_2
             try clear hcz17_0
             try clear hcz17_1
             try clear hcz17_2
             try clear hcz19_0
             try clear hcz19_1
             try clear hcz19_2
             try clear hcz211_0
             try clear hcz211_1
             try clear hcz211_2
             try clear hcz213_0
             try clear hcz213_1
             try clear hcz213_2
             try clear hcz219_0
             try clear hcz219_1
             try clear hcz219_2
             try clear hcz234_0
             try clear hcz234_1
             try clear hcz234_2
             try clear hcz242_0
             try clear hcz242_1
             try clear hcz242_2
             try clear hcz242_3
             try clear hcz29_0
             try clear hcz29_1
             try clear hcz29_2
             try clear hcz32_0
             try clear hcz32_1
             try clear hcz32_2
             try clear hcz32_3
             try clear hcz33_0
             try clear hcz33_1
             try clear hcz33_2
             try clear hcz40_0
             try clear hcz40_1
             try clear hcz40_2
             try clear hcz51_0
             try clear hcz51_1
             try clear hcz51_2
             try clear hcz57_0
             try clear hcz57_1
             try clear hcz57_2
             try clear hcz57_3
             try clear hfz130_0
             try clear hfz130_1
             try clear hfz130_2
             try clear hfz17_0
             try clear hfz17_1
             try clear hfz17_2
             try clear hfz19_0
             try clear hfz19_1
             try clear hfz19_2
             try clear hfz211_0
             try clear hfz211_1
             try clear hfz211_2
             try clear hfz213_0
             try clear hfz213_1
             try clear hfz213_2
             try clear hfz219_0
             try clear hfz219_1
             try clear hfz219_2
             try clear hfz234_0
             try clear hfz234_1
             try clear hfz234_2
             try clear hfz242_0
             try clear hfz242_1
             try clear hfz242_2
             try clear hfz242_3
             try clear hfz29_0
             try clear hfz29_1
             try clear hfz29_2
             try clear hfz32_0
             try clear hfz32_1
             try clear hfz32_2
             try clear hfz32_3
             try clear hfz33_0
             try clear hfz33_1
             try clear hfz33_2
             try clear hfz40_0
             try clear hfz40_1
             try clear hfz40_2
             try clear hfz51_0
             try clear hfz51_1
             try clear hfz51_2
             try clear hfz57_0
             try clear hfz57_1
             try clear hfz57_2
             try clear hfz57_3
             obtain ⟨kq, x124_204, rfl, HA, HJ204, HO_240000, HO_240002, HO_249000, HO_249002, HO_262000, HO_262002, HO_302000, HO_302002, BK218, BK239, BK240, BK248, BK261, BK262, BK301, BK302, HB⟩ := hcut
             have hl262000_204 := (Kd.R_reads' HO_262000.out).1
             rw [hl262000_204] at HO_262000
             (try simp only [hl262000_204])
             (try simp only [hl262000_204] at BK218)
             (try simp only [hl262000_204] at BK239)
             (try simp only [hl262000_204] at BK240)
             (try simp only [hl262000_204] at BK248)
             (try simp only [hl262000_204] at BK261)
             (try simp only [hl262000_204] at BK262)
             (try simp only [hl262000_204] at BK301)
             (try simp only [hl262000_204] at BK302)
             (try simp only [hl262000_204] at HO_240000)
             (try simp only [hl262000_204] at HO_240002)
             (try simp only [hl262000_204] at HO_249000)
             (try simp only [hl262000_204] at HO_249002)
             (try simp only [hl262000_204] at HO_262002)
             (try simp only [hl262000_204] at HO_302000)
             (try simp only [hl262000_204] at HO_302002)
             have hl262002_204 := (Kd.R_reads' HO_262002.out).1
             rw [hl262002_204] at HO_262002
             (try simp only [hl262002_204])
             (try simp only [hl262002_204] at BK218)
             (try simp only [hl262002_204] at BK239)
             (try simp only [hl262002_204] at BK240)
             (try simp only [hl262002_204] at BK248)
             (try simp only [hl262002_204] at BK261)
             (try simp only [hl262002_204] at BK262)
             (try simp only [hl262002_204] at BK301)
             (try simp only [hl262002_204] at BK302)
             (try simp only [hl262002_204] at HO_240000)
             (try simp only [hl262002_204] at HO_240002)
             (try simp only [hl262002_204] at HO_249000)
             (try simp only [hl262002_204] at HO_249002)
             (try simp only [hl262002_204] at HO_262000)
             (try simp only [hl262002_204] at HO_302000)
             (try simp only [hl262002_204] at HO_302002)
             cases kq with
             | zero => exact absurd HA.out (by simp [laws_FnExactSend21.j2])
             | succ kj204 =>
              have H := HA.out
              clear HA
              simp only [laws_FnExactSend21.j2] at H
              by_cases c319 : x124_204 = true
              ·subst c319
               have H1 : (some false) = some r := by rw [if_pos rfl] at H; exact H
               clear H
               have H := H1
               clear H1
               obtain rfl := Option.some.inj H
               go_wp2
               go_ret
               exact ⟨by first | rfl | (simp [errW_none, errW_some] <;> rfl) | (simp [*, errW_none, errW_some] <;> rfl), bel_ HB.out⟩
              ·replace c319 := Bool.eq_false_iff.mpr c319
               subst c319
               have H1 : ((laws_heldParty.f kj204 t279 t252 t280 1).bind fun t305 => (if t305 < 0 then (some false) else (if t305 = t278 then (some true) else (some false)))) = some r := by rw [if_neg (show ¬ (false = true) by decide)] at H; exact H
               clear H
               have H := H1
               clear H1
               replace H := Option.bind_eq_some_iff.mp H
               obtain ⟨t305, A3200, H⟩ := H
               replace H : (if t305 < 0 then (some false) else (if t305 = t278 then (some true) else (some false))) = some r := H
               have A320 := Aside0.mk A3200
               clear A3200
               by_cases c321 : t305 < 0
               ·rw [if_pos c321] at H
                have c321b0 : decide (t305 < 0) = true := decide_eq_true c321
                clear c321
                obtain rfl := Option.some.inj H
                have hnb322 := NB261_218.out
                have hnc322 := NB218_261.out
                have hnb323 := NB261_239.out
                have hnc323 := NB239_261.out
                have hnb324 := NB261_240.out
                have hnc324 := NB240_261.out
                have hnb325 := NB261_248.out
                have hnc325 := NB248_261.out
                have hnb326 := NB261_262.out
                have hnc326 := NB262_261.out
                have hnb327 := NB261_301.out
                have hnc327 := NB301_261.out
                have hnb328 := NB261_302.out
                have hnc328 := NB302_261.out
                have hcz329_0 : wc.cell? ⟨gb261, 0, none⟩ = some (.slice Ao45 t279.length co45) := (blk_cell BK261.out 0).trans rfl
                have hcz329_1 : wc.cell? ⟨gb261, 1, none⟩ = some (.int .i64 t252) := (blk_cell BK261.out 1).trans rfl
                have hcz329_2 : wc.cell? ⟨gb261, 2, none⟩ = some (.slice Ao52 t280.length co52) := (blk_cell BK261.out 2).trans rfl
                have hfz329_0 := blk_frozen BK261.out 0
                have hfz329_1 := blk_frozen BK261.out 1
                have hfz329_2 := blk_frozen BK261.out 2
                go_wp2_with (first | ((with_reducible refine gate_callee (f := 22) rfl ?_); refine goesL_ (some 127) rfl rfl Try.func22 (by kernel_rfl) rfl #[.agg #[.slice Ao45 t279.length co45, .int .i64 t252, .slice Ao52 t280.length co52], .int .i64 1] rfl ml_ ?_; (with_reducible refine (laws_heldParty.calls kj204 _ _ t279 t252 _ _ t280 1 t305 _ ?side1 ?side2 ?side3 ?side4 A320.out).mono ?_); (case side1 => exact rc_ (Kd.R_reads' HO_262000.out).2.2); (case side2 => exact (Kd.R_reads' HO_262000.out).2.1); (case side3 => exact rc_ (Kd.R_reads' HO_262002.out).2.2); (case side4 => exact (Kd.R_reads' HO_262002.out).2.1); rintro e w330 ⟨rfl, hb⟩; refine ⟨_, rfl, ?_⟩; have n0_ := Aside0.mk (Kd.R_below (fr_ HO_240000.out) hb); have n1_ := Aside0.mk (Kd.R_below (fr_ HO_240002.out) hb); have n2_ := Aside0.mk (Kd.R_below (fr_ HO_249000.out) hb); have n3_ := Aside0.mk (Kd.R_below (fr_ HO_249002.out) hb); have n4_ := Aside0.mk (Kd.R_below (fr_ HO_262000.out) hb); have n5_ := Aside0.mk (Kd.R_below (fr_ HO_262002.out) hb); have n6_ := Aside0.mk (Kd.R_below (fr_ HO_302000.out) hb); have n7_ := Aside0.mk (Kd.R_below (fr_ HO_302002.out) hb); have n8_ := Aside0.mk (bb_ BK218.out hb); have n9_ := Aside0.mk (bb_ BK239.out hb); have n10_ := Aside0.mk (bb_ BK240.out hb); have n11_ := Aside0.mk (bb_ BK248.out hb); have n12_ := Aside0.mk (bb_ BK261.out hb); have n13_ := Aside0.mk (bb_ BK262.out hb); have n14_ := Aside0.mk (bb_ BK301.out hb); have n15_ := Aside0.mk (bb_ BK302.out hb); have n16_ := Aside0.mk (below_step (bel_ HB.out) hb); clear HO_240000; clear HO_240002; clear HO_249000; clear HO_249002; clear HO_262000; clear HO_262002; clear HO_302000; clear HO_302002; clear BK218; clear BK239; clear BK240; clear BK248; clear BK261; clear BK262; clear BK301; clear BK302; clear HB; have HO_240000 := n0_; have HO_240002 := n1_; have HO_249000 := n2_; have HO_249002 := n3_; have HO_262000 := n4_; have HO_262002 := n5_; have HO_302000 := n6_; have HO_302002 := n7_; have BK218 := n8_; have BK239 := n9_; have BK240 := n10_; have BK248 := n11_; have BK261 := n12_; have BK262 := n13_; have BK301 := n14_; have BK302 := n15_; have HB := n16_; clear n0_ n1_ n2_ n3_ n4_ n5_ n6_ n7_ n8_ n9_ n10_ n11_ n12_ n13_ n14_ n15_ n16_; (try clear hb); (try clear hb2); (try clear hk); (try clear hi)))
                go_ret
                exact ⟨by first | rfl | (simp [errW_none, errW_some] <;> rfl) | (simp [*, errW_none, errW_some] <;> rfl), bel_ HB.out⟩
               ·rw [if_neg c321] at H
                have c321b0 : decide (t305 < 0) = false := decide_eq_false c321
                clear c321
                by_cases c331 : t305 = t278
                ·rw [if_pos c331] at H
                 have c331b0 : (t305 == t278) = true := beq_iff_eq.mpr c331
                 have c331b1 : (t305 != t278) = false := bne_eq_false_iff_eq.mpr c331
                 clear c331
                 obtain rfl := Option.some.inj H
                 have hnb332 := NB261_218.out
                 have hnc332 := NB218_261.out
                 have hnb333 := NB261_239.out
                 have hnc333 := NB239_261.out
                 have hnb334 := NB261_240.out
                 have hnc334 := NB240_261.out
                 have hnb335 := NB261_248.out
                 have hnc335 := NB248_261.out
                 have hnb336 := NB261_262.out
                 have hnc336 := NB262_261.out
                 have hnb337 := NB261_301.out
                 have hnc337 := NB301_261.out
                 have hnb338 := NB261_302.out
                 have hnc338 := NB302_261.out
                 have hcz339_0 : wc.cell? ⟨gb261, 0, none⟩ = some (.slice Ao45 t279.length co45) := (blk_cell BK261.out 0).trans rfl
                 have hcz339_1 : wc.cell? ⟨gb261, 1, none⟩ = some (.int .i64 t252) := (blk_cell BK261.out 1).trans rfl
                 have hcz339_2 : wc.cell? ⟨gb261, 2, none⟩ = some (.slice Ao52 t280.length co52) := (blk_cell BK261.out 2).trans rfl
                 have hfz339_0 := blk_frozen BK261.out 0
                 have hfz339_1 := blk_frozen BK261.out 1
                 have hfz339_2 := blk_frozen BK261.out 2
                 go_wp2_with (first | ((with_reducible refine gate_callee (f := 22) rfl ?_); refine goesL_ (some 127) rfl rfl Try.func22 (by kernel_rfl) rfl #[.agg #[.slice Ao45 t279.length co45, .int .i64 t252, .slice Ao52 t280.length co52], .int .i64 1] rfl ml_ ?_; (with_reducible refine (laws_heldParty.calls kj204 _ _ t279 t252 _ _ t280 1 t305 _ ?side1 ?side2 ?side3 ?side4 A320.out).mono ?_); (case side1 => exact rc_ (Kd.R_reads' HO_262000.out).2.2); (case side2 => exact (Kd.R_reads' HO_262000.out).2.1); (case side3 => exact rc_ (Kd.R_reads' HO_262002.out).2.2); (case side4 => exact (Kd.R_reads' HO_262002.out).2.1); rintro e w340 ⟨rfl, hb⟩; refine ⟨_, rfl, ?_⟩; have n0_ := Aside0.mk (Kd.R_below (fr_ HO_240000.out) hb); have n1_ := Aside0.mk (Kd.R_below (fr_ HO_240002.out) hb); have n2_ := Aside0.mk (Kd.R_below (fr_ HO_249000.out) hb); have n3_ := Aside0.mk (Kd.R_below (fr_ HO_249002.out) hb); have n4_ := Aside0.mk (Kd.R_below (fr_ HO_262000.out) hb); have n5_ := Aside0.mk (Kd.R_below (fr_ HO_262002.out) hb); have n6_ := Aside0.mk (Kd.R_below (fr_ HO_302000.out) hb); have n7_ := Aside0.mk (Kd.R_below (fr_ HO_302002.out) hb); have n8_ := Aside0.mk (bb_ BK218.out hb); have n9_ := Aside0.mk (bb_ BK239.out hb); have n10_ := Aside0.mk (bb_ BK240.out hb); have n11_ := Aside0.mk (bb_ BK248.out hb); have n12_ := Aside0.mk (bb_ BK261.out hb); have n13_ := Aside0.mk (bb_ BK262.out hb); have n14_ := Aside0.mk (bb_ BK301.out hb); have n15_ := Aside0.mk (bb_ BK302.out hb); have n16_ := Aside0.mk (below_step (bel_ HB.out) hb); clear HO_240000; clear HO_240002; clear HO_249000; clear HO_249002; clear HO_262000; clear HO_262002; clear HO_302000; clear HO_302002; clear BK218; clear BK239; clear BK240; clear BK248; clear BK261; clear BK262; clear BK301; clear BK302; clear HB; have HO_240000 := n0_; have HO_240002 := n1_; have HO_249000 := n2_; have HO_249002 := n3_; have HO_262000 := n4_; have HO_262002 := n5_; have HO_302000 := n6_; have HO_302002 := n7_; have BK218 := n8_; have BK239 := n9_; have BK240 := n10_; have BK248 := n11_; have BK261 := n12_; have BK262 := n13_; have BK301 := n14_; have BK302 := n15_; have HB := n16_; clear n0_ n1_ n2_ n3_ n4_ n5_ n6_ n7_ n8_ n9_ n10_ n11_ n12_ n13_ n14_ n15_ n16_; (try clear hb); (try clear hb2); (try clear hk); (try clear hi)))
                 go_ret
                 exact ⟨by first | rfl | (simp [errW_none, errW_some] <;> rfl) | (simp [*, errW_none, errW_some] <;> rfl), bel_ HB.out⟩
                ·rw [if_neg c331] at H
                 have c331b0 : (t305 == t278) = false := beq_eq_false_iff_ne.mpr c331
                 have c331b1 : (t305 != t278) = true := bne_iff_ne.mpr c331
                 obtain rfl := Option.some.inj H
                 have hnb341 := NB261_218.out
                 have hnc341 := NB218_261.out
                 have hnb342 := NB261_239.out
                 have hnc342 := NB239_261.out
                 have hnb343 := NB261_240.out
                 have hnc343 := NB240_261.out
                 have hnb344 := NB261_248.out
                 have hnc344 := NB248_261.out
                 have hnb345 := NB261_262.out
                 have hnc345 := NB262_261.out
                 have hnb346 := NB261_301.out
                 have hnc346 := NB301_261.out
                 have hnb347 := NB261_302.out
                 have hnc347 := NB302_261.out
                 have hcz348_0 : wc.cell? ⟨gb261, 0, none⟩ = some (.slice Ao45 t279.length co45) := (blk_cell BK261.out 0).trans rfl
                 have hcz348_1 : wc.cell? ⟨gb261, 1, none⟩ = some (.int .i64 t252) := (blk_cell BK261.out 1).trans rfl
                 have hcz348_2 : wc.cell? ⟨gb261, 2, none⟩ = some (.slice Ao52 t280.length co52) := (blk_cell BK261.out 2).trans rfl
                 have hfz348_0 := blk_frozen BK261.out 0
                 have hfz348_1 := blk_frozen BK261.out 1
                 have hfz348_2 := blk_frozen BK261.out 2
                 go_wp2_with (first | ((with_reducible refine gate_callee (f := 22) rfl ?_); refine goesL_ (some 127) rfl rfl Try.func22 (by kernel_rfl) rfl #[.agg #[.slice Ao45 t279.length co45, .int .i64 t252, .slice Ao52 t280.length co52], .int .i64 1] rfl ml_ ?_; (with_reducible refine (laws_heldParty.calls kj204 _ _ t279 t252 _ _ t280 1 t305 _ ?side1 ?side2 ?side3 ?side4 A320.out).mono ?_); (case side1 => exact rc_ (Kd.R_reads' HO_262000.out).2.2); (case side2 => exact (Kd.R_reads' HO_262000.out).2.1); (case side3 => exact rc_ (Kd.R_reads' HO_262002.out).2.2); (case side4 => exact (Kd.R_reads' HO_262002.out).2.1); rintro e w349 ⟨rfl, hb⟩; refine ⟨_, rfl, ?_⟩; have n0_ := Aside0.mk (Kd.R_below (fr_ HO_240000.out) hb); have n1_ := Aside0.mk (Kd.R_below (fr_ HO_240002.out) hb); have n2_ := Aside0.mk (Kd.R_below (fr_ HO_249000.out) hb); have n3_ := Aside0.mk (Kd.R_below (fr_ HO_249002.out) hb); have n4_ := Aside0.mk (Kd.R_below (fr_ HO_262000.out) hb); have n5_ := Aside0.mk (Kd.R_below (fr_ HO_262002.out) hb); have n6_ := Aside0.mk (Kd.R_below (fr_ HO_302000.out) hb); have n7_ := Aside0.mk (Kd.R_below (fr_ HO_302002.out) hb); have n8_ := Aside0.mk (bb_ BK218.out hb); have n9_ := Aside0.mk (bb_ BK239.out hb); have n10_ := Aside0.mk (bb_ BK240.out hb); have n11_ := Aside0.mk (bb_ BK248.out hb); have n12_ := Aside0.mk (bb_ BK261.out hb); have n13_ := Aside0.mk (bb_ BK262.out hb); have n14_ := Aside0.mk (bb_ BK301.out hb); have n15_ := Aside0.mk (bb_ BK302.out hb); have n16_ := Aside0.mk (below_step (bel_ HB.out) hb); clear HO_240000; clear HO_240002; clear HO_249000; clear HO_249002; clear HO_262000; clear HO_262002; clear HO_302000; clear HO_302002; clear BK218; clear BK239; clear BK240; clear BK248; clear BK261; clear BK262; clear BK301; clear BK302; clear HB; have HO_240000 := n0_; have HO_240002 := n1_; have HO_249000 := n2_; have HO_249002 := n3_; have HO_262000 := n4_; have HO_262002 := n5_; have HO_302000 := n6_; have HO_302002 := n7_; have BK218 := n8_; have BK239 := n9_; have BK240 := n10_; have BK248 := n11_; have BK261 := n12_; have BK262 := n13_; have BK301 := n14_; have BK302 := n15_; have HB := n16_; clear n0_ n1_ n2_ n3_ n4_ n5_ n6_ n7_ n8_ n9_ n10_ n11_ n12_ n13_ n14_ n15_ n16_; (try clear hb); (try clear hb2); (try clear hk); (try clear hi)))
                 go_ret
                 exact ⟨by first | rfl | (simp [errW_none, errW_some] <;> rfl) | (simp [*, errW_none, errW_some] <;> rfl), bel_ HB.out⟩
           ·rw [if_neg c202] at H
            have c202b0 : (t281 == t278) = false := beq_eq_false_iff_ne.mpr c202
            have c202b1 : (t281 != t278) = true := bne_iff_ne.mpr c202
            obtain rfl := Option.some.inj H
            have hnb350 := NB261_218.out
            have hnc350 := NB218_261.out
            have hnb351 := NB261_239.out
            have hnc351 := NB239_261.out
            have hnb352 := NB261_240.out
            have hnc352 := NB240_261.out
            have hnb353 := NB261_248.out
            have hnc353 := NB248_261.out
            have hnb354 := NB261_262.out
            have hnc354 := NB262_261.out
            have hcz355_0 : wc.cell? ⟨gb261, 0, none⟩ = some (.slice Ao45 t249.length co45) := (blk_cell BK261.out 0).trans rfl
            have hcz355_1 : wc.cell? ⟨gb261, 1, none⟩ = some (.int .i64 t252) := (blk_cell BK261.out 1).trans rfl
            have hcz355_2 : wc.cell? ⟨gb261, 2, none⟩ = some (.slice Ao52 t253.length co52) := (blk_cell BK261.out 2).trans rfl
            have hfz355_0 := blk_frozen BK261.out 0
            have hfz355_1 := blk_frozen BK261.out 1
            have hfz355_2 := blk_frozen BK261.out 2
            go_wp2_with (first | ((with_reducible refine gate_callee (f := 21) rfl ?_); refine goesL_ (some 92) rfl rfl Try.func21 (by kernel_rfl) rfl #[.agg #[.slice Ao45 t249.length co45, .int .i64 t252, .slice Ao52 t253.length co52], .int .i64 1] rfl ml_ ?_; (with_reducible refine (laws_markParty.calls kj118 (fun k_ => some k_ = (.slice Ao45 t249.length co45 : Value).ownBlock) (.slice Ao45 t249.length co45) t249 t252 (fun k_ => some k_ = (.slice Ao52 t253.length co52 : Value).ownBlock) (.slice Ao52 t253.length co52) t253 1 t278 t279 t280 w _ ?side1 ?side2 ?side3 ?side4 ?side5 A190.out).mono ?_); (case side1 => repeat (first | (with_reducible first | exact HB.out | apply below_alloc | apply pw_below_drewN | apply below_drew1 | refine below_set ?_ GE218.out | refine below_set ?_ GE239.out | refine below_set ?_ GE240.out | refine below_set ?_ GE248.out | refine below_set ?_ GE261.out | refine below_set ?_ GE262.out) | exact HB.out)); (case side2 => exact Kd.R_tight rfl HO_262000.out); (case side3 => exact fun k_ e_ => (HO_262000.out.1 k_ e_.symm).2.2.2.2); (case side4 => exact Kd.R_tight rfl HO_262002.out); (case side5 => exact fun k_ e_ => (HO_262002.out.1 k_ e_.symm).2.2.2.2); rintro e w356 ⟨rfl, hy0, hy1, hb, hkp⟩; refine ⟨_, rfl, ?_⟩; have n0_ := Aside0.mk (Kd.R_mono (ok' := fun k_ => some k_ ≠ (.slice Ao30 t231.length co30 : Value).ownBlock ∧ some k_ ≠ (.slice Ao36 t274.length co36 : Value).ownBlock ∧ some k_ ≠ (.slice Ao41 t275.length co41 : Value).ownBlock ∧ some k_ ≠ (.slice Ao45 t249.length co45 : Value).ownBlock ∧ some k_ ≠ (.slice Ao52 t253.length co52 : Value).ownBlock) (Kd.R_keptB (HO_240000.out) hkp (fun k_ hk_ hs_ => Or.elim hs_ (fun e_ => (hk_.2.2.2.1) e_) (fun e_ => (hk_.2.2.2.2) e_))) (fun k_ hk_ => ⟨hk_.1.1, hk_.1.2.1, hk_.1.2.2.1, hk_.1.2.2.2.1, hk_.1.2.2.2.2⟩)); have n1_ := Aside0.mk (Kd.R_mono (ok' := fun k_ => some k_ ≠ (.slice Ao26 t227.length co26 : Value).ownBlock ∧ some k_ ≠ (.slice Ao36 t274.length co36 : Value).ownBlock ∧ some k_ ≠ (.slice Ao41 t275.length co41 : Value).ownBlock ∧ some k_ ≠ (.slice Ao45 t249.length co45 : Value).ownBlock ∧ some k_ ≠ (.slice Ao52 t253.length co52 : Value).ownBlock) (Kd.R_keptB (HO_240002.out) hkp (fun k_ hk_ hs_ => Or.elim hs_ (fun e_ => (hk_.2.2.2.1) e_) (fun e_ => (hk_.2.2.2.2) e_))) (fun k_ hk_ => ⟨hk_.1.1, hk_.1.2.1, hk_.1.2.2.1, hk_.1.2.2.2.1, hk_.1.2.2.2.2⟩)); have n2_ := Aside0.mk (Kd.R_mono (ok' := fun k_ => some k_ ≠ (.slice Ao26 t227.length co26 : Value).ownBlock ∧ some k_ ≠ (.slice Ao30 t231.length co30 : Value).ownBlock ∧ some k_ ≠ (.slice Ao41 t275.length co41 : Value).ownBlock ∧ some k_ ≠ (.slice Ao45 t249.length co45 : Value).ownBlock ∧ some k_ ≠ (.slice Ao52 t253.length co52 : Value).ownBlock) (Kd.R_keptB (HO_249000.out) hkp (fun k_ hk_ hs_ => Or.elim hs_ (fun e_ => (hk_.2.2.2.1) e_) (fun e_ => (hk_.2.2.2.2) e_))) (fun k_ hk_ => ⟨hk_.1.1, hk_.1.2.1, hk_.1.2.2.1, hk_.1.2.2.2.1, hk_.1.2.2.2.2⟩)); have n3_ := Aside0.mk (Kd.R_mono (ok' := fun k_ => some k_ ≠ (.slice Ao26 t227.length co26 : Value).ownBlock ∧ some k_ ≠ (.slice Ao30 t231.length co30 : Value).ownBlock ∧ some k_ ≠ (.slice Ao36 t274.length co36 : Value).ownBlock ∧ some k_ ≠ (.slice Ao45 t249.length co45 : Value).ownBlock ∧ some k_ ≠ (.slice Ao52 t253.length co52 : Value).ownBlock) (Kd.R_keptB (HO_249002.out) hkp (fun k_ hk_ hs_ => Or.elim hs_ (fun e_ => (hk_.2.2.2.1) e_) (fun e_ => (hk_.2.2.2.2) e_))) (fun k_ hk_ => ⟨hk_.1.1, hk_.1.2.1, hk_.1.2.2.1, hk_.1.2.2.2.1, hk_.1.2.2.2.2⟩)); have n4_ := Aside0.mk (Kd.R_reok rfl hy0 (fun k_ e_ => HO_262000.out.1 k_ e_)); have n5_ := Aside0.mk (Kd.R_reok rfl hy1 (fun k_ e_ => HO_262002.out.1 k_ e_)); have n6_ := Aside0.mk (blk_kept (fb_ BK218.out) hkp (fun hs_ => Or.elim hs_ (fun e_ => (fun e_ => (Kd.R_ne HO_262000.out BK218.out (by decide)) e_) e_) (fun e_ => (fun e_ => (Kd.R_ne HO_262002.out BK218.out (by decide)) e_) e_))); have n7_ := Aside0.mk (blk_kept (fb_ BK239.out) hkp (fun hs_ => Or.elim hs_ (fun e_ => (fun e_ => (Kd.R_ne HO_262000.out BK239.out (by decide)) e_) e_) (fun e_ => (fun e_ => (Kd.R_ne HO_262002.out BK239.out (by decide)) e_) e_))); have n8_ := Aside0.mk (blk_kept (fb_ BK240.out) hkp (fun hs_ => Or.elim hs_ (fun e_ => (fun e_ => (Kd.R_ne HO_262000.out BK240.out (by decide)) e_) e_) (fun e_ => (fun e_ => (Kd.R_ne HO_262002.out BK240.out (by decide)) e_) e_))); have n9_ := Aside0.mk (blk_kept (fb_ BK248.out) hkp (fun hs_ => Or.elim hs_ (fun e_ => (fun e_ => (Kd.R_ne HO_262000.out BK248.out (by decide)) e_) e_) (fun e_ => (fun e_ => (Kd.R_ne HO_262002.out BK248.out (by decide)) e_) e_))); have n10_ := Aside0.mk (blk_kept (fb_ BK261.out) hkp (fun hs_ => Or.elim hs_ (fun e_ => (fun e_ => (Kd.R_ne HO_262000.out BK261.out (by decide)) e_) e_) (fun e_ => (fun e_ => (Kd.R_ne HO_262002.out BK261.out (by decide)) e_) e_))); have n11_ := Aside0.mk (blk_kept (fb_ BK262.out) hkp (fun hs_ => Or.elim hs_ (fun e_ => (fun e_ => (Kd.R_ne HO_262000.out BK262.out (by decide)) e_) e_) (fun e_ => (fun e_ => (Kd.R_ne HO_262002.out BK262.out (by decide)) e_) e_))); have n12_ := Aside0.mk (hb); clear HO_240000; clear HO_240002; clear HO_249000; clear HO_249002; clear HO_262000; clear HO_262002; clear BK218; clear BK239; clear BK240; clear BK248; clear BK261; clear BK262; clear HB; have HO_240000 := n0_; have HO_240002 := n1_; have HO_249000 := n2_; have HO_249002 := n3_; have HO_262000 := n4_; have HO_262002 := n5_; have BK218 := n6_; have BK239 := n7_; have BK240 := n8_; have BK248 := n9_; have BK261 := n10_; have BK262 := n11_; have HB := n12_; clear n0_ n1_ n2_ n3_ n4_ n5_ n6_ n7_ n8_ n9_ n10_ n11_ n12_; (try clear hb); (try clear hkp); (try clear hy0); (try clear hy1); have hcz357_0 : w356.cell? ⟨gb261, 0, none⟩ = some (.slice Ao45 t249.length co45) := (blk_cell BK261.out 0).trans rfl; have hcz357_1 : w356.cell? ⟨gb261, 1, none⟩ = some (.int .i64 t252) := (blk_cell BK261.out 1).trans rfl; have hcz357_2 : w356.cell? ⟨gb261, 2, none⟩ = some (.slice Ao52 t253.length co52) := (blk_cell BK261.out 2).trans rfl; have hfz357_0 := blk_frozen BK261.out 0; have hfz357_1 := blk_frozen BK261.out 1; have hfz357_2 := blk_frozen BK261.out 2) | ((with_reducible refine gate_callee (f := 22) rfl ?_); refine goesL_ (some 95) rfl rfl Try.func22 (by kernel_rfl) rfl #[.agg #[.slice Ao45 t279.length co45, .int .i64 t252, .slice Ao52 t280.length co52], .int .i64 1] rfl (by (try simp only [List.map_toArray, List.map_cons, List.map_nil]); first | done | (rw [show t279.length = t249.length from (Kd.R_reads' HO_262000.out).1.symm, show t280.length = t253.length from (Kd.R_reads' HO_262002.out).1.symm] <;> rfl) | rfl | (simp only [List.length_drop, List.length_take]; rfl)) ?_; (with_reducible refine (laws_heldParty.calls kj118 _ _ t279 t252 _ _ t280 1 t281 _ ?side1 ?side2 ?side3 ?side4 A191.out).mono ?_); (case side1 => exact rc_ (Kd.R_reads' HO_262000.out).2.2); (case side2 => rw [show t279.length = t249.length from (Kd.R_reads' HO_262000.out).1.symm]; exact (Kd.R_reads' HO_262000.out).2.1); (case side3 => exact rc_ (Kd.R_reads' HO_262002.out).2.2); (case side4 => rw [show t280.length = t253.length from (Kd.R_reads' HO_262002.out).1.symm]; exact (Kd.R_reads' HO_262002.out).2.1); rintro e w358 ⟨rfl, hb⟩; refine ⟨_, rfl, ?_⟩; have n0_ := Aside0.mk (Kd.R_below (fr_ HO_240000.out) hb); have n1_ := Aside0.mk (Kd.R_below (fr_ HO_240002.out) hb); have n2_ := Aside0.mk (Kd.R_below (fr_ HO_249000.out) hb); have n3_ := Aside0.mk (Kd.R_below (fr_ HO_249002.out) hb); have n4_ := Aside0.mk (Kd.R_below (fr_ HO_262000.out) hb); have n5_ := Aside0.mk (Kd.R_below (fr_ HO_262002.out) hb); have n6_ := Aside0.mk (bb_ BK218.out hb); have n7_ := Aside0.mk (bb_ BK239.out hb); have n8_ := Aside0.mk (bb_ BK240.out hb); have n9_ := Aside0.mk (bb_ BK248.out hb); have n10_ := Aside0.mk (bb_ BK261.out hb); have n11_ := Aside0.mk (bb_ BK262.out hb); have n12_ := Aside0.mk (below_step (bel_ HB.out) hb); clear HO_240000; clear HO_240002; clear HO_249000; clear HO_249002; clear HO_262000; clear HO_262002; clear BK218; clear BK239; clear BK240; clear BK248; clear BK261; clear BK262; clear HB; have HO_240000 := n0_; have HO_240002 := n1_; have HO_249000 := n2_; have HO_249002 := n3_; have HO_262000 := n4_; have HO_262002 := n5_; have BK218 := n6_; have BK239 := n7_; have BK240 := n8_; have BK248 := n9_; have BK261 := n10_; have BK262 := n11_; have HB := n12_; clear n0_ n1_ n2_ n3_ n4_ n5_ n6_ n7_ n8_ n9_ n10_ n11_ n12_; (try clear hb); (try clear hb2); (try clear hk); (try clear hi)))
            go_ret
            exact ⟨by first | rfl | (simp [errW_none, errW_some] <;> rfl) | (simp [*, errW_none, errW_some] <;> rfl), bel_ HB.out⟩
      ·replace c117 := Bool.eq_false_iff.mpr c117
       subst c117
       have H1 : (some false) = some r := by rw [if_neg (show ¬ (false = true) by decide)] at H; exact H
       clear H
       have H := H1
       clear H1
       obtain rfl := Option.some.inj H
       try go_wp2
       have n0_ := Aside0.mk (Kd.R_drew HO_240000.out)
       have n1_ := Aside0.mk (Kd.R_drew HO_240002.out)
       have n2_ := Aside0.mk (Kd.R_drew HO_249000.out)
       have n3_ := Aside0.mk (Kd.R_drew HO_249002.out)
       have n4_ := Aside0.mk (Kd.R_drew HO_262000.out)
       have n5_ := Aside0.mk (Kd.R_drew HO_262002.out)
       have n6_ := Aside0.mk (blk_drew BK218.out)
       have n7_ := Aside0.mk (blk_drew BK239.out)
       have n8_ := Aside0.mk (blk_drew BK240.out)
       have n9_ := Aside0.mk (blk_drew BK248.out)
       have n10_ := Aside0.mk (blk_drew BK261.out)
       have n11_ := Aside0.mk (blk_drew BK262.out)
       have n12_ := Aside0.mk (below_drew1 HB.out)
       clear HO_240000
       clear HO_240002
       clear HO_249000
       clear HO_249002
       clear HO_262000
       clear HO_262002
       clear BK218
       clear BK239
       clear BK240
       clear BK248
       clear BK261
       clear BK262
       clear HB
       have HO_240000 := n0_
       have HO_240002 := n1_
       have HO_249000 := n2_
       have HO_249002 := n3_
       have HO_262000 := n4_
       have HO_262002 := n5_
       have BK218 := n6_
       have BK239 := n7_
       have BK240 := n8_
       have BK248 := n9_
       have BK261 := n10_
       have BK262 := n11_
       have HB := n12_
       clear n0_ n1_ n2_ n3_ n4_ n5_ n6_ n7_ n8_ n9_ n10_ n11_ n12_
       refine start_ (n := 5) (S := fun w' => w'.cell? ⟨gb248, 0, none⟩ = some (.slice Ao36 t241.length co36) ∧ w'.cell? ⟨gb248, 1, none⟩ = some (.int .i64 t244) ∧ w'.cell? ⟨gb248, 2, none⟩ = some (.slice Ao41 t245.length co41) ∧ w'.cell? ⟨gb218, 0, none⟩ = some (.slice A0_0 l0_0.length c0_0) ∧ w'.cell? ⟨gb218, 1, none⟩ = some (.int .i64 a0_1) ∧ w'.cell? ⟨gb218, 2, none⟩ = some (.slice A0_2 l0_2.length c0_2)) (ds := []) (bs 5 0) (by kernel_rfl) rfl rfl ⟨(blk_cell BK248.out 0).trans rfl, (blk_cell BK248.out 1).trans rfl, (blk_cell BK248.out 2).trans rfl, (blk_cell BK218.out 0).trans rfl, (blk_cell BK218.out 1).trans rfl, (blk_cell BK218.out 2).trans rfl⟩ (fun hHeld => ?_)
       generalize wc.drew = w359 at HO_240000 HO_240002 HO_249000 HO_249002 HO_262000 HO_262002 BK218 BK239 BK240 BK248 BK261 BK262 HB hHeld ⊢
       refine take_ (i := 0) (N := some 63) (v := ?_) (a' := ?_) (bs 5 1) rfl rfl (by kernel_rfl) (fun _ _ _ h => h) (Or.inl ⟨by rfl, ?_⟩) hHeld ?_ ?_
       rotate_left
       ·rintro w' ⟨s0, s1, s2, s3, s4, s5⟩
        go_simp
        with_reducible rfl
       rotate_left
       ·simp only [Act.put, sA_, sZ_, sS_, i64_w, i32_w]
        rfl
       refine take_ (i := 1) (N := some 64) (v := ?_) (a' := ?_) (bs 5 3) rfl rfl (by kernel_rfl) (fun _ _ _ h => h) (Or.inl ⟨by rfl, ?_⟩) hHeld ?_ ?_
       rotate_left
       ·rintro w' ⟨s0, s1, s2, s3, s4, s5⟩
        go_simp
        with_reducible rfl
       rotate_left
       ·simp only [Act.put, sA_, sZ_, sS_, i64_w, i32_w]
        rfl
       refine one_ (i := 2) (N := some 65) (bs 5 7) rfl rfl (by kernel_rfl) (by decide) (fun K hK => ?_)
       refine goes_ Try.func17 (by kernel_rfl) rfl #[.agg #[.slice A0_0 l0_0.length c0_0, .int .i64 a0_1, .slice A0_2 l0_2.length c0_2]] (by rfl) rfl rfl ml_ ?_
       with_reducible refine (laws_toParty.calls kj14 _ _ l0_0 a0_1 _ _ l0_2 t265 t268 t269 _ ?side1 ?side2 ?side3 ?side4 A115.out).mono ?_
       (case side1 => repeat (first | exact (Kd.C_below HR0_0.out HB.out) | (with_reducible refine Kd.C_alloc ?_ _) | (with_reducible refine Kd.C_drewN ?_ _) | (with_reducible refine Kd.C_drew ?_)))
       (case side2 => exact HC0_0.out)
       (case side3 => repeat (first | exact (Kd.C_below HR0_2.out HB.out) | (with_reducible refine Kd.C_alloc ?_ _) | (with_reducible refine Kd.C_drewN ?_ _) | (with_reducible refine Kd.C_drew ?_)))
       (case side4 => exact HC0_2.out)
       rintro e w360 ⟨v266, v270, rfl, ho0, ho1, hb⟩
       refine ⟨_, rfl, ?_⟩
       have n0_ := Aside0.mk (Kd.R_mono (Kd.R_told (Kd.R_told (Kd.R_old (fr_ HO_240000.out) hb) (Kd.R_base ho0)) (Kd.R_base ho1)) (fun _ h_ => h_.1))
       have n1_ := Aside0.mk (Kd.R_mono (Kd.R_told (Kd.R_told (Kd.R_old (fr_ HO_240002.out) hb) (Kd.R_base ho0)) (Kd.R_base ho1)) (fun _ h_ => h_.1))
       have n2_ := Aside0.mk (Kd.R_mono (Kd.R_told (Kd.R_told (Kd.R_old (fr_ HO_249000.out) hb) (Kd.R_base ho0)) (Kd.R_base ho1)) (fun _ h_ => h_.1))
       have n3_ := Aside0.mk (Kd.R_mono (Kd.R_told (Kd.R_told (Kd.R_old (fr_ HO_249002.out) hb) (Kd.R_base ho0)) (Kd.R_base ho1)) (fun _ h_ => h_.1))
       have n4_ := Aside0.mk (Kd.R_mono (Kd.R_told (Kd.R_told (Kd.R_old (fr_ HO_262000.out) hb) (Kd.R_base ho0)) (Kd.R_base ho1)) (fun _ h_ => h_.1))
       have n5_ := Aside0.mk (Kd.R_mono (Kd.R_told (Kd.R_told (Kd.R_old (fr_ HO_262002.out) hb) (Kd.R_base ho0)) (Kd.R_base ho1)) (fun _ h_ => h_.1))
       have n6_ := Aside0.mk (Kd.R_lower (Kd.R_new' (Kd.R_new' (Kd.R_new' (Kd.R_new' (Kd.R_new' (Kd.R_new' ho0 (Kd.R_lt (fr_ HO_240000.out))) (Kd.R_lt (fr_ HO_240002.out))) (Kd.R_lt (fr_ HO_249000.out))) (Kd.R_lt (fr_ HO_249002.out))) (Kd.R_lt (fr_ HO_262000.out))) (Kd.R_lt (fr_ HO_262002.out))) (below_size (bel_ HB.out)))
       have n7_ := Aside0.mk (Kd.R_lower (Kd.R_new' (Kd.R_new' (Kd.R_new' (Kd.R_new' (Kd.R_new' (Kd.R_new' ho1 (Kd.R_lt (fr_ HO_240000.out))) (Kd.R_lt (fr_ HO_240002.out))) (Kd.R_lt (fr_ HO_249000.out))) (Kd.R_lt (fr_ HO_249002.out))) (Kd.R_lt (fr_ HO_262000.out))) (Kd.R_lt (fr_ HO_262002.out))) (below_size (bel_ HB.out)))
       have n8_ := Aside0.mk (bb_ BK218.out hb)
       have n9_ := Aside0.mk (bb_ BK239.out hb)
       have n10_ := Aside0.mk (bb_ BK240.out hb)
       have n11_ := Aside0.mk (bb_ BK248.out hb)
       have n12_ := Aside0.mk (bb_ BK261.out hb)
       have n13_ := Aside0.mk (bb_ BK262.out hb)
       have n14_ := Aside0.mk (below_step (bel_ HB.out) hb)
       clear HO_240000
       clear HO_240002
       clear HO_249000
       clear HO_249002
       clear HO_262000
       clear HO_262002
       clear BK218
       clear BK239
       clear BK240
       clear BK248
       clear BK261
       clear BK262
       clear HB
       have HO_240000 := n0_
       have HO_240002 := n1_
       have HO_249000 := n2_
       have HO_249002 := n3_
       have HO_262000 := n4_
       have HO_262002 := n5_
       have HO267 := n6_
       have HO271 := n7_
       have BK218 := n8_
       have BK239 := n9_
       have BK240 := n10_
       have BK248 := n11_
       have BK261 := n12_
       have BK262 := n13_
       have HB := n14_
       clear n0_ n1_ n2_ n3_ n4_ n5_ n6_ n7_ n8_ n9_ n10_ n11_ n12_ n13_ n14_
       (try clear hb)
       (try clear hb2)
       (try clear hk)
       (try clear hi)
       (try clear ho0)
       (try clear ho1)
       obtain ⟨Ao361, co361, eo361⟩ := Kd.R_slice HO267.out
       (first | subst eo361 | (injection eo361 with f1_ f2_ f3_; have f4_ := f1_.symm; have f5_ := f3_.symm; clear f1_ f2_ f3_; subst f4_; subst f5_))
       obtain ⟨Ao362, co362, eo362⟩ := Kd.R_slice HO271.out
       (first | subst eo362 | (injection eo362 with f1_ f2_ f3_; have f4_ := f1_.symm; have f5_ := f3_.symm; clear f1_ f2_ f3_; subst f4_; subst f5_))
       refine hK.out _ _ ⟨(blk_cell BK248.out 0).trans rfl, (blk_cell BK248.out 1).trans rfl, (blk_cell BK248.out 2).trans rfl, (blk_cell BK218.out 0).trans rfl, (blk_cell BK218.out 1).trans rfl, (blk_cell BK218.out 2).trans rfl⟩ (fun hHeld => ?_)
       clear hK K
       refine norm_ (a' := ?_) ?_ ?_
       rotate_left
       ·show Act.put _ (some 65) _ = _
        simp only [Act.put, sA_, sZ_, sS_, i64_w, i32_w]
        rfl
       refine one_ (i := 3) (N := some 66) (bs 5 15) rfl rfl (by kernel_rfl) (by decide) (fun K hK => ?_)
       refine goes_ Try.func18 (by kernel_rfl) rfl #[.agg #[.slice Ao36 t241.length co36, .int .i64 t244, .slice Ao41 t245.length co41], .agg #[.slice Ao361 t265.length co361, .int .i64 t268, .slice Ao362 t269.length co362]] (by rfl) rfl rfl ml_ ?_
       with_reducible refine (laws_eqParty.calls kj14 _ _ t241 t244 _ _ t245 _ _ t265 t268 _ _ t269 false _ ?side1 ?side2 ?side3 ?side4 ?side5 ?side6 ?side7 ?side8 A116.out).mono ?_
       (case side1 => exact rc_ (Kd.R_reads' HO_249000.out).2.2)
       (case side2 => exact (Kd.R_reads' HO_249000.out).2.1)
       (case side3 => exact rc_ (Kd.R_reads' HO_249002.out).2.2)
       (case side4 => exact (Kd.R_reads' HO_249002.out).2.1)
       (case side5 => exact rc_ (Kd.R_reads' HO267.out).2.2)
       (case side6 => exact (Kd.R_reads' HO267.out).2.1)
       (case side7 => exact rc_ (Kd.R_reads' HO271.out).2.2)
       (case side8 => exact (Kd.R_reads' HO271.out).2.1)
       rintro e w363 ⟨rfl, hb⟩
       refine ⟨_, rfl, ?_⟩
       have n0_ := Aside0.mk (Kd.R_below (fr_ HO_240000.out) hb)
       have n1_ := Aside0.mk (Kd.R_below (fr_ HO_240002.out) hb)
       have n2_ := Aside0.mk (Kd.R_below (fr_ HO_249000.out) hb)
       have n3_ := Aside0.mk (Kd.R_below (fr_ HO_249002.out) hb)
       have n4_ := Aside0.mk (Kd.R_below (fr_ HO_262000.out) hb)
       have n5_ := Aside0.mk (Kd.R_below (fr_ HO_262002.out) hb)
       have n6_ := Aside0.mk (Kd.R_below (fr_ HO267.out) hb)
       have n7_ := Aside0.mk (Kd.R_below (fr_ HO271.out) hb)
       have n8_ := Aside0.mk (bb_ BK218.out hb)
       have n9_ := Aside0.mk (bb_ BK239.out hb)
       have n10_ := Aside0.mk (bb_ BK240.out hb)
       have n11_ := Aside0.mk (bb_ BK248.out hb)
       have n12_ := Aside0.mk (bb_ BK261.out hb)
       have n13_ := Aside0.mk (bb_ BK262.out hb)
       have n14_ := Aside0.mk (below_step (bel_ HB.out) hb)
       clear HO_240000
       clear HO_240002
       clear HO_249000
       clear HO_249002
       clear HO_262000
       clear HO_262002
       clear HO267
       clear HO271
       clear BK218
       clear BK239
       clear BK240
       clear BK248
       clear BK261
       clear BK262
       clear HB
       have HO_240000 := n0_
       have HO_240002 := n1_
       have HO_249000 := n2_
       have HO_249002 := n3_
       have HO_262000 := n4_
       have HO_262002 := n5_
       have HO267 := n6_
       have HO271 := n7_
       have BK218 := n8_
       have BK239 := n9_
       have BK240 := n10_
       have BK248 := n11_
       have BK261 := n12_
       have BK262 := n13_
       have HB := n14_
       clear n0_ n1_ n2_ n3_ n4_ n5_ n6_ n7_ n8_ n9_ n10_ n11_ n12_ n13_ n14_
       (try clear hb)
       (try clear hb2)
       (try clear hk)
       (try clear hi)
       refine hK.out _ _ ⟨(blk_cell BK248.out 0).trans rfl, (blk_cell BK248.out 1).trans rfl, (blk_cell BK248.out 2).trans rfl, (blk_cell BK218.out 0).trans rfl, (blk_cell BK218.out 1).trans rfl, (blk_cell BK218.out 2).trans rfl⟩ (fun hHeld => ?_)
       clear hK K
       refine norm_ (a' := ?_) ?_ ?_
       rotate_left
       ·show Act.put _ (some 66) _ = _
        simp only [Act.put, sA_, sZ_, sS_, i64_w, i32_w]
        rfl
       refine pure_ (i := 4) (N := some 67) (v := ?_) (a' := ?_) (bs 5 31) rfl rfl (by kernel_rfl) (fun _ _ _ h => h) (Or.inl ⟨by rfl, ?_⟩) ?_ ?_
       rotate_left
       ·intro w'
        go_simp
        with_reducible rfl
       rotate_left
       ·simp only [Act.put, sA_, sZ_, sS_, i64_w, i32_w]
        rfl
       refine done_ (by kernel_rfl) ?_
       try go_wp2
       go_ret
       exact ⟨by first | rfl | (simp [errW_none, errW_some] <;> rfl) | (simp [*, errW_none, errW_some] <;> rfl), bel_ HB.out⟩

/-- THE ONE PURE STATEMENT of laws_FnExactSend21. -/
def laws_FnExactSend21.Pure : Prop := ∀ (l0_0 : List ByteArray) (a0_1 : Int) (l0_2 : List ByteArray) (a1 : Int) (a2 : ByteArray), (l0_0.length ≤ 9223372036854775807 ∧ ∀ q0 ∈ l0_0, q0.size ≤ 9223372036854775807) → (Lit.int .i64 a0_1).wf = true → (l0_2.length ≤ 9223372036854775807 ∧ ∀ q0 ∈ l0_2, q0.size ≤ 9223372036854775807) → (Lit.int .i64 a1).wf = true → a2.size ≤ 9223372036854775807 → ∃ k, laws_FnExactSend21.f k l0_0 a0_1 l0_2 a1 a2 = some true

end Go.Proofs.Ytmglilikmbbidaa.PFnExactSend21
