/- The Lean side of Go functions of this seat: what each answers, and that its run comes to that answer; written by a program of this work. -/
import Derived.Test.YtmglilikmbbidaaPFnExactTake21x0
import Derived.Test.YtmglilikmbbidaaPFnExactTake21x2
import Derived.Test.YtmglilikmbbidaaPFnExactTake21x3
import Derived.Test.YtmglilikmbbidaaPFnExactTake21x4
import Derived.Test.YtmglilikmbbidaaPFnExactTake21x5
namespace Go.Proofs.Ytmglilikmbbidaa.PFnExactTake21
open Go.RowKit Go.Proofs.YtmglilikmbbidaaW.PrintWords Go.Proofs.YtmglilikmbbidaaW.PrintLast Go.Proofs.YtmglilikmbbidaaW.PrintMore
attribute [local go_sem] max2_int min2_int max_two min_two max_three min_three max_four min_four   -- for this text's walks alone
set_option linter.unusedVariables false
set_option linter.unusedSimpArgs false

/-! ### laws_FnExactTake21: function 6 -/
mutual
def laws_FnExactTake21.j0 : Nat → Int → Bool → Bool → Bool → List ByteArray → Int → List ByteArray → Int → Int → Int → ByteArray → List ByteArray → Int → List ByteArray → List ByteArray → Int → List ByteArray → List ByteArray → Int → List ByteArray → Option (Bool)
 | 0, _, _, _, _, _, _, _, _, _, _, _, _, _, _, _, _, _, _, _, _ => none
 | k + 1, x1, x9, x12, x55, x226000, x226001, x226002, x227000, x227001, x227002, x227003, x249000, x249001, x249002, x257000, x257001, x257002, x270000, x270001, x270002 => if x55 = true then (some false) else ((laws_toParty.f k x226000 x226001 x226002).bind fun bt271 => ((laws_eqParty.f k x257000 x257001 x257002 bt271.1 bt271.2.1 bt271.2.2).bind fun t278 => (if t278 = true then ((laws_markParty.f k x257000 x257001 x257002 1).bind fun bt279 => (if bt279.1 < 0 then (laws_FnExactTake21.j1 k x1 x9 true x226000 x226001 x226002 x227000 x227001 x227002 x227003 x249000 x249001 x249002 x270000 x270001 x270002) else ((laws_eqParty.f k x270000 x270001 x270002 x249000 x249001 x249002).bind fun t282 => (if t282 = true then (laws_FnExactTake21.j1 k x1 x9 (x12 != x9) x226000 x226001 x226002 x227000 x227001 x227002 x227003 x249000 x249001 x249002 x270000 x270001 x270002) else (laws_FnExactTake21.j1 k x1 x9 true x226000 x226001 x226002 x227000 x227001 x227002 x227003 x249000 x249001 x249002 x270000 x270001 x270002))))) else (some false))))
def laws_FnExactTake21.j1 : Nat → Int → Bool → Bool → List ByteArray → Int → List ByteArray → Int → Int → Int → ByteArray → List ByteArray → Int → List ByteArray → List ByteArray → Int → List ByteArray → Option (Bool)
 | 0, _, _, _, _, _, _, _, _, _, _, _, _, _, _, _, _ => none
 | k + 1, x1, x9, x76, x226000, x226001, x226002, x227000, x227001, x227002, x227003, x249000, x249001, x249002, x270000, x270001, x270002 => if x76 = true then (some false) else ((laws_markParty.f k x270000 x270001 x270002 1).bind fun bt283 => ((laws_heldParty.f k bt283.2.1 x270001 bt283.2.2 1).bind fun t286 => (if t286 < 0 then (some false) else (if t286 = bt283.1 then ((laws_toParty.f k x226000 x226001 x226002).bind fun bt287 => ((laws_toPost.f x227000 x227001 x227002 x227003).bind fun bt294 => ((impl_Take21.f k bt287.1 bt287.2.1 bt287.2.2 x1 bt294.1 bt294.2.1 bt294.2.2.1 bt294.2.2.2).bind fun bt298 => ((laws_eqParty.f k bt298.1 bt298.2.1 bt298.2.2.1 x249000 x249001 x249002).bind fun t307 => (if t307 = true then (laws_FnExactTake21.j2 k bt283.1 (bt298.2.2.2 != x9) bt283.2.1 x270001 bt283.2.2) else (laws_FnExactTake21.j2 k bt283.1 true bt283.2.1 x270001 bt283.2.2)))))) else (some false)))))
def laws_FnExactTake21.j2 : Nat → Int → Bool → List ByteArray → Int → List ByteArray → Option (Bool)
 | 0, _, _, _, _, _ => none
 | k + 1, x14, x105, x270000, x270001, x270002 => if x105 = true then (some false) else ((laws_heldParty.f k x270000 x270001 x270002 1).bind fun t308 => (if t308 < 0 then (some false) else (if t308 = x14 then (some true) else (some false))))
end
def laws_FnExactTake21.f (k : Nat) (l0_0 : List ByteArray) (a0_1 : Int) (l0_2 : List ByteArray) (a1 : Int) (a2_0 : Int) (a2_1 : Int) (a2_2 : Int) (a2_3 : ByteArray) : Option (Bool) := (laws_szParty.f k l0_0 a0_1 l0_2 1048576).bind fun t227 => (if t227 < 0 then (some true) else ((laws_szPost.f a2_0 a2_1 a2_2 a2_3 t227).bind fun t228 => (if t228 < 0 then (some true) else ((laws_toParty.f k l0_0 a0_1 l0_2).bind fun bt229 => ((laws_toPost.f a2_0 a2_1 a2_2 a2_3).bind fun bt236 => ((spec_Take21.f k bt229.1 bt229.2.1 bt229.2.2 a1 bt236.1 bt236.2.1 bt236.2.2.1 bt236.2.2.2).bind fun bt240 => ((laws_toParty.f k l0_0 a0_1 l0_2).bind fun bt249 => ((laws_toPost.f a2_0 a2_1 a2_2 a2_3).bind fun bt257 => ((impl_Take21.f k bt249.1 bt249.2.1 bt249.2.2 a1 bt257.1 bt257.2.1 bt257.2.2.1 bt257.2.2.2).bind fun bt261 => ((laws_eqParty.f k bt261.1 bt261.2.1 bt261.2.2.1 bt240.1 bt240.2.1 bt240.2.2.1).bind fun t270 => (if t270 = true then (laws_FnExactTake21.j0 k a1 bt240.2.2.2 bt261.2.2.2 (bt261.2.2.2 != bt240.2.2.2) l0_0 a0_1 l0_2 a2_0 a2_1 a2_2 a2_3 bt240.1 bt240.2.1 bt240.2.2.1 bt249.1 bt249.2.1 bt249.2.2 bt261.1 bt261.2.1 bt261.2.2.1) else (laws_FnExactTake21.j0 k a1 bt240.2.2.2 bt261.2.2.2 true l0_0 a0_1 l0_2 a2_0 a2_1 a2_2 a2_3 bt240.1 bt240.2.1 bt240.2.2.1 bt249.1 bt249.2.1 bt249.2.2 bt261.1 bt261.2.1 bt261.2.2.1))))))))))))
theorem laws_FnExactTake21.mono_l : ∀ k, (∀ y0 y1 y2 y3 y4 y5 y6 y7 y8 y9 y10 y11 y12 y13 y14 y15 y16 y17 y18 y19, LeO (laws_FnExactTake21.j0 k y0 y1 y2 y3 y4 y5 y6 y7 y8 y9 y10 y11 y12 y13 y14 y15 y16 y17 y18 y19) (laws_FnExactTake21.j0 (k + 1) y0 y1 y2 y3 y4 y5 y6 y7 y8 y9 y10 y11 y12 y13 y14 y15 y16 y17 y18 y19)) ∧ (∀ y0 y1 y2 y3 y4 y5 y6 y7 y8 y9 y10 y11 y12 y13 y14 y15, LeO (laws_FnExactTake21.j1 k y0 y1 y2 y3 y4 y5 y6 y7 y8 y9 y10 y11 y12 y13 y14 y15) (laws_FnExactTake21.j1 (k + 1) y0 y1 y2 y3 y4 y5 y6 y7 y8 y9 y10 y11 y12 y13 y14 y15)) ∧ (∀ y0 y1 y2 y3 y4, LeO (laws_FnExactTake21.j2 k y0 y1 y2 y3 y4) (laws_FnExactTake21.j2 (k + 1) y0 y1 y2 y3 y4))
 | 0 => ⟨fun _ _ _ _ _ _ _ _ _ _ _ _ _ _ _ _ _ _ _ _ r h => by simp [laws_FnExactTake21.j0] at h, fun _ _ _ _ _ _ _ _ _ _ _ _ _ _ _ _ r h => by simp [laws_FnExactTake21.j1] at h, fun _ _ _ _ _ r h => by simp [laws_FnExactTake21.j2] at h⟩
 | k + 1 => by
  obtain ⟨ih0, ih1, ih2⟩ := laws_FnExactTake21.mono_l k
  refine ⟨?_, ?_, ?_⟩
  ·intro y0 y1 y2 y3 y4 y5 y6 y7 y8 y9 y10 y11 y12 y13 y14 y15 y16 y17 y18 y19
   unfold laws_FnExactTake21.j0
   repeat' first
   | (with_reducible exact ih0 _ _ _ _ _ _ _ _ _ _ _ _ _ _ _ _ _ _ _ _)
   | (with_reducible exact ih1 _ _ _ _ _ _ _ _ _ _ _ _ _ _ _ _)
   | (with_reducible exact ih2 _ _ _ _ _)
   | (with_reducible exact impl_Take21.mono _ _ _ _ _ _ _ _ _)
   | (with_reducible exact laws_eqParty.mono _ _ _ _ _ _ _)
   | (with_reducible exact laws_heldParty.mono _ _ _ _ _)
   | (with_reducible exact laws_markParty.mono _ _ _ _ _)
   | (with_reducible exact laws_szParty.mono _ _ _ _ _)
   | (with_reducible exact laws_toParty.mono _ _ _ _)
   | (with_reducible exact spec_Take21.mono _ _ _ _ _ _ _ _ _)
   | (with_reducible exact LeO.refl _)
   | (with_reducible exact LeO.none _)
   | (with_reducible refine LeO.ite ?_ ?_)
   | (with_reducible refine LeO.bind ?_ (fun _ => ?_))
   | exact ih0 _ _ _ _ _ _ _ _ _ _ _ _ _ _ _ _ _ _ _ _
   | exact ih1 _ _ _ _ _ _ _ _ _ _ _ _ _ _ _ _
   | exact ih2 _ _ _ _ _
   | exact impl_Take21.mono _ _ _ _ _ _ _ _ _
   | exact laws_eqParty.mono _ _ _ _ _ _ _
   | exact laws_heldParty.mono _ _ _ _ _
   | exact laws_markParty.mono _ _ _ _ _
   | exact laws_szParty.mono _ _ _ _ _
   | exact laws_toParty.mono _ _ _ _
   | exact spec_Take21.mono _ _ _ _ _ _ _ _ _
   | exact LeO.none _
   | refine LeO.ite ?_ ?_
   | refine LeO.bind ?_ (fun _ => ?_)
  ·intro y0 y1 y2 y3 y4 y5 y6 y7 y8 y9 y10 y11 y12 y13 y14 y15
   unfold laws_FnExactTake21.j1
   repeat' first
   | (with_reducible exact ih0 _ _ _ _ _ _ _ _ _ _ _ _ _ _ _ _ _ _ _ _)
   | (with_reducible exact ih1 _ _ _ _ _ _ _ _ _ _ _ _ _ _ _ _)
   | (with_reducible exact ih2 _ _ _ _ _)
   | (with_reducible exact impl_Take21.mono _ _ _ _ _ _ _ _ _)
   | (with_reducible exact laws_eqParty.mono _ _ _ _ _ _ _)
   | (with_reducible exact laws_heldParty.mono _ _ _ _ _)
   | (with_reducible exact laws_markParty.mono _ _ _ _ _)
   | (with_reducible exact laws_szParty.mono _ _ _ _ _)
   | (with_reducible exact laws_toParty.mono _ _ _ _)
   | (with_reducible exact spec_Take21.mono _ _ _ _ _ _ _ _ _)
   | (with_reducible exact LeO.refl _)
   | (with_reducible exact LeO.none _)
   | (with_reducible refine LeO.ite ?_ ?_)
   | (with_reducible refine LeO.bind ?_ (fun _ => ?_))
   | exact ih0 _ _ _ _ _ _ _ _ _ _ _ _ _ _ _ _ _ _ _ _
   | exact ih1 _ _ _ _ _ _ _ _ _ _ _ _ _ _ _ _
   | exact ih2 _ _ _ _ _
   | exact impl_Take21.mono _ _ _ _ _ _ _ _ _
   | exact laws_eqParty.mono _ _ _ _ _ _ _
   | exact laws_heldParty.mono _ _ _ _ _
   | exact laws_markParty.mono _ _ _ _ _
   | exact laws_szParty.mono _ _ _ _ _
   | exact laws_toParty.mono _ _ _ _
   | exact spec_Take21.mono _ _ _ _ _ _ _ _ _
   | exact LeO.none _
   | refine LeO.ite ?_ ?_
   | refine LeO.bind ?_ (fun _ => ?_)
  ·intro y0 y1 y2 y3 y4
   unfold laws_FnExactTake21.j2
   repeat' first
   | (with_reducible exact ih0 _ _ _ _ _ _ _ _ _ _ _ _ _ _ _ _ _ _ _ _)
   | (with_reducible exact ih1 _ _ _ _ _ _ _ _ _ _ _ _ _ _ _ _)
   | (with_reducible exact ih2 _ _ _ _ _)
   | (with_reducible exact impl_Take21.mono _ _ _ _ _ _ _ _ _)
   | (with_reducible exact laws_eqParty.mono _ _ _ _ _ _ _)
   | (with_reducible exact laws_heldParty.mono _ _ _ _ _)
   | (with_reducible exact laws_markParty.mono _ _ _ _ _)
   | (with_reducible exact laws_szParty.mono _ _ _ _ _)
   | (with_reducible exact laws_toParty.mono _ _ _ _)
   | (with_reducible exact spec_Take21.mono _ _ _ _ _ _ _ _ _)
   | (with_reducible exact LeO.refl _)
   | (with_reducible exact LeO.none _)
   | (with_reducible refine LeO.ite ?_ ?_)
   | (with_reducible refine LeO.bind ?_ (fun _ => ?_))
   | exact ih0 _ _ _ _ _ _ _ _ _ _ _ _ _ _ _ _ _ _ _ _
   | exact ih1 _ _ _ _ _ _ _ _ _ _ _ _ _ _ _ _
   | exact ih2 _ _ _ _ _
   | exact impl_Take21.mono _ _ _ _ _ _ _ _ _
   | exact laws_eqParty.mono _ _ _ _ _ _ _
   | exact laws_heldParty.mono _ _ _ _ _
   | exact laws_markParty.mono _ _ _ _ _
   | exact laws_szParty.mono _ _ _ _ _
   | exact laws_toParty.mono _ _ _ _
   | exact spec_Take21.mono _ _ _ _ _ _ _ _ _
   | exact LeO.none _
   | refine LeO.ite ?_ ?_
   | refine LeO.bind ?_ (fun _ => ?_)
theorem laws_FnExactTake21.mono : ∀ a0 a1 a2 a3 a4 a5 a6 a7 k, LeO (laws_FnExactTake21.f k a0 a1 a2 a3 a4 a5 a6 a7) (laws_FnExactTake21.f (k + 1) a0 a1 a2 a3 a4 a5 a6 a7) := by
 intro a0 a1 a2 a3 a4 a5 a6 a7 k
 obtain ⟨ih0, ih1, ih2⟩ := laws_FnExactTake21.mono_l k
 unfold laws_FnExactTake21.f
 repeat' first
   | (with_reducible exact ih0 _ _ _ _ _ _ _ _ _ _ _ _ _ _ _ _ _ _ _ _)
   | (with_reducible exact ih1 _ _ _ _ _ _ _ _ _ _ _ _ _ _ _ _)
   | (with_reducible exact ih2 _ _ _ _ _)
   | (with_reducible exact impl_Take21.mono _ _ _ _ _ _ _ _ _)
   | (with_reducible exact laws_eqParty.mono _ _ _ _ _ _ _)
   | (with_reducible exact laws_heldParty.mono _ _ _ _ _)
   | (with_reducible exact laws_markParty.mono _ _ _ _ _)
   | (with_reducible exact laws_szParty.mono _ _ _ _ _)
   | (with_reducible exact laws_toParty.mono _ _ _ _)
   | (with_reducible exact spec_Take21.mono _ _ _ _ _ _ _ _ _)
   | (with_reducible exact LeO.refl _)
   | (with_reducible exact LeO.none _)
   | (with_reducible refine LeO.ite ?_ ?_)
   | (with_reducible refine LeO.bind ?_ (fun _ => ?_))
   | exact ih0 _ _ _ _ _ _ _ _ _ _ _ _ _ _ _ _ _ _ _ _
   | exact ih1 _ _ _ _ _ _ _ _ _ _ _ _ _ _ _ _
   | exact ih2 _ _ _ _ _
   | exact impl_Take21.mono _ _ _ _ _ _ _ _ _
   | exact laws_eqParty.mono _ _ _ _ _ _ _
   | exact laws_heldParty.mono _ _ _ _ _
   | exact laws_markParty.mono _ _ _ _ _
   | exact laws_szParty.mono _ _ _ _ _
   | exact laws_toParty.mono _ _ _ _
   | exact spec_Take21.mono _ _ _ _ _ _ _ _ _
   | exact LeO.none _
   | refine LeO.ite ?_ ?_
   | refine LeO.bind ?_ (fun _ => ?_)
def laws_FnExactTake21.T8 : Bool × List (List Nat × List Nat) := (true, [([], []), ([0], [0]), ([], []), ([], []), ([3, 1], [3]), ([1, 2, 4, 4], [1, 2, 4]), ([5], [5]), ([6], [6]), ([6], [6]), ([], []), ([9, 7, 5, 0, 1, 2, 3, 4, 5, 6, 7, 9], [7, 9]), ([8, 10, 0, 1, 2, 3, 4, 5, 6, 7, 8, 9, 10], [8])])
def laws_FnExactTake21.B8 : List Nat := [0, 1, 0, 0, 11, 31, 63, 127, 127, 0, 767, 2047]
theorem laws_FnExactTake21.tab8 : rtab .any (opsOf Try.f6 8) = laws_FnExactTake21.T8 := by kernel_rfl
theorem laws_FnExactTake21.bits8 : waitsOk laws_FnExactTake21.T8.2 laws_FnExactTake21.B8 = true := by kernel_rfl
def laws_FnExactTake21.T10 : Bool × List (List Nat × List Nat) := (true, [([], []), ([], []), ([], []), ([2], [2]), ([0, 1, 3, 3], [0, 1, 3]), ([4], [4]), ([5], [5]), ([5], [5]), ([], []), ([8, 6, 4, 0, 1, 2, 3, 4, 5, 6, 8], [6, 8]), ([7, 9, 0, 1, 2, 3, 4, 5, 6, 7, 8, 9], [7])])
def laws_FnExactTake21.B10 : List Nat := [0, 0, 0, 4, 15, 31, 63, 63, 0, 383, 1023]
theorem laws_FnExactTake21.tab10 : rtab .any (opsOf Try.f6 10) = laws_FnExactTake21.T10 := by kernel_rfl
theorem laws_FnExactTake21.bits10 : waitsOk laws_FnExactTake21.T10.2 laws_FnExactTake21.B10 = true := by kernel_rfl
def laws_FnExactTake21.T27 : Bool × List (List Nat × List Nat) := (true, [([], []), ([0], [0]), ([], []), ([], []), ([3, 1], [3]), ([1, 2, 4, 4], [1, 2, 4]), ([5], [5]), ([6], [6]), ([6], [6]), ([], []), ([9, 7, 5, 0, 1, 2, 3, 4, 5, 6, 7, 9], [7, 9]), ([8, 10, 0, 1, 2, 3, 4, 5, 6, 7, 8, 9, 10], [8])])
def laws_FnExactTake21.B27 : List Nat := [0, 1, 0, 0, 11, 31, 63, 127, 127, 0, 767, 2047]
theorem laws_FnExactTake21.tab27 : rtab .any (opsOf Try.f6 27) = laws_FnExactTake21.T27 := by kernel_rfl
theorem laws_FnExactTake21.bits27 : waitsOk laws_FnExactTake21.T27.2 laws_FnExactTake21.B27 = true := by kernel_rfl
set_option maxHeartbeats 8000000 in
set_option maxRecDepth 100000 in
theorem laws_FnExactTake21.calls (k : Nat) (A0_0 : Option Addr) (c0_0 : Nat) (l0_0 : List ByteArray) (a0_1 : Int) (A0_2 : Option Addr) (c0_2 : Nat) (l0_2 : List ByteArray) (a1 : Int) (a2_0 : Int) (a2_1 : Int) (a2_2 : Int) (a2_3 : ByteArray) (r : Bool) (w : World) (hr0_0 : Kd.C Kd.string w A0_0 l0_0.length l0_0) (hc0_0 : l0_0.length ≤ c0_0) (hr0_2 : Kd.C Kd.string w A0_2 l0_2.length l0_2) (hc0_2 : l0_2.length ≤ c0_2) (h : laws_FnExactTake21.f k l0_0 a0_1 l0_2 a1 a2_0 a2_1 a2_2 a2_3 = some r) :
  Calls Try.prog 6 #[.agg #[.slice A0_0 l0_0.length c0_0, .int .i64 a0_1, .slice A0_2 l0_2.length c0_2], .int .i64 a1, .agg #[.int .i64 a2_0, .int .i64 a2_1, .int .i64 a2_2, .string a2_3]] w fun e w' => e = .returned (.bool r) ∧ Below w.heap.size w w' := by
 have hu42 := Try.underlying42
 have hu50 := Try.underlying50
 have hu26 := Try.underlying26
 have HR0_0 := Aside0.mk hr0_0
 have HC0_0 := Aside0.mk hc0_0
 clear hr0_0 hc0_0
 have HR0_2 := Aside0.mk hr0_2
 have HC0_2 := Aside0.mk hc0_2
 clear hr0_2 hc0_2
 have HB := Aside0.mk (Below.refl w.heap.size w)
 have H : ((laws_szParty.f k l0_0 a0_1 l0_2 1048576).bind fun t227 => (if t227 < 0 then (some true) else ((laws_szPost.f a2_0 a2_1 a2_2 a2_3 t227).bind fun t228 => (if t228 < 0 then (some true) else ((laws_toParty.f k l0_0 a0_1 l0_2).bind fun bt229 => ((laws_toPost.f a2_0 a2_1 a2_2 a2_3).bind fun bt236 => ((spec_Take21.f k bt229.1 bt229.2.1 bt229.2.2 a1 bt236.1 bt236.2.1 bt236.2.2.1 bt236.2.2.2).bind fun bt240 => ((laws_toParty.f k l0_0 a0_1 l0_2).bind fun bt249 => ((laws_toPost.f a2_0 a2_1 a2_2 a2_3).bind fun bt257 => ((impl_Take21.f k bt249.1 bt249.2.1 bt249.2.2 a1 bt257.1 bt257.2.1 bt257.2.2.1 bt257.2.2.2).bind fun bt261 => ((laws_eqParty.f k bt261.1 bt261.2.1 bt261.2.2.1 bt240.1 bt240.2.1 bt240.2.2.1).bind fun t270 => (if t270 = true then (laws_FnExactTake21.j0 k a1 bt240.2.2.2 bt261.2.2.2 (bt261.2.2.2 != bt240.2.2.2) l0_0 a0_1 l0_2 a2_0 a2_1 a2_2 a2_3 bt240.1 bt240.2.1 bt240.2.2.1 bt249.1 bt249.2.1 bt249.2.2 bt261.1 bt261.2.1 bt261.2.2.1) else (laws_FnExactTake21.j0 k a1 bt240.2.2.2 bt261.2.2.2 true l0_0 a0_1 l0_2 a2_0 a2_1 a2_2 a2_3 bt240.1 bt240.2.1 bt240.2.2.1 bt249.1 bt249.2.1 bt249.2.2 bt261.1 bt261.2.1 bt261.2.2.1))))))))))))) = some r := h
 clear h; replace H := Option.bind_eq_some_iff.mp H
 obtain ⟨t227, A40, H⟩ := H
 replace H : (if t227 < 0 then (some true) else ((laws_szPost.f a2_0 a2_1 a2_2 a2_3 t227).bind fun t228 => (if t228 < 0 then (some true) else ((laws_toParty.f k l0_0 a0_1 l0_2).bind fun bt229 => ((laws_toPost.f a2_0 a2_1 a2_2 a2_3).bind fun bt236 => ((spec_Take21.f k bt229.1 bt229.2.1 bt229.2.2 a1 bt236.1 bt236.2.1 bt236.2.2.1 bt236.2.2.2).bind fun bt240 => ((laws_toParty.f k l0_0 a0_1 l0_2).bind fun bt249 => ((laws_toPost.f a2_0 a2_1 a2_2 a2_3).bind fun bt257 => ((impl_Take21.f k bt249.1 bt249.2.1 bt249.2.2 a1 bt257.1 bt257.2.1 bt257.2.2.1 bt257.2.2.2).bind fun bt261 => ((laws_eqParty.f k bt261.1 bt261.2.1 bt261.2.2.1 bt240.1 bt240.2.1 bt240.2.2.1).bind fun t270 => (if t270 = true then (laws_FnExactTake21.j0 k a1 bt240.2.2.2 bt261.2.2.2 (bt261.2.2.2 != bt240.2.2.2) l0_0 a0_1 l0_2 a2_0 a2_1 a2_2 a2_3 bt240.1 bt240.2.1 bt240.2.2.1 bt249.1 bt249.2.1 bt249.2.2 bt261.1 bt261.2.1 bt261.2.2.1) else (laws_FnExactTake21.j0 k a1 bt240.2.2.2 bt261.2.2.2 true l0_0 a0_1 l0_2 a2_0 a2_1 a2_2 a2_3 bt240.1 bt240.2.1 bt240.2.2.1 bt249.1 bt249.2.1 bt249.2.2 bt261.1 bt261.2.1 bt261.2.2.1)))))))))))) = some r := H
 have A4 := Aside0.mk A40
 clear A40
 by_cases c5 : t227 < 0
 ·rw [if_pos c5] at H
  have c5b0 : decide (t227 < 0) = true := decide_eq_true c5
  clear c5
  obtain rfl := Option.some.inj H
  go_enter Try.func6, Try.ntmps6
  go_wp2_with (first | ((with_reducible refine gate_dst (N := 3) rfl ?_); refine box_event ?hg (N := 3) ?hd (cs := #[.slice A0_0 l0_0.length c0_0, .int .i64 a0_1, .slice A0_2 l0_2.length c0_2]) (t := 42) ?hr ?_; (case hd => rfl); (case hg => rfl); (case hr => first | (go_simp; done) | (go_simp; rfl)); intro gb225 hg w6 hbox hb; have BK225 := Aside0.mk (hbox); have GW225 := Aside0.mk ((by rw [hg]; exact (below_size (bel_ HB.out)) : w.heap.size ≤ gb225)); have GE225 := Aside0.mk ((by rw [hg]; exact (below_size (bel_ HB.out)) : w.heap.size ≤ gb225)); replace HB := Aside0.mk (below_step (bel_ HB.out) hb); clear hb hbox hg) | ((with_reducible refine gate_dst (N := 5) rfl ?_); refine box_event ?hg (N := 5) ?hd (cs := #[.int .i64 a2_0, .int .i64 a2_1, .int .i64 a2_2, .string a2_3]) (t := 50) ?hr ?_; (case hd => rfl); (case hg => rfl); (case hr => first | (go_simp; done) | (go_simp; rfl)); intro gb226 hg w7 hbox hb; have BK226 := Aside0.mk (hbox); have GW226 := Aside0.mk ((by rw [hg]; exact (below_size (bel_ HB.out)) : w.heap.size ≤ gb226)); have GE226 := Aside0.mk ((by rw [hg]; exact (below_size (bel_ HB.out)) : w.heap.size ≤ gb226)); replace HB := Aside0.mk (below_step (bel_ HB.out) hb); have NB225_226 := Aside0.mk (nl_ BK225.out hg); have NB226_225 := Aside0.mk (ng_ BK225.out hg); replace BK225 := Aside0.mk (bb_ BK225.out hb); clear hb hbox hg; have hnb8 := NB225_226.out; have hnc8 := NB226_225.out; have hcz9_0 : w7.cell? ⟨gb225, 0, none⟩ = some (.slice A0_0 l0_0.length c0_0) := bc_ BK225.out 0; have hcz9_1 : w7.cell? ⟨gb225, 1, none⟩ = some (.int .i64 a0_1) := bc_ BK225.out 1; have hcz9_2 : w7.cell? ⟨gb225, 2, none⟩ = some (.slice A0_2 l0_2.length c0_2) := bc_ BK225.out 2; have hfz9_0 := blk_frozen BK225.out 0; have hfz9_1 := blk_frozen BK225.out 1; have hfz9_2 := blk_frozen BK225.out 2) | ((with_reducible refine gate_callee (f := 15) rfl ?_); refine goesL_ (some 20) rfl rfl Try.func15 (by kernel_rfl) rfl #[.agg #[.slice A0_0 l0_0.length c0_0, .int .i64 a0_1, .slice A0_2 l0_2.length c0_2], .int .i64 1048576] rfl ml_ ?_; (with_reducible refine (laws_szParty.calls k _ _ l0_0 a0_1 _ _ l0_2 1048576 t227 _ ?side1 ?side2 ?side3 ?side4 A4.out).mono ?_); (case side1 => exact rc_ (Kd.C_below HR0_0.out HB.out)); (case side2 => exact HC0_0.out); (case side3 => exact rc_ (Kd.C_below HR0_2.out HB.out)); (case side4 => exact HC0_2.out); rintro e w10 ⟨rfl, hb⟩; refine ⟨_, rfl, ?_⟩; replace BK225 := Aside0.mk (bb_ BK225.out hb); replace BK226 := Aside0.mk (bb_ BK226.out hb); replace HB := Aside0.mk (below_step (bel_ HB.out) hb); (try clear hb); (try clear hb2); (try clear hk); (try clear hi)))
  go_ret
  exact ⟨by first | rfl | (simp [errW_none, errW_some] <;> rfl) | (simp [*, errW_none, errW_some] <;> rfl), bel_ HB.out⟩
 case neg =>
 rw [if_neg c5] at H
 have c5b0 : decide (t227 < 0) = false := decide_eq_false c5
 clear c5; replace H := Option.bind_eq_some_iff.mp H
 obtain ⟨t228, A110, H⟩ := H
 replace H : (if t228 < 0 then (some true) else ((laws_toParty.f k l0_0 a0_1 l0_2).bind fun bt229 => ((laws_toPost.f a2_0 a2_1 a2_2 a2_3).bind fun bt236 => ((spec_Take21.f k bt229.1 bt229.2.1 bt229.2.2 a1 bt236.1 bt236.2.1 bt236.2.2.1 bt236.2.2.2).bind fun bt240 => ((laws_toParty.f k l0_0 a0_1 l0_2).bind fun bt249 => ((laws_toPost.f a2_0 a2_1 a2_2 a2_3).bind fun bt257 => ((impl_Take21.f k bt249.1 bt249.2.1 bt249.2.2 a1 bt257.1 bt257.2.1 bt257.2.2.1 bt257.2.2.2).bind fun bt261 => ((laws_eqParty.f k bt261.1 bt261.2.1 bt261.2.2.1 bt240.1 bt240.2.1 bt240.2.2.1).bind fun t270 => (if t270 = true then (laws_FnExactTake21.j0 k a1 bt240.2.2.2 bt261.2.2.2 (bt261.2.2.2 != bt240.2.2.2) l0_0 a0_1 l0_2 a2_0 a2_1 a2_2 a2_3 bt240.1 bt240.2.1 bt240.2.2.1 bt249.1 bt249.2.1 bt249.2.2 bt261.1 bt261.2.1 bt261.2.2.1) else (laws_FnExactTake21.j0 k a1 bt240.2.2.2 bt261.2.2.2 true l0_0 a0_1 l0_2 a2_0 a2_1 a2_2 a2_3 bt240.1 bt240.2.1 bt240.2.2.1 bt249.1 bt249.2.1 bt249.2.2 bt261.1 bt261.2.1 bt261.2.2.1)))))))))) = some r := H
 have A11 := Aside0.mk A110
 clear A110
 by_cases c12 : t228 < 0
 ·rw [if_pos c12] at H
  have c12b0 : decide (t228 < 0) = true := decide_eq_true c12
  clear c12
  obtain rfl := Option.some.inj H
  go_enter Try.func6, Try.ntmps6
  go_wp2_with (first | ((with_reducible refine gate_dst (N := 3) rfl ?_); refine box_event ?hg (N := 3) ?hd (cs := #[.slice A0_0 l0_0.length c0_0, .int .i64 a0_1, .slice A0_2 l0_2.length c0_2]) (t := 42) ?hr ?_; (case hd => rfl); (case hg => rfl); (case hr => first | (go_simp; done) | (go_simp; rfl)); intro gb225 hg w13 hbox hb; have BK225 := Aside0.mk (hbox); have GW225 := Aside0.mk ((by rw [hg]; exact (below_size (bel_ HB.out)) : w.heap.size ≤ gb225)); have GE225 := Aside0.mk ((by rw [hg]; exact (below_size (bel_ HB.out)) : w.heap.size ≤ gb225)); replace HB := Aside0.mk (below_step (bel_ HB.out) hb); clear hb hbox hg) | ((with_reducible refine gate_dst (N := 5) rfl ?_); refine box_event ?hg (N := 5) ?hd (cs := #[.int .i64 a2_0, .int .i64 a2_1, .int .i64 a2_2, .string a2_3]) (t := 50) ?hr ?_; (case hd => rfl); (case hg => rfl); (case hr => first | (go_simp; done) | (go_simp; rfl)); intro gb226 hg w14 hbox hb; have BK226 := Aside0.mk (hbox); have GW226 := Aside0.mk ((by rw [hg]; exact (below_size (bel_ HB.out)) : w.heap.size ≤ gb226)); have GE226 := Aside0.mk ((by rw [hg]; exact (below_size (bel_ HB.out)) : w.heap.size ≤ gb226)); replace HB := Aside0.mk (below_step (bel_ HB.out) hb); have NB225_226 := Aside0.mk (nl_ BK225.out hg); have NB226_225 := Aside0.mk (ng_ BK225.out hg); replace BK225 := Aside0.mk (bb_ BK225.out hb); clear hb hbox hg; have hnb15 := NB225_226.out; have hnc15 := NB226_225.out; have hcz16_0 : w14.cell? ⟨gb225, 0, none⟩ = some (.slice A0_0 l0_0.length c0_0) := bc_ BK225.out 0; have hcz16_1 : w14.cell? ⟨gb225, 1, none⟩ = some (.int .i64 a0_1) := bc_ BK225.out 1; have hcz16_2 : w14.cell? ⟨gb225, 2, none⟩ = some (.slice A0_2 l0_2.length c0_2) := bc_ BK225.out 2; have hfz16_0 := blk_frozen BK225.out 0; have hfz16_1 := blk_frozen BK225.out 1; have hfz16_2 := blk_frozen BK225.out 2) | ((with_reducible refine gate_callee (f := 15) rfl ?_); refine goesL_ (some 20) rfl rfl Try.func15 (by kernel_rfl) rfl #[.agg #[.slice A0_0 l0_0.length c0_0, .int .i64 a0_1, .slice A0_2 l0_2.length c0_2], .int .i64 1048576] rfl ml_ ?_; (with_reducible refine (laws_szParty.calls k _ _ l0_0 a0_1 _ _ l0_2 1048576 t227 _ ?side1 ?side2 ?side3 ?side4 A4.out).mono ?_); (case side1 => exact rc_ (Kd.C_below HR0_0.out HB.out)); (case side2 => exact HC0_0.out); (case side3 => exact rc_ (Kd.C_below HR0_2.out HB.out)); (case side4 => exact HC0_2.out); rintro e w17 ⟨rfl, hb⟩; refine ⟨_, rfl, ?_⟩; replace BK225 := Aside0.mk (bb_ BK225.out hb); replace BK226 := Aside0.mk (bb_ BK226.out hb); replace HB := Aside0.mk (below_step (bel_ HB.out) hb); (try clear hb); (try clear hb2); (try clear hk); (try clear hi); have hcz18_0 : w17.cell? ⟨gb226, 0, none⟩ = some (.int .i64 a2_0) := bc_ BK226.out 0; have hcz18_1 : w17.cell? ⟨gb226, 1, none⟩ = some (.int .i64 a2_1) := bc_ BK226.out 1; have hcz18_2 : w17.cell? ⟨gb226, 2, none⟩ = some (.int .i64 a2_2) := bc_ BK226.out 2; have hcz18_3 : w17.cell? ⟨gb226, 3, none⟩ = some (.string a2_3) := bc_ BK226.out 3; have hfz18_0 := blk_frozen BK226.out 0; have hfz18_1 := blk_frozen BK226.out 1; have hfz18_2 := blk_frozen BK226.out 2; have hfz18_3 := blk_frozen BK226.out 3) | ((with_reducible refine gate_callee (f := 23) rfl ?_); refine goesL_ (some 25) rfl rfl Try.func23 (by kernel_rfl) rfl #[.agg #[.int .i64 a2_0, .int .i64 a2_1, .int .i64 a2_2, .string a2_3], .int .i64 t227] rfl ml_ ?_; (with_reducible refine (laws_szPost.calls a2_0 a2_1 a2_2 a2_3 t227 t228 _ A11.out).mono ?_); rintro e w19 ⟨rfl, hb⟩; refine ⟨_, rfl, ?_⟩; replace BK225 := Aside0.mk (bb_ BK225.out hb); replace BK226 := Aside0.mk (bb_ BK226.out hb); replace HB := Aside0.mk (below_step (bel_ HB.out) hb); (try clear hb); (try clear hb2); (try clear hk); (try clear hi)))
  go_ret
  exact ⟨by first | rfl | (simp [errW_none, errW_some] <;> rfl) | (simp [*, errW_none, errW_some] <;> rfl), bel_ HB.out⟩
 case neg =>
 rw [if_neg c12] at H
 have c12b0 : decide (t228 < 0) = false := decide_eq_false c12
 clear c12; replace H := Option.bind_eq_some_iff.mp H
 obtain ⟨⟨t229, t232, t233⟩, A200, H⟩ := H
 replace H : ((laws_toPost.f a2_0 a2_1 a2_2 a2_3).bind fun bt236 => ((spec_Take21.f k t229 t232 t233 a1 bt236.1 bt236.2.1 bt236.2.2.1 bt236.2.2.2).bind fun bt240 => ((laws_toParty.f k l0_0 a0_1 l0_2).bind fun bt249 => ((laws_toPost.f a2_0 a2_1 a2_2 a2_3).bind fun bt257 => ((impl_Take21.f k bt249.1 bt249.2.1 bt249.2.2 a1 bt257.1 bt257.2.1 bt257.2.2.1 bt257.2.2.2).bind fun bt261 => ((laws_eqParty.f k bt261.1 bt261.2.1 bt261.2.2.1 bt240.1 bt240.2.1 bt240.2.2.1).bind fun t270 => (if t270 = true then (laws_FnExactTake21.j0 k a1 bt240.2.2.2 bt261.2.2.2 (bt261.2.2.2 != bt240.2.2.2) l0_0 a0_1 l0_2 a2_0 a2_1 a2_2 a2_3 bt240.1 bt240.2.1 bt240.2.2.1 bt249.1 bt249.2.1 bt249.2.2 bt261.1 bt261.2.1 bt261.2.2.1) else (laws_FnExactTake21.j0 k a1 bt240.2.2.2 bt261.2.2.2 true l0_0 a0_1 l0_2 a2_0 a2_1 a2_2 a2_3 bt240.1 bt240.2.1 bt240.2.2.1 bt249.1 bt249.2.1 bt249.2.2 bt261.1 bt261.2.1 bt261.2.2.1)))))))) = some r := H
 have A20 := Aside0.mk A200
 clear A200; replace H := Option.bind_eq_some_iff.mp H
 obtain ⟨⟨t236, t237, t238, t239⟩, A210, H⟩ := H
 replace H : ((spec_Take21.f k t229 t232 t233 a1 t236 t237 t238 t239).bind fun bt240 => ((laws_toParty.f k l0_0 a0_1 l0_2).bind fun bt249 => ((laws_toPost.f a2_0 a2_1 a2_2 a2_3).bind fun bt257 => ((impl_Take21.f k bt249.1 bt249.2.1 bt249.2.2 a1 bt257.1 bt257.2.1 bt257.2.2.1 bt257.2.2.2).bind fun bt261 => ((laws_eqParty.f k bt261.1 bt261.2.1 bt261.2.2.1 bt240.1 bt240.2.1 bt240.2.2.1).bind fun t270 => (if t270 = true then (laws_FnExactTake21.j0 k a1 bt240.2.2.2 bt261.2.2.2 (bt261.2.2.2 != bt240.2.2.2) l0_0 a0_1 l0_2 a2_0 a2_1 a2_2 a2_3 bt240.1 bt240.2.1 bt240.2.2.1 bt249.1 bt249.2.1 bt249.2.2 bt261.1 bt261.2.1 bt261.2.2.1) else (laws_FnExactTake21.j0 k a1 bt240.2.2.2 bt261.2.2.2 true l0_0 a0_1 l0_2 a2_0 a2_1 a2_2 a2_3 bt240.1 bt240.2.1 bt240.2.2.1 bt249.1 bt249.2.1 bt249.2.2 bt261.1 bt261.2.1 bt261.2.2.1))))))) = some r := H
 have A21 := Aside0.mk A210
 clear A210; replace H := Option.bind_eq_some_iff.mp H
 obtain ⟨⟨t240, t243, t244, t247⟩, A220, H⟩ := H
 replace H : ((laws_toParty.f k l0_0 a0_1 l0_2).bind fun bt249 => ((laws_toPost.f a2_0 a2_1 a2_2 a2_3).bind fun bt257 => ((impl_Take21.f k bt249.1 bt249.2.1 bt249.2.2 a1 bt257.1 bt257.2.1 bt257.2.2.1 bt257.2.2.2).bind fun bt261 => ((laws_eqParty.f k bt261.1 bt261.2.1 bt261.2.2.1 t240 t243 t244).bind fun t270 => (if t270 = true then (laws_FnExactTake21.j0 k a1 t247 bt261.2.2.2 (bt261.2.2.2 != t247) l0_0 a0_1 l0_2 a2_0 a2_1 a2_2 a2_3 t240 t243 t244 bt249.1 bt249.2.1 bt249.2.2 bt261.1 bt261.2.1 bt261.2.2.1) else (laws_FnExactTake21.j0 k a1 t247 bt261.2.2.2 true l0_0 a0_1 l0_2 a2_0 a2_1 a2_2 a2_3 t240 t243 t244 bt249.1 bt249.2.1 bt249.2.2 bt261.1 bt261.2.1 bt261.2.2.1)))))) = some r := H
 have A22 := Aside0.mk A220
 clear A220; replace H := Option.bind_eq_some_iff.mp H
 obtain ⟨⟨t249, t252, t253⟩, A230, H⟩ := H
 replace H : ((laws_toPost.f a2_0 a2_1 a2_2 a2_3).bind fun bt257 => ((impl_Take21.f k t249 t252 t253 a1 bt257.1 bt257.2.1 bt257.2.2.1 bt257.2.2.2).bind fun bt261 => ((laws_eqParty.f k bt261.1 bt261.2.1 bt261.2.2.1 t240 t243 t244).bind fun t270 => (if t270 = true then (laws_FnExactTake21.j0 k a1 t247 bt261.2.2.2 (bt261.2.2.2 != t247) l0_0 a0_1 l0_2 a2_0 a2_1 a2_2 a2_3 t240 t243 t244 t249 t252 t253 bt261.1 bt261.2.1 bt261.2.2.1) else (laws_FnExactTake21.j0 k a1 t247 bt261.2.2.2 true l0_0 a0_1 l0_2 a2_0 a2_1 a2_2 a2_3 t240 t243 t244 t249 t252 t253 bt261.1 bt261.2.1 bt261.2.2.1))))) = some r := H
 have A23 := Aside0.mk A230
 clear A230; replace H := Option.bind_eq_some_iff.mp H
 obtain ⟨⟨t257, t258, t259, t260⟩, A240, H⟩ := H
 replace H : ((impl_Take21.f k t249 t252 t253 a1 t257 t258 t259 t260).bind fun bt261 => ((laws_eqParty.f k bt261.1 bt261.2.1 bt261.2.2.1 t240 t243 t244).bind fun t270 => (if t270 = true then (laws_FnExactTake21.j0 k a1 t247 bt261.2.2.2 (bt261.2.2.2 != t247) l0_0 a0_1 l0_2 a2_0 a2_1 a2_2 a2_3 t240 t243 t244 t249 t252 t253 bt261.1 bt261.2.1 bt261.2.2.1) else (laws_FnExactTake21.j0 k a1 t247 bt261.2.2.2 true l0_0 a0_1 l0_2 a2_0 a2_1 a2_2 a2_3 t240 t243 t244 t249 t252 t253 bt261.1 bt261.2.1 bt261.2.2.1)))) = some r := H
 have A24 := Aside0.mk A240
 clear A240; replace H := Option.bind_eq_some_iff.mp H
 obtain ⟨⟨t261, t264, t265, t268⟩, A250, H⟩ := H
 replace H : ((laws_eqParty.f k t261 t264 t265 t240 t243 t244).bind fun t270 => (if t270 = true then (laws_FnExactTake21.j0 k a1 t247 t268 (t268 != t247) l0_0 a0_1 l0_2 a2_0 a2_1 a2_2 a2_3 t240 t243 t244 t249 t252 t253 t261 t264 t265) else (laws_FnExactTake21.j0 k a1 t247 t268 true l0_0 a0_1 l0_2 a2_0 a2_1 a2_2 a2_3 t240 t243 t244 t249 t252 t253 t261 t264 t265))) = some r := H
 have A25 := Aside0.mk A250
 clear A250
 have HC26 := Aside0.mk H
 clear H
 go_enter Try.func6, Try.ntmps6
 try go_wp2_with (first | ((with_reducible refine gate_dst (N := 3) rfl ?_); refine box_event ?hg (N := 3) ?hd (cs := #[.slice A0_0 l0_0.length c0_0, .int .i64 a0_1, .slice A0_2 l0_2.length c0_2]) (t := 42) ?hr ?_; (case hd => rfl); (case hg => rfl); (case hr => first | (go_simp; done) | (go_simp; rfl)); intro gb225 hg w27 hbox hb; have BK225 := Aside0.mk (hbox); have GW225 := Aside0.mk ((by rw [hg]; exact (below_size (bel_ HB.out)) : w.heap.size ≤ gb225)); have GE225 := Aside0.mk ((by rw [hg]; exact (below_size (bel_ HB.out)) : w.heap.size ≤ gb225)); replace HB := Aside0.mk (below_step (bel_ HB.out) hb); clear hb hbox hg) | ((with_reducible refine gate_dst (N := 5) rfl ?_); refine box_event ?hg (N := 5) ?hd (cs := #[.int .i64 a2_0, .int .i64 a2_1, .int .i64 a2_2, .string a2_3]) (t := 50) ?hr ?_; (case hd => rfl); (case hg => rfl); (case hr => first | (go_simp; done) | (go_simp; rfl)); intro gb226 hg w28 hbox hb; have BK226 := Aside0.mk (hbox); have GW226 := Aside0.mk ((by rw [hg]; exact (below_size (bel_ HB.out)) : w.heap.size ≤ gb226)); have GE226 := Aside0.mk ((by rw [hg]; exact (below_size (bel_ HB.out)) : w.heap.size ≤ gb226)); replace HB := Aside0.mk (below_step (bel_ HB.out) hb); have NB225_226 := Aside0.mk (nl_ BK225.out hg); have NB226_225 := Aside0.mk (ng_ BK225.out hg); replace BK225 := Aside0.mk (bb_ BK225.out hb); clear hb hbox hg; have hnb29 := NB225_226.out; have hnc29 := NB226_225.out; have hcz30_0 : w28.cell? ⟨gb225, 0, none⟩ = some (.slice A0_0 l0_0.length c0_0) := bc_ BK225.out 0; have hcz30_1 : w28.cell? ⟨gb225, 1, none⟩ = some (.int .i64 a0_1) := bc_ BK225.out 1; have hcz30_2 : w28.cell? ⟨gb225, 2, none⟩ = some (.slice A0_2 l0_2.length c0_2) := bc_ BK225.out 2; have hfz30_0 := blk_frozen BK225.out 0; have hfz30_1 := blk_frozen BK225.out 1; have hfz30_2 := blk_frozen BK225.out 2) | ((with_reducible refine gate_callee (f := 15) rfl ?_); refine goesL_ (some 20) rfl rfl Try.func15 (by kernel_rfl) rfl #[.agg #[.slice A0_0 l0_0.length c0_0, .int .i64 a0_1, .slice A0_2 l0_2.length c0_2], .int .i64 1048576] rfl ml_ ?_; (with_reducible refine (laws_szParty.calls k _ _ l0_0 a0_1 _ _ l0_2 1048576 t227 _ ?side1 ?side2 ?side3 ?side4 A4.out).mono ?_); (case side1 => exact rc_ (Kd.C_below HR0_0.out HB.out)); (case side2 => exact HC0_0.out); (case side3 => exact rc_ (Kd.C_below HR0_2.out HB.out)); (case side4 => exact HC0_2.out); rintro e w31 ⟨rfl, hb⟩; refine ⟨_, rfl, ?_⟩; replace BK225 := Aside0.mk (bb_ BK225.out hb); replace BK226 := Aside0.mk (bb_ BK226.out hb); replace HB := Aside0.mk (below_step (bel_ HB.out) hb); (try clear hb); (try clear hb2); (try clear hk); (try clear hi); have hcz32_0 : w31.cell? ⟨gb226, 0, none⟩ = some (.int .i64 a2_0) := bc_ BK226.out 0; have hcz32_1 : w31.cell? ⟨gb226, 1, none⟩ = some (.int .i64 a2_1) := bc_ BK226.out 1; have hcz32_2 : w31.cell? ⟨gb226, 2, none⟩ = some (.int .i64 a2_2) := bc_ BK226.out 2; have hcz32_3 : w31.cell? ⟨gb226, 3, none⟩ = some (.string a2_3) := bc_ BK226.out 3; have hfz32_0 := blk_frozen BK226.out 0; have hfz32_1 := blk_frozen BK226.out 1; have hfz32_2 := blk_frozen BK226.out 2; have hfz32_3 := blk_frozen BK226.out 3) | ((with_reducible refine gate_callee (f := 23) rfl ?_); refine goesL_ (some 25) rfl rfl Try.func23 (by kernel_rfl) rfl #[.agg #[.int .i64 a2_0, .int .i64 a2_1, .int .i64 a2_2, .string a2_3], .int .i64 t227] rfl ml_ ?_; (with_reducible refine (laws_szPost.calls a2_0 a2_1 a2_2 a2_3 t227 t228 _ A11.out).mono ?_); rintro e w33 ⟨rfl, hb⟩; refine ⟨_, rfl, ?_⟩; replace BK225 := Aside0.mk (bb_ BK225.out hb); replace BK226 := Aside0.mk (bb_ BK226.out hb); replace HB := Aside0.mk (below_step (bel_ HB.out) hb); (try clear hb); (try clear hb2); (try clear hk); (try clear hi)))
 replace BK225 := Aside0.mk (blk_drew BK225.out); replace BK226 := Aside0.mk (blk_drew BK226.out); replace HB := Aside0.mk (below_drew1 HB.out)
 refine start_ (n := 12) (S := fun w' => w'.cell? ⟨gb225, 0, none⟩ = some (.slice A0_0 l0_0.length c0_0) ∧ w'.cell? ⟨gb225, 1, none⟩ = some (.int .i64 a0_1) ∧ w'.cell? ⟨gb225, 2, none⟩ = some (.slice A0_2 l0_2.length c0_2) ∧ w'.cell? ⟨gb226, 0, none⟩ = some (.int .i64 a2_0) ∧ w'.cell? ⟨gb226, 1, none⟩ = some (.int .i64 a2_1) ∧ w'.cell? ⟨gb226, 2, none⟩ = some (.int .i64 a2_2) ∧ w'.cell? ⟨gb226, 3, none⟩ = some (.string a2_3)) (ds := []) (bs 12 0) (by kernel_rfl) rfl rfl ⟨bc_ BK225.out 0, bc_ BK225.out 1, bc_ BK225.out 2, bc_ BK226.out 0, bc_ BK226.out 1, bc_ BK226.out 2, bc_ BK226.out 3⟩ (fun hHeld => ?_); refine with_tabW laws_FnExactTake21.tab8 laws_FnExactTake21.bits8 (fun HT_ HW_ => ?_)
 generalize w33.drew = w34 at BK225 BK226 HB hHeld ⊢
 refine pu_ 2 31 HT_ (bs 12 4) rfl rfl ?_
 refine take_ (i := 0) (N := some 29) (v := ?_) (a' := ?_) (bs 12 5) rfl rfl (take_ofW HT_.out HW_.out (by kernel_rfl)) (fun _ _ _ h => h) (Or.inl ⟨by rfl, ?_⟩) hHeld ?_ ?_
 rotate_left
 ·rintro w' ⟨s0, s1, s2, s3, s4, s5, s6⟩
  go_simp
  with_reducible rfl
 rotate_left
 ·simp only [Act.put, sA_, sZ_, sS_, i64_w, i32_w]
  rfl
 refine take_ (i := 3) (N := some 32) (v := ?_) (a' := ?_) (bs 12 13) rfl rfl (take_ofW HT_.out HW_.out (by kernel_rfl)) (fun _ _ _ h => h) (Or.inl ⟨by rfl, ?_⟩) hHeld ?_ ?_
 rotate_left
 ·rintro w' ⟨s0, s1, s2, s3, s4, s5, s6⟩
  go_simp
  with_reducible rfl
 rotate_left
 ·simp only [Act.put, sA_, sZ_, sS_, i64_w, i32_w]
  rfl
 refine join_ (σ := Value × Value × Value × Value × Nat) 2 (bs 12 1023) (fun s_ => [(30, .agg #[s_.1, .int .i64 t232, s_.2.1]), (33, .agg #[.int .i64 t236, .int .i64 t237, .int .i64 t238, .string t239]), (34, .tuple #[.agg #[s_.2.2.1, .int .i64 t243, s_.2.2.2.1], .bool t247]), (8, .pointer (some ⟨s_.2.2.2.2, 0, none⟩)), (28, .tuple #[.agg #[s_.2.2.1, .int .i64 t243, s_.2.2.2.1], .bool t247]), (35, .agg #[s_.2.2.1, .int .i64 t243, s_.2.2.2.1]), (36, .bool t247)]) (fun s_ w' => (w'.cell? ⟨gb225, 0, none⟩ = some (.slice A0_0 l0_0.length c0_0) ∧ w'.cell? ⟨gb225, 1, none⟩ = some (.int .i64 a0_1) ∧ w'.cell? ⟨gb225, 2, none⟩ = some (.slice A0_2 l0_2.length c0_2) ∧ w'.cell? ⟨gb226, 0, none⟩ = some (.int .i64 a2_0) ∧ w'.cell? ⟨gb226, 1, none⟩ = some (.int .i64 a2_1) ∧ w'.cell? ⟨gb226, 2, none⟩ = some (.int .i64 a2_2) ∧ w'.cell? ⟨gb226, 3, none⟩ = some (.string a2_3)) ∧ (Kd.R Kd.string 9 w' w.heap.size (fun k_ => nB_ (s_.2.1) k_ ∧ nB_ (s_.2.2.1) k_ ∧ nB_ (s_.2.2.2.1) k_) s_.1 t229) ∧ (Kd.R Kd.string 9 w' w.heap.size (fun k_ => nB_ (s_.1) k_ ∧ nB_ (s_.2.2.1) k_ ∧ nB_ (s_.2.2.2.1) k_) s_.2.1 t233) ∧ (Kd.R Kd.string 9 w' w.heap.size (fun k_ => nB_ (s_.1) k_ ∧ nB_ (s_.2.1) k_ ∧ nB_ (s_.2.2.2.1) k_) s_.2.2.1 t240) ∧ (Kd.R Kd.string 9 w' w.heap.size (fun k_ => nB_ (s_.1) k_ ∧ nB_ (s_.2.1) k_ ∧ nB_ (s_.2.2.1) k_) s_.2.2.2.1 t244) ∧ (w'.heap[gb225]? = some (.cells #[.slice A0_0 l0_0.length c0_0, .int .i64 a0_1, .slice A0_2 l0_2.length c0_2] 42 (0, 0))) ∧ (w'.heap[gb226]? = some (.cells #[.int .i64 a2_0, .int .i64 a2_1, .int .i64 a2_2, .string a2_3] 50 (0, 0))) ∧ (w'.heap[s_.2.2.2.2]? = some (.cells #[.slice none 0 0, .int .i64 0, .slice none 0 0] 26 (0, 0))) ∧ (w.heap.size ≤ s_.2.2.2.2) ∧ (w.heap.size ≤ s_.2.2.2.2) ∧ (gb225 ≠ s_.2.2.2.2) ∧ (s_.2.2.2.2 ≠ gb225) ∧ (gb226 ≠ s_.2.2.2.2) ∧ (s_.2.2.2.2 ≠ gb226) ∧ (Below w.heap.size w w')) ?_ ?_
 rotate_left
 ·intro hCont
  refine two_ (i := 1) (j := 9) (Ni := some 30) (Nj := some 8) (bs 12 15) (bs 12 525) rfl rfl rfl rfl (two_of HT_.out (by kernel_rfl)) (by decide) (by decide) (fun K hK => ?_) (fun K hK => ?_)
  ·skip
   refine goes_ Try.func17 (by kernel_rfl) rfl #[.agg #[.slice A0_0 l0_0.length c0_0, .int .i64 a0_1, .slice A0_2 l0_2.length c0_2]] (by rfl) rfl rfl ml_ ?_
   with_reducible refine (laws_toParty.calls k _ _ l0_0 a0_1 _ _ l0_2 t229 t232 t233 _ ?side1 ?side2 ?side3 ?side4 A20.out).mono ?_
   (case side1 => exact rc_ (Kd.C_below HR0_0.out HB.out))
   (case side2 => exact HC0_0.out)
   (case side3 => exact rc_ (Kd.C_below HR0_2.out HB.out))
   (case side4 => exact HC0_2.out)
   rintro e w35 ⟨v230, v234, rfl, ho0, ho1, hb⟩
   refine ⟨_, rfl, ?_⟩
   have HO231 := Aside0.mk (Kd.R_lower ho0 (below_size (bel_ HB.out)))
   have HO235 := Aside0.mk (Kd.R_lower ho1 (below_size (bel_ HB.out)))
   replace BK225 := Aside0.mk (bb_ BK225.out hb); replace BK226 := Aside0.mk (bb_ BK226.out hb); replace HB := Aside0.mk (below_step (bel_ HB.out) hb); (try clear hb); (try clear hb2); (try clear hk); (try clear hi); (try clear ho0); (try clear ho1)
   refine hK.out _ _ ⟨bc_ BK225.out 0, bc_ BK225.out 1, bc_ BK225.out 2, bc_ BK226.out 0, bc_ BK226.out 1, bc_ BK226.out 2, bc_ BK226.out 3⟩ (fun hHeld => ?_)
   clear hK K
   refine norm_ (a' := ?_) ?_ ?_
   rotate_left
   ·show Act.put _ (some 30) _ = _
    simp only [Act.put, sA_, sZ_, sS_, i64_w, i32_w]
    rfl
   refine two_ (i := 4) (j := 9) (Ni := some 33) (Nj := some 8) (bs 12 31) (bs 12 527) rfl rfl rfl rfl (two_of HT_.out (by kernel_rfl)) (by decide) (by decide) (fun K hK => ?_) (fun K hK => ?_)
   ·skip
    refine goes_ Try.func25 (by kernel_rfl) rfl #[.agg #[.int .i64 a2_0, .int .i64 a2_1, .int .i64 a2_2, .string a2_3]] (by rfl) rfl rfl ml_ ?_
    with_reducible refine (laws_toPost.calls a2_0 a2_1 a2_2 a2_3 t236 t237 t238 t239 _ A21.out).mono ?_
    rintro e w36 ⟨rfl, hb⟩
    refine ⟨_, rfl, ?_⟩; replace HO231 := Aside0.mk (Kd.R_below (fr_ HO231.out) hb); replace HO235 := Aside0.mk (Kd.R_below (fr_ HO235.out) hb); replace BK225 := Aside0.mk (bb_ BK225.out hb); replace BK226 := Aside0.mk (bb_ BK226.out hb); replace HB := Aside0.mk (below_step (bel_ HB.out) hb); (try clear hb); (try clear hb2); (try clear hk); (try clear hi)
    obtain ⟨Ao37, co37, eo37⟩ := Kd.R_slice HO231.out
    (first | subst eo37 | (injection eo37 with f1_ f2_ f3_; have f4_ := f1_.symm; have f5_ := f3_.symm; clear f1_ f2_ f3_; subst f4_; subst f5_))
    obtain ⟨Ao38, co38, eo38⟩ := Kd.R_slice HO235.out
    (first | subst eo38 | (injection eo38 with f1_ f2_ f3_; have f4_ := f1_.symm; have f5_ := f3_.symm; clear f1_ f2_ f3_; subst f4_; subst f5_))
    refine hK.out _ _ ⟨bc_ BK225.out 0, bc_ BK225.out 1, bc_ BK225.out 2, bc_ BK226.out 0, bc_ BK226.out 1, bc_ BK226.out 2, bc_ BK226.out 3⟩ (fun hHeld => ?_)
    clear hK K
    refine norm_ (a' := ?_) ?_ ?_
    rotate_left
    ·show Act.put _ (some 33) _ = _
     simp only [Act.put, sA_, sZ_, sS_, i64_w, i32_w]
     rfl
    refine two_ (i := 5) (j := 9) (Ni := some 34) (Nj := some 8) (bs 12 63) (bs 12 543) rfl rfl rfl rfl (two_of HT_.out (by kernel_rfl)) (by decide) (by decide) (fun K hK => ?_) (fun K hK => ?_)
    ·skip
     refine goes_ Try.func24 (by kernel_rfl) rfl #[.agg #[.slice Ao37 t229.length co37, .int .i64 t232, .slice Ao38 t233.length co38], .int .i64 a1, .agg #[.int .i64 t236, .int .i64 t237, .int .i64 t238, .string t239]] (by rfl) rfl rfl ml_ ?_
     with_reducible refine (spec_Take21.calls k _ _ t229 t232 _ _ t233 a1 t236 t237 t238 t239 t240 t243 t244 t247 _ ?side1 ?side2 ?side3 ?side4 A22.out).mono ?_
     (case side1 => exact rc_ (Kd.R_reads' HO231.out).2.2)
     (case side2 => exact (Kd.R_reads' HO231.out).2.1)
     (case side3 => exact rc_ (Kd.R_reads' HO235.out).2.2)
     (case side4 => exact (Kd.R_reads' HO235.out).2.1)
     rintro e w39 ⟨v241, v245, rfl, ho0, ho1, hb⟩
     refine ⟨_, rfl, ?_⟩
     have HO242 := Aside0.mk (Kd.R_lower (Kd.R_new' (Kd.R_new' ho0 (Kd.R_lt (fr_ HO231.out))) (Kd.R_lt (fr_ HO235.out))) (below_size (bel_ HB.out)))
     have HO246 := Aside0.mk (Kd.R_lower (Kd.R_new' (Kd.R_new' ho1 (Kd.R_lt (fr_ HO231.out))) (Kd.R_lt (fr_ HO235.out))) (below_size (bel_ HB.out)))
     replace HO231 := Aside0.mk (Kd.R_mono (Kd.R_told (Kd.R_told (Kd.R_old (fr_ HO231.out) hb) (Kd.R_base ho0)) (Kd.R_base ho1)) (fun _ h_ => h_.1)); replace HO235 := Aside0.mk (Kd.R_mono (Kd.R_told (Kd.R_told (Kd.R_old (fr_ HO235.out) hb) (Kd.R_base ho0)) (Kd.R_base ho1)) (fun _ h_ => h_.1)); replace BK225 := Aside0.mk (bb_ BK225.out hb); replace BK226 := Aside0.mk (bb_ BK226.out hb); replace HB := Aside0.mk (below_step (bel_ HB.out) hb); (try clear hb); (try clear hb2); (try clear hk); (try clear hi); (try clear ho0); (try clear ho1)
     refine hK.out _ _ ⟨bc_ BK225.out 0, bc_ BK225.out 1, bc_ BK225.out 2, bc_ BK226.out 0, bc_ BK226.out 1, bc_ BK226.out 2, bc_ BK226.out 3⟩ (fun hHeld => ?_)
     clear hK K
     refine norm_ (a' := ?_) ?_ ?_
     rotate_left
     ·show Act.put _ (some 34) _ = _
      simp only [Act.put, sA_, sZ_, sS_, i64_w, i32_w]
      rfl
     refine pu_ 6 28 HT_ (bs 12 127) rfl rfl ?_
     refine pu_ 7 35 HT_ (bs 12 255) rfl rfl ?_
     refine pu_ 8 36 HT_ (bs 12 511) rfl rfl ?_
     refine one_ (i := 9) (N := some 8) (bs 12 1023) rfl rfl (one_of HT_.out (by kernel_rfl)) (by decide) (fun K hK => ?_)
     refine box_step ?hg (N := 8) ?hd (cs := #[.slice none 0 0, .int .i64 0, .slice none 0 0]) (t := 26) ?hr ?_; (case hd => rfl); (case hg => rfl); (case hr => first | (go_simp; done) | (go_simp; rfl))
     intro gb248 hg w40 hbox hb
     replace HO231 := Aside0.mk (Kd.R_below (fr_ HO231.out) hb); replace HO235 := Aside0.mk (Kd.R_below (fr_ HO235.out) hb); replace HO242 := Aside0.mk (Kd.R_below (fr_ HO242.out) hb); replace HO246 := Aside0.mk (Kd.R_below (fr_ HO246.out) hb)
     have BK248 := Aside0.mk (hbox)
     have GW248 := Aside0.mk ((by rw [hg]; exact (below_size (bel_ HB.out)) : w.heap.size ≤ gb248))
     have GE248 := Aside0.mk ((by rw [hg]; exact (below_size (bel_ HB.out)) : w.heap.size ≤ gb248))
     replace HB := Aside0.mk (below_step (bel_ HB.out) hb)
     have NB225_248 := Aside0.mk (nl_ BK225.out hg)
     have NB248_225 := Aside0.mk (ng_ BK225.out hg)
     replace BK225 := Aside0.mk (bb_ BK225.out hb)
     have NB226_248 := Aside0.mk (nl_ BK226.out hg)
     have NB248_226 := Aside0.mk (ng_ BK226.out hg)
     replace BK226 := Aside0.mk (bb_ BK226.out hb); clear hb hbox hg
     refine hK.out _ _ ⟨bc_ BK225.out 0, bc_ BK225.out 1, bc_ BK225.out 2, bc_ BK226.out 0, bc_ BK226.out 1, bc_ BK226.out 2, bc_ BK226.out 3⟩ (fun hHeld => ?_)
     clear hK K
     refine norm_ (a' := ?_) ?_ ?_
     rotate_left
     ·show Act.put _ (some 8) _ = _
      simp only [Act.put, sA_, sZ_, sS_, i64_w, i32_w]
      rfl
     exact norm_ (by simp only [putAll, Act.put, sA_, sZ_, sS_]) (hCont (.slice Ao37 t229.length co37, .slice Ao38 t233.length co38, v241, v245, gb248) _ ⟨hHeld, (rn_ HO231.out (fun _ hk => ⟨hk.1.1, ⟨hk.1.2, hk.2⟩⟩)), (rn_ HO235.out (fun _ hk => ⟨hk.1.1, ⟨hk.1.2, hk.2⟩⟩)), (rn_ HO242.out (fun _ hk => ⟨hk.1.2, ⟨hk.2, hk.1.1⟩⟩)), (rn_ HO246.out (fun _ hk => ⟨hk.1.2, ⟨hk.2, hk.1.1⟩⟩)), (fb_ BK225.out), (fb_ BK226.out), (fb_ BK248.out), GW248.out, GE248.out, NB225_248.out, NB248_225.out, NB226_248.out, NB248_226.out, (bel_ HB.out)⟩)
    ·skip
     refine box_step ?hg (N := 8) ?hd (cs := #[.slice none 0 0, .int .i64 0, .slice none 0 0]) (t := 26) ?hr ?_; (case hd => rfl); (case hg => rfl); (case hr => first | (go_simp; done) | (go_simp; rfl))
     intro gb248 hg w37 hbox hb
     replace HO231 := Aside0.mk (Kd.R_below (fr_ HO231.out) hb); replace HO235 := Aside0.mk (Kd.R_below (fr_ HO235.out) hb)
     have BK248 := Aside0.mk (hbox)
     have GW248 := Aside0.mk ((by rw [hg]; exact (below_size (bel_ HB.out)) : w.heap.size ≤ gb248))
     have GE248 := Aside0.mk ((by rw [hg]; exact (below_size (bel_ HB.out)) : w.heap.size ≤ gb248))
     replace HB := Aside0.mk (below_step (bel_ HB.out) hb)
     have NB225_248 := Aside0.mk (nl_ BK225.out hg)
     have NB248_225 := Aside0.mk (ng_ BK225.out hg)
     replace BK225 := Aside0.mk (bb_ BK225.out hb)
     have NB226_248 := Aside0.mk (nl_ BK226.out hg)
     have NB248_226 := Aside0.mk (ng_ BK226.out hg)
     replace BK226 := Aside0.mk (bb_ BK226.out hb); clear hb hbox hg
     obtain ⟨Ao38, co38, eo38⟩ := Kd.R_slice HO231.out
     (first | subst eo38 | (injection eo38 with f1_ f2_ f3_; have f4_ := f1_.symm; have f5_ := f3_.symm; clear f1_ f2_ f3_; subst f4_; subst f5_))
     obtain ⟨Ao39, co39, eo39⟩ := Kd.R_slice HO235.out
     (first | subst eo39 | (injection eo39 with f1_ f2_ f3_; have f4_ := f1_.symm; have f5_ := f3_.symm; clear f1_ f2_ f3_; subst f4_; subst f5_))
     refine hK.out _ _ ⟨bc_ BK225.out 0, bc_ BK225.out 1, bc_ BK225.out 2, bc_ BK226.out 0, bc_ BK226.out 1, bc_ BK226.out 2, bc_ BK226.out 3⟩ (fun hHeld => ?_)
     clear hK K
     refine norm_ (a' := ?_) ?_ ?_
     rotate_left
     ·show Act.put _ (some 8) _ = _
      simp only [Act.put, sA_, sZ_, sS_, i64_w, i32_w]
      rfl
     refine one_ (i := 5) (N := some 34) (bs 12 575) rfl rfl (one_of HT_.out (by kernel_rfl)) (by decide) (fun K hK => ?_)
     refine goes_ Try.func24 (by kernel_rfl) rfl #[.agg #[.slice Ao38 t229.length co38, .int .i64 t232, .slice Ao39 t233.length co39], .int .i64 a1, .agg #[.int .i64 t236, .int .i64 t237, .int .i64 t238, .string t239]] (by rfl) rfl rfl ml_ ?_
     with_reducible refine (spec_Take21.calls k _ _ t229 t232 _ _ t233 a1 t236 t237 t238 t239 t240 t243 t244 t247 _ ?side1 ?side2 ?side3 ?side4 A22.out).mono ?_
     (case side1 => exact rc_ (Kd.R_reads' HO231.out).2.2)
     (case side2 => exact (Kd.R_reads' HO231.out).2.1)
     (case side3 => exact rc_ (Kd.R_reads' HO235.out).2.2)
     (case side4 => exact (Kd.R_reads' HO235.out).2.1)
     rintro e w40 ⟨v241, v245, rfl, ho0, ho1, hb⟩
     refine ⟨_, rfl, ?_⟩
     have HO242 := Aside0.mk (Kd.R_lower (Kd.R_new' (Kd.R_new' ho0 (Kd.R_lt (fr_ HO231.out))) (Kd.R_lt (fr_ HO235.out))) (below_size (bel_ HB.out)))
     have HO246 := Aside0.mk (Kd.R_lower (Kd.R_new' (Kd.R_new' ho1 (Kd.R_lt (fr_ HO231.out))) (Kd.R_lt (fr_ HO235.out))) (below_size (bel_ HB.out)))
     replace HO231 := Aside0.mk (Kd.R_mono (Kd.R_told (Kd.R_told (Kd.R_old (fr_ HO231.out) hb) (Kd.R_base ho0)) (Kd.R_base ho1)) (fun _ h_ => h_.1)); replace HO235 := Aside0.mk (Kd.R_mono (Kd.R_told (Kd.R_told (Kd.R_old (fr_ HO235.out) hb) (Kd.R_base ho0)) (Kd.R_base ho1)) (fun _ h_ => h_.1)); replace BK225 := Aside0.mk (bb_ BK225.out hb); replace BK226 := Aside0.mk (bb_ BK226.out hb); replace BK248 := Aside0.mk (bb_ BK248.out hb); replace HB := Aside0.mk (below_step (bel_ HB.out) hb); (try clear hb); (try clear hb2); (try clear hk); (try clear hi); (try clear ho0); (try clear ho1)
     refine hK.out _ _ ⟨bc_ BK225.out 0, bc_ BK225.out 1, bc_ BK225.out 2, bc_ BK226.out 0, bc_ BK226.out 1, bc_ BK226.out 2, bc_ BK226.out 3⟩ (fun hHeld => ?_)
     clear hK K
     refine norm_ (a' := ?_) ?_ ?_
     rotate_left
     ·show Act.put _ (some 34) _ = _
      simp only [Act.put, sA_, sZ_, sS_, i64_w, i32_w]
      rfl
     refine pu_ 6 28 HT_ (bs 12 639) rfl rfl ?_
     refine pu_ 7 35 HT_ (bs 12 767) rfl rfl ?_
     refine pu_ 8 36 HT_ (bs 12 1023) rfl rfl ?_
     exact norm_ (by simp only [putAll, Act.put, sA_, sZ_, sS_]) (hCont (.slice Ao38 t229.length co38, .slice Ao39 t233.length co39, v241, v245, gb248) _ ⟨hHeld, (rn_ HO231.out (fun _ hk => ⟨hk.1.1, ⟨hk.1.2, hk.2⟩⟩)), (rn_ HO235.out (fun _ hk => ⟨hk.1.1, ⟨hk.1.2, hk.2⟩⟩)), (rn_ HO242.out (fun _ hk => ⟨hk.1.2, ⟨hk.2, hk.1.1⟩⟩)), (rn_ HO246.out (fun _ hk => ⟨hk.1.2, ⟨hk.2, hk.1.1⟩⟩)), (fb_ BK225.out), (fb_ BK226.out), (fb_ BK248.out), GW248.out, GE248.out, NB225_248.out, NB248_225.out, NB226_248.out, NB248_226.out, (bel_ HB.out)⟩)
   ·skip
    refine box_step ?hg (N := 8) ?hd (cs := #[.slice none 0 0, .int .i64 0, .slice none 0 0]) (t := 26) ?hr ?_; (case hd => rfl); (case hg => rfl); (case hr => first | (go_simp; done) | (go_simp; rfl))
    intro gb248 hg w36 hbox hb
    replace HO231 := Aside0.mk (Kd.R_below (fr_ HO231.out) hb); replace HO235 := Aside0.mk (Kd.R_below (fr_ HO235.out) hb)
    have BK248 := Aside0.mk (hbox)
    have GW248 := Aside0.mk ((by rw [hg]; exact (below_size (bel_ HB.out)) : w.heap.size ≤ gb248))
    have GE248 := Aside0.mk ((by rw [hg]; exact (below_size (bel_ HB.out)) : w.heap.size ≤ gb248))
    replace HB := Aside0.mk (below_step (bel_ HB.out) hb)
    have NB225_248 := Aside0.mk (nl_ BK225.out hg)
    have NB248_225 := Aside0.mk (ng_ BK225.out hg)
    replace BK225 := Aside0.mk (bb_ BK225.out hb)
    have NB226_248 := Aside0.mk (nl_ BK226.out hg)
    have NB248_226 := Aside0.mk (ng_ BK226.out hg)
    replace BK226 := Aside0.mk (bb_ BK226.out hb); clear hb hbox hg
    refine hK.out _ _ ⟨bc_ BK225.out 0, bc_ BK225.out 1, bc_ BK225.out 2, bc_ BK226.out 0, bc_ BK226.out 1, bc_ BK226.out 2, bc_ BK226.out 3⟩ (fun hHeld => ?_)
    clear hK K
    refine norm_ (a' := ?_) ?_ ?_
    rotate_left
    ·show Act.put _ (some 8) _ = _
     simp only [Act.put, sA_, sZ_, sS_, i64_w, i32_w]
     rfl
    refine one_ (i := 4) (N := some 33) (bs 12 543) rfl rfl (one_of HT_.out (by kernel_rfl)) (by decide) (fun K hK => ?_)
    refine goes_ Try.func25 (by kernel_rfl) rfl #[.agg #[.int .i64 a2_0, .int .i64 a2_1, .int .i64 a2_2, .string a2_3]] (by rfl) rfl rfl ml_ ?_
    with_reducible refine (laws_toPost.calls a2_0 a2_1 a2_2 a2_3 t236 t237 t238 t239 _ A21.out).mono ?_
    rintro e w37 ⟨rfl, hb⟩
    refine ⟨_, rfl, ?_⟩; replace HO231 := Aside0.mk (Kd.R_below (fr_ HO231.out) hb); replace HO235 := Aside0.mk (Kd.R_below (fr_ HO235.out) hb); replace BK225 := Aside0.mk (bb_ BK225.out hb); replace BK226 := Aside0.mk (bb_ BK226.out hb); replace BK248 := Aside0.mk (bb_ BK248.out hb); replace HB := Aside0.mk (below_step (bel_ HB.out) hb); (try clear hb); (try clear hb2); (try clear hk); (try clear hi)
    obtain ⟨Ao38, co38, eo38⟩ := Kd.R_slice HO231.out
    (first | subst eo38 | (injection eo38 with f1_ f2_ f3_; have f4_ := f1_.symm; have f5_ := f3_.symm; clear f1_ f2_ f3_; subst f4_; subst f5_))
    obtain ⟨Ao39, co39, eo39⟩ := Kd.R_slice HO235.out
    (first | subst eo39 | (injection eo39 with f1_ f2_ f3_; have f4_ := f1_.symm; have f5_ := f3_.symm; clear f1_ f2_ f3_; subst f4_; subst f5_))
    refine hK.out _ _ ⟨bc_ BK225.out 0, bc_ BK225.out 1, bc_ BK225.out 2, bc_ BK226.out 0, bc_ BK226.out 1, bc_ BK226.out 2, bc_ BK226.out 3⟩ (fun hHeld => ?_)
    clear hK K
    refine norm_ (a' := ?_) ?_ ?_
    rotate_left
    ·show Act.put _ (some 33) _ = _
     simp only [Act.put, sA_, sZ_, sS_, i64_w, i32_w]
     rfl
    refine one_ (i := 5) (N := some 34) (bs 12 575) rfl rfl (one_of HT_.out (by kernel_rfl)) (by decide) (fun K hK => ?_)
    refine goes_ Try.func24 (by kernel_rfl) rfl #[.agg #[.slice Ao38 t229.length co38, .int .i64 t232, .slice Ao39 t233.length co39], .int .i64 a1, .agg #[.int .i64 t236, .int .i64 t237, .int .i64 t238, .string t239]] (by rfl) rfl rfl ml_ ?_
    with_reducible refine (spec_Take21.calls k _ _ t229 t232 _ _ t233 a1 t236 t237 t238 t239 t240 t243 t244 t247 _ ?side1 ?side2 ?side3 ?side4 A22.out).mono ?_
    (case side1 => exact rc_ (Kd.R_reads' HO231.out).2.2)
    (case side2 => exact (Kd.R_reads' HO231.out).2.1)
    (case side3 => exact rc_ (Kd.R_reads' HO235.out).2.2)
    (case side4 => exact (Kd.R_reads' HO235.out).2.1)
    rintro e w40 ⟨v241, v245, rfl, ho0, ho1, hb⟩
    refine ⟨_, rfl, ?_⟩
    have HO242 := Aside0.mk (Kd.R_lower (Kd.R_new' (Kd.R_new' ho0 (Kd.R_lt (fr_ HO231.out))) (Kd.R_lt (fr_ HO235.out))) (below_size (bel_ HB.out)))
    have HO246 := Aside0.mk (Kd.R_lower (Kd.R_new' (Kd.R_new' ho1 (Kd.R_lt (fr_ HO231.out))) (Kd.R_lt (fr_ HO235.out))) (below_size (bel_ HB.out)))
    replace HO231 := Aside0.mk (Kd.R_mono (Kd.R_told (Kd.R_told (Kd.R_old (fr_ HO231.out) hb) (Kd.R_base ho0)) (Kd.R_base ho1)) (fun _ h_ => h_.1)); replace HO235 := Aside0.mk (Kd.R_mono (Kd.R_told (Kd.R_told (Kd.R_old (fr_ HO235.out) hb) (Kd.R_base ho0)) (Kd.R_base ho1)) (fun _ h_ => h_.1)); replace BK225 := Aside0.mk (bb_ BK225.out hb); replace BK226 := Aside0.mk (bb_ BK226.out hb); replace BK248 := Aside0.mk (bb_ BK248.out hb); replace HB := Aside0.mk (below_step (bel_ HB.out) hb); (try clear hb); (try clear hb2); (try clear hk); (try clear hi); (try clear ho0); (try clear ho1)
    refine hK.out _ _ ⟨bc_ BK225.out 0, bc_ BK225.out 1, bc_ BK225.out 2, bc_ BK226.out 0, bc_ BK226.out 1, bc_ BK226.out 2, bc_ BK226.out 3⟩ (fun hHeld => ?_)
    clear hK K
    refine norm_ (a' := ?_) ?_ ?_
    rotate_left
    ·show Act.put _ (some 34) _ = _
     simp only [Act.put, sA_, sZ_, sS_, i64_w, i32_w]
     rfl
    refine pu_ 6 28 HT_ (bs 12 639) rfl rfl ?_
    refine pu_ 7 35 HT_ (bs 12 767) rfl rfl ?_
    refine pu_ 8 36 HT_ (bs 12 1023) rfl rfl ?_
    exact norm_ (by simp only [putAll, Act.put, sA_, sZ_, sS_]) (hCont (.slice Ao38 t229.length co38, .slice Ao39 t233.length co39, v241, v245, gb248) _ ⟨hHeld, (rn_ HO231.out (fun _ hk => ⟨hk.1.1, ⟨hk.1.2, hk.2⟩⟩)), (rn_ HO235.out (fun _ hk => ⟨hk.1.1, ⟨hk.1.2, hk.2⟩⟩)), (rn_ HO242.out (fun _ hk => ⟨hk.1.2, ⟨hk.2, hk.1.1⟩⟩)), (rn_ HO246.out (fun _ hk => ⟨hk.1.2, ⟨hk.2, hk.1.1⟩⟩)), (fb_ BK225.out), (fb_ BK226.out), (fb_ BK248.out), GW248.out, GE248.out, NB225_248.out, NB248_225.out, NB226_248.out, NB248_226.out, (bel_ HB.out)⟩)
  ·skip
   refine box_step ?hg (N := 8) ?hd (cs := #[.slice none 0 0, .int .i64 0, .slice none 0 0]) (t := 26) ?hr ?_; (case hd => rfl); (case hg => rfl); (case hr => first | (go_simp; done) | (go_simp; rfl))
   intro gb248 hg w35 hbox hb
   have BK248 := Aside0.mk (hbox)
   have GW248 := Aside0.mk ((by rw [hg]; exact (below_size (bel_ HB.out)) : w.heap.size ≤ gb248))
   have GE248 := Aside0.mk ((by rw [hg]; exact (below_size (bel_ HB.out)) : w.heap.size ≤ gb248))
   replace HB := Aside0.mk (below_step (bel_ HB.out) hb)
   have NB225_248 := Aside0.mk (nl_ BK225.out hg)
   have NB248_225 := Aside0.mk (ng_ BK225.out hg)
   replace BK225 := Aside0.mk (bb_ BK225.out hb)
   have NB226_248 := Aside0.mk (nl_ BK226.out hg)
   have NB248_226 := Aside0.mk (ng_ BK226.out hg)
   replace BK226 := Aside0.mk (bb_ BK226.out hb); clear hb hbox hg
   refine hK.out _ _ ⟨bc_ BK225.out 0, bc_ BK225.out 1, bc_ BK225.out 2, bc_ BK226.out 0, bc_ BK226.out 1, bc_ BK226.out 2, bc_ BK226.out 3⟩ (fun hHeld => ?_)
   clear hK K
   refine norm_ (a' := ?_) ?_ ?_
   rotate_left
   ·show Act.put _ (some 8) _ = _
    simp only [Act.put, sA_, sZ_, sS_, i64_w, i32_w]
    rfl
   refine one_ (i := 1) (N := some 30) (bs 12 527) rfl rfl (one_of HT_.out (by kernel_rfl)) (by decide) (fun K hK => ?_)
   refine goes_ Try.func17 (by kernel_rfl) rfl #[.agg #[.slice A0_0 l0_0.length c0_0, .int .i64 a0_1, .slice A0_2 l0_2.length c0_2]] (by rfl) rfl rfl ml_ ?_
   with_reducible refine (laws_toParty.calls k _ _ l0_0 a0_1 _ _ l0_2 t229 t232 t233 _ ?side1 ?side2 ?side3 ?side4 A20.out).mono ?_
   (case side1 => exact rc_ (Kd.C_below HR0_0.out HB.out))
   (case side2 => exact HC0_0.out)
   (case side3 => exact rc_ (Kd.C_below HR0_2.out HB.out))
   (case side4 => exact HC0_2.out)
   rintro e w36 ⟨v230, v234, rfl, ho0, ho1, hb⟩
   refine ⟨_, rfl, ?_⟩
   have HO231 := Aside0.mk (Kd.R_lower ho0 (below_size (bel_ HB.out)))
   have HO235 := Aside0.mk (Kd.R_lower ho1 (below_size (bel_ HB.out)))
   replace BK225 := Aside0.mk (bb_ BK225.out hb); replace BK226 := Aside0.mk (bb_ BK226.out hb); replace BK248 := Aside0.mk (bb_ BK248.out hb); replace HB := Aside0.mk (below_step (bel_ HB.out) hb); (try clear hb); (try clear hb2); (try clear hk); (try clear hi); (try clear ho0); (try clear ho1)
   refine hK.out _ _ ⟨bc_ BK225.out 0, bc_ BK225.out 1, bc_ BK225.out 2, bc_ BK226.out 0, bc_ BK226.out 1, bc_ BK226.out 2, bc_ BK226.out 3⟩ (fun hHeld => ?_)
   clear hK K
   refine norm_ (a' := ?_) ?_ ?_
   rotate_left
   ·show Act.put _ (some 30) _ = _
    simp only [Act.put, sA_, sZ_, sS_, i64_w, i32_w]
    rfl
   refine one_ (i := 4) (N := some 33) (bs 12 543) rfl rfl (one_of HT_.out (by kernel_rfl)) (by decide) (fun K hK => ?_)
   refine goes_ Try.func25 (by kernel_rfl) rfl #[.agg #[.int .i64 a2_0, .int .i64 a2_1, .int .i64 a2_2, .string a2_3]] (by rfl) rfl rfl ml_ ?_
   with_reducible refine (laws_toPost.calls a2_0 a2_1 a2_2 a2_3 t236 t237 t238 t239 _ A21.out).mono ?_
   rintro e w37 ⟨rfl, hb⟩
   refine ⟨_, rfl, ?_⟩; replace HO231 := Aside0.mk (Kd.R_below (fr_ HO231.out) hb); replace HO235 := Aside0.mk (Kd.R_below (fr_ HO235.out) hb); replace BK225 := Aside0.mk (bb_ BK225.out hb); replace BK226 := Aside0.mk (bb_ BK226.out hb); replace BK248 := Aside0.mk (bb_ BK248.out hb); replace HB := Aside0.mk (below_step (bel_ HB.out) hb); (try clear hb); (try clear hb2); (try clear hk); (try clear hi)
   obtain ⟨Ao38, co38, eo38⟩ := Kd.R_slice HO231.out
   (first | subst eo38 | (injection eo38 with f1_ f2_ f3_; have f4_ := f1_.symm; have f5_ := f3_.symm; clear f1_ f2_ f3_; subst f4_; subst f5_))
   obtain ⟨Ao39, co39, eo39⟩ := Kd.R_slice HO235.out
   (first | subst eo39 | (injection eo39 with f1_ f2_ f3_; have f4_ := f1_.symm; have f5_ := f3_.symm; clear f1_ f2_ f3_; subst f4_; subst f5_))
   refine hK.out _ _ ⟨bc_ BK225.out 0, bc_ BK225.out 1, bc_ BK225.out 2, bc_ BK226.out 0, bc_ BK226.out 1, bc_ BK226.out 2, bc_ BK226.out 3⟩ (fun hHeld => ?_)
   clear hK K
   refine norm_ (a' := ?_) ?_ ?_
   rotate_left
   ·show Act.put _ (some 33) _ = _
    simp only [Act.put, sA_, sZ_, sS_, i64_w, i32_w]
    rfl
   refine one_ (i := 5) (N := some 34) (bs 12 575) rfl rfl (one_of HT_.out (by kernel_rfl)) (by decide) (fun K hK => ?_)
   refine goes_ Try.func24 (by kernel_rfl) rfl #[.agg #[.slice Ao38 t229.length co38, .int .i64 t232, .slice Ao39 t233.length co39], .int .i64 a1, .agg #[.int .i64 t236, .int .i64 t237, .int .i64 t238, .string t239]] (by rfl) rfl rfl ml_ ?_
   with_reducible refine (spec_Take21.calls k _ _ t229 t232 _ _ t233 a1 t236 t237 t238 t239 t240 t243 t244 t247 _ ?side1 ?side2 ?side3 ?side4 A22.out).mono ?_
   (case side1 => exact rc_ (Kd.R_reads' HO231.out).2.2)
   (case side2 => exact (Kd.R_reads' HO231.out).2.1)
   (case side3 => exact rc_ (Kd.R_reads' HO235.out).2.2)
   (case side4 => exact (Kd.R_reads' HO235.out).2.1)
   rintro e w40 ⟨v241, v245, rfl, ho0, ho1, hb⟩
   refine ⟨_, rfl, ?_⟩
   have HO242 := Aside0.mk (Kd.R_lower (Kd.R_new' (Kd.R_new' ho0 (Kd.R_lt (fr_ HO231.out))) (Kd.R_lt (fr_ HO235.out))) (below_size (bel_ HB.out)))
   have HO246 := Aside0.mk (Kd.R_lower (Kd.R_new' (Kd.R_new' ho1 (Kd.R_lt (fr_ HO231.out))) (Kd.R_lt (fr_ HO235.out))) (below_size (bel_ HB.out)))
   replace HO231 := Aside0.mk (Kd.R_mono (Kd.R_told (Kd.R_told (Kd.R_old (fr_ HO231.out) hb) (Kd.R_base ho0)) (Kd.R_base ho1)) (fun _ h_ => h_.1)); replace HO235 := Aside0.mk (Kd.R_mono (Kd.R_told (Kd.R_told (Kd.R_old (fr_ HO235.out) hb) (Kd.R_base ho0)) (Kd.R_base ho1)) (fun _ h_ => h_.1)); replace BK225 := Aside0.mk (bb_ BK225.out hb); replace BK226 := Aside0.mk (bb_ BK226.out hb); replace BK248 := Aside0.mk (bb_ BK248.out hb); replace HB := Aside0.mk (below_step (bel_ HB.out) hb); (try clear hb); (try clear hb2); (try clear hk); (try clear hi); (try clear ho0); (try clear ho1)
   refine hK.out _ _ ⟨bc_ BK225.out 0, bc_ BK225.out 1, bc_ BK225.out 2, bc_ BK226.out 0, bc_ BK226.out 1, bc_ BK226.out 2, bc_ BK226.out 3⟩ (fun hHeld => ?_)
   clear hK K
   refine norm_ (a' := ?_) ?_ ?_
   rotate_left
   ·show Act.put _ (some 34) _ = _
    simp only [Act.put, sA_, sZ_, sS_, i64_w, i32_w]
    rfl
   refine pu_ 6 28 HT_ (bs 12 639) rfl rfl ?_
   refine pu_ 7 35 HT_ (bs 12 767) rfl rfl ?_
   refine pu_ 8 36 HT_ (bs 12 1023) rfl rfl ?_
   exact norm_ (by simp only [putAll, Act.put, sA_, sZ_, sS_]) (hCont (.slice Ao38 t229.length co38, .slice Ao39 t233.length co39, v241, v245, gb248) _ ⟨hHeld, (rn_ HO231.out (fun _ hk => ⟨hk.1.1, ⟨hk.1.2, hk.2⟩⟩)), (rn_ HO235.out (fun _ hk => ⟨hk.1.1, ⟨hk.1.2, hk.2⟩⟩)), (rn_ HO242.out (fun _ hk => ⟨hk.1.2, ⟨hk.2, hk.1.1⟩⟩)), (rn_ HO246.out (fun _ hk => ⟨hk.1.2, ⟨hk.2, hk.1.1⟩⟩)), (fb_ BK225.out), (fb_ BK226.out), (fb_ BK248.out), GW248.out, GE248.out, NB225_248.out, NB248_225.out, NB226_248.out, NB248_226.out, (bel_ HB.out)⟩)
 rintro ⟨v230, v234, v241, v245, gb248⟩ w41 ⟨hS_, h0_, h1_, h2_, h3_, h4_, h5_, h6_, h7_, h8_, h9_, h10_, h11_, h12_, h13_⟩
 (try dsimp only at h0_); have n0_ := Aside0.mk h0_
 (try dsimp only at h1_); have n1_ := Aside0.mk h1_
 (try dsimp only at h2_); have n2_ := Aside0.mk h2_
 (try dsimp only at h3_); have n3_ := Aside0.mk h3_
 (try dsimp only at h4_); have n4_ := Aside0.mk h4_
 (try dsimp only at h5_); have n5_ := Aside0.mk h5_
 (try dsimp only at h6_); have n6_ := Aside0.mk h6_
 (try dsimp only at h7_); have n7_ := Aside0.mk h7_
 (try dsimp only at h8_); have n8_ := Aside0.mk h8_
 (try dsimp only at h9_); have n9_ := Aside0.mk h9_
 (try dsimp only at h10_); have n10_ := Aside0.mk h10_
 (try dsimp only at h11_); have n11_ := Aside0.mk h11_
 (try dsimp only at h12_); have n12_ := Aside0.mk h12_
 (try dsimp only at h13_); have n13_ := Aside0.mk h13_
 clear BK225 BK226 HB h0_ h1_ h2_ h3_ h4_ h5_ h6_ h7_ h8_ h9_ h10_ h11_ h12_ h13_
 have HO231 := n0_
 have HO235 := n1_
 have HO242 := n2_
 have HO246 := n3_
 have BK225 := n4_
 have BK226 := n5_
 have BK248 := n6_
 have GW248 := n7_
 have GE248 := n8_
 have NB225_248 := n9_
 have NB248_225 := n10_
 have NB226_248 := n11_
 have NB248_226 := n12_
 have HB := n13_
 clear n0_ n1_ n2_ n3_ n4_ n5_ n6_ n7_ n8_ n9_ n10_ n11_ n12_ n13_
 have hHeld : w41.cell? ⟨gb225, 0, none⟩ = some (.slice A0_0 l0_0.length c0_0) ∧ w41.cell? ⟨gb225, 1, none⟩ = some (.int .i64 a0_1) ∧ w41.cell? ⟨gb225, 2, none⟩ = some (.slice A0_2 l0_2.length c0_2) ∧ w41.cell? ⟨gb226, 0, none⟩ = some (.int .i64 a2_0) ∧ w41.cell? ⟨gb226, 1, none⟩ = some (.int .i64 a2_1) ∧ w41.cell? ⟨gb226, 2, none⟩ = some (.int .i64 a2_2) ∧ w41.cell? ⟨gb226, 3, none⟩ = some (.string a2_3) := hS_
 obtain ⟨Ao42, co42, eo42⟩ := Kd.R_slice HO242.out
 (first | subst eo42 | (injection eo42 with f1_ f2_ f3_; have f4_ := f1_.symm; have f5_ := f3_.symm; clear f1_ f2_ f3_; subst f4_; subst f5_))
 obtain ⟨Ao45, co45, eo45⟩ := Kd.R_slice HO246.out
 (first | subst eo45 | (injection eo45 with f1_ f2_ f3_; have f4_ := f1_.symm; have f5_ := f3_.symm; clear f1_ f2_ f3_; subst f4_; subst f5_))
 refine norm_ (a' := ?_) ?_ ?_
 rotate_left
 ·simp only [putAll, Act.put, sA_, sZ_, sS_]
  rfl
 refine one_ (i := 10) (N := none) (bs 12 2047) rfl rfl (one_of HT_.out (by kernel_rfl)) (by decide) (fun K hK => ?_)
 have hs43 : w41.cell? ⟨gb248, 0, none⟩ = some (.slice none 0 0) := bc_ BK248.out 0
 have hfs43 := blk_frozen BK248.out 0
 have hns43_0 := NB225_248.out
 have hns43_1 := NB226_248.out
 have hms43_0 := NB248_225.out
 have hms43_1 := NB248_226.out
 have hs44 : w41.cell? ⟨gb248, 1, none⟩ = some (.int .i64 0) := bc_ BK248.out 1
 have hfs44 := blk_frozen BK248.out 1
 have hns44_0 := NB225_248.out
 have hns44_1 := NB226_248.out
 have hms44_0 := NB248_225.out
 have hms44_1 := NB248_226.out
 have hs46 : w41.cell? ⟨gb248, 2, none⟩ = some (.slice none 0 0) := bc_ BK248.out 2
 have hfs46 := blk_frozen BK248.out 2
 have hns46_0 := NB225_248.out
 have hns46_1 := NB226_248.out
 have hms46_0 := NB248_225.out
 have hms46_1 := NB248_226.out
 refine skip_ (w1 := ?_) (by rfl) rfl ?_ ?_
 rotate_left
 ·go_simp
  rfl
 refine hK.out _ _ ⟨((cell_far (p := ⟨gb248, _, none⟩) NB225_248.out _).trans (((cell_far (p := ⟨gb248, _, none⟩) NB225_248.out _).trans (((cell_far (p := ⟨gb248, _, none⟩) NB225_248.out _).trans (hHeld.1)))))), ((cell_far (p := ⟨gb248, _, none⟩) NB225_248.out _).trans (((cell_far (p := ⟨gb248, _, none⟩) NB225_248.out _).trans (((cell_far (p := ⟨gb248, _, none⟩) NB225_248.out _).trans (hHeld.2.1)))))), ((cell_far (p := ⟨gb248, _, none⟩) NB225_248.out _).trans (((cell_far (p := ⟨gb248, _, none⟩) NB225_248.out _).trans (((cell_far (p := ⟨gb248, _, none⟩) NB225_248.out _).trans (hHeld.2.2.1)))))), ((cell_far (p := ⟨gb248, _, none⟩) NB226_248.out _).trans (((cell_far (p := ⟨gb248, _, none⟩) NB226_248.out _).trans (((cell_far (p := ⟨gb248, _, none⟩) NB226_248.out _).trans (hHeld.2.2.2.1)))))), ((cell_far (p := ⟨gb248, _, none⟩) NB226_248.out _).trans (((cell_far (p := ⟨gb248, _, none⟩) NB226_248.out _).trans (((cell_far (p := ⟨gb248, _, none⟩) NB226_248.out _).trans (hHeld.2.2.2.2.1)))))), ((cell_far (p := ⟨gb248, _, none⟩) NB226_248.out _).trans (((cell_far (p := ⟨gb248, _, none⟩) NB226_248.out _).trans (((cell_far (p := ⟨gb248, _, none⟩) NB226_248.out _).trans (hHeld.2.2.2.2.2.1)))))), ((cell_far (p := ⟨gb248, _, none⟩) NB226_248.out _).trans (((cell_far (p := ⟨gb248, _, none⟩) NB226_248.out _).trans (((cell_far (p := ⟨gb248, _, none⟩) NB226_248.out _).trans (hHeld.2.2.2.2.2.2))))))⟩ (fun hHeld => ?_)
 clear hK K
 refine pu_ 11 9 HT_ (bs 12 4095) rfl rfl ?_
 refine done_ (done_of HT_.out (by kernel_rfl)) ?_
 have hnb47 := NB225_248.out; have hnc47 := NB248_225.out; have hcz48_0 : w41.cell? ⟨gb225, 0, none⟩ = some (.slice A0_0 l0_0.length c0_0) := bc_ BK225.out 0; have hcz48_1 : w41.cell? ⟨gb225, 1, none⟩ = some (.int .i64 a0_1) := bc_ BK225.out 1; have hcz48_2 : w41.cell? ⟨gb225, 2, none⟩ = some (.slice A0_2 l0_2.length c0_2) := bc_ BK225.out 2; have hfz48_0 := blk_frozen BK225.out 0; have hfz48_1 := blk_frozen BK225.out 1; have hfz48_2 := blk_frozen BK225.out 2
 try go_wp2_with (first | ((with_reducible refine gate_callee (f := 17) rfl ?_); refine goesL_ (some 38) rfl rfl Try.func17 (by kernel_rfl) rfl #[.agg #[.slice A0_0 l0_0.length c0_0, .int .i64 a0_1, .slice A0_2 l0_2.length c0_2]] rfl ml_ ?_; (with_reducible refine (laws_toParty.calls k _ _ l0_0 a0_1 _ _ l0_2 t249 t252 t253 _ ?side1 ?side2 ?side3 ?side4 A23.out).mono ?_); (case side1 => exact Kd.C_below HR0_0.out (bel_ HB.out)); (case side2 => exact HC0_0.out); (case side3 => exact Kd.C_below HR0_2.out (bel_ HB.out)); (case side4 => exact HC0_2.out); rintro e w49 ⟨v250, v254, rfl, ho0, ho1, hb⟩; refine ⟨_, rfl, ?_⟩; have HO251 := Aside0.mk (Kd.R_lower (Kd.R_new' (Kd.R_new' (Kd.R_new' (Kd.R_new' ho0 (Kd.R_lt (rf1_ (rt_ HO231.out BK248.out)))) (Kd.R_lt (rf1_ (rt_ HO235.out BK248.out)))) (Kd.R_lt (rf1_ (rt_ HO242.out BK248.out)))) (Kd.R_lt (rf1_ (rt_ HO246.out BK248.out)))) (below_size (bel_ HB.out))); have HO255 := Aside0.mk (Kd.R_lower (Kd.R_new' (Kd.R_new' (Kd.R_new' (Kd.R_new' ho1 (Kd.R_lt (rf1_ (rt_ HO231.out BK248.out)))) (Kd.R_lt (rf1_ (rt_ HO235.out BK248.out)))) (Kd.R_lt (rf1_ (rt_ HO242.out BK248.out)))) (Kd.R_lt (rf1_ (rt_ HO246.out BK248.out)))) (below_size (bel_ HB.out))); replace HO231 := Aside0.mk (Kd.R_mono (Kd.R_told (Kd.R_told (Kd.R_old (rf1_ (rt_ HO231.out BK248.out)) hb) (Kd.R_base ho0)) (Kd.R_base ho1)) (fun _ h_ => h_.1)); replace HO235 := Aside0.mk (Kd.R_mono (Kd.R_told (Kd.R_told (Kd.R_old (rf1_ (rt_ HO235.out BK248.out)) hb) (Kd.R_base ho0)) (Kd.R_base ho1)) (fun _ h_ => h_.1)); replace HO242 := Aside0.mk (Kd.R_mono (Kd.R_told (Kd.R_told (Kd.R_old (rf1_ (rt_ HO242.out BK248.out)) hb) (Kd.R_base ho0)) (Kd.R_base ho1)) (fun _ h_ => h_.1)); replace HO246 := Aside0.mk (Kd.R_mono (Kd.R_told (Kd.R_told (Kd.R_old (rf1_ (rt_ HO246.out BK248.out)) hb) (Kd.R_base ho0)) (Kd.R_base ho1)) (fun _ h_ => h_.1)); replace BK225 := Aside0.mk (ba_ BK225.out hb); replace BK226 := Aside0.mk (ba_ BK226.out hb); replace BK248 := Aside0.mk (blk_below (g := gb248) (o := .cells #[.slice Ao42 t240.length co42, .int .i64 t243, .slice Ao45 t244.length co45] 26 (0, 0)) (by refine rp_ ?_; refine blk_put (cs := #[.slice Ao42 t240.length co42, .int .i64 t243, .slice none 0 0]) ?_ 2 _ rfl; refine rp_ ?_; refine blk_put (cs := #[.slice Ao42 t240.length co42, .int .i64 0, .slice none 0 0]) ?_ 1 _ rfl; refine rp_ ?_; refine blk_put (cs := #[.slice none 0 0, .int .i64 0, .slice none 0 0]) ?_ 0 _ rfl; refine rp_ ?_; exact BK248.out) hb); replace HB := Aside0.mk (below_step (bel_ HB.out) hb); (try clear hb); (try clear hb2); (try clear hk); (try clear hi); (try clear ho0); (try clear ho1)) | ((with_reducible refine gate_dst (N := 10) rfl ?_); refine box_event ?hg (N := 10) ?hd (cs := #[.slice none 0 0, .int .i64 0, .slice none 0 0]) (t := 26) ?hr ?_; (case hd => rfl); (case hg => rfl); (case hr => first | (go_simp; done) | (go_simp; rfl)); intro gb256 hg w50 hbox hb; replace HO231 := Aside0.mk (Kd.R_below (fr_ HO231.out) hb); replace HO235 := Aside0.mk (Kd.R_below (fr_ HO235.out) hb); replace HO242 := Aside0.mk (Kd.R_below (fr_ HO242.out) hb); replace HO246 := Aside0.mk (Kd.R_below (fr_ HO246.out) hb); replace HO251 := Aside0.mk (Kd.R_below (fr_ HO251.out) hb); replace HO255 := Aside0.mk (Kd.R_below (fr_ HO255.out) hb); have BK256 := Aside0.mk (hbox); have GW256 := Aside0.mk ((by rw [hg]; exact (below_size (bel_ HB.out)) : w.heap.size ≤ gb256)); have GE256 := Aside0.mk ((by rw [hg]; exact (below_size (bel_ HB.out)) : w.heap.size ≤ gb256)); replace HB := Aside0.mk (below_step (bel_ HB.out) hb); have NB225_256 := Aside0.mk (nl_ BK225.out hg); have NB256_225 := Aside0.mk (ng_ BK225.out hg); replace BK225 := Aside0.mk (bb_ BK225.out hb); have NB226_256 := Aside0.mk (nl_ BK226.out hg); have NB256_226 := Aside0.mk (ng_ BK226.out hg); replace BK226 := Aside0.mk (bb_ BK226.out hb); have NB248_256 := Aside0.mk (nl_ BK248.out hg); have NB256_248 := Aside0.mk (ng_ BK248.out hg); replace BK248 := Aside0.mk (bb_ BK248.out hb); clear hb hbox hg; obtain ⟨Ao51, co51, eo51⟩ := Kd.R_slice HO251.out; subst eo51; have hnb52 := NB256_225.out; have hnc52 := NB225_256.out; have hnb53 := NB256_226.out; have hnc53 := NB226_256.out; have hnb54 := NB256_248.out; have hnc54 := NB248_256.out; have hcz55_0 : w50.cell? ⟨gb256, 0, none⟩ = some (.slice none 0 0) := bc_ BK256.out 0; have hcz55_1 : w50.cell? ⟨gb256, 1, none⟩ = some (.int .i64 0) := bc_ BK256.out 1; have hcz55_2 : w50.cell? ⟨gb256, 2, none⟩ = some (.slice none 0 0) := bc_ BK256.out 2; have hfz55_0 := blk_frozen BK256.out 0; have hfz55_1 := blk_frozen BK256.out 1; have hfz55_2 := blk_frozen BK256.out 2; obtain ⟨Ao56, co56, eo56⟩ := Kd.R_slice HO255.out; subst eo56))
 have n0_ : Aside0 (Kd.R Kd.string 9 (((w50.setCell ⟨gb256, 0, none⟩ (.slice Ao51 t249.length co51)).setCell ⟨gb256, 1, none⟩ (.int .i64 t252)).setCell ⟨gb256, 2, none⟩ (.slice Ao56 t253.length co56)) w.heap.size (fun k_ => nB_ (v234) k_ ∧ nB_ (.slice Ao42 t240.length co42) k_ ∧ nB_ (.slice Ao45 t244.length co45) k_ ∧ nB_ (.slice Ao51 t249.length co51) k_ ∧ nB_ (.slice Ao56 t253.length co56) k_) v230 t229) := ⟨by (with_reducible repeat (first | apply Kd.R_alloc | apply Kd.R_drewN | apply Kd.R_drew)); exact Kd.R_mono (Kd.R_far (p := ⟨gb256, 2, none⟩) (Kd.R_far (p := ⟨gb256, 1, none⟩) (Kd.R_far (p := ⟨gb256, 0, none⟩) (rt_ HO231.out BK256.out) (fun _ hk => hk.2) (.slice Ao51 t249.length co51)) (fun _ hk => hk.2) (.int .i64 t252)) (fun _ hk => hk.2) (.slice Ao56 t253.length co56)) (fun _ hk => ⟨hk.1.1.1.1, ⟨hk.1.1.1.2.1, ⟨hk.1.1.1.2.2, ⟨hk.1.1.2, hk.1.2⟩⟩⟩⟩)⟩
 have n1_ : Aside0 (Kd.R Kd.string 9 (((w50.setCell ⟨gb256, 0, none⟩ (.slice Ao51 t249.length co51)).setCell ⟨gb256, 1, none⟩ (.int .i64 t252)).setCell ⟨gb256, 2, none⟩ (.slice Ao56 t253.length co56)) w.heap.size (fun k_ => nB_ (v230) k_ ∧ nB_ (.slice Ao42 t240.length co42) k_ ∧ nB_ (.slice Ao45 t244.length co45) k_ ∧ nB_ (.slice Ao51 t249.length co51) k_ ∧ nB_ (.slice Ao56 t253.length co56) k_) v234 t233) := ⟨by (with_reducible repeat (first | apply Kd.R_alloc | apply Kd.R_drewN | apply Kd.R_drew)); exact Kd.R_mono (Kd.R_far (p := ⟨gb256, 2, none⟩) (Kd.R_far (p := ⟨gb256, 1, none⟩) (Kd.R_far (p := ⟨gb256, 0, none⟩) (rt_ HO235.out BK256.out) (fun _ hk => hk.2) (.slice Ao51 t249.length co51)) (fun _ hk => hk.2) (.int .i64 t252)) (fun _ hk => hk.2) (.slice Ao56 t253.length co56)) (fun _ hk => ⟨hk.1.1.1.1, ⟨hk.1.1.1.2.1, ⟨hk.1.1.1.2.2, ⟨hk.1.1.2, hk.1.2⟩⟩⟩⟩)⟩
 have n2_ : Aside0 (Kd.R Kd.string 9 (((w50.setCell ⟨gb256, 0, none⟩ (.slice Ao51 t249.length co51)).setCell ⟨gb256, 1, none⟩ (.int .i64 t252)).setCell ⟨gb256, 2, none⟩ (.slice Ao56 t253.length co56)) w.heap.size (fun k_ => nB_ (v230) k_ ∧ nB_ (v234) k_ ∧ nB_ (.slice Ao45 t244.length co45) k_ ∧ nB_ (.slice Ao51 t249.length co51) k_ ∧ nB_ (.slice Ao56 t253.length co56) k_) (.slice Ao42 t240.length co42) t240) := ⟨by (with_reducible repeat (first | apply Kd.R_alloc | apply Kd.R_drewN | apply Kd.R_drew)); exact Kd.R_mono (Kd.R_far (p := ⟨gb256, 2, none⟩) (Kd.R_far (p := ⟨gb256, 1, none⟩) (Kd.R_far (p := ⟨gb256, 0, none⟩) (rt_ HO242.out BK256.out) (fun _ hk => hk.2) (.slice Ao51 t249.length co51)) (fun _ hk => hk.2) (.int .i64 t252)) (fun _ hk => hk.2) (.slice Ao56 t253.length co56)) (fun _ hk => ⟨hk.1.1.1.1, ⟨hk.1.1.1.2.1, ⟨hk.1.1.1.2.2, ⟨hk.1.1.2, hk.1.2⟩⟩⟩⟩)⟩
 have n3_ : Aside0 (Kd.R Kd.string 9 (((w50.setCell ⟨gb256, 0, none⟩ (.slice Ao51 t249.length co51)).setCell ⟨gb256, 1, none⟩ (.int .i64 t252)).setCell ⟨gb256, 2, none⟩ (.slice Ao56 t253.length co56)) w.heap.size (fun k_ => nB_ (v230) k_ ∧ nB_ (v234) k_ ∧ nB_ (.slice Ao42 t240.length co42) k_ ∧ nB_ (.slice Ao51 t249.length co51) k_ ∧ nB_ (.slice Ao56 t253.length co56) k_) (.slice Ao45 t244.length co45) t244) := ⟨by (with_reducible repeat (first | apply Kd.R_alloc | apply Kd.R_drewN | apply Kd.R_drew)); exact Kd.R_mono (Kd.R_far (p := ⟨gb256, 2, none⟩) (Kd.R_far (p := ⟨gb256, 1, none⟩) (Kd.R_far (p := ⟨gb256, 0, none⟩) (rt_ HO246.out BK256.out) (fun _ hk => hk.2) (.slice Ao51 t249.length co51)) (fun _ hk => hk.2) (.int .i64 t252)) (fun _ hk => hk.2) (.slice Ao56 t253.length co56)) (fun _ hk => ⟨hk.1.1.1.1, ⟨hk.1.1.1.2.1, ⟨hk.1.1.1.2.2, ⟨hk.1.1.2, hk.1.2⟩⟩⟩⟩)⟩
 have n4_ : Aside0 (Kd.R Kd.string 9 (((w50.setCell ⟨gb256, 0, none⟩ (.slice Ao51 t249.length co51)).setCell ⟨gb256, 1, none⟩ (.int .i64 t252)).setCell ⟨gb256, 2, none⟩ (.slice Ao56 t253.length co56)) w.heap.size (fun k_ => nB_ (v230) k_ ∧ nB_ (v234) k_ ∧ nB_ (.slice Ao42 t240.length co42) k_ ∧ nB_ (.slice Ao45 t244.length co45) k_ ∧ nB_ (.slice Ao56 t253.length co56) k_) (.slice Ao51 t249.length co51) t249) := ⟨by (with_reducible repeat (first | apply Kd.R_alloc | apply Kd.R_drewN | apply Kd.R_drew)); exact Kd.R_mono (Kd.R_far (p := ⟨gb256, 2, none⟩) (Kd.R_far (p := ⟨gb256, 1, none⟩) (Kd.R_far (p := ⟨gb256, 0, none⟩) (rt_ HO251.out BK256.out) (fun _ hk => hk.2) (.slice Ao51 t249.length co51)) (fun _ hk => hk.2) (.int .i64 t252)) (fun _ hk => hk.2) (.slice Ao56 t253.length co56)) (fun _ hk => ⟨hk.1.1.1.1.2, ⟨hk.1.1.1.2, ⟨hk.1.1.2, ⟨hk.1.2, hk.1.1.1.1.1⟩⟩⟩⟩)⟩
 have n5_ : Aside0 (Kd.R Kd.string 9 (((w50.setCell ⟨gb256, 0, none⟩ (.slice Ao51 t249.length co51)).setCell ⟨gb256, 1, none⟩ (.int .i64 t252)).setCell ⟨gb256, 2, none⟩ (.slice Ao56 t253.length co56)) w.heap.size (fun k_ => nB_ (v230) k_ ∧ nB_ (v234) k_ ∧ nB_ (.slice Ao42 t240.length co42) k_ ∧ nB_ (.slice Ao45 t244.length co45) k_ ∧ nB_ (.slice Ao51 t249.length co51) k_) (.slice Ao56 t253.length co56) t253) := ⟨by (with_reducible repeat (first | apply Kd.R_alloc | apply Kd.R_drewN | apply Kd.R_drew)); exact Kd.R_mono (Kd.R_far (p := ⟨gb256, 2, none⟩) (Kd.R_far (p := ⟨gb256, 1, none⟩) (Kd.R_far (p := ⟨gb256, 0, none⟩) (rt_ HO255.out BK256.out) (fun _ hk => hk.2) (.slice Ao51 t249.length co51)) (fun _ hk => hk.2) (.int .i64 t252)) (fun _ hk => hk.2) (.slice Ao56 t253.length co56)) (fun _ hk => ⟨hk.1.1.1.1.2, ⟨hk.1.1.1.2, ⟨hk.1.1.2, ⟨hk.1.2, hk.1.1.1.1.1⟩⟩⟩⟩)⟩
 have n6_ : Aside0 ((((w50.setCell ⟨gb256, 0, none⟩ (.slice Ao51 t249.length co51)).setCell ⟨gb256, 1, none⟩ (.int .i64 t252)).setCell ⟨gb256, 2, none⟩ (.slice Ao56 t253.length co56)).heap[gb225]? = some (.cells #[.slice A0_0 l0_0.length c0_0, .int .i64 a0_1, .slice A0_2 l0_2.length c0_2] 42 (0, 0))) := ⟨by refine rp_ ?_; refine blk_far ?_ NB225_256.out _; refine rp_ ?_; refine blk_far ?_ NB225_256.out _; refine rp_ ?_; refine blk_far ?_ NB225_256.out _; refine rp_ ?_; exact BK225.out⟩
 have n7_ : Aside0 ((((w50.setCell ⟨gb256, 0, none⟩ (.slice Ao51 t249.length co51)).setCell ⟨gb256, 1, none⟩ (.int .i64 t252)).setCell ⟨gb256, 2, none⟩ (.slice Ao56 t253.length co56)).heap[gb226]? = some (.cells #[.int .i64 a2_0, .int .i64 a2_1, .int .i64 a2_2, .string a2_3] 50 (0, 0))) := ⟨by refine rp_ ?_; refine blk_far ?_ NB226_256.out _; refine rp_ ?_; refine blk_far ?_ NB226_256.out _; refine rp_ ?_; refine blk_far ?_ NB226_256.out _; refine rp_ ?_; exact BK226.out⟩
 have n8_ : Aside0 ((((w50.setCell ⟨gb256, 0, none⟩ (.slice Ao51 t249.length co51)).setCell ⟨gb256, 1, none⟩ (.int .i64 t252)).setCell ⟨gb256, 2, none⟩ (.slice Ao56 t253.length co56)).heap[gb248]? = some (.cells #[.slice Ao42 t240.length co42, .int .i64 t243, .slice Ao45 t244.length co45] 26 (0, 0))) := ⟨by refine rp_ ?_; refine blk_far ?_ NB248_256.out _; refine rp_ ?_; refine blk_far ?_ NB248_256.out _; refine rp_ ?_; refine blk_far ?_ NB248_256.out _; refine rp_ ?_; exact BK248.out⟩
 have n9_ : Aside0 ((((w50.setCell ⟨gb256, 0, none⟩ (.slice Ao51 t249.length co51)).setCell ⟨gb256, 1, none⟩ (.int .i64 t252)).setCell ⟨gb256, 2, none⟩ (.slice Ao56 t253.length co56)).heap[gb256]? = some (.cells #[.slice Ao51 t249.length co51, .int .i64 t252, .slice Ao56 t253.length co56] 26 (0, 0))) := ⟨by refine rp_ ?_; refine blk_put (cs := #[.slice Ao51 t249.length co51, .int .i64 t252, .slice none 0 0]) ?_ 2 _ rfl; refine rp_ ?_; refine blk_put (cs := #[.slice Ao51 t249.length co51, .int .i64 0, .slice none 0 0]) ?_ 1 _ rfl; refine rp_ ?_; refine blk_put (cs := #[.slice none 0 0, .int .i64 0, .slice none 0 0]) ?_ 0 _ rfl; refine rp_ ?_; exact BK256.out⟩
 have n10_ : Aside0 (Below w.heap.size w (((w50.setCell ⟨gb256, 0, none⟩ (.slice Ao51 t249.length co51)).setCell ⟨gb256, 1, none⟩ (.int .i64 t252)).setCell ⟨gb256, 2, none⟩ (.slice Ao56 t253.length co56))) := ⟨bel_ HB.out⟩
 (try clear HO231); (try clear HO235); (try clear HO242); (try clear HO246); (try clear HO251); (try clear HO255); (try clear BK225); (try clear BK226); (try clear BK248); (try clear BK256); (try clear HB)
 generalize (((w50.setCell ⟨gb256, 0, none⟩ (.slice Ao51 t249.length co51)).setCell ⟨gb256, 1, none⟩ (.int .i64 t252)).setCell ⟨gb256, 2, none⟩ (.slice Ao56 t253.length co56)) = w57 at n0_ n1_ n2_ n3_ n4_ n5_ n6_ n7_ n8_ n9_ n10_ ⊢
 have HO231 := n0_
 have HO235 := n1_
 have HO242 := n2_
 have HO246 := n3_
 have HO251 := n4_
 have HO255 := n5_
 have BK225 := n6_
 have BK226 := n7_
 have BK248 := n8_
 have BK256 := n9_
 have HB := n10_
 clear n0_ n1_ n2_ n3_ n4_ n5_ n6_ n7_ n8_ n9_ n10_; replace HO231 := Aside0.mk (Kd.R_drew HO231.out); replace HO235 := Aside0.mk (Kd.R_drew HO235.out); replace HO242 := Aside0.mk (Kd.R_drew HO242.out); replace HO246 := Aside0.mk (Kd.R_drew HO246.out); replace HO251 := Aside0.mk (Kd.R_drew HO251.out); replace HO255 := Aside0.mk (Kd.R_drew HO255.out); replace BK225 := Aside0.mk (blk_drew BK225.out); replace BK226 := Aside0.mk (blk_drew BK226.out); replace BK248 := Aside0.mk (blk_drew BK248.out); replace BK256 := Aside0.mk (blk_drew BK256.out); replace HB := Aside0.mk (below_drew1 HB.out)
 refine start_ (n := 11) (S := fun w' => w'.cell? ⟨gb256, 0, none⟩ = some (.slice Ao51 t249.length co51) ∧ w'.cell? ⟨gb256, 1, none⟩ = some (.int .i64 t252) ∧ w'.cell? ⟨gb256, 2, none⟩ = some (.slice Ao56 t253.length co56) ∧ w'.cell? ⟨gb226, 0, none⟩ = some (.int .i64 a2_0) ∧ w'.cell? ⟨gb226, 1, none⟩ = some (.int .i64 a2_1) ∧ w'.cell? ⟨gb226, 2, none⟩ = some (.int .i64 a2_2) ∧ w'.cell? ⟨gb226, 3, none⟩ = some (.string a2_3)) (ds := []) (bs 11 0) (by kernel_rfl) rfl rfl ⟨bc_ BK256.out 0, bc_ BK256.out 1, bc_ BK256.out 2, bc_ BK226.out 0, bc_ BK226.out 1, bc_ BK226.out 2, bc_ BK226.out 3⟩ (fun hHeld => ?_); refine with_tabW laws_FnExactTake21.tab10 laws_FnExactTake21.bits10 (fun HT_ HW_ => ?_)
 generalize w57.drew = w58 at HO231 HO235 HO242 HO246 HO251 HO255 BK225 BK226 BK248 BK256 HB hHeld ⊢
 refine pu_ 1 41 HT_ (bs 11 2) rfl rfl ?_
 refine take_ (i := 0) (N := some 40) (v := ?_) (a' := ?_) (bs 11 3) rfl rfl (take_ofW HT_.out HW_.out (by kernel_rfl)) (fun _ _ _ h => h) (Or.inl ⟨by rfl, ?_⟩) hHeld ?_ ?_
 rotate_left
 ·rintro w' ⟨s0, s1, s2, s3, s4, s5, s6⟩
  go_simp
  with_reducible rfl
 rotate_left
 ·simp only [Act.put, sA_, sZ_, sS_, i64_w, i32_w]
  rfl
 refine take_ (i := 2) (N := some 42) (v := ?_) (a' := ?_) (bs 11 7) rfl rfl (take_ofW HT_.out HW_.out (by kernel_rfl)) (fun _ _ _ h => h) (Or.inl ⟨by rfl, ?_⟩) hHeld ?_ ?_
 rotate_left
 ·rintro w' ⟨s0, s1, s2, s3, s4, s5, s6⟩
  go_simp
  with_reducible rfl
 rotate_left
 ·simp only [Act.put, sA_, sZ_, sS_, i64_w, i32_w]
  rfl
 refine join_ (σ := Value × Value × Nat) 2 (bs 11 511) (fun s_ => [(43, .agg #[.int .i64 t257, .int .i64 t258, .int .i64 t259, .string t260]), (44, .tuple #[.agg #[s_.1, .int .i64 t264, s_.2.1], .bool t268]), (11, .pointer (some ⟨s_.2.2, 0, none⟩)), (39, .tuple #[.agg #[s_.1, .int .i64 t264, s_.2.1], .bool t268]), (45, .agg #[s_.1, .int .i64 t264, s_.2.1]), (46, .bool t268)]) (fun s_ w' => (w'.cell? ⟨gb256, 0, none⟩ = some (.slice Ao51 t249.length co51) ∧ w'.cell? ⟨gb256, 1, none⟩ = some (.int .i64 t252) ∧ w'.cell? ⟨gb256, 2, none⟩ = some (.slice Ao56 t253.length co56) ∧ w'.cell? ⟨gb226, 0, none⟩ = some (.int .i64 a2_0) ∧ w'.cell? ⟨gb226, 1, none⟩ = some (.int .i64 a2_1) ∧ w'.cell? ⟨gb226, 2, none⟩ = some (.int .i64 a2_2) ∧ w'.cell? ⟨gb226, 3, none⟩ = some (.string a2_3)) ∧ (Kd.R Kd.string 9 w' w.heap.size (fun k_ => nB_ (v234) k_ ∧ nB_ (.slice Ao42 t240.length co42) k_ ∧ nB_ (.slice Ao45 t244.length co45) k_ ∧ nB_ (.slice Ao51 t249.length co51) k_ ∧ nB_ (.slice Ao56 t253.length co56) k_ ∧ nB_ (s_.1) k_ ∧ nB_ (s_.2.1) k_) v230 t229) ∧ (Kd.R Kd.string 9 w' w.heap.size (fun k_ => nB_ (v230) k_ ∧ nB_ (.slice Ao42 t240.length co42) k_ ∧ nB_ (.slice Ao45 t244.length co45) k_ ∧ nB_ (.slice Ao51 t249.length co51) k_ ∧ nB_ (.slice Ao56 t253.length co56) k_ ∧ nB_ (s_.1) k_ ∧ nB_ (s_.2.1) k_) v234 t233) ∧ (Kd.R Kd.string 9 w' w.heap.size (fun k_ => nB_ (v230) k_ ∧ nB_ (v234) k_ ∧ nB_ (.slice Ao45 t244.length co45) k_ ∧ nB_ (.slice Ao51 t249.length co51) k_ ∧ nB_ (.slice Ao56 t253.length co56) k_ ∧ nB_ (s_.1) k_ ∧ nB_ (s_.2.1) k_) (.slice Ao42 t240.length co42) t240) ∧ (Kd.R Kd.string 9 w' w.heap.size (fun k_ => nB_ (v230) k_ ∧ nB_ (v234) k_ ∧ nB_ (.slice Ao42 t240.length co42) k_ ∧ nB_ (.slice Ao51 t249.length co51) k_ ∧ nB_ (.slice Ao56 t253.length co56) k_ ∧ nB_ (s_.1) k_ ∧ nB_ (s_.2.1) k_) (.slice Ao45 t244.length co45) t244) ∧ (Kd.R Kd.string 9 w' w.heap.size (fun k_ => nB_ (v230) k_ ∧ nB_ (v234) k_ ∧ nB_ (.slice Ao42 t240.length co42) k_ ∧ nB_ (.slice Ao45 t244.length co45) k_ ∧ nB_ (.slice Ao56 t253.length co56) k_ ∧ nB_ (s_.1) k_ ∧ nB_ (s_.2.1) k_) (.slice Ao51 t249.length co51) t249) ∧ (Kd.R Kd.string 9 w' w.heap.size (fun k_ => nB_ (v230) k_ ∧ nB_ (v234) k_ ∧ nB_ (.slice Ao42 t240.length co42) k_ ∧ nB_ (.slice Ao45 t244.length co45) k_ ∧ nB_ (.slice Ao51 t249.length co51) k_ ∧ nB_ (s_.1) k_ ∧ nB_ (s_.2.1) k_) (.slice Ao56 t253.length co56) t253) ∧ (Kd.R Kd.string 9 w' w.heap.size (fun k_ => nB_ (v230) k_ ∧ nB_ (v234) k_ ∧ nB_ (.slice Ao42 t240.length co42) k_ ∧ nB_ (.slice Ao45 t244.length co45) k_ ∧ nB_ (.slice Ao51 t249.length co51) k_ ∧ nB_ (.slice Ao56 t253.length co56) k_ ∧ nB_ (s_.2.1) k_) s_.1 t261) ∧ (Kd.R Kd.string 9 w' w.heap.size (fun k_ => nB_ (v230) k_ ∧ nB_ (v234) k_ ∧ nB_ (.slice Ao42 t240.length co42) k_ ∧ nB_ (.slice Ao45 t244.length co45) k_ ∧ nB_ (.slice Ao51 t249.length co51) k_ ∧ nB_ (.slice Ao56 t253.length co56) k_ ∧ nB_ (s_.1) k_) s_.2.1 t265) ∧ (w'.heap[gb225]? = some (.cells #[.slice A0_0 l0_0.length c0_0, .int .i64 a0_1, .slice A0_2 l0_2.length c0_2] 42 (0, 0))) ∧ (w'.heap[gb226]? = some (.cells #[.int .i64 a2_0, .int .i64 a2_1, .int .i64 a2_2, .string a2_3] 50 (0, 0))) ∧ (w'.heap[gb248]? = some (.cells #[.slice Ao42 t240.length co42, .int .i64 t243, .slice Ao45 t244.length co45] 26 (0, 0))) ∧ (w'.heap[gb256]? = some (.cells #[.slice Ao51 t249.length co51, .int .i64 t252, .slice Ao56 t253.length co56] 26 (0, 0))) ∧ (w'.heap[s_.2.2]? = some (.cells #[.slice none 0 0, .int .i64 0, .slice none 0 0] 26 (0, 0))) ∧ (w.heap.size ≤ s_.2.2) ∧ (w.heap.size ≤ s_.2.2) ∧ (gb225 ≠ s_.2.2) ∧ (s_.2.2 ≠ gb225) ∧ (gb226 ≠ s_.2.2) ∧ (s_.2.2 ≠ gb226) ∧ (gb248 ≠ s_.2.2) ∧ (s_.2.2 ≠ gb248) ∧ (gb256 ≠ s_.2.2) ∧ (s_.2.2 ≠ gb256) ∧ (Below w.heap.size w w')) ?_ ?_
 rotate_left
 ·intro hCont
  refine two_ (i := 3) (j := 8) (Ni := some 43) (Nj := some 11) (bs 11 15) (bs 11 263) rfl rfl rfl rfl (two_of HT_.out (by kernel_rfl)) (by decide) (by decide) (fun K hK => ?_) (fun K hK => ?_)
  ·skip
   refine goes_ Try.func25 (by kernel_rfl) rfl #[.agg #[.int .i64 a2_0, .int .i64 a2_1, .int .i64 a2_2, .string a2_3]] (by rfl) rfl rfl ml_ ?_
   with_reducible refine (laws_toPost.calls a2_0 a2_1 a2_2 a2_3 t257 t258 t259 t260 _ A24.out).mono ?_
   rintro e w59 ⟨rfl, hb⟩
   refine ⟨_, rfl, ?_⟩; replace HO231 := Aside0.mk (Kd.R_below (fr_ HO231.out) hb); replace HO235 := Aside0.mk (Kd.R_below (fr_ HO235.out) hb); replace HO242 := Aside0.mk (Kd.R_below (fr_ HO242.out) hb); replace HO246 := Aside0.mk (Kd.R_below (fr_ HO246.out) hb); replace HO251 := Aside0.mk (Kd.R_below (fr_ HO251.out) hb); replace HO255 := Aside0.mk (Kd.R_below (fr_ HO255.out) hb); replace BK225 := Aside0.mk (bb_ BK225.out hb); replace BK226 := Aside0.mk (bb_ BK226.out hb); replace BK248 := Aside0.mk (bb_ BK248.out hb); replace BK256 := Aside0.mk (bb_ BK256.out hb); replace HB := Aside0.mk (below_step (bel_ HB.out) hb); (try clear hb); (try clear hb2); (try clear hk); (try clear hi)
   refine hK.out _ _ ⟨bc_ BK256.out 0, bc_ BK256.out 1, bc_ BK256.out 2, bc_ BK226.out 0, bc_ BK226.out 1, bc_ BK226.out 2, bc_ BK226.out 3⟩ (fun hHeld => ?_)
   clear hK K
   refine norm_ (a' := ?_) ?_ ?_
   rotate_left
   ·show Act.put _ (some 43) _ = _
    simp only [Act.put, sA_, sZ_, sS_, i64_w, i32_w]
    rfl
   refine two_ (i := 4) (j := 8) (Ni := some 44) (Nj := some 11) (bs 11 31) (bs 11 271) rfl rfl rfl rfl (two_of HT_.out (by kernel_rfl)) (by decide) (by decide) (fun K hK => ?_) (fun K hK => ?_)
   ·skip
    refine goes_ Try.func13 (by kernel_rfl) rfl #[.agg #[.slice Ao51 t249.length co51, .int .i64 t252, .slice Ao56 t253.length co56], .int .i64 a1, .agg #[.int .i64 t257, .int .i64 t258, .int .i64 t259, .string t260]] (by rfl) rfl rfl ml_ ?_
    with_reducible refine (impl_Take21.calls k _ _ t249 t252 _ _ t253 a1 t257 t258 t259 t260 t261 t264 t265 t268 _ ?side1 ?side2 ?side3 ?side4 A25.out).mono ?_
    (case side1 => exact rc_ (Kd.R_reads' HO251.out).2.2)
    (case side2 => exact (Kd.R_reads' HO251.out).2.1)
    (case side3 => exact rc_ (Kd.R_reads' HO255.out).2.2)
    (case side4 => exact (Kd.R_reads' HO255.out).2.1)
    rintro e w60 ⟨v262, v266, rfl, ho0, ho1, hb⟩
    refine ⟨_, rfl, ?_⟩
    have HO263 := Aside0.mk (Kd.R_lower (Kd.R_new' (Kd.R_new' (Kd.R_new' (Kd.R_new' (Kd.R_new' (Kd.R_new' ho0 (Kd.R_lt (fr_ HO231.out))) (Kd.R_lt (fr_ HO235.out))) (Kd.R_lt (fr_ HO242.out))) (Kd.R_lt (fr_ HO246.out))) (Kd.R_lt (fr_ HO251.out))) (Kd.R_lt (fr_ HO255.out))) (below_size (bel_ HB.out)))
    have HO267 := Aside0.mk (Kd.R_lower (Kd.R_new' (Kd.R_new' (Kd.R_new' (Kd.R_new' (Kd.R_new' (Kd.R_new' ho1 (Kd.R_lt (fr_ HO231.out))) (Kd.R_lt (fr_ HO235.out))) (Kd.R_lt (fr_ HO242.out))) (Kd.R_lt (fr_ HO246.out))) (Kd.R_lt (fr_ HO251.out))) (Kd.R_lt (fr_ HO255.out))) (below_size (bel_ HB.out)))
    replace HO231 := Aside0.mk (Kd.R_mono (Kd.R_told (Kd.R_told (Kd.R_old (fr_ HO231.out) hb) (Kd.R_base ho0)) (Kd.R_base ho1)) (fun _ h_ => h_.1)); replace HO235 := Aside0.mk (Kd.R_mono (Kd.R_told (Kd.R_told (Kd.R_old (fr_ HO235.out) hb) (Kd.R_base ho0)) (Kd.R_base ho1)) (fun _ h_ => h_.1)); replace HO242 := Aside0.mk (Kd.R_mono (Kd.R_told (Kd.R_told (Kd.R_old (fr_ HO242.out) hb) (Kd.R_base ho0)) (Kd.R_base ho1)) (fun _ h_ => h_.1)); replace HO246 := Aside0.mk (Kd.R_mono (Kd.R_told (Kd.R_told (Kd.R_old (fr_ HO246.out) hb) (Kd.R_base ho0)) (Kd.R_base ho1)) (fun _ h_ => h_.1)); replace HO251 := Aside0.mk (Kd.R_mono (Kd.R_told (Kd.R_told (Kd.R_old (fr_ HO251.out) hb) (Kd.R_base ho0)) (Kd.R_base ho1)) (fun _ h_ => h_.1)); replace HO255 := Aside0.mk (Kd.R_mono (Kd.R_told (Kd.R_told (Kd.R_old (fr_ HO255.out) hb) (Kd.R_base ho0)) (Kd.R_base ho1)) (fun _ h_ => h_.1)); replace BK225 := Aside0.mk (bb_ BK225.out hb); replace BK226 := Aside0.mk (bb_ BK226.out hb); replace BK248 := Aside0.mk (bb_ BK248.out hb); replace BK256 := Aside0.mk (bb_ BK256.out hb); replace HB := Aside0.mk (below_step (bel_ HB.out) hb); (try clear hb); (try clear hb2); (try clear hk); (try clear hi); (try clear ho0); (try clear ho1)
    refine hK.out _ _ ⟨bc_ BK256.out 0, bc_ BK256.out 1, bc_ BK256.out 2, bc_ BK226.out 0, bc_ BK226.out 1, bc_ BK226.out 2, bc_ BK226.out 3⟩ (fun hHeld => ?_)
    clear hK K
    refine norm_ (a' := ?_) ?_ ?_
    rotate_left
    ·show Act.put _ (some 44) _ = _
     simp only [Act.put, sA_, sZ_, sS_, i64_w, i32_w]
     rfl
    refine pu_ 5 39 HT_ (bs 11 63) rfl rfl ?_
    refine pu_ 6 45 HT_ (bs 11 127) rfl rfl ?_
    refine pu_ 7 46 HT_ (bs 11 255) rfl rfl ?_
    refine one_ (i := 8) (N := some 11) (bs 11 511) rfl rfl (one_of HT_.out (by kernel_rfl)) (by decide) (fun K hK => ?_)
    refine box_step ?hg (N := 11) ?hd (cs := #[.slice none 0 0, .int .i64 0, .slice none 0 0]) (t := 26) ?hr ?_; (case hd => rfl); (case hg => rfl); (case hr => first | (go_simp; done) | (go_simp; rfl))
    intro gb269 hg w61 hbox hb
    replace HO231 := Aside0.mk (Kd.R_below (fr_ HO231.out) hb); replace HO235 := Aside0.mk (Kd.R_below (fr_ HO235.out) hb); replace HO242 := Aside0.mk (Kd.R_below (fr_ HO242.out) hb); replace HO246 := Aside0.mk (Kd.R_below (fr_ HO246.out) hb); replace HO251 := Aside0.mk (Kd.R_below (fr_ HO251.out) hb); replace HO255 := Aside0.mk (Kd.R_below (fr_ HO255.out) hb); replace HO263 := Aside0.mk (Kd.R_below (fr_ HO263.out) hb); replace HO267 := Aside0.mk (Kd.R_below (fr_ HO267.out) hb)
    have BK269 := Aside0.mk (hbox)
    have GW269 := Aside0.mk ((by rw [hg]; exact (below_size (bel_ HB.out)) : w.heap.size ≤ gb269))
    have GE269 := Aside0.mk ((by rw [hg]; exact (below_size (bel_ HB.out)) : w.heap.size ≤ gb269))
    replace HB := Aside0.mk (below_step (bel_ HB.out) hb)
    have NB225_269 := Aside0.mk (nl_ BK225.out hg)
    have NB269_225 := Aside0.mk (ng_ BK225.out hg)
    replace BK225 := Aside0.mk (bb_ BK225.out hb)
    have NB226_269 := Aside0.mk (nl_ BK226.out hg)
    have NB269_226 := Aside0.mk (ng_ BK226.out hg)
    replace BK226 := Aside0.mk (bb_ BK226.out hb)
    have NB248_269 := Aside0.mk (nl_ BK248.out hg)
    have NB269_248 := Aside0.mk (ng_ BK248.out hg)
    replace BK248 := Aside0.mk (bb_ BK248.out hb)
    have NB256_269 := Aside0.mk (nl_ BK256.out hg)
    have NB269_256 := Aside0.mk (ng_ BK256.out hg)
    replace BK256 := Aside0.mk (bb_ BK256.out hb); clear hb hbox hg
    refine hK.out _ _ ⟨bc_ BK256.out 0, bc_ BK256.out 1, bc_ BK256.out 2, bc_ BK226.out 0, bc_ BK226.out 1, bc_ BK226.out 2, bc_ BK226.out 3⟩ (fun hHeld => ?_)
    clear hK K
    refine norm_ (a' := ?_) ?_ ?_
    rotate_left
    ·show Act.put _ (some 11) _ = _
     simp only [Act.put, sA_, sZ_, sS_, i64_w, i32_w]
     rfl
    exact norm_ (by simp only [putAll, Act.put, sA_, sZ_, sS_]) (hCont (v262, v266, gb269) _ ⟨hHeld, (rn_ HO231.out (fun _ hk => ⟨hk.1.1.1, ⟨hk.1.1.2.1, ⟨hk.1.1.2.2.1, ⟨hk.1.1.2.2.2.1, ⟨hk.1.1.2.2.2.2, ⟨hk.1.2, hk.2⟩⟩⟩⟩⟩⟩)), (rn_ HO235.out (fun _ hk => ⟨hk.1.1.1, ⟨hk.1.1.2.1, ⟨hk.1.1.2.2.1, ⟨hk.1.1.2.2.2.1, ⟨hk.1.1.2.2.2.2, ⟨hk.1.2, hk.2⟩⟩⟩⟩⟩⟩)), (rn_ HO242.out (fun _ hk => ⟨hk.1.1.1, ⟨hk.1.1.2.1, ⟨hk.1.1.2.2.1, ⟨hk.1.1.2.2.2.1, ⟨hk.1.1.2.2.2.2, ⟨hk.1.2, hk.2⟩⟩⟩⟩⟩⟩)), (rn_ HO246.out (fun _ hk => ⟨hk.1.1.1, ⟨hk.1.1.2.1, ⟨hk.1.1.2.2.1, ⟨hk.1.1.2.2.2.1, ⟨hk.1.1.2.2.2.2, ⟨hk.1.2, hk.2⟩⟩⟩⟩⟩⟩)), (rn_ HO251.out (fun _ hk => ⟨hk.1.1.1, ⟨hk.1.1.2.1, ⟨hk.1.1.2.2.1, ⟨hk.1.1.2.2.2.1, ⟨hk.1.1.2.2.2.2, ⟨hk.1.2, hk.2⟩⟩⟩⟩⟩⟩)), (rn_ HO255.out (fun _ hk => ⟨hk.1.1.1, ⟨hk.1.1.2.1, ⟨hk.1.1.2.2.1, ⟨hk.1.1.2.2.2.1, ⟨hk.1.1.2.2.2.2, ⟨hk.1.2, hk.2⟩⟩⟩⟩⟩⟩)), (rn_ HO263.out (fun _ hk => ⟨hk.1.1.1.1.1.2, ⟨hk.1.1.1.1.2, ⟨hk.1.1.1.2, ⟨hk.1.1.2, ⟨hk.1.2, ⟨hk.2, hk.1.1.1.1.1.1⟩⟩⟩⟩⟩⟩)), (rn_ HO267.out (fun _ hk => ⟨hk.1.1.1.1.1.2, ⟨hk.1.1.1.1.2, ⟨hk.1.1.1.2, ⟨hk.1.1.2, ⟨hk.1.2, ⟨hk.2, hk.1.1.1.1.1.1⟩⟩⟩⟩⟩⟩)), (fb_ BK225.out), (fb_ BK226.out), (fb_ BK248.out), (fb_ BK256.out), (fb_ BK269.out), GW269.out, GE269.out, NB225_269.out, NB269_225.out, NB226_269.out, NB269_226.out, NB248_269.out, NB269_248.out, NB256_269.out, NB269_256.out, (bel_ HB.out)⟩)
   ·skip
    refine box_step ?hg (N := 11) ?hd (cs := #[.slice none 0 0, .int .i64 0, .slice none 0 0]) (t := 26) ?hr ?_; (case hd => rfl); (case hg => rfl); (case hr => first | (go_simp; done) | (go_simp; rfl))
    intro gb269 hg w60 hbox hb
    replace HO231 := Aside0.mk (Kd.R_below (fr_ HO231.out) hb); replace HO235 := Aside0.mk (Kd.R_below (fr_ HO235.out) hb); replace HO242 := Aside0.mk (Kd.R_below (fr_ HO242.out) hb); replace HO246 := Aside0.mk (Kd.R_below (fr_ HO246.out) hb); replace HO251 := Aside0.mk (Kd.R_below (fr_ HO251.out) hb); replace HO255 := Aside0.mk (Kd.R_below (fr_ HO255.out) hb)
    have BK269 := Aside0.mk (hbox)
    have GW269 := Aside0.mk ((by rw [hg]; exact (below_size (bel_ HB.out)) : w.heap.size ≤ gb269))
    have GE269 := Aside0.mk ((by rw [hg]; exact (below_size (bel_ HB.out)) : w.heap.size ≤ gb269))
    replace HB := Aside0.mk (below_step (bel_ HB.out) hb)
    have NB225_269 := Aside0.mk (nl_ BK225.out hg)
    have NB269_225 := Aside0.mk (ng_ BK225.out hg)
    replace BK225 := Aside0.mk (bb_ BK225.out hb)
    have NB226_269 := Aside0.mk (nl_ BK226.out hg)
    have NB269_226 := Aside0.mk (ng_ BK226.out hg)
    replace BK226 := Aside0.mk (bb_ BK226.out hb)
    have NB248_269 := Aside0.mk (nl_ BK248.out hg)
    have NB269_248 := Aside0.mk (ng_ BK248.out hg)
    replace BK248 := Aside0.mk (bb_ BK248.out hb)
    have NB256_269 := Aside0.mk (nl_ BK256.out hg)
    have NB269_256 := Aside0.mk (ng_ BK256.out hg)
    replace BK256 := Aside0.mk (bb_ BK256.out hb); clear hb hbox hg
    refine hK.out _ _ ⟨bc_ BK256.out 0, bc_ BK256.out 1, bc_ BK256.out 2, bc_ BK226.out 0, bc_ BK226.out 1, bc_ BK226.out 2, bc_ BK226.out 3⟩ (fun hHeld => ?_)
    clear hK K
    refine norm_ (a' := ?_) ?_ ?_
    rotate_left
    ·show Act.put _ (some 11) _ = _
     simp only [Act.put, sA_, sZ_, sS_, i64_w, i32_w]
     rfl
    refine one_ (i := 4) (N := some 44) (bs 11 287) rfl rfl (one_of HT_.out (by kernel_rfl)) (by decide) (fun K hK => ?_)
    refine goes_ Try.func13 (by kernel_rfl) rfl #[.agg #[.slice Ao51 t249.length co51, .int .i64 t252, .slice Ao56 t253.length co56], .int .i64 a1, .agg #[.int .i64 t257, .int .i64 t258, .int .i64 t259, .string t260]] (by rfl) rfl rfl ml_ ?_
    with_reducible refine (impl_Take21.calls k _ _ t249 t252 _ _ t253 a1 t257 t258 t259 t260 t261 t264 t265 t268 _ ?side1 ?side2 ?side3 ?side4 A25.out).mono ?_
    (case side1 => exact rc_ (Kd.R_reads' HO251.out).2.2)
    (case side2 => exact (Kd.R_reads' HO251.out).2.1)
    (case side3 => exact rc_ (Kd.R_reads' HO255.out).2.2)
    (case side4 => exact (Kd.R_reads' HO255.out).2.1)
    rintro e w61 ⟨v262, v266, rfl, ho0, ho1, hb⟩
    refine ⟨_, rfl, ?_⟩
    have HO263 := Aside0.mk (Kd.R_lower (Kd.R_new' (Kd.R_new' (Kd.R_new' (Kd.R_new' (Kd.R_new' (Kd.R_new' ho0 (Kd.R_lt (fr_ HO231.out))) (Kd.R_lt (fr_ HO235.out))) (Kd.R_lt (fr_ HO242.out))) (Kd.R_lt (fr_ HO246.out))) (Kd.R_lt (fr_ HO251.out))) (Kd.R_lt (fr_ HO255.out))) (below_size (bel_ HB.out)))
    have HO267 := Aside0.mk (Kd.R_lower (Kd.R_new' (Kd.R_new' (Kd.R_new' (Kd.R_new' (Kd.R_new' (Kd.R_new' ho1 (Kd.R_lt (fr_ HO231.out))) (Kd.R_lt (fr_ HO235.out))) (Kd.R_lt (fr_ HO242.out))) (Kd.R_lt (fr_ HO246.out))) (Kd.R_lt (fr_ HO251.out))) (Kd.R_lt (fr_ HO255.out))) (below_size (bel_ HB.out)))
    replace HO231 := Aside0.mk (Kd.R_mono (Kd.R_told (Kd.R_told (Kd.R_old (fr_ HO231.out) hb) (Kd.R_base ho0)) (Kd.R_base ho1)) (fun _ h_ => h_.1)); replace HO235 := Aside0.mk (Kd.R_mono (Kd.R_told (Kd.R_told (Kd.R_old (fr_ HO235.out) hb) (Kd.R_base ho0)) (Kd.R_base ho1)) (fun _ h_ => h_.1)); replace HO242 := Aside0.mk (Kd.R_mono (Kd.R_told (Kd.R_told (Kd.R_old (fr_ HO242.out) hb) (Kd.R_base ho0)) (Kd.R_base ho1)) (fun _ h_ => h_.1)); replace HO246 := Aside0.mk (Kd.R_mono (Kd.R_told (Kd.R_told (Kd.R_old (fr_ HO246.out) hb) (Kd.R_base ho0)) (Kd.R_base ho1)) (fun _ h_ => h_.1)); replace HO251 := Aside0.mk (Kd.R_mono (Kd.R_told (Kd.R_told (Kd.R_old (fr_ HO251.out) hb) (Kd.R_base ho0)) (Kd.R_base ho1)) (fun _ h_ => h_.1)); replace HO255 := Aside0.mk (Kd.R_mono (Kd.R_told (Kd.R_told (Kd.R_old (fr_ HO255.out) hb) (Kd.R_base ho0)) (Kd.R_base ho1)) (fun _ h_ => h_.1)); replace BK225 := Aside0.mk (bb_ BK225.out hb); replace BK226 := Aside0.mk (bb_ BK226.out hb); replace BK248 := Aside0.mk (bb_ BK248.out hb); replace BK256 := Aside0.mk (bb_ BK256.out hb); replace BK269 := Aside0.mk (bb_ BK269.out hb); replace HB := Aside0.mk (below_step (bel_ HB.out) hb); (try clear hb); (try clear hb2); (try clear hk); (try clear hi); (try clear ho0); (try clear ho1)
    refine hK.out _ _ ⟨bc_ BK256.out 0, bc_ BK256.out 1, bc_ BK256.out 2, bc_ BK226.out 0, bc_ BK226.out 1, bc_ BK226.out 2, bc_ BK226.out 3⟩ (fun hHeld => ?_)
    clear hK K
    refine norm_ (a' := ?_) ?_ ?_
    rotate_left
    ·show Act.put _ (some 44) _ = _
     simp only [Act.put, sA_, sZ_, sS_, i64_w, i32_w]
     rfl
    refine pu_ 5 39 HT_ (bs 11 319) rfl rfl ?_
    refine pu_ 6 45 HT_ (bs 11 383) rfl rfl ?_
    refine pu_ 7 46 HT_ (bs 11 511) rfl rfl ?_
    exact norm_ (by simp only [putAll, Act.put, sA_, sZ_, sS_]) (hCont (v262, v266, gb269) _ ⟨hHeld, (rn_ HO231.out (fun _ hk => ⟨hk.1.1.1, ⟨hk.1.1.2.1, ⟨hk.1.1.2.2.1, ⟨hk.1.1.2.2.2.1, ⟨hk.1.1.2.2.2.2, ⟨hk.1.2, hk.2⟩⟩⟩⟩⟩⟩)), (rn_ HO235.out (fun _ hk => ⟨hk.1.1.1, ⟨hk.1.1.2.1, ⟨hk.1.1.2.2.1, ⟨hk.1.1.2.2.2.1, ⟨hk.1.1.2.2.2.2, ⟨hk.1.2, hk.2⟩⟩⟩⟩⟩⟩)), (rn_ HO242.out (fun _ hk => ⟨hk.1.1.1, ⟨hk.1.1.2.1, ⟨hk.1.1.2.2.1, ⟨hk.1.1.2.2.2.1, ⟨hk.1.1.2.2.2.2, ⟨hk.1.2, hk.2⟩⟩⟩⟩⟩⟩)), (rn_ HO246.out (fun _ hk => ⟨hk.1.1.1, ⟨hk.1.1.2.1, ⟨hk.1.1.2.2.1, ⟨hk.1.1.2.2.2.1, ⟨hk.1.1.2.2.2.2, ⟨hk.1.2, hk.2⟩⟩⟩⟩⟩⟩)), (rn_ HO251.out (fun _ hk => ⟨hk.1.1.1, ⟨hk.1.1.2.1, ⟨hk.1.1.2.2.1, ⟨hk.1.1.2.2.2.1, ⟨hk.1.1.2.2.2.2, ⟨hk.1.2, hk.2⟩⟩⟩⟩⟩⟩)), (rn_ HO255.out (fun _ hk => ⟨hk.1.1.1, ⟨hk.1.1.2.1, ⟨hk.1.1.2.2.1, ⟨hk.1.1.2.2.2.1, ⟨hk.1.1.2.2.2.2, ⟨hk.1.2, hk.2⟩⟩⟩⟩⟩⟩)), (rn_ HO263.out (fun _ hk => ⟨hk.1.1.1.1.1.2, ⟨hk.1.1.1.1.2, ⟨hk.1.1.1.2, ⟨hk.1.1.2, ⟨hk.1.2, ⟨hk.2, hk.1.1.1.1.1.1⟩⟩⟩⟩⟩⟩)), (rn_ HO267.out (fun _ hk => ⟨hk.1.1.1.1.1.2, ⟨hk.1.1.1.1.2, ⟨hk.1.1.1.2, ⟨hk.1.1.2, ⟨hk.1.2, ⟨hk.2, hk.1.1.1.1.1.1⟩⟩⟩⟩⟩⟩)), (fb_ BK225.out), (fb_ BK226.out), (fb_ BK248.out), (fb_ BK256.out), (fb_ BK269.out), GW269.out, GE269.out, NB225_269.out, NB269_225.out, NB226_269.out, NB269_226.out, NB248_269.out, NB269_248.out, NB256_269.out, NB269_256.out, (bel_ HB.out)⟩)
  ·skip
   refine box_step ?hg (N := 11) ?hd (cs := #[.slice none 0 0, .int .i64 0, .slice none 0 0]) (t := 26) ?hr ?_; (case hd => rfl); (case hg => rfl); (case hr => first | (go_simp; done) | (go_simp; rfl))
   intro gb269 hg w59 hbox hb
   replace HO231 := Aside0.mk (Kd.R_below (fr_ HO231.out) hb); replace HO235 := Aside0.mk (Kd.R_below (fr_ HO235.out) hb); replace HO242 := Aside0.mk (Kd.R_below (fr_ HO242.out) hb); replace HO246 := Aside0.mk (Kd.R_below (fr_ HO246.out) hb); replace HO251 := Aside0.mk (Kd.R_below (fr_ HO251.out) hb); replace HO255 := Aside0.mk (Kd.R_below (fr_ HO255.out) hb)
   have BK269 := Aside0.mk (hbox)
   have GW269 := Aside0.mk ((by rw [hg]; exact (below_size (bel_ HB.out)) : w.heap.size ≤ gb269))
   have GE269 := Aside0.mk ((by rw [hg]; exact (below_size (bel_ HB.out)) : w.heap.size ≤ gb269))
   replace HB := Aside0.mk (below_step (bel_ HB.out) hb)
   have NB225_269 := Aside0.mk (nl_ BK225.out hg)
   have NB269_225 := Aside0.mk (ng_ BK225.out hg)
   replace BK225 := Aside0.mk (bb_ BK225.out hb)
   have NB226_269 := Aside0.mk (nl_ BK226.out hg)
   have NB269_226 := Aside0.mk (ng_ BK226.out hg)
   replace BK226 := Aside0.mk (bb_ BK226.out hb)
   have NB248_269 := Aside0.mk (nl_ BK248.out hg)
   have NB269_248 := Aside0.mk (ng_ BK248.out hg)
   replace BK248 := Aside0.mk (bb_ BK248.out hb)
   have NB256_269 := Aside0.mk (nl_ BK256.out hg)
   have NB269_256 := Aside0.mk (ng_ BK256.out hg)
   replace BK256 := Aside0.mk (bb_ BK256.out hb); clear hb hbox hg
   refine hK.out _ _ ⟨bc_ BK256.out 0, bc_ BK256.out 1, bc_ BK256.out 2, bc_ BK226.out 0, bc_ BK226.out 1, bc_ BK226.out 2, bc_ BK226.out 3⟩ (fun hHeld => ?_)
   clear hK K
   refine norm_ (a' := ?_) ?_ ?_
   rotate_left
   ·show Act.put _ (some 11) _ = _
    simp only [Act.put, sA_, sZ_, sS_, i64_w, i32_w]
    rfl
   refine one_ (i := 3) (N := some 43) (bs 11 271) rfl rfl (one_of HT_.out (by kernel_rfl)) (by decide) (fun K hK => ?_)
   refine goes_ Try.func25 (by kernel_rfl) rfl #[.agg #[.int .i64 a2_0, .int .i64 a2_1, .int .i64 a2_2, .string a2_3]] (by rfl) rfl rfl ml_ ?_
   with_reducible refine (laws_toPost.calls a2_0 a2_1 a2_2 a2_3 t257 t258 t259 t260 _ A24.out).mono ?_
   rintro e w60 ⟨rfl, hb⟩
   refine ⟨_, rfl, ?_⟩; replace HO231 := Aside0.mk (Kd.R_below (fr_ HO231.out) hb); replace HO235 := Aside0.mk (Kd.R_below (fr_ HO235.out) hb); replace HO242 := Aside0.mk (Kd.R_below (fr_ HO242.out) hb); replace HO246 := Aside0.mk (Kd.R_below (fr_ HO246.out) hb); replace HO251 := Aside0.mk (Kd.R_below (fr_ HO251.out) hb); replace HO255 := Aside0.mk (Kd.R_below (fr_ HO255.out) hb); replace BK225 := Aside0.mk (bb_ BK225.out hb); replace BK226 := Aside0.mk (bb_ BK226.out hb); replace BK248 := Aside0.mk (bb_ BK248.out hb); replace BK256 := Aside0.mk (bb_ BK256.out hb); replace BK269 := Aside0.mk (bb_ BK269.out hb); replace HB := Aside0.mk (below_step (bel_ HB.out) hb); (try clear hb); (try clear hb2); (try clear hk); (try clear hi)
   refine hK.out _ _ ⟨bc_ BK256.out 0, bc_ BK256.out 1, bc_ BK256.out 2, bc_ BK226.out 0, bc_ BK226.out 1, bc_ BK226.out 2, bc_ BK226.out 3⟩ (fun hHeld => ?_)
   clear hK K
   refine norm_ (a' := ?_) ?_ ?_
   rotate_left
   ·show Act.put _ (some 43) _ = _
    simp only [Act.put, sA_, sZ_, sS_, i64_w, i32_w]
    rfl
   refine one_ (i := 4) (N := some 44) (bs 11 287) rfl rfl (one_of HT_.out (by kernel_rfl)) (by decide) (fun K hK => ?_)
   refine goes_ Try.func13 (by kernel_rfl) rfl #[.agg #[.slice Ao51 t249.length co51, .int .i64 t252, .slice Ao56 t253.length co56], .int .i64 a1, .agg #[.int .i64 t257, .int .i64 t258, .int .i64 t259, .string t260]] (by rfl) rfl rfl ml_ ?_
   with_reducible refine (impl_Take21.calls k _ _ t249 t252 _ _ t253 a1 t257 t258 t259 t260 t261 t264 t265 t268 _ ?side1 ?side2 ?side3 ?side4 A25.out).mono ?_
   (case side1 => exact rc_ (Kd.R_reads' HO251.out).2.2)
   (case side2 => exact (Kd.R_reads' HO251.out).2.1)
   (case side3 => exact rc_ (Kd.R_reads' HO255.out).2.2)
   (case side4 => exact (Kd.R_reads' HO255.out).2.1)
   rintro e w61 ⟨v262, v266, rfl, ho0, ho1, hb⟩
   refine ⟨_, rfl, ?_⟩
   have HO263 := Aside0.mk (Kd.R_lower (Kd.R_new' (Kd.R_new' (Kd.R_new' (Kd.R_new' (Kd.R_new' (Kd.R_new' ho0 (Kd.R_lt (fr_ HO231.out))) (Kd.R_lt (fr_ HO235.out))) (Kd.R_lt (fr_ HO242.out))) (Kd.R_lt (fr_ HO246.out))) (Kd.R_lt (fr_ HO251.out))) (Kd.R_lt (fr_ HO255.out))) (below_size (bel_ HB.out)))
   have HO267 := Aside0.mk (Kd.R_lower (Kd.R_new' (Kd.R_new' (Kd.R_new' (Kd.R_new' (Kd.R_new' (Kd.R_new' ho1 (Kd.R_lt (fr_ HO231.out))) (Kd.R_lt (fr_ HO235.out))) (Kd.R_lt (fr_ HO242.out))) (Kd.R_lt (fr_ HO246.out))) (Kd.R_lt (fr_ HO251.out))) (Kd.R_lt (fr_ HO255.out))) (below_size (bel_ HB.out)))
   replace HO231 := Aside0.mk (Kd.R_mono (Kd.R_told (Kd.R_told (Kd.R_old (fr_ HO231.out) hb) (Kd.R_base ho0)) (Kd.R_base ho1)) (fun _ h_ => h_.1)); replace HO235 := Aside0.mk (Kd.R_mono (Kd.R_told (Kd.R_told (Kd.R_old (fr_ HO235.out) hb) (Kd.R_base ho0)) (Kd.R_base ho1)) (fun _ h_ => h_.1)); replace HO242 := Aside0.mk (Kd.R_mono (Kd.R_told (Kd.R_told (Kd.R_old (fr_ HO242.out) hb) (Kd.R_base ho0)) (Kd.R_base ho1)) (fun _ h_ => h_.1)); replace HO246 := Aside0.mk (Kd.R_mono (Kd.R_told (Kd.R_told (Kd.R_old (fr_ HO246.out) hb) (Kd.R_base ho0)) (Kd.R_base ho1)) (fun _ h_ => h_.1)); replace HO251 := Aside0.mk (Kd.R_mono (Kd.R_told (Kd.R_told (Kd.R_old (fr_ HO251.out) hb) (Kd.R_base ho0)) (Kd.R_base ho1)) (fun _ h_ => h_.1)); replace HO255 := Aside0.mk (Kd.R_mono (Kd.R_told (Kd.R_told (Kd.R_old (fr_ HO255.out) hb) (Kd.R_base ho0)) (Kd.R_base ho1)) (fun _ h_ => h_.1)); replace BK225 := Aside0.mk (bb_ BK225.out hb); replace BK226 := Aside0.mk (bb_ BK226.out hb); replace BK248 := Aside0.mk (bb_ BK248.out hb); replace BK256 := Aside0.mk (bb_ BK256.out hb); replace BK269 := Aside0.mk (bb_ BK269.out hb); replace HB := Aside0.mk (below_step (bel_ HB.out) hb); (try clear hb); (try clear hb2); (try clear hk); (try clear hi); (try clear ho0); (try clear ho1)
   refine hK.out _ _ ⟨bc_ BK256.out 0, bc_ BK256.out 1, bc_ BK256.out 2, bc_ BK226.out 0, bc_ BK226.out 1, bc_ BK226.out 2, bc_ BK226.out 3⟩ (fun hHeld => ?_)
   clear hK K
   refine norm_ (a' := ?_) ?_ ?_
   rotate_left
   ·show Act.put _ (some 44) _ = _
    simp only [Act.put, sA_, sZ_, sS_, i64_w, i32_w]
    rfl
   refine pu_ 5 39 HT_ (bs 11 319) rfl rfl ?_
   refine pu_ 6 45 HT_ (bs 11 383) rfl rfl ?_
   refine pu_ 7 46 HT_ (bs 11 511) rfl rfl ?_
   exact norm_ (by simp only [putAll, Act.put, sA_, sZ_, sS_]) (hCont (v262, v266, gb269) _ ⟨hHeld, (rn_ HO231.out (fun _ hk => ⟨hk.1.1.1, ⟨hk.1.1.2.1, ⟨hk.1.1.2.2.1, ⟨hk.1.1.2.2.2.1, ⟨hk.1.1.2.2.2.2, ⟨hk.1.2, hk.2⟩⟩⟩⟩⟩⟩)), (rn_ HO235.out (fun _ hk => ⟨hk.1.1.1, ⟨hk.1.1.2.1, ⟨hk.1.1.2.2.1, ⟨hk.1.1.2.2.2.1, ⟨hk.1.1.2.2.2.2, ⟨hk.1.2, hk.2⟩⟩⟩⟩⟩⟩)), (rn_ HO242.out (fun _ hk => ⟨hk.1.1.1, ⟨hk.1.1.2.1, ⟨hk.1.1.2.2.1, ⟨hk.1.1.2.2.2.1, ⟨hk.1.1.2.2.2.2, ⟨hk.1.2, hk.2⟩⟩⟩⟩⟩⟩)), (rn_ HO246.out (fun _ hk => ⟨hk.1.1.1, ⟨hk.1.1.2.1, ⟨hk.1.1.2.2.1, ⟨hk.1.1.2.2.2.1, ⟨hk.1.1.2.2.2.2, ⟨hk.1.2, hk.2⟩⟩⟩⟩⟩⟩)), (rn_ HO251.out (fun _ hk => ⟨hk.1.1.1, ⟨hk.1.1.2.1, ⟨hk.1.1.2.2.1, ⟨hk.1.1.2.2.2.1, ⟨hk.1.1.2.2.2.2, ⟨hk.1.2, hk.2⟩⟩⟩⟩⟩⟩)), (rn_ HO255.out (fun _ hk => ⟨hk.1.1.1, ⟨hk.1.1.2.1, ⟨hk.1.1.2.2.1, ⟨hk.1.1.2.2.2.1, ⟨hk.1.1.2.2.2.2, ⟨hk.1.2, hk.2⟩⟩⟩⟩⟩⟩)), (rn_ HO263.out (fun _ hk => ⟨hk.1.1.1.1.1.2, ⟨hk.1.1.1.1.2, ⟨hk.1.1.1.2, ⟨hk.1.1.2, ⟨hk.1.2, ⟨hk.2, hk.1.1.1.1.1.1⟩⟩⟩⟩⟩⟩)), (rn_ HO267.out (fun _ hk => ⟨hk.1.1.1.1.1.2, ⟨hk.1.1.1.1.2, ⟨hk.1.1.1.2, ⟨hk.1.1.2, ⟨hk.1.2, ⟨hk.2, hk.1.1.1.1.1.1⟩⟩⟩⟩⟩⟩)), (fb_ BK225.out), (fb_ BK226.out), (fb_ BK248.out), (fb_ BK256.out), (fb_ BK269.out), GW269.out, GE269.out, NB225_269.out, NB269_225.out, NB226_269.out, NB269_226.out, NB248_269.out, NB269_248.out, NB256_269.out, NB269_256.out, (bel_ HB.out)⟩)
 rintro ⟨v262, v266, gb269⟩ w62 ⟨hS_, h0_, h1_, h2_, h3_, h4_, h5_, h6_, h7_, h8_, h9_, h10_, h11_, h12_, h13_, h14_, h15_, h16_, h17_, h18_, h19_, h20_, h21_, h22_, h23_⟩
 (try dsimp only at h0_); have n0_ := Aside0.mk h0_
 (try dsimp only at h1_); have n1_ := Aside0.mk h1_
 (try dsimp only at h2_); have n2_ := Aside0.mk h2_
 (try dsimp only at h3_); have n3_ := Aside0.mk h3_
 (try dsimp only at h4_); have n4_ := Aside0.mk h4_
 (try dsimp only at h5_); have n5_ := Aside0.mk h5_
 (try dsimp only at h6_); have n6_ := Aside0.mk h6_
 (try dsimp only at h7_); have n7_ := Aside0.mk h7_
 (try dsimp only at h8_); have n8_ := Aside0.mk h8_
 (try dsimp only at h9_); have n9_ := Aside0.mk h9_
 (try dsimp only at h10_); have n10_ := Aside0.mk h10_
 (try dsimp only at h11_); have n11_ := Aside0.mk h11_
 (try dsimp only at h12_); have n12_ := Aside0.mk h12_
 (try dsimp only at h13_); have n13_ := Aside0.mk h13_
 (try dsimp only at h14_); have n14_ := Aside0.mk h14_
 (try dsimp only at h15_); have n15_ := Aside0.mk h15_
 (try dsimp only at h16_); have n16_ := Aside0.mk h16_
 (try dsimp only at h17_); have n17_ := Aside0.mk h17_
 (try dsimp only at h18_); have n18_ := Aside0.mk h18_
 (try dsimp only at h19_); have n19_ := Aside0.mk h19_
 (try dsimp only at h20_); have n20_ := Aside0.mk h20_
 (try dsimp only at h21_); have n21_ := Aside0.mk h21_
 (try dsimp only at h22_); have n22_ := Aside0.mk h22_
 (try dsimp only at h23_); have n23_ := Aside0.mk h23_
 clear HO231 HO235 HO242 HO246 HO251 HO255 BK225 BK226 BK248 BK256 HB h0_ h1_ h2_ h3_ h4_ h5_ h6_ h7_ h8_ h9_ h10_ h11_ h12_ h13_ h14_ h15_ h16_ h17_ h18_ h19_ h20_ h21_ h22_ h23_
 have HO231 := n0_
 have HO235 := n1_
 have HO242 := n2_
 have HO246 := n3_
 have HO251 := n4_
 have HO255 := n5_
 have HO263 := n6_
 have HO267 := n7_
 have BK225 := n8_
 have BK226 := n9_
 have BK248 := n10_
 have BK256 := n11_
 have BK269 := n12_
 have GW269 := n13_
 have GE269 := n14_
 have NB225_269 := n15_
 have NB269_225 := n16_
 have NB226_269 := n17_
 have NB269_226 := n18_
 have NB248_269 := n19_
 have NB269_248 := n20_
 have NB256_269 := n21_
 have NB269_256 := n22_
 have HB := n23_
 clear n0_ n1_ n2_ n3_ n4_ n5_ n6_ n7_ n8_ n9_ n10_ n11_ n12_ n13_ n14_ n15_ n16_ n17_ n18_ n19_ n20_ n21_ n22_ n23_
 have hHeld : w62.cell? ⟨gb256, 0, none⟩ = some (.slice Ao51 t249.length co51) ∧ w62.cell? ⟨gb256, 1, none⟩ = some (.int .i64 t252) ∧ w62.cell? ⟨gb256, 2, none⟩ = some (.slice Ao56 t253.length co56) ∧ w62.cell? ⟨gb226, 0, none⟩ = some (.int .i64 a2_0) ∧ w62.cell? ⟨gb226, 1, none⟩ = some (.int .i64 a2_1) ∧ w62.cell? ⟨gb226, 2, none⟩ = some (.int .i64 a2_2) ∧ w62.cell? ⟨gb226, 3, none⟩ = some (.string a2_3) := hS_
 obtain ⟨Ao63, co63, eo63⟩ := Kd.R_slice HO263.out
 (first | subst eo63 | (injection eo63 with f1_ f2_ f3_; have f4_ := f1_.symm; have f5_ := f3_.symm; clear f1_ f2_ f3_; subst f4_; subst f5_))
 obtain ⟨Ao66, co66, eo66⟩ := Kd.R_slice HO267.out
 (first | subst eo66 | (injection eo66 with f1_ f2_ f3_; have f4_ := f1_.symm; have f5_ := f3_.symm; clear f1_ f2_ f3_; subst f4_; subst f5_))
 refine norm_ (a' := ?_) ?_ ?_
 rotate_left
 ·simp only [putAll, Act.put, sA_, sZ_, sS_]
  rfl
 refine one_ (i := 9) (N := none) (bs 11 1023) rfl rfl (one_of HT_.out (by kernel_rfl)) (by decide) (fun K hK => ?_)
 have hs64 : w62.cell? ⟨gb269, 0, none⟩ = some (.slice none 0 0) := bc_ BK269.out 0
 have hfs64 := blk_frozen BK269.out 0
 have hns64_0 := NB225_269.out
 have hns64_1 := NB226_269.out
 have hns64_2 := NB248_269.out
 have hns64_3 := NB256_269.out
 have hms64_0 := NB269_225.out
 have hms64_1 := NB269_226.out
 have hms64_2 := NB269_248.out
 have hms64_3 := NB269_256.out
 have hs65 : w62.cell? ⟨gb269, 1, none⟩ = some (.int .i64 0) := bc_ BK269.out 1
 have hfs65 := blk_frozen BK269.out 1
 have hns65_0 := NB225_269.out
 have hns65_1 := NB226_269.out
 have hns65_2 := NB248_269.out
 have hns65_3 := NB256_269.out
 have hms65_0 := NB269_225.out
 have hms65_1 := NB269_226.out
 have hms65_2 := NB269_248.out
 have hms65_3 := NB269_256.out
 have hs67 : w62.cell? ⟨gb269, 2, none⟩ = some (.slice none 0 0) := bc_ BK269.out 2
 have hfs67 := blk_frozen BK269.out 2
 have hns67_0 := NB225_269.out
 have hns67_1 := NB226_269.out
 have hns67_2 := NB248_269.out
 have hns67_3 := NB256_269.out
 have hms67_0 := NB269_225.out
 have hms67_1 := NB269_226.out
 have hms67_2 := NB269_248.out
 have hms67_3 := NB269_256.out
 refine skip_ (w1 := ?_) (by rfl) rfl ?_ ?_
 rotate_left
 ·go_simp
  rfl
 refine hK.out _ _ ⟨((cell_far (p := ⟨gb269, _, none⟩) NB256_269.out _).trans (((cell_far (p := ⟨gb269, _, none⟩) NB256_269.out _).trans (((cell_far (p := ⟨gb269, _, none⟩) NB256_269.out _).trans (hHeld.1)))))), ((cell_far (p := ⟨gb269, _, none⟩) NB256_269.out _).trans (((cell_far (p := ⟨gb269, _, none⟩) NB256_269.out _).trans (((cell_far (p := ⟨gb269, _, none⟩) NB256_269.out _).trans (hHeld.2.1)))))), ((cell_far (p := ⟨gb269, _, none⟩) NB256_269.out _).trans (((cell_far (p := ⟨gb269, _, none⟩) NB256_269.out _).trans (((cell_far (p := ⟨gb269, _, none⟩) NB256_269.out _).trans (hHeld.2.2.1)))))), ((cell_far (p := ⟨gb269, _, none⟩) NB226_269.out _).trans (((cell_far (p := ⟨gb269, _, none⟩) NB226_269.out _).trans (((cell_far (p := ⟨gb269, _, none⟩) NB226_269.out _).trans (hHeld.2.2.2.1)))))), ((cell_far (p := ⟨gb269, _, none⟩) NB226_269.out _).trans (((cell_far (p := ⟨gb269, _, none⟩) NB226_269.out _).trans (((cell_far (p := ⟨gb269, _, none⟩) NB226_269.out _).trans (hHeld.2.2.2.2.1)))))), ((cell_far (p := ⟨gb269, _, none⟩) NB226_269.out _).trans (((cell_far (p := ⟨gb269, _, none⟩) NB226_269.out _).trans (((cell_far (p := ⟨gb269, _, none⟩) NB226_269.out _).trans (hHeld.2.2.2.2.2.1)))))), ((cell_far (p := ⟨gb269, _, none⟩) NB226_269.out _).trans (((cell_far (p := ⟨gb269, _, none⟩) NB226_269.out _).trans (((cell_far (p := ⟨gb269, _, none⟩) NB226_269.out _).trans (hHeld.2.2.2.2.2.2))))))⟩ (fun hHeld => ?_)
 clear hK K
 refine pu_ 10 12 HT_ (bs 11 2047) rfl rfl ?_
 refine done_ (done_of HT_.out (by kernel_rfl)) ?_
 go_upto_region 11 with (fail)
 go_cut [55] (fun v55 wc => ∃ (kq : Nat) (x55_25 : Bool), v55 = .bool x55_25 ∧ Aside0 (laws_FnExactTake21.j0 kq a1 t247 t268 x55_25 l0_0 a0_1 l0_2 a2_0 a2_1 a2_2 a2_3 t240 t243 t244 t249 t252 t253 t261 t264 t265 = some r) ∧ Aside0 (kq ≤ k) ∧ Aside0 (Kd.R Kd.string 9 wc w.heap.size (fun k_ => some k_ ≠ ((.slice Ao45 t244.length co45) : Value).ownBlock ∧ some k_ ≠ ((.slice Ao51 t249.length co51) : Value).ownBlock ∧ some k_ ≠ ((.slice Ao56 t253.length co56) : Value).ownBlock ∧ some k_ ≠ ((.slice Ao63 t261.length co63) : Value).ownBlock ∧ some k_ ≠ ((.slice Ao66 t265.length co66) : Value).ownBlock) (.slice Ao42 t240.length co42) t240) ∧ Aside0 (Kd.R Kd.string 9 wc w.heap.size (fun k_ => some k_ ≠ ((.slice Ao42 t240.length co42) : Value).ownBlock ∧ some k_ ≠ ((.slice Ao51 t249.length co51) : Value).ownBlock ∧ some k_ ≠ ((.slice Ao56 t253.length co56) : Value).ownBlock ∧ some k_ ≠ ((.slice Ao63 t261.length co63) : Value).ownBlock ∧ some k_ ≠ ((.slice Ao66 t265.length co66) : Value).ownBlock) (.slice Ao45 t244.length co45) t244) ∧ Aside0 (Kd.R Kd.string 9 wc w.heap.size (fun k_ => some k_ ≠ ((.slice Ao42 t240.length co42) : Value).ownBlock ∧ some k_ ≠ ((.slice Ao45 t244.length co45) : Value).ownBlock ∧ some k_ ≠ ((.slice Ao56 t253.length co56) : Value).ownBlock ∧ some k_ ≠ ((.slice Ao63 t261.length co63) : Value).ownBlock ∧ some k_ ≠ ((.slice Ao66 t265.length co66) : Value).ownBlock) (.slice Ao51 t249.length co51) t249) ∧ Aside0 (Kd.R Kd.string 9 wc w.heap.size (fun k_ => some k_ ≠ ((.slice Ao42 t240.length co42) : Value).ownBlock ∧ some k_ ≠ ((.slice Ao45 t244.length co45) : Value).ownBlock ∧ some k_ ≠ ((.slice Ao51 t249.length co51) : Value).ownBlock ∧ some k_ ≠ ((.slice Ao63 t261.length co63) : Value).ownBlock ∧ some k_ ≠ ((.slice Ao66 t265.length co66) : Value).ownBlock) (.slice Ao56 t253.length co56) t253) ∧ Aside0 (Kd.R Kd.string 9 wc w.heap.size (fun k_ => some k_ ≠ ((.slice Ao42 t240.length co42) : Value).ownBlock ∧ some k_ ≠ ((.slice Ao45 t244.length co45) : Value).ownBlock ∧ some k_ ≠ ((.slice Ao51 t249.length co51) : Value).ownBlock ∧ some k_ ≠ ((.slice Ao56 t253.length co56) : Value).ownBlock ∧ some k_ ≠ ((.slice Ao66 t265.length co66) : Value).ownBlock) (.slice Ao63 t261.length co63) t261) ∧ Aside0 (Kd.R Kd.string 9 wc w.heap.size (fun k_ => some k_ ≠ ((.slice Ao42 t240.length co42) : Value).ownBlock ∧ some k_ ≠ ((.slice Ao45 t244.length co45) : Value).ownBlock ∧ some k_ ≠ ((.slice Ao51 t249.length co51) : Value).ownBlock ∧ some k_ ≠ ((.slice Ao56 t253.length co56) : Value).ownBlock ∧ some k_ ≠ ((.slice Ao63 t261.length co63) : Value).ownBlock) (.slice Ao66 t265.length co66) t265) ∧ Aside0 (wc.heap[gb225]? = some (.cells #[(.slice A0_0 l0_0.length c0_0), .int .i64 a0_1, (.slice A0_2 l0_2.length c0_2)] 42 (0, 0))) ∧ Aside0 (wc.heap[gb226]? = some (.cells #[.int .i64 a2_0, .int .i64 a2_1, .int .i64 a2_2, .string a2_3] 50 (0, 0))) ∧ Aside0 (wc.heap[gb248]? = some (.cells #[(.slice Ao42 t240.length co42), .int .i64 t243, (.slice Ao45 t244.length co45)] 26 (0, 0))) ∧ Aside0 (wc.heap[gb256]? = some (.cells #[(.slice Ao51 t249.length co51), .int .i64 t252, (.slice Ao56 t253.length co56)] 26 (0, 0))) ∧ Aside0 (wc.heap[gb269]? = some (.cells #[(.slice Ao63 t261.length co63), .int .i64 t264, (.slice Ao66 t265.length co66)] 26 (0, 0))) ∧ Aside0 (Below w.heap.size w wc))
 case first =>
  have H := HC26.out
  clear HC26; replace H := Option.bind_eq_some_iff.mp H
  obtain ⟨t270, A680, H⟩ := H
  replace H : (if t270 = true then (laws_FnExactTake21.j0 k a1 t247 t268 (t268 != t247) l0_0 a0_1 l0_2 a2_0 a2_1 a2_2 a2_3 t240 t243 t244 t249 t252 t253 t261 t264 t265) else (laws_FnExactTake21.j0 k a1 t247 t268 true l0_0 a0_1 l0_2 a2_0 a2_1 a2_2 a2_3 t240 t243 t244 t249 t252 t253 t261 t264 t265)) = some r := H
  have A68 := Aside0.mk A680
  clear A680
  by_cases c69 : t270 = true
  ·subst c69
   have H1 : (laws_FnExactTake21.j0 k a1 t247 t268 (t268 != t247) l0_0 a0_1 l0_2 a2_0 a2_1 a2_2 a2_3 t240 t243 t244 t249 t252 t253 t261 t264 t265) = some r := by rw [if_pos rfl] at H; exact H
   clear H
   have H := H1
   clear H1
   have H' := Aside0.mk H
   clear H; have hnb70 := NB269_225.out; have hnc70 := NB225_269.out; have hnb71 := NB269_226.out; have hnc71 := NB226_269.out; have hnb72 := NB269_248.out; have hnc72 := NB248_269.out; have hnb73 := NB269_256.out; have hnc73 := NB256_269.out; have hcz74_0 : w62.cell? ⟨gb269, 0, none⟩ = some (.slice none 0 0) := bc_ BK269.out 0; have hcz74_1 : w62.cell? ⟨gb269, 1, none⟩ = some (.int .i64 0) := bc_ BK269.out 1; have hcz74_2 : w62.cell? ⟨gb269, 2, none⟩ = some (.slice none 0 0) := bc_ BK269.out 2; have hfz74_0 := blk_frozen BK269.out 0; have hfz74_1 := blk_frozen BK269.out 1; have hfz74_2 := blk_frozen BK269.out 2; have hnb75 := NB248_225.out; have hnc75 := NB225_248.out; have hnb76 := NB248_226.out; have hnc76 := NB226_248.out; have hnb77 := NB248_256.out; have hnc77 := NB256_248.out; have hcz78_0 : w62.cell? ⟨gb248, 0, none⟩ = some (.slice Ao42 t240.length co42) := bc_ BK248.out 0; have hcz78_1 : w62.cell? ⟨gb248, 1, none⟩ = some (.int .i64 t243) := bc_ BK248.out 1; have hcz78_2 : w62.cell? ⟨gb248, 2, none⟩ = some (.slice Ao45 t244.length co45) := bc_ BK248.out 2; have hfz78_0 := blk_frozen BK248.out 0; have hfz78_1 := blk_frozen BK248.out 1; have hfz78_2 := blk_frozen BK248.out 2
   go_wp2_with (first | ((with_reducible refine gate_callee (f := 18) rfl ?_); refine goesL_ (some 49) rfl rfl Try.func18 (by kernel_rfl) rfl #[.agg #[.slice Ao63 t261.length co63, .int .i64 t264, .slice Ao66 t265.length co66], .agg #[.slice Ao42 t240.length co42, .int .i64 t243, .slice Ao45 t244.length co45]] rfl ml_ ?_; (with_reducible refine (laws_eqParty.calls k _ _ t261 t264 _ _ t265 _ _ t240 t243 _ _ t244 true _ ?side1 ?side2 ?side3 ?side4 ?side5 ?side6 ?side7 ?side8 A68.out).mono ?_); (case side1 => exact (Kd.R_reads' (rf1_ (rt_ HO263.out BK269.out))).2.2); (case side2 => exact (Kd.R_reads' HO263.out).2.1); (case side3 => exact (Kd.R_reads' (rf1_ (rt_ HO267.out BK269.out))).2.2); (case side4 => exact (Kd.R_reads' HO267.out).2.1); (case side5 => exact (Kd.R_reads' (rf1_ (rt_ HO242.out BK269.out))).2.2); (case side6 => exact (Kd.R_reads' HO242.out).2.1); (case side7 => exact (Kd.R_reads' (rf1_ (rt_ HO246.out BK269.out))).2.2); (case side8 => exact (Kd.R_reads' HO246.out).2.1); rintro e w79 ⟨rfl, hb⟩; refine ⟨_, rfl, ?_⟩; replace HO231 := Aside0.mk (Kd.R_below (rf1_ (rt_ HO231.out BK269.out)) hb); replace HO235 := Aside0.mk (Kd.R_below (rf1_ (rt_ HO235.out BK269.out)) hb); replace HO242 := Aside0.mk (Kd.R_below (rf1_ (rt_ HO242.out BK269.out)) hb); replace HO246 := Aside0.mk (Kd.R_below (rf1_ (rt_ HO246.out BK269.out)) hb); replace HO251 := Aside0.mk (Kd.R_below (rf1_ (rt_ HO251.out BK269.out)) hb); replace HO255 := Aside0.mk (Kd.R_below (rf1_ (rt_ HO255.out BK269.out)) hb); replace HO263 := Aside0.mk (Kd.R_below (rf1_ (rt_ HO263.out BK269.out)) hb); replace HO267 := Aside0.mk (Kd.R_below (rf1_ (rt_ HO267.out BK269.out)) hb); replace BK225 := Aside0.mk (ba_ BK225.out hb); replace BK226 := Aside0.mk (ba_ BK226.out hb); replace BK248 := Aside0.mk (ba_ BK248.out hb); replace BK256 := Aside0.mk (ba_ BK256.out hb); replace BK269 := Aside0.mk (blk_below (g := gb269) (o := .cells #[.slice Ao63 t261.length co63, .int .i64 t264, .slice Ao66 t265.length co66] 26 (0, 0)) (by refine rp_ ?_; refine blk_put (cs := #[.slice Ao63 t261.length co63, .int .i64 t264, .slice none 0 0]) ?_ 2 _ rfl; refine rp_ ?_; refine blk_put (cs := #[.slice Ao63 t261.length co63, .int .i64 0, .slice none 0 0]) ?_ 1 _ rfl; refine rp_ ?_; refine blk_put (cs := #[.slice none 0 0, .int .i64 0, .slice none 0 0]) ?_ 0 _ rfl; refine rp_ ?_; exact BK269.out) hb); replace HB := Aside0.mk (below_step (bel_ HB.out) hb); (try clear hb); (try clear hb2); (try clear hk); (try clear hi)))
   go_meet
   case rel => exact ⟨_, ((t268 != t247)), rl_, H', ⟨by first | omega | exact Nat.le_refl _⟩, ⟨rn_ HO242.out (fun _ hk => ⟨hk.2.2.1, ⟨hk.2.2.2.1, ⟨hk.2.2.2.2.1, ⟨hk.2.2.2.2.2.1, hk.2.2.2.2.2.2⟩⟩⟩⟩)⟩, ⟨rn_ HO246.out (fun _ hk => ⟨hk.2.2.1, ⟨hk.2.2.2.1, ⟨hk.2.2.2.2.1, ⟨hk.2.2.2.2.2.1, hk.2.2.2.2.2.2⟩⟩⟩⟩)⟩, ⟨rn_ HO251.out (fun _ hk => ⟨hk.2.2.1, ⟨hk.2.2.2.1, ⟨hk.2.2.2.2.1, ⟨hk.2.2.2.2.2.1, hk.2.2.2.2.2.2⟩⟩⟩⟩)⟩, ⟨rn_ HO255.out (fun _ hk => ⟨hk.2.2.1, ⟨hk.2.2.2.1, ⟨hk.2.2.2.2.1, ⟨hk.2.2.2.2.2.1, hk.2.2.2.2.2.2⟩⟩⟩⟩)⟩, ⟨rn_ HO263.out (fun _ hk => ⟨hk.2.2.1, ⟨hk.2.2.2.1, ⟨hk.2.2.2.2.1, ⟨hk.2.2.2.2.2.1, hk.2.2.2.2.2.2⟩⟩⟩⟩)⟩, ⟨rn_ HO267.out (fun _ hk => ⟨hk.2.2.1, ⟨hk.2.2.2.1, ⟨hk.2.2.2.2.1, ⟨hk.2.2.2.2.2.1, hk.2.2.2.2.2.2⟩⟩⟩⟩)⟩, ⟨fb_ BK225.out⟩, ⟨fb_ BK226.out⟩, ⟨fb_ BK248.out⟩, ⟨fb_ BK256.out⟩, ⟨fb_ BK269.out⟩, ⟨bel_ HB.out⟩⟩
  case neg =>
  replace c69 := Bool.eq_false_iff.mpr c69
  subst c69
  have H1 : (laws_FnExactTake21.j0 k a1 t247 t268 true l0_0 a0_1 l0_2 a2_0 a2_1 a2_2 a2_3 t240 t243 t244 t249 t252 t253 t261 t264 t265) = some r := by rw [if_neg (show ¬ (false = true) by decide)] at H; exact H
  clear H
  have H := H1
  clear H1
  have H' := Aside0.mk H
  clear H; have hnb80 := NB269_225.out; have hnc80 := NB225_269.out; have hnb81 := NB269_226.out; have hnc81 := NB226_269.out; have hnb82 := NB269_248.out; have hnc82 := NB248_269.out; have hnb83 := NB269_256.out; have hnc83 := NB256_269.out; have hcz84_0 : w62.cell? ⟨gb269, 0, none⟩ = some (.slice none 0 0) := bc_ BK269.out 0; have hcz84_1 : w62.cell? ⟨gb269, 1, none⟩ = some (.int .i64 0) := bc_ BK269.out 1; have hcz84_2 : w62.cell? ⟨gb269, 2, none⟩ = some (.slice none 0 0) := bc_ BK269.out 2; have hfz84_0 := blk_frozen BK269.out 0; have hfz84_1 := blk_frozen BK269.out 1; have hfz84_2 := blk_frozen BK269.out 2; have hnb85 := NB248_225.out; have hnc85 := NB225_248.out; have hnb86 := NB248_226.out; have hnc86 := NB226_248.out; have hnb87 := NB248_256.out; have hnc87 := NB256_248.out; have hcz88_0 : w62.cell? ⟨gb248, 0, none⟩ = some (.slice Ao42 t240.length co42) := bc_ BK248.out 0; have hcz88_1 : w62.cell? ⟨gb248, 1, none⟩ = some (.int .i64 t243) := bc_ BK248.out 1; have hcz88_2 : w62.cell? ⟨gb248, 2, none⟩ = some (.slice Ao45 t244.length co45) := bc_ BK248.out 2; have hfz88_0 := blk_frozen BK248.out 0; have hfz88_1 := blk_frozen BK248.out 1; have hfz88_2 := blk_frozen BK248.out 2
  go_wp2_with (first | ((with_reducible refine gate_callee (f := 18) rfl ?_); refine goesL_ (some 49) rfl rfl Try.func18 (by kernel_rfl) rfl #[.agg #[.slice Ao63 t261.length co63, .int .i64 t264, .slice Ao66 t265.length co66], .agg #[.slice Ao42 t240.length co42, .int .i64 t243, .slice Ao45 t244.length co45]] rfl ml_ ?_; (with_reducible refine (laws_eqParty.calls k _ _ t261 t264 _ _ t265 _ _ t240 t243 _ _ t244 false _ ?side1 ?side2 ?side3 ?side4 ?side5 ?side6 ?side7 ?side8 A68.out).mono ?_); (case side1 => exact (Kd.R_reads' (rf1_ (rt_ HO263.out BK269.out))).2.2); (case side2 => exact (Kd.R_reads' HO263.out).2.1); (case side3 => exact (Kd.R_reads' (rf1_ (rt_ HO267.out BK269.out))).2.2); (case side4 => exact (Kd.R_reads' HO267.out).2.1); (case side5 => exact (Kd.R_reads' (rf1_ (rt_ HO242.out BK269.out))).2.2); (case side6 => exact (Kd.R_reads' HO242.out).2.1); (case side7 => exact (Kd.R_reads' (rf1_ (rt_ HO246.out BK269.out))).2.2); (case side8 => exact (Kd.R_reads' HO246.out).2.1); rintro e w89 ⟨rfl, hb⟩; refine ⟨_, rfl, ?_⟩; replace HO231 := Aside0.mk (Kd.R_below (rf1_ (rt_ HO231.out BK269.out)) hb); replace HO235 := Aside0.mk (Kd.R_below (rf1_ (rt_ HO235.out BK269.out)) hb); replace HO242 := Aside0.mk (Kd.R_below (rf1_ (rt_ HO242.out BK269.out)) hb); replace HO246 := Aside0.mk (Kd.R_below (rf1_ (rt_ HO246.out BK269.out)) hb); replace HO251 := Aside0.mk (Kd.R_below (rf1_ (rt_ HO251.out BK269.out)) hb); replace HO255 := Aside0.mk (Kd.R_below (rf1_ (rt_ HO255.out BK269.out)) hb); replace HO263 := Aside0.mk (Kd.R_below (rf1_ (rt_ HO263.out BK269.out)) hb); replace HO267 := Aside0.mk (Kd.R_below (rf1_ (rt_ HO267.out BK269.out)) hb); replace BK225 := Aside0.mk (ba_ BK225.out hb); replace BK226 := Aside0.mk (ba_ BK226.out hb); replace BK248 := Aside0.mk (ba_ BK248.out hb); replace BK256 := Aside0.mk (ba_ BK256.out hb); replace BK269 := Aside0.mk (blk_below (g := gb269) (o := .cells #[.slice Ao63 t261.length co63, .int .i64 t264, .slice Ao66 t265.length co66] 26 (0, 0)) (by refine rp_ ?_; refine blk_put (cs := #[.slice Ao63 t261.length co63, .int .i64 t264, .slice none 0 0]) ?_ 2 _ rfl; refine rp_ ?_; refine blk_put (cs := #[.slice Ao63 t261.length co63, .int .i64 0, .slice none 0 0]) ?_ 1 _ rfl; refine rp_ ?_; refine blk_put (cs := #[.slice none 0 0, .int .i64 0, .slice none 0 0]) ?_ 0 _ rfl; refine rp_ ?_; exact BK269.out) hb); replace HB := Aside0.mk (below_step (bel_ HB.out) hb); (try clear hb); (try clear hb2); (try clear hk); (try clear hi)))
  go_meet
  case rel => exact ⟨_, (true), rl_, H', ⟨by first | omega | exact Nat.le_refl _⟩, ⟨rn_ HO242.out (fun _ hk => ⟨hk.2.2.1, ⟨hk.2.2.2.1, ⟨hk.2.2.2.2.1, ⟨hk.2.2.2.2.2.1, hk.2.2.2.2.2.2⟩⟩⟩⟩)⟩, ⟨rn_ HO246.out (fun _ hk => ⟨hk.2.2.1, ⟨hk.2.2.2.1, ⟨hk.2.2.2.2.1, ⟨hk.2.2.2.2.2.1, hk.2.2.2.2.2.2⟩⟩⟩⟩)⟩, ⟨rn_ HO251.out (fun _ hk => ⟨hk.2.2.1, ⟨hk.2.2.2.1, ⟨hk.2.2.2.2.1, ⟨hk.2.2.2.2.2.1, hk.2.2.2.2.2.2⟩⟩⟩⟩)⟩, ⟨rn_ HO255.out (fun _ hk => ⟨hk.2.2.1, ⟨hk.2.2.2.1, ⟨hk.2.2.2.2.1, ⟨hk.2.2.2.2.2.1, hk.2.2.2.2.2.2⟩⟩⟩⟩)⟩, ⟨rn_ HO263.out (fun _ hk => ⟨hk.2.2.1, ⟨hk.2.2.2.1, ⟨hk.2.2.2.2.1, ⟨hk.2.2.2.2.2.1, hk.2.2.2.2.2.2⟩⟩⟩⟩)⟩, ⟨rn_ HO267.out (fun _ hk => ⟨hk.2.2.1, ⟨hk.2.2.2.1, ⟨hk.2.2.2.2.1, ⟨hk.2.2.2.2.2.1, hk.2.2.2.2.2.2⟩⟩⟩⟩)⟩, ⟨fb_ BK225.out⟩, ⟨fb_ BK226.out⟩, ⟨fb_ BK248.out⟩, ⟨fb_ BK256.out⟩, ⟨fb_ BK269.out⟩, ⟨bel_ HB.out⟩⟩
 case rest =>
 clear HC26
 obtain ⟨kq, x55_25, rfl, HA, HJ25, HO_249000, HO_249002, HO_257000, HO_257002, HO_270000, HO_270002, BK225, BK226, BK248, BK256, BK269, HB⟩ := hcut
 cases kq with
 | zero => exact absurd HA.out (by simp [laws_FnExactTake21.j0])
 | succ kj25 =>
  have H := HA.out
  clear HA
  simp only [laws_FnExactTake21.j0] at H
  by_cases c90 : x55_25 = true
  ·subst c90
   have H1 : (some false) = some r := by rw [if_pos rfl] at H; exact H
   clear H
   have H := H1
   clear H1
   obtain rfl := Option.some.inj H
   go_wp2
   go_ret
   exact ⟨by first | rfl | (simp [errW_none, errW_some] <;> rfl) | (simp [*, errW_none, errW_some] <;> rfl), bel_ HB.out⟩
  case neg =>
  replace c90 := Bool.eq_false_iff.mpr c90
  subst c90
  have H1 : ((laws_toParty.f kj25 l0_0 a0_1 l0_2).bind fun bt271 => ((laws_eqParty.f kj25 t249 t252 t253 bt271.1 bt271.2.1 bt271.2.2).bind fun t278 => (if t278 = true then ((laws_markParty.f kj25 t249 t252 t253 1).bind fun bt279 => (if bt279.1 < 0 then (laws_FnExactTake21.j1 kj25 a1 t247 true l0_0 a0_1 l0_2 a2_0 a2_1 a2_2 a2_3 t240 t243 t244 t261 t264 t265) else ((laws_eqParty.f kj25 t261 t264 t265 t240 t243 t244).bind fun t282 => (if t282 = true then (laws_FnExactTake21.j1 kj25 a1 t247 (t268 != t247) l0_0 a0_1 l0_2 a2_0 a2_1 a2_2 a2_3 t240 t243 t244 t261 t264 t265) else (laws_FnExactTake21.j1 kj25 a1 t247 true l0_0 a0_1 l0_2 a2_0 a2_1 a2_2 a2_3 t240 t243 t244 t261 t264 t265))))) else (some false)))) = some r := by rw [if_neg (show ¬ (false = true) by decide)] at H; exact H
  clear H
  have H := H1
  clear H1; replace H := Option.bind_eq_some_iff.mp H
  obtain ⟨⟨t271, t274, t275⟩, A910, H⟩ := H
  replace H : ((laws_eqParty.f kj25 t249 t252 t253 t271 t274 t275).bind fun t278 => (if t278 = true then ((laws_markParty.f kj25 t249 t252 t253 1).bind fun bt279 => (if bt279.1 < 0 then (laws_FnExactTake21.j1 kj25 a1 t247 true l0_0 a0_1 l0_2 a2_0 a2_1 a2_2 a2_3 t240 t243 t244 t261 t264 t265) else ((laws_eqParty.f kj25 t261 t264 t265 t240 t243 t244).bind fun t282 => (if t282 = true then (laws_FnExactTake21.j1 kj25 a1 t247 (t268 != t247) l0_0 a0_1 l0_2 a2_0 a2_1 a2_2 a2_3 t240 t243 t244 t261 t264 t265) else (laws_FnExactTake21.j1 kj25 a1 t247 true l0_0 a0_1 l0_2 a2_0 a2_1 a2_2 a2_3 t240 t243 t244 t261 t264 t265))))) else (some false))) = some r := H
  have A91 := Aside0.mk A910
  clear A910; replace H := Option.bind_eq_some_iff.mp H
  obtain ⟨t278, A920, H⟩ := H
  replace H : (if t278 = true then ((laws_markParty.f kj25 t249 t252 t253 1).bind fun bt279 => (if bt279.1 < 0 then (laws_FnExactTake21.j1 kj25 a1 t247 true l0_0 a0_1 l0_2 a2_0 a2_1 a2_2 a2_3 t240 t243 t244 t261 t264 t265) else ((laws_eqParty.f kj25 t261 t264 t265 t240 t243 t244).bind fun t282 => (if t282 = true then (laws_FnExactTake21.j1 kj25 a1 t247 (t268 != t247) l0_0 a0_1 l0_2 a2_0 a2_1 a2_2 a2_3 t240 t243 t244 t261 t264 t265) else (laws_FnExactTake21.j1 kj25 a1 t247 true l0_0 a0_1 l0_2 a2_0 a2_1 a2_2 a2_3 t240 t243 t244 t261 t264 t265))))) else (some false)) = some r := H
  have A92 := Aside0.mk A920
  clear A920
  by_cases c93 : t278 = true
  ·subst c93
   have H1 : ((laws_markParty.f kj25 t249 t252 t253 1).bind fun bt279 => (if bt279.1 < 0 then (laws_FnExactTake21.j1 kj25 a1 t247 true l0_0 a0_1 l0_2 a2_0 a2_1 a2_2 a2_3 t240 t243 t244 t261 t264 t265) else ((laws_eqParty.f kj25 t261 t264 t265 t240 t243 t244).bind fun t282 => (if t282 = true then (laws_FnExactTake21.j1 kj25 a1 t247 (t268 != t247) l0_0 a0_1 l0_2 a2_0 a2_1 a2_2 a2_3 t240 t243 t244 t261 t264 t265) else (laws_FnExactTake21.j1 kj25 a1 t247 true l0_0 a0_1 l0_2 a2_0 a2_1 a2_2 a2_3 t240 t243 t244 t261 t264 t265))))) = some r := by rw [if_pos rfl] at H; exact H
   clear H
   have H := H1
   clear H1; replace H := Option.bind_eq_some_iff.mp H
   obtain ⟨⟨t279, t280, t281⟩, A940, H⟩ := H
   replace H : (if t279 < 0 then (laws_FnExactTake21.j1 kj25 a1 t247 true l0_0 a0_1 l0_2 a2_0 a2_1 a2_2 a2_3 t240 t243 t244 t261 t264 t265) else ((laws_eqParty.f kj25 t261 t264 t265 t240 t243 t244).bind fun t282 => (if t282 = true then (laws_FnExactTake21.j1 kj25 a1 t247 (t268 != t247) l0_0 a0_1 l0_2 a2_0 a2_1 a2_2 a2_3 t240 t243 t244 t261 t264 t265) else (laws_FnExactTake21.j1 kj25 a1 t247 true l0_0 a0_1 l0_2 a2_0 a2_1 a2_2 a2_3 t240 t243 t244 t261 t264 t265)))) = some r := H
   have A94 := Aside0.mk A940
   clear A940
   have HC95 := Aside0.mk H
   clear H
   try go_wp2
   replace HO_249000 := Aside0.mk (Kd.R_drew HO_249000.out); replace HO_249002 := Aside0.mk (Kd.R_drew HO_249002.out); replace HO_257000 := Aside0.mk (Kd.R_drew HO_257000.out); replace HO_257002 := Aside0.mk (Kd.R_drew HO_257002.out); replace HO_270000 := Aside0.mk (Kd.R_drew HO_270000.out); replace HO_270002 := Aside0.mk (Kd.R_drew HO_270002.out); replace BK225 := Aside0.mk (blk_drew BK225.out); replace BK226 := Aside0.mk (blk_drew BK226.out); replace BK248 := Aside0.mk (blk_drew BK248.out); replace BK256 := Aside0.mk (blk_drew BK256.out); replace BK269 := Aside0.mk (blk_drew BK269.out); replace HB := Aside0.mk (below_drew1 HB.out)
   refine start_ (n := 5) (S := fun w' => w'.cell? ⟨gb256, 0, none⟩ = some (.slice Ao51 t249.length co51) ∧ w'.cell? ⟨gb256, 1, none⟩ = some (.int .i64 t252) ∧ w'.cell? ⟨gb256, 2, none⟩ = some (.slice Ao56 t253.length co56) ∧ w'.cell? ⟨gb225, 0, none⟩ = some (.slice A0_0 l0_0.length c0_0) ∧ w'.cell? ⟨gb225, 1, none⟩ = some (.int .i64 a0_1) ∧ w'.cell? ⟨gb225, 2, none⟩ = some (.slice A0_2 l0_2.length c0_2)) (ds := []) (bs 5 0) (by kernel_rfl) rfl rfl ⟨bc_ BK256.out 0, bc_ BK256.out 1, bc_ BK256.out 2, bc_ BK225.out 0, bc_ BK225.out 1, bc_ BK225.out 2⟩ (fun hHeld => ?_)
   generalize wc.drew = w96 at HO_249000 HO_249002 HO_257000 HO_257002 HO_270000 HO_270002 BK225 BK226 BK248 BK256 BK269 HB hHeld ⊢
   refine take_ (i := 0) (N := some 56) (v := ?_) (a' := ?_) (bs 5 1) rfl rfl (by kernel_rfl) (fun _ _ _ h => h) (Or.inl ⟨by rfl, ?_⟩) hHeld ?_ ?_
   rotate_left
   ·rintro w' ⟨s0, s1, s2, s3, s4, s5⟩
    go_simp
    with_reducible rfl
   rotate_left
   ·simp only [Act.put, sA_, sZ_, sS_, i64_w, i32_w]
    rfl
   refine take_ (i := 1) (N := some 57) (v := ?_) (a' := ?_) (bs 5 3) rfl rfl (by kernel_rfl) (fun _ _ _ h => h) (Or.inl ⟨by rfl, ?_⟩) hHeld ?_ ?_
   rotate_left
   ·rintro w' ⟨s0, s1, s2, s3, s4, s5⟩
    go_simp
    with_reducible rfl
   rotate_left
   ·simp only [Act.put, sA_, sZ_, sS_, i64_w, i32_w]
    rfl
   refine one_ (i := 2) (N := some 58) (bs 5 7) rfl rfl (by kernel_rfl) (by decide) (fun K hK => ?_)
   refine goes_ Try.func17 (by kernel_rfl) rfl #[.agg #[.slice A0_0 l0_0.length c0_0, .int .i64 a0_1, .slice A0_2 l0_2.length c0_2]] (by rfl) rfl rfl ml_ ?_
   with_reducible refine (laws_toParty.calls kj25 _ _ l0_0 a0_1 _ _ l0_2 t271 t274 t275 _ ?side1 ?side2 ?side3 ?side4 A91.out).mono ?_
   (case side1 => exact rc_ (Kd.C_below HR0_0.out HB.out))
   (case side2 => exact HC0_0.out)
   (case side3 => exact rc_ (Kd.C_below HR0_2.out HB.out))
   (case side4 => exact HC0_2.out)
   rintro e w97 ⟨v272, v276, rfl, ho0, ho1, hb⟩
   refine ⟨_, rfl, ?_⟩
   have HO273 := Aside0.mk (Kd.R_lower (Kd.R_new' (Kd.R_new' (Kd.R_new' (Kd.R_new' (Kd.R_new' (Kd.R_new' ho0 (Kd.R_lt (fr_ HO_249000.out))) (Kd.R_lt (fr_ HO_249002.out))) (Kd.R_lt (fr_ HO_257000.out))) (Kd.R_lt (fr_ HO_257002.out))) (Kd.R_lt (fr_ HO_270000.out))) (Kd.R_lt (fr_ HO_270002.out))) (below_size (bel_ HB.out)))
   have HO277 := Aside0.mk (Kd.R_lower (Kd.R_new' (Kd.R_new' (Kd.R_new' (Kd.R_new' (Kd.R_new' (Kd.R_new' ho1 (Kd.R_lt (fr_ HO_249000.out))) (Kd.R_lt (fr_ HO_249002.out))) (Kd.R_lt (fr_ HO_257000.out))) (Kd.R_lt (fr_ HO_257002.out))) (Kd.R_lt (fr_ HO_270000.out))) (Kd.R_lt (fr_ HO_270002.out))) (below_size (bel_ HB.out)))
   replace HO_249000 := Aside0.mk (Kd.R_mono (Kd.R_told (Kd.R_told (Kd.R_old (fr_ HO_249000.out) hb) (Kd.R_base ho0)) (Kd.R_base ho1)) (fun _ h_ => h_.1)); replace HO_249002 := Aside0.mk (Kd.R_mono (Kd.R_told (Kd.R_told (Kd.R_old (fr_ HO_249002.out) hb) (Kd.R_base ho0)) (Kd.R_base ho1)) (fun _ h_ => h_.1)); replace HO_257000 := Aside0.mk (Kd.R_mono (Kd.R_told (Kd.R_told (Kd.R_old (fr_ HO_257000.out) hb) (Kd.R_base ho0)) (Kd.R_base ho1)) (fun _ h_ => h_.1)); replace HO_257002 := Aside0.mk (Kd.R_mono (Kd.R_told (Kd.R_told (Kd.R_old (fr_ HO_257002.out) hb) (Kd.R_base ho0)) (Kd.R_base ho1)) (fun _ h_ => h_.1)); replace HO_270000 := Aside0.mk (Kd.R_mono (Kd.R_told (Kd.R_told (Kd.R_old (fr_ HO_270000.out) hb) (Kd.R_base ho0)) (Kd.R_base ho1)) (fun _ h_ => h_.1)); replace HO_270002 := Aside0.mk (Kd.R_mono (Kd.R_told (Kd.R_told (Kd.R_old (fr_ HO_270002.out) hb) (Kd.R_base ho0)) (Kd.R_base ho1)) (fun _ h_ => h_.1)); replace BK225 := Aside0.mk (bb_ BK225.out hb); replace BK226 := Aside0.mk (bb_ BK226.out hb); replace BK248 := Aside0.mk (bb_ BK248.out hb); replace BK256 := Aside0.mk (bb_ BK256.out hb); replace BK269 := Aside0.mk (bb_ BK269.out hb); replace HB := Aside0.mk (below_step (bel_ HB.out) hb); (try clear hb); (try clear hb2); (try clear hk); (try clear hi); (try clear ho0); (try clear ho1)
   obtain ⟨Ao98, co98, eo98⟩ := Kd.R_slice HO273.out
   (first | subst eo98 | (injection eo98 with f1_ f2_ f3_; have f4_ := f1_.symm; have f5_ := f3_.symm; clear f1_ f2_ f3_; subst f4_; subst f5_))
   obtain ⟨Ao99, co99, eo99⟩ := Kd.R_slice HO277.out
   (first | subst eo99 | (injection eo99 with f1_ f2_ f3_; have f4_ := f1_.symm; have f5_ := f3_.symm; clear f1_ f2_ f3_; subst f4_; subst f5_))
   refine hK.out _ _ ⟨bc_ BK256.out 0, bc_ BK256.out 1, bc_ BK256.out 2, bc_ BK225.out 0, bc_ BK225.out 1, bc_ BK225.out 2⟩ (fun hHeld => ?_)
   clear hK K
   refine norm_ (a' := ?_) ?_ ?_
   rotate_left
   ·show Act.put _ (some 58) _ = _
    simp only [Act.put, sA_, sZ_, sS_, i64_w, i32_w]
    rfl
   refine one_ (i := 3) (N := some 59) (bs 5 15) rfl rfl (by kernel_rfl) (by decide) (fun K hK => ?_)
   refine goes_ Try.func18 (by kernel_rfl) rfl #[.agg #[.slice Ao51 t249.length co51, .int .i64 t252, .slice Ao56 t253.length co56], .agg #[.slice Ao98 t271.length co98, .int .i64 t274, .slice Ao99 t275.length co99]] (by rfl) rfl rfl ml_ ?_
   with_reducible refine (laws_eqParty.calls kj25 _ _ t249 t252 _ _ t253 _ _ t271 t274 _ _ t275 true _ ?side1 ?side2 ?side3 ?side4 ?side5 ?side6 ?side7 ?side8 A92.out).mono ?_
   (case side1 => exact rc_ (Kd.R_reads' HO_257000.out).2.2)
   (case side2 => exact (Kd.R_reads' HO_257000.out).2.1)
   (case side3 => exact rc_ (Kd.R_reads' HO_257002.out).2.2)
   (case side4 => exact (Kd.R_reads' HO_257002.out).2.1)
   (case side5 => exact rc_ (Kd.R_reads' HO273.out).2.2)
   (case side6 => exact (Kd.R_reads' HO273.out).2.1)
   (case side7 => exact rc_ (Kd.R_reads' HO277.out).2.2)
   (case side8 => exact (Kd.R_reads' HO277.out).2.1)
   rintro e w100 ⟨rfl, hb⟩
   refine ⟨_, rfl, ?_⟩; replace HO_249000 := Aside0.mk (Kd.R_below (fr_ HO_249000.out) hb); replace HO_249002 := Aside0.mk (Kd.R_below (fr_ HO_249002.out) hb); replace HO_257000 := Aside0.mk (Kd.R_below (fr_ HO_257000.out) hb); replace HO_257002 := Aside0.mk (Kd.R_below (fr_ HO_257002.out) hb); replace HO_270000 := Aside0.mk (Kd.R_below (fr_ HO_270000.out) hb); replace HO_270002 := Aside0.mk (Kd.R_below (fr_ HO_270002.out) hb); replace HO273 := Aside0.mk (Kd.R_below (fr_ HO273.out) hb); replace HO277 := Aside0.mk (Kd.R_below (fr_ HO277.out) hb); replace BK225 := Aside0.mk (bb_ BK225.out hb); replace BK226 := Aside0.mk (bb_ BK226.out hb); replace BK248 := Aside0.mk (bb_ BK248.out hb); replace BK256 := Aside0.mk (bb_ BK256.out hb); replace BK269 := Aside0.mk (bb_ BK269.out hb); replace HB := Aside0.mk (below_step (bel_ HB.out) hb); (try clear hb); (try clear hb2); (try clear hk); (try clear hi)
   refine hK.out _ _ ⟨bc_ BK256.out 0, bc_ BK256.out 1, bc_ BK256.out 2, bc_ BK225.out 0, bc_ BK225.out 1, bc_ BK225.out 2⟩ (fun hHeld => ?_)
   clear hK K
   refine norm_ (a' := ?_) ?_ ?_
   rotate_left
   ·show Act.put _ (some 59) _ = _
    simp only [Act.put, sA_, sZ_, sS_, i64_w, i32_w]
    rfl
   refine pure_ (i := 4) (N := some 60) (v := ?_) (a' := ?_) (bs 5 31) rfl rfl (by kernel_rfl) (fun _ _ _ h => h) (Or.inl ⟨by rfl, ?_⟩) ?_ ?_
   rotate_left
   ·intro w'
    go_simp
    with_reducible rfl
   rotate_left
   ·simp only [Act.put, sA_, sZ_, sS_, i64_w, i32_w]
    rfl
   refine done_ (by kernel_rfl) ?_
   have hnb101 := NB256_225.out; have hnc101 := NB225_256.out; have hnb102 := NB256_226.out; have hnc102 := NB226_256.out; have hnb103 := NB256_248.out; have hnc103 := NB248_256.out; have hnb104 := NB256_269.out; have hnc104 := NB269_256.out; have hcz105_0 : w100.cell? ⟨gb256, 0, none⟩ = some (.slice Ao51 t249.length co51) := bc_ BK256.out 0; have hcz105_1 : w100.cell? ⟨gb256, 1, none⟩ = some (.int .i64 t252) := bc_ BK256.out 1; have hcz105_2 : w100.cell? ⟨gb256, 2, none⟩ = some (.slice Ao56 t253.length co56) := bc_ BK256.out 2; have hfz105_0 := blk_frozen BK256.out 0; have hfz105_1 := blk_frozen BK256.out 1; have hfz105_2 := blk_frozen BK256.out 2
   go_upto_region 17 with (first | ((with_reducible refine gate_callee (f := 21) rfl ?_); refine goesL_ (some 63) rfl rfl Try.func21 (by kernel_rfl) rfl #[.agg #[.slice Ao51 t249.length co51, .int .i64 t252, .slice Ao56 t253.length co56], .int .i64 1] rfl ml_ ?_; (with_reducible refine (laws_markParty.calls kj25 (fun k_ => some k_ = (.slice Ao51 t249.length co51 : Value).ownBlock) (.slice Ao51 t249.length co51) t249 t252 (fun k_ => some k_ = (.slice Ao56 t253.length co56 : Value).ownBlock) (.slice Ao56 t253.length co56) t253 1 t279 t280 t281 w _ ?side1 ?side2 ?side3 ?side4 ?side5 A94.out).mono ?_); (case side1 => repeat (first | (with_reducible first | exact HB.out | apply below_alloc | apply pw_below_drewN | apply below_drew1 | refine below_set ?_ GE225.out | refine below_set ?_ GE226.out | refine below_set ?_ GE248.out | refine below_set ?_ GE256.out | refine below_set ?_ GE269.out) | exact HB.out)); (case side2 => exact Kd.R_tight rfl HO_257000.out); (case side3 => exact fun k_ e_ => (HO_257000.out.1 k_ e_.symm).1.1.2.2.1); (case side4 => exact Kd.R_tight rfl HO_257002.out); (case side5 => exact fun k_ e_ => (HO_257002.out.1 k_ e_.symm).1.1.2.2.1); rintro e w106 ⟨rfl, hy0, hy1, hb, hkp⟩; refine ⟨_, rfl, ?_⟩; replace HO_249000 := Aside0.mk (Kd.R_mono (ok' := fun k_ => nB_ (.slice Ao45 t244.length co45) k_ ∧ nB_ (.slice Ao51 t249.length co51) k_ ∧ nB_ (.slice Ao56 t253.length co56) k_ ∧ nB_ (.slice Ao63 t261.length co63) k_ ∧ nB_ (.slice Ao66 t265.length co66) k_ ∧ nB_ (.slice Ao98 t271.length co98) k_ ∧ nB_ (.slice Ao99 t275.length co99) k_) (Kd.R_keptB (HO_249000.out) hkp (fun k_ hk_ hs_ => Or.elim hs_ (fun e_ => (hk_.1.1.2.1) e_) (fun e_ => (hk_.1.1.2.2.1) e_))) (fun k_ hk_ => ⟨hk_.1.1.1.1, hk_.1.1.1.2.1, hk_.1.1.1.2.2.1, hk_.1.1.1.2.2.2.1, hk_.1.1.1.2.2.2.2, hk_.1.1.2, hk_.1.2⟩)); replace HO_249002 := Aside0.mk (Kd.R_mono (ok' := fun k_ => nB_ (.slice Ao42 t240.length co42) k_ ∧ nB_ (.slice Ao51 t249.length co51) k_ ∧ nB_ (.slice Ao56 t253.length co56) k_ ∧ nB_ (.slice Ao63 t261.length co63) k_ ∧ nB_ (.slice Ao66 t265.length co66) k_ ∧ nB_ (.slice Ao98 t271.length co98) k_ ∧ nB_ (.slice Ao99 t275.length co99) k_) (Kd.R_keptB (HO_249002.out) hkp (fun k_ hk_ hs_ => Or.elim hs_ (fun e_ => (hk_.1.1.2.1) e_) (fun e_ => (hk_.1.1.2.2.1) e_))) (fun k_ hk_ => ⟨hk_.1.1.1.1, hk_.1.1.1.2.1, hk_.1.1.1.2.2.1, hk_.1.1.1.2.2.2.1, hk_.1.1.1.2.2.2.2, hk_.1.1.2, hk_.1.2⟩)); replace HO_270000 := Aside0.mk (Kd.R_mono (ok' := fun k_ => nB_ (.slice Ao42 t240.length co42) k_ ∧ nB_ (.slice Ao45 t244.length co45) k_ ∧ nB_ (.slice Ao51 t249.length co51) k_ ∧ nB_ (.slice Ao56 t253.length co56) k_ ∧ nB_ (.slice Ao66 t265.length co66) k_ ∧ nB_ (.slice Ao98 t271.length co98) k_ ∧ nB_ (.slice Ao99 t275.length co99) k_) (Kd.R_keptB (HO_270000.out) hkp (fun k_ hk_ hs_ => Or.elim hs_ (fun e_ => (hk_.1.1.2.2.1) e_) (fun e_ => (hk_.1.1.2.2.2.1) e_))) (fun k_ hk_ => ⟨hk_.1.1.1.1, hk_.1.1.1.2.1, hk_.1.1.1.2.2.1, hk_.1.1.1.2.2.2.1, hk_.1.1.1.2.2.2.2, hk_.1.1.2, hk_.1.2⟩)); replace HO_270002 := Aside0.mk (Kd.R_mono (ok' := fun k_ => nB_ (.slice Ao42 t240.length co42) k_ ∧ nB_ (.slice Ao45 t244.length co45) k_ ∧ nB_ (.slice Ao51 t249.length co51) k_ ∧ nB_ (.slice Ao56 t253.length co56) k_ ∧ nB_ (.slice Ao63 t261.length co63) k_ ∧ nB_ (.slice Ao98 t271.length co98) k_ ∧ nB_ (.slice Ao99 t275.length co99) k_) (Kd.R_keptB (HO_270002.out) hkp (fun k_ hk_ hs_ => Or.elim hs_ (fun e_ => (hk_.1.1.2.2.1) e_) (fun e_ => (hk_.1.1.2.2.2.1) e_))) (fun k_ hk_ => ⟨hk_.1.1.1.1, hk_.1.1.1.2.1, hk_.1.1.1.2.2.1, hk_.1.1.1.2.2.2.1, hk_.1.1.1.2.2.2.2, hk_.1.1.2, hk_.1.2⟩)); replace BK225 := Aside0.mk (blk_kept (fb_ BK225.out) hkp (fun hs_ => Or.elim hs_ (fun e_ => (fun e_ => (Kd.R_ne HO_257000.out BK225.out (by decide)) e_) e_) (fun e_ => (fun e_ => (Kd.R_ne HO_257002.out BK225.out (by decide)) e_) e_))); replace BK226 := Aside0.mk (blk_kept (fb_ BK226.out) hkp (fun hs_ => Or.elim hs_ (fun e_ => (fun e_ => (Kd.R_ne HO_257000.out BK226.out (by decide)) e_) e_) (fun e_ => (fun e_ => (Kd.R_ne HO_257002.out BK226.out (by decide)) e_) e_))); replace BK248 := Aside0.mk (blk_kept (fb_ BK248.out) hkp (fun hs_ => Or.elim hs_ (fun e_ => (fun e_ => (Kd.R_ne HO_257000.out BK248.out (by decide)) e_) e_) (fun e_ => (fun e_ => (Kd.R_ne HO_257002.out BK248.out (by decide)) e_) e_))); replace BK256 := Aside0.mk (blk_kept (fb_ BK256.out) hkp (fun hs_ => Or.elim hs_ (fun e_ => (fun e_ => (Kd.R_ne HO_257000.out BK256.out (by decide)) e_) e_) (fun e_ => (fun e_ => (Kd.R_ne HO_257002.out BK256.out (by decide)) e_) e_))); replace BK269 := Aside0.mk (blk_kept (fb_ BK269.out) hkp (fun hs_ => Or.elim hs_ (fun e_ => (fun e_ => (Kd.R_ne HO_257000.out BK269.out (by decide)) e_) e_) (fun e_ => (fun e_ => (Kd.R_ne HO_257002.out BK269.out (by decide)) e_) e_))); replace HO_257000 := Aside0.mk (Kd.R_reok rfl hy0 (fun k_ e_ => HO_257000.out.1 k_ e_)); replace HO_257002 := Aside0.mk (Kd.R_reok rfl hy1 (fun k_ e_ => HO_257002.out.1 k_ e_)); replace HO273 := Aside0.mk (Kd.R_mono (ok' := fun k_ => nB_ (.slice Ao42 t240.length co42) k_ ∧ nB_ (.slice Ao45 t244.length co45) k_ ∧ nB_ (.slice Ao51 t249.length co51) k_ ∧ nB_ (.slice Ao56 t253.length co56) k_ ∧ nB_ (.slice Ao63 t261.length co63) k_ ∧ nB_ (.slice Ao66 t265.length co66) k_ ∧ nB_ (.slice Ao99 t275.length co99) k_) (Kd.R_keptB (HO273.out) hkp (fun k_ hk_ hs_ => Or.elim hs_ (fun e_ => (hk_.1.1.1.2) e_) (fun e_ => (hk_.1.1.2) e_))) (fun k_ hk_ => ⟨hk_.1.1.1.1.1.1.2, hk_.1.1.1.1.1.2, hk_.1.1.1.1.2, hk_.1.1.1.2, hk_.1.1.2, hk_.1.2, hk_.1.1.1.1.1.1.1⟩)); replace HO277 := Aside0.mk (Kd.R_mono (ok' := fun k_ => nB_ (.slice Ao42 t240.length co42) k_ ∧ nB_ (.slice Ao45 t244.length co45) k_ ∧ nB_ (.slice Ao51 t249.length co51) k_ ∧ nB_ (.slice Ao56 t253.length co56) k_ ∧ nB_ (.slice Ao63 t261.length co63) k_ ∧ nB_ (.slice Ao66 t265.length co66) k_ ∧ nB_ (.slice Ao98 t271.length co98) k_) (Kd.R_keptB (HO277.out) hkp (fun k_ hk_ hs_ => Or.elim hs_ (fun e_ => (hk_.1.1.1.2) e_) (fun e_ => (hk_.1.1.2) e_))) (fun k_ hk_ => ⟨hk_.1.1.1.1.1.1.2, hk_.1.1.1.1.1.2, hk_.1.1.1.1.2, hk_.1.1.1.2, hk_.1.1.2, hk_.1.2, hk_.1.1.1.1.1.1.1⟩)); replace HB := Aside0.mk (hb); (try clear hb); (try clear hkp); (try clear hy0); (try clear hy1)))
   (try simp only [Act.put, sA_, sZ_, sS_])
   go_cut [76] (fun v76 wc => ∃ (kq : Nat) (x76_94 : Bool), v76 = .bool x76_94 ∧ Aside0 (laws_FnExactTake21.j1 kq a1 t247 x76_94 l0_0 a0_1 l0_2 a2_0 a2_1 a2_2 a2_3 t240 t243 t244 t261 t264 t265 = some r) ∧ Aside0 (kq ≤ kj25) ∧ Aside0 (Kd.R Kd.string 9 wc w.heap.size (fun k_ => some k_ ≠ ((.slice Ao45 t244.length co45) : Value).ownBlock ∧ some k_ ≠ ((.slice Ao51 t249.length co51) : Value).ownBlock ∧ some k_ ≠ ((.slice Ao56 t253.length co56) : Value).ownBlock ∧ some k_ ≠ ((.slice Ao63 t261.length co63) : Value).ownBlock ∧ some k_ ≠ ((.slice Ao66 t265.length co66) : Value).ownBlock) (.slice Ao42 t240.length co42) t240) ∧ Aside0 (Kd.R Kd.string 9 wc w.heap.size (fun k_ => some k_ ≠ ((.slice Ao42 t240.length co42) : Value).ownBlock ∧ some k_ ≠ ((.slice Ao51 t249.length co51) : Value).ownBlock ∧ some k_ ≠ ((.slice Ao56 t253.length co56) : Value).ownBlock ∧ some k_ ≠ ((.slice Ao63 t261.length co63) : Value).ownBlock ∧ some k_ ≠ ((.slice Ao66 t265.length co66) : Value).ownBlock) (.slice Ao45 t244.length co45) t244) ∧ Aside0 (Kd.R Kd.string 9 wc w.heap.size (fun k_ => some k_ ≠ ((.slice Ao42 t240.length co42) : Value).ownBlock ∧ some k_ ≠ ((.slice Ao45 t244.length co45) : Value).ownBlock ∧ some k_ ≠ ((.slice Ao56 t253.length co56) : Value).ownBlock ∧ some k_ ≠ ((.slice Ao63 t261.length co63) : Value).ownBlock ∧ some k_ ≠ ((.slice Ao66 t265.length co66) : Value).ownBlock) (.slice Ao51 t249.length co51) t280) ∧ Aside0 (Kd.R Kd.string 9 wc w.heap.size (fun k_ => some k_ ≠ ((.slice Ao42 t240.length co42) : Value).ownBlock ∧ some k_ ≠ ((.slice Ao45 t244.length co45) : Value).ownBlock ∧ some k_ ≠ ((.slice Ao51 t249.length co51) : Value).ownBlock ∧ some k_ ≠ ((.slice Ao63 t261.length co63) : Value).ownBlock ∧ some k_ ≠ ((.slice Ao66 t265.length co66) : Value).ownBlock) (.slice Ao56 t253.length co56) t281) ∧ Aside0 (Kd.R Kd.string 9 wc w.heap.size (fun k_ => some k_ ≠ ((.slice Ao42 t240.length co42) : Value).ownBlock ∧ some k_ ≠ ((.slice Ao45 t244.length co45) : Value).ownBlock ∧ some k_ ≠ ((.slice Ao51 t249.length co51) : Value).ownBlock ∧ some k_ ≠ ((.slice Ao56 t253.length co56) : Value).ownBlock ∧ some k_ ≠ ((.slice Ao66 t265.length co66) : Value).ownBlock) (.slice Ao63 t261.length co63) t261) ∧ Aside0 (Kd.R Kd.string 9 wc w.heap.size (fun k_ => some k_ ≠ ((.slice Ao42 t240.length co42) : Value).ownBlock ∧ some k_ ≠ ((.slice Ao45 t244.length co45) : Value).ownBlock ∧ some k_ ≠ ((.slice Ao51 t249.length co51) : Value).ownBlock ∧ some k_ ≠ ((.slice Ao56 t253.length co56) : Value).ownBlock ∧ some k_ ≠ ((.slice Ao63 t261.length co63) : Value).ownBlock) (.slice Ao66 t265.length co66) t265) ∧ Aside0 (wc.heap[gb225]? = some (.cells #[(.slice A0_0 l0_0.length c0_0), .int .i64 a0_1, (.slice A0_2 l0_2.length c0_2)] 42 (0, 0))) ∧ Aside0 (wc.heap[gb226]? = some (.cells #[.int .i64 a2_0, .int .i64 a2_1, .int .i64 a2_2, .string a2_3] 50 (0, 0))) ∧ Aside0 (wc.heap[gb248]? = some (.cells #[(.slice Ao42 t240.length co42), .int .i64 t243, (.slice Ao45 t244.length co45)] 26 (0, 0))) ∧ Aside0 (wc.heap[gb256]? = some (.cells #[(.slice Ao51 t249.length co51), .int .i64 t252, (.slice Ao56 t253.length co56)] 26 (0, 0))) ∧ Aside0 (wc.heap[gb269]? = some (.cells #[(.slice Ao63 t261.length co63), .int .i64 t264, (.slice Ao66 t265.length co66)] 26 (0, 0))) ∧ Aside0 (Below w.heap.size w wc))
   case first =>
    have H := HC95.out
    clear HC95
    by_cases c107 : t279 < 0
    ·rw [if_pos c107] at H
     have c107b0 : decide (t279 < 0) = true := decide_eq_true c107
     clear c107
     (first | rw [c107b0] | (simp only [i64_w, i32_w]; rw [c107b0]) | skip)
     have H' := Aside0.mk H
     clear H
     go_wp2
     go_meet
     case rel => exact ⟨_, (true), rl_, H', ⟨by have := HJ25.out; first | omega | exact Nat.le_refl _⟩, ⟨rn_ HO_249000.out (fun _ hk => ⟨hk.1, ⟨hk.2.1, ⟨hk.2.2.1, ⟨hk.2.2.2.1, hk.2.2.2.2.1⟩⟩⟩⟩)⟩, ⟨rn_ HO_249002.out (fun _ hk => ⟨hk.1, ⟨hk.2.1, ⟨hk.2.2.1, ⟨hk.2.2.2.1, hk.2.2.2.2.1⟩⟩⟩⟩)⟩, ⟨rn_ HO_257000.out (fun _ hk => ⟨hk.1.1.1, ⟨hk.1.1.2.1, ⟨hk.1.1.2.2.1, ⟨hk.1.1.2.2.2.1, hk.1.1.2.2.2.2⟩⟩⟩⟩)⟩, ⟨rn_ HO_257002.out (fun _ hk => ⟨hk.1.1.1, ⟨hk.1.1.2.1, ⟨hk.1.1.2.2.1, ⟨hk.1.1.2.2.2.1, hk.1.1.2.2.2.2⟩⟩⟩⟩)⟩, ⟨rn_ HO_270000.out (fun _ hk => ⟨hk.1, ⟨hk.2.1, ⟨hk.2.2.1, ⟨hk.2.2.2.1, hk.2.2.2.2.1⟩⟩⟩⟩)⟩, ⟨rn_ HO_270002.out (fun _ hk => ⟨hk.1, ⟨hk.2.1, ⟨hk.2.2.1, ⟨hk.2.2.2.1, hk.2.2.2.2.1⟩⟩⟩⟩)⟩, ⟨fb_ BK225.out⟩, ⟨fb_ BK226.out⟩, ⟨fb_ BK248.out⟩, ⟨fb_ BK256.out⟩, ⟨fb_ BK269.out⟩, ⟨bel_ HB.out⟩⟩
    case neg =>
    rw [if_neg c107] at H
    have c107b0 : decide (t279 < 0) = false := decide_eq_false c107
    clear c107
    (first | rw [c107b0] | (simp only [i64_w, i32_w]; rw [c107b0]) | skip)
    replace H := Option.bind_eq_some_iff.mp H
    obtain ⟨t282, A1080, H⟩ := H
    replace H : (if t282 = true then (laws_FnExactTake21.j1 kj25 a1 t247 (t268 != t247) l0_0 a0_1 l0_2 a2_0 a2_1 a2_2 a2_3 t240 t243 t244 t261 t264 t265) else (laws_FnExactTake21.j1 kj25 a1 t247 true l0_0 a0_1 l0_2 a2_0 a2_1 a2_2 a2_3 t240 t243 t244 t261 t264 t265)) = some r := H
    have A108 := Aside0.mk A1080
    clear A1080
    by_cases c109 : t282 = true
    ·subst c109
     have H1 : (laws_FnExactTake21.j1 kj25 a1 t247 (t268 != t247) l0_0 a0_1 l0_2 a2_0 a2_1 a2_2 a2_3 t240 t243 t244 t261 t264 t265) = some r := by rw [if_pos rfl] at H; exact H
     clear H
     have H := H1
     clear H1
     have H' := Aside0.mk H
     clear H; have hnb110 := NB269_225.out; have hnc110 := NB225_269.out; have hnb111 := NB269_226.out; have hnc111 := NB226_269.out; have hnb112 := NB269_248.out; have hnc112 := NB248_269.out; have hnb113 := NB269_256.out; have hnc113 := NB256_269.out; have hcz114_0 : w106.cell? ⟨gb269, 0, none⟩ = some (.slice Ao63 t261.length co63) := bc_ BK269.out 0; have hcz114_1 : w106.cell? ⟨gb269, 1, none⟩ = some (.int .i64 t264) := bc_ BK269.out 1; have hcz114_2 : w106.cell? ⟨gb269, 2, none⟩ = some (.slice Ao66 t265.length co66) := bc_ BK269.out 2; have hfz114_0 := blk_frozen BK269.out 0; have hfz114_1 := blk_frozen BK269.out 1; have hfz114_2 := blk_frozen BK269.out 2; have hnb115 := NB248_225.out; have hnc115 := NB225_248.out; have hnb116 := NB248_226.out; have hnc116 := NB226_248.out; have hnb117 := NB248_256.out; have hnc117 := NB256_248.out; have hcz118_0 : w106.cell? ⟨gb248, 0, none⟩ = some (.slice Ao42 t240.length co42) := bc_ BK248.out 0; have hcz118_1 : w106.cell? ⟨gb248, 1, none⟩ = some (.int .i64 t243) := bc_ BK248.out 1; have hcz118_2 : w106.cell? ⟨gb248, 2, none⟩ = some (.slice Ao45 t244.length co45) := bc_ BK248.out 2; have hfz118_0 := blk_frozen BK248.out 0; have hfz118_1 := blk_frozen BK248.out 1; have hfz118_2 := blk_frozen BK248.out 2
     go_wp2_with (first | (go_at_call 18; (with_reducible refine (laws_eqParty.calls kj25 _ _ t261 t264 _ _ t265 _ _ t240 t243 _ _ t244 true _ ?side1 ?side2 ?side3 ?side4 ?side5 ?side6 ?side7 ?side8 A108.out).mono ?_); (case side1 => exact rc_ (Kd.R_reads' HO_270000.out).2.2); (case side2 => exact (Kd.R_reads' HO_270000.out).2.1); (case side3 => exact rc_ (Kd.R_reads' HO_270002.out).2.2); (case side4 => exact (Kd.R_reads' HO_270002.out).2.1); (case side5 => exact rc_ (Kd.R_reads' HO_249000.out).2.2); (case side6 => exact (Kd.R_reads' HO_249000.out).2.1); (case side7 => exact rc_ (Kd.R_reads' HO_249002.out).2.2); (case side8 => exact (Kd.R_reads' HO_249002.out).2.1); rintro e w119 ⟨rfl, hb⟩; replace HO_249000 := Aside0.mk (Kd.R_below (fr_ HO_249000.out) hb); replace HO_249002 := Aside0.mk (Kd.R_below (fr_ HO_249002.out) hb); replace HO_257000 := Aside0.mk (Kd.R_below (fr_ HO_257000.out) hb); replace HO_257002 := Aside0.mk (Kd.R_below (fr_ HO_257002.out) hb); replace HO_270000 := Aside0.mk (Kd.R_below (fr_ HO_270000.out) hb); replace HO_270002 := Aside0.mk (Kd.R_below (fr_ HO_270002.out) hb); replace HO273 := Aside0.mk (Kd.R_below (fr_ HO273.out) hb); replace HO277 := Aside0.mk (Kd.R_below (fr_ HO277.out) hb); replace BK225 := Aside0.mk (bb_ BK225.out hb); replace BK226 := Aside0.mk (bb_ BK226.out hb); replace BK248 := Aside0.mk (bb_ BK248.out hb); replace BK256 := Aside0.mk (bb_ BK256.out hb); replace BK269 := Aside0.mk (bb_ BK269.out hb); replace HB := Aside0.mk (below_step (bel_ HB.out) hb); (try clear hb); (try clear hb2); (try clear hk); (try clear hi)))
     go_meet
     case rel => exact ⟨_, ((t268 != t247)), rl_, H', ⟨by have := HJ25.out; first | omega | exact Nat.le_refl _⟩, ⟨rn_ HO_249000.out (fun _ hk => ⟨hk.1, ⟨hk.2.1, ⟨hk.2.2.1, ⟨hk.2.2.2.1, hk.2.2.2.2.1⟩⟩⟩⟩)⟩, ⟨rn_ HO_249002.out (fun _ hk => ⟨hk.1, ⟨hk.2.1, ⟨hk.2.2.1, ⟨hk.2.2.2.1, hk.2.2.2.2.1⟩⟩⟩⟩)⟩, ⟨rn_ HO_257000.out (fun _ hk => ⟨hk.1.1.1, ⟨hk.1.1.2.1, ⟨hk.1.1.2.2.1, ⟨hk.1.1.2.2.2.1, hk.1.1.2.2.2.2⟩⟩⟩⟩)⟩, ⟨rn_ HO_257002.out (fun _ hk => ⟨hk.1.1.1, ⟨hk.1.1.2.1, ⟨hk.1.1.2.2.1, ⟨hk.1.1.2.2.2.1, hk.1.1.2.2.2.2⟩⟩⟩⟩)⟩, ⟨rn_ HO_270000.out (fun _ hk => ⟨hk.1, ⟨hk.2.1, ⟨hk.2.2.1, ⟨hk.2.2.2.1, hk.2.2.2.2.1⟩⟩⟩⟩)⟩, ⟨rn_ HO_270002.out (fun _ hk => ⟨hk.1, ⟨hk.2.1, ⟨hk.2.2.1, ⟨hk.2.2.2.1, hk.2.2.2.2.1⟩⟩⟩⟩)⟩, ⟨fb_ BK225.out⟩, ⟨fb_ BK226.out⟩, ⟨fb_ BK248.out⟩, ⟨fb_ BK256.out⟩, ⟨fb_ BK269.out⟩, ⟨bel_ HB.out⟩⟩
    case neg =>
    replace c109 := Bool.eq_false_iff.mpr c109
    subst c109
    have H1 : (laws_FnExactTake21.j1 kj25 a1 t247 true l0_0 a0_1 l0_2 a2_0 a2_1 a2_2 a2_3 t240 t243 t244 t261 t264 t265) = some r := by rw [if_neg (show ¬ (false = true) by decide)] at H; exact H
    clear H
    have H := H1
    clear H1
    have H' := Aside0.mk H
    clear H; have hnb120 := NB269_225.out; have hnc120 := NB225_269.out; have hnb121 := NB269_226.out; have hnc121 := NB226_269.out; have hnb122 := NB269_248.out; have hnc122 := NB248_269.out; have hnb123 := NB269_256.out; have hnc123 := NB256_269.out; have hcz124_0 : w106.cell? ⟨gb269, 0, none⟩ = some (.slice Ao63 t261.length co63) := bc_ BK269.out 0; have hcz124_1 : w106.cell? ⟨gb269, 1, none⟩ = some (.int .i64 t264) := bc_ BK269.out 1; have hcz124_2 : w106.cell? ⟨gb269, 2, none⟩ = some (.slice Ao66 t265.length co66) := bc_ BK269.out 2; have hfz124_0 := blk_frozen BK269.out 0; have hfz124_1 := blk_frozen BK269.out 1; have hfz124_2 := blk_frozen BK269.out 2; have hnb125 := NB248_225.out; have hnc125 := NB225_248.out; have hnb126 := NB248_226.out; have hnc126 := NB226_248.out; have hnb127 := NB248_256.out; have hnc127 := NB256_248.out; have hcz128_0 : w106.cell? ⟨gb248, 0, none⟩ = some (.slice Ao42 t240.length co42) := bc_ BK248.out 0; have hcz128_1 : w106.cell? ⟨gb248, 1, none⟩ = some (.int .i64 t243) := bc_ BK248.out 1; have hcz128_2 : w106.cell? ⟨gb248, 2, none⟩ = some (.slice Ao45 t244.length co45) := bc_ BK248.out 2; have hfz128_0 := blk_frozen BK248.out 0; have hfz128_1 := blk_frozen BK248.out 1; have hfz128_2 := blk_frozen BK248.out 2
    go_wp2_with (first | (go_at_call 18; (with_reducible refine (laws_eqParty.calls kj25 _ _ t261 t264 _ _ t265 _ _ t240 t243 _ _ t244 false _ ?side1 ?side2 ?side3 ?side4 ?side5 ?side6 ?side7 ?side8 A108.out).mono ?_); (case side1 => exact rc_ (Kd.R_reads' HO_270000.out).2.2); (case side2 => exact (Kd.R_reads' HO_270000.out).2.1); (case side3 => exact rc_ (Kd.R_reads' HO_270002.out).2.2); (case side4 => exact (Kd.R_reads' HO_270002.out).2.1); (case side5 => exact rc_ (Kd.R_reads' HO_249000.out).2.2); (case side6 => exact (Kd.R_reads' HO_249000.out).2.1); (case side7 => exact rc_ (Kd.R_reads' HO_249002.out).2.2); (case side8 => exact (Kd.R_reads' HO_249002.out).2.1); rintro e w129 ⟨rfl, hb⟩; replace HO_249000 := Aside0.mk (Kd.R_below (fr_ HO_249000.out) hb); replace HO_249002 := Aside0.mk (Kd.R_below (fr_ HO_249002.out) hb); replace HO_257000 := Aside0.mk (Kd.R_below (fr_ HO_257000.out) hb); replace HO_257002 := Aside0.mk (Kd.R_below (fr_ HO_257002.out) hb); replace HO_270000 := Aside0.mk (Kd.R_below (fr_ HO_270000.out) hb); replace HO_270002 := Aside0.mk (Kd.R_below (fr_ HO_270002.out) hb); replace HO273 := Aside0.mk (Kd.R_below (fr_ HO273.out) hb); replace HO277 := Aside0.mk (Kd.R_below (fr_ HO277.out) hb); replace BK225 := Aside0.mk (bb_ BK225.out hb); replace BK226 := Aside0.mk (bb_ BK226.out hb); replace BK248 := Aside0.mk (bb_ BK248.out hb); replace BK256 := Aside0.mk (bb_ BK256.out hb); replace BK269 := Aside0.mk (bb_ BK269.out hb); replace HB := Aside0.mk (below_step (bel_ HB.out) hb); (try clear hb); (try clear hb2); (try clear hk); (try clear hi)))
    go_meet
    case rel => exact ⟨_, (true), rl_, H', ⟨by have := HJ25.out; first | omega | exact Nat.le_refl _⟩, ⟨rn_ HO_249000.out (fun _ hk => ⟨hk.1, ⟨hk.2.1, ⟨hk.2.2.1, ⟨hk.2.2.2.1, hk.2.2.2.2.1⟩⟩⟩⟩)⟩, ⟨rn_ HO_249002.out (fun _ hk => ⟨hk.1, ⟨hk.2.1, ⟨hk.2.2.1, ⟨hk.2.2.2.1, hk.2.2.2.2.1⟩⟩⟩⟩)⟩, ⟨rn_ HO_257000.out (fun _ hk => ⟨hk.1.1.1, ⟨hk.1.1.2.1, ⟨hk.1.1.2.2.1, ⟨hk.1.1.2.2.2.1, hk.1.1.2.2.2.2⟩⟩⟩⟩)⟩, ⟨rn_ HO_257002.out (fun _ hk => ⟨hk.1.1.1, ⟨hk.1.1.2.1, ⟨hk.1.1.2.2.1, ⟨hk.1.1.2.2.2.1, hk.1.1.2.2.2.2⟩⟩⟩⟩)⟩, ⟨rn_ HO_270000.out (fun _ hk => ⟨hk.1, ⟨hk.2.1, ⟨hk.2.2.1, ⟨hk.2.2.2.1, hk.2.2.2.2.1⟩⟩⟩⟩)⟩, ⟨rn_ HO_270002.out (fun _ hk => ⟨hk.1, ⟨hk.2.1, ⟨hk.2.2.1, ⟨hk.2.2.2.1, hk.2.2.2.2.1⟩⟩⟩⟩)⟩, ⟨fb_ BK225.out⟩, ⟨fb_ BK226.out⟩, ⟨fb_ BK248.out⟩, ⟨fb_ BK256.out⟩, ⟨fb_ BK269.out⟩, ⟨bel_ HB.out⟩⟩
   case rest =>
   clear HC95
   try clear c12
   try clear c90
   try clear c93
   try clear hcz105_0
   try clear hcz105_1
   try clear hcz105_2
   try clear hfz105_0
   try clear hfz105_1
   try clear hfz105_2
   obtain ⟨kq, x76_94, rfl, HA, HJ94, HO_249000, HO_249002, HO_257000, HO_257002, HO_270000, HO_270002, BK225, BK226, BK248, BK256, BK269, HB⟩ := hcut
   have hl257000_94 := (Kd.R_reads' HO_257000.out).1
   rw [hl257000_94] at HO_257000
   (try simp only [hl257000_94])
   (try simp only [hl257000_94] at BK225)
   (try simp only [hl257000_94] at BK226)
   (try simp only [hl257000_94] at BK248)
   (try simp only [hl257000_94] at BK256)
   (try simp only [hl257000_94] at BK269)
   (try simp only [hl257000_94] at HO_249000)
   (try simp only [hl257000_94] at HO_249002)
   (try simp only [hl257000_94] at HO_257002)
   (try simp only [hl257000_94] at HO_270000)
   (try simp only [hl257000_94] at HO_270002)
   have hl257002_94 := (Kd.R_reads' HO_257002.out).1
   rw [hl257002_94] at HO_257002
   (try simp only [hl257002_94])
   (try simp only [hl257002_94] at BK225)
   (try simp only [hl257002_94] at BK226)
   (try simp only [hl257002_94] at BK248)
   (try simp only [hl257002_94] at BK256)
   (try simp only [hl257002_94] at BK269)
   (try simp only [hl257002_94] at HO_249000)
   (try simp only [hl257002_94] at HO_249002)
   (try simp only [hl257002_94] at HO_257000)
   (try simp only [hl257002_94] at HO_270000)
   (try simp only [hl257002_94] at HO_270002)
   cases kq with
   | zero => exact absurd HA.out (by simp [laws_FnExactTake21.j1])
   | succ kj94 =>
    have H := HA.out
    clear HA
    simp only [laws_FnExactTake21.j1] at H
    by_cases c130 : x76_94 = true
    ·subst c130
     have H1 : (some false) = some r := by rw [if_pos rfl] at H; exact H
     clear H
     have H := H1
     clear H1
     obtain rfl := Option.some.inj H
     go_wp2
     go_ret
     exact ⟨by first | rfl | (simp [errW_none, errW_some] <;> rfl) | (simp [*, errW_none, errW_some] <;> rfl), bel_ HB.out⟩
    case neg =>
    replace c130 := Bool.eq_false_iff.mpr c130
    subst c130
    have H1 : ((laws_markParty.f kj94 t261 t264 t265 1).bind fun bt283 => ((laws_heldParty.f kj94 bt283.2.1 t264 bt283.2.2 1).bind fun t286 => (if t286 < 0 then (some false) else (if t286 = bt283.1 then ((laws_toParty.f kj94 l0_0 a0_1 l0_2).bind fun bt287 => ((laws_toPost.f a2_0 a2_1 a2_2 a2_3).bind fun bt294 => ((impl_Take21.f kj94 bt287.1 bt287.2.1 bt287.2.2 a1 bt294.1 bt294.2.1 bt294.2.2.1 bt294.2.2.2).bind fun bt298 => ((laws_eqParty.f kj94 bt298.1 bt298.2.1 bt298.2.2.1 t240 t243 t244).bind fun t307 => (if t307 = true then (laws_FnExactTake21.j2 kj94 bt283.1 (bt298.2.2.2 != t247) bt283.2.1 t264 bt283.2.2) else (laws_FnExactTake21.j2 kj94 bt283.1 true bt283.2.1 t264 bt283.2.2)))))) else (some false))))) = some r := by rw [if_neg (show ¬ (false = true) by decide)] at H; exact H
    clear H
    have H := H1
    clear H1; replace H := Option.bind_eq_some_iff.mp H
    obtain ⟨⟨t283, t284, t285⟩, A1310, H⟩ := H
    replace H : ((laws_heldParty.f kj94 t284 t264 t285 1).bind fun t286 => (if t286 < 0 then (some false) else (if t286 = t283 then ((laws_toParty.f kj94 l0_0 a0_1 l0_2).bind fun bt287 => ((laws_toPost.f a2_0 a2_1 a2_2 a2_3).bind fun bt294 => ((impl_Take21.f kj94 bt287.1 bt287.2.1 bt287.2.2 a1 bt294.1 bt294.2.1 bt294.2.2.1 bt294.2.2.2).bind fun bt298 => ((laws_eqParty.f kj94 bt298.1 bt298.2.1 bt298.2.2.1 t240 t243 t244).bind fun t307 => (if t307 = true then (laws_FnExactTake21.j2 kj94 t283 (bt298.2.2.2 != t247) t284 t264 t285) else (laws_FnExactTake21.j2 kj94 t283 true t284 t264 t285)))))) else (some false)))) = some r := H
    have A131 := Aside0.mk A1310
    clear A1310; replace H := Option.bind_eq_some_iff.mp H
    obtain ⟨t286, A1320, H⟩ := H
    replace H : (if t286 < 0 then (some false) else (if t286 = t283 then ((laws_toParty.f kj94 l0_0 a0_1 l0_2).bind fun bt287 => ((laws_toPost.f a2_0 a2_1 a2_2 a2_3).bind fun bt294 => ((impl_Take21.f kj94 bt287.1 bt287.2.1 bt287.2.2 a1 bt294.1 bt294.2.1 bt294.2.2.1 bt294.2.2.2).bind fun bt298 => ((laws_eqParty.f kj94 bt298.1 bt298.2.1 bt298.2.2.1 t240 t243 t244).bind fun t307 => (if t307 = true then (laws_FnExactTake21.j2 kj94 t283 (bt298.2.2.2 != t247) t284 t264 t285) else (laws_FnExactTake21.j2 kj94 t283 true t284 t264 t285)))))) else (some false))) = some r := H
    have A132 := Aside0.mk A1320
    clear A1320
    by_cases c133 : t286 < 0
    ·rw [if_pos c133] at H
     have c133b0 : decide (t286 < 0) = true := decide_eq_true c133
     clear c133
     obtain rfl := Option.some.inj H
     have hnb134 := NB269_225.out; have hnc134 := NB225_269.out; have hnb135 := NB269_226.out; have hnc135 := NB226_269.out; have hnb136 := NB269_248.out; have hnc136 := NB248_269.out; have hnb137 := NB269_256.out; have hnc137 := NB256_269.out; have hcz138_0 : wc.cell? ⟨gb269, 0, none⟩ = some (.slice Ao63 t261.length co63) := bc_ BK269.out 0; have hcz138_1 : wc.cell? ⟨gb269, 1, none⟩ = some (.int .i64 t264) := bc_ BK269.out 1; have hcz138_2 : wc.cell? ⟨gb269, 2, none⟩ = some (.slice Ao66 t265.length co66) := bc_ BK269.out 2; have hfz138_0 := blk_frozen BK269.out 0; have hfz138_1 := blk_frozen BK269.out 1; have hfz138_2 := blk_frozen BK269.out 2
     go_wp2_with (first | ((with_reducible refine gate_callee (f := 21) rfl ?_); refine goesL_ (some 79) rfl rfl Try.func21 (by kernel_rfl) rfl #[.agg #[.slice Ao63 t261.length co63, .int .i64 t264, .slice Ao66 t265.length co66], .int .i64 1] rfl ml_ ?_; (with_reducible refine (laws_markParty.calls kj94 (fun k_ => some k_ = (.slice Ao63 t261.length co63 : Value).ownBlock) (.slice Ao63 t261.length co63) t261 t264 (fun k_ => some k_ = (.slice Ao66 t265.length co66 : Value).ownBlock) (.slice Ao66 t265.length co66) t265 1 t283 t284 t285 w _ ?side1 ?side2 ?side3 ?side4 ?side5 A131.out).mono ?_); (case side1 => repeat (first | (with_reducible first | exact HB.out | apply below_alloc | apply pw_below_drewN | apply below_drew1 | refine below_set ?_ GE225.out | refine below_set ?_ GE226.out | refine below_set ?_ GE248.out | refine below_set ?_ GE256.out | refine below_set ?_ GE269.out) | exact HB.out)); (case side2 => exact Kd.R_tight rfl HO_270000.out); (case side3 => exact fun k_ e_ => (HO_270000.out.1 k_ e_.symm).2.2.2.2); (case side4 => exact Kd.R_tight rfl HO_270002.out); (case side5 => exact fun k_ e_ => (HO_270002.out.1 k_ e_.symm).2.2.2.2); rintro e w139 ⟨rfl, hy0, hy1, hb, hkp⟩; refine ⟨_, rfl, ?_⟩; replace HO_249000 := Aside0.mk (Kd.R_mono (ok' := fun k_ => nB_ (.slice Ao45 t244.length co45) k_ ∧ nB_ (.slice Ao51 t280.length co51) k_ ∧ nB_ (.slice Ao56 t281.length co56) k_ ∧ nB_ (.slice Ao63 t261.length co63) k_ ∧ nB_ (.slice Ao66 t265.length co66) k_) (Kd.R_keptB (HO_249000.out) hkp (fun k_ hk_ hs_ => Or.elim hs_ (fun e_ => (hk_.2.2.2.1) e_) (fun e_ => (hk_.2.2.2.2) e_))) (fun k_ hk_ => ⟨hk_.1.1, hk_.1.2.1, hk_.1.2.2.1, hk_.1.2.2.2.1, hk_.1.2.2.2.2⟩)); replace HO_249002 := Aside0.mk (Kd.R_mono (ok' := fun k_ => nB_ (.slice Ao42 t240.length co42) k_ ∧ nB_ (.slice Ao51 t280.length co51) k_ ∧ nB_ (.slice Ao56 t281.length co56) k_ ∧ nB_ (.slice Ao63 t261.length co63) k_ ∧ nB_ (.slice Ao66 t265.length co66) k_) (Kd.R_keptB (HO_249002.out) hkp (fun k_ hk_ hs_ => Or.elim hs_ (fun e_ => (hk_.2.2.2.1) e_) (fun e_ => (hk_.2.2.2.2) e_))) (fun k_ hk_ => ⟨hk_.1.1, hk_.1.2.1, hk_.1.2.2.1, hk_.1.2.2.2.1, hk_.1.2.2.2.2⟩)); replace HO_257000 := Aside0.mk (Kd.R_mono (ok' := fun k_ => nB_ (.slice Ao42 t240.length co42) k_ ∧ nB_ (.slice Ao45 t244.length co45) k_ ∧ nB_ (.slice Ao56 t281.length co56) k_ ∧ nB_ (.slice Ao63 t261.length co63) k_ ∧ nB_ (.slice Ao66 t265.length co66) k_) (Kd.R_keptB (HO_257000.out) hkp (fun k_ hk_ hs_ => Or.elim hs_ (fun e_ => (hk_.2.2.2.1) e_) (fun e_ => (hk_.2.2.2.2) e_))) (fun k_ hk_ => ⟨hk_.1.1, hk_.1.2.1, hk_.1.2.2.1, hk_.1.2.2.2.1, hk_.1.2.2.2.2⟩)); replace HO_257002 := Aside0.mk (Kd.R_mono (ok' := fun k_ => nB_ (.slice Ao42 t240.length co42) k_ ∧ nB_ (.slice Ao45 t244.length co45) k_ ∧ nB_ (.slice Ao51 t280.length co51) k_ ∧ nB_ (.slice Ao63 t261.length co63) k_ ∧ nB_ (.slice Ao66 t265.length co66) k_) (Kd.R_keptB (HO_257002.out) hkp (fun k_ hk_ hs_ => Or.elim hs_ (fun e_ => (hk_.2.2.2.1) e_) (fun e_ => (hk_.2.2.2.2) e_))) (fun k_ hk_ => ⟨hk_.1.1, hk_.1.2.1, hk_.1.2.2.1, hk_.1.2.2.2.1, hk_.1.2.2.2.2⟩)); replace BK225 := Aside0.mk (blk_kept (fb_ BK225.out) hkp (fun hs_ => Or.elim hs_ (fun e_ => (fun e_ => (Kd.R_ne HO_270000.out BK225.out (by decide)) e_) e_) (fun e_ => (fun e_ => (Kd.R_ne HO_270002.out BK225.out (by decide)) e_) e_))); replace BK226 := Aside0.mk (blk_kept (fb_ BK226.out) hkp (fun hs_ => Or.elim hs_ (fun e_ => (fun e_ => (Kd.R_ne HO_270000.out BK226.out (by decide)) e_) e_) (fun e_ => (fun e_ => (Kd.R_ne HO_270002.out BK226.out (by decide)) e_) e_))); replace BK248 := Aside0.mk (blk_kept (fb_ BK248.out) hkp (fun hs_ => Or.elim hs_ (fun e_ => (fun e_ => (Kd.R_ne HO_270000.out BK248.out (by decide)) e_) e_) (fun e_ => (fun e_ => (Kd.R_ne HO_270002.out BK248.out (by decide)) e_) e_))); replace BK256 := Aside0.mk (blk_kept (fb_ BK256.out) hkp (fun hs_ => Or.elim hs_ (fun e_ => (fun e_ => (Kd.R_ne HO_270000.out BK256.out (by decide)) e_) e_) (fun e_ => (fun e_ => (Kd.R_ne HO_270002.out BK256.out (by decide)) e_) e_))); replace BK269 := Aside0.mk (blk_kept (fb_ BK269.out) hkp (fun hs_ => Or.elim hs_ (fun e_ => (fun e_ => (Kd.R_ne HO_270000.out BK269.out (by decide)) e_) e_) (fun e_ => (fun e_ => (Kd.R_ne HO_270002.out BK269.out (by decide)) e_) e_))); replace HO_270000 := Aside0.mk (Kd.R_reok rfl hy0 (fun k_ e_ => HO_270000.out.1 k_ e_)); replace HO_270002 := Aside0.mk (Kd.R_reok rfl hy1 (fun k_ e_ => HO_270002.out.1 k_ e_)); replace HB := Aside0.mk (hb); (try clear hb); (try clear hkp); (try clear hy0); (try clear hy1); have hcz140_0 : w139.cell? ⟨gb269, 0, none⟩ = some (.slice Ao63 t261.length co63) := bc_ BK269.out 0; have hcz140_1 : w139.cell? ⟨gb269, 1, none⟩ = some (.int .i64 t264) := bc_ BK269.out 1; have hcz140_2 : w139.cell? ⟨gb269, 2, none⟩ = some (.slice Ao66 t265.length co66) := bc_ BK269.out 2; have hfz140_0 := blk_frozen BK269.out 0; have hfz140_1 := blk_frozen BK269.out 1; have hfz140_2 := blk_frozen BK269.out 2) | ((with_reducible refine gate_callee (f := 22) rfl ?_); refine goesL_ (some 82) rfl rfl Try.func22 (by kernel_rfl) rfl #[.agg #[.slice Ao63 t284.length co63, .int .i64 t264, .slice Ao66 t285.length co66], .int .i64 1] rfl (by (try simp only [List.map_toArray, List.map_cons, List.map_nil]); first | done | (rw [show t284.length = t261.length from (Kd.R_reads' HO_270000.out).1.symm, show t285.length = t265.length from (Kd.R_reads' HO_270002.out).1.symm] <;> rfl) | rfl | (simp only [List.length_drop, List.length_take]; rfl)) ?_; (with_reducible refine (laws_heldParty.calls kj94 _ _ t284 t264 _ _ t285 1 t286 _ ?side1 ?side2 ?side3 ?side4 A132.out).mono ?_); (case side1 => exact rc_ (Kd.R_reads' HO_270000.out).2.2); (case side2 => rw [show t284.length = t261.length from (Kd.R_reads' HO_270000.out).1.symm]; exact (Kd.R_reads' HO_270000.out).2.1); (case side3 => exact rc_ (Kd.R_reads' HO_270002.out).2.2); (case side4 => rw [show t285.length = t265.length from (Kd.R_reads' HO_270002.out).1.symm]; exact (Kd.R_reads' HO_270002.out).2.1); rintro e w141 ⟨rfl, hb⟩; refine ⟨_, rfl, ?_⟩; replace HO_249000 := Aside0.mk (Kd.R_below (fr_ HO_249000.out) hb); replace HO_249002 := Aside0.mk (Kd.R_below (fr_ HO_249002.out) hb); replace HO_257000 := Aside0.mk (Kd.R_below (fr_ HO_257000.out) hb); replace HO_257002 := Aside0.mk (Kd.R_below (fr_ HO_257002.out) hb); replace HO_270000 := Aside0.mk (Kd.R_below (fr_ HO_270000.out) hb); replace HO_270002 := Aside0.mk (Kd.R_below (fr_ HO_270002.out) hb); replace BK225 := Aside0.mk (bb_ BK225.out hb); replace BK226 := Aside0.mk (bb_ BK226.out hb); replace BK248 := Aside0.mk (bb_ BK248.out hb); replace BK256 := Aside0.mk (bb_ BK256.out hb); replace BK269 := Aside0.mk (bb_ BK269.out hb); replace HB := Aside0.mk (below_step (bel_ HB.out) hb); (try clear hb); (try clear hb2); (try clear hk); (try clear hi)))
     go_ret
     exact ⟨by first | rfl | (simp [errW_none, errW_some] <;> rfl) | (simp [*, errW_none, errW_some] <;> rfl), bel_ HB.out⟩
    case neg =>
    rw [if_neg c133] at H
    have c133b0 : decide (t286 < 0) = false := decide_eq_false c133
    clear c133
    by_cases c142 : t286 = t283
    ·rw [if_pos c142] at H
     have c142b0 : (t286 == t283) = true := beq_iff_eq.mpr c142
     have c142b1 : (t286 != t283) = false := bne_eq_false_iff_eq.mpr c142
     clear c142; replace H := Option.bind_eq_some_iff.mp H
     obtain ⟨⟨t287, t290, t291⟩, A1430, H⟩ := H
     replace H : ((laws_toPost.f a2_0 a2_1 a2_2 a2_3).bind fun bt294 => ((impl_Take21.f kj94 t287 t290 t291 a1 bt294.1 bt294.2.1 bt294.2.2.1 bt294.2.2.2).bind fun bt298 => ((laws_eqParty.f kj94 bt298.1 bt298.2.1 bt298.2.2.1 t240 t243 t244).bind fun t307 => (if t307 = true then (laws_FnExactTake21.j2 kj94 t283 (bt298.2.2.2 != t247) t284 t264 t285) else (laws_FnExactTake21.j2 kj94 t283 true t284 t264 t285))))) = some r := H
     have A143 := Aside0.mk A1430
     clear A1430; replace H := Option.bind_eq_some_iff.mp H
     obtain ⟨⟨t294, t295, t296, t297⟩, A1440, H⟩ := H
     replace H : ((impl_Take21.f kj94 t287 t290 t291 a1 t294 t295 t296 t297).bind fun bt298 => ((laws_eqParty.f kj94 bt298.1 bt298.2.1 bt298.2.2.1 t240 t243 t244).bind fun t307 => (if t307 = true then (laws_FnExactTake21.j2 kj94 t283 (bt298.2.2.2 != t247) t284 t264 t285) else (laws_FnExactTake21.j2 kj94 t283 true t284 t264 t285)))) = some r := H
     have A144 := Aside0.mk A1440
     clear A1440; replace H := Option.bind_eq_some_iff.mp H
     obtain ⟨⟨t298, t301, t302, t305⟩, A1450, H⟩ := H
     replace H : ((laws_eqParty.f kj94 t298 t301 t302 t240 t243 t244).bind fun t307 => (if t307 = true then (laws_FnExactTake21.j2 kj94 t283 (t305 != t247) t284 t264 t285) else (laws_FnExactTake21.j2 kj94 t283 true t284 t264 t285))) = some r := H
     have A145 := Aside0.mk A1450
     clear A1450
     have HC146 := Aside0.mk H
     clear H; have hnb147 := NB269_225.out; have hnc147 := NB225_269.out; have hnb148 := NB269_226.out; have hnc148 := NB226_269.out; have hnb149 := NB269_248.out; have hnc149 := NB248_269.out; have hnb150 := NB269_256.out; have hnc150 := NB256_269.out; have hcz151_0 : wc.cell? ⟨gb269, 0, none⟩ = some (.slice Ao63 t261.length co63) := bc_ BK269.out 0; have hcz151_1 : wc.cell? ⟨gb269, 1, none⟩ = some (.int .i64 t264) := bc_ BK269.out 1; have hcz151_2 : wc.cell? ⟨gb269, 2, none⟩ = some (.slice Ao66 t265.length co66) := bc_ BK269.out 2; have hfz151_0 := blk_frozen BK269.out 0; have hfz151_1 := blk_frozen BK269.out 1; have hfz151_2 := blk_frozen BK269.out 2
     try go_wp2_with (first | ((with_reducible refine gate_callee (f := 21) rfl ?_); refine goesL_ (some 79) rfl rfl Try.func21 (by kernel_rfl) rfl #[.agg #[.slice Ao63 t261.length co63, .int .i64 t264, .slice Ao66 t265.length co66], .int .i64 1] rfl ml_ ?_; (with_reducible refine (laws_markParty.calls kj94 (fun k_ => some k_ = (.slice Ao63 t261.length co63 : Value).ownBlock) (.slice Ao63 t261.length co63) t261 t264 (fun k_ => some k_ = (.slice Ao66 t265.length co66 : Value).ownBlock) (.slice Ao66 t265.length co66) t265 1 t283 t284 t285 w _ ?side1 ?side2 ?side3 ?side4 ?side5 A131.out).mono ?_); (case side1 => repeat (first | (with_reducible first | exact HB.out | apply below_alloc | apply pw_below_drewN | apply below_drew1 | refine below_set ?_ GE225.out | refine below_set ?_ GE226.out | refine below_set ?_ GE248.out | refine below_set ?_ GE256.out | refine below_set ?_ GE269.out) | exact HB.out)); (case side2 => exact Kd.R_tight rfl HO_270000.out); (case side3 => exact fun k_ e_ => (HO_270000.out.1 k_ e_.symm).2.2.2.2); (case side4 => exact Kd.R_tight rfl HO_270002.out); (case side5 => exact fun k_ e_ => (HO_270002.out.1 k_ e_.symm).2.2.2.2); rintro e w152 ⟨rfl, hy0, hy1, hb, hkp⟩; refine ⟨_, rfl, ?_⟩; replace HO_249000 := Aside0.mk (Kd.R_mono (ok' := fun k_ => nB_ (.slice Ao45 t244.length co45) k_ ∧ nB_ (.slice Ao51 t280.length co51) k_ ∧ nB_ (.slice Ao56 t281.length co56) k_ ∧ nB_ (.slice Ao63 t261.length co63) k_ ∧ nB_ (.slice Ao66 t265.length co66) k_) (Kd.R_keptB (HO_249000.out) hkp (fun k_ hk_ hs_ => Or.elim hs_ (fun e_ => (hk_.2.2.2.1) e_) (fun e_ => (hk_.2.2.2.2) e_))) (fun k_ hk_ => ⟨hk_.1.1, hk_.1.2.1, hk_.1.2.2.1, hk_.1.2.2.2.1, hk_.1.2.2.2.2⟩)); replace HO_249002 := Aside0.mk (Kd.R_mono (ok' := fun k_ => nB_ (.slice Ao42 t240.length co42) k_ ∧ nB_ (.slice Ao51 t280.length co51) k_ ∧ nB_ (.slice Ao56 t281.length co56) k_ ∧ nB_ (.slice Ao63 t261.length co63) k_ ∧ nB_ (.slice Ao66 t265.length co66) k_) (Kd.R_keptB (HO_249002.out) hkp (fun k_ hk_ hs_ => Or.elim hs_ (fun e_ => (hk_.2.2.2.1) e_) (fun e_ => (hk_.2.2.2.2) e_))) (fun k_ hk_ => ⟨hk_.1.1, hk_.1.2.1, hk_.1.2.2.1, hk_.1.2.2.2.1, hk_.1.2.2.2.2⟩)); replace HO_257000 := Aside0.mk (Kd.R_mono (ok' := fun k_ => nB_ (.slice Ao42 t240.length co42) k_ ∧ nB_ (.slice Ao45 t244.length co45) k_ ∧ nB_ (.slice Ao56 t281.length co56) k_ ∧ nB_ (.slice Ao63 t261.length co63) k_ ∧ nB_ (.slice Ao66 t265.length co66) k_) (Kd.R_keptB (HO_257000.out) hkp (fun k_ hk_ hs_ => Or.elim hs_ (fun e_ => (hk_.2.2.2.1) e_) (fun e_ => (hk_.2.2.2.2) e_))) (fun k_ hk_ => ⟨hk_.1.1, hk_.1.2.1, hk_.1.2.2.1, hk_.1.2.2.2.1, hk_.1.2.2.2.2⟩)); replace HO_257002 := Aside0.mk (Kd.R_mono (ok' := fun k_ => nB_ (.slice Ao42 t240.length co42) k_ ∧ nB_ (.slice Ao45 t244.length co45) k_ ∧ nB_ (.slice Ao51 t280.length co51) k_ ∧ nB_ (.slice Ao63 t261.length co63) k_ ∧ nB_ (.slice Ao66 t265.length co66) k_) (Kd.R_keptB (HO_257002.out) hkp (fun k_ hk_ hs_ => Or.elim hs_ (fun e_ => (hk_.2.2.2.1) e_) (fun e_ => (hk_.2.2.2.2) e_))) (fun k_ hk_ => ⟨hk_.1.1, hk_.1.2.1, hk_.1.2.2.1, hk_.1.2.2.2.1, hk_.1.2.2.2.2⟩)); replace BK225 := Aside0.mk (blk_kept (fb_ BK225.out) hkp (fun hs_ => Or.elim hs_ (fun e_ => (fun e_ => (Kd.R_ne HO_270000.out BK225.out (by decide)) e_) e_) (fun e_ => (fun e_ => (Kd.R_ne HO_270002.out BK225.out (by decide)) e_) e_))); replace BK226 := Aside0.mk (blk_kept (fb_ BK226.out) hkp (fun hs_ => Or.elim hs_ (fun e_ => (fun e_ => (Kd.R_ne HO_270000.out BK226.out (by decide)) e_) e_) (fun e_ => (fun e_ => (Kd.R_ne HO_270002.out BK226.out (by decide)) e_) e_))); replace BK248 := Aside0.mk (blk_kept (fb_ BK248.out) hkp (fun hs_ => Or.elim hs_ (fun e_ => (fun e_ => (Kd.R_ne HO_270000.out BK248.out (by decide)) e_) e_) (fun e_ => (fun e_ => (Kd.R_ne HO_270002.out BK248.out (by decide)) e_) e_))); replace BK256 := Aside0.mk (blk_kept (fb_ BK256.out) hkp (fun hs_ => Or.elim hs_ (fun e_ => (fun e_ => (Kd.R_ne HO_270000.out BK256.out (by decide)) e_) e_) (fun e_ => (fun e_ => (Kd.R_ne HO_270002.out BK256.out (by decide)) e_) e_))); replace BK269 := Aside0.mk (blk_kept (fb_ BK269.out) hkp (fun hs_ => Or.elim hs_ (fun e_ => (fun e_ => (Kd.R_ne HO_270000.out BK269.out (by decide)) e_) e_) (fun e_ => (fun e_ => (Kd.R_ne HO_270002.out BK269.out (by decide)) e_) e_))); replace HO_270000 := Aside0.mk (Kd.R_reok rfl hy0 (fun k_ e_ => HO_270000.out.1 k_ e_)); replace HO_270002 := Aside0.mk (Kd.R_reok rfl hy1 (fun k_ e_ => HO_270002.out.1 k_ e_)); replace HB := Aside0.mk (hb); (try clear hb); (try clear hkp); (try clear hy0); (try clear hy1); have hcz153_0 : w152.cell? ⟨gb269, 0, none⟩ = some (.slice Ao63 t261.length co63) := bc_ BK269.out 0; have hcz153_1 : w152.cell? ⟨gb269, 1, none⟩ = some (.int .i64 t264) := bc_ BK269.out 1; have hcz153_2 : w152.cell? ⟨gb269, 2, none⟩ = some (.slice Ao66 t265.length co66) := bc_ BK269.out 2; have hfz153_0 := blk_frozen BK269.out 0; have hfz153_1 := blk_frozen BK269.out 1; have hfz153_2 := blk_frozen BK269.out 2) | ((with_reducible refine gate_callee (f := 22) rfl ?_); refine goesL_ (some 82) rfl rfl Try.func22 (by kernel_rfl) rfl #[.agg #[.slice Ao63 t284.length co63, .int .i64 t264, .slice Ao66 t285.length co66], .int .i64 1] rfl (by (try simp only [List.map_toArray, List.map_cons, List.map_nil]); first | done | (rw [show t284.length = t261.length from (Kd.R_reads' HO_270000.out).1.symm, show t285.length = t265.length from (Kd.R_reads' HO_270002.out).1.symm] <;> rfl) | rfl | (simp only [List.length_drop, List.length_take]; rfl)) ?_; (with_reducible refine (laws_heldParty.calls kj94 _ _ t284 t264 _ _ t285 1 t286 _ ?side1 ?side2 ?side3 ?side4 A132.out).mono ?_); (case side1 => exact rc_ (Kd.R_reads' HO_270000.out).2.2); (case side2 => rw [show t284.length = t261.length from (Kd.R_reads' HO_270000.out).1.symm]; exact (Kd.R_reads' HO_270000.out).2.1); (case side3 => exact rc_ (Kd.R_reads' HO_270002.out).2.2); (case side4 => rw [show t285.length = t265.length from (Kd.R_reads' HO_270002.out).1.symm]; exact (Kd.R_reads' HO_270002.out).2.1); rintro e w154 ⟨rfl, hb⟩; refine ⟨_, rfl, ?_⟩; replace HO_249000 := Aside0.mk (Kd.R_below (fr_ HO_249000.out) hb); replace HO_249002 := Aside0.mk (Kd.R_below (fr_ HO_249002.out) hb); replace HO_257000 := Aside0.mk (Kd.R_below (fr_ HO_257000.out) hb); replace HO_257002 := Aside0.mk (Kd.R_below (fr_ HO_257002.out) hb); replace HO_270000 := Aside0.mk (Kd.R_below (fr_ HO_270000.out) hb); replace HO_270002 := Aside0.mk (Kd.R_below (fr_ HO_270002.out) hb); replace BK225 := Aside0.mk (bb_ BK225.out hb); replace BK226 := Aside0.mk (bb_ BK226.out hb); replace BK248 := Aside0.mk (bb_ BK248.out hb); replace BK256 := Aside0.mk (bb_ BK256.out hb); replace BK269 := Aside0.mk (bb_ BK269.out hb); replace HB := Aside0.mk (below_step (bel_ HB.out) hb); (try clear hb); (try clear hb2); (try clear hk); (try clear hi)))
     replace HO_249000 := Aside0.mk (Kd.R_drew HO_249000.out); replace HO_249002 := Aside0.mk (Kd.R_drew HO_249002.out); replace HO_257000 := Aside0.mk (Kd.R_drew HO_257000.out); replace HO_257002 := Aside0.mk (Kd.R_drew HO_257002.out); replace HO_270000 := Aside0.mk (Kd.R_drew HO_270000.out); replace HO_270002 := Aside0.mk (Kd.R_drew HO_270002.out); replace BK225 := Aside0.mk (blk_drew BK225.out); replace BK226 := Aside0.mk (blk_drew BK226.out); replace BK248 := Aside0.mk (blk_drew BK248.out); replace BK256 := Aside0.mk (blk_drew BK256.out); replace BK269 := Aside0.mk (blk_drew BK269.out); replace HB := Aside0.mk (below_drew1 HB.out)
     refine start_ (n := 12) (S := fun w' => w'.cell? ⟨gb225, 0, none⟩ = some (.slice A0_0 l0_0.length c0_0) ∧ w'.cell? ⟨gb225, 1, none⟩ = some (.int .i64 a0_1) ∧ w'.cell? ⟨gb225, 2, none⟩ = some (.slice A0_2 l0_2.length c0_2) ∧ w'.cell? ⟨gb226, 0, none⟩ = some (.int .i64 a2_0) ∧ w'.cell? ⟨gb226, 1, none⟩ = some (.int .i64 a2_1) ∧ w'.cell? ⟨gb226, 2, none⟩ = some (.int .i64 a2_2) ∧ w'.cell? ⟨gb226, 3, none⟩ = some (.string a2_3)) (ds := []) (bs 12 0) (by kernel_rfl) rfl rfl ⟨bc_ BK225.out 0, bc_ BK225.out 1, bc_ BK225.out 2, bc_ BK226.out 0, bc_ BK226.out 1, bc_ BK226.out 2, bc_ BK226.out 3⟩ (fun hHeld => ?_); refine with_tabW laws_FnExactTake21.tab27 laws_FnExactTake21.bits27 (fun HT_ HW_ => ?_)
     generalize w154.drew = w155 at HO_249000 HO_249002 HO_257000 HO_257002 HO_270000 HO_270002 BK225 BK226 BK248 BK256 BK269 HB hHeld ⊢
     refine pu_ 2 91 HT_ (bs 12 4) rfl rfl ?_
     refine take_ (i := 0) (N := some 89) (v := ?_) (a' := ?_) (bs 12 5) rfl rfl (take_ofW HT_.out HW_.out (by kernel_rfl)) (fun _ _ _ h => h) (Or.inl ⟨by rfl, ?_⟩) hHeld ?_ ?_
     rotate_left
     ·rintro w' ⟨s0, s1, s2, s3, s4, s5, s6⟩
      go_simp
      with_reducible rfl
     rotate_left
     ·simp only [Act.put, sA_, sZ_, sS_, i64_w, i32_w]
      rfl
     refine take_ (i := 3) (N := some 92) (v := ?_) (a' := ?_) (bs 12 13) rfl rfl (take_ofW HT_.out HW_.out (by kernel_rfl)) (fun _ _ _ h => h) (Or.inl ⟨by rfl, ?_⟩) hHeld ?_ ?_
     rotate_left
     ·rintro w' ⟨s0, s1, s2, s3, s4, s5, s6⟩
      go_simp
      with_reducible rfl
     rotate_left
     ·simp only [Act.put, sA_, sZ_, sS_, i64_w, i32_w]
      rfl
     refine join_ (σ := Value × Value × Value × Value × Nat) 2 (bs 12 1023) (fun s_ => [(90, .agg #[s_.1, .int .i64 t290, s_.2.1]), (93, .agg #[.int .i64 t294, .int .i64 t295, .int .i64 t296, .string t297]), (94, .tuple #[.agg #[s_.2.2.1, .int .i64 t301, s_.2.2.2.1], .bool t305]), (16, .pointer (some ⟨s_.2.2.2.2, 0, none⟩)), (88, .tuple #[.agg #[s_.2.2.1, .int .i64 t301, s_.2.2.2.1], .bool t305]), (95, .agg #[s_.2.2.1, .int .i64 t301, s_.2.2.2.1]), (96, .bool t305)]) (fun s_ w' => (w'.cell? ⟨gb225, 0, none⟩ = some (.slice A0_0 l0_0.length c0_0) ∧ w'.cell? ⟨gb225, 1, none⟩ = some (.int .i64 a0_1) ∧ w'.cell? ⟨gb225, 2, none⟩ = some (.slice A0_2 l0_2.length c0_2) ∧ w'.cell? ⟨gb226, 0, none⟩ = some (.int .i64 a2_0) ∧ w'.cell? ⟨gb226, 1, none⟩ = some (.int .i64 a2_1) ∧ w'.cell? ⟨gb226, 2, none⟩ = some (.int .i64 a2_2) ∧ w'.cell? ⟨gb226, 3, none⟩ = some (.string a2_3)) ∧ (Kd.R Kd.string 9 w' w.heap.size (fun k_ => nB_ (s_.2.1) k_ ∧ nB_ (s_.2.2.1) k_ ∧ nB_ (s_.2.2.2.1) k_ ∧ nB_ (.slice Ao42 t240.length co42) k_ ∧ nB_ (.slice Ao45 t244.length co45) k_ ∧ nB_ (.slice Ao51 t280.length co51) k_ ∧ nB_ (.slice Ao56 t281.length co56) k_ ∧ nB_ (.slice Ao63 t261.length co63) k_ ∧ nB_ (.slice Ao66 t265.length co66) k_) s_.1 t287) ∧ (Kd.R Kd.string 9 w' w.heap.size (fun k_ => nB_ (s_.1) k_ ∧ nB_ (s_.2.2.1) k_ ∧ nB_ (s_.2.2.2.1) k_ ∧ nB_ (.slice Ao42 t240.length co42) k_ ∧ nB_ (.slice Ao45 t244.length co45) k_ ∧ nB_ (.slice Ao51 t280.length co51) k_ ∧ nB_ (.slice Ao56 t281.length co56) k_ ∧ nB_ (.slice Ao63 t261.length co63) k_ ∧ nB_ (.slice Ao66 t265.length co66) k_) s_.2.1 t291) ∧ (Kd.R Kd.string 9 w' w.heap.size (fun k_ => nB_ (s_.1) k_ ∧ nB_ (s_.2.1) k_ ∧ nB_ (s_.2.2.2.1) k_ ∧ nB_ (.slice Ao42 t240.length co42) k_ ∧ nB_ (.slice Ao45 t244.length co45) k_ ∧ nB_ (.slice Ao51 t280.length co51) k_ ∧ nB_ (.slice Ao56 t281.length co56) k_ ∧ nB_ (.slice Ao63 t261.length co63) k_ ∧ nB_ (.slice Ao66 t265.length co66) k_) s_.2.2.1 t298) ∧ (Kd.R Kd.string 9 w' w.heap.size (fun k_ => nB_ (s_.1) k_ ∧ nB_ (s_.2.1) k_ ∧ nB_ (s_.2.2.1) k_ ∧ nB_ (.slice Ao42 t240.length co42) k_ ∧ nB_ (.slice Ao45 t244.length co45) k_ ∧ nB_ (.slice Ao51 t280.length co51) k_ ∧ nB_ (.slice Ao56 t281.length co56) k_ ∧ nB_ (.slice Ao63 t261.length co63) k_ ∧ nB_ (.slice Ao66 t265.length co66) k_) s_.2.2.2.1 t302) ∧ (Kd.R Kd.string 9 w' w.heap.size (fun k_ => nB_ (s_.1) k_ ∧ nB_ (s_.2.1) k_ ∧ nB_ (s_.2.2.1) k_ ∧ nB_ (s_.2.2.2.1) k_ ∧ nB_ (.slice Ao45 t244.length co45) k_ ∧ nB_ (.slice Ao51 t280.length co51) k_ ∧ nB_ (.slice Ao56 t281.length co56) k_ ∧ nB_ (.slice Ao63 t261.length co63) k_ ∧ nB_ (.slice Ao66 t265.length co66) k_) (.slice Ao42 t240.length co42) t240) ∧ (Kd.R Kd.string 9 w' w.heap.size (fun k_ => nB_ (s_.1) k_ ∧ nB_ (s_.2.1) k_ ∧ nB_ (s_.2.2.1) k_ ∧ nB_ (s_.2.2.2.1) k_ ∧ nB_ (.slice Ao42 t240.length co42) k_ ∧ nB_ (.slice Ao51 t280.length co51) k_ ∧ nB_ (.slice Ao56 t281.length co56) k_ ∧ nB_ (.slice Ao63 t261.length co63) k_ ∧ nB_ (.slice Ao66 t265.length co66) k_) (.slice Ao45 t244.length co45) t244) ∧ (Kd.R Kd.string 9 w' w.heap.size (fun k_ => nB_ (s_.1) k_ ∧ nB_ (s_.2.1) k_ ∧ nB_ (s_.2.2.1) k_ ∧ nB_ (s_.2.2.2.1) k_ ∧ nB_ (.slice Ao42 t240.length co42) k_ ∧ nB_ (.slice Ao45 t244.length co45) k_ ∧ nB_ (.slice Ao56 t281.length co56) k_ ∧ nB_ (.slice Ao63 t261.length co63) k_ ∧ nB_ (.slice Ao66 t265.length co66) k_) (.slice Ao51 t280.length co51) t280) ∧ (Kd.R Kd.string 9 w' w.heap.size (fun k_ => nB_ (s_.1) k_ ∧ nB_ (s_.2.1) k_ ∧ nB_ (s_.2.2.1) k_ ∧ nB_ (s_.2.2.2.1) k_ ∧ nB_ (.slice Ao42 t240.length co42) k_ ∧ nB_ (.slice Ao45 t244.length co45) k_ ∧ nB_ (.slice Ao51 t280.length co51) k_ ∧ nB_ (.slice Ao63 t261.length co63) k_ ∧ nB_ (.slice Ao66 t265.length co66) k_) (.slice Ao56 t281.length co56) t281) ∧ (Kd.R Kd.string 9 w' w.heap.size (fun k_ => nB_ (s_.1) k_ ∧ nB_ (s_.2.1) k_ ∧ nB_ (s_.2.2.1) k_ ∧ nB_ (s_.2.2.2.1) k_ ∧ nB_ (.slice Ao42 t240.length co42) k_ ∧ nB_ (.slice Ao45 t244.length co45) k_ ∧ nB_ (.slice Ao51 t280.length co51) k_ ∧ nB_ (.slice Ao56 t281.length co56) k_ ∧ nB_ (.slice Ao66 t265.length co66) k_) (.slice Ao63 t261.length co63) t284) ∧ (Kd.R Kd.string 9 w' w.heap.size (fun k_ => nB_ (s_.1) k_ ∧ nB_ (s_.2.1) k_ ∧ nB_ (s_.2.2.1) k_ ∧ nB_ (s_.2.2.2.1) k_ ∧ nB_ (.slice Ao42 t240.length co42) k_ ∧ nB_ (.slice Ao45 t244.length co45) k_ ∧ nB_ (.slice Ao51 t280.length co51) k_ ∧ nB_ (.slice Ao56 t281.length co56) k_ ∧ nB_ (.slice Ao63 t261.length co63) k_) (.slice Ao66 t265.length co66) t285) ∧ (w'.heap[gb225]? = some (.cells #[.slice A0_0 l0_0.length c0_0, .int .i64 a0_1, .slice A0_2 l0_2.length c0_2] 42 (0, 0))) ∧ (w'.heap[gb226]? = some (.cells #[.int .i64 a2_0, .int .i64 a2_1, .int .i64 a2_2, .string a2_3] 50 (0, 0))) ∧ (w'.heap[gb248]? = some (.cells #[.slice Ao42 t240.length co42, .int .i64 t243, .slice Ao45 t244.length co45] 26 (0, 0))) ∧ (w'.heap[gb256]? = some (.cells #[.slice Ao51 t280.length co51, .int .i64 t252, .slice Ao56 t281.length co56] 26 (0, 0))) ∧ (w'.heap[gb269]? = some (.cells #[.slice Ao63 t261.length co63, .int .i64 t264, .slice Ao66 t265.length co66] 26 (0, 0))) ∧ (w'.heap[s_.2.2.2.2]? = some (.cells #[.slice none 0 0, .int .i64 0, .slice none 0 0] 26 (0, 0))) ∧ (w.heap.size ≤ s_.2.2.2.2) ∧ (w.heap.size ≤ s_.2.2.2.2) ∧ (gb225 ≠ s_.2.2.2.2) ∧ (s_.2.2.2.2 ≠ gb225) ∧ (gb226 ≠ s_.2.2.2.2) ∧ (s_.2.2.2.2 ≠ gb226) ∧ (gb248 ≠ s_.2.2.2.2) ∧ (s_.2.2.2.2 ≠ gb248) ∧ (gb256 ≠ s_.2.2.2.2) ∧ (s_.2.2.2.2 ≠ gb256) ∧ (gb269 ≠ s_.2.2.2.2) ∧ (s_.2.2.2.2 ≠ gb269) ∧ (Below w.heap.size w w')) ?_ ?_
     rotate_left
     ·intro hCont
      refine two_ (i := 1) (j := 9) (Ni := some 90) (Nj := some 16) (bs 12 15) (bs 12 525) rfl rfl rfl rfl (two_of HT_.out (by kernel_rfl)) (by decide) (by decide) (fun K hK => ?_) (fun K hK => ?_)
      ·skip
       refine goes_ Try.func17 (by kernel_rfl) rfl #[.agg #[.slice A0_0 l0_0.length c0_0, .int .i64 a0_1, .slice A0_2 l0_2.length c0_2]] (by rfl) rfl rfl ml_ ?_
       with_reducible refine (laws_toParty.calls kj94 _ _ l0_0 a0_1 _ _ l0_2 t287 t290 t291 _ ?side1 ?side2 ?side3 ?side4 A143.out).mono ?_
       (case side1 => exact rc_ (Kd.C_below HR0_0.out HB.out))
       (case side2 => exact HC0_0.out)
       (case side3 => exact rc_ (Kd.C_below HR0_2.out HB.out))
       (case side4 => exact HC0_2.out)
       rintro e w156 ⟨v288, v292, rfl, ho0, ho1, hb⟩
       refine ⟨_, rfl, ?_⟩
       have HO289 := Aside0.mk (Kd.R_lower (Kd.R_new' (Kd.R_new' (Kd.R_new' (Kd.R_new' (Kd.R_new' (Kd.R_new' ho0 (Kd.R_lt (fr_ HO_249000.out))) (Kd.R_lt (fr_ HO_249002.out))) (Kd.R_lt (fr_ HO_257000.out))) (Kd.R_lt (fr_ HO_257002.out))) (Kd.R_lt (fr_ HO_270000.out))) (Kd.R_lt (fr_ HO_270002.out))) (below_size (bel_ HB.out)))
       have HO293 := Aside0.mk (Kd.R_lower (Kd.R_new' (Kd.R_new' (Kd.R_new' (Kd.R_new' (Kd.R_new' (Kd.R_new' ho1 (Kd.R_lt (fr_ HO_249000.out))) (Kd.R_lt (fr_ HO_249002.out))) (Kd.R_lt (fr_ HO_257000.out))) (Kd.R_lt (fr_ HO_257002.out))) (Kd.R_lt (fr_ HO_270000.out))) (Kd.R_lt (fr_ HO_270002.out))) (below_size (bel_ HB.out)))
       replace HO_249000 := Aside0.mk (Kd.R_mono (Kd.R_told (Kd.R_told (Kd.R_old (fr_ HO_249000.out) hb) (Kd.R_base ho0)) (Kd.R_base ho1)) (fun _ h_ => h_.1)); replace HO_249002 := Aside0.mk (Kd.R_mono (Kd.R_told (Kd.R_told (Kd.R_old (fr_ HO_249002.out) hb) (Kd.R_base ho0)) (Kd.R_base ho1)) (fun _ h_ => h_.1)); replace HO_257000 := Aside0.mk (Kd.R_mono (Kd.R_told (Kd.R_told (Kd.R_old (fr_ HO_257000.out) hb) (Kd.R_base ho0)) (Kd.R_base ho1)) (fun _ h_ => h_.1)); replace HO_257002 := Aside0.mk (Kd.R_mono (Kd.R_told (Kd.R_told (Kd.R_old (fr_ HO_257002.out) hb) (Kd.R_base ho0)) (Kd.R_base ho1)) (fun _ h_ => h_.1)); replace HO_270000 := Aside0.mk (Kd.R_mono (Kd.R_told (Kd.R_told (Kd.R_old (fr_ HO_270000.out) hb) (Kd.R_base ho0)) (Kd.R_base ho1)) (fun _ h_ => h_.1)); replace HO_270002 := Aside0.mk (Kd.R_mono (Kd.R_told (Kd.R_told (Kd.R_old (fr_ HO_270002.out) hb) (Kd.R_base ho0)) (Kd.R_base ho1)) (fun _ h_ => h_.1)); replace BK225 := Aside0.mk (bb_ BK225.out hb); replace BK226 := Aside0.mk (bb_ BK226.out hb); replace BK248 := Aside0.mk (bb_ BK248.out hb); replace BK256 := Aside0.mk (bb_ BK256.out hb); replace BK269 := Aside0.mk (bb_ BK269.out hb); replace HB := Aside0.mk (below_step (bel_ HB.out) hb); (try clear hb); (try clear hb2); (try clear hk); (try clear hi); (try clear ho0); (try clear ho1)
       refine hK.out _ _ ⟨bc_ BK225.out 0, bc_ BK225.out 1, bc_ BK225.out 2, bc_ BK226.out 0, bc_ BK226.out 1, bc_ BK226.out 2, bc_ BK226.out 3⟩ (fun hHeld => ?_)
       clear hK K
       refine norm_ (a' := ?_) ?_ ?_
       rotate_left
       ·show Act.put _ (some 90) _ = _
        simp only [Act.put, sA_, sZ_, sS_, i64_w, i32_w]
        rfl
       refine two_ (i := 4) (j := 9) (Ni := some 93) (Nj := some 16) (bs 12 31) (bs 12 527) rfl rfl rfl rfl (two_of HT_.out (by kernel_rfl)) (by decide) (by decide) (fun K hK => ?_) (fun K hK => ?_)
       ·skip
        refine goes_ Try.func25 (by kernel_rfl) rfl #[.agg #[.int .i64 a2_0, .int .i64 a2_1, .int .i64 a2_2, .string a2_3]] (by rfl) rfl rfl ml_ ?_
        with_reducible refine (laws_toPost.calls a2_0 a2_1 a2_2 a2_3 t294 t295 t296 t297 _ A144.out).mono ?_
        rintro e w157 ⟨rfl, hb⟩
        refine ⟨_, rfl, ?_⟩; replace HO_249000 := Aside0.mk (Kd.R_below (fr_ HO_249000.out) hb); replace HO_249002 := Aside0.mk (Kd.R_below (fr_ HO_249002.out) hb); replace HO_257000 := Aside0.mk (Kd.R_below (fr_ HO_257000.out) hb); replace HO_257002 := Aside0.mk (Kd.R_below (fr_ HO_257002.out) hb); replace HO_270000 := Aside0.mk (Kd.R_below (fr_ HO_270000.out) hb); replace HO_270002 := Aside0.mk (Kd.R_below (fr_ HO_270002.out) hb); replace HO289 := Aside0.mk (Kd.R_below (fr_ HO289.out) hb); replace HO293 := Aside0.mk (Kd.R_below (fr_ HO293.out) hb); replace BK225 := Aside0.mk (bb_ BK225.out hb); replace BK226 := Aside0.mk (bb_ BK226.out hb); replace BK248 := Aside0.mk (bb_ BK248.out hb); replace BK256 := Aside0.mk (bb_ BK256.out hb); replace BK269 := Aside0.mk (bb_ BK269.out hb); replace HB := Aside0.mk (below_step (bel_ HB.out) hb); (try clear hb); (try clear hb2); (try clear hk); (try clear hi)
        obtain ⟨Ao158, co158, eo158⟩ := Kd.R_slice HO289.out
        (first | subst eo158 | (injection eo158 with f1_ f2_ f3_; have f4_ := f1_.symm; have f5_ := f3_.symm; clear f1_ f2_ f3_; subst f4_; subst f5_))
        obtain ⟨Ao159, co159, eo159⟩ := Kd.R_slice HO293.out
        (first | subst eo159 | (injection eo159 with f1_ f2_ f3_; have f4_ := f1_.symm; have f5_ := f3_.symm; clear f1_ f2_ f3_; subst f4_; subst f5_))
        refine hK.out _ _ ⟨bc_ BK225.out 0, bc_ BK225.out 1, bc_ BK225.out 2, bc_ BK226.out 0, bc_ BK226.out 1, bc_ BK226.out 2, bc_ BK226.out 3⟩ (fun hHeld => ?_)
        clear hK K
        refine norm_ (a' := ?_) ?_ ?_
        rotate_left
        ·show Act.put _ (some 93) _ = _
         simp only [Act.put, sA_, sZ_, sS_, i64_w, i32_w]
         rfl
        refine two_ (i := 5) (j := 9) (Ni := some 94) (Nj := some 16) (bs 12 63) (bs 12 543) rfl rfl rfl rfl (two_of HT_.out (by kernel_rfl)) (by decide) (by decide) (fun K hK => ?_) (fun K hK => ?_)
        ·skip
         refine goes_ Try.func13 (by kernel_rfl) rfl #[.agg #[.slice Ao158 t287.length co158, .int .i64 t290, .slice Ao159 t291.length co159], .int .i64 a1, .agg #[.int .i64 t294, .int .i64 t295, .int .i64 t296, .string t297]] (by rfl) rfl rfl ml_ ?_
         with_reducible refine (impl_Take21.calls kj94 _ _ t287 t290 _ _ t291 a1 t294 t295 t296 t297 t298 t301 t302 t305 _ ?side1 ?side2 ?side3 ?side4 A145.out).mono ?_
         (case side1 => exact rc_ (Kd.R_reads' HO289.out).2.2)
         (case side2 => exact (Kd.R_reads' HO289.out).2.1)
         (case side3 => exact rc_ (Kd.R_reads' HO293.out).2.2)
         (case side4 => exact (Kd.R_reads' HO293.out).2.1)
         rintro e w160 ⟨v299, v303, rfl, ho0, ho1, hb⟩
         refine ⟨_, rfl, ?_⟩
         have HO300 := Aside0.mk (Kd.R_lower (Kd.R_new' (Kd.R_new' (Kd.R_new' (Kd.R_new' (Kd.R_new' (Kd.R_new' (Kd.R_new' (Kd.R_new' ho0 (Kd.R_lt (fr_ HO_249000.out))) (Kd.R_lt (fr_ HO_249002.out))) (Kd.R_lt (fr_ HO_257000.out))) (Kd.R_lt (fr_ HO_257002.out))) (Kd.R_lt (fr_ HO_270000.out))) (Kd.R_lt (fr_ HO_270002.out))) (Kd.R_lt (fr_ HO289.out))) (Kd.R_lt (fr_ HO293.out))) (below_size (bel_ HB.out)))
         have HO304 := Aside0.mk (Kd.R_lower (Kd.R_new' (Kd.R_new' (Kd.R_new' (Kd.R_new' (Kd.R_new' (Kd.R_new' (Kd.R_new' (Kd.R_new' ho1 (Kd.R_lt (fr_ HO_249000.out))) (Kd.R_lt (fr_ HO_249002.out))) (Kd.R_lt (fr_ HO_257000.out))) (Kd.R_lt (fr_ HO_257002.out))) (Kd.R_lt (fr_ HO_270000.out))) (Kd.R_lt (fr_ HO_270002.out))) (Kd.R_lt (fr_ HO289.out))) (Kd.R_lt (fr_ HO293.out))) (below_size (bel_ HB.out)))
         replace HO_249000 := Aside0.mk (Kd.R_mono (Kd.R_told (Kd.R_told (Kd.R_old (fr_ HO_249000.out) hb) (Kd.R_base ho0)) (Kd.R_base ho1)) (fun _ h_ => h_.1)); replace HO_249002 := Aside0.mk (Kd.R_mono (Kd.R_told (Kd.R_told (Kd.R_old (fr_ HO_249002.out) hb) (Kd.R_base ho0)) (Kd.R_base ho1)) (fun _ h_ => h_.1)); replace HO_257000 := Aside0.mk (Kd.R_mono (Kd.R_told (Kd.R_told (Kd.R_old (fr_ HO_257000.out) hb) (Kd.R_base ho0)) (Kd.R_base ho1)) (fun _ h_ => h_.1)); replace HO_257002 := Aside0.mk (Kd.R_mono (Kd.R_told (Kd.R_told (Kd.R_old (fr_ HO_257002.out) hb) (Kd.R_base ho0)) (Kd.R_base ho1)) (fun _ h_ => h_.1)); replace HO_270000 := Aside0.mk (Kd.R_mono (Kd.R_told (Kd.R_told (Kd.R_old (fr_ HO_270000.out) hb) (Kd.R_base ho0)) (Kd.R_base ho1)) (fun _ h_ => h_.1)); replace HO_270002 := Aside0.mk (Kd.R_mono (Kd.R_told (Kd.R_told (Kd.R_old (fr_ HO_270002.out) hb) (Kd.R_base ho0)) (Kd.R_base ho1)) (fun _ h_ => h_.1)); replace HO289 := Aside0.mk (Kd.R_mono (Kd.R_told (Kd.R_told (Kd.R_old (fr_ HO289.out) hb) (Kd.R_base ho0)) (Kd.R_base ho1)) (fun _ h_ => h_.1)); replace HO293 := Aside0.mk (Kd.R_mono (Kd.R_told (Kd.R_told (Kd.R_old (fr_ HO293.out) hb) (Kd.R_base ho0)) (Kd.R_base ho1)) (fun _ h_ => h_.1)); replace BK225 := Aside0.mk (bb_ BK225.out hb); replace BK226 := Aside0.mk (bb_ BK226.out hb); replace BK248 := Aside0.mk (bb_ BK248.out hb); replace BK256 := Aside0.mk (bb_ BK256.out hb); replace BK269 := Aside0.mk (bb_ BK269.out hb); replace HB := Aside0.mk (below_step (bel_ HB.out) hb); (try clear hb); (try clear hb2); (try clear hk); (try clear hi); (try clear ho0); (try clear ho1)
         refine hK.out _ _ ⟨bc_ BK225.out 0, bc_ BK225.out 1, bc_ BK225.out 2, bc_ BK226.out 0, bc_ BK226.out 1, bc_ BK226.out 2, bc_ BK226.out 3⟩ (fun hHeld => ?_)
         clear hK K
         refine norm_ (a' := ?_) ?_ ?_
         rotate_left
         ·show Act.put _ (some 94) _ = _
          simp only [Act.put, sA_, sZ_, sS_, i64_w, i32_w]
          rfl
         refine pu_ 6 88 HT_ (bs 12 127) rfl rfl ?_
         refine pu_ 7 95 HT_ (bs 12 255) rfl rfl ?_
         refine pu_ 8 96 HT_ (bs 12 511) rfl rfl ?_
         refine one_ (i := 9) (N := some 16) (bs 12 1023) rfl rfl (one_of HT_.out (by kernel_rfl)) (by decide) (fun K hK => ?_)
         refine box_step ?hg (N := 16) ?hd (cs := #[.slice none 0 0, .int .i64 0, .slice none 0 0]) (t := 26) ?hr ?_; (case hd => rfl); (case hg => rfl); (case hr => first | (go_simp; done) | (go_simp; rfl))
         intro gb306 hg w161 hbox hb
         replace HO_249000 := Aside0.mk (Kd.R_below (fr_ HO_249000.out) hb); replace HO_249002 := Aside0.mk (Kd.R_below (fr_ HO_249002.out) hb); replace HO_257000 := Aside0.mk (Kd.R_below (fr_ HO_257000.out) hb); replace HO_257002 := Aside0.mk (Kd.R_below (fr_ HO_257002.out) hb); replace HO_270000 := Aside0.mk (Kd.R_below (fr_ HO_270000.out) hb); replace HO_270002 := Aside0.mk (Kd.R_below (fr_ HO_270002.out) hb); replace HO289 := Aside0.mk (Kd.R_below (fr_ HO289.out) hb); replace HO293 := Aside0.mk (Kd.R_below (fr_ HO293.out) hb); replace HO300 := Aside0.mk (Kd.R_below (fr_ HO300.out) hb); replace HO304 := Aside0.mk (Kd.R_below (fr_ HO304.out) hb)
         have BK306 := Aside0.mk (hbox)
         have GW306 := Aside0.mk ((by rw [hg]; exact (below_size (bel_ HB.out)) : w.heap.size ≤ gb306))
         have GE306 := Aside0.mk ((by rw [hg]; exact (below_size (bel_ HB.out)) : w.heap.size ≤ gb306))
         replace HB := Aside0.mk (below_step (bel_ HB.out) hb)
         have NB225_306 := Aside0.mk (nl_ BK225.out hg)
         have NB306_225 := Aside0.mk (ng_ BK225.out hg)
         replace BK225 := Aside0.mk (bb_ BK225.out hb)
         have NB226_306 := Aside0.mk (nl_ BK226.out hg)
         have NB306_226 := Aside0.mk (ng_ BK226.out hg)
         replace BK226 := Aside0.mk (bb_ BK226.out hb)
         have NB248_306 := Aside0.mk (nl_ BK248.out hg)
         have NB306_248 := Aside0.mk (ng_ BK248.out hg)
         replace BK248 := Aside0.mk (bb_ BK248.out hb)
         have NB256_306 := Aside0.mk (nl_ BK256.out hg)
         have NB306_256 := Aside0.mk (ng_ BK256.out hg)
         replace BK256 := Aside0.mk (bb_ BK256.out hb)
         have NB269_306 := Aside0.mk (nl_ BK269.out hg)
         have NB306_269 := Aside0.mk (ng_ BK269.out hg)
         replace BK269 := Aside0.mk (bb_ BK269.out hb); clear hb hbox hg
         refine hK.out _ _ ⟨bc_ BK225.out 0, bc_ BK225.out 1, bc_ BK225.out 2, bc_ BK226.out 0, bc_ BK226.out 1, bc_ BK226.out 2, bc_ BK226.out 3⟩ (fun hHeld => ?_)
         clear hK K
         refine norm_ (a' := ?_) ?_ ?_
         rotate_left
         ·show Act.put _ (some 16) _ = _
          simp only [Act.put, sA_, sZ_, sS_, i64_w, i32_w]
          rfl
         exact norm_ (by simp only [putAll, Act.put, sA_, sZ_, sS_]) (hCont (.slice Ao158 t287.length co158, .slice Ao159 t291.length co159, v299, v303, gb306) _ ⟨hHeld, (rn_ HO289.out (fun _ hk => ⟨hk.1.1.1.1.1.1.1.1, ⟨hk.1.2, ⟨hk.2, ⟨hk.1.1.1.1.1.1.1.2, ⟨hk.1.1.1.1.1.1.2, ⟨hk.1.1.1.1.1.2, ⟨hk.1.1.1.1.2, ⟨hk.1.1.1.2, hk.1.1.2⟩⟩⟩⟩⟩⟩⟩⟩)), (rn_ HO293.out (fun _ hk => ⟨hk.1.1.1.1.1.1.1.1, ⟨hk.1.2, ⟨hk.2, ⟨hk.1.1.1.1.1.1.1.2, ⟨hk.1.1.1.1.1.1.2, ⟨hk.1.1.1.1.1.2, ⟨hk.1.1.1.1.2, ⟨hk.1.1.1.2, hk.1.1.2⟩⟩⟩⟩⟩⟩⟩⟩)), (rn_ HO300.out (fun _ hk => ⟨hk.1.2, ⟨hk.2, ⟨hk.1.1.1.1.1.1.1.1, ⟨hk.1.1.1.1.1.1.1.2, ⟨hk.1.1.1.1.1.1.2, ⟨hk.1.1.1.1.1.2, ⟨hk.1.1.1.1.2, ⟨hk.1.1.1.2, hk.1.1.2⟩⟩⟩⟩⟩⟩⟩⟩)), (rn_ HO304.out (fun _ hk => ⟨hk.1.2, ⟨hk.2, ⟨hk.1.1.1.1.1.1.1.1, ⟨hk.1.1.1.1.1.1.1.2, ⟨hk.1.1.1.1.1.1.2, ⟨hk.1.1.1.1.1.2, ⟨hk.1.1.1.1.2, ⟨hk.1.1.1.2, hk.1.1.2⟩⟩⟩⟩⟩⟩⟩⟩)), (rn_ HO_249000.out (fun _ hk => ⟨hk.1.1.1.2, ⟨hk.1.1.2, ⟨hk.1.2, ⟨hk.2, ⟨hk.1.1.1.1.1, ⟨hk.1.1.1.1.2.1, ⟨hk.1.1.1.1.2.2.1, ⟨hk.1.1.1.1.2.2.2.1, hk.1.1.1.1.2.2.2.2⟩⟩⟩⟩⟩⟩⟩⟩)), (rn_ HO_249002.out (fun _ hk => ⟨hk.1.1.1.2, ⟨hk.1.1.2, ⟨hk.1.2, ⟨hk.2, ⟨hk.1.1.1.1.1, ⟨hk.1.1.1.1.2.1, ⟨hk.1.1.1.1.2.2.1, ⟨hk.1.1.1.1.2.2.2.1, hk.1.1.1.1.2.2.2.2⟩⟩⟩⟩⟩⟩⟩⟩)), (rn_ HO_257000.out (fun _ hk => ⟨hk.1.1.1.2, ⟨hk.1.1.2, ⟨hk.1.2, ⟨hk.2, ⟨hk.1.1.1.1.1, ⟨hk.1.1.1.1.2.1, ⟨hk.1.1.1.1.2.2.1, ⟨hk.1.1.1.1.2.2.2.1, hk.1.1.1.1.2.2.2.2⟩⟩⟩⟩⟩⟩⟩⟩)), (rn_ HO_257002.out (fun _ hk => ⟨hk.1.1.1.2, ⟨hk.1.1.2, ⟨hk.1.2, ⟨hk.2, ⟨hk.1.1.1.1.1, ⟨hk.1.1.1.1.2.1, ⟨hk.1.1.1.1.2.2.1, ⟨hk.1.1.1.1.2.2.2.1, hk.1.1.1.1.2.2.2.2⟩⟩⟩⟩⟩⟩⟩⟩)), (rn_ HO_270000.out (fun _ hk => ⟨hk.1.1.1.2, ⟨hk.1.1.2, ⟨hk.1.2, ⟨hk.2, ⟨hk.1.1.1.1.1, ⟨hk.1.1.1.1.2.1, ⟨hk.1.1.1.1.2.2.1, ⟨hk.1.1.1.1.2.2.2.1, hk.1.1.1.1.2.2.2.2⟩⟩⟩⟩⟩⟩⟩⟩)), (rn_ HO_270002.out (fun _ hk => ⟨hk.1.1.1.2, ⟨hk.1.1.2, ⟨hk.1.2, ⟨hk.2, ⟨hk.1.1.1.1.1, ⟨hk.1.1.1.1.2.1, ⟨hk.1.1.1.1.2.2.1, ⟨hk.1.1.1.1.2.2.2.1, hk.1.1.1.1.2.2.2.2⟩⟩⟩⟩⟩⟩⟩⟩)), (fb_ BK225.out), (fb_ BK226.out), (fb_ BK248.out), (fb_ BK256.out), (fb_ BK269.out), (fb_ BK306.out), GW306.out, GE306.out, NB225_306.out, NB306_225.out, NB226_306.out, NB306_226.out, NB248_306.out, NB306_248.out, NB256_306.out, NB306_256.out, NB269_306.out, NB306_269.out, (bel_ HB.out)⟩)
        ·skip
         refine box_step ?hg (N := 16) ?hd (cs := #[.slice none 0 0, .int .i64 0, .slice none 0 0]) (t := 26) ?hr ?_; (case hd => rfl); (case hg => rfl); (case hr => first | (go_simp; done) | (go_simp; rfl))
         intro gb306 hg w158 hbox hb
         replace HO_249000 := Aside0.mk (Kd.R_below (fr_ HO_249000.out) hb); replace HO_249002 := Aside0.mk (Kd.R_below (fr_ HO_249002.out) hb); replace HO_257000 := Aside0.mk (Kd.R_below (fr_ HO_257000.out) hb); replace HO_257002 := Aside0.mk (Kd.R_below (fr_ HO_257002.out) hb); replace HO_270000 := Aside0.mk (Kd.R_below (fr_ HO_270000.out) hb); replace HO_270002 := Aside0.mk (Kd.R_below (fr_ HO_270002.out) hb); replace HO289 := Aside0.mk (Kd.R_below (fr_ HO289.out) hb); replace HO293 := Aside0.mk (Kd.R_below (fr_ HO293.out) hb)
         have BK306 := Aside0.mk (hbox)
         have GW306 := Aside0.mk ((by rw [hg]; exact (below_size (bel_ HB.out)) : w.heap.size ≤ gb306))
         have GE306 := Aside0.mk ((by rw [hg]; exact (below_size (bel_ HB.out)) : w.heap.size ≤ gb306))
         replace HB := Aside0.mk (below_step (bel_ HB.out) hb)
         have NB225_306 := Aside0.mk (nl_ BK225.out hg)
         have NB306_225 := Aside0.mk (ng_ BK225.out hg)
         replace BK225 := Aside0.mk (bb_ BK225.out hb)
         have NB226_306 := Aside0.mk (nl_ BK226.out hg)
         have NB306_226 := Aside0.mk (ng_ BK226.out hg)
         replace BK226 := Aside0.mk (bb_ BK226.out hb)
         have NB248_306 := Aside0.mk (nl_ BK248.out hg)
         have NB306_248 := Aside0.mk (ng_ BK248.out hg)
         replace BK248 := Aside0.mk (bb_ BK248.out hb)
         have NB256_306 := Aside0.mk (nl_ BK256.out hg)
         have NB306_256 := Aside0.mk (ng_ BK256.out hg)
         replace BK256 := Aside0.mk (bb_ BK256.out hb)
         have NB269_306 := Aside0.mk (nl_ BK269.out hg)
         have NB306_269 := Aside0.mk (ng_ BK269.out hg)
         replace BK269 := Aside0.mk (bb_ BK269.out hb); clear hb hbox hg
         obtain ⟨Ao159, co159, eo159⟩ := Kd.R_slice HO289.out
         (first | subst eo159 | (injection eo159 with f1_ f2_ f3_; have f4_ := f1_.symm; have f5_ := f3_.symm; clear f1_ f2_ f3_; subst f4_; subst f5_))
         obtain ⟨Ao160, co160, eo160⟩ := Kd.R_slice HO293.out
         (first | subst eo160 | (injection eo160 with f1_ f2_ f3_; have f4_ := f1_.symm; have f5_ := f3_.symm; clear f1_ f2_ f3_; subst f4_; subst f5_))
         refine hK.out _ _ ⟨bc_ BK225.out 0, bc_ BK225.out 1, bc_ BK225.out 2, bc_ BK226.out 0, bc_ BK226.out 1, bc_ BK226.out 2, bc_ BK226.out 3⟩ (fun hHeld => ?_)
         clear hK K
         refine norm_ (a' := ?_) ?_ ?_
         rotate_left
         ·show Act.put _ (some 16) _ = _
          simp only [Act.put, sA_, sZ_, sS_, i64_w, i32_w]
          rfl
         refine one_ (i := 5) (N := some 94) (bs 12 575) rfl rfl (one_of HT_.out (by kernel_rfl)) (by decide) (fun K hK => ?_)
         refine goes_ Try.func13 (by kernel_rfl) rfl #[.agg #[.slice Ao159 t287.length co159, .int .i64 t290, .slice Ao160 t291.length co160], .int .i64 a1, .agg #[.int .i64 t294, .int .i64 t295, .int .i64 t296, .string t297]] (by rfl) rfl rfl ml_ ?_
         with_reducible refine (impl_Take21.calls kj94 _ _ t287 t290 _ _ t291 a1 t294 t295 t296 t297 t298 t301 t302 t305 _ ?side1 ?side2 ?side3 ?side4 A145.out).mono ?_
         (case side1 => exact rc_ (Kd.R_reads' HO289.out).2.2)
         (case side2 => exact (Kd.R_reads' HO289.out).2.1)
         (case side3 => exact rc_ (Kd.R_reads' HO293.out).2.2)
         (case side4 => exact (Kd.R_reads' HO293.out).2.1)
         rintro e w161 ⟨v299, v303, rfl, ho0, ho1, hb⟩
         refine ⟨_, rfl, ?_⟩
         have HO300 := Aside0.mk (Kd.R_lower (Kd.R_new' (Kd.R_new' (Kd.R_new' (Kd.R_new' (Kd.R_new' (Kd.R_new' (Kd.R_new' (Kd.R_new' ho0 (Kd.R_lt (fr_ HO_249000.out))) (Kd.R_lt (fr_ HO_249002.out))) (Kd.R_lt (fr_ HO_257000.out))) (Kd.R_lt (fr_ HO_257002.out))) (Kd.R_lt (fr_ HO_270000.out))) (Kd.R_lt (fr_ HO_270002.out))) (Kd.R_lt (fr_ HO289.out))) (Kd.R_lt (fr_ HO293.out))) (below_size (bel_ HB.out)))
         have HO304 := Aside0.mk (Kd.R_lower (Kd.R_new' (Kd.R_new' (Kd.R_new' (Kd.R_new' (Kd.R_new' (Kd.R_new' (Kd.R_new' (Kd.R_new' ho1 (Kd.R_lt (fr_ HO_249000.out))) (Kd.R_lt (fr_ HO_249002.out))) (Kd.R_lt (fr_ HO_257000.out))) (Kd.R_lt (fr_ HO_257002.out))) (Kd.R_lt (fr_ HO_270000.out))) (Kd.R_lt (fr_ HO_270002.out))) (Kd.R_lt (fr_ HO289.out))) (Kd.R_lt (fr_ HO293.out))) (below_size (bel_ HB.out)))
         replace HO_249000 := Aside0.mk (Kd.R_mono (Kd.R_told (Kd.R_told (Kd.R_old (fr_ HO_249000.out) hb) (Kd.R_base ho0)) (Kd.R_base ho1)) (fun _ h_ => h_.1)); replace HO_249002 := Aside0.mk (Kd.R_mono (Kd.R_told (Kd.R_told (Kd.R_old (fr_ HO_249002.out) hb) (Kd.R_base ho0)) (Kd.R_base ho1)) (fun _ h_ => h_.1)); replace HO_257000 := Aside0.mk (Kd.R_mono (Kd.R_told (Kd.R_told (Kd.R_old (fr_ HO_257000.out) hb) (Kd.R_base ho0)) (Kd.R_base ho1)) (fun _ h_ => h_.1)); replace HO_257002 := Aside0.mk (Kd.R_mono (Kd.R_told (Kd.R_told (Kd.R_old (fr_ HO_257002.out) hb) (Kd.R_base ho0)) (Kd.R_base ho1)) (fun _ h_ => h_.1)); replace HO_270000 := Aside0.mk (Kd.R_mono (Kd.R_told (Kd.R_told (Kd.R_old (fr_ HO_270000.out) hb) (Kd.R_base ho0)) (Kd.R_base ho1)) (fun _ h_ => h_.1)); replace HO_270002 := Aside0.mk (Kd.R_mono (Kd.R_told (Kd.R_told (Kd.R_old (fr_ HO_270002.out) hb) (Kd.R_base ho0)) (Kd.R_base ho1)) (fun _ h_ => h_.1)); replace HO289 := Aside0.mk (Kd.R_mono (Kd.R_told (Kd.R_told (Kd.R_old (fr_ HO289.out) hb) (Kd.R_base ho0)) (Kd.R_base ho1)) (fun _ h_ => h_.1)); replace HO293 := Aside0.mk (Kd.R_mono (Kd.R_told (Kd.R_told (Kd.R_old (fr_ HO293.out) hb) (Kd.R_base ho0)) (Kd.R_base ho1)) (fun _ h_ => h_.1)); replace BK225 := Aside0.mk (bb_ BK225.out hb); replace BK226 := Aside0.mk (bb_ BK226.out hb); replace BK248 := Aside0.mk (bb_ BK248.out hb); replace BK256 := Aside0.mk (bb_ BK256.out hb); replace BK269 := Aside0.mk (bb_ BK269.out hb); replace BK306 := Aside0.mk (bb_ BK306.out hb); replace HB := Aside0.mk (below_step (bel_ HB.out) hb); (try clear hb); (try clear hb2); (try clear hk); (try clear hi); (try clear ho0); (try clear ho1)
         refine hK.out _ _ ⟨bc_ BK225.out 0, bc_ BK225.out 1, bc_ BK225.out 2, bc_ BK226.out 0, bc_ BK226.out 1, bc_ BK226.out 2, bc_ BK226.out 3⟩ (fun hHeld => ?_)
         clear hK K
         refine norm_ (a' := ?_) ?_ ?_
         rotate_left
         ·show Act.put _ (some 94) _ = _
          simp only [Act.put, sA_, sZ_, sS_, i64_w, i32_w]
          rfl
         refine pu_ 6 88 HT_ (bs 12 639) rfl rfl ?_
         refine pu_ 7 95 HT_ (bs 12 767) rfl rfl ?_
         refine pu_ 8 96 HT_ (bs 12 1023) rfl rfl ?_
         exact norm_ (by simp only [putAll, Act.put, sA_, sZ_, sS_]) (hCont (.slice Ao159 t287.length co159, .slice Ao160 t291.length co160, v299, v303, gb306) _ ⟨hHeld, (rn_ HO289.out (fun _ hk => ⟨hk.1.1.1.1.1.1.1.1, ⟨hk.1.2, ⟨hk.2, ⟨hk.1.1.1.1.1.1.1.2, ⟨hk.1.1.1.1.1.1.2, ⟨hk.1.1.1.1.1.2, ⟨hk.1.1.1.1.2, ⟨hk.1.1.1.2, hk.1.1.2⟩⟩⟩⟩⟩⟩⟩⟩)), (rn_ HO293.out (fun _ hk => ⟨hk.1.1.1.1.1.1.1.1, ⟨hk.1.2, ⟨hk.2, ⟨hk.1.1.1.1.1.1.1.2, ⟨hk.1.1.1.1.1.1.2, ⟨hk.1.1.1.1.1.2, ⟨hk.1.1.1.1.2, ⟨hk.1.1.1.2, hk.1.1.2⟩⟩⟩⟩⟩⟩⟩⟩)), (rn_ HO300.out (fun _ hk => ⟨hk.1.2, ⟨hk.2, ⟨hk.1.1.1.1.1.1.1.1, ⟨hk.1.1.1.1.1.1.1.2, ⟨hk.1.1.1.1.1.1.2, ⟨hk.1.1.1.1.1.2, ⟨hk.1.1.1.1.2, ⟨hk.1.1.1.2, hk.1.1.2⟩⟩⟩⟩⟩⟩⟩⟩)), (rn_ HO304.out (fun _ hk => ⟨hk.1.2, ⟨hk.2, ⟨hk.1.1.1.1.1.1.1.1, ⟨hk.1.1.1.1.1.1.1.2, ⟨hk.1.1.1.1.1.1.2, ⟨hk.1.1.1.1.1.2, ⟨hk.1.1.1.1.2, ⟨hk.1.1.1.2, hk.1.1.2⟩⟩⟩⟩⟩⟩⟩⟩)), (rn_ HO_249000.out (fun _ hk => ⟨hk.1.1.1.2, ⟨hk.1.1.2, ⟨hk.1.2, ⟨hk.2, ⟨hk.1.1.1.1.1, ⟨hk.1.1.1.1.2.1, ⟨hk.1.1.1.1.2.2.1, ⟨hk.1.1.1.1.2.2.2.1, hk.1.1.1.1.2.2.2.2⟩⟩⟩⟩⟩⟩⟩⟩)), (rn_ HO_249002.out (fun _ hk => ⟨hk.1.1.1.2, ⟨hk.1.1.2, ⟨hk.1.2, ⟨hk.2, ⟨hk.1.1.1.1.1, ⟨hk.1.1.1.1.2.1, ⟨hk.1.1.1.1.2.2.1, ⟨hk.1.1.1.1.2.2.2.1, hk.1.1.1.1.2.2.2.2⟩⟩⟩⟩⟩⟩⟩⟩)), (rn_ HO_257000.out (fun _ hk => ⟨hk.1.1.1.2, ⟨hk.1.1.2, ⟨hk.1.2, ⟨hk.2, ⟨hk.1.1.1.1.1, ⟨hk.1.1.1.1.2.1, ⟨hk.1.1.1.1.2.2.1, ⟨hk.1.1.1.1.2.2.2.1, hk.1.1.1.1.2.2.2.2⟩⟩⟩⟩⟩⟩⟩⟩)), (rn_ HO_257002.out (fun _ hk => ⟨hk.1.1.1.2, ⟨hk.1.1.2, ⟨hk.1.2, ⟨hk.2, ⟨hk.1.1.1.1.1, ⟨hk.1.1.1.1.2.1, ⟨hk.1.1.1.1.2.2.1, ⟨hk.1.1.1.1.2.2.2.1, hk.1.1.1.1.2.2.2.2⟩⟩⟩⟩⟩⟩⟩⟩)), (rn_ HO_270000.out (fun _ hk => ⟨hk.1.1.1.2, ⟨hk.1.1.2, ⟨hk.1.2, ⟨hk.2, ⟨hk.1.1.1.1.1, ⟨hk.1.1.1.1.2.1, ⟨hk.1.1.1.1.2.2.1, ⟨hk.1.1.1.1.2.2.2.1, hk.1.1.1.1.2.2.2.2⟩⟩⟩⟩⟩⟩⟩⟩)), (rn_ HO_270002.out (fun _ hk => ⟨hk.1.1.1.2, ⟨hk.1.1.2, ⟨hk.1.2, ⟨hk.2, ⟨hk.1.1.1.1.1, ⟨hk.1.1.1.1.2.1, ⟨hk.1.1.1.1.2.2.1, ⟨hk.1.1.1.1.2.2.2.1, hk.1.1.1.1.2.2.2.2⟩⟩⟩⟩⟩⟩⟩⟩)), (fb_ BK225.out), (fb_ BK226.out), (fb_ BK248.out), (fb_ BK256.out), (fb_ BK269.out), (fb_ BK306.out), GW306.out, GE306.out, NB225_306.out, NB306_225.out, NB226_306.out, NB306_226.out, NB248_306.out, NB306_248.out, NB256_306.out, NB306_256.out, NB269_306.out, NB306_269.out, (bel_ HB.out)⟩)
       ·skip
        refine box_step ?hg (N := 16) ?hd (cs := #[.slice none 0 0, .int .i64 0, .slice none 0 0]) (t := 26) ?hr ?_; (case hd => rfl); (case hg => rfl); (case hr => first | (go_simp; done) | (go_simp; rfl))
        intro gb306 hg w157 hbox hb
        replace HO_249000 := Aside0.mk (Kd.R_below (fr_ HO_249000.out) hb); replace HO_249002 := Aside0.mk (Kd.R_below (fr_ HO_249002.out) hb); replace HO_257000 := Aside0.mk (Kd.R_below (fr_ HO_257000.out) hb); replace HO_257002 := Aside0.mk (Kd.R_below (fr_ HO_257002.out) hb); replace HO_270000 := Aside0.mk (Kd.R_below (fr_ HO_270000.out) hb); replace HO_270002 := Aside0.mk (Kd.R_below (fr_ HO_270002.out) hb); replace HO289 := Aside0.mk (Kd.R_below (fr_ HO289.out) hb); replace HO293 := Aside0.mk (Kd.R_below (fr_ HO293.out) hb)
        have BK306 := Aside0.mk (hbox)
        have GW306 := Aside0.mk ((by rw [hg]; exact (below_size (bel_ HB.out)) : w.heap.size ≤ gb306))
        have GE306 := Aside0.mk ((by rw [hg]; exact (below_size (bel_ HB.out)) : w.heap.size ≤ gb306))
        replace HB := Aside0.mk (below_step (bel_ HB.out) hb)
        have NB225_306 := Aside0.mk (nl_ BK225.out hg)
        have NB306_225 := Aside0.mk (ng_ BK225.out hg)
        replace BK225 := Aside0.mk (bb_ BK225.out hb)
        have NB226_306 := Aside0.mk (nl_ BK226.out hg)
        have NB306_226 := Aside0.mk (ng_ BK226.out hg)
        replace BK226 := Aside0.mk (bb_ BK226.out hb)
        have NB248_306 := Aside0.mk (nl_ BK248.out hg)
        have NB306_248 := Aside0.mk (ng_ BK248.out hg)
        replace BK248 := Aside0.mk (bb_ BK248.out hb)
        have NB256_306 := Aside0.mk (nl_ BK256.out hg)
        have NB306_256 := Aside0.mk (ng_ BK256.out hg)
        replace BK256 := Aside0.mk (bb_ BK256.out hb)
        have NB269_306 := Aside0.mk (nl_ BK269.out hg)
        have NB306_269 := Aside0.mk (ng_ BK269.out hg)
        replace BK269 := Aside0.mk (bb_ BK269.out hb); clear hb hbox hg
        refine hK.out _ _ ⟨bc_ BK225.out 0, bc_ BK225.out 1, bc_ BK225.out 2, bc_ BK226.out 0, bc_ BK226.out 1, bc_ BK226.out 2, bc_ BK226.out 3⟩ (fun hHeld => ?_)
        clear hK K
        refine norm_ (a' := ?_) ?_ ?_
        rotate_left
        ·show Act.put _ (some 16) _ = _
         simp only [Act.put, sA_, sZ_, sS_, i64_w, i32_w]
         rfl
        refine one_ (i := 4) (N := some 93) (bs 12 543) rfl rfl (one_of HT_.out (by kernel_rfl)) (by decide) (fun K hK => ?_)
        refine goes_ Try.func25 (by kernel_rfl) rfl #[.agg #[.int .i64 a2_0, .int .i64 a2_1, .int .i64 a2_2, .string a2_3]] (by rfl) rfl rfl ml_ ?_
        with_reducible refine (laws_toPost.calls a2_0 a2_1 a2_2 a2_3 t294 t295 t296 t297 _ A144.out).mono ?_
        rintro e w158 ⟨rfl, hb⟩
        refine ⟨_, rfl, ?_⟩; replace HO_249000 := Aside0.mk (Kd.R_below (fr_ HO_249000.out) hb); replace HO_249002 := Aside0.mk (Kd.R_below (fr_ HO_249002.out) hb); replace HO_257000 := Aside0.mk (Kd.R_below (fr_ HO_257000.out) hb); replace HO_257002 := Aside0.mk (Kd.R_below (fr_ HO_257002.out) hb); replace HO_270000 := Aside0.mk (Kd.R_below (fr_ HO_270000.out) hb); replace HO_270002 := Aside0.mk (Kd.R_below (fr_ HO_270002.out) hb); replace HO289 := Aside0.mk (Kd.R_below (fr_ HO289.out) hb); replace HO293 := Aside0.mk (Kd.R_below (fr_ HO293.out) hb); replace BK225 := Aside0.mk (bb_ BK225.out hb); replace BK226 := Aside0.mk (bb_ BK226.out hb); replace BK248 := Aside0.mk (bb_ BK248.out hb); replace BK256 := Aside0.mk (bb_ BK256.out hb); replace BK269 := Aside0.mk (bb_ BK269.out hb); replace BK306 := Aside0.mk (bb_ BK306.out hb); replace HB := Aside0.mk (below_step (bel_ HB.out) hb); (try clear hb); (try clear hb2); (try clear hk); (try clear hi)
        obtain ⟨Ao159, co159, eo159⟩ := Kd.R_slice HO289.out
        (first | subst eo159 | (injection eo159 with f1_ f2_ f3_; have f4_ := f1_.symm; have f5_ := f3_.symm; clear f1_ f2_ f3_; subst f4_; subst f5_))
        obtain ⟨Ao160, co160, eo160⟩ := Kd.R_slice HO293.out
        (first | subst eo160 | (injection eo160 with f1_ f2_ f3_; have f4_ := f1_.symm; have f5_ := f3_.symm; clear f1_ f2_ f3_; subst f4_; subst f5_))
        refine hK.out _ _ ⟨bc_ BK225.out 0, bc_ BK225.out 1, bc_ BK225.out 2, bc_ BK226.out 0, bc_ BK226.out 1, bc_ BK226.out 2, bc_ BK226.out 3⟩ (fun hHeld => ?_)
        clear hK K
        refine norm_ (a' := ?_) ?_ ?_
        rotate_left
        ·show Act.put _ (some 93) _ = _
         simp only [Act.put, sA_, sZ_, sS_, i64_w, i32_w]
         rfl
        refine one_ (i := 5) (N := some 94) (bs 12 575) rfl rfl (one_of HT_.out (by kernel_rfl)) (by decide) (fun K hK => ?_)
        refine goes_ Try.func13 (by kernel_rfl) rfl #[.agg #[.slice Ao159 t287.length co159, .int .i64 t290, .slice Ao160 t291.length co160], .int .i64 a1, .agg #[.int .i64 t294, .int .i64 t295, .int .i64 t296, .string t297]] (by rfl) rfl rfl ml_ ?_
        with_reducible refine (impl_Take21.calls kj94 _ _ t287 t290 _ _ t291 a1 t294 t295 t296 t297 t298 t301 t302 t305 _ ?side1 ?side2 ?side3 ?side4 A145.out).mono ?_
        (case side1 => exact rc_ (Kd.R_reads' HO289.out).2.2)
        (case side2 => exact (Kd.R_reads' HO289.out).2.1)
        (case side3 => exact rc_ (Kd.R_reads' HO293.out).2.2)
        (case side4 => exact (Kd.R_reads' HO293.out).2.1)
        rintro e w161 ⟨v299, v303, rfl, ho0, ho1, hb⟩
        refine ⟨_, rfl, ?_⟩
        have HO300 := Aside0.mk (Kd.R_lower (Kd.R_new' (Kd.R_new' (Kd.R_new' (Kd.R_new' (Kd.R_new' (Kd.R_new' (Kd.R_new' (Kd.R_new' ho0 (Kd.R_lt (fr_ HO_249000.out))) (Kd.R_lt (fr_ HO_249002.out))) (Kd.R_lt (fr_ HO_257000.out))) (Kd.R_lt (fr_ HO_257002.out))) (Kd.R_lt (fr_ HO_270000.out))) (Kd.R_lt (fr_ HO_270002.out))) (Kd.R_lt (fr_ HO289.out))) (Kd.R_lt (fr_ HO293.out))) (below_size (bel_ HB.out)))
        have HO304 := Aside0.mk (Kd.R_lower (Kd.R_new' (Kd.R_new' (Kd.R_new' (Kd.R_new' (Kd.R_new' (Kd.R_new' (Kd.R_new' (Kd.R_new' ho1 (Kd.R_lt (fr_ HO_249000.out))) (Kd.R_lt (fr_ HO_249002.out))) (Kd.R_lt (fr_ HO_257000.out))) (Kd.R_lt (fr_ HO_257002.out))) (Kd.R_lt (fr_ HO_270000.out))) (Kd.R_lt (fr_ HO_270002.out))) (Kd.R_lt (fr_ HO289.out))) (Kd.R_lt (fr_ HO293.out))) (below_size (bel_ HB.out)))
        replace HO_249000 := Aside0.mk (Kd.R_mono (Kd.R_told (Kd.R_told (Kd.R_old (fr_ HO_249000.out) hb) (Kd.R_base ho0)) (Kd.R_base ho1)) (fun _ h_ => h_.1)); replace HO_249002 := Aside0.mk (Kd.R_mono (Kd.R_told (Kd.R_told (Kd.R_old (fr_ HO_249002.out) hb) (Kd.R_base ho0)) (Kd.R_base ho1)) (fun _ h_ => h_.1)); replace HO_257000 := Aside0.mk (Kd.R_mono (Kd.R_told (Kd.R_told (Kd.R_old (fr_ HO_257000.out) hb) (Kd.R_base ho0)) (Kd.R_base ho1)) (fun _ h_ => h_.1)); replace HO_257002 := Aside0.mk (Kd.R_mono (Kd.R_told (Kd.R_told (Kd.R_old (fr_ HO_257002.out) hb) (Kd.R_base ho0)) (Kd.R_base ho1)) (fun _ h_ => h_.1)); replace HO_270000 := Aside0.mk (Kd.R_mono (Kd.R_told (Kd.R_told (Kd.R_old (fr_ HO_270000.out) hb) (Kd.R_base ho0)) (Kd.R_base ho1)) (fun _ h_ => h_.1)); replace HO_270002 := Aside0.mk (Kd.R_mono (Kd.R_told (Kd.R_told (Kd.R_old (fr_ HO_270002.out) hb) (Kd.R_base ho0)) (Kd.R_base ho1)) (fun _ h_ => h_.1)); replace HO289 := Aside0.mk (Kd.R_mono (Kd.R_told (Kd.R_told (Kd.R_old (fr_ HO289.out) hb) (Kd.R_base ho0)) (Kd.R_base ho1)) (fun _ h_ => h_.1)); replace HO293 := Aside0.mk (Kd.R_mono (Kd.R_told (Kd.R_told (Kd.R_old (fr_ HO293.out) hb) (Kd.R_base ho0)) (Kd.R_base ho1)) (fun _ h_ => h_.1)); replace BK225 := Aside0.mk (bb_ BK225.out hb); replace BK226 := Aside0.mk (bb_ BK226.out hb); replace BK248 := Aside0.mk (bb_ BK248.out hb); replace BK256 := Aside0.mk (bb_ BK256.out hb); replace BK269 := Aside0.mk (bb_ BK269.out hb); replace BK306 := Aside0.mk (bb_ BK306.out hb); replace HB := Aside0.mk (below_step (bel_ HB.out) hb); (try clear hb); (try clear hb2); (try clear hk); (try clear hi); (try clear ho0); (try clear ho1)
        refine hK.out _ _ ⟨bc_ BK225.out 0, bc_ BK225.out 1, bc_ BK225.out 2, bc_ BK226.out 0, bc_ BK226.out 1, bc_ BK226.out 2, bc_ BK226.out 3⟩ (fun hHeld => ?_)
        clear hK K
        refine norm_ (a' := ?_) ?_ ?_
        rotate_left
        ·show Act.put _ (some 94) _ = _
         simp only [Act.put, sA_, sZ_, sS_, i64_w, i32_w]
         rfl
        refine pu_ 6 88 HT_ (bs 12 639) rfl rfl ?_
        refine pu_ 7 95 HT_ (bs 12 767) rfl rfl ?_
        refine pu_ 8 96 HT_ (bs 12 1023) rfl rfl ?_
        exact norm_ (by simp only [putAll, Act.put, sA_, sZ_, sS_]) (hCont (.slice Ao159 t287.length co159, .slice Ao160 t291.length co160, v299, v303, gb306) _ ⟨hHeld, (rn_ HO289.out (fun _ hk => ⟨hk.1.1.1.1.1.1.1.1, ⟨hk.1.2, ⟨hk.2, ⟨hk.1.1.1.1.1.1.1.2, ⟨hk.1.1.1.1.1.1.2, ⟨hk.1.1.1.1.1.2, ⟨hk.1.1.1.1.2, ⟨hk.1.1.1.2, hk.1.1.2⟩⟩⟩⟩⟩⟩⟩⟩)), (rn_ HO293.out (fun _ hk => ⟨hk.1.1.1.1.1.1.1.1, ⟨hk.1.2, ⟨hk.2, ⟨hk.1.1.1.1.1.1.1.2, ⟨hk.1.1.1.1.1.1.2, ⟨hk.1.1.1.1.1.2, ⟨hk.1.1.1.1.2, ⟨hk.1.1.1.2, hk.1.1.2⟩⟩⟩⟩⟩⟩⟩⟩)), (rn_ HO300.out (fun _ hk => ⟨hk.1.2, ⟨hk.2, ⟨hk.1.1.1.1.1.1.1.1, ⟨hk.1.1.1.1.1.1.1.2, ⟨hk.1.1.1.1.1.1.2, ⟨hk.1.1.1.1.1.2, ⟨hk.1.1.1.1.2, ⟨hk.1.1.1.2, hk.1.1.2⟩⟩⟩⟩⟩⟩⟩⟩)), (rn_ HO304.out (fun _ hk => ⟨hk.1.2, ⟨hk.2, ⟨hk.1.1.1.1.1.1.1.1, ⟨hk.1.1.1.1.1.1.1.2, ⟨hk.1.1.1.1.1.1.2, ⟨hk.1.1.1.1.1.2, ⟨hk.1.1.1.1.2, ⟨hk.1.1.1.2, hk.1.1.2⟩⟩⟩⟩⟩⟩⟩⟩)), (rn_ HO_249000.out (fun _ hk => ⟨hk.1.1.1.2, ⟨hk.1.1.2, ⟨hk.1.2, ⟨hk.2, ⟨hk.1.1.1.1.1, ⟨hk.1.1.1.1.2.1, ⟨hk.1.1.1.1.2.2.1, ⟨hk.1.1.1.1.2.2.2.1, hk.1.1.1.1.2.2.2.2⟩⟩⟩⟩⟩⟩⟩⟩)), (rn_ HO_249002.out (fun _ hk => ⟨hk.1.1.1.2, ⟨hk.1.1.2, ⟨hk.1.2, ⟨hk.2, ⟨hk.1.1.1.1.1, ⟨hk.1.1.1.1.2.1, ⟨hk.1.1.1.1.2.2.1, ⟨hk.1.1.1.1.2.2.2.1, hk.1.1.1.1.2.2.2.2⟩⟩⟩⟩⟩⟩⟩⟩)), (rn_ HO_257000.out (fun _ hk => ⟨hk.1.1.1.2, ⟨hk.1.1.2, ⟨hk.1.2, ⟨hk.2, ⟨hk.1.1.1.1.1, ⟨hk.1.1.1.1.2.1, ⟨hk.1.1.1.1.2.2.1, ⟨hk.1.1.1.1.2.2.2.1, hk.1.1.1.1.2.2.2.2⟩⟩⟩⟩⟩⟩⟩⟩)), (rn_ HO_257002.out (fun _ hk => ⟨hk.1.1.1.2, ⟨hk.1.1.2, ⟨hk.1.2, ⟨hk.2, ⟨hk.1.1.1.1.1, ⟨hk.1.1.1.1.2.1, ⟨hk.1.1.1.1.2.2.1, ⟨hk.1.1.1.1.2.2.2.1, hk.1.1.1.1.2.2.2.2⟩⟩⟩⟩⟩⟩⟩⟩)), (rn_ HO_270000.out (fun _ hk => ⟨hk.1.1.1.2, ⟨hk.1.1.2, ⟨hk.1.2, ⟨hk.2, ⟨hk.1.1.1.1.1, ⟨hk.1.1.1.1.2.1, ⟨hk.1.1.1.1.2.2.1, ⟨hk.1.1.1.1.2.2.2.1, hk.1.1.1.1.2.2.2.2⟩⟩⟩⟩⟩⟩⟩⟩)), (rn_ HO_270002.out (fun _ hk => ⟨hk.1.1.1.2, ⟨hk.1.1.2, ⟨hk.1.2, ⟨hk.2, ⟨hk.1.1.1.1.1, ⟨hk.1.1.1.1.2.1, ⟨hk.1.1.1.1.2.2.1, ⟨hk.1.1.1.1.2.2.2.1, hk.1.1.1.1.2.2.2.2⟩⟩⟩⟩⟩⟩⟩⟩)), (fb_ BK225.out), (fb_ BK226.out), (fb_ BK248.out), (fb_ BK256.out), (fb_ BK269.out), (fb_ BK306.out), GW306.out, GE306.out, NB225_306.out, NB306_225.out, NB226_306.out, NB306_226.out, NB248_306.out, NB306_248.out, NB256_306.out, NB306_256.out, NB269_306.out, NB306_269.out, (bel_ HB.out)⟩)
      ·skip
       refine box_step ?hg (N := 16) ?hd (cs := #[.slice none 0 0, .int .i64 0, .slice none 0 0]) (t := 26) ?hr ?_; (case hd => rfl); (case hg => rfl); (case hr => first | (go_simp; done) | (go_simp; rfl))
       intro gb306 hg w156 hbox hb
       replace HO_249000 := Aside0.mk (Kd.R_below (fr_ HO_249000.out) hb); replace HO_249002 := Aside0.mk (Kd.R_below (fr_ HO_249002.out) hb); replace HO_257000 := Aside0.mk (Kd.R_below (fr_ HO_257000.out) hb); replace HO_257002 := Aside0.mk (Kd.R_below (fr_ HO_257002.out) hb); replace HO_270000 := Aside0.mk (Kd.R_below (fr_ HO_270000.out) hb); replace HO_270002 := Aside0.mk (Kd.R_below (fr_ HO_270002.out) hb)
       have BK306 := Aside0.mk (hbox)
       have GW306 := Aside0.mk ((by rw [hg]; exact (below_size (bel_ HB.out)) : w.heap.size ≤ gb306))
       have GE306 := Aside0.mk ((by rw [hg]; exact (below_size (bel_ HB.out)) : w.heap.size ≤ gb306))
       replace HB := Aside0.mk (below_step (bel_ HB.out) hb)
       have NB225_306 := Aside0.mk (nl_ BK225.out hg)
       have NB306_225 := Aside0.mk (ng_ BK225.out hg)
       replace BK225 := Aside0.mk (bb_ BK225.out hb)
       have NB226_306 := Aside0.mk (nl_ BK226.out hg)
       have NB306_226 := Aside0.mk (ng_ BK226.out hg)
       replace BK226 := Aside0.mk (bb_ BK226.out hb)
       have NB248_306 := Aside0.mk (nl_ BK248.out hg)
       have NB306_248 := Aside0.mk (ng_ BK248.out hg)
       replace BK248 := Aside0.mk (bb_ BK248.out hb)
       have NB256_306 := Aside0.mk (nl_ BK256.out hg)
       have NB306_256 := Aside0.mk (ng_ BK256.out hg)
       replace BK256 := Aside0.mk (bb_ BK256.out hb)
       have NB269_306 := Aside0.mk (nl_ BK269.out hg)
       have NB306_269 := Aside0.mk (ng_ BK269.out hg)
       replace BK269 := Aside0.mk (bb_ BK269.out hb); clear hb hbox hg
       refine hK.out _ _ ⟨bc_ BK225.out 0, bc_ BK225.out 1, bc_ BK225.out 2, bc_ BK226.out 0, bc_ BK226.out 1, bc_ BK226.out 2, bc_ BK226.out 3⟩ (fun hHeld => ?_)
       clear hK K
       refine norm_ (a' := ?_) ?_ ?_
       rotate_left
       ·show Act.put _ (some 16) _ = _
        simp only [Act.put, sA_, sZ_, sS_, i64_w, i32_w]
        rfl
       refine one_ (i := 1) (N := some 90) (bs 12 527) rfl rfl (one_of HT_.out (by kernel_rfl)) (by decide) (fun K hK => ?_)
       refine goes_ Try.func17 (by kernel_rfl) rfl #[.agg #[.slice A0_0 l0_0.length c0_0, .int .i64 a0_1, .slice A0_2 l0_2.length c0_2]] (by rfl) rfl rfl ml_ ?_
       with_reducible refine (laws_toParty.calls kj94 _ _ l0_0 a0_1 _ _ l0_2 t287 t290 t291 _ ?side1 ?side2 ?side3 ?side4 A143.out).mono ?_
       (case side1 => exact rc_ (Kd.C_below HR0_0.out HB.out))
       (case side2 => exact HC0_0.out)
       (case side3 => exact rc_ (Kd.C_below HR0_2.out HB.out))
       (case side4 => exact HC0_2.out)
       rintro e w157 ⟨v288, v292, rfl, ho0, ho1, hb⟩
       refine ⟨_, rfl, ?_⟩
       have HO289 := Aside0.mk (Kd.R_lower (Kd.R_new' (Kd.R_new' (Kd.R_new' (Kd.R_new' (Kd.R_new' (Kd.R_new' ho0 (Kd.R_lt (fr_ HO_249000.out))) (Kd.R_lt (fr_ HO_249002.out))) (Kd.R_lt (fr_ HO_257000.out))) (Kd.R_lt (fr_ HO_257002.out))) (Kd.R_lt (fr_ HO_270000.out))) (Kd.R_lt (fr_ HO_270002.out))) (below_size (bel_ HB.out)))
       have HO293 := Aside0.mk (Kd.R_lower (Kd.R_new' (Kd.R_new' (Kd.R_new' (Kd.R_new' (Kd.R_new' (Kd.R_new' ho1 (Kd.R_lt (fr_ HO_249000.out))) (Kd.R_lt (fr_ HO_249002.out))) (Kd.R_lt (fr_ HO_257000.out))) (Kd.R_lt (fr_ HO_257002.out))) (Kd.R_lt (fr_ HO_270000.out))) (Kd.R_lt (fr_ HO_270002.out))) (below_size (bel_ HB.out)))
       replace HO_249000 := Aside0.mk (Kd.R_mono (Kd.R_told (Kd.R_told (Kd.R_old (fr_ HO_249000.out) hb) (Kd.R_base ho0)) (Kd.R_base ho1)) (fun _ h_ => h_.1)); replace HO_249002 := Aside0.mk (Kd.R_mono (Kd.R_told (Kd.R_told (Kd.R_old (fr_ HO_249002.out) hb) (Kd.R_base ho0)) (Kd.R_base ho1)) (fun _ h_ => h_.1)); replace HO_257000 := Aside0.mk (Kd.R_mono (Kd.R_told (Kd.R_told (Kd.R_old (fr_ HO_257000.out) hb) (Kd.R_base ho0)) (Kd.R_base ho1)) (fun _ h_ => h_.1)); replace HO_257002 := Aside0.mk (Kd.R_mono (Kd.R_told (Kd.R_told (Kd.R_old (fr_ HO_257002.out) hb) (Kd.R_base ho0)) (Kd.R_base ho1)) (fun _ h_ => h_.1)); replace HO_270000 := Aside0.mk (Kd.R_mono (Kd.R_told (Kd.R_told (Kd.R_old (fr_ HO_270000.out) hb) (Kd.R_base ho0)) (Kd.R_base ho1)) (fun _ h_ => h_.1)); replace HO_270002 := Aside0.mk (Kd.R_mono (Kd.R_told (Kd.R_told (Kd.R_old (fr_ HO_270002.out) hb) (Kd.R_base ho0)) (Kd.R_base ho1)) (fun _ h_ => h_.1)); replace BK225 := Aside0.mk (bb_ BK225.out hb); replace BK226 := Aside0.mk (bb_ BK226.out hb); replace BK248 := Aside0.mk (bb_ BK248.out hb); replace BK256 := Aside0.mk (bb_ BK256.out hb); replace BK269 := Aside0.mk (bb_ BK269.out hb); replace BK306 := Aside0.mk (bb_ BK306.out hb); replace HB := Aside0.mk (below_step (bel_ HB.out) hb); (try clear hb); (try clear hb2); (try clear hk); (try clear hi); (try clear ho0); (try clear ho1)
       refine hK.out _ _ ⟨bc_ BK225.out 0, bc_ BK225.out 1, bc_ BK225.out 2, bc_ BK226.out 0, bc_ BK226.out 1, bc_ BK226.out 2, bc_ BK226.out 3⟩ (fun hHeld => ?_)
       clear hK K
       refine norm_ (a' := ?_) ?_ ?_
       rotate_left
       ·show Act.put _ (some 90) _ = _
        simp only [Act.put, sA_, sZ_, sS_, i64_w, i32_w]
        rfl
       refine one_ (i := 4) (N := some 93) (bs 12 543) rfl rfl (one_of HT_.out (by kernel_rfl)) (by decide) (fun K hK => ?_)
       refine goes_ Try.func25 (by kernel_rfl) rfl #[.agg #[.int .i64 a2_0, .int .i64 a2_1, .int .i64 a2_2, .string a2_3]] (by rfl) rfl rfl ml_ ?_
       with_reducible refine (laws_toPost.calls a2_0 a2_1 a2_2 a2_3 t294 t295 t296 t297 _ A144.out).mono ?_
       rintro e w158 ⟨rfl, hb⟩
       refine ⟨_, rfl, ?_⟩; replace HO_249000 := Aside0.mk (Kd.R_below (fr_ HO_249000.out) hb); replace HO_249002 := Aside0.mk (Kd.R_below (fr_ HO_249002.out) hb); replace HO_257000 := Aside0.mk (Kd.R_below (fr_ HO_257000.out) hb); replace HO_257002 := Aside0.mk (Kd.R_below (fr_ HO_257002.out) hb); replace HO_270000 := Aside0.mk (Kd.R_below (fr_ HO_270000.out) hb); replace HO_270002 := Aside0.mk (Kd.R_below (fr_ HO_270002.out) hb); replace HO289 := Aside0.mk (Kd.R_below (fr_ HO289.out) hb); replace HO293 := Aside0.mk (Kd.R_below (fr_ HO293.out) hb); replace BK225 := Aside0.mk (bb_ BK225.out hb); replace BK226 := Aside0.mk (bb_ BK226.out hb); replace BK248 := Aside0.mk (bb_ BK248.out hb); replace BK256 := Aside0.mk (bb_ BK256.out hb); replace BK269 := Aside0.mk (bb_ BK269.out hb); replace BK306 := Aside0.mk (bb_ BK306.out hb); replace HB := Aside0.mk (below_step (bel_ HB.out) hb); (try clear hb); (try clear hb2); (try clear hk); (try clear hi)
       obtain ⟨Ao159, co159, eo159⟩ := Kd.R_slice HO289.out
       (first | subst eo159 | (injection eo159 with f1_ f2_ f3_; have f4_ := f1_.symm; have f5_ := f3_.symm; clear f1_ f2_ f3_; subst f4_; subst f5_))
       obtain ⟨Ao160, co160, eo160⟩ := Kd.R_slice HO293.out
       (first | subst eo160 | (injection eo160 with f1_ f2_ f3_; have f4_ := f1_.symm; have f5_ := f3_.symm; clear f1_ f2_ f3_; subst f4_; subst f5_))
       refine hK.out _ _ ⟨bc_ BK225.out 0, bc_ BK225.out 1, bc_ BK225.out 2, bc_ BK226.out 0, bc_ BK226.out 1, bc_ BK226.out 2, bc_ BK226.out 3⟩ (fun hHeld => ?_)
       clear hK K
       refine norm_ (a' := ?_) ?_ ?_
       rotate_left
       ·show Act.put _ (some 93) _ = _
        simp only [Act.put, sA_, sZ_, sS_, i64_w, i32_w]
        rfl
       refine one_ (i := 5) (N := some 94) (bs 12 575) rfl rfl (one_of HT_.out (by kernel_rfl)) (by decide) (fun K hK => ?_)
       refine goes_ Try.func13 (by kernel_rfl) rfl #[.agg #[.slice Ao159 t287.length co159, .int .i64 t290, .slice Ao160 t291.length co160], .int .i64 a1, .agg #[.int .i64 t294, .int .i64 t295, .int .i64 t296, .string t297]] (by rfl) rfl rfl ml_ ?_
       with_reducible refine (impl_Take21.calls kj94 _ _ t287 t290 _ _ t291 a1 t294 t295 t296 t297 t298 t301 t302 t305 _ ?side1 ?side2 ?side3 ?side4 A145.out).mono ?_
       (case side1 => exact rc_ (Kd.R_reads' HO289.out).2.2)
       (case side2 => exact (Kd.R_reads' HO289.out).2.1)
       (case side3 => exact rc_ (Kd.R_reads' HO293.out).2.2)
       (case side4 => exact (Kd.R_reads' HO293.out).2.1)
       rintro e w161 ⟨v299, v303, rfl, ho0, ho1, hb⟩
       refine ⟨_, rfl, ?_⟩
       have HO300 := Aside0.mk (Kd.R_lower (Kd.R_new' (Kd.R_new' (Kd.R_new' (Kd.R_new' (Kd.R_new' (Kd.R_new' (Kd.R_new' (Kd.R_new' ho0 (Kd.R_lt (fr_ HO_249000.out))) (Kd.R_lt (fr_ HO_249002.out))) (Kd.R_lt (fr_ HO_257000.out))) (Kd.R_lt (fr_ HO_257002.out))) (Kd.R_lt (fr_ HO_270000.out))) (Kd.R_lt (fr_ HO_270002.out))) (Kd.R_lt (fr_ HO289.out))) (Kd.R_lt (fr_ HO293.out))) (below_size (bel_ HB.out)))
       have HO304 := Aside0.mk (Kd.R_lower (Kd.R_new' (Kd.R_new' (Kd.R_new' (Kd.R_new' (Kd.R_new' (Kd.R_new' (Kd.R_new' (Kd.R_new' ho1 (Kd.R_lt (fr_ HO_249000.out))) (Kd.R_lt (fr_ HO_249002.out))) (Kd.R_lt (fr_ HO_257000.out))) (Kd.R_lt (fr_ HO_257002.out))) (Kd.R_lt (fr_ HO_270000.out))) (Kd.R_lt (fr_ HO_270002.out))) (Kd.R_lt (fr_ HO289.out))) (Kd.R_lt (fr_ HO293.out))) (below_size (bel_ HB.out)))
       replace HO_249000 := Aside0.mk (Kd.R_mono (Kd.R_told (Kd.R_told (Kd.R_old (fr_ HO_249000.out) hb) (Kd.R_base ho0)) (Kd.R_base ho1)) (fun _ h_ => h_.1)); replace HO_249002 := Aside0.mk (Kd.R_mono (Kd.R_told (Kd.R_told (Kd.R_old (fr_ HO_249002.out) hb) (Kd.R_base ho0)) (Kd.R_base ho1)) (fun _ h_ => h_.1)); replace HO_257000 := Aside0.mk (Kd.R_mono (Kd.R_told (Kd.R_told (Kd.R_old (fr_ HO_257000.out) hb) (Kd.R_base ho0)) (Kd.R_base ho1)) (fun _ h_ => h_.1)); replace HO_257002 := Aside0.mk (Kd.R_mono (Kd.R_told (Kd.R_told (Kd.R_old (fr_ HO_257002.out) hb) (Kd.R_base ho0)) (Kd.R_base ho1)) (fun _ h_ => h_.1)); replace HO_270000 := Aside0.mk (Kd.R_mono (Kd.R_told (Kd.R_told (Kd.R_old (fr_ HO_270000.out) hb) (Kd.R_base ho0)) (Kd.R_base ho1)) (fun _ h_ => h_.1)); replace HO_270002 := Aside0.mk (Kd.R_mono (Kd.R_told (Kd.R_told (Kd.R_old (fr_ HO_270002.out) hb) (Kd.R_base ho0)) (Kd.R_base ho1)) (fun _ h_ => h_.1)); replace HO289 := Aside0.mk (Kd.R_mono (Kd.R_told (Kd.R_told (Kd.R_old (fr_ HO289.out) hb) (Kd.R_base ho0)) (Kd.R_base ho1)) (fun _ h_ => h_.1)); replace HO293 := Aside0.mk (Kd.R_mono (Kd.R_told (Kd.R_told (Kd.R_old (fr_ HO293.out) hb) (Kd.R_base ho0)) (Kd.R_base ho1)) (fun _ h_ => h_.1)); replace BK225 := Aside0.mk (bb_ BK225.out hb); replace BK226 := Aside0.mk (bb_ BK226.out hb); replace BK248 := Aside0.mk (bb_ BK248.out hb); replace BK256 := Aside0.mk (bb_ BK256.out hb); replace BK269 := Aside0.mk (bb_ BK269.out hb); replace BK306 := Aside0.mk (bb_ BK306.out hb); replace HB := Aside0.mk (below_step (bel_ HB.out) hb); (try clear hb); (try clear hb2); (try clear hk); (try clear hi); (try clear ho0); (try clear ho1)
       refine hK.out _ _ ⟨bc_ BK225.out 0, bc_ BK225.out 1, bc_ BK225.out 2, bc_ BK226.out 0, bc_ BK226.out 1, bc_ BK226.out 2, bc_ BK226.out 3⟩ (fun hHeld => ?_)
       clear hK K
       refine norm_ (a' := ?_) ?_ ?_
       rotate_left
       ·show Act.put _ (some 94) _ = _
        simp only [Act.put, sA_, sZ_, sS_, i64_w, i32_w]
        rfl
       refine pu_ 6 88 HT_ (bs 12 639) rfl rfl ?_
       refine pu_ 7 95 HT_ (bs 12 767) rfl rfl ?_
       refine pu_ 8 96 HT_ (bs 12 1023) rfl rfl ?_
       exact norm_ (by simp only [putAll, Act.put, sA_, sZ_, sS_]) (hCont (.slice Ao159 t287.length co159, .slice Ao160 t291.length co160, v299, v303, gb306) _ ⟨hHeld, (rn_ HO289.out (fun _ hk => ⟨hk.1.1.1.1.1.1.1.1, ⟨hk.1.2, ⟨hk.2, ⟨hk.1.1.1.1.1.1.1.2, ⟨hk.1.1.1.1.1.1.2, ⟨hk.1.1.1.1.1.2, ⟨hk.1.1.1.1.2, ⟨hk.1.1.1.2, hk.1.1.2⟩⟩⟩⟩⟩⟩⟩⟩)), (rn_ HO293.out (fun _ hk => ⟨hk.1.1.1.1.1.1.1.1, ⟨hk.1.2, ⟨hk.2, ⟨hk.1.1.1.1.1.1.1.2, ⟨hk.1.1.1.1.1.1.2, ⟨hk.1.1.1.1.1.2, ⟨hk.1.1.1.1.2, ⟨hk.1.1.1.2, hk.1.1.2⟩⟩⟩⟩⟩⟩⟩⟩)), (rn_ HO300.out (fun _ hk => ⟨hk.1.2, ⟨hk.2, ⟨hk.1.1.1.1.1.1.1.1, ⟨hk.1.1.1.1.1.1.1.2, ⟨hk.1.1.1.1.1.1.2, ⟨hk.1.1.1.1.1.2, ⟨hk.1.1.1.1.2, ⟨hk.1.1.1.2, hk.1.1.2⟩⟩⟩⟩⟩⟩⟩⟩)), (rn_ HO304.out (fun _ hk => ⟨hk.1.2, ⟨hk.2, ⟨hk.1.1.1.1.1.1.1.1, ⟨hk.1.1.1.1.1.1.1.2, ⟨hk.1.1.1.1.1.1.2, ⟨hk.1.1.1.1.1.2, ⟨hk.1.1.1.1.2, ⟨hk.1.1.1.2, hk.1.1.2⟩⟩⟩⟩⟩⟩⟩⟩)), (rn_ HO_249000.out (fun _ hk => ⟨hk.1.1.1.2, ⟨hk.1.1.2, ⟨hk.1.2, ⟨hk.2, ⟨hk.1.1.1.1.1, ⟨hk.1.1.1.1.2.1, ⟨hk.1.1.1.1.2.2.1, ⟨hk.1.1.1.1.2.2.2.1, hk.1.1.1.1.2.2.2.2⟩⟩⟩⟩⟩⟩⟩⟩)), (rn_ HO_249002.out (fun _ hk => ⟨hk.1.1.1.2, ⟨hk.1.1.2, ⟨hk.1.2, ⟨hk.2, ⟨hk.1.1.1.1.1, ⟨hk.1.1.1.1.2.1, ⟨hk.1.1.1.1.2.2.1, ⟨hk.1.1.1.1.2.2.2.1, hk.1.1.1.1.2.2.2.2⟩⟩⟩⟩⟩⟩⟩⟩)), (rn_ HO_257000.out (fun _ hk => ⟨hk.1.1.1.2, ⟨hk.1.1.2, ⟨hk.1.2, ⟨hk.2, ⟨hk.1.1.1.1.1, ⟨hk.1.1.1.1.2.1, ⟨hk.1.1.1.1.2.2.1, ⟨hk.1.1.1.1.2.2.2.1, hk.1.1.1.1.2.2.2.2⟩⟩⟩⟩⟩⟩⟩⟩)), (rn_ HO_257002.out (fun _ hk => ⟨hk.1.1.1.2, ⟨hk.1.1.2, ⟨hk.1.2, ⟨hk.2, ⟨hk.1.1.1.1.1, ⟨hk.1.1.1.1.2.1, ⟨hk.1.1.1.1.2.2.1, ⟨hk.1.1.1.1.2.2.2.1, hk.1.1.1.1.2.2.2.2⟩⟩⟩⟩⟩⟩⟩⟩)), (rn_ HO_270000.out (fun _ hk => ⟨hk.1.1.1.2, ⟨hk.1.1.2, ⟨hk.1.2, ⟨hk.2, ⟨hk.1.1.1.1.1, ⟨hk.1.1.1.1.2.1, ⟨hk.1.1.1.1.2.2.1, ⟨hk.1.1.1.1.2.2.2.1, hk.1.1.1.1.2.2.2.2⟩⟩⟩⟩⟩⟩⟩⟩)), (rn_ HO_270002.out (fun _ hk => ⟨hk.1.1.1.2, ⟨hk.1.1.2, ⟨hk.1.2, ⟨hk.2, ⟨hk.1.1.1.1.1, ⟨hk.1.1.1.1.2.1, ⟨hk.1.1.1.1.2.2.1, ⟨hk.1.1.1.1.2.2.2.1, hk.1.1.1.1.2.2.2.2⟩⟩⟩⟩⟩⟩⟩⟩)), (fb_ BK225.out), (fb_ BK226.out), (fb_ BK248.out), (fb_ BK256.out), (fb_ BK269.out), (fb_ BK306.out), GW306.out, GE306.out, NB225_306.out, NB306_225.out, NB226_306.out, NB306_226.out, NB248_306.out, NB306_248.out, NB256_306.out, NB306_256.out, NB269_306.out, NB306_269.out, (bel_ HB.out)⟩)
     rintro ⟨v288, v292, v299, v303, gb306⟩ w162 ⟨hS_, h0_, h1_, h2_, h3_, h4_, h5_, h6_, h7_, h8_, h9_, h10_, h11_, h12_, h13_, h14_, h15_, h16_, h17_, h18_, h19_, h20_, h21_, h22_, h23_, h24_, h25_, h26_, h27_, h28_⟩
     (try dsimp only at h0_); have n0_ := Aside0.mk h0_
     (try dsimp only at h1_); have n1_ := Aside0.mk h1_
     (try dsimp only at h2_); have n2_ := Aside0.mk h2_
     (try dsimp only at h3_); have n3_ := Aside0.mk h3_
     (try dsimp only at h4_); have n4_ := Aside0.mk h4_
     (try dsimp only at h5_); have n5_ := Aside0.mk h5_
     (try dsimp only at h6_); have n6_ := Aside0.mk h6_
     (try dsimp only at h7_); have n7_ := Aside0.mk h7_
     (try dsimp only at h8_); have n8_ := Aside0.mk h8_
     (try dsimp only at h9_); have n9_ := Aside0.mk h9_
     (try dsimp only at h10_); have n10_ := Aside0.mk h10_
     (try dsimp only at h11_); have n11_ := Aside0.mk h11_
     (try dsimp only at h12_); have n12_ := Aside0.mk h12_
     (try dsimp only at h13_); have n13_ := Aside0.mk h13_
     (try dsimp only at h14_); have n14_ := Aside0.mk h14_
     (try dsimp only at h15_); have n15_ := Aside0.mk h15_
     (try dsimp only at h16_); have n16_ := Aside0.mk h16_
     (try dsimp only at h17_); have n17_ := Aside0.mk h17_
     (try dsimp only at h18_); have n18_ := Aside0.mk h18_
     (try dsimp only at h19_); have n19_ := Aside0.mk h19_
     (try dsimp only at h20_); have n20_ := Aside0.mk h20_
     (try dsimp only at h21_); have n21_ := Aside0.mk h21_
     (try dsimp only at h22_); have n22_ := Aside0.mk h22_
     (try dsimp only at h23_); have n23_ := Aside0.mk h23_
     (try dsimp only at h24_); have n24_ := Aside0.mk h24_
     (try dsimp only at h25_); have n25_ := Aside0.mk h25_
     (try dsimp only at h26_); have n26_ := Aside0.mk h26_
     (try dsimp only at h27_); have n27_ := Aside0.mk h27_
     (try dsimp only at h28_); have n28_ := Aside0.mk h28_
     clear HO_249000 HO_249002 HO_257000 HO_257002 HO_270000 HO_270002 BK225 BK226 BK248 BK256 BK269 HB h0_ h1_ h2_ h3_ h4_ h5_ h6_ h7_ h8_ h9_ h10_ h11_ h12_ h13_ h14_ h15_ h16_ h17_ h18_ h19_ h20_ h21_ h22_ h23_ h24_ h25_ h26_ h27_ h28_
     have HO289 := n0_
     have HO293 := n1_
     have HO300 := n2_
     have HO304 := n3_
     have HO_249000 := n4_
     have HO_249002 := n5_
     have HO_257000 := n6_
     have HO_257002 := n7_
     have HO_270000 := n8_
     have HO_270002 := n9_
     have BK225 := n10_
     have BK226 := n11_
     have BK248 := n12_
     have BK256 := n13_
     have BK269 := n14_
     have BK306 := n15_
     have GW306 := n16_
     have GE306 := n17_
     have NB225_306 := n18_
     have NB306_225 := n19_
     have NB226_306 := n20_
     have NB306_226 := n21_
     have NB248_306 := n22_
     have NB306_248 := n23_
     have NB256_306 := n24_
     have NB306_256 := n25_
     have NB269_306 := n26_
     have NB306_269 := n27_
     have HB := n28_
     clear n0_ n1_ n2_ n3_ n4_ n5_ n6_ n7_ n8_ n9_ n10_ n11_ n12_ n13_ n14_ n15_ n16_ n17_ n18_ n19_ n20_ n21_ n22_ n23_ n24_ n25_ n26_ n27_ n28_
     have hHeld : w162.cell? ⟨gb225, 0, none⟩ = some (.slice A0_0 l0_0.length c0_0) ∧ w162.cell? ⟨gb225, 1, none⟩ = some (.int .i64 a0_1) ∧ w162.cell? ⟨gb225, 2, none⟩ = some (.slice A0_2 l0_2.length c0_2) ∧ w162.cell? ⟨gb226, 0, none⟩ = some (.int .i64 a2_0) ∧ w162.cell? ⟨gb226, 1, none⟩ = some (.int .i64 a2_1) ∧ w162.cell? ⟨gb226, 2, none⟩ = some (.int .i64 a2_2) ∧ w162.cell? ⟨gb226, 3, none⟩ = some (.string a2_3) := hS_
     obtain ⟨Ao163, co163, eo163⟩ := Kd.R_slice HO300.out
     (first | subst eo163 | (injection eo163 with f1_ f2_ f3_; have f4_ := f1_.symm; have f5_ := f3_.symm; clear f1_ f2_ f3_; subst f4_; subst f5_))
     obtain ⟨Ao166, co166, eo166⟩ := Kd.R_slice HO304.out
     (first | subst eo166 | (injection eo166 with f1_ f2_ f3_; have f4_ := f1_.symm; have f5_ := f3_.symm; clear f1_ f2_ f3_; subst f4_; subst f5_))
     refine norm_ (a' := ?_) ?_ ?_
     rotate_left
     ·simp only [putAll, Act.put, sA_, sZ_, sS_]
      rfl
     refine one_ (i := 10) (N := none) (bs 12 2047) rfl rfl (one_of HT_.out (by kernel_rfl)) (by decide) (fun K hK => ?_)
     have hs164 : w162.cell? ⟨gb306, 0, none⟩ = some (.slice none 0 0) := bc_ BK306.out 0
     have hfs164 := blk_frozen BK306.out 0
     have hns164_0 := NB225_306.out
     have hns164_1 := NB226_306.out
     have hns164_2 := NB248_306.out
     have hns164_3 := NB256_306.out
     have hns164_4 := NB269_306.out
     have hms164_0 := NB306_225.out
     have hms164_1 := NB306_226.out
     have hms164_2 := NB306_248.out
     have hms164_3 := NB306_256.out
     have hms164_4 := NB306_269.out
     have hs165 : w162.cell? ⟨gb306, 1, none⟩ = some (.int .i64 0) := bc_ BK306.out 1
     have hfs165 := blk_frozen BK306.out 1
     have hns165_0 := NB225_306.out
     have hns165_1 := NB226_306.out
     have hns165_2 := NB248_306.out
     have hns165_3 := NB256_306.out
     have hns165_4 := NB269_306.out
     have hms165_0 := NB306_225.out
     have hms165_1 := NB306_226.out
     have hms165_2 := NB306_248.out
     have hms165_3 := NB306_256.out
     have hms165_4 := NB306_269.out
     have hs167 : w162.cell? ⟨gb306, 2, none⟩ = some (.slice none 0 0) := bc_ BK306.out 2
     have hfs167 := blk_frozen BK306.out 2
     have hns167_0 := NB225_306.out
     have hns167_1 := NB226_306.out
     have hns167_2 := NB248_306.out
     have hns167_3 := NB256_306.out
     have hns167_4 := NB269_306.out
     have hms167_0 := NB306_225.out
     have hms167_1 := NB306_226.out
     have hms167_2 := NB306_248.out
     have hms167_3 := NB306_256.out
     have hms167_4 := NB306_269.out
     refine skip_ (w1 := ?_) (by rfl) rfl ?_ ?_
     rotate_left
     ·go_simp
      rfl
     refine hK.out _ _ ⟨((cell_far (p := ⟨gb306, _, none⟩) NB225_306.out _).trans (((cell_far (p := ⟨gb306, _, none⟩) NB225_306.out _).trans (((cell_far (p := ⟨gb306, _, none⟩) NB225_306.out _).trans (hHeld.1)))))), ((cell_far (p := ⟨gb306, _, none⟩) NB225_306.out _).trans (((cell_far (p := ⟨gb306, _, none⟩) NB225_306.out _).trans (((cell_far (p := ⟨gb306, _, none⟩) NB225_306.out _).trans (hHeld.2.1)))))), ((cell_far (p := ⟨gb306, _, none⟩) NB225_306.out _).trans (((cell_far (p := ⟨gb306, _, none⟩) NB225_306.out _).trans (((cell_far (p := ⟨gb306, _, none⟩) NB225_306.out _).trans (hHeld.2.2.1)))))), ((cell_far (p := ⟨gb306, _, none⟩) NB226_306.out _).trans (((cell_far (p := ⟨gb306, _, none⟩) NB226_306.out _).trans (((cell_far (p := ⟨gb306, _, none⟩) NB226_306.out _).trans (hHeld.2.2.2.1)))))), ((cell_far (p := ⟨gb306, _, none⟩) NB226_306.out _).trans (((cell_far (p := ⟨gb306, _, none⟩) NB226_306.out _).trans (((cell_far (p := ⟨gb306, _, none⟩) NB226_306.out _).trans (hHeld.2.2.2.2.1)))))), ((cell_far (p := ⟨gb306, _, none⟩) NB226_306.out _).trans (((cell_far (p := ⟨gb306, _, none⟩) NB226_306.out _).trans (((cell_far (p := ⟨gb306, _, none⟩) NB226_306.out _).trans (hHeld.2.2.2.2.2.1)))))), ((cell_far (p := ⟨gb306, _, none⟩) NB226_306.out _).trans (((cell_far (p := ⟨gb306, _, none⟩) NB226_306.out _).trans (((cell_far (p := ⟨gb306, _, none⟩) NB226_306.out _).trans (hHeld.2.2.2.2.2.2))))))⟩ (fun hHeld => ?_)
     clear hK K
     refine pu_ 11 17 HT_ (bs 12 4095) rfl rfl ?_
     refine done_ (done_of HT_.out (by kernel_rfl)) ?_
     go_upto_region 28 with (fail)
     go_cut [105] (fun v105 wc => ∃ (kq : Nat) (x105_145 : Bool), v105 = .bool x105_145 ∧ Aside0 (laws_FnExactTake21.j2 kq t283 x105_145 t284 t264 t285 = some r) ∧ Aside0 (kq ≤ kj94) ∧ Aside0 (Kd.R Kd.string 9 wc w.heap.size (fun k_ => some k_ ≠ ((.slice Ao45 t244.length co45) : Value).ownBlock ∧ some k_ ≠ ((.slice Ao51 t280.length co51) : Value).ownBlock ∧ some k_ ≠ ((.slice Ao56 t281.length co56) : Value).ownBlock ∧ some k_ ≠ ((.slice Ao63 t261.length co63) : Value).ownBlock ∧ some k_ ≠ ((.slice Ao66 t265.length co66) : Value).ownBlock ∧ some k_ ≠ ((.slice Ao163 t298.length co163) : Value).ownBlock ∧ some k_ ≠ ((.slice Ao166 t302.length co166) : Value).ownBlock) (.slice Ao42 t240.length co42) t240) ∧ Aside0 (Kd.R Kd.string 9 wc w.heap.size (fun k_ => some k_ ≠ ((.slice Ao42 t240.length co42) : Value).ownBlock ∧ some k_ ≠ ((.slice Ao51 t280.length co51) : Value).ownBlock ∧ some k_ ≠ ((.slice Ao56 t281.length co56) : Value).ownBlock ∧ some k_ ≠ ((.slice Ao63 t261.length co63) : Value).ownBlock ∧ some k_ ≠ ((.slice Ao66 t265.length co66) : Value).ownBlock ∧ some k_ ≠ ((.slice Ao163 t298.length co163) : Value).ownBlock ∧ some k_ ≠ ((.slice Ao166 t302.length co166) : Value).ownBlock) (.slice Ao45 t244.length co45) t244) ∧ Aside0 (Kd.R Kd.string 9 wc w.heap.size (fun k_ => some k_ ≠ ((.slice Ao42 t240.length co42) : Value).ownBlock ∧ some k_ ≠ ((.slice Ao45 t244.length co45) : Value).ownBlock ∧ some k_ ≠ ((.slice Ao56 t281.length co56) : Value).ownBlock ∧ some k_ ≠ ((.slice Ao63 t261.length co63) : Value).ownBlock ∧ some k_ ≠ ((.slice Ao66 t265.length co66) : Value).ownBlock ∧ some k_ ≠ ((.slice Ao163 t298.length co163) : Value).ownBlock ∧ some k_ ≠ ((.slice Ao166 t302.length co166) : Value).ownBlock) (.slice Ao51 t280.length co51) t280) ∧ Aside0 (Kd.R Kd.string 9 wc w.heap.size (fun k_ => some k_ ≠ ((.slice Ao42 t240.length co42) : Value).ownBlock ∧ some k_ ≠ ((.slice Ao45 t244.length co45) : Value).ownBlock ∧ some k_ ≠ ((.slice Ao51 t280.length co51) : Value).ownBlock ∧ some k_ ≠ ((.slice Ao63 t261.length co63) : Value).ownBlock ∧ some k_ ≠ ((.slice Ao66 t265.length co66) : Value).ownBlock ∧ some k_ ≠ ((.slice Ao163 t298.length co163) : Value).ownBlock ∧ some k_ ≠ ((.slice Ao166 t302.length co166) : Value).ownBlock) (.slice Ao56 t281.length co56) t281) ∧ Aside0 (Kd.R Kd.string 9 wc w.heap.size (fun k_ => some k_ ≠ ((.slice Ao42 t240.length co42) : Value).ownBlock ∧ some k_ ≠ ((.slice Ao45 t244.length co45) : Value).ownBlock ∧ some k_ ≠ ((.slice Ao51 t280.length co51) : Value).ownBlock ∧ some k_ ≠ ((.slice Ao56 t281.length co56) : Value).ownBlock ∧ some k_ ≠ ((.slice Ao66 t265.length co66) : Value).ownBlock ∧ some k_ ≠ ((.slice Ao163 t298.length co163) : Value).ownBlock ∧ some k_ ≠ ((.slice Ao166 t302.length co166) : Value).ownBlock) (.slice Ao63 t261.length co63) t284) ∧ Aside0 (Kd.R Kd.string 9 wc w.heap.size (fun k_ => some k_ ≠ ((.slice Ao42 t240.length co42) : Value).ownBlock ∧ some k_ ≠ ((.slice Ao45 t244.length co45) : Value).ownBlock ∧ some k_ ≠ ((.slice Ao51 t280.length co51) : Value).ownBlock ∧ some k_ ≠ ((.slice Ao56 t281.length co56) : Value).ownBlock ∧ some k_ ≠ ((.slice Ao63 t261.length co63) : Value).ownBlock ∧ some k_ ≠ ((.slice Ao163 t298.length co163) : Value).ownBlock ∧ some k_ ≠ ((.slice Ao166 t302.length co166) : Value).ownBlock) (.slice Ao66 t265.length co66) t285) ∧ Aside0 (Kd.R Kd.string 9 wc w.heap.size (fun k_ => some k_ ≠ ((.slice Ao42 t240.length co42) : Value).ownBlock ∧ some k_ ≠ ((.slice Ao45 t244.length co45) : Value).ownBlock ∧ some k_ ≠ ((.slice Ao51 t280.length co51) : Value).ownBlock ∧ some k_ ≠ ((.slice Ao56 t281.length co56) : Value).ownBlock ∧ some k_ ≠ ((.slice Ao63 t261.length co63) : Value).ownBlock ∧ some k_ ≠ ((.slice Ao66 t265.length co66) : Value).ownBlock ∧ some k_ ≠ ((.slice Ao166 t302.length co166) : Value).ownBlock) (.slice Ao163 t298.length co163) t298) ∧ Aside0 (Kd.R Kd.string 9 wc w.heap.size (fun k_ => some k_ ≠ ((.slice Ao42 t240.length co42) : Value).ownBlock ∧ some k_ ≠ ((.slice Ao45 t244.length co45) : Value).ownBlock ∧ some k_ ≠ ((.slice Ao51 t280.length co51) : Value).ownBlock ∧ some k_ ≠ ((.slice Ao56 t281.length co56) : Value).ownBlock ∧ some k_ ≠ ((.slice Ao63 t261.length co63) : Value).ownBlock ∧ some k_ ≠ ((.slice Ao66 t265.length co66) : Value).ownBlock ∧ some k_ ≠ ((.slice Ao163 t298.length co163) : Value).ownBlock) (.slice Ao166 t302.length co166) t302) ∧ Aside0 (wc.heap[gb225]? = some (.cells #[(.slice A0_0 l0_0.length c0_0), .int .i64 a0_1, (.slice A0_2 l0_2.length c0_2)] 42 (0, 0))) ∧ Aside0 (wc.heap[gb226]? = some (.cells #[.int .i64 a2_0, .int .i64 a2_1, .int .i64 a2_2, .string a2_3] 50 (0, 0))) ∧ Aside0 (wc.heap[gb248]? = some (.cells #[(.slice Ao42 t240.length co42), .int .i64 t243, (.slice Ao45 t244.length co45)] 26 (0, 0))) ∧ Aside0 (wc.heap[gb256]? = some (.cells #[(.slice Ao51 t280.length co51), .int .i64 t252, (.slice Ao56 t281.length co56)] 26 (0, 0))) ∧ Aside0 (wc.heap[gb269]? = some (.cells #[(.slice Ao63 t261.length co63), .int .i64 t264, (.slice Ao66 t265.length co66)] 26 (0, 0))) ∧ Aside0 (wc.heap[gb306]? = some (.cells #[(.slice Ao163 t298.length co163), .int .i64 t301, (.slice Ao166 t302.length co166)] 26 (0, 0))) ∧ Aside0 (Below w.heap.size w wc))
     case first =>
      have H := HC146.out
      clear HC146; replace H := Option.bind_eq_some_iff.mp H
      obtain ⟨t307, A1680, H⟩ := H
      replace H : (if t307 = true then (laws_FnExactTake21.j2 kj94 t283 (t305 != t247) t284 t264 t285) else (laws_FnExactTake21.j2 kj94 t283 true t284 t264 t285)) = some r := H
      have A168 := Aside0.mk A1680
      clear A1680
      by_cases c169 : t307 = true
      ·subst c169
       have H1 : (laws_FnExactTake21.j2 kj94 t283 (t305 != t247) t284 t264 t285) = some r := by rw [if_pos rfl] at H; exact H
       clear H
       have H := H1
       clear H1
       have H' := Aside0.mk H
       clear H; have hnb170 := NB306_225.out; have hnc170 := NB225_306.out; have hnb171 := NB306_226.out; have hnc171 := NB226_306.out; have hnb172 := NB306_248.out; have hnc172 := NB248_306.out; have hnb173 := NB306_256.out; have hnc173 := NB256_306.out; have hnb174 := NB306_269.out; have hnc174 := NB269_306.out; have hcz175_0 : w162.cell? ⟨gb306, 0, none⟩ = some (.slice none 0 0) := bc_ BK306.out 0; have hcz175_1 : w162.cell? ⟨gb306, 1, none⟩ = some (.int .i64 0) := bc_ BK306.out 1; have hcz175_2 : w162.cell? ⟨gb306, 2, none⟩ = some (.slice none 0 0) := bc_ BK306.out 2; have hfz175_0 := blk_frozen BK306.out 0; have hfz175_1 := blk_frozen BK306.out 1; have hfz175_2 := blk_frozen BK306.out 2; have hnb176 := NB248_225.out; have hnc176 := NB225_248.out; have hnb177 := NB248_226.out; have hnc177 := NB226_248.out; have hnb178 := NB248_256.out; have hnc178 := NB256_248.out; have hnb179 := NB248_269.out; have hnc179 := NB269_248.out; have hcz180_0 : w162.cell? ⟨gb248, 0, none⟩ = some (.slice Ao42 t240.length co42) := bc_ BK248.out 0; have hcz180_1 : w162.cell? ⟨gb248, 1, none⟩ = some (.int .i64 t243) := bc_ BK248.out 1; have hcz180_2 : w162.cell? ⟨gb248, 2, none⟩ = some (.slice Ao45 t244.length co45) := bc_ BK248.out 2; have hfz180_0 := blk_frozen BK248.out 0; have hfz180_1 := blk_frozen BK248.out 1; have hfz180_2 := blk_frozen BK248.out 2
       go_wp2_with (first | ((with_reducible refine gate_callee (f := 18) rfl ?_); refine goesL_ (some 99) rfl rfl Try.func18 (by kernel_rfl) rfl #[.agg #[.slice Ao163 t298.length co163, .int .i64 t301, .slice Ao166 t302.length co166], .agg #[.slice Ao42 t240.length co42, .int .i64 t243, .slice Ao45 t244.length co45]] rfl ml_ ?_; (with_reducible refine (laws_eqParty.calls kj94 _ _ t298 t301 _ _ t302 _ _ t240 t243 _ _ t244 true _ ?side1 ?side2 ?side3 ?side4 ?side5 ?side6 ?side7 ?side8 A168.out).mono ?_); (case side1 => exact (Kd.R_reads' (rf1_ (rt_ HO300.out BK306.out))).2.2); (case side2 => exact (Kd.R_reads' HO300.out).2.1); (case side3 => exact (Kd.R_reads' (rf1_ (rt_ HO304.out BK306.out))).2.2); (case side4 => exact (Kd.R_reads' HO304.out).2.1); (case side5 => exact (Kd.R_reads' (rf1_ (rt_ HO_249000.out BK306.out))).2.2); (case side6 => exact (Kd.R_reads' HO_249000.out).2.1); (case side7 => exact (Kd.R_reads' (rf1_ (rt_ HO_249002.out BK306.out))).2.2); (case side8 => exact (Kd.R_reads' HO_249002.out).2.1); rintro e w181 ⟨rfl, hb⟩; refine ⟨_, rfl, ?_⟩; replace HO_249000 := Aside0.mk (Kd.R_below (rf1_ (rt_ HO_249000.out BK306.out)) hb); replace HO_249002 := Aside0.mk (Kd.R_below (rf1_ (rt_ HO_249002.out BK306.out)) hb); replace HO_257000 := Aside0.mk (Kd.R_below (rf1_ (rt_ HO_257000.out BK306.out)) hb); replace HO_257002 := Aside0.mk (Kd.R_below (rf1_ (rt_ HO_257002.out BK306.out)) hb); replace HO_270000 := Aside0.mk (Kd.R_below (rf1_ (rt_ HO_270000.out BK306.out)) hb); replace HO_270002 := Aside0.mk (Kd.R_below (rf1_ (rt_ HO_270002.out BK306.out)) hb); replace HO289 := Aside0.mk (Kd.R_below (rf1_ (rt_ HO289.out BK306.out)) hb); replace HO293 := Aside0.mk (Kd.R_below (rf1_ (rt_ HO293.out BK306.out)) hb); replace HO300 := Aside0.mk (Kd.R_below (rf1_ (rt_ HO300.out BK306.out)) hb); replace HO304 := Aside0.mk (Kd.R_below (rf1_ (rt_ HO304.out BK306.out)) hb); replace BK225 := Aside0.mk (ba_ BK225.out hb); replace BK226 := Aside0.mk (ba_ BK226.out hb); replace BK248 := Aside0.mk (ba_ BK248.out hb); replace BK256 := Aside0.mk (ba_ BK256.out hb); replace BK269 := Aside0.mk (ba_ BK269.out hb); replace BK306 := Aside0.mk (blk_below (g := gb306) (o := .cells #[.slice Ao163 t298.length co163, .int .i64 t301, .slice Ao166 t302.length co166] 26 (0, 0)) (by refine rp_ ?_; refine blk_put (cs := #[.slice Ao163 t298.length co163, .int .i64 t301, .slice none 0 0]) ?_ 2 _ rfl; refine rp_ ?_; refine blk_put (cs := #[.slice Ao163 t298.length co163, .int .i64 0, .slice none 0 0]) ?_ 1 _ rfl; refine rp_ ?_; refine blk_put (cs := #[.slice none 0 0, .int .i64 0, .slice none 0 0]) ?_ 0 _ rfl; refine rp_ ?_; exact BK306.out) hb); replace HB := Aside0.mk (below_step (bel_ HB.out) hb); (try clear hb); (try clear hb2); (try clear hk); (try clear hi)))
       go_meet
       case rel => exact ⟨_, ((t305 != t247)), rl_, H', ⟨by have := HJ25.out; have := HJ94.out; first | omega | exact Nat.le_refl _⟩, ⟨by (try simp only [hl257000_94]); (try simp only [hl257002_94]); (with_reducible repeat (first | apply Kd.R_alloc | apply Kd.R_drewN | apply Kd.R_drew)); exact Kd.R_mono HO_249000.out (fun _ hk => ⟨hk.2.2.2.2.1, ⟨hk.2.2.2.2.2.1, ⟨hk.2.2.2.2.2.2.1, ⟨hk.2.2.2.2.2.2.2.1, ⟨hk.2.2.2.2.2.2.2.2, ⟨hk.2.2.1, hk.2.2.2.1⟩⟩⟩⟩⟩⟩)⟩, ⟨by (try simp only [hl257000_94]); (try simp only [hl257002_94]); (with_reducible repeat (first | apply Kd.R_alloc | apply Kd.R_drewN | apply Kd.R_drew)); exact Kd.R_mono HO_249002.out (fun _ hk => ⟨hk.2.2.2.2.1, ⟨hk.2.2.2.2.2.1, ⟨hk.2.2.2.2.2.2.1, ⟨hk.2.2.2.2.2.2.2.1, ⟨hk.2.2.2.2.2.2.2.2, ⟨hk.2.2.1, hk.2.2.2.1⟩⟩⟩⟩⟩⟩)⟩, ⟨by (try simp only [hl257000_94]); (try simp only [hl257002_94]); (with_reducible repeat (first | apply Kd.R_alloc | apply Kd.R_drewN | apply Kd.R_drew)); exact Kd.R_mono HO_257000.out (fun _ hk => ⟨hk.2.2.2.2.1, ⟨hk.2.2.2.2.2.1, ⟨hk.2.2.2.2.2.2.1, ⟨hk.2.2.2.2.2.2.2.1, ⟨hk.2.2.2.2.2.2.2.2, ⟨hk.2.2.1, hk.2.2.2.1⟩⟩⟩⟩⟩⟩)⟩, ⟨by (try simp only [hl257000_94]); (try simp only [hl257002_94]); (with_reducible repeat (first | apply Kd.R_alloc | apply Kd.R_drewN | apply Kd.R_drew)); exact Kd.R_mono HO_257002.out (fun _ hk => ⟨hk.2.2.2.2.1, ⟨hk.2.2.2.2.2.1, ⟨hk.2.2.2.2.2.2.1, ⟨hk.2.2.2.2.2.2.2.1, ⟨hk.2.2.2.2.2.2.2.2, ⟨hk.2.2.1, hk.2.2.2.1⟩⟩⟩⟩⟩⟩)⟩, ⟨by (try simp only [hl257000_94]); (try simp only [hl257002_94]); (with_reducible repeat (first | apply Kd.R_alloc | apply Kd.R_drewN | apply Kd.R_drew)); exact Kd.R_mono HO_270000.out (fun _ hk => ⟨hk.2.2.2.2.1, ⟨hk.2.2.2.2.2.1, ⟨hk.2.2.2.2.2.2.1, ⟨hk.2.2.2.2.2.2.2.1, ⟨hk.2.2.2.2.2.2.2.2, ⟨hk.2.2.1, hk.2.2.2.1⟩⟩⟩⟩⟩⟩)⟩, ⟨by (try simp only [hl257000_94]); (try simp only [hl257002_94]); (with_reducible repeat (first | apply Kd.R_alloc | apply Kd.R_drewN | apply Kd.R_drew)); exact Kd.R_mono HO_270002.out (fun _ hk => ⟨hk.2.2.2.2.1, ⟨hk.2.2.2.2.2.1, ⟨hk.2.2.2.2.2.2.1, ⟨hk.2.2.2.2.2.2.2.1, ⟨hk.2.2.2.2.2.2.2.2, ⟨hk.2.2.1, hk.2.2.2.1⟩⟩⟩⟩⟩⟩)⟩, ⟨by (try simp only [hl257000_94]); (try simp only [hl257002_94]); (with_reducible repeat (first | apply Kd.R_alloc | apply Kd.R_drewN | apply Kd.R_drew)); exact Kd.R_mono HO300.out (fun _ hk => ⟨hk.2.2.2.1, ⟨hk.2.2.2.2.1, ⟨hk.2.2.2.2.2.1, ⟨hk.2.2.2.2.2.2.1, ⟨hk.2.2.2.2.2.2.2.1, ⟨hk.2.2.2.2.2.2.2.2, hk.2.2.1⟩⟩⟩⟩⟩⟩)⟩, ⟨by (try simp only [hl257000_94]); (try simp only [hl257002_94]); (with_reducible repeat (first | apply Kd.R_alloc | apply Kd.R_drewN | apply Kd.R_drew)); exact Kd.R_mono HO304.out (fun _ hk => ⟨hk.2.2.2.1, ⟨hk.2.2.2.2.1, ⟨hk.2.2.2.2.2.1, ⟨hk.2.2.2.2.2.2.1, ⟨hk.2.2.2.2.2.2.2.1, ⟨hk.2.2.2.2.2.2.2.2, hk.2.2.1⟩⟩⟩⟩⟩⟩)⟩, ⟨by (try simp only [hl257000_94]); (try simp only [hl257002_94]); refine rp_ ?_; exact BK225.out⟩, ⟨by (try simp only [hl257000_94]); (try simp only [hl257002_94]); refine rp_ ?_; exact BK226.out⟩, ⟨by (try simp only [hl257000_94]); (try simp only [hl257002_94]); refine rp_ ?_; exact BK248.out⟩, ⟨by (try simp only [hl257000_94]); (try simp only [hl257002_94]); refine rp_ ?_; exact BK256.out⟩, ⟨by (try simp only [hl257000_94]); (try simp only [hl257002_94]); refine rp_ ?_; exact BK269.out⟩, ⟨by (try simp only [hl257000_94]); (try simp only [hl257002_94]); refine rp_ ?_; exact BK306.out⟩, ⟨bel_ HB.out⟩⟩
      case neg =>
      replace c169 := Bool.eq_false_iff.mpr c169
      subst c169
      have H1 : (laws_FnExactTake21.j2 kj94 t283 true t284 t264 t285) = some r := by rw [if_neg (show ¬ (false = true) by decide)] at H; exact H
      clear H
      have H := H1
      clear H1
      have H' := Aside0.mk H
      clear H; have hnb182 := NB306_225.out; have hnc182 := NB225_306.out; have hnb183 := NB306_226.out; have hnc183 := NB226_306.out; have hnb184 := NB306_248.out; have hnc184 := NB248_306.out; have hnb185 := NB306_256.out; have hnc185 := NB256_306.out; have hnb186 := NB306_269.out; have hnc186 := NB269_306.out; have hcz187_0 : w162.cell? ⟨gb306, 0, none⟩ = some (.slice none 0 0) := bc_ BK306.out 0; have hcz187_1 : w162.cell? ⟨gb306, 1, none⟩ = some (.int .i64 0) := bc_ BK306.out 1; have hcz187_2 : w162.cell? ⟨gb306, 2, none⟩ = some (.slice none 0 0) := bc_ BK306.out 2; have hfz187_0 := blk_frozen BK306.out 0; have hfz187_1 := blk_frozen BK306.out 1; have hfz187_2 := blk_frozen BK306.out 2; have hnb188 := NB248_225.out; have hnc188 := NB225_248.out; have hnb189 := NB248_226.out; have hnc189 := NB226_248.out; have hnb190 := NB248_256.out; have hnc190 := NB256_248.out; have hnb191 := NB248_269.out; have hnc191 := NB269_248.out; have hcz192_0 : w162.cell? ⟨gb248, 0, none⟩ = some (.slice Ao42 t240.length co42) := bc_ BK248.out 0; have hcz192_1 : w162.cell? ⟨gb248, 1, none⟩ = some (.int .i64 t243) := bc_ BK248.out 1; have hcz192_2 : w162.cell? ⟨gb248, 2, none⟩ = some (.slice Ao45 t244.length co45) := bc_ BK248.out 2; have hfz192_0 := blk_frozen BK248.out 0; have hfz192_1 := blk_frozen BK248.out 1; have hfz192_2 := blk_frozen BK248.out 2
      go_wp2_with (first | ((with_reducible refine gate_callee (f := 18) rfl ?_); refine goesL_ (some 99) rfl rfl Try.func18 (by kernel_rfl) rfl #[.agg #[.slice Ao163 t298.length co163, .int .i64 t301, .slice Ao166 t302.length co166], .agg #[.slice Ao42 t240.length co42, .int .i64 t243, .slice Ao45 t244.length co45]] rfl ml_ ?_; (with_reducible refine (laws_eqParty.calls kj94 _ _ t298 t301 _ _ t302 _ _ t240 t243 _ _ t244 false _ ?side1 ?side2 ?side3 ?side4 ?side5 ?side6 ?side7 ?side8 A168.out).mono ?_); (case side1 => exact (Kd.R_reads' (rf1_ (rt_ HO300.out BK306.out))).2.2); (case side2 => exact (Kd.R_reads' HO300.out).2.1); (case side3 => exact (Kd.R_reads' (rf1_ (rt_ HO304.out BK306.out))).2.2); (case side4 => exact (Kd.R_reads' HO304.out).2.1); (case side5 => exact (Kd.R_reads' (rf1_ (rt_ HO_249000.out BK306.out))).2.2); (case side6 => exact (Kd.R_reads' HO_249000.out).2.1); (case side7 => exact (Kd.R_reads' (rf1_ (rt_ HO_249002.out BK306.out))).2.2); (case side8 => exact (Kd.R_reads' HO_249002.out).2.1); rintro e w193 ⟨rfl, hb⟩; refine ⟨_, rfl, ?_⟩; replace HO_249000 := Aside0.mk (Kd.R_below (rf1_ (rt_ HO_249000.out BK306.out)) hb); replace HO_249002 := Aside0.mk (Kd.R_below (rf1_ (rt_ HO_249002.out BK306.out)) hb); replace HO_257000 := Aside0.mk (Kd.R_below (rf1_ (rt_ HO_257000.out BK306.out)) hb); replace HO_257002 := Aside0.mk (Kd.R_below (rf1_ (rt_ HO_257002.out BK306.out)) hb); replace HO_270000 := Aside0.mk (Kd.R_below (rf1_ (rt_ HO_270000.out BK306.out)) hb); replace HO_270002 := Aside0.mk (Kd.R_below (rf1_ (rt_ HO_270002.out BK306.out)) hb); replace HO289 := Aside0.mk (Kd.R_below (rf1_ (rt_ HO289.out BK306.out)) hb); replace HO293 := Aside0.mk (Kd.R_below (rf1_ (rt_ HO293.out BK306.out)) hb); replace HO300 := Aside0.mk (Kd.R_below (rf1_ (rt_ HO300.out BK306.out)) hb); replace HO304 := Aside0.mk (Kd.R_below (rf1_ (rt_ HO304.out BK306.out)) hb); replace BK225 := Aside0.mk (ba_ BK225.out hb); replace BK226 := Aside0.mk (ba_ BK226.out hb); replace BK248 := Aside0.mk (ba_ BK248.out hb); replace BK256 := Aside0.mk (ba_ BK256.out hb); replace BK269 := Aside0.mk (ba_ BK269.out hb); replace BK306 := Aside0.mk (blk_below (g := gb306) (o := .cells #[.slice Ao163 t298.length co163, .int .i64 t301, .slice Ao166 t302.length co166] 26 (0, 0)) (by refine rp_ ?_; refine blk_put (cs := #[.slice Ao163 t298.length co163, .int .i64 t301, .slice none 0 0]) ?_ 2 _ rfl; refine rp_ ?_; refine blk_put (cs := #[.slice Ao163 t298.length co163, .int .i64 0, .slice none 0 0]) ?_ 1 _ rfl; refine rp_ ?_; refine blk_put (cs := #[.slice none 0 0, .int .i64 0, .slice none 0 0]) ?_ 0 _ rfl; refine rp_ ?_; exact BK306.out) hb); replace HB := Aside0.mk (below_step (bel_ HB.out) hb); (try clear hb); (try clear hb2); (try clear hk); (try clear hi)))
      go_meet
      case rel => exact ⟨_, (true), rl_, H', ⟨by have := HJ25.out; have := HJ94.out; first | omega | exact Nat.le_refl _⟩, ⟨by (try simp only [hl257000_94]); (try simp only [hl257002_94]); (with_reducible repeat (first | apply Kd.R_alloc | apply Kd.R_drewN | apply Kd.R_drew)); exact Kd.R_mono HO_249000.out (fun _ hk => ⟨hk.2.2.2.2.1, ⟨hk.2.2.2.2.2.1, ⟨hk.2.2.2.2.2.2.1, ⟨hk.2.2.2.2.2.2.2.1, ⟨hk.2.2.2.2.2.2.2.2, ⟨hk.2.2.1, hk.2.2.2.1⟩⟩⟩⟩⟩⟩)⟩, ⟨by (try simp only [hl257000_94]); (try simp only [hl257002_94]); (with_reducible repeat (first | apply Kd.R_alloc | apply Kd.R_drewN | apply Kd.R_drew)); exact Kd.R_mono HO_249002.out (fun _ hk => ⟨hk.2.2.2.2.1, ⟨hk.2.2.2.2.2.1, ⟨hk.2.2.2.2.2.2.1, ⟨hk.2.2.2.2.2.2.2.1, ⟨hk.2.2.2.2.2.2.2.2, ⟨hk.2.2.1, hk.2.2.2.1⟩⟩⟩⟩⟩⟩)⟩, ⟨by (try simp only [hl257000_94]); (try simp only [hl257002_94]); (with_reducible repeat (first | apply Kd.R_alloc | apply Kd.R_drewN | apply Kd.R_drew)); exact Kd.R_mono HO_257000.out (fun _ hk => ⟨hk.2.2.2.2.1, ⟨hk.2.2.2.2.2.1, ⟨hk.2.2.2.2.2.2.1, ⟨hk.2.2.2.2.2.2.2.1, ⟨hk.2.2.2.2.2.2.2.2, ⟨hk.2.2.1, hk.2.2.2.1⟩⟩⟩⟩⟩⟩)⟩, ⟨by (try simp only [hl257000_94]); (try simp only [hl257002_94]); (with_reducible repeat (first | apply Kd.R_alloc | apply Kd.R_drewN | apply Kd.R_drew)); exact Kd.R_mono HO_257002.out (fun _ hk => ⟨hk.2.2.2.2.1, ⟨hk.2.2.2.2.2.1, ⟨hk.2.2.2.2.2.2.1, ⟨hk.2.2.2.2.2.2.2.1, ⟨hk.2.2.2.2.2.2.2.2, ⟨hk.2.2.1, hk.2.2.2.1⟩⟩⟩⟩⟩⟩)⟩, ⟨by (try simp only [hl257000_94]); (try simp only [hl257002_94]); (with_reducible repeat (first | apply Kd.R_alloc | apply Kd.R_drewN | apply Kd.R_drew)); exact Kd.R_mono HO_270000.out (fun _ hk => ⟨hk.2.2.2.2.1, ⟨hk.2.2.2.2.2.1, ⟨hk.2.2.2.2.2.2.1, ⟨hk.2.2.2.2.2.2.2.1, ⟨hk.2.2.2.2.2.2.2.2, ⟨hk.2.2.1, hk.2.2.2.1⟩⟩⟩⟩⟩⟩)⟩, ⟨by (try simp only [hl257000_94]); (try simp only [hl257002_94]); (with_reducible repeat (first | apply Kd.R_alloc | apply Kd.R_drewN | apply Kd.R_drew)); exact Kd.R_mono HO_270002.out (fun _ hk => ⟨hk.2.2.2.2.1, ⟨hk.2.2.2.2.2.1, ⟨hk.2.2.2.2.2.2.1, ⟨hk.2.2.2.2.2.2.2.1, ⟨hk.2.2.2.2.2.2.2.2, ⟨hk.2.2.1, hk.2.2.2.1⟩⟩⟩⟩⟩⟩)⟩, ⟨by (try simp only [hl257000_94]); (try simp only [hl257002_94]); (with_reducible repeat (first | apply Kd.R_alloc | apply Kd.R_drewN | apply Kd.R_drew)); exact Kd.R_mono HO300.out (fun _ hk => ⟨hk.2.2.2.1, ⟨hk.2.2.2.2.1, ⟨hk.2.2.2.2.2.1, ⟨hk.2.2.2.2.2.2.1, ⟨hk.2.2.2.2.2.2.2.1, ⟨hk.2.2.2.2.2.2.2.2, hk.2.2.1⟩⟩⟩⟩⟩⟩)⟩, ⟨by (try simp only [hl257000_94]); (try simp only [hl257002_94]); (with_reducible repeat (first | apply Kd.R_alloc | apply Kd.R_drewN | apply Kd.R_drew)); exact Kd.R_mono HO304.out (fun _ hk => ⟨hk.2.2.2.1, ⟨hk.2.2.2.2.1, ⟨hk.2.2.2.2.2.1, ⟨hk.2.2.2.2.2.2.1, ⟨hk.2.2.2.2.2.2.2.1, ⟨hk.2.2.2.2.2.2.2.2, hk.2.2.1⟩⟩⟩⟩⟩⟩)⟩, ⟨by (try simp only [hl257000_94]); (try simp only [hl257002_94]); refine rp_ ?_; exact BK225.out⟩, ⟨by (try simp only [hl257000_94]); (try simp only [hl257002_94]); refine rp_ ?_; exact BK226.out⟩, ⟨by (try simp only [hl257000_94]); (try simp only [hl257002_94]); refine rp_ ?_; exact BK248.out⟩, ⟨by (try simp only [hl257000_94]); (try simp only [hl257002_94]); refine rp_ ?_; exact BK256.out⟩, ⟨by (try simp only [hl257000_94]); (try simp only [hl257002_94]); refine rp_ ?_; exact BK269.out⟩, ⟨by (try simp only [hl257000_94]); (try simp only [hl257002_94]); refine rp_ ?_; exact BK306.out⟩, ⟨bel_ HB.out⟩⟩
     case rest =>
     clear HC146
     obtain ⟨kq, x105_145, rfl, HA, HJ145, HO_249000, HO_249002, HO_257000, HO_257002, HO_270000, HO_270002, HO_307000, HO_307002, BK225, BK226, BK248, BK256, BK269, BK306, HB⟩ := hcut
     have hl270000_145 := (Kd.R_reads' HO_270000.out).1
     rw [hl270000_145] at HO_270000
     (try simp only [hl270000_145])
     (try simp only [hl270000_145] at BK225)
     (try simp only [hl270000_145] at BK226)
     (try simp only [hl270000_145] at BK248)
     (try simp only [hl270000_145] at BK256)
     (try simp only [hl270000_145] at BK269)
     (try simp only [hl270000_145] at BK306)
     (try simp only [hl270000_145] at HO_249000)
     (try simp only [hl270000_145] at HO_249002)
     (try simp only [hl270000_145] at HO_257000)
     (try simp only [hl270000_145] at HO_257002)
     (try simp only [hl270000_145] at HO_270002)
     (try simp only [hl270000_145] at HO_307000)
     (try simp only [hl270000_145] at HO_307002)
     have hl270002_145 := (Kd.R_reads' HO_270002.out).1
     rw [hl270002_145] at HO_270002
     (try simp only [hl270002_145])
     (try simp only [hl270002_145] at BK225)
     (try simp only [hl270002_145] at BK226)
     (try simp only [hl270002_145] at BK248)
     (try simp only [hl270002_145] at BK256)
     (try simp only [hl270002_145] at BK269)
     (try simp only [hl270002_145] at BK306)
     (try simp only [hl270002_145] at HO_249000)
     (try simp only [hl270002_145] at HO_249002)
     (try simp only [hl270002_145] at HO_257000)
     (try simp only [hl270002_145] at HO_257002)
     (try simp only [hl270002_145] at HO_270000)
     (try simp only [hl270002_145] at HO_307000)
     (try simp only [hl270002_145] at HO_307002)
     cases kq with
     | zero => exact absurd HA.out (by simp [laws_FnExactTake21.j2])
     | succ kj145 =>
      have H := HA.out
      clear HA
      simp only [laws_FnExactTake21.j2] at H
      by_cases c194 : x105_145 = true
      ·subst c194
       have H1 : (some false) = some r := by rw [if_pos rfl] at H; exact H
       clear H
       have H := H1
       clear H1
       obtain rfl := Option.some.inj H
       go_wp2
       go_ret
       exact ⟨by first | rfl | (simp [errW_none, errW_some] <;> rfl) | (simp [*, errW_none, errW_some] <;> rfl), bel_ HB.out⟩
      case neg =>
      replace c194 := Bool.eq_false_iff.mpr c194
      subst c194
      have H1 : ((laws_heldParty.f kj145 t284 t264 t285 1).bind fun t308 => (if t308 < 0 then (some false) else (if t308 = t283 then (some true) else (some false)))) = some r := by rw [if_neg (show ¬ (false = true) by decide)] at H; exact H
      clear H
      have H := H1
      clear H1; replace H := Option.bind_eq_some_iff.mp H
      obtain ⟨t308, A1950, H⟩ := H
      replace H : (if t308 < 0 then (some false) else (if t308 = t283 then (some true) else (some false))) = some r := H
      have A195 := Aside0.mk A1950
      clear A1950
      by_cases c196 : t308 < 0
      ·rw [if_pos c196] at H
       have c196b0 : decide (t308 < 0) = true := decide_eq_true c196
       clear c196
       obtain rfl := Option.some.inj H
       have hnb197 := NB269_225.out; have hnc197 := NB225_269.out; have hnb198 := NB269_226.out; have hnc198 := NB226_269.out; have hnb199 := NB269_248.out; have hnc199 := NB248_269.out; have hnb200 := NB269_256.out; have hnc200 := NB256_269.out; have hnb201 := NB269_306.out; have hnc201 := NB306_269.out; have hcz202_0 : wc.cell? ⟨gb269, 0, none⟩ = some (.slice Ao63 t284.length co63) := bc_ BK269.out 0; have hcz202_1 : wc.cell? ⟨gb269, 1, none⟩ = some (.int .i64 t264) := bc_ BK269.out 1; have hcz202_2 : wc.cell? ⟨gb269, 2, none⟩ = some (.slice Ao66 t285.length co66) := bc_ BK269.out 2; have hfz202_0 := blk_frozen BK269.out 0; have hfz202_1 := blk_frozen BK269.out 1; have hfz202_2 := blk_frozen BK269.out 2
       go_wp2_with (first | ((with_reducible refine gate_callee (f := 22) rfl ?_); refine goesL_ (some 108) rfl rfl Try.func22 (by kernel_rfl) rfl #[.agg #[.slice Ao63 t284.length co63, .int .i64 t264, .slice Ao66 t285.length co66], .int .i64 1] rfl ml_ ?_; (with_reducible refine (laws_heldParty.calls kj145 _ _ t284 t264 _ _ t285 1 t308 _ ?side1 ?side2 ?side3 ?side4 A195.out).mono ?_); (case side1 => exact rc_ (Kd.R_reads' HO_270000.out).2.2); (case side2 => exact (Kd.R_reads' HO_270000.out).2.1); (case side3 => exact rc_ (Kd.R_reads' HO_270002.out).2.2); (case side4 => exact (Kd.R_reads' HO_270002.out).2.1); rintro e w203 ⟨rfl, hb⟩; refine ⟨_, rfl, ?_⟩; replace HO_249000 := Aside0.mk (Kd.R_below (fr_ HO_249000.out) hb); replace HO_249002 := Aside0.mk (Kd.R_below (fr_ HO_249002.out) hb); replace HO_257000 := Aside0.mk (Kd.R_below (fr_ HO_257000.out) hb); replace HO_257002 := Aside0.mk (Kd.R_below (fr_ HO_257002.out) hb); replace HO_270000 := Aside0.mk (Kd.R_below (fr_ HO_270000.out) hb); replace HO_270002 := Aside0.mk (Kd.R_below (fr_ HO_270002.out) hb); replace HO_307000 := Aside0.mk (Kd.R_below (fr_ HO_307000.out) hb); replace HO_307002 := Aside0.mk (Kd.R_below (fr_ HO_307002.out) hb); replace BK225 := Aside0.mk (bb_ BK225.out hb); replace BK226 := Aside0.mk (bb_ BK226.out hb); replace BK248 := Aside0.mk (bb_ BK248.out hb); replace BK256 := Aside0.mk (bb_ BK256.out hb); replace BK269 := Aside0.mk (bb_ BK269.out hb); replace BK306 := Aside0.mk (bb_ BK306.out hb); replace HB := Aside0.mk (below_step (bel_ HB.out) hb); (try clear hb); (try clear hb2); (try clear hk); (try clear hi)))
       go_ret
       exact ⟨by first | rfl | (simp [errW_none, errW_some] <;> rfl) | (simp [*, errW_none, errW_some] <;> rfl), bel_ HB.out⟩
      case neg =>
      rw [if_neg c196] at H
      have c196b0 : decide (t308 < 0) = false := decide_eq_false c196
      clear c196
      by_cases c204 : t308 = t283
      ·rw [if_pos c204] at H
       have c204b0 : (t308 == t283) = true := beq_iff_eq.mpr c204
       have c204b1 : (t308 != t283) = false := bne_eq_false_iff_eq.mpr c204
       clear c204
       obtain rfl := Option.some.inj H
       have hnb205 := NB269_225.out; have hnc205 := NB225_269.out; have hnb206 := NB269_226.out; have hnc206 := NB226_269.out; have hnb207 := NB269_248.out; have hnc207 := NB248_269.out; have hnb208 := NB269_256.out; have hnc208 := NB256_269.out; have hnb209 := NB269_306.out; have hnc209 := NB306_269.out; have hcz210_0 : wc.cell? ⟨gb269, 0, none⟩ = some (.slice Ao63 t284.length co63) := bc_ BK269.out 0; have hcz210_1 : wc.cell? ⟨gb269, 1, none⟩ = some (.int .i64 t264) := bc_ BK269.out 1; have hcz210_2 : wc.cell? ⟨gb269, 2, none⟩ = some (.slice Ao66 t285.length co66) := bc_ BK269.out 2; have hfz210_0 := blk_frozen BK269.out 0; have hfz210_1 := blk_frozen BK269.out 1; have hfz210_2 := blk_frozen BK269.out 2
       go_wp2_with (first | ((with_reducible refine gate_callee (f := 22) rfl ?_); refine goesL_ (some 108) rfl rfl Try.func22 (by kernel_rfl) rfl #[.agg #[.slice Ao63 t284.length co63, .int .i64 t264, .slice Ao66 t285.length co66], .int .i64 1] rfl ml_ ?_; (with_reducible refine (laws_heldParty.calls kj145 _ _ t284 t264 _ _ t285 1 t308 _ ?side1 ?side2 ?side3 ?side4 A195.out).mono ?_); (case side1 => exact rc_ (Kd.R_reads' HO_270000.out).2.2); (case side2 => exact (Kd.R_reads' HO_270000.out).2.1); (case side3 => exact rc_ (Kd.R_reads' HO_270002.out).2.2); (case side4 => exact (Kd.R_reads' HO_270002.out).2.1); rintro e w211 ⟨rfl, hb⟩; refine ⟨_, rfl, ?_⟩; replace HO_249000 := Aside0.mk (Kd.R_below (fr_ HO_249000.out) hb); replace HO_249002 := Aside0.mk (Kd.R_below (fr_ HO_249002.out) hb); replace HO_257000 := Aside0.mk (Kd.R_below (fr_ HO_257000.out) hb); replace HO_257002 := Aside0.mk (Kd.R_below (fr_ HO_257002.out) hb); replace HO_270000 := Aside0.mk (Kd.R_below (fr_ HO_270000.out) hb); replace HO_270002 := Aside0.mk (Kd.R_below (fr_ HO_270002.out) hb); replace HO_307000 := Aside0.mk (Kd.R_below (fr_ HO_307000.out) hb); replace HO_307002 := Aside0.mk (Kd.R_below (fr_ HO_307002.out) hb); replace BK225 := Aside0.mk (bb_ BK225.out hb); replace BK226 := Aside0.mk (bb_ BK226.out hb); replace BK248 := Aside0.mk (bb_ BK248.out hb); replace BK256 := Aside0.mk (bb_ BK256.out hb); replace BK269 := Aside0.mk (bb_ BK269.out hb); replace BK306 := Aside0.mk (bb_ BK306.out hb); replace HB := Aside0.mk (below_step (bel_ HB.out) hb); (try clear hb); (try clear hb2); (try clear hk); (try clear hi)))
       go_ret
       exact ⟨by first | rfl | (simp [errW_none, errW_some] <;> rfl) | (simp [*, errW_none, errW_some] <;> rfl), bel_ HB.out⟩
      case neg =>
      rw [if_neg c204] at H
      have c204b0 : (t308 == t283) = false := beq_eq_false_iff_ne.mpr c204
      have c204b1 : (t308 != t283) = true := bne_iff_ne.mpr c204
      obtain rfl := Option.some.inj H
      have hnb212 := NB269_225.out; have hnc212 := NB225_269.out; have hnb213 := NB269_226.out; have hnc213 := NB226_269.out; have hnb214 := NB269_248.out; have hnc214 := NB248_269.out; have hnb215 := NB269_256.out; have hnc215 := NB256_269.out; have hnb216 := NB269_306.out; have hnc216 := NB306_269.out; have hcz217_0 : wc.cell? ⟨gb269, 0, none⟩ = some (.slice Ao63 t284.length co63) := bc_ BK269.out 0; have hcz217_1 : wc.cell? ⟨gb269, 1, none⟩ = some (.int .i64 t264) := bc_ BK269.out 1; have hcz217_2 : wc.cell? ⟨gb269, 2, none⟩ = some (.slice Ao66 t285.length co66) := bc_ BK269.out 2; have hfz217_0 := blk_frozen BK269.out 0; have hfz217_1 := blk_frozen BK269.out 1; have hfz217_2 := blk_frozen BK269.out 2
      go_wp2_with (first | ((with_reducible refine gate_callee (f := 22) rfl ?_); refine goesL_ (some 108) rfl rfl Try.func22 (by kernel_rfl) rfl #[.agg #[.slice Ao63 t284.length co63, .int .i64 t264, .slice Ao66 t285.length co66], .int .i64 1] rfl ml_ ?_; (with_reducible refine (laws_heldParty.calls kj145 _ _ t284 t264 _ _ t285 1 t308 _ ?side1 ?side2 ?side3 ?side4 A195.out).mono ?_); (case side1 => exact rc_ (Kd.R_reads' HO_270000.out).2.2); (case side2 => exact (Kd.R_reads' HO_270000.out).2.1); (case side3 => exact rc_ (Kd.R_reads' HO_270002.out).2.2); (case side4 => exact (Kd.R_reads' HO_270002.out).2.1); rintro e w218 ⟨rfl, hb⟩; refine ⟨_, rfl, ?_⟩; replace HO_249000 := Aside0.mk (Kd.R_below (fr_ HO_249000.out) hb); replace HO_249002 := Aside0.mk (Kd.R_below (fr_ HO_249002.out) hb); replace HO_257000 := Aside0.mk (Kd.R_below (fr_ HO_257000.out) hb); replace HO_257002 := Aside0.mk (Kd.R_below (fr_ HO_257002.out) hb); replace HO_270000 := Aside0.mk (Kd.R_below (fr_ HO_270000.out) hb); replace HO_270002 := Aside0.mk (Kd.R_below (fr_ HO_270002.out) hb); replace HO_307000 := Aside0.mk (Kd.R_below (fr_ HO_307000.out) hb); replace HO_307002 := Aside0.mk (Kd.R_below (fr_ HO_307002.out) hb); replace BK225 := Aside0.mk (bb_ BK225.out hb); replace BK226 := Aside0.mk (bb_ BK226.out hb); replace BK248 := Aside0.mk (bb_ BK248.out hb); replace BK256 := Aside0.mk (bb_ BK256.out hb); replace BK269 := Aside0.mk (bb_ BK269.out hb); replace BK306 := Aside0.mk (bb_ BK306.out hb); replace HB := Aside0.mk (below_step (bel_ HB.out) hb); (try clear hb); (try clear hb2); (try clear hk); (try clear hi)))
      go_ret
      exact ⟨by first | rfl | (simp [errW_none, errW_some] <;> rfl) | (simp [*, errW_none, errW_some] <;> rfl), bel_ HB.out⟩
    case neg =>
    rw [if_neg c142] at H
    have c142b0 : (t286 == t283) = false := beq_eq_false_iff_ne.mpr c142
    have c142b1 : (t286 != t283) = true := bne_iff_ne.mpr c142
    obtain rfl := Option.some.inj H
    have hnb219 := NB269_225.out; have hnc219 := NB225_269.out; have hnb220 := NB269_226.out; have hnc220 := NB226_269.out; have hnb221 := NB269_248.out; have hnc221 := NB248_269.out; have hnb222 := NB269_256.out; have hnc222 := NB256_269.out; have hcz223_0 : wc.cell? ⟨gb269, 0, none⟩ = some (.slice Ao63 t261.length co63) := bc_ BK269.out 0; have hcz223_1 : wc.cell? ⟨gb269, 1, none⟩ = some (.int .i64 t264) := bc_ BK269.out 1; have hcz223_2 : wc.cell? ⟨gb269, 2, none⟩ = some (.slice Ao66 t265.length co66) := bc_ BK269.out 2; have hfz223_0 := blk_frozen BK269.out 0; have hfz223_1 := blk_frozen BK269.out 1; have hfz223_2 := blk_frozen BK269.out 2
    go_wp2_with (first | ((with_reducible refine gate_callee (f := 21) rfl ?_); refine goesL_ (some 79) rfl rfl Try.func21 (by kernel_rfl) rfl #[.agg #[.slice Ao63 t261.length co63, .int .i64 t264, .slice Ao66 t265.length co66], .int .i64 1] rfl ml_ ?_; (with_reducible refine (laws_markParty.calls kj94 (fun k_ => some k_ = (.slice Ao63 t261.length co63 : Value).ownBlock) (.slice Ao63 t261.length co63) t261 t264 (fun k_ => some k_ = (.slice Ao66 t265.length co66 : Value).ownBlock) (.slice Ao66 t265.length co66) t265 1 t283 t284 t285 w _ ?side1 ?side2 ?side3 ?side4 ?side5 A131.out).mono ?_); (case side1 => repeat (first | (with_reducible first | exact HB.out | apply below_alloc | apply pw_below_drewN | apply below_drew1 | refine below_set ?_ GE225.out | refine below_set ?_ GE226.out | refine below_set ?_ GE248.out | refine below_set ?_ GE256.out | refine below_set ?_ GE269.out) | exact HB.out)); (case side2 => exact Kd.R_tight rfl HO_270000.out); (case side3 => exact fun k_ e_ => (HO_270000.out.1 k_ e_.symm).2.2.2.2); (case side4 => exact Kd.R_tight rfl HO_270002.out); (case side5 => exact fun k_ e_ => (HO_270002.out.1 k_ e_.symm).2.2.2.2); rintro e w224 ⟨rfl, hy0, hy1, hb, hkp⟩; refine ⟨_, rfl, ?_⟩; replace HO_249000 := Aside0.mk (Kd.R_mono (ok' := fun k_ => nB_ (.slice Ao45 t244.length co45) k_ ∧ nB_ (.slice Ao51 t280.length co51) k_ ∧ nB_ (.slice Ao56 t281.length co56) k_ ∧ nB_ (.slice Ao63 t261.length co63) k_ ∧ nB_ (.slice Ao66 t265.length co66) k_) (Kd.R_keptB (HO_249000.out) hkp (fun k_ hk_ hs_ => Or.elim hs_ (fun e_ => (hk_.2.2.2.1) e_) (fun e_ => (hk_.2.2.2.2) e_))) (fun k_ hk_ => ⟨hk_.1.1, hk_.1.2.1, hk_.1.2.2.1, hk_.1.2.2.2.1, hk_.1.2.2.2.2⟩)); replace HO_249002 := Aside0.mk (Kd.R_mono (ok' := fun k_ => nB_ (.slice Ao42 t240.length co42) k_ ∧ nB_ (.slice Ao51 t280.length co51) k_ ∧ nB_ (.slice Ao56 t281.length co56) k_ ∧ nB_ (.slice Ao63 t261.length co63) k_ ∧ nB_ (.slice Ao66 t265.length co66) k_) (Kd.R_keptB (HO_249002.out) hkp (fun k_ hk_ hs_ => Or.elim hs_ (fun e_ => (hk_.2.2.2.1) e_) (fun e_ => (hk_.2.2.2.2) e_))) (fun k_ hk_ => ⟨hk_.1.1, hk_.1.2.1, hk_.1.2.2.1, hk_.1.2.2.2.1, hk_.1.2.2.2.2⟩)); replace HO_257000 := Aside0.mk (Kd.R_mono (ok' := fun k_ => nB_ (.slice Ao42 t240.length co42) k_ ∧ nB_ (.slice Ao45 t244.length co45) k_ ∧ nB_ (.slice Ao56 t281.length co56) k_ ∧ nB_ (.slice Ao63 t261.length co63) k_ ∧ nB_ (.slice Ao66 t265.length co66) k_) (Kd.R_keptB (HO_257000.out) hkp (fun k_ hk_ hs_ => Or.elim hs_ (fun e_ => (hk_.2.2.2.1) e_) (fun e_ => (hk_.2.2.2.2) e_))) (fun k_ hk_ => ⟨hk_.1.1, hk_.1.2.1, hk_.1.2.2.1, hk_.1.2.2.2.1, hk_.1.2.2.2.2⟩)); replace HO_257002 := Aside0.mk (Kd.R_mono (ok' := fun k_ => nB_ (.slice Ao42 t240.length co42) k_ ∧ nB_ (.slice Ao45 t244.length co45) k_ ∧ nB_ (.slice Ao51 t280.length co51) k_ ∧ nB_ (.slice Ao63 t261.length co63) k_ ∧ nB_ (.slice Ao66 t265.length co66) k_) (Kd.R_keptB (HO_257002.out) hkp (fun k_ hk_ hs_ => Or.elim hs_ (fun e_ => (hk_.2.2.2.1) e_) (fun e_ => (hk_.2.2.2.2) e_))) (fun k_ hk_ => ⟨hk_.1.1, hk_.1.2.1, hk_.1.2.2.1, hk_.1.2.2.2.1, hk_.1.2.2.2.2⟩)); replace BK225 := Aside0.mk (blk_kept (fb_ BK225.out) hkp (fun hs_ => Or.elim hs_ (fun e_ => (fun e_ => (Kd.R_ne HO_270000.out BK225.out (by decide)) e_) e_) (fun e_ => (fun e_ => (Kd.R_ne HO_270002.out BK225.out (by decide)) e_) e_))); replace BK226 := Aside0.mk (blk_kept (fb_ BK226.out) hkp (fun hs_ => Or.elim hs_ (fun e_ => (fun e_ => (Kd.R_ne HO_270000.out BK226.out (by decide)) e_) e_) (fun e_ => (fun e_ => (Kd.R_ne HO_270002.out BK226.out (by decide)) e_) e_))); replace BK248 := Aside0.mk (blk_kept (fb_ BK248.out) hkp (fun hs_ => Or.elim hs_ (fun e_ => (fun e_ => (Kd.R_ne HO_270000.out BK248.out (by decide)) e_) e_) (fun e_ => (fun e_ => (Kd.R_ne HO_270002.out BK248.out (by decide)) e_) e_))); replace BK256 := Aside0.mk (blk_kept (fb_ BK256.out) hkp (fun hs_ => Or.elim hs_ (fun e_ => (fun e_ => (Kd.R_ne HO_270000.out BK256.out (by decide)) e_) e_) (fun e_ => (fun e_ => (Kd.R_ne HO_270002.out BK256.out (by decide)) e_) e_))); replace BK269 := Aside0.mk (blk_kept (fb_ BK269.out) hkp (fun hs_ => Or.elim hs_ (fun e_ => (fun e_ => (Kd.R_ne HO_270000.out BK269.out (by decide)) e_) e_) (fun e_ => (fun e_ => (Kd.R_ne HO_270002.out BK269.out (by decide)) e_) e_))); replace HO_270000 := Aside0.mk (Kd.R_reok rfl hy0 (fun k_ e_ => HO_270000.out.1 k_ e_)); replace HO_270002 := Aside0.mk (Kd.R_reok rfl hy1 (fun k_ e_ => HO_270002.out.1 k_ e_)); replace HB := Aside0.mk (hb); (try clear hb); (try clear hkp); (try clear hy0); (try clear hy1); have hcz225_0 : w224.cell? ⟨gb269, 0, none⟩ = some (.slice Ao63 t261.length co63) := bc_ BK269.out 0; have hcz225_1 : w224.cell? ⟨gb269, 1, none⟩ = some (.int .i64 t264) := bc_ BK269.out 1; have hcz225_2 : w224.cell? ⟨gb269, 2, none⟩ = some (.slice Ao66 t265.length co66) := bc_ BK269.out 2; have hfz225_0 := blk_frozen BK269.out 0; have hfz225_1 := blk_frozen BK269.out 1; have hfz225_2 := blk_frozen BK269.out 2) | ((with_reducible refine gate_callee (f := 22) rfl ?_); refine goesL_ (some 82) rfl rfl Try.func22 (by kernel_rfl) rfl #[.agg #[.slice Ao63 t284.length co63, .int .i64 t264, .slice Ao66 t285.length co66], .int .i64 1] rfl (by (try simp only [List.map_toArray, List.map_cons, List.map_nil]); first | done | (rw [show t284.length = t261.length from (Kd.R_reads' HO_270000.out).1.symm, show t285.length = t265.length from (Kd.R_reads' HO_270002.out).1.symm] <;> rfl) | rfl | (simp only [List.length_drop, List.length_take]; rfl)) ?_; (with_reducible refine (laws_heldParty.calls kj94 _ _ t284 t264 _ _ t285 1 t286 _ ?side1 ?side2 ?side3 ?side4 A132.out).mono ?_); (case side1 => exact rc_ (Kd.R_reads' HO_270000.out).2.2); (case side2 => rw [show t284.length = t261.length from (Kd.R_reads' HO_270000.out).1.symm]; exact (Kd.R_reads' HO_270000.out).2.1); (case side3 => exact rc_ (Kd.R_reads' HO_270002.out).2.2); (case side4 => rw [show t285.length = t265.length from (Kd.R_reads' HO_270002.out).1.symm]; exact (Kd.R_reads' HO_270002.out).2.1); rintro e w226 ⟨rfl, hb⟩; refine ⟨_, rfl, ?_⟩; replace HO_249000 := Aside0.mk (Kd.R_below (fr_ HO_249000.out) hb); replace HO_249002 := Aside0.mk (Kd.R_below (fr_ HO_249002.out) hb); replace HO_257000 := Aside0.mk (Kd.R_below (fr_ HO_257000.out) hb); replace HO_257002 := Aside0.mk (Kd.R_below (fr_ HO_257002.out) hb); replace HO_270000 := Aside0.mk (Kd.R_below (fr_ HO_270000.out) hb); replace HO_270002 := Aside0.mk (Kd.R_below (fr_ HO_270002.out) hb); replace BK225 := Aside0.mk (bb_ BK225.out hb); replace BK226 := Aside0.mk (bb_ BK226.out hb); replace BK248 := Aside0.mk (bb_ BK248.out hb); replace BK256 := Aside0.mk (bb_ BK256.out hb); replace BK269 := Aside0.mk (bb_ BK269.out hb); replace HB := Aside0.mk (below_step (bel_ HB.out) hb); (try clear hb); (try clear hb2); (try clear hk); (try clear hi)))
    go_ret
    exact ⟨by first | rfl | (simp [errW_none, errW_some] <;> rfl) | (simp [*, errW_none, errW_some] <;> rfl), bel_ HB.out⟩
  case neg =>
  replace c93 := Bool.eq_false_iff.mpr c93
  subst c93
  have H1 : (some false) = some r := by rw [if_neg (show ¬ (false = true) by decide)] at H; exact H
  clear H
  have H := H1
  clear H1
  obtain rfl := Option.some.inj H
  try go_wp2
  replace HO_249000 := Aside0.mk (Kd.R_drew HO_249000.out); replace HO_249002 := Aside0.mk (Kd.R_drew HO_249002.out); replace HO_257000 := Aside0.mk (Kd.R_drew HO_257000.out); replace HO_257002 := Aside0.mk (Kd.R_drew HO_257002.out); replace HO_270000 := Aside0.mk (Kd.R_drew HO_270000.out); replace HO_270002 := Aside0.mk (Kd.R_drew HO_270002.out); replace BK225 := Aside0.mk (blk_drew BK225.out); replace BK226 := Aside0.mk (blk_drew BK226.out); replace BK248 := Aside0.mk (blk_drew BK248.out); replace BK256 := Aside0.mk (blk_drew BK256.out); replace BK269 := Aside0.mk (blk_drew BK269.out); replace HB := Aside0.mk (below_drew1 HB.out)
  refine start_ (n := 5) (S := fun w' => w'.cell? ⟨gb256, 0, none⟩ = some (.slice Ao51 t249.length co51) ∧ w'.cell? ⟨gb256, 1, none⟩ = some (.int .i64 t252) ∧ w'.cell? ⟨gb256, 2, none⟩ = some (.slice Ao56 t253.length co56) ∧ w'.cell? ⟨gb225, 0, none⟩ = some (.slice A0_0 l0_0.length c0_0) ∧ w'.cell? ⟨gb225, 1, none⟩ = some (.int .i64 a0_1) ∧ w'.cell? ⟨gb225, 2, none⟩ = some (.slice A0_2 l0_2.length c0_2)) (ds := []) (bs 5 0) (by kernel_rfl) rfl rfl ⟨bc_ BK256.out 0, bc_ BK256.out 1, bc_ BK256.out 2, bc_ BK225.out 0, bc_ BK225.out 1, bc_ BK225.out 2⟩ (fun hHeld => ?_)
  generalize wc.drew = w227 at HO_249000 HO_249002 HO_257000 HO_257002 HO_270000 HO_270002 BK225 BK226 BK248 BK256 BK269 HB hHeld ⊢
  refine take_ (i := 0) (N := some 56) (v := ?_) (a' := ?_) (bs 5 1) rfl rfl (by kernel_rfl) (fun _ _ _ h => h) (Or.inl ⟨by rfl, ?_⟩) hHeld ?_ ?_
  rotate_left
  ·rintro w' ⟨s0, s1, s2, s3, s4, s5⟩
   go_simp
   with_reducible rfl
  rotate_left
  ·simp only [Act.put, sA_, sZ_, sS_, i64_w, i32_w]
   rfl
  refine take_ (i := 1) (N := some 57) (v := ?_) (a' := ?_) (bs 5 3) rfl rfl (by kernel_rfl) (fun _ _ _ h => h) (Or.inl ⟨by rfl, ?_⟩) hHeld ?_ ?_
  rotate_left
  ·rintro w' ⟨s0, s1, s2, s3, s4, s5⟩
   go_simp
   with_reducible rfl
  rotate_left
  ·simp only [Act.put, sA_, sZ_, sS_, i64_w, i32_w]
   rfl
  refine one_ (i := 2) (N := some 58) (bs 5 7) rfl rfl (by kernel_rfl) (by decide) (fun K hK => ?_)
  refine goes_ Try.func17 (by kernel_rfl) rfl #[.agg #[.slice A0_0 l0_0.length c0_0, .int .i64 a0_1, .slice A0_2 l0_2.length c0_2]] (by rfl) rfl rfl ml_ ?_
  with_reducible refine (laws_toParty.calls kj25 _ _ l0_0 a0_1 _ _ l0_2 t271 t274 t275 _ ?side1 ?side2 ?side3 ?side4 A91.out).mono ?_
  (case side1 => exact rc_ (Kd.C_below HR0_0.out HB.out))
  (case side2 => exact HC0_0.out)
  (case side3 => exact rc_ (Kd.C_below HR0_2.out HB.out))
  (case side4 => exact HC0_2.out)
  rintro e w228 ⟨v272, v276, rfl, ho0, ho1, hb⟩
  refine ⟨_, rfl, ?_⟩
  have HO273 := Aside0.mk (Kd.R_lower (Kd.R_new' (Kd.R_new' (Kd.R_new' (Kd.R_new' (Kd.R_new' (Kd.R_new' ho0 (Kd.R_lt (fr_ HO_249000.out))) (Kd.R_lt (fr_ HO_249002.out))) (Kd.R_lt (fr_ HO_257000.out))) (Kd.R_lt (fr_ HO_257002.out))) (Kd.R_lt (fr_ HO_270000.out))) (Kd.R_lt (fr_ HO_270002.out))) (below_size (bel_ HB.out)))
  have HO277 := Aside0.mk (Kd.R_lower (Kd.R_new' (Kd.R_new' (Kd.R_new' (Kd.R_new' (Kd.R_new' (Kd.R_new' ho1 (Kd.R_lt (fr_ HO_249000.out))) (Kd.R_lt (fr_ HO_249002.out))) (Kd.R_lt (fr_ HO_257000.out))) (Kd.R_lt (fr_ HO_257002.out))) (Kd.R_lt (fr_ HO_270000.out))) (Kd.R_lt (fr_ HO_270002.out))) (below_size (bel_ HB.out)))
  replace HO_249000 := Aside0.mk (Kd.R_mono (Kd.R_told (Kd.R_told (Kd.R_old (fr_ HO_249000.out) hb) (Kd.R_base ho0)) (Kd.R_base ho1)) (fun _ h_ => h_.1)); replace HO_249002 := Aside0.mk (Kd.R_mono (Kd.R_told (Kd.R_told (Kd.R_old (fr_ HO_249002.out) hb) (Kd.R_base ho0)) (Kd.R_base ho1)) (fun _ h_ => h_.1)); replace HO_257000 := Aside0.mk (Kd.R_mono (Kd.R_told (Kd.R_told (Kd.R_old (fr_ HO_257000.out) hb) (Kd.R_base ho0)) (Kd.R_base ho1)) (fun _ h_ => h_.1)); replace HO_257002 := Aside0.mk (Kd.R_mono (Kd.R_told (Kd.R_told (Kd.R_old (fr_ HO_257002.out) hb) (Kd.R_base ho0)) (Kd.R_base ho1)) (fun _ h_ => h_.1)); replace HO_270000 := Aside0.mk (Kd.R_mono (Kd.R_told (Kd.R_told (Kd.R_old (fr_ HO_270000.out) hb) (Kd.R_base ho0)) (Kd.R_base ho1)) (fun _ h_ => h_.1)); replace HO_270002 := Aside0.mk (Kd.R_mono (Kd.R_told (Kd.R_told (Kd.R_old (fr_ HO_270002.out) hb) (Kd.R_base ho0)) (Kd.R_base ho1)) (fun _ h_ => h_.1)); replace BK225 := Aside0.mk (bb_ BK225.out hb); replace BK226 := Aside0.mk (bb_ BK226.out hb); replace BK248 := Aside0.mk (bb_ BK248.out hb); replace BK256 := Aside0.mk (bb_ BK256.out hb); replace BK269 := Aside0.mk (bb_ BK269.out hb); replace HB := Aside0.mk (below_step (bel_ HB.out) hb); (try clear hb); (try clear hb2); (try clear hk); (try clear hi); (try clear ho0); (try clear ho1)
  obtain ⟨Ao229, co229, eo229⟩ := Kd.R_slice HO273.out
  (first | subst eo229 | (injection eo229 with f1_ f2_ f3_; have f4_ := f1_.symm; have f5_ := f3_.symm; clear f1_ f2_ f3_; subst f4_; subst f5_))
  obtain ⟨Ao230, co230, eo230⟩ := Kd.R_slice HO277.out
  (first | subst eo230 | (injection eo230 with f1_ f2_ f3_; have f4_ := f1_.symm; have f5_ := f3_.symm; clear f1_ f2_ f3_; subst f4_; subst f5_))
  refine hK.out _ _ ⟨bc_ BK256.out 0, bc_ BK256.out 1, bc_ BK256.out 2, bc_ BK225.out 0, bc_ BK225.out 1, bc_ BK225.out 2⟩ (fun hHeld => ?_)
  clear hK K
  refine norm_ (a' := ?_) ?_ ?_
  rotate_left
  ·show Act.put _ (some 58) _ = _
   simp only [Act.put, sA_, sZ_, sS_, i64_w, i32_w]
   rfl
  refine one_ (i := 3) (N := some 59) (bs 5 15) rfl rfl (by kernel_rfl) (by decide) (fun K hK => ?_)
  refine goes_ Try.func18 (by kernel_rfl) rfl #[.agg #[.slice Ao51 t249.length co51, .int .i64 t252, .slice Ao56 t253.length co56], .agg #[.slice Ao229 t271.length co229, .int .i64 t274, .slice Ao230 t275.length co230]] (by rfl) rfl rfl ml_ ?_
  with_reducible refine (laws_eqParty.calls kj25 _ _ t249 t252 _ _ t253 _ _ t271 t274 _ _ t275 false _ ?side1 ?side2 ?side3 ?side4 ?side5 ?side6 ?side7 ?side8 A92.out).mono ?_
  (case side1 => exact rc_ (Kd.R_reads' HO_257000.out).2.2)
  (case side2 => exact (Kd.R_reads' HO_257000.out).2.1)
  (case side3 => exact rc_ (Kd.R_reads' HO_257002.out).2.2)
  (case side4 => exact (Kd.R_reads' HO_257002.out).2.1)
  (case side5 => exact rc_ (Kd.R_reads' HO273.out).2.2)
  (case side6 => exact (Kd.R_reads' HO273.out).2.1)
  (case side7 => exact rc_ (Kd.R_reads' HO277.out).2.2)
  (case side8 => exact (Kd.R_reads' HO277.out).2.1)
  rintro e w231 ⟨rfl, hb⟩
  refine ⟨_, rfl, ?_⟩; replace HO_249000 := Aside0.mk (Kd.R_below (fr_ HO_249000.out) hb); replace HO_249002 := Aside0.mk (Kd.R_below (fr_ HO_249002.out) hb); replace HO_257000 := Aside0.mk (Kd.R_below (fr_ HO_257000.out) hb); replace HO_257002 := Aside0.mk (Kd.R_below (fr_ HO_257002.out) hb); replace HO_270000 := Aside0.mk (Kd.R_below (fr_ HO_270000.out) hb); replace HO_270002 := Aside0.mk (Kd.R_below (fr_ HO_270002.out) hb); replace HO273 := Aside0.mk (Kd.R_below (fr_ HO273.out) hb); replace HO277 := Aside0.mk (Kd.R_below (fr_ HO277.out) hb); replace BK225 := Aside0.mk (bb_ BK225.out hb); replace BK226 := Aside0.mk (bb_ BK226.out hb); replace BK248 := Aside0.mk (bb_ BK248.out hb); replace BK256 := Aside0.mk (bb_ BK256.out hb); replace BK269 := Aside0.mk (bb_ BK269.out hb); replace HB := Aside0.mk (below_step (bel_ HB.out) hb); (try clear hb); (try clear hb2); (try clear hk); (try clear hi)
  refine hK.out _ _ ⟨bc_ BK256.out 0, bc_ BK256.out 1, bc_ BK256.out 2, bc_ BK225.out 0, bc_ BK225.out 1, bc_ BK225.out 2⟩ (fun hHeld => ?_)
  clear hK K
  refine norm_ (a' := ?_) ?_ ?_
  rotate_left
  ·show Act.put _ (some 59) _ = _
   simp only [Act.put, sA_, sZ_, sS_, i64_w, i32_w]
   rfl
  refine pure_ (i := 4) (N := some 60) (v := ?_) (a' := ?_) (bs 5 31) rfl rfl (by kernel_rfl) (fun _ _ _ h => h) (Or.inl ⟨by rfl, ?_⟩) ?_ ?_
  rotate_left
  ·intro w'
   go_simp
   with_reducible rfl
  rotate_left
  ·simp only [Act.put, sA_, sZ_, sS_, i64_w, i32_w]
   rfl
  refine done_ (by kernel_rfl) ?_
  try go_wp2
  go_ret
  exact ⟨by first | rfl | (simp [errW_none, errW_some] <;> rfl) | (simp [*, errW_none, errW_some] <;> rfl), bel_ HB.out⟩

/-- THE ONE PURE STATEMENT of laws_FnExactTake21. -/
def laws_FnExactTake21.Pure : Prop := ∀ (l0_0 : List ByteArray) (a0_1 : Int) (l0_2 : List ByteArray) (a1 : Int) (a2_0 : Int) (a2_1 : Int) (a2_2 : Int) (a2_3 : ByteArray), (l0_0.length ≤ 9223372036854775807 ∧ ∀ q0 ∈ l0_0, q0.size ≤ 9223372036854775807) → (Lit.int .i64 a0_1).wf = true → (l0_2.length ≤ 9223372036854775807 ∧ ∀ q0 ∈ l0_2, q0.size ≤ 9223372036854775807) → (Lit.int .i64 a1).wf = true → (Lit.int .i64 a2_0).wf = true → (Lit.int .i64 a2_1).wf = true → (Lit.int .i64 a2_2).wf = true → a2_3.size ≤ 9223372036854775807 → ∃ k, laws_FnExactTake21.f k l0_0 a0_1 l0_2 a1 a2_0 a2_1 a2_2 a2_3 = some true

end Go.Proofs.Ytmglilikmbbidaa.PFnExactTake21
