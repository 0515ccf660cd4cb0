/- The Lean side of Go functions of this seat: what each answers, and that its run comes to that answer; written by a program of this work. -/
import Derived.Test.YtmglilikmbbidaaPFnPartiesx0
import Derived.Test.YtmglilikmbbidaaPFnPartiesx1
namespace Go.Proofs.Ytmglilikmbbidaa.PFnParties
open Go.RowKit Go.Proofs.YtmglilikmbbidaaW.PrintWords Go.Proofs.YtmglilikmbbidaaW.PrintLast Go.Proofs.YtmglilikmbbidaaW.PrintMore
attribute [local go_sem] max2_int min2_int max_two min_two max_three min_three max_four min_four   -- for this text's walks alone
set_option linter.unusedVariables false
set_option linter.unusedSimpArgs false

/-! ### spec_l21DrawPair: function 31 -/
mutual
def spec_l21DrawPair.l0 : Nat → Int → List Int → Int → Int → List ByteArray → Int → Int → Option (List ByteArray × Int × List ByteArray × List ByteArray × Int × List ByteArray × Int × Int)
 | 0, _, _, _, _, _, _, _ => none
 | k + 1, x6, x1000, x1001, x1002, x151000, x151001, x152001 => if x6 > 0 then ((spec_l21DrawText.f k x1000 x1001 x1002).bind fun bt155 => (if bt155.1.size + 0 ≤ 9223372036854775807 then (if x151000.length < 8796093022208 then (spec_l21DrawPair.l0 k (wrap64 (x6 - 1)) x1000 bt155.2.1 bt155.2.2 (x151000 ++ [bt155.1 ++ (⟨#[]⟩ : ByteArray)]) x151001 x152001) else (none)) else (none))) else ((spec_l1Below.f x1000 x1001 x1002 7).bind fun bt161 => (spec_l21DrawPair.l1 k bt161.1 x1000 bt161.2.1 bt161.2.2 x151000 x151001 ([] : List ByteArray) x152001))
def spec_l21DrawPair.l1 : Nat → Int → List Int → Int → Int → List ByteArray → Int → List ByteArray → Int → Option (List ByteArray × Int × List ByteArray × List ByteArray × Int × List ByteArray × Int × Int)
 | 0, _, _, _, _, _, _, _, _ => none
 | k + 1, x7, x1000, x1001, x1002, x151000, x151001, x152000, x152001 => if x7 > 0 then ((spec_l21DrawText.f k x1000 x1001 x1002).bind fun bt164 => (if x152000.length < 8796093022208 then (spec_l21DrawPair.l1 k (wrap64 (x7 - 1)) x1000 bt164.2.1 bt164.2.2 x151000 x151001 (x152000 ++ [bt164.1]) x152001) else (none))) else (spec_l21DrawPair.l2 k 0 x1000 x1001 x1002 x151000 x151001 x152000 x152001)
def spec_l21DrawPair.l2 : Nat → Int → List Int → Int → Int → List ByteArray → Int → List ByteArray → Int → Option (List ByteArray × Int × List ByteArray × List ByteArray × Int × List ByteArray × Int × Int)
 | 0, _, _, _, _, _, _, _, _ => none
 | k + 1, x8, x1000, x1001, x1002, x151000, x151001, x152000, x152001 => if x8 < (x151000.length : Int) then (if 0 ≤ x8 then (if ((rdOf ByteArray.empty x151000 x8).size : Int) > 40 then (spec_l21DrawPair.l2 k (wrap64 (x8 + 1)) x1000 x1001 x1002 (x151000.set (x8 : Int).toNat (⟨#[120]⟩ : ByteArray)) x151001 x152000 x152001) else (spec_l21DrawPair.l2 k (wrap64 (x8 + 1)) x1000 x1001 x1002 x151000 x151001 x152000 x152001)) else (none)) else (spec_l21DrawPair.l3 k 0 x1000 x1001 x1002 x151000 x151001 x152000 x152001)
def spec_l21DrawPair.l3 : Nat → Int → List Int → Int → Int → List ByteArray → Int → List ByteArray → Int → Option (List ByteArray × Int × List ByteArray × List ByteArray × Int × List ByteArray × Int × Int)
 | 0, _, _, _, _, _, _, _, _ => none
 | k + 1, x9, x1000, x1001, x1002, x151000, x151001, x152000, x152001 => if x9 < (x152000.length : Int) then (if 0 ≤ x9 then (if ((rdOf ByteArray.empty x152000 x9).size : Int) > 40 then (spec_l21DrawPair.l3 k (wrap64 (x9 + 1)) x1000 x1001 x1002 x151000 x151001 (x152000.set (x9 : Int).toNat (⟨#[121]⟩ : ByteArray)) x152001) else (spec_l21DrawPair.l3 k (wrap64 (x9 + 1)) x1000 x1001 x1002 x151000 x151001 x152000 x152001)) else (none)) else ((some (([] : List ByteArray) : List ByteArray)).bind fun y174 => ((spec_l1Below.f x1000 x1001 x1002 (wrap64 ((x152000.length : Int) + 1))).bind fun bt177 => (if 0 ≤ bt177.1 then (if bt177.1 ≤ (x152000.length : Int) then ((some (x152000.take (bt177.1 : Int).toNat : List ByteArray)).bind fun y180 => (if y174.length + y180.length < 8796093022208 then ((some (y174 ++ y180 : List ByteArray)).bind fun y184 => ((some (([] : List ByteArray) : List ByteArray)).bind fun y187 => ((spec_l1Below.f x1000 bt177.2.1 bt177.2.2 (wrap64 ((x151000.length : Int) + 1))).bind fun bt190 => (if 0 ≤ bt190.1 then (if bt190.1 ≤ (x151000.length : Int) then ((some (x151000.take (bt190.1 : Int).toNat : List ByteArray)).bind fun y193 => (if y187.length + y193.length < 8796093022208 then ((some (y187 ++ y193 : List ByteArray)).bind fun y197 => ((spec_l1Below.f x1000 bt190.2.1 bt190.2.2 (wrap64 ((y197.length : Int) + 1))).bind fun bt200 => ((spec_l1Below.f x1000 bt200.2.1 bt200.2.2 (wrap64 ((y184.length : Int) + 1))).bind fun bt203 => (some (x151000, bt200.1, y184, x152000, bt203.1, y197, bt203.2.1, bt203.2.2))))) else (none))) else (none)) else (none))))) else (none))) else (none)) else (none))))
end
def spec_l21DrawPair.f (k : Nat) (s0_0 : List Int) (s0_1 : Int) (s0_2 : Int) : Option (List ByteArray × Int × List ByteArray × List ByteArray × Int × List ByteArray × Int × Int) := (spec_l1Below.f s0_0 s0_1 s0_2 7).bind fun bt152 => (spec_l21DrawPair.l0 k bt152.1 s0_0 bt152.2.1 bt152.2.2 ([] : List ByteArray) 0 0)
theorem spec_l21DrawPair.mono_l : ∀ k, (∀ y0 y1 y2 y3 y4 y5 y6, LeO (spec_l21DrawPair.l0 k y0 y1 y2 y3 y4 y5 y6) (spec_l21DrawPair.l0 (k + 1) y0 y1 y2 y3 y4 y5 y6)) ∧ (∀ y0 y1 y2 y3 y4 y5 y6 y7, LeO (spec_l21DrawPair.l1 k y0 y1 y2 y3 y4 y5 y6 y7) (spec_l21DrawPair.l1 (k + 1) y0 y1 y2 y3 y4 y5 y6 y7)) ∧ (∀ y0 y1 y2 y3 y4 y5 y6 y7, LeO (spec_l21DrawPair.l2 k y0 y1 y2 y3 y4 y5 y6 y7) (spec_l21DrawPair.l2 (k + 1) y0 y1 y2 y3 y4 y5 y6 y7)) ∧ (∀ y0 y1 y2 y3 y4 y5 y6 y7, LeO (spec_l21DrawPair.l3 k y0 y1 y2 y3 y4 y5 y6 y7) (spec_l21DrawPair.l3 (k + 1) y0 y1 y2 y3 y4 y5 y6 y7))
 | 0 => ⟨fun _ _ _ _ _ _ _ r h => by simp [spec_l21DrawPair.l0] at h, fun _ _ _ _ _ _ _ _ r h => by simp [spec_l21DrawPair.l1] at h, fun _ _ _ _ _ _ _ _ r h => by simp [spec_l21DrawPair.l2] at h, fun _ _ _ _ _ _ _ _ r h => by simp [spec_l21DrawPair.l3] at h⟩
 | k + 1 => by
  obtain ⟨ih0, ih1, ih2, ih3⟩ := spec_l21DrawPair.mono_l k
  refine ⟨?_, ?_, ?_, ?_⟩
  ·intro y0 y1 y2 y3 y4 y5 y6
   unfold spec_l21DrawPair.l0
   repeat' first
   | (with_reducible exact ih0 _ _ _ _ _ _ _)
   | (with_reducible exact ih1 _ _ _ _ _ _ _ _)
   | (with_reducible exact ih2 _ _ _ _ _ _ _ _)
   | (with_reducible exact ih3 _ _ _ _ _ _ _ _)
   | (with_reducible exact spec_l21DrawText.mono _ _ _ _)
   | (with_reducible exact LeO.refl _)
   | (with_reducible exact LeO.none _)
   | (with_reducible refine LeO.ite ?_ ?_)
   | (with_reducible refine LeO.bind ?_ (fun _ => ?_))
   | exact ih0 _ _ _ _ _ _ _
   | exact ih1 _ _ _ _ _ _ _ _
   | exact ih2 _ _ _ _ _ _ _ _
   | exact ih3 _ _ _ _ _ _ _ _
   | exact spec_l21DrawText.mono _ _ _ _
   | exact LeO.none _
   | refine LeO.ite ?_ ?_
   | refine LeO.bind ?_ (fun _ => ?_)
  ·intro y0 y1 y2 y3 y4 y5 y6 y7
   unfold spec_l21DrawPair.l1
   repeat' first
   | (with_reducible exact ih0 _ _ _ _ _ _ _)
   | (with_reducible exact ih1 _ _ _ _ _ _ _ _)
   | (with_reducible exact ih2 _ _ _ _ _ _ _ _)
   | (with_reducible exact ih3 _ _ _ _ _ _ _ _)
   | (with_reducible exact spec_l21DrawText.mono _ _ _ _)
   | (with_reducible exact LeO.refl _)
   | (with_reducible exact LeO.none _)
   | (with_reducible refine LeO.ite ?_ ?_)
   | (with_reducible refine LeO.bind ?_ (fun _ => ?_))
   | exact ih0 _ _ _ _ _ _ _
   | exact ih1 _ _ _ _ _ _ _ _
   | exact ih2 _ _ _ _ _ _ _ _
   | exact ih3 _ _ _ _ _ _ _ _
   | exact spec_l21DrawText.mono _ _ _ _
   | exact LeO.none _
   | refine LeO.ite ?_ ?_
   | refine LeO.bind ?_ (fun _ => ?_)
  ·intro y0 y1 y2 y3 y4 y5 y6 y7
   unfold spec_l21DrawPair.l2
   repeat' first
   | (with_reducible exact ih0 _ _ _ _ _ _ _)
   | (with_reducible exact ih1 _ _ _ _ _ _ _ _)
   | (with_reducible exact ih2 _ _ _ _ _ _ _ _)
   | (with_reducible exact ih3 _ _ _ _ _ _ _ _)
   | (with_reducible exact spec_l21DrawText.mono _ _ _ _)
   | (with_reducible exact LeO.refl _)
   | (with_reducible exact LeO.none _)
   | (with_reducible refine LeO.ite ?_ ?_)
   | (with_reducible refine LeO.bind ?_ (fun _ => ?_))
   | exact ih0 _ _ _ _ _ _ _
   | exact ih1 _ _ _ _ _ _ _ _
   | exact ih2 _ _ _ _ _ _ _ _
   | exact ih3 _ _ _ _ _ _ _ _
   | exact spec_l21DrawText.mono _ _ _ _
   | exact LeO.none _
   | refine LeO.ite ?_ ?_
   | refine LeO.bind ?_ (fun _ => ?_)
  ·intro y0 y1 y2 y3 y4 y5 y6 y7
   unfold spec_l21DrawPair.l3
   repeat' first
   | (with_reducible exact ih0 _ _ _ _ _ _ _)
   | (with_reducible exact ih1 _ _ _ _ _ _ _ _)
   | (with_reducible exact ih2 _ _ _ _ _ _ _ _)
   | (with_reducible exact ih3 _ _ _ _ _ _ _ _)
   | (with_reducible exact spec_l21DrawText.mono _ _ _ _)
   | (with_reducible exact LeO.refl _)
   | (with_reducible exact LeO.none _)
   | (with_reducible refine LeO.ite ?_ ?_)
   | (with_reducible refine LeO.bind ?_ (fun _ => ?_))
   | exact ih0 _ _ _ _ _ _ _
   | exact ih1 _ _ _ _ _ _ _ _
   | exact ih2 _ _ _ _ _ _ _ _
   | exact ih3 _ _ _ _ _ _ _ _
   | exact spec_l21DrawText.mono _ _ _ _
   | exact LeO.none _
   | refine LeO.ite ?_ ?_
   | refine LeO.bind ?_ (fun _ => ?_)
theorem spec_l21DrawPair.mono : ∀ a0 a1 a2 k, LeO (spec_l21DrawPair.f k a0 a1 a2) (spec_l21DrawPair.f (k + 1) a0 a1 a2) := by
 intro a0 a1 a2 k
 obtain ⟨ih0, ih1, ih2, ih3⟩ := spec_l21DrawPair.mono_l k
 unfold spec_l21DrawPair.f
 repeat' first
   | (with_reducible exact ih0 _ _ _ _ _ _ _)
   | (with_reducible exact ih1 _ _ _ _ _ _ _ _)
   | (with_reducible exact ih2 _ _ _ _ _ _ _ _)
   | (with_reducible exact ih3 _ _ _ _ _ _ _ _)
   | (with_reducible exact spec_l21DrawText.mono _ _ _ _)
   | (with_reducible exact LeO.refl _)
   | (with_reducible exact LeO.none _)
   | (with_reducible refine LeO.ite ?_ ?_)
   | (with_reducible refine LeO.bind ?_ (fun _ => ?_))
   | exact ih0 _ _ _ _ _ _ _
   | exact ih1 _ _ _ _ _ _ _ _
   | exact ih2 _ _ _ _ _ _ _ _
   | exact ih3 _ _ _ _ _ _ _ _
   | exact spec_l21DrawText.mono _ _ _ _
   | exact LeO.none _
   | refine LeO.ite ?_ ?_
   | refine LeO.bind ?_ (fun _ => ?_)
def spec_l21DrawPair.T5 : Bool × List (List Nat × List Nat) := (true, [([], []), ([0], [0]), ([], []), ([2], [2]), ([3], [3]), ([4], [4]), ([1, 5, 3], [1, 5]), ([0, 1, 2, 3, 4, 5, 6], []), ([7, 6, 6, 0, 1, 2, 3, 4, 5, 6], [6, 7])])
def spec_l21DrawPair.B5 : List Nat := [0, 1, 0, 4, 12, 28, 63, 127, 255]
theorem spec_l21DrawPair.tab5 : rtab .any (opsOf Try.f31 5) = spec_l21DrawPair.T5 := by kernel_rfl
theorem spec_l21DrawPair.bits5 : waitsOk spec_l21DrawPair.T5.2 spec_l21DrawPair.B5 = true := by kernel_rfl
def spec_l21DrawPair.T9 : Bool × List (List Nat × List Nat) := (true, [([], []), ([0], [0]), ([], []), ([2], [2]), ([3], [3]), ([1, 4, 3], [1, 4]), ([0, 1, 2, 3, 4, 5], []), ([6, 5, 5, 0, 1, 2, 3, 4, 5], [5, 6])])
def spec_l21DrawPair.B9 : List Nat := [0, 1, 0, 4, 12, 31, 63, 127]
theorem spec_l21DrawPair.tab9 : rtab .any (opsOf Try.f31 9) = spec_l21DrawPair.T9 := by kernel_rfl
theorem spec_l21DrawPair.bits9 : waitsOk spec_l21DrawPair.T9.2 spec_l21DrawPair.B9 = true := by kernel_rfl
def spec_l21DrawPair.T20 : Bool × List (List Nat × List Nat) := (true, [([], []), ([], []), ([1], [1]), ([], []), ([], []), ([4], [4]), ([5], [5]), ([6], [6]), ([3, 7], [3, 7]), ([2, 8], [2, 8]), ([0, 9, 8], [0, 9]), ([0, 1, 2, 3, 4, 5, 6, 7, 8, 9, 10], []), ([11, 10, 10, 0, 1, 2, 3, 4, 5, 6, 7, 8, 9, 10], [10, 11])])
def spec_l21DrawPair.B20 : List Nat := [0, 0, 2, 0, 0, 16, 48, 112, 248, 510, 1023, 2047, 4095]
theorem spec_l21DrawPair.tab20 : rtab .any (opsOf Try.f31 20) = spec_l21DrawPair.T20 := by kernel_rfl
theorem spec_l21DrawPair.bits20 : waitsOk spec_l21DrawPair.T20.2 spec_l21DrawPair.B20 = true := by kernel_rfl
def spec_l21DrawPair.T21 : Bool × List (List Nat × List Nat) := (true, [([], []), ([], []), ([1], [1]), ([], []), ([], []), ([4], [4]), ([5], [5]), ([6], [6]), ([3, 7], [3, 7]), ([2, 8], [2, 8]), ([0, 9, 8], [0, 9]), ([0, 1, 2, 3, 4, 5, 6, 7, 8, 9, 10], []), ([11, 10, 10, 0, 1, 2, 3, 4, 5, 6, 7, 8, 9, 10], [10, 11])])
def spec_l21DrawPair.B21 : List Nat := [0, 0, 2, 0, 0, 16, 48, 112, 248, 510, 1023, 2047, 4095]
theorem spec_l21DrawPair.tab21 : rtab .any (opsOf Try.f31 21) = spec_l21DrawPair.T21 := by kernel_rfl
theorem spec_l21DrawPair.bits21 : waitsOk spec_l21DrawPair.T21.2 spec_l21DrawPair.B21 = true := by kernel_rfl
set_option maxHeartbeats 8000000 in
set_option maxRecDepth 100000 in
theorem spec_l21DrawPair.calls (k : Nat) (g : Nat) (s0_0 : List Int) (s0_1 : Int) (s0_2 : Int) (r1 : List ByteArray) (r2 : Int) (r3 : List ByteArray) (r4 : List ByteArray) (r5 : Int) (r6 : List ByteArray) (r7 : Int) (r8 : Int) (w0 w : World) (hI : IsS74 w0 w g s0_0 s0_1 s0_2) (hB : Below w0.heap.size w0 w) (h : spec_l21DrawPair.f k s0_0 s0_1 s0_2 = some (r1, r2, r3, r4, r5, r6, r7, r8)) :
  Calls Try.prog 31 #[.pointer (some ⟨g, 0, none⟩)] w fun e w' => ∃ v0_ v2_ v3_ v5_ : Value, e = .returned (.tuple #[.agg #[v0_, .int .i64 r2, v2_], .agg #[v3_, .int .i64 r5, v5_]]) ∧ Kd.R Kd.string 9 w' w.heap.size (fun k_ => nB_ (v2_) k_ ∧ nB_ (v3_) k_ ∧ nB_ (v5_) k_) v0_ r1 ∧ Kd.R Kd.string 9 w' w.heap.size (fun k_ => nB_ (v0_) k_ ∧ nB_ (v3_) k_ ∧ nB_ (v5_) k_) v2_ r3 ∧ Kd.R Kd.string 9 w' w.heap.size (fun k_ => nB_ (v0_) k_ ∧ nB_ (v2_) k_ ∧ nB_ (v5_) k_) v3_ r4 ∧ Kd.R Kd.string 9 w' w.heap.size (fun k_ => nB_ (v0_) k_ ∧ nB_ (v2_) k_ ∧ nB_ (v3_) k_) v5_ r6 ∧ IsS74 w0 w' g s0_0 r7 r8 ∧ Below w0.heap.size w0 w' ∧ KeepBut w w' g none := by
 have hu26 := Try.underlying26
 have HI0 := Aside0.mk hI
 have HK := Aside0.mk (KeepBut.refl w g none)
 have HL := Aside0.mk hB.size
 clear hI
 have HW0 := Aside0.mk hB.size
 have HB := Aside0.mk hB
 clear hB
 have H : ((spec_l1Below.f s0_0 s0_1 s0_2 7).bind fun bt152 => (spec_l21DrawPair.l0 k bt152.1 s0_0 bt152.2.1 bt152.2.2 ([] : List ByteArray) 0 0)) = some (r1, r2, r3, r4, r5, r6, r7, r8) := h
 clear h; replace H := Option.bind_eq_some_iff.mp H
 obtain ⟨⟨t152, t153, t154⟩, A20, H⟩ := H
 replace H : (spec_l21DrawPair.l0 k t152 s0_0 t153 t154 ([] : List ByteArray) 0 0) = some (r1, r2, r3, r4, r5, r6, r7, r8) := H
 have A2 := Aside0.mk A20
 clear A20
 have H' := Aside0.mk H
 clear H
 go_enter Try.func31, Try.ntmps31
 go_wp2_with (first | ((with_reducible refine gate_dst (N := 2) rfl ?_); refine box_event ?hg (N := 2) ?hd (cs := #[.slice none 0 0, .int .i64 0, .slice none 0 0]) (t := 26) ?hr ?_; (case hd => rfl); (case hg => rfl); (case hr => first | (go_simp; done) | (go_simp; rfl)); intro gb148 hg w3 hbox hb; replace HB := Aside0.mk (below_step (by repeat (first | (with_reducible first | exact HB.out | apply below_alloc | apply pw_below_drewN | apply below_drew1 | refine below_set ?_ (IsS74.ge HI0.out)) | exact HB.out)) hb); have BK148 := Aside0.mk (hbox); have GW148 := Aside0.mk ((by rw [hg]; exact (keep_size (w := w) (g := g) (row := none) (by repeat (first | (with_reducible first | exact HK.out | apply KeepBut.set_ | apply keep_drewN | apply keep_drew | apply keep_alloc) | exact HK.out))) : w.heap.size ≤ gb148)); have GE148 := Aside0.mk ((Nat.le_trans HW0.out (by rw [hg]; exact (keep_size (w := w) (g := g) (row := none) (by repeat (first | (with_reducible first | exact HK.out | apply KeepBut.set_ | apply keep_drewN | apply keep_drew | apply keep_alloc) | exact HK.out))) : w.heap.size ≤ gb148) : w0.heap.size ≤ gb148)); replace HK := Aside0.mk (KeepBut.trans (by repeat (first | (with_reducible first | exact HK.out | apply KeepBut.set_ | apply keep_drewN | apply keep_drew | apply keep_alloc) | exact HK.out)) (KeepBut.of_below hb g none) (.inl rfl)); have NB0_148 := Aside0.mk ((by rw [hg]; exact Nat.ne_of_lt (IsS74.lt (show IsS74 w0 _ g s0_0 s0_1 s0_2 from by repeat (first | (with_reducible first | exact HI0.out | apply IsS74.alloc | apply IsS74.drewN | apply IsS74.drew | apply IsS74.set_1 | apply IsS74.set_2) | exact HI0.out))) : g ≠ gb148)); have NB148_0 := Aside0.mk ((by rw [hg]; exact Nat.ne_of_gt (IsS74.lt (show IsS74 w0 _ g s0_0 s0_1 s0_2 from by repeat (first | (with_reducible first | exact HI0.out | apply IsS74.alloc | apply IsS74.drewN | apply IsS74.drew | apply IsS74.set_1 | apply IsS74.set_2) | exact HI0.out))) : gb148 ≠ g)); replace HI0 := Aside0.mk (IsS74.below (by repeat (first | (with_reducible first | exact HI0.out | apply IsS74.alloc | apply IsS74.drewN | apply IsS74.drew | apply IsS74.set_1 | apply IsS74.set_2) | exact HI0.out)) hb); clear hb hbox hg) | ((with_reducible refine gate_dst (N := 3) rfl ?_); refine box_event ?hg (N := 3) ?hd (cs := #[.slice none 0 0, .int .i64 0, .slice none 0 0]) (t := 26) ?hr ?_; (case hd => rfl); (case hg => rfl); (case hr => first | (go_simp; done) | (go_simp; rfl)); intro gb149 hg w4 hbox hb; replace HB := Aside0.mk (below_step (by repeat (first | (with_reducible first | exact HB.out | apply below_alloc | apply pw_below_drewN | apply below_drew1 | refine below_set ?_ (IsS74.ge HI0.out) | refine below_set ?_ GE148.out) | exact HB.out)) hb); have BK149 := Aside0.mk (hbox); have GW149 := Aside0.mk ((by rw [hg]; exact (keep_size (w := w) (g := g) (row := none) (by repeat (first | (with_reducible first | exact HK.out | apply KeepBut.set_ | apply keep_drewN | apply keep_drew | apply keep_alloc | refine keep_far ?_ GW148.out _) | exact HK.out))) : w.heap.size ≤ gb149)); have GE149 := Aside0.mk ((Nat.le_trans HW0.out (by rw [hg]; exact (keep_size (w := w) (g := g) (row := none) (by repeat (first | (with_reducible first | exact HK.out | apply KeepBut.set_ | apply keep_drewN | apply keep_drew | apply keep_alloc | refine keep_far ?_ GW148.out _) | exact HK.out))) : w.heap.size ≤ gb149) : w0.heap.size ≤ gb149)); replace HK := Aside0.mk (KeepBut.trans (by repeat (first | (with_reducible first | exact HK.out | apply KeepBut.set_ | apply keep_drewN | apply keep_drew | apply keep_alloc | refine keep_far ?_ GW148.out _) | exact HK.out)) (KeepBut.of_below hb g none) (.inl rfl)); have NB148_149 := Aside0.mk (nl_ BK148.out hg); have NB149_148 := Aside0.mk (ng_ BK148.out hg); replace BK148 := Aside0.mk (bb_ BK148.out hb); have NB0_149 := Aside0.mk ((by rw [hg]; exact Nat.ne_of_lt (IsS74.lt (show IsS74 w0 _ g s0_0 s0_1 s0_2 from by repeat (first | (with_reducible first | exact HI0.out | apply IsS74.alloc | apply IsS74.drewN | apply IsS74.drew | apply IsS74.set_1 | apply IsS74.set_2 | refine IsS74.far ?_ NB0_148.out _) | exact HI0.out))) : g ≠ gb149)); have NB149_0 := Aside0.mk ((by rw [hg]; exact Nat.ne_of_gt (IsS74.lt (show IsS74 w0 _ g s0_0 s0_1 s0_2 from by repeat (first | (with_reducible first | exact HI0.out | apply IsS74.alloc | apply IsS74.drewN | apply IsS74.drew | apply IsS74.set_1 | apply IsS74.set_2 | refine IsS74.far ?_ NB0_148.out _) | exact HI0.out))) : gb149 ≠ g)); replace HI0 := Aside0.mk (IsS74.below (by repeat (first | (with_reducible first | exact HI0.out | apply IsS74.alloc | apply IsS74.drewN | apply IsS74.drew | apply IsS74.set_1 | apply IsS74.set_2 | refine IsS74.far ?_ NB0_148.out _) | exact HI0.out)) hb); clear hb hbox hg) | ((with_reducible refine gate_dst (N := 4) rfl ?_); refine box_event ?hg (N := 4) ?hd (cs := #[.slice none 0 0, .int .i64 0, .slice none 0 0]) (t := 26) ?hr ?_; (case hd => rfl); (case hg => rfl); (case hr => first | (go_simp; done) | (go_simp; rfl)); intro gb150 hg w5 hbox hb; replace HB := Aside0.mk (below_step (by repeat (first | (with_reducible first | exact HB.out | apply below_alloc | apply pw_below_drewN | apply below_drew1 | refine below_set ?_ (IsS74.ge HI0.out) | refine below_set ?_ GE148.out | refine below_set ?_ GE149.out) | exact HB.out)) hb); have BK150 := Aside0.mk (hbox); have GW150 := Aside0.mk ((by rw [hg]; exact (keep_size (w := w) (g := g) (row := none) (by repeat (first | (with_reducible first | exact HK.out | apply KeepBut.set_ | apply keep_drewN | apply keep_drew | apply keep_alloc | refine keep_far ?_ GW148.out _ | refine keep_far ?_ GW149.out _) | exact HK.out))) : w.heap.size ≤ gb150)); have GE150 := Aside0.mk ((Nat.le_trans HW0.out (by rw [hg]; exact (keep_size (w := w) (g := g) (row := none) (by repeat (first | (with_reducible first | exact HK.out | apply KeepBut.set_ | apply keep_drewN | apply keep_drew | apply keep_alloc | refine keep_far ?_ GW148.out _ | refine keep_far ?_ GW149.out _) | exact HK.out))) : w.heap.size ≤ gb150) : w0.heap.size ≤ gb150)); replace HK := Aside0.mk (KeepBut.trans (by repeat (first | (with_reducible first | exact HK.out | apply KeepBut.set_ | apply keep_drewN | apply keep_drew | apply keep_alloc | refine keep_far ?_ GW148.out _ | refine keep_far ?_ GW149.out _) | exact HK.out)) (KeepBut.of_below hb g none) (.inl rfl)); have NB148_150 := Aside0.mk (nl_ BK148.out hg); have NB150_148 := Aside0.mk (ng_ BK148.out hg); replace BK148 := Aside0.mk (bb_ BK148.out hb); have NB149_150 := Aside0.mk (nl_ BK149.out hg); have NB150_149 := Aside0.mk (ng_ BK149.out hg); replace BK149 := Aside0.mk (bb_ BK149.out hb); have NB0_150 := Aside0.mk ((by rw [hg]; exact Nat.ne_of_lt (IsS74.lt (show IsS74 w0 _ g s0_0 s0_1 s0_2 from by repeat (first | (with_reducible first | exact HI0.out | apply IsS74.alloc | apply IsS74.drewN | apply IsS74.drew | apply IsS74.set_1 | apply IsS74.set_2 | refine IsS74.far ?_ NB0_148.out _ | refine IsS74.far ?_ NB0_149.out _) | exact HI0.out))) : g ≠ gb150)); have NB150_0 := Aside0.mk ((by rw [hg]; exact Nat.ne_of_gt (IsS74.lt (show IsS74 w0 _ g s0_0 s0_1 s0_2 from by repeat (first | (with_reducible first | exact HI0.out | apply IsS74.alloc | apply IsS74.drewN | apply IsS74.drew | apply IsS74.set_1 | apply IsS74.set_2 | refine IsS74.far ?_ NB0_148.out _ | refine IsS74.far ?_ NB0_149.out _) | exact HI0.out))) : gb150 ≠ g)); replace HI0 := Aside0.mk (IsS74.below (by repeat (first | (with_reducible first | exact HI0.out | apply IsS74.alloc | apply IsS74.drewN | apply IsS74.drew | apply IsS74.set_1 | apply IsS74.set_2 | refine IsS74.far ?_ NB0_148.out _ | refine IsS74.far ?_ NB0_149.out _) | exact HI0.out)) hb); clear hb hbox hg) | ((with_reducible refine gate_dst (N := 5) rfl ?_); refine box_event ?hg (N := 5) ?hd (cs := #[.slice none 0 0, .int .i64 0, .slice none 0 0]) (t := 26) ?hr ?_; (case hd => rfl); (case hg => rfl); (case hr => first | (go_simp; done) | (go_simp; rfl)); intro gb151 hg w6 hbox hb; replace HB := Aside0.mk (below_step (by repeat (first | (with_reducible first | exact HB.out | apply below_alloc | apply pw_below_drewN | apply below_drew1 | refine below_set ?_ (IsS74.ge HI0.out) | refine below_set ?_ GE148.out | refine below_set ?_ GE149.out | refine below_set ?_ GE150.out) | exact HB.out)) hb); have BK151 := Aside0.mk (hbox); have GW151 := Aside0.mk ((by rw [hg]; exact (keep_size (w := w) (g := g) (row := none) (by repeat (first | (with_reducible first | exact HK.out | apply KeepBut.set_ | apply keep_drewN | apply keep_drew | apply keep_alloc | refine keep_far ?_ GW148.out _ | refine keep_far ?_ GW149.out _ | refine keep_far ?_ GW150.out _) | exact HK.out))) : w.heap.size ≤ gb151)); have GE151 := Aside0.mk ((Nat.le_trans HW0.out (by rw [hg]; exact (keep_size (w := w) (g := g) (row := none) (by repeat (first | (with_reducible first | exact HK.out | apply KeepBut.set_ | apply keep_drewN | apply keep_drew | apply keep_alloc | refine keep_far ?_ GW148.out _ | refine keep_far ?_ GW149.out _ | refine keep_far ?_ GW150.out _) | exact HK.out))) : w.heap.size ≤ gb151) : w0.heap.size ≤ gb151)); replace HK := Aside0.mk (KeepBut.trans (by repeat (first | (with_reducible first | exact HK.out | apply KeepBut.set_ | apply keep_drewN | apply keep_drew | apply keep_alloc | refine keep_far ?_ GW148.out _ | refine keep_far ?_ GW149.out _ | refine keep_far ?_ GW150.out _) | exact HK.out)) (KeepBut.of_below hb g none) (.inl rfl)); have NB148_151 := Aside0.mk (nl_ BK148.out hg); have NB151_148 := Aside0.mk (ng_ BK148.out hg); replace BK148 := Aside0.mk (bb_ BK148.out hb); have NB149_151 := Aside0.mk (nl_ BK149.out hg); have NB151_149 := Aside0.mk (ng_ BK149.out hg); replace BK149 := Aside0.mk (bb_ BK149.out hb); have NB150_151 := Aside0.mk (nl_ BK150.out hg); have NB151_150 := Aside0.mk (ng_ BK150.out hg); replace BK150 := Aside0.mk (bb_ BK150.out hb); have NB0_151 := Aside0.mk ((by rw [hg]; exact Nat.ne_of_lt (IsS74.lt (show IsS74 w0 _ g s0_0 s0_1 s0_2 from by repeat (first | (with_reducible first | exact HI0.out | apply IsS74.alloc | apply IsS74.drewN | apply IsS74.drew | apply IsS74.set_1 | apply IsS74.set_2 | refine IsS74.far ?_ NB0_148.out _ | refine IsS74.far ?_ NB0_149.out _ | refine IsS74.far ?_ NB0_150.out _) | exact HI0.out))) : g ≠ gb151)); have NB151_0 := Aside0.mk ((by rw [hg]; exact Nat.ne_of_gt (IsS74.lt (show IsS74 w0 _ g s0_0 s0_1 s0_2 from by repeat (first | (with_reducible first | exact HI0.out | apply IsS74.alloc | apply IsS74.drewN | apply IsS74.drew | apply IsS74.set_1 | apply IsS74.set_2 | refine IsS74.far ?_ NB0_148.out _ | refine IsS74.far ?_ NB0_149.out _ | refine IsS74.far ?_ NB0_150.out _) | exact HI0.out))) : gb151 ≠ g)); replace HI0 := Aside0.mk (IsS74.below (by repeat (first | (with_reducible first | exact HI0.out | apply IsS74.alloc | apply IsS74.drewN | apply IsS74.drew | apply IsS74.set_1 | apply IsS74.set_2 | refine IsS74.far ?_ NB0_148.out _ | refine IsS74.far ?_ NB0_149.out _ | refine IsS74.far ?_ NB0_150.out _) | exact HI0.out)) hb); clear hb hbox hg; have hnb7 := NB150_148.out; have hnc7 := NB148_150.out; have hnb8 := NB150_149.out; have hnc8 := NB149_150.out; have hnb9 := NB150_151.out; have hnc9 := NB151_150.out; have hnb10 := NB150_0.out; have hnc10 := NB0_150.out; have hcz11_0 : w6.cell? ⟨gb150, 0, none⟩ = some (.slice none 0 0) := bc_ BK150.out 0; have hcz11_1 : w6.cell? ⟨gb150, 1, none⟩ = some (.int .i64 0) := bc_ BK150.out 1; have hcz11_2 : w6.cell? ⟨gb150, 2, none⟩ = some (.slice none 0 0) := bc_ BK150.out 2; have hfz11_0 := blk_frozen BK150.out 0; have hfz11_1 := blk_frozen BK150.out 1; have hfz11_2 := blk_frozen BK150.out 2; have hnb12 := NB151_148.out; have hnc12 := NB148_151.out; have hnb13 := NB151_149.out; have hnc13 := NB149_151.out; have hnb14 := NB151_0.out; have hnc14 := NB0_151.out; have hcz15_0 : w6.cell? ⟨gb151, 0, none⟩ = some (.slice none 0 0) := bc_ BK151.out 0; have hcz15_1 : w6.cell? ⟨gb151, 1, none⟩ = some (.int .i64 0) := bc_ BK151.out 1; have hcz15_2 : w6.cell? ⟨gb151, 2, none⟩ = some (.slice none 0 0) := bc_ BK151.out 2; have hfz15_0 := blk_frozen BK151.out 0; have hfz15_1 := blk_frozen BK151.out 1; have hfz15_2 := blk_frozen BK151.out 2) | ((with_reducible refine gate_callee (f := 32) rfl ?_); refine goesL_ (some 13) rfl rfl Try.func32 (by kernel_rfl) rfl #[.pointer (some ⟨g, 0, none⟩), .int .i64 7] rfl ml_ ?_; (with_reducible refine (spec_l1Below.calls g s0_0 s0_1 s0_2 7 t152 t153 t154 w0 _ ?side1 ?side2 A2.out).mono ?_); (case side1 => repeat (first | (with_reducible first | exact HI0.out | apply IsS74.alloc | apply IsS74.drewN | apply IsS74.drew | apply IsS74.set_1 | apply IsS74.set_2 | refine IsS74.far ?_ NB0_148.out _ | refine IsS74.far ?_ NB0_149.out _ | refine IsS74.far ?_ NB0_150.out _ | refine IsS74.far ?_ NB0_151.out _) | exact HI0.out)); (case side2 => repeat (first | (with_reducible first | exact HB.out | apply below_alloc | apply pw_below_drewN | apply below_drew1 | refine below_set ?_ (IsS74.ge HI0.out) | refine below_set ?_ GE148.out | refine below_set ?_ GE149.out | refine below_set ?_ GE150.out | refine below_set ?_ GE151.out) | exact HB.out)); rintro e w16 ⟨rfl, hi, hb, hk⟩; refine ⟨_, rfl, ?_⟩; replace BK148 := Aside0.mk (KeepBut.blk hk (g' := gb148) (o := .cells #[.slice none 0 0, .int .i64 0, .slice none 0 0] 26 (0, 0)) (fa_ BK148.out) NB148_0.out (by simp)); replace BK149 := Aside0.mk (KeepBut.blk hk (g' := gb149) (o := .cells #[.slice none 0 0, .int .i64 0, .slice none 0 0] 26 (0, 0)) (fa_ BK149.out) NB149_0.out (by simp)); replace BK150 := Aside0.mk (KeepBut.blk hk (g' := gb150) (o := .cells #[.slice none 0 0, .int .i64 0, .slice none 0 0] 26 (0, 0)) (by refine rp_ ?_; refine blk_far ?_ NB150_151.out _; refine rp_ ?_; refine blk_far ?_ NB150_151.out _; refine rp_ ?_; refine blk_far ?_ NB150_151.out _; refine rp_ ?_; refine blk_put (cs := #[.slice none 0 0, .int .i64 0, .slice none 0 0]) ?_ 2 _ rfl; refine rp_ ?_; refine blk_put (cs := #[.slice none 0 0, .int .i64 0, .slice none 0 0]) ?_ 1 _ rfl; refine rp_ ?_; refine blk_put (cs := #[.slice none 0 0, .int .i64 0, .slice none 0 0]) ?_ 0 _ rfl; refine rp_ ?_; exact BK150.out) NB150_0.out (by simp)); replace BK151 := Aside0.mk (KeepBut.blk hk (g' := gb151) (o := .cells #[.slice none 0 0, .int .i64 0, .slice none 0 0] 26 (0, 0)) (by refine rp_ ?_; refine blk_put (cs := #[.slice none 0 0, .int .i64 0, .slice none 0 0]) ?_ 2 _ rfl; refine rp_ ?_; refine blk_put (cs := #[.slice none 0 0, .int .i64 0, .slice none 0 0]) ?_ 1 _ rfl; refine rp_ ?_; refine blk_put (cs := #[.slice none 0 0, .int .i64 0, .slice none 0 0]) ?_ 0 _ rfl; refine rp_ ?_; refine blk_far ?_ NB151_150.out _; refine rp_ ?_; refine blk_far ?_ NB151_150.out _; refine rp_ ?_; refine blk_far ?_ NB151_150.out _; refine rp_ ?_; exact BK151.out) NB151_0.out (by simp)); replace HK := Aside0.mk (KeepBut.trans (by repeat (first | (with_reducible first | exact HK.out | apply KeepBut.set_ | apply keep_drewN | apply keep_drew | apply keep_alloc | refine keep_far ?_ GW148.out _ | refine keep_far ?_ GW149.out _ | refine keep_far ?_ GW150.out _ | refine keep_far ?_ GW151.out _) | exact HK.out)) hk (.inl rfl)); replace HB := Aside0.mk (hb); replace HI0 := Aside0.mk (hi); (try clear hb); (try clear hb2); (try clear hk); (try clear hi)))
 (try simp only [Act.put, sA_, sZ_, sS_])
 go_loopg [6] k (fun kq v6 w' => ∃ (x6_1 : Int) (x1001_1 : Int) (x1002_1 : Int) (x151000_1 : List ByteArray) (u151000 : Value), v6 = .int .i64 x6_1 ∧ Aside0 (spec_l21DrawPair.l0 kq x6_1 s0_0 x1001_1 x1002_1 x151000_1 0 0 = some (r1, r2, r3, r4, r5, r6, r7, r8)) ∧ Aside0 (kq ≤ k) ∧ Aside0 (Kd.R Kd.string 9 w' w.heap.size (fun _ => True) u151000 x151000_1) ∧ Aside0 (w'.heap[gb148]? = some (.cells #[(.slice none 0 0), .int .i64 0, (.slice none 0 0)] 26 (0, 0))) ∧ Aside0 (w'.heap[gb149]? = some (.cells #[(.slice none 0 0), .int .i64 0, (.slice none 0 0)] 26 (0, 0))) ∧ Aside0 (w'.heap[gb150]? = some (.cells #[u151000, .int .i64 0, (.slice none 0 0)] 26 (0, 0))) ∧ Aside0 (w'.heap[gb151]? = some (.cells #[(.slice none 0 0), .int .i64 0, (.slice none 0 0)] 26 (0, 0))) ∧ Aside0 (IsS74 w0 w' g s0_0 x1001_1 x1002_1) ∧ Aside0 (KeepBut w w' g none) ∧ Aside0 (Below w0.heap.size w0 w'))
 case atStart => exact ⟨(t152), (t153), (t154), (([] : List ByteArray)), (.slice none 0 0), rl_, H', ⟨Nat.le_refl _⟩, ⟨by first | exact Kd.R_nil _ _ _ _ _ | exact Kd.N_nil _ _ _ _ _ | exact Kd.V_nil _ _ _ _ _ | exact Kd.Q_nil _ _ _ _ _ | exact Kd.S_nil _ _ _ _ _⟩, ⟨fb_ BK148.out⟩, ⟨fb_ BK149.out⟩, ⟨fb_ BK150.out⟩, ⟨fb_ BK151.out⟩, ⟨by repeat (first | (with_reducible first | exact HI0.out | apply IsS74.alloc | apply IsS74.drewN | apply IsS74.drew | apply IsS74.set_1 | apply IsS74.set_2 | refine IsS74.far ?_ NB0_148.out _ | refine IsS74.far ?_ NB0_149.out _ | refine IsS74.far ?_ NB0_150.out _ | refine IsS74.far ?_ NB0_151.out _) | exact HI0.out)⟩, ⟨by repeat (first | (with_reducible first | exact HK.out | apply KeepBut.set_ | apply keep_drewN | apply keep_drew | apply keep_alloc | refine keep_far ?_ GW148.out _ | refine keep_far ?_ GW149.out _ | refine keep_far ?_ GW150.out _ | refine keep_far ?_ GW151.out _) | exact HK.out)⟩, ⟨by repeat (first | (with_reducible first | exact HB.out | apply below_alloc | apply pw_below_drewN | apply below_drew1 | refine below_set ?_ (IsS74.ge HI0.out) | refine below_set ?_ GE148.out | refine below_set ?_ GE149.out | refine below_set ?_ GE150.out | refine below_set ?_ GE151.out) | exact HB.out)⟩⟩
 case round =>
  clear H'
  try clear hcz11_0
  try clear hcz11_1
  try clear hcz11_2
  try clear hcz15_0
  try clear hcz15_1
  try clear hcz15_2
  try clear hfz11_0
  try clear hfz11_1
  try clear hfz11_2
  try clear hfz15_0
  try clear hfz15_1
  try clear hfz15_2
  obtain ⟨x6_1, x1001_1, x1002_1, x151000_1, u151000, rfl, HA, HK1, HO_151000, BK148, BK149, BK150, BK151, HI0, HK, HB⟩ := hrel
  cases gk with
  | zero => exact absurd HA.out (by simp [spec_l21DrawPair.l0])
  | succ k1 =>
   have H := HA.out
   clear HA
   simp only [spec_l21DrawPair.l0] at H
   by_cases c17 : x6_1 > 0
   ·rw [if_pos c17] at H
    have c17b0 : decide (0 < x6_1) = true := decide_eq_true c17
    clear c17; replace H := Option.bind_eq_some_iff.mp H
    obtain ⟨⟨t155, t156, t157⟩, A180, H⟩ := H
    replace H : (if t155.size + 0 ≤ 9223372036854775807 then (if x151000_1.length < 8796093022208 then (spec_l21DrawPair.l0 k1 (wrap64 (x6_1 - 1)) s0_0 t156 t157 (x151000_1 ++ [t155 ++ (⟨#[]⟩ : ByteArray)]) 0 0) else (none)) else (none)) = some (r1, r2, r3, r4, r5, r6, r7, r8) := H
    have A18 := Aside0.mk A180
    clear A180
    by_cases c19 : t155.size + 0 ≤ 9223372036854775807
    ·rw [if_pos c19] at H
     have c19b0 := eq_true c19
     have c19b1 : decide (t155.size + 0 ≤ 9223372036854775807) = true := decide_eq_true c19
     try have c19b3 : (9223372036854775807 < t155.size) = False := eq_false (Nat.not_lt.2 c19)
     try have c19b2 : (9223372036854775807 < t155.size + 0) = False := eq_false (Nat.not_lt.2 c19)
     by_cases c20 : x151000_1.length < 8796093022208
     ·rw [if_pos c20] at H
      have LMc20 := Aside0.mk c20
      clear c20
      obtain ⟨y158, hy158⟩ : ∃ y_ : List ByteArray, y_ = (x151000_1 ++ [t155 ++ (⟨#[]⟩ : ByteArray)]) := ⟨_, rfl⟩
      replace H : (spec_l21DrawPair.l0 k1 (wrap64 (x6_1 - 1)) s0_0 t156 t157 y158 0 0) = some (r1, r2, r3, r4, r5, r6, r7, r8) := by first | (rw [hy158]; with_reducible exact H) | (have H2_ := (Option.bind_some _ _).symm.trans H; rw [hy158]; with_reducible exact H2_) | (have H2_ := (Option.bind_some _ _).symm.trans H; with_reducible exact H2_) | with_reducible exact H | (rw [hy158]; exact H) | exact H
      have Ny158 := Aside0.mk hy158
      clear hy158
      have H' := Aside0.mk H
      clear H
      try go_wp2
      replace HO_151000 := Aside0.mk (Kd.R_drew HO_151000.out); replace BK148 := Aside0.mk (blk_drew BK148.out); replace BK149 := Aside0.mk (blk_drew BK149.out); replace BK150 := Aside0.mk (blk_drew BK150.out); replace BK151 := Aside0.mk (blk_drew BK151.out); replace HI0 := Aside0.mk (IsS74.drew HI0.out); replace HK := Aside0.mk (keep_drew HK.out); replace HB := Aside0.mk (below_drew1 HB.out)
      refine start_ (n := 9) (S := fun w' => w'.cell? ⟨gb150, 0, none⟩ = some (u151000) ∧ w'.cell? ⟨gb150, 1, none⟩ = some (.int .i64 0) ∧ w'.cell? ⟨gb150, 2, none⟩ = some (.slice none 0 0)) (ds := [8]) (bs 9 0) (by kernel_rfl) rfl rfl ⟨bc_ BK150.out 0, bc_ BK150.out 1, bc_ BK150.out 2⟩ (fun hHeld => ?_); refine with_tabW spec_l21DrawPair.tab5 spec_l21DrawPair.bits5 (fun HT_ HW_ => ?_)
      generalize wr.drew = w21 at HO_151000 BK148 BK149 BK150 BK151 HI0 HK HB hHeld ⊢
      refine pu_ 0 18 HT_ (bs 9 1) rfl rfl ?_
      refine pu_ 2 20 HT_ (bs 9 5) rfl rfl ?_
      refine take_ (i := 1) (N := some 19) (v := ?_) (a' := ?_) (bs 9 7) rfl rfl (take_ofW HT_.out HW_.out (by kernel_rfl)) (fun _ _ _ h => h) (Or.inl ⟨by rfl, ?_⟩) hHeld ?_ ?_
      rotate_left
      ·rintro w' ⟨s0, s1, s2⟩
       go_simp
       with_reducible rfl
      rotate_left
      ·simp only [Act.put, sA_, sZ_, sS_, i64_w, i32_w]
       rfl
      refine one_ (i := 3) (N := some 21) (bs 9 15) rfl rfl (one_of HT_.out (by kernel_rfl)) (by decide) (fun K hK => ?_)
      refine goes_ Try.func51 (by kernel_rfl) rfl #[.pointer (some ⟨g, 0, none⟩)] (by rfl) rfl rfl ml_ ?_
      with_reducible refine (spec_l21DrawText.calls k1 g s0_0 x1001_1 x1002_1 t155 t156 t157 w0 _ ?side1 ?side2 A18.out).mono ?_
      (case side1 => repeat (first | (with_reducible first | exact HI0.out | apply IsS74.alloc | apply IsS74.drewN | apply IsS74.drew | apply IsS74.set_1 | apply IsS74.set_2 | refine IsS74.far ?_ NB0_148.out _ | refine IsS74.far ?_ NB0_149.out _ | refine IsS74.far ?_ NB0_150.out _ | refine IsS74.far ?_ NB0_151.out _) | exact HI0.out))
      (case side2 => repeat (first | (with_reducible first | exact HB.out | apply below_alloc | apply pw_below_drewN | apply below_drew1 | refine below_set ?_ (IsS74.ge HI0.out) | refine below_set ?_ GE148.out | refine below_set ?_ GE149.out | refine below_set ?_ GE150.out | refine below_set ?_ GE151.out) | exact HB.out))
      rintro e w22 ⟨rfl, hi, hb, hk⟩
      refine ⟨_, rfl, ?_⟩; replace HO_151000 := Aside0.mk (Kd.R_mono (Kd.R_keep (IsS74.apart (show IsS74 w0 _ g s0_0 x1001_1 x1002_1 from by repeat (first | (with_reducible first | exact HI0.out | apply IsS74.alloc | apply IsS74.drewN | apply IsS74.drew | apply IsS74.set_1 | apply IsS74.set_2 | refine IsS74.far ?_ NB0_148.out _ | refine IsS74.far ?_ NB0_149.out _ | refine IsS74.far ?_ NB0_150.out _ | refine IsS74.far ?_ NB0_151.out _) | exact HI0.out)) (fr_ HO_151000.out) (by decide)) hk (fun _ h => h.2)) (fun _ h => h.1)); replace BK148 := Aside0.mk (KeepBut.blk hk (g' := gb148) (o := .cells #[.slice none 0 0, .int .i64 0, .slice none 0 0] 26 (0, 0)) (fb_ BK148.out) NB148_0.out (by simp)); replace BK149 := Aside0.mk (KeepBut.blk hk (g' := gb149) (o := .cells #[.slice none 0 0, .int .i64 0, .slice none 0 0] 26 (0, 0)) (fb_ BK149.out) NB149_0.out (by simp)); replace BK150 := Aside0.mk (KeepBut.blk hk (g' := gb150) (o := .cells #[u151000, .int .i64 0, .slice none 0 0] 26 (0, 0)) (fb_ BK150.out) NB150_0.out (by simp)); replace BK151 := Aside0.mk (KeepBut.blk hk (g' := gb151) (o := .cells #[.slice none 0 0, .int .i64 0, .slice none 0 0] 26 (0, 0)) (fb_ BK151.out) NB151_0.out (by simp)); replace HK := Aside0.mk (KeepBut.trans (by repeat (first | (with_reducible first | exact HK.out | apply KeepBut.set_ | apply keep_drewN | apply keep_drew | apply keep_alloc | refine keep_far ?_ GW148.out _ | refine keep_far ?_ GW149.out _ | refine keep_far ?_ GW150.out _ | refine keep_far ?_ GW151.out _) | exact HK.out)) hk (.inl rfl)); replace HB := Aside0.mk (hb); replace HI0 := Aside0.mk (hi); (try clear hb); (try clear hb2); (try clear hk); (try clear hi)
      refine hK.out _ _ ⟨bc_ BK150.out 0, bc_ BK150.out 1, bc_ BK150.out 2⟩ (fun hHeld => ?_)
      clear hK K
      refine norm_ (a' := ?_) ?_ ?_
      rotate_left
      ·show Act.put _ (some 21) _ = _
       simp only [Act.put, sA_, sZ_, sS_, i64_w, i32_w]
       rfl
      refine pu_ 4 22 HT_ (bs 9 31) rfl rfl ?_
      refine one_ (i := 5) (N := some 23) (bs 9 63) rfl rfl (one_of HT_.out (by kernel_rfl)) (by decide) (fun K hK => ?_)
      refine value_ (w1 := ?_) (v := ?_) (by rfl) rfl ?_ ?_
      rotate_left 2
      ·go_simp
       constructor
       ·rfl
       ·rfl
      refine hK.out _ _ ⟨(blk_cell (blk_alloc BK150.out _) 0).trans rfl, (blk_cell (blk_alloc BK150.out _) 1).trans rfl, (blk_cell (blk_alloc BK150.out _) 2).trans rfl⟩ (fun hHeld => ?_)
      clear hK K
      refine norm_ (a' := ?_) ?_ ?_
      rotate_left
      ·show Act.put _ (some 23) _ = _
       simp only [Act.put, sA_, sZ_, sS_, i64_w, i32_w]
       rfl
      refine one_ (i := 6) (N := some 24) (bs 9 127) rfl rfl (one_of HT_.out (by kernel_rfl)) (by decide) (fun K hK => ?_)
      refine Kd.R_append_step Kd.string w.heap.size (by rfl) (.tmp 19) (.tmp 23) 24 9 (.string ⟨#[]⟩) 16 rfl Try.underlying24 info9 rfl (by decide) (by omega) u151000 x151000_1 (t155 ++ (⟨#[]⟩ : ByteArray)) [.string (t155 ++ (⟨#[]⟩ : ByteArray))] (fun _ => True) (fun _ => False) rfl rfl ?aP (fun _ hk => hk.elim) ?aF ?aO (Below.refl _ _) ?aS ?aL ?_
      (case aP => exact rfl)
      (case aF => exact (fun _ _ => trivial))
      (case aO => exact (fr_ HO_151000.out))
      (case aS => exact (keep_size (w := w) (g := g) (row := none) (by repeat (first | (with_reducible first | exact HK.out | apply KeepBut.set_ | apply keep_drewN | apply keep_drew | apply keep_alloc | refine keep_far ?_ GW148.out _ | refine keep_far ?_ GW149.out _ | refine keep_far ?_ GW150.out _ | refine keep_far ?_ GW151.out _) | exact HK.out))))
      (case aL => have := LMc20.out; omega)
      intro v159 w23 ho hb hg hat
      rw [← Ny158.out] at ho
      replace BK148 := Aside0.mk (blk_grown (g := gb148) (o := .cells #[.slice none 0 0, .int .i64 0, .slice none 0 0] 26 (0, 0)) (fb_ BK148.out) hg (Kd.R_ne HO_151000.out BK148.out (by decide))); replace BK149 := Aside0.mk (blk_grown (g := gb149) (o := .cells #[.slice none 0 0, .int .i64 0, .slice none 0 0] 26 (0, 0)) (fb_ BK149.out) hg (Kd.R_ne HO_151000.out BK149.out (by decide))); replace BK150 := Aside0.mk (blk_grown (g := gb150) (o := .cells #[u151000, .int .i64 0, .slice none 0 0] 26 (0, 0)) (fb_ BK150.out) hg (Kd.R_ne HO_151000.out BK150.out (by decide))); replace BK151 := Aside0.mk (blk_grown (g := gb151) (o := .cells #[.slice none 0 0, .int .i64 0, .slice none 0 0] 26 (0, 0)) (fb_ BK151.out) hg (Kd.R_ne HO_151000.out BK151.out (by decide))); replace HB := Aside0.mk (below_weaken (by repeat (first | (with_reducible first | exact HB.out | apply below_alloc | apply pw_below_drewN | apply below_drew1 | refine below_set ?_ (IsS74.ge HI0.out) | refine below_set ?_ GE148.out | refine below_set ?_ GE149.out | refine below_set ?_ GE150.out | refine below_set ?_ GE151.out) | exact HB.out)) HL.out hb); replace HI0 := Aside0.mk (IsS74.grown (by repeat (first | (with_reducible first | exact HI0.out | apply IsS74.alloc | apply IsS74.drewN | apply IsS74.drew | apply IsS74.set_1 | apply IsS74.set_2 | refine IsS74.far ?_ NB0_148.out _ | refine IsS74.far ?_ NB0_149.out _ | refine IsS74.far ?_ NB0_150.out _ | refine IsS74.far ?_ NB0_151.out _) | exact HI0.out)) hg (IsS74.own_ne HI0.out HO_151000.out (by decide))); replace HK := Aside0.mk (KeepBut.trans (by repeat (first | (with_reducible first | exact HK.out | apply KeepBut.set_ | apply keep_drewN | apply keep_drew | apply keep_alloc | refine keep_far ?_ GW148.out _ | refine keep_far ?_ GW149.out _ | refine keep_far ?_ GW150.out _ | refine keep_far ?_ GW151.out _) | exact HK.out)) (KeepBut.of_grown hg g) (Kd.R_base2 HO_151000.out))
      have HO160 := Aside0.mk (ho)
      clear HO_151000 ho hb hg hat
      obtain ⟨Ao24, co24, eo24⟩ := Kd.R_slice HO160.out
      (first | subst eo24 | (injection eo24 with f1_ f2_ f3_; have f4_ := f1_.symm; have f5_ := f3_.symm; clear f1_ f2_ f3_; subst f4_; subst f5_))
      refine hK.out _ _ ⟨bc_ BK150.out 0, bc_ BK150.out 1, bc_ BK150.out 2⟩ (fun hHeld => ?_)
      clear hK K
      refine norm_ (a' := ?_) ?_ ?_
      rotate_left
      ·show Act.put _ (some 24) _ = _
       simp only [Act.put, sA_, sZ_, sS_, i64_w, i32_w]
       rfl
      refine pu_ 7 25 HT_ (bs 9 255) rfl rfl ?_
      refine last_ (i := 8) (N := none) (bs 9 511) rfl rfl (one_of HT_.out (by kernel_rfl)) (by decide) (fun K hK => ?_)
      have hs25 : w23.cell? ⟨gb150, 0, none⟩ = some (u151000) := bc_ BK150.out 0
      have hfs25 := blk_frozen BK150.out 0
      have hns25_0 := NB148_150.out
      have hns25_1 := NB149_150.out
      have hns25_3 := NB151_150.out
      have hms25_0 := NB150_148.out
      have hms25_1 := NB150_149.out
      have hms25_3 := NB150_151.out
      refine skip_ (w1 := ?_) (by rfl) rfl ?_ ?_
      rotate_left
      ·go_simp
       rfl
      refine hK.out _ _ ?_
      clear hK K
      refine done_ (done_of HT_.out (by kernel_rfl)) ?_
      try go_wp2
      go_roundg k1
      case measure => have := HK1.out; omega
      case rel => exact ⟨(wrap64 (x6_1 - 1)), (t156), (t157), (y158), (.slice Ao24 y158.length co24), rl_, H', ⟨by have := HK1.out; omega⟩, ⟨by (with_reducible repeat (first | apply Kd.R_alloc | apply Kd.R_drewN | apply Kd.R_drew)); exact Kd.R_mono (Kd.R_far (p := ⟨gb150, 0, none⟩) (rt_ HO160.out BK150.out) (fun _ hk => hk.2) (.slice Ao24 y158.length co24)) (fun _ hk => trivial)⟩, ⟨by refine rp_ ?_; refine blk_far ?_ NB148_150.out _; refine rp_ ?_; exact BK148.out⟩, ⟨by refine rp_ ?_; refine blk_far ?_ NB149_150.out _; refine rp_ ?_; exact BK149.out⟩, ⟨by refine rp_ ?_; refine blk_put (cs := #[u151000, .int .i64 0, .slice none 0 0]) ?_ 0 _ rfl; refine rp_ ?_; exact BK150.out⟩, ⟨by refine rp_ ?_; refine blk_far ?_ NB151_150.out _; refine rp_ ?_; exact BK151.out⟩, ⟨by repeat (first | (with_reducible first | exact HI0.out | apply IsS74.alloc | apply IsS74.drewN | apply IsS74.drew | apply IsS74.set_1 | apply IsS74.set_2 | refine IsS74.far ?_ NB0_148.out _ | refine IsS74.far ?_ NB0_149.out _ | refine IsS74.far ?_ NB0_150.out _ | refine IsS74.far ?_ NB0_151.out _) | exact HI0.out)⟩, ⟨by repeat (first | (with_reducible first | exact HK.out | apply KeepBut.set_ | apply keep_drewN | apply keep_drew | apply keep_alloc | refine keep_far ?_ GW148.out _ | refine keep_far ?_ GW149.out _ | refine keep_far ?_ GW150.out _ | refine keep_far ?_ GW151.out _) | exact HK.out)⟩, ⟨by repeat (first | (with_reducible first | exact HB.out | apply below_alloc | apply pw_below_drewN | apply below_drew1 | refine below_set ?_ (IsS74.ge HI0.out) | refine below_set ?_ GE148.out | refine below_set ?_ GE149.out | refine below_set ?_ GE150.out | refine below_set ?_ GE151.out) | exact HB.out)⟩⟩
     ·rw [if_neg c20] at H
      exact absurd H (by simp)
    ·rw [if_neg c19] at H
     exact absurd H (by simp)
   case neg =>
   rw [if_neg c17] at H
   have c17b0 : decide (0 < x6_1) = false := decide_eq_false c17
   clear c17; replace H := Option.bind_eq_some_iff.mp H
   obtain ⟨⟨t161, t162, t163⟩, A260, H⟩ := H
   replace H : (spec_l21DrawPair.l1 k1 t161 s0_0 t162 t163 x151000_1 0 ([] : List ByteArray) 0) = some (r1, r2, r3, r4, r5, r6, r7, r8) := H
   have A26 := Aside0.mk A260
   clear A260
   have H' := Aside0.mk H
   clear H
   go_wp2_with (first | ((with_reducible refine gate_callee (f := 32) rfl ?_); refine goesL_ (some 27) rfl rfl Try.func32 (by kernel_rfl) rfl #[.pointer (some ⟨g, 0, none⟩), .int .i64 7] rfl ml_ ?_; (with_reducible refine (spec_l1Below.calls g s0_0 x1001_1 x1002_1 7 t161 t162 t163 w0 _ ?side1 ?side2 A26.out).mono ?_); (case side1 => repeat (first | (with_reducible first | exact HI0.out | apply IsS74.alloc | apply IsS74.drewN | apply IsS74.drew | apply IsS74.set_1 | apply IsS74.set_2 | refine IsS74.far ?_ NB0_148.out _ | refine IsS74.far ?_ NB0_149.out _ | refine IsS74.far ?_ NB0_150.out _ | refine IsS74.far ?_ NB0_151.out _) | exact HI0.out)); (case side2 => repeat (first | (with_reducible first | exact HB.out | apply below_alloc | apply pw_below_drewN | apply below_drew1 | refine below_set ?_ (IsS74.ge HI0.out) | refine below_set ?_ GE148.out | refine below_set ?_ GE149.out | refine below_set ?_ GE150.out | refine below_set ?_ GE151.out) | exact HB.out)); rintro e w27 ⟨rfl, hi, hb, hk⟩; refine ⟨_, rfl, ?_⟩; replace HO_151000 := Aside0.mk (Kd.R_mono (Kd.R_keep (IsS74.apart (show IsS74 w0 _ g s0_0 x1001_1 x1002_1 from by repeat (first | (with_reducible first | exact HI0.out | apply IsS74.alloc | apply IsS74.drewN | apply IsS74.drew | apply IsS74.set_1 | apply IsS74.set_2 | refine IsS74.far ?_ NB0_148.out _ | refine IsS74.far ?_ NB0_149.out _ | refine IsS74.far ?_ NB0_150.out _ | refine IsS74.far ?_ NB0_151.out _) | exact HI0.out)) (fr_ HO_151000.out) (by decide)) hk (fun _ h => h.2)) (fun _ h => h.1)); replace BK148 := Aside0.mk (KeepBut.blk hk (g' := gb148) (o := .cells #[.slice none 0 0, .int .i64 0, .slice none 0 0] 26 (0, 0)) (fb_ BK148.out) NB148_0.out (by simp)); replace BK149 := Aside0.mk (KeepBut.blk hk (g' := gb149) (o := .cells #[.slice none 0 0, .int .i64 0, .slice none 0 0] 26 (0, 0)) (fb_ BK149.out) NB149_0.out (by simp)); replace BK150 := Aside0.mk (KeepBut.blk hk (g' := gb150) (o := .cells #[u151000, .int .i64 0, .slice none 0 0] 26 (0, 0)) (fb_ BK150.out) NB150_0.out (by simp)); replace BK151 := Aside0.mk (KeepBut.blk hk (g' := gb151) (o := .cells #[.slice none 0 0, .int .i64 0, .slice none 0 0] 26 (0, 0)) (fb_ BK151.out) NB151_0.out (by simp)); replace HK := Aside0.mk (KeepBut.trans (by repeat (first | (with_reducible first | exact HK.out | apply KeepBut.set_ | apply keep_drewN | apply keep_drew | apply keep_alloc | refine keep_far ?_ GW148.out _ | refine keep_far ?_ GW149.out _ | refine keep_far ?_ GW150.out _ | refine keep_far ?_ GW151.out _) | exact HK.out)) hk (.inl rfl)); replace HB := Aside0.mk (hb); replace HI0 := Aside0.mk (hi); (try clear hb); (try clear hb2); (try clear hk); (try clear hi)))
   (try simp only [Act.put, sA_, sZ_, sS_])
   go_loopg [7] k1 (fun kq v7 w' => ∃ (x7_2 : Int) (x1001_2 : Int) (x1002_2 : Int) (x152000_2 : List ByteArray) (u152000 : Value), v7 = .int .i64 x7_2 ∧ Aside0 (spec_l21DrawPair.l1 kq x7_2 s0_0 x1001_2 x1002_2 x151000_1 0 x152000_2 0 = some (r1, r2, r3, r4, r5, r6, r7, r8)) ∧ Aside0 (kq ≤ k1) ∧ Aside0 (Kd.R Kd.string 9 w' w.heap.size (fun k_ => nB_ (u152000) k_) u151000 x151000_1) ∧ Aside0 (Kd.R Kd.string 9 w' w.heap.size (fun k_ => nB_ (u151000) k_) u152000 x152000_2) ∧ Aside0 (w'.heap[gb148]? = some (.cells #[(.slice none 0 0), .int .i64 0, (.slice none 0 0)] 26 (0, 0))) ∧ Aside0 (w'.heap[gb149]? = some (.cells #[(.slice none 0 0), .int .i64 0, (.slice none 0 0)] 26 (0, 0))) ∧ Aside0 (w'.heap[gb150]? = some (.cells #[u151000, .int .i64 0, (.slice none 0 0)] 26 (0, 0))) ∧ Aside0 (w'.heap[gb151]? = some (.cells #[u152000, .int .i64 0, (.slice none 0 0)] 26 (0, 0))) ∧ Aside0 (IsS74 w0 w' g s0_0 x1001_2 x1002_2) ∧ Aside0 (KeepBut w w' g none) ∧ Aside0 (Below w0.heap.size w0 w'))
   case atStart => exact ⟨(t161), (t162), (t163), (([] : List ByteArray)), (.slice none 0 0), rl_, H', ⟨Nat.le_refl _⟩, ⟨by (with_reducible repeat (first | apply Kd.R_alloc | apply Kd.R_drewN | apply Kd.R_drew)); exact Kd.R_mono HO_151000.out (fun _ hk => (by simp [Value.ownBlock]))⟩, ⟨by first | exact Kd.R_nil _ _ _ _ _ | exact Kd.N_nil _ _ _ _ _ | exact Kd.V_nil _ _ _ _ _ | exact Kd.Q_nil _ _ _ _ _ | exact Kd.S_nil _ _ _ _ _⟩, ⟨fb_ BK148.out⟩, ⟨fb_ BK149.out⟩, ⟨fb_ BK150.out⟩, ⟨fb_ BK151.out⟩, ⟨by repeat (first | (with_reducible first | exact HI0.out | apply IsS74.alloc | apply IsS74.drewN | apply IsS74.drew | apply IsS74.set_1 | apply IsS74.set_2 | refine IsS74.far ?_ NB0_148.out _ | refine IsS74.far ?_ NB0_149.out _ | refine IsS74.far ?_ NB0_150.out _ | refine IsS74.far ?_ NB0_151.out _) | exact HI0.out)⟩, ⟨by repeat (first | (with_reducible first | exact HK.out | apply KeepBut.set_ | apply keep_drewN | apply keep_drew | apply keep_alloc | refine keep_far ?_ GW148.out _ | refine keep_far ?_ GW149.out _ | refine keep_far ?_ GW150.out _ | refine keep_far ?_ GW151.out _) | exact HK.out)⟩, ⟨by repeat (first | (with_reducible first | exact HB.out | apply below_alloc | apply pw_below_drewN | apply below_drew1 | refine below_set ?_ (IsS74.ge HI0.out) | refine below_set ?_ GE148.out | refine below_set ?_ GE149.out | refine below_set ?_ GE150.out | refine below_set ?_ GE151.out) | exact HB.out)⟩⟩
   case round =>
    clear H'
    try clear c17
    try clear c17b0
    try clear hcz11_0
    try clear hcz11_1
    try clear hcz11_2
    try clear hcz15_0
    try clear hcz15_1
    try clear hcz15_2
    try clear hfz11_0
    try clear hfz11_1
    try clear hfz11_2
    try clear hfz15_0
    try clear hfz15_1
    try clear hfz15_2
    obtain ⟨x7_2, x1001_2, x1002_2, x152000_2, u152000, rfl, HA, HK2, HO_151000, HO_152000, BK148, BK149, BK150, BK151, HI0, HK, HB⟩ := hrel
    cases gk with
    | zero => exact absurd HA.out (by simp [spec_l21DrawPair.l1])
    | succ k2 =>
     have H := HA.out
     clear HA
     simp only [spec_l21DrawPair.l1] at H
     by_cases c28 : x7_2 > 0
     ·rw [if_pos c28] at H
      have c28b0 : decide (0 < x7_2) = true := decide_eq_true c28
      clear c28; replace H := Option.bind_eq_some_iff.mp H
      obtain ⟨⟨t164, t165, t166⟩, A290, H⟩ := H
      replace H : (if x152000_2.length < 8796093022208 then (spec_l21DrawPair.l1 k2 (wrap64 (x7_2 - 1)) s0_0 t165 t166 x151000_1 0 (x152000_2 ++ [t164]) 0) else (none)) = some (r1, r2, r3, r4, r5, r6, r7, r8) := H
      have A29 := Aside0.mk A290
      clear A290
      by_cases c30 : x152000_2.length < 8796093022208
      ·rw [if_pos c30] at H
       have LMc30 := Aside0.mk c30
       clear c30
       obtain ⟨y167, hy167⟩ : ∃ y_ : List ByteArray, y_ = (x152000_2 ++ [t164]) := ⟨_, rfl⟩
       replace H : (spec_l21DrawPair.l1 k2 (wrap64 (x7_2 - 1)) s0_0 t165 t166 x151000_1 0 y167 0) = some (r1, r2, r3, r4, r5, r6, r7, r8) := by first | (rw [hy167]; with_reducible exact H) | (have H2_ := (Option.bind_some _ _).symm.trans H; rw [hy167]; with_reducible exact H2_) | (have H2_ := (Option.bind_some _ _).symm.trans H; with_reducible exact H2_) | with_reducible exact H | (rw [hy167]; exact H) | exact H
       have Ny167 := Aside0.mk hy167
       clear hy167
       have H' := Aside0.mk H
       clear H
       try go_wp2
       replace HO_151000 := Aside0.mk (Kd.R_drew HO_151000.out); replace HO_152000 := Aside0.mk (Kd.R_drew HO_152000.out); replace BK148 := Aside0.mk (blk_drew BK148.out); replace BK149 := Aside0.mk (blk_drew BK149.out); replace BK150 := Aside0.mk (blk_drew BK150.out); replace BK151 := Aside0.mk (blk_drew BK151.out); replace HI0 := Aside0.mk (IsS74.drew HI0.out); replace HK := Aside0.mk (keep_drew HK.out); replace HB := Aside0.mk (below_drew1 HB.out)
       refine start_ (n := 8) (S := fun w' => w'.cell? ⟨gb151, 0, none⟩ = some (u152000) ∧ w'.cell? ⟨gb151, 1, none⟩ = some (.int .i64 0) ∧ w'.cell? ⟨gb151, 2, none⟩ = some (.slice none 0 0)) (ds := [7]) (bs 8 0) (by kernel_rfl) rfl rfl ⟨bc_ BK151.out 0, bc_ BK151.out 1, bc_ BK151.out 2⟩ (fun hHeld => ?_); refine with_tabW spec_l21DrawPair.tab9 spec_l21DrawPair.bits9 (fun HT_ HW_ => ?_)
       generalize wr.drew = w31 at HO_151000 HO_152000 BK148 BK149 BK150 BK151 HI0 HK HB hHeld ⊢
       refine pu_ 0 32 HT_ (bs 8 1) rfl rfl ?_
       refine pu_ 2 34 HT_ (bs 8 5) rfl rfl ?_
       refine take_ (i := 1) (N := some 33) (v := ?_) (a' := ?_) (bs 8 7) rfl rfl (take_ofW HT_.out HW_.out (by kernel_rfl)) (fun _ _ _ h => h) (Or.inl ⟨by rfl, ?_⟩) hHeld ?_ ?_
       rotate_left
       ·rintro w' ⟨s0, s1, s2⟩
        go_simp
        with_reducible rfl
       rotate_left
       ·simp only [Act.put, sA_, sZ_, sS_, i64_w, i32_w]
        rfl
       refine one_ (i := 3) (N := some 35) (bs 8 15) rfl rfl (one_of HT_.out (by kernel_rfl)) (by decide) (fun K hK => ?_)
       refine goes_ Try.func51 (by kernel_rfl) rfl #[.pointer (some ⟨g, 0, none⟩)] (by rfl) rfl rfl ml_ ?_
       with_reducible refine (spec_l21DrawText.calls k2 g s0_0 x1001_2 x1002_2 t164 t165 t166 w0 _ ?side1 ?side2 A29.out).mono ?_
       (case side1 => repeat (first | (with_reducible first | exact HI0.out | apply IsS74.alloc | apply IsS74.drewN | apply IsS74.drew | apply IsS74.set_1 | apply IsS74.set_2 | refine IsS74.far ?_ NB0_148.out _ | refine IsS74.far ?_ NB0_149.out _ | refine IsS74.far ?_ NB0_150.out _ | refine IsS74.far ?_ NB0_151.out _) | exact HI0.out))
       (case side2 => repeat (first | (with_reducible first | exact HB.out | apply below_alloc | apply pw_below_drewN | apply below_drew1 | refine below_set ?_ (IsS74.ge HI0.out) | refine below_set ?_ GE148.out | refine below_set ?_ GE149.out | refine below_set ?_ GE150.out | refine below_set ?_ GE151.out) | exact HB.out))
       rintro e w32 ⟨rfl, hi, hb, hk⟩
       refine ⟨_, rfl, ?_⟩; replace HO_151000 := Aside0.mk (Kd.R_mono (Kd.R_keep (IsS74.apart (show IsS74 w0 _ g s0_0 x1001_2 x1002_2 from by repeat (first | (with_reducible first | exact HI0.out | apply IsS74.alloc | apply IsS74.drewN | apply IsS74.drew | apply IsS74.set_1 | apply IsS74.set_2 | refine IsS74.far ?_ NB0_148.out _ | refine IsS74.far ?_ NB0_149.out _ | refine IsS74.far ?_ NB0_150.out _ | refine IsS74.far ?_ NB0_151.out _) | exact HI0.out)) (fr_ HO_151000.out) (by decide)) hk (fun _ h => h.2)) (fun _ h => h.1)); replace HO_152000 := Aside0.mk (Kd.R_mono (Kd.R_keep (IsS74.apart (show IsS74 w0 _ g s0_0 x1001_2 x1002_2 from by repeat (first | (with_reducible first | exact HI0.out | apply IsS74.alloc | apply IsS74.drewN | apply IsS74.drew | apply IsS74.set_1 | apply IsS74.set_2 | refine IsS74.far ?_ NB0_148.out _ | refine IsS74.far ?_ NB0_149.out _ | refine IsS74.far ?_ NB0_150.out _ | refine IsS74.far ?_ NB0_151.out _) | exact HI0.out)) (fr_ HO_152000.out) (by decide)) hk (fun _ h => h.2)) (fun _ h => h.1)); replace BK148 := Aside0.mk (KeepBut.blk hk (g' := gb148) (o := .cells #[.slice none 0 0, .int .i64 0, .slice none 0 0] 26 (0, 0)) (fb_ BK148.out) NB148_0.out (by simp)); replace BK149 := Aside0.mk (KeepBut.blk hk (g' := gb149) (o := .cells #[.slice none 0 0, .int .i64 0, .slice none 0 0] 26 (0, 0)) (fb_ BK149.out) NB149_0.out (by simp)); replace BK150 := Aside0.mk (KeepBut.blk hk (g' := gb150) (o := .cells #[u151000, .int .i64 0, .slice none 0 0] 26 (0, 0)) (fb_ BK150.out) NB150_0.out (by simp)); replace BK151 := Aside0.mk (KeepBut.blk hk (g' := gb151) (o := .cells #[u152000, .int .i64 0, .slice none 0 0] 26 (0, 0)) (fb_ BK151.out) NB151_0.out (by simp)); replace HK := Aside0.mk (KeepBut.trans (by repeat (first | (with_reducible first | exact HK.out | apply KeepBut.set_ | apply keep_drewN | apply keep_drew | apply keep_alloc | refine keep_far ?_ GW148.out _ | refine keep_far ?_ GW149.out _ | refine keep_far ?_ GW150.out _ | refine keep_far ?_ GW151.out _) | exact HK.out)) hk (.inl rfl))
       replace HB := Aside0.mk (hb); replace HI0 := Aside0.mk (hi); (try clear hb); (try clear hb2); (try clear hk); (try clear hi)
       refine hK.out _ _ ⟨bc_ BK151.out 0, bc_ BK151.out 1, bc_ BK151.out 2⟩ (fun hHeld => ?_)
       clear hK K
       refine norm_ (a' := ?_) ?_ ?_
       rotate_left
       ·show Act.put _ (some 35) _ = _
        simp only [Act.put, sA_, sZ_, sS_, i64_w, i32_w]
        rfl
       refine one_ (i := 4) (N := some 36) (bs 8 31) rfl rfl (one_of HT_.out (by kernel_rfl)) (by decide) (fun K hK => ?_)
       refine value_ (w1 := ?_) (v := ?_) (by rfl) rfl ?_ ?_
       rotate_left 2
       ·go_simp
        constructor
        ·rfl
        ·rfl
       refine hK.out _ _ ⟨(blk_cell (blk_alloc BK151.out _) 0).trans rfl, (blk_cell (blk_alloc BK151.out _) 1).trans rfl, (blk_cell (blk_alloc BK151.out _) 2).trans rfl⟩ (fun hHeld => ?_)
       clear hK K
       refine norm_ (a' := ?_) ?_ ?_
       rotate_left
       ·show Act.put _ (some 36) _ = _
        simp only [Act.put, sA_, sZ_, sS_, i64_w, i32_w]
        rfl
       refine one_ (i := 5) (N := some 37) (bs 8 63) rfl rfl (one_of HT_.out (by kernel_rfl)) (by decide) (fun K hK => ?_)
       refine Kd.R_append_step Kd.string w.heap.size (by rfl) (.tmp 33) (.tmp 36) 24 9 (.string ⟨#[]⟩) 16 rfl Try.underlying24 info9 rfl (by decide) (by omega) u152000 x152000_2 t164 [.string t164] (fun k_ => nB_ (u151000) k_) (fun _ => False) rfl rfl ?aP (fun _ hk => hk.elim) ?aF ?aO (Below.refl _ _) ?aS ?aL ?_
       (case aP => exact rfl)
       (case aF => exact (fun k_ hk => Kd.fresh' (Kd.R_lt (fr_ HO_151000.out)) k_ hk))
       (case aO => exact (fr_ HO_152000.out))
       (case aS => exact (keep_size (w := w) (g := g) (row := none) (by repeat (first | (with_reducible first | exact HK.out | apply KeepBut.set_ | apply keep_drewN | apply keep_drew | apply keep_alloc | refine keep_far ?_ GW148.out _ | refine keep_far ?_ GW149.out _ | refine keep_far ?_ GW150.out _ | refine keep_far ?_ GW151.out _) | exact HK.out))))
       (case aL => have := LMc30.out; omega)
       intro v168 w33 ho hb hg hat
       rw [← Ny167.out] at ho
       replace HO_151000 := Aside0.mk (Kd.R_after (ok := (fun _ => True)) (by (with_reducible repeat (first | apply Kd.R_alloc | apply Kd.R_drewN | apply Kd.R_drew)); exact Kd.R_mono HO_151000.out (fun _ hk => ⟨trivial, hk⟩)) hg hat); replace BK148 := Aside0.mk (blk_grown (g := gb148) (o := .cells #[.slice none 0 0, .int .i64 0, .slice none 0 0] 26 (0, 0)) (fb_ BK148.out) hg (Kd.R_ne HO_152000.out BK148.out (by decide))); replace BK149 := Aside0.mk (blk_grown (g := gb149) (o := .cells #[.slice none 0 0, .int .i64 0, .slice none 0 0] 26 (0, 0)) (fb_ BK149.out) hg (Kd.R_ne HO_152000.out BK149.out (by decide))); replace BK150 := Aside0.mk (blk_grown (g := gb150) (o := .cells #[u151000, .int .i64 0, .slice none 0 0] 26 (0, 0)) (fb_ BK150.out) hg (Kd.R_ne HO_152000.out BK150.out (by decide))); replace BK151 := Aside0.mk (blk_grown (g := gb151) (o := .cells #[u152000, .int .i64 0, .slice none 0 0] 26 (0, 0)) (fb_ BK151.out) hg (Kd.R_ne HO_152000.out BK151.out (by decide))); replace HB := Aside0.mk (below_weaken (by repeat (first | (with_reducible first | exact HB.out | apply below_alloc | apply pw_below_drewN | apply below_drew1 | refine below_set ?_ (IsS74.ge HI0.out) | refine below_set ?_ GE148.out | refine below_set ?_ GE149.out | refine below_set ?_ GE150.out | refine below_set ?_ GE151.out) | exact HB.out)) HL.out hb); replace HI0 := Aside0.mk (IsS74.grown (by repeat (first | (with_reducible first | exact HI0.out | apply IsS74.alloc | apply IsS74.drewN | apply IsS74.drew | apply IsS74.set_1 | apply IsS74.set_2 | refine IsS74.far ?_ NB0_148.out _ | refine IsS74.far ?_ NB0_149.out _ | refine IsS74.far ?_ NB0_150.out _ | refine IsS74.far ?_ NB0_151.out _) | exact HI0.out)) hg (IsS74.own_ne HI0.out HO_152000.out (by decide))); replace HK := Aside0.mk (KeepBut.trans (by repeat (first | (with_reducible first | exact HK.out | apply KeepBut.set_ | apply keep_drewN | apply keep_drew | apply keep_alloc | refine keep_far ?_ GW148.out _ | refine keep_far ?_ GW149.out _ | refine keep_far ?_ GW150.out _ | refine keep_far ?_ GW151.out _) | exact HK.out)) (KeepBut.of_grown hg g) (Kd.R_base2 HO_152000.out))
       have HO169 := Aside0.mk (ho)
       clear HO_152000 ho hb hg hat
       obtain ⟨Ao34, co34, eo34⟩ := Kd.R_slice HO169.out
       (first | subst eo34 | (injection eo34 with f1_ f2_ f3_; have f4_ := f1_.symm; have f5_ := f3_.symm; clear f1_ f2_ f3_; subst f4_; subst f5_))
       refine hK.out _ _ ⟨bc_ BK151.out 0, bc_ BK151.out 1, bc_ BK151.out 2⟩ (fun hHeld => ?_)
       clear hK K
       refine norm_ (a' := ?_) ?_ ?_
       rotate_left
       ·show Act.put _ (some 37) _ = _
        simp only [Act.put, sA_, sZ_, sS_, i64_w, i32_w]
        rfl
       refine pu_ 6 38 HT_ (bs 8 127) rfl rfl ?_
       refine last_ (i := 7) (N := none) (bs 8 255) rfl rfl (one_of HT_.out (by kernel_rfl)) (by decide) (fun K hK => ?_)
       have hs35 : w33.cell? ⟨gb151, 0, none⟩ = some (u152000) := bc_ BK151.out 0
       have hfs35 := blk_frozen BK151.out 0
       have hns35_0 := NB148_151.out
       have hns35_1 := NB149_151.out
       have hns35_2 := NB150_151.out
       have hms35_0 := NB151_148.out
       have hms35_1 := NB151_149.out
       have hms35_2 := NB151_150.out
       refine skip_ (w1 := ?_) (by rfl) rfl ?_ ?_
       rotate_left
       ·go_simp
        rfl
       refine hK.out _ _ ?_
       clear hK K
       refine done_ (done_of HT_.out (by kernel_rfl)) ?_
       try go_wp2
       go_roundg k2
       case measure => have := HK1.out; have := HK2.out; omega
       case rel => exact ⟨(wrap64 (x7_2 - 1)), (t165), (t166), (y167), (.slice Ao34 y167.length co34), rl_, H', ⟨by have := HK1.out; have := HK2.out; omega⟩, ⟨by (with_reducible repeat (first | apply Kd.R_alloc | apply Kd.R_drewN | apply Kd.R_drew)); exact Kd.R_mono (Kd.R_far (p := ⟨gb151, 0, none⟩) (rt_ HO_151000.out BK151.out) (fun _ hk => hk.2) (.slice Ao34 y167.length co34)) (fun _ hk => hk.1.2)⟩, ⟨by (with_reducible repeat (first | apply Kd.R_alloc | apply Kd.R_drewN | apply Kd.R_drew)); exact Kd.R_mono (Kd.R_far (p := ⟨gb151, 0, none⟩) (rt_ HO169.out BK151.out) (fun _ hk => hk.2) (.slice Ao34 y167.length co34)) (fun _ hk => hk.1)⟩, ⟨by refine rp_ ?_; refine blk_far ?_ NB148_151.out _; refine rp_ ?_; exact BK148.out⟩, ⟨by refine rp_ ?_; refine blk_far ?_ NB149_151.out _; refine rp_ ?_; exact BK149.out⟩, ⟨by refine rp_ ?_; refine blk_far ?_ NB150_151.out _; refine rp_ ?_; exact BK150.out⟩, ⟨by refine rp_ ?_; refine blk_put (cs := #[u152000, .int .i64 0, .slice none 0 0]) ?_ 0 _ rfl; refine rp_ ?_; exact BK151.out⟩, ⟨by repeat (first | (with_reducible first | exact HI0.out | apply IsS74.alloc | apply IsS74.drewN | apply IsS74.drew | apply IsS74.set_1 | apply IsS74.set_2 | refine IsS74.far ?_ NB0_148.out _ | refine IsS74.far ?_ NB0_149.out _ | refine IsS74.far ?_ NB0_150.out _ | refine IsS74.far ?_ NB0_151.out _) | exact HI0.out)⟩, ⟨by repeat (first | (with_reducible first | exact HK.out | apply KeepBut.set_ | apply keep_drewN | apply keep_drew | apply keep_alloc | refine keep_far ?_ GW148.out _ | refine keep_far ?_ GW149.out _ | refine keep_far ?_ GW150.out _ | refine keep_far ?_ GW151.out _) | exact HK.out)⟩, ⟨by repeat (first | (with_reducible first | exact HB.out | apply below_alloc | apply pw_below_drewN | apply below_drew1 | refine below_set ?_ (IsS74.ge HI0.out) | refine below_set ?_ GE148.out | refine below_set ?_ GE149.out | refine below_set ?_ GE150.out | refine below_set ?_ GE151.out) | exact HB.out)⟩⟩
      ·rw [if_neg c30] at H
       exact absurd H (by simp)
     case neg =>
     rw [if_neg c28] at H
     have c28b0 : decide (0 < x7_2) = false := decide_eq_false c28
     clear c28
     have H' := Aside0.mk H
     clear H
     go_wp2
     go_loopg [8] k2 (fun kq v8 w' => ∃ (x8_3 : Int) (x151000_3 : List ByteArray) (x152000_3 : List ByteArray) (u151000 : Value) (u152000 : Value), v8 = .int .i64 x8_3 ∧ Aside0 (spec_l21DrawPair.l2 kq x8_3 s0_0 x1001_2 x1002_2 x151000_3 0 x152000_3 0 = some (r1, r2, r3, r4, r5, r6, r7, r8)) ∧ Aside0 (kq ≤ k2) ∧ Aside0 (Kd.R Kd.string 9 w' w.heap.size (fun k_ => nB_ (u152000) k_) u151000 x151000_3) ∧ Aside0 (Kd.R Kd.string 9 w' w.heap.size (fun k_ => nB_ (u151000) k_) u152000 x152000_3) ∧ Aside0 (w'.heap[gb148]? = some (.cells #[(.slice none 0 0), .int .i64 0, (.slice none 0 0)] 26 (0, 0))) ∧ Aside0 (w'.heap[gb149]? = some (.cells #[(.slice none 0 0), .int .i64 0, (.slice none 0 0)] 26 (0, 0))) ∧ Aside0 (w'.heap[gb150]? = some (.cells #[u151000, .int .i64 0, (.slice none 0 0)] 26 (0, 0))) ∧ Aside0 (w'.heap[gb151]? = some (.cells #[u152000, .int .i64 0, (.slice none 0 0)] 26 (0, 0))) ∧ Aside0 (IsS74 w0 w' g s0_0 x1001_2 x1002_2) ∧ Aside0 (KeepBut w w' g none) ∧ Aside0 (Below w0.heap.size w0 w'))
     case atStart => exact ⟨(0), (x151000_1), (x152000_2), (u151000), (u152000), rl_, H', ⟨Nat.le_refl _⟩, ⟨fr_ HO_151000.out⟩, ⟨fr_ HO_152000.out⟩, ⟨fb_ BK148.out⟩, ⟨fb_ BK149.out⟩, ⟨fb_ BK150.out⟩, ⟨fb_ BK151.out⟩, ⟨by repeat (first | (with_reducible first | exact HI0.out | apply IsS74.alloc | apply IsS74.drewN | apply IsS74.drew | apply IsS74.set_1 | apply IsS74.set_2 | refine IsS74.far ?_ NB0_148.out _ | refine IsS74.far ?_ NB0_149.out _ | refine IsS74.far ?_ NB0_150.out _ | refine IsS74.far ?_ NB0_151.out _) | exact HI0.out)⟩, ⟨by repeat (first | (with_reducible first | exact HK.out | apply KeepBut.set_ | apply keep_drewN | apply keep_drew | apply keep_alloc | refine keep_far ?_ GW148.out _ | refine keep_far ?_ GW149.out _ | refine keep_far ?_ GW150.out _ | refine keep_far ?_ GW151.out _) | exact HK.out)⟩, ⟨by repeat (first | (with_reducible first | exact HB.out | apply below_alloc | apply pw_below_drewN | apply below_drew1 | refine below_set ?_ (IsS74.ge HI0.out) | refine below_set ?_ GE148.out | refine below_set ?_ GE149.out | refine below_set ?_ GE150.out | refine below_set ?_ GE151.out) | exact HB.out)⟩⟩
     case round =>
      clear H'
      try clear c17
      try clear c17b0
      try clear c28
      try clear c28b0
      try clear hcz11_0
      try clear hcz11_1
      try clear hcz11_2
      try clear hcz15_0
      try clear hcz15_1
      try clear hcz15_2
      try clear hfz11_0
      try clear hfz11_1
      try clear hfz11_2
      try clear hfz15_0
      try clear hfz15_1
      try clear hfz15_2
      obtain ⟨x8_3, x151000_3, x152000_3, u151000, u152000, rfl, HA, HK3, HO_151000, HO_152000, BK148, BK149, BK150, BK151, HI0, HK, HB⟩ := hrel
      cases gk with
      | zero => exact absurd HA.out (by simp [spec_l21DrawPair.l2])
      | succ k3 =>
       have H := HA.out
       clear HA
       simp only [spec_l21DrawPair.l2] at H
       by_cases c36 : x8_3 < (x151000_3.length : Int)
       ·rw [if_pos c36] at H
        have c36b0 : decide (x8_3 < (x151000_3.length : Int)) = true := decide_eq_true c36
        clear c36
        by_cases c37 : 0 ≤ x8_3
        ·rw [if_pos c37] at H
         have c37b0 : decide (0 ≤ x8_3) = true := decide_eq_true c37
         clear c37
         by_cases c38 : ((rdOf ByteArray.empty x151000_3 x8_3).size : Int) > 40
         ·rw [if_pos c38] at H
          have c38b0 : decide (40 < ((rdOf ByteArray.empty x151000_3 x8_3).size : Int)) = true := decide_eq_true c38
          have c38b1 : decide (40 < (rdOf ByteArray.empty x151000_3 x8_3).size) = true := decide_eq_true (by omega)
          clear c38
          obtain ⟨y171, hy171⟩ : ∃ y_ : List ByteArray, y_ = (x151000_3.set (x8_3 : Int).toNat (⟨#[120]⟩ : ByteArray)) := ⟨_, rfl⟩
          replace H : (spec_l21DrawPair.l2 k3 (wrap64 (x8_3 + 1)) s0_0 x1001_2 x1002_2 y171 0 x152000_3 0) = some (r1, r2, r3, r4, r5, r6, r7, r8) := by first | (rw [hy171]; with_reducible exact H) | (have H2_ := (Option.bind_some _ _).symm.trans H; rw [hy171]; with_reducible exact H2_) | (have H2_ := (Option.bind_some _ _).symm.trans H; with_reducible exact H2_) | with_reducible exact H | (rw [hy171]; exact H) | exact H
          have Ny171 := Aside0.mk hy171
          clear hy171
          have H' := Aside0.mk H
          clear H; have hnb40 := NB150_148.out; have hnc40 := NB148_150.out; have hnb41 := NB150_149.out; have hnc41 := NB149_150.out; have hnb42 := NB150_151.out; have hnc42 := NB151_150.out; have hnb43 := NB150_0.out; have hnc43 := NB0_150.out; have hcz44_0 : wr.cell? ⟨gb150, 0, none⟩ = some (u151000) := bc_ BK150.out 0; have hcz44_1 : wr.cell? ⟨gb150, 1, none⟩ = some (.int .i64 0) := bc_ BK150.out 1; have hcz44_2 : wr.cell? ⟨gb150, 2, none⟩ = some (.slice none 0 0) := bc_ BK150.out 2; have hfz44_0 := blk_frozen BK150.out 0; have hfz44_1 := blk_frozen BK150.out 1; have hfz44_2 := blk_frozen BK150.out 2
          obtain ⟨Ao45, co45, eo45⟩ := Kd.R_slice HO_151000.out
          subst eo45
          have p170 : 0 ≤ (x8_3 : Int) := of_decide_eq_true (by first | (with_reducible assumption) | assumption)
          have q170 : x8_3 < (x151000_3.length : Int) := of_decide_eq_true (by first | (with_reducible assumption) | assumption)
          obtain ⟨ad170, e170, hx170_0⟩ := Kd.at_string (Kd.R_reads' HO_151000.out).2.2 x8_3 p170 q170
          cases e170
          replace p170 := eq_true p170; replace q170 := eq_true q170
          have p39 : 0 ≤ (x8_3 : Int) := of_decide_eq_true (by first | (with_reducible assumption) | assumption)
          have q39 : (x8_3 : Int) < ((x151000_3.length : Int) : Int) := of_decide_eq_true (by first | (with_reducible assumption) | assumption)
          obtain ⟨go39, co39, eo39, gb39, gl39, cl39, HG39⟩ := Kd.R_form HO_151000.out (by omega)
          (first | cases eo39 | (injection eo39 with ea_ en_ ec_; (first | subst ea_ | (injection ea_ with ea_; subst ea_)); subst ec_; clear en_))
          have GB39 := Aside0.mk gb39
          have GG39 := Aside0.mk HG39
          clear gb39 gl39 HG39
          (first | simp only [add_plain] at hx170_0 | skip)
          obtain ⟨hx39_0, hf39_0⟩ := Kd.R_celln (⟨#[]⟩ : ByteArray) HO_151000.out (x8_3 : Int) p39 q39
          replace p39 := eq_true p39; replace q39 := eq_true q39
          have HP46 := Kd.R_putg HO_151000.out (x8_3 : Int) (⟨#[120]⟩ : ByteArray)
          go_wp2_with (first | ((with_reducible refine gate_store (t := 9) (p := 56) rfl ?_); refine store_event (t := 9) (p := 56) (v := ?vo_w47) (w1 := (wr.setCell ⟨go39, (x8_3 : Int).toNat, none⟩ (.string (⟨#[120]⟩ : ByteArray)))) ?hg ?ho ?hn ?hr ?_; (case ho => rfl); (case hg => rfl); (case hn => rfl); (case hr => first | (go_simp; done) | (go_simp; rfl)); intro w47 hw; have hg : wr.grownBy w47 (some go39) := (by rw [hw]; exact HP46.2); have hp_ : Kd.R Kd.string 9 w47 w.heap.size (fun k_ => nB_ (u152000) k_) (.slice (some ⟨go39, 0, none⟩) x151000_3.length co45) y171 := (by rw [hw, Ny171.out]; exact HP46.1); clear HP46; replace HO_152000 := Aside0.mk (Kd.R_after (v := (.slice (some ⟨go39, 0, none⟩) x151000_3.length co45)) (v1 := (.slice (some ⟨go39, 0, none⟩) x151000_3.length co45)) (ok := (fun _ => True)) (by (with_reducible repeat (first | apply Kd.R_alloc | apply Kd.R_drewN | apply Kd.R_drew)); exact Kd.R_mono HO_152000.out (fun _ hk => ⟨trivial, hk⟩)) hg (.inl rfl)); replace BK148 := Aside0.mk (blk_grown (g := gb148) (o := .cells #[.slice none 0 0, .int .i64 0, .slice none 0 0] 26 (0, 0)) (fb_ BK148.out) hg (Kd.R_ne HO_151000.out BK148.out (by decide))); replace BK149 := Aside0.mk (blk_grown (g := gb149) (o := .cells #[.slice none 0 0, .int .i64 0, .slice none 0 0] 26 (0, 0)) (fb_ BK149.out) hg (Kd.R_ne HO_151000.out BK149.out (by decide))); replace BK150 := Aside0.mk (blk_grown (g := gb150) (o := .cells #[.slice (some ⟨go39, 0, none⟩) x151000_3.length co45, .int .i64 0, .slice none 0 0] 26 (0, 0)) (fb_ BK150.out) hg (Kd.R_ne HO_151000.out BK150.out (by decide))); replace BK151 := Aside0.mk (blk_grown (g := gb151) (o := .cells #[u152000, .int .i64 0, .slice none 0 0] 26 (0, 0)) (fb_ BK151.out) hg (Kd.R_ne HO_151000.out BK151.out (by decide))); replace HI0 := Aside0.mk (IsS74.grown (by repeat (first | (with_reducible first | exact HI0.out | apply IsS74.alloc | apply IsS74.drewN | apply IsS74.drew | apply IsS74.set_1 | apply IsS74.set_2 | refine IsS74.far ?_ NB0_148.out _ | refine IsS74.far ?_ NB0_149.out _ | refine IsS74.far ?_ NB0_150.out _ | refine IsS74.far ?_ NB0_151.out _) | exact HI0.out)) hg (IsS74.own_ne HI0.out HO_151000.out (by decide))); replace HB := Aside0.mk ((by rw [hw]; exact below_set (HB.out) (Nat.le_trans HL.out GB39.out) : Below w0.heap.size w0 w47)); replace HK := Aside0.mk (KeepBut.trans (by repeat (first | (with_reducible first | exact HK.out | apply KeepBut.set_ | apply keep_drewN | apply keep_drew | apply keep_alloc | refine keep_far ?_ GW148.out _ | refine keep_far ?_ GW149.out _ | refine keep_far ?_ GW150.out _ | refine keep_far ?_ GW151.out _) | exact HK.out)) (KeepBut.of_grown hg g) (Kd.R_base2 HO_151000.out)); replace HO_151000 := Aside0.mk (hp_); clear hg hw hp_))
          (first | go_roundg k3 | (refine Handed.intro k3 ?measure ?_; rotate_left; go_step; (repeat apply Exists.intro); simp only [add_plain]; refine ⟨?rel, rfl⟩))
          case measure => have := HK1.out; have := HK2.out; have := HK3.out; omega
          case rel => exact ⟨(wrap64 (x8_3 + 1)), (y171), (x152000_3), (.slice (some ⟨go39, 0, none⟩) x151000_3.length co45), (u152000), rl_, H', ⟨by have := HK1.out; have := HK2.out; have := HK3.out; omega⟩, ⟨fr_ HO_151000.out⟩, ⟨rn_ HO_152000.out (fun _ hk => hk.2)⟩, ⟨fb_ BK148.out⟩, ⟨fb_ BK149.out⟩, ⟨fb_ BK150.out⟩, ⟨fb_ BK151.out⟩, ⟨by repeat (first | (with_reducible first | exact HI0.out | apply IsS74.alloc | apply IsS74.drewN | apply IsS74.drew | apply IsS74.set_1 | apply IsS74.set_2 | refine IsS74.far ?_ NB0_148.out _ | refine IsS74.far ?_ NB0_149.out _ | refine IsS74.far ?_ NB0_150.out _ | refine IsS74.far ?_ NB0_151.out _) | exact HI0.out)⟩, ⟨by repeat (first | (with_reducible first | exact HK.out | apply KeepBut.set_ | apply keep_drewN | apply keep_drew | apply keep_alloc | refine keep_far ?_ GW148.out _ | refine keep_far ?_ GW149.out _ | refine keep_far ?_ GW150.out _ | refine keep_far ?_ GW151.out _) | exact HK.out)⟩, ⟨by repeat (first | (with_reducible first | exact HB.out | apply below_alloc | apply pw_below_drewN | apply below_drew1 | refine below_set ?_ (IsS74.ge HI0.out) | refine below_set ?_ GE148.out | refine below_set ?_ GE149.out | refine below_set ?_ GE150.out | refine below_set ?_ GE151.out) | exact HB.out)⟩⟩
         case neg =>
         rw [if_neg c38] at H
         have c38b0 : decide (40 < ((rdOf ByteArray.empty x151000_3 x8_3).size : Int)) = false := decide_eq_false c38
         have c38b1 : decide (40 < (rdOf ByteArray.empty x151000_3 x8_3).size) = false := decide_eq_false (by omega)
         clear c38
         have H' := Aside0.mk H
         clear H; have hnb48 := NB150_148.out; have hnc48 := NB148_150.out; have hnb49 := NB150_149.out; have hnc49 := NB149_150.out; have hnb50 := NB150_151.out; have hnc50 := NB151_150.out; have hnb51 := NB150_0.out; have hnc51 := NB0_150.out; have hcz52_0 : wr.cell? ⟨gb150, 0, none⟩ = some (u151000) := bc_ BK150.out 0; have hcz52_1 : wr.cell? ⟨gb150, 1, none⟩ = some (.int .i64 0) := bc_ BK150.out 1; have hcz52_2 : wr.cell? ⟨gb150, 2, none⟩ = some (.slice none 0 0) := bc_ BK150.out 2; have hfz52_0 := blk_frozen BK150.out 0; have hfz52_1 := blk_frozen BK150.out 1; have hfz52_2 := blk_frozen BK150.out 2
         obtain ⟨Ao53, co53, eo53⟩ := Kd.R_slice HO_151000.out
         subst eo53
         have p170 : 0 ≤ (x8_3 : Int) := of_decide_eq_true (by first | (with_reducible assumption) | assumption)
         have q170 : x8_3 < (x151000_3.length : Int) := of_decide_eq_true (by first | (with_reducible assumption) | assumption)
         obtain ⟨ad170, e170, hx170_0⟩ := Kd.at_string (Kd.R_reads' HO_151000.out).2.2 x8_3 p170 q170
         cases e170
         replace p170 := eq_true p170; replace q170 := eq_true q170
         go_wp2
         (first | go_roundg k3 | (refine Handed.intro k3 ?measure ?_; rotate_left; go_step; (repeat apply Exists.intro); simp only [add_plain]; refine ⟨?rel, rfl⟩))
         case measure => have := HK1.out; have := HK2.out; have := HK3.out; omega
         case rel => exact ⟨(wrap64 (x8_3 + 1)), (x151000_3), (x152000_3), (.slice (some ad170) x151000_3.length co53), (u152000), rl_, H', ⟨by have := HK1.out; have := HK2.out; have := HK3.out; omega⟩, ⟨fr_ HO_151000.out⟩, ⟨fr_ HO_152000.out⟩, ⟨fb_ BK148.out⟩, ⟨fb_ BK149.out⟩, ⟨fb_ BK150.out⟩, ⟨fb_ BK151.out⟩, ⟨by repeat (first | (with_reducible first | exact HI0.out | apply IsS74.alloc | apply IsS74.drewN | apply IsS74.drew | apply IsS74.set_1 | apply IsS74.set_2 | refine IsS74.far ?_ NB0_148.out _ | refine IsS74.far ?_ NB0_149.out _ | refine IsS74.far ?_ NB0_150.out _ | refine IsS74.far ?_ NB0_151.out _) | exact HI0.out)⟩, ⟨by repeat (first | (with_reducible first | exact HK.out | apply KeepBut.set_ | apply keep_drewN | apply keep_drew | apply keep_alloc | refine keep_far ?_ GW148.out _ | refine keep_far ?_ GW149.out _ | refine keep_far ?_ GW150.out _ | refine keep_far ?_ GW151.out _) | exact HK.out)⟩, ⟨by repeat (first | (with_reducible first | exact HB.out | apply below_alloc | apply pw_below_drewN | apply below_drew1 | refine below_set ?_ (IsS74.ge HI0.out) | refine below_set ?_ GE148.out | refine below_set ?_ GE149.out | refine below_set ?_ GE150.out | refine below_set ?_ GE151.out) | exact HB.out)⟩⟩
        ·rw [if_neg c37] at H
         exact absurd H (by simp)
       case neg =>
       rw [if_neg c36] at H
       have c36b0 : decide (x8_3 < (x151000_3.length : Int)) = false := decide_eq_false c36
       clear c36
       have H' := Aside0.mk H
       clear H; have hnb54 := NB150_148.out; have hnc54 := NB148_150.out; have hnb55 := NB150_149.out; have hnc55 := NB149_150.out; have hnb56 := NB150_151.out; have hnc56 := NB151_150.out; have hnb57 := NB150_0.out; have hnc57 := NB0_150.out; have hcz58_0 : wr.cell? ⟨gb150, 0, none⟩ = some (u151000) := bc_ BK150.out 0; have hcz58_1 : wr.cell? ⟨gb150, 1, none⟩ = some (.int .i64 0) := bc_ BK150.out 1; have hcz58_2 : wr.cell? ⟨gb150, 2, none⟩ = some (.slice none 0 0) := bc_ BK150.out 2; have hfz58_0 := blk_frozen BK150.out 0; have hfz58_1 := blk_frozen BK150.out 1; have hfz58_2 := blk_frozen BK150.out 2
       obtain ⟨Ao59, co59, eo59⟩ := Kd.R_slice HO_151000.out
       subst eo59
       go_wp2
       go_loopg [9] k3 (fun kq v9 w' => ∃ (x9_4 : Int) (x151000_4 : List ByteArray) (x152000_4 : List ByteArray) (u151000 : Value) (u152000 : Value), v9 = .int .i64 x9_4 ∧ Aside0 (spec_l21DrawPair.l3 kq x9_4 s0_0 x1001_2 x1002_2 x151000_4 0 x152000_4 0 = some (r1, r2, r3, r4, r5, r6, r7, r8)) ∧ Aside0 (kq ≤ k3) ∧ Aside0 (Kd.R Kd.string 9 w' w.heap.size (fun k_ => nB_ (u152000) k_) u151000 x151000_4) ∧ Aside0 (Kd.R Kd.string 9 w' w.heap.size (fun k_ => nB_ (u151000) k_) u152000 x152000_4) ∧ Aside0 (w'.heap[gb148]? = some (.cells #[(.slice none 0 0), .int .i64 0, (.slice none 0 0)] 26 (0, 0))) ∧ Aside0 (w'.heap[gb149]? = some (.cells #[(.slice none 0 0), .int .i64 0, (.slice none 0 0)] 26 (0, 0))) ∧ Aside0 (w'.heap[gb150]? = some (.cells #[u151000, .int .i64 0, (.slice none 0 0)] 26 (0, 0))) ∧ Aside0 (w'.heap[gb151]? = some (.cells #[u152000, .int .i64 0, (.slice none 0 0)] 26 (0, 0))) ∧ Aside0 (IsS74 w0 w' g s0_0 x1001_2 x1002_2) ∧ Aside0 (KeepBut w w' g none) ∧ Aside0 (Below w0.heap.size w0 w'))
       case atStart => exact ⟨(0), (x151000_3), (x152000_3), (.slice Ao59 x151000_3.length co59), (u152000), rl_, H', ⟨Nat.le_refl _⟩, ⟨fr_ HO_151000.out⟩, ⟨fr_ HO_152000.out⟩, ⟨fb_ BK148.out⟩, ⟨fb_ BK149.out⟩, ⟨fb_ BK150.out⟩, ⟨fb_ BK151.out⟩, ⟨by repeat (first | (with_reducible first | exact HI0.out | apply IsS74.alloc | apply IsS74.drewN | apply IsS74.drew | apply IsS74.set_1 | apply IsS74.set_2 | refine IsS74.far ?_ NB0_148.out _ | refine IsS74.far ?_ NB0_149.out _ | refine IsS74.far ?_ NB0_150.out _ | refine IsS74.far ?_ NB0_151.out _) | exact HI0.out)⟩, ⟨by repeat (first | (with_reducible first | exact HK.out | apply KeepBut.set_ | apply keep_drewN | apply keep_drew | apply keep_alloc | refine keep_far ?_ GW148.out _ | refine keep_far ?_ GW149.out _ | refine keep_far ?_ GW150.out _ | refine keep_far ?_ GW151.out _) | exact HK.out)⟩, ⟨by repeat (first | (with_reducible first | exact HB.out | apply below_alloc | apply pw_below_drewN | apply below_drew1 | refine below_set ?_ (IsS74.ge HI0.out) | refine below_set ?_ GE148.out | refine below_set ?_ GE149.out | refine below_set ?_ GE150.out | refine below_set ?_ GE151.out) | exact HB.out)⟩⟩
       case round =>
        clear H'
        try clear c17
        try clear c17b0
        try clear c28
        try clear c28b0
        try clear c36
        try clear c36b0
        try clear hcz11_0
        try clear hcz11_1
        try clear hcz11_2
        try clear hcz15_0
        try clear hcz15_1
        try clear hcz15_2
        try clear hcz58_0
        try clear hcz58_1
        try clear hcz58_2
        try clear hfz11_0
        try clear hfz11_1
        try clear hfz11_2
        try clear hfz15_0
        try clear hfz15_1
        try clear hfz15_2
        try clear hfz58_0
        try clear hfz58_1
        try clear hfz58_2
        obtain ⟨x9_4, x151000_4, x152000_4, u151000, u152000, rfl, HA, HK4, HO_151000, HO_152000, BK148, BK149, BK150, BK151, HI0, HK, HB⟩ := hrel
        cases gk with
        | zero => exact absurd HA.out (by simp [spec_l21DrawPair.l3])
        | succ k4 =>
         have H := HA.out
         clear HA
         simp only [spec_l21DrawPair.l3] at H
         by_cases c60 : x9_4 < (x152000_4.length : Int)
         ·rw [if_pos c60] at H
          have c60b0 : decide (x9_4 < (x152000_4.length : Int)) = true := decide_eq_true c60
          clear c60
          by_cases c61 : 0 ≤ x9_4
          ·rw [if_pos c61] at H
           have c61b0 : decide (0 ≤ x9_4) = true := decide_eq_true c61
           clear c61
           by_cases c62 : ((rdOf ByteArray.empty x152000_4 x9_4).size : Int) > 40
           ·rw [if_pos c62] at H
            have c62b0 : decide (40 < ((rdOf ByteArray.empty x152000_4 x9_4).size : Int)) = true := decide_eq_true c62
            have c62b1 : decide (40 < (rdOf ByteArray.empty x152000_4 x9_4).size) = true := decide_eq_true (by omega)
            clear c62
            obtain ⟨y173, hy173⟩ : ∃ y_ : List ByteArray, y_ = (x152000_4.set (x9_4 : Int).toNat (⟨#[121]⟩ : ByteArray)) := ⟨_, rfl⟩
            replace H : (spec_l21DrawPair.l3 k4 (wrap64 (x9_4 + 1)) s0_0 x1001_2 x1002_2 x151000_4 0 y173 0) = some (r1, r2, r3, r4, r5, r6, r7, r8) := by first | (rw [hy173]; with_reducible exact H) | (have H2_ := (Option.bind_some _ _).symm.trans H; rw [hy173]; with_reducible exact H2_) | (have H2_ := (Option.bind_some _ _).symm.trans H; with_reducible exact H2_) | with_reducible exact H | (rw [hy173]; exact H) | exact H
            have Ny173 := Aside0.mk hy173
            clear hy173
            have H' := Aside0.mk H
            clear H; have hnb64 := NB151_148.out; have hnc64 := NB148_151.out; have hnb65 := NB151_149.out; have hnc65 := NB149_151.out; have hnb66 := NB151_150.out; have hnc66 := NB150_151.out; have hnb67 := NB151_0.out; have hnc67 := NB0_151.out; have hcz68_0 : wr.cell? ⟨gb151, 0, none⟩ = some (u152000) := bc_ BK151.out 0; have hcz68_1 : wr.cell? ⟨gb151, 1, none⟩ = some (.int .i64 0) := bc_ BK151.out 1; have hcz68_2 : wr.cell? ⟨gb151, 2, none⟩ = some (.slice none 0 0) := bc_ BK151.out 2; have hfz68_0 := blk_frozen BK151.out 0; have hfz68_1 := blk_frozen BK151.out 1; have hfz68_2 := blk_frozen BK151.out 2
            obtain ⟨Ao69, co69, eo69⟩ := Kd.R_slice HO_152000.out
            subst eo69
            have p172 : 0 ≤ (x9_4 : Int) := of_decide_eq_true (by first | (with_reducible assumption) | assumption)
            have q172 : x9_4 < (x152000_4.length : Int) := of_decide_eq_true (by first | (with_reducible assumption) | assumption)
            obtain ⟨ad172, e172, hx172_0⟩ := Kd.at_string (Kd.R_reads' HO_152000.out).2.2 x9_4 p172 q172
            cases e172
            replace p172 := eq_true p172; replace q172 := eq_true q172
            have p63 : 0 ≤ (x9_4 : Int) := of_decide_eq_true (by first | (with_reducible assumption) | assumption)
            have q63 : (x9_4 : Int) < ((x152000_4.length : Int) : Int) := of_decide_eq_true (by first | (with_reducible assumption) | assumption)
            obtain ⟨go63, co63, eo63, gb63, gl63, cl63, HG63⟩ := Kd.R_form HO_152000.out (by omega)
            (first | cases eo63 | (injection eo63 with ea_ en_ ec_; (first | subst ea_ | (injection ea_ with ea_; subst ea_)); subst ec_; clear en_))
            have GB63 := Aside0.mk gb63
            have GG63 := Aside0.mk HG63
            clear gb63 gl63 HG63
            (first | simp only [add_plain] at hx172_0 | skip)
            obtain ⟨hx63_0, hf63_0⟩ := Kd.R_celln (⟨#[]⟩ : ByteArray) HO_152000.out (x9_4 : Int) p63 q63
            replace p63 := eq_true p63; replace q63 := eq_true q63
            have HP70 := Kd.R_putg HO_152000.out (x9_4 : Int) (⟨#[121]⟩ : ByteArray)
            go_wp2_with (first | ((with_reducible refine gate_store (t := 9) (p := 74) rfl ?_); refine store_event (t := 9) (p := 74) (v := ?vo_w71) (w1 := (wr.setCell ⟨go63, (x9_4 : Int).toNat, none⟩ (.string (⟨#[121]⟩ : ByteArray)))) ?hg ?ho ?hn ?hr ?_; (case ho => rfl); (case hg => rfl); (case hn => rfl); (case hr => first | (go_simp; done) | (go_simp; rfl)); intro w71 hw; have hg : wr.grownBy w71 (some go63) := (by rw [hw]; exact HP70.2); have hp_ : Kd.R Kd.string 9 w71 w.heap.size (fun k_ => nB_ (u151000) k_) (.slice (some ⟨go63, 0, none⟩) x152000_4.length co69) y173 := (by rw [hw, Ny173.out]; exact HP70.1); clear HP70; replace HO_151000 := Aside0.mk (Kd.R_after (v := (.slice (some ⟨go63, 0, none⟩) x152000_4.length co69)) (v1 := (.slice (some ⟨go63, 0, none⟩) x152000_4.length co69)) (ok := (fun _ => True)) (by (with_reducible repeat (first | apply Kd.R_alloc | apply Kd.R_drewN | apply Kd.R_drew)); exact Kd.R_mono HO_151000.out (fun _ hk => ⟨trivial, hk⟩)) hg (.inl rfl)); replace BK148 := Aside0.mk (blk_grown (g := gb148) (o := .cells #[.slice none 0 0, .int .i64 0, .slice none 0 0] 26 (0, 0)) (fb_ BK148.out) hg (Kd.R_ne HO_152000.out BK148.out (by decide))); replace BK149 := Aside0.mk (blk_grown (g := gb149) (o := .cells #[.slice none 0 0, .int .i64 0, .slice none 0 0] 26 (0, 0)) (fb_ BK149.out) hg (Kd.R_ne HO_152000.out BK149.out (by decide))); replace BK150 := Aside0.mk (blk_grown (g := gb150) (o := .cells #[u151000, .int .i64 0, .slice none 0 0] 26 (0, 0)) (fb_ BK150.out) hg (Kd.R_ne HO_152000.out BK150.out (by decide))); replace BK151 := Aside0.mk (blk_grown (g := gb151) (o := .cells #[.slice (some ⟨go63, 0, none⟩) x152000_4.length co69, .int .i64 0, .slice none 0 0] 26 (0, 0)) (fb_ BK151.out) hg (Kd.R_ne HO_152000.out BK151.out (by decide))); replace HI0 := Aside0.mk (IsS74.grown (by repeat (first | (with_reducible first | exact HI0.out | apply IsS74.alloc | apply IsS74.drewN | apply IsS74.drew | apply IsS74.set_1 | apply IsS74.set_2 | refine IsS74.far ?_ NB0_148.out _ | refine IsS74.far ?_ NB0_149.out _ | refine IsS74.far ?_ NB0_150.out _ | refine IsS74.far ?_ NB0_151.out _) | exact HI0.out)) hg (IsS74.own_ne HI0.out HO_152000.out (by decide))); replace HB := Aside0.mk ((by rw [hw]; exact below_set (HB.out) (Nat.le_trans HL.out GB63.out) : Below w0.heap.size w0 w71)); replace HK := Aside0.mk (KeepBut.trans (by repeat (first | (with_reducible first | exact HK.out | apply KeepBut.set_ | apply keep_drewN | apply keep_drew | apply keep_alloc | refine keep_far ?_ GW148.out _ | refine keep_far ?_ GW149.out _ | refine keep_far ?_ GW150.out _ | refine keep_far ?_ GW151.out _) | exact HK.out)) (KeepBut.of_grown hg g) (Kd.R_base2 HO_152000.out)); replace HO_152000 := Aside0.mk (hp_); clear hg hw hp_))
            (first | go_roundg k4 | (refine Handed.intro k4 ?measure ?_; rotate_left; go_step; (repeat apply Exists.intro); simp only [add_plain]; refine ⟨?rel, rfl⟩))
            case measure => have := HK1.out; have := HK2.out; have := HK3.out; have := HK4.out; omega
            case rel => exact ⟨(wrap64 (x9_4 + 1)), (x151000_4), (y173), (u151000), (.slice (some ⟨go63, 0, none⟩) x152000_4.length co69), rl_, H', ⟨by have := HK1.out; have := HK2.out; have := HK3.out; have := HK4.out; omega⟩, ⟨rn_ HO_151000.out (fun _ hk => hk.2)⟩, ⟨fr_ HO_152000.out⟩, ⟨fb_ BK148.out⟩, ⟨fb_ BK149.out⟩, ⟨fb_ BK150.out⟩, ⟨fb_ BK151.out⟩, ⟨by repeat (first | (with_reducible first | exact HI0.out | apply IsS74.alloc | apply IsS74.drewN | apply IsS74.drew | apply IsS74.set_1 | apply IsS74.set_2 | refine IsS74.far ?_ NB0_148.out _ | refine IsS74.far ?_ NB0_149.out _ | refine IsS74.far ?_ NB0_150.out _ | refine IsS74.far ?_ NB0_151.out _) | exact HI0.out)⟩, ⟨by repeat (first | (with_reducible first | exact HK.out | apply KeepBut.set_ | apply keep_drewN | apply keep_drew | apply keep_alloc | refine keep_far ?_ GW148.out _ | refine keep_far ?_ GW149.out _ | refine keep_far ?_ GW150.out _ | refine keep_far ?_ GW151.out _) | exact HK.out)⟩, ⟨by repeat (first | (with_reducible first | exact HB.out | apply below_alloc | apply pw_below_drewN | apply below_drew1 | refine below_set ?_ (IsS74.ge HI0.out) | refine below_set ?_ GE148.out | refine below_set ?_ GE149.out | refine below_set ?_ GE150.out | refine below_set ?_ GE151.out) | exact HB.out)⟩⟩
           case neg =>
           rw [if_neg c62] at H
           have c62b0 : decide (40 < ((rdOf ByteArray.empty x152000_4 x9_4).size : Int)) = false := decide_eq_false c62
           have c62b1 : decide (40 < (rdOf ByteArray.empty x152000_4 x9_4).size) = false := decide_eq_false (by omega)
           clear c62
           have H' := Aside0.mk H
           clear H; have hnb72 := NB151_148.out; have hnc72 := NB148_151.out; have hnb73 := NB151_149.out; have hnc73 := NB149_151.out; have hnb74 := NB151_150.out; have hnc74 := NB150_151.out; have hnb75 := NB151_0.out; have hnc75 := NB0_151.out; have hcz76_0 : wr.cell? ⟨gb151, 0, none⟩ = some (u152000) := bc_ BK151.out 0; have hcz76_1 : wr.cell? ⟨gb151, 1, none⟩ = some (.int .i64 0) := bc_ BK151.out 1; have hcz76_2 : wr.cell? ⟨gb151, 2, none⟩ = some (.slice none 0 0) := bc_ BK151.out 2; have hfz76_0 := blk_frozen BK151.out 0; have hfz76_1 := blk_frozen BK151.out 1; have hfz76_2 := blk_frozen BK151.out 2
           obtain ⟨Ao77, co77, eo77⟩ := Kd.R_slice HO_152000.out
           subst eo77
           have p172 : 0 ≤ (x9_4 : Int) := of_decide_eq_true (by first | (with_reducible assumption) | assumption)
           have q172 : x9_4 < (x152000_4.length : Int) := of_decide_eq_true (by first | (with_reducible assumption) | assumption)
           obtain ⟨ad172, e172, hx172_0⟩ := Kd.at_string (Kd.R_reads' HO_152000.out).2.2 x9_4 p172 q172
           cases e172
           replace p172 := eq_true p172; replace q172 := eq_true q172
           go_wp2
           (first | go_roundg k4 | (refine Handed.intro k4 ?measure ?_; rotate_left; go_step; (repeat apply Exists.intro); simp only [add_plain]; refine ⟨?rel, rfl⟩))
           case measure => have := HK1.out; have := HK2.out; have := HK3.out; have := HK4.out; omega
           case rel => exact ⟨(wrap64 (x9_4 + 1)), (x151000_4), (x152000_4), (u151000), (.slice (some ad172) x152000_4.length co77), rl_, H', ⟨by have := HK1.out; have := HK2.out; have := HK3.out; have := HK4.out; omega⟩, ⟨fr_ HO_151000.out⟩, ⟨fr_ HO_152000.out⟩, ⟨fb_ BK148.out⟩, ⟨fb_ BK149.out⟩, ⟨fb_ BK150.out⟩, ⟨fb_ BK151.out⟩, ⟨by repeat (first | (with_reducible first | exact HI0.out | apply IsS74.alloc | apply IsS74.drewN | apply IsS74.drew | apply IsS74.set_1 | apply IsS74.set_2 | refine IsS74.far ?_ NB0_148.out _ | refine IsS74.far ?_ NB0_149.out _ | refine IsS74.far ?_ NB0_150.out _ | refine IsS74.far ?_ NB0_151.out _) | exact HI0.out)⟩, ⟨by repeat (first | (with_reducible first | exact HK.out | apply KeepBut.set_ | apply keep_drewN | apply keep_drew | apply keep_alloc | refine keep_far ?_ GW148.out _ | refine keep_far ?_ GW149.out _ | refine keep_far ?_ GW150.out _ | refine keep_far ?_ GW151.out _) | exact HK.out)⟩, ⟨by repeat (first | (with_reducible first | exact HB.out | apply below_alloc | apply pw_below_drewN | apply below_drew1 | refine below_set ?_ (IsS74.ge HI0.out) | refine below_set ?_ GE148.out | refine below_set ?_ GE149.out | refine below_set ?_ GE150.out | refine below_set ?_ GE151.out) | exact HB.out)⟩⟩
          ·rw [if_neg c61] at H
           exact absurd H (by simp)
         case neg =>
         rw [if_neg c60] at H
         have c60b0 : decide (x9_4 < (x152000_4.length : Int)) = false := decide_eq_false c60
         clear c60
         obtain ⟨y174, hy174⟩ : ∃ y_ : List ByteArray, y_ = (([] : List ByteArray)) := ⟨_, rfl⟩
         replace H : ((spec_l1Below.f s0_0 x1001_2 x1002_2 (wrap64 ((x152000_4.length : Int) + 1))).bind fun bt177 => (if 0 ≤ bt177.1 then (if bt177.1 ≤ (x152000_4.length : Int) then ((some (x152000_4.take (bt177.1 : Int).toNat : List ByteArray)).bind fun y180 => (if y174.length + y180.length < 8796093022208 then ((some (y174 ++ y180 : List ByteArray)).bind fun y184 => ((some (([] : List ByteArray) : List ByteArray)).bind fun y187 => ((spec_l1Below.f s0_0 bt177.2.1 bt177.2.2 (wrap64 ((x151000_4.length : Int) + 1))).bind fun bt190 => (if 0 ≤ bt190.1 then (if bt190.1 ≤ (x151000_4.length : Int) then ((some (x151000_4.take (bt190.1 : Int).toNat : List ByteArray)).bind fun y193 => (if y187.length + y193.length < 8796093022208 then ((some (y187 ++ y193 : List ByteArray)).bind fun y197 => ((spec_l1Below.f s0_0 bt190.2.1 bt190.2.2 (wrap64 ((y197.length : Int) + 1))).bind fun bt200 => ((spec_l1Below.f s0_0 bt200.2.1 bt200.2.2 (wrap64 ((y184.length : Int) + 1))).bind fun bt203 => (some (x151000_4, bt200.1, y184, x152000_4, bt203.1, y197, bt203.2.1, bt203.2.2))))) else (none))) else (none)) else (none))))) else (none))) else (none)) else (none))) = some (r1, r2, r3, r4, r5, r6, r7, r8) := by first | (rw [hy174]; with_reducible exact H) | (have H2_ := (Option.bind_some _ _).symm.trans H; rw [hy174]; with_reducible exact H2_) | (have H2_ := (Option.bind_some _ _).symm.trans H; with_reducible exact H2_) | with_reducible exact H | (rw [hy174]; exact H) | exact H
         have Ny174 := Aside0.mk hy174
         clear hy174; replace H := Option.bind_eq_some_iff.mp H
         obtain ⟨⟨t177, t178, t179⟩, A780, H⟩ := H
         replace H : (if 0 ≤ t177 then (if t177 ≤ (x152000_4.length : Int) then ((some (x152000_4.take (t177 : Int).toNat : List ByteArray)).bind fun y180 => (if y174.length + y180.length < 8796093022208 then ((some (y174 ++ y180 : List ByteArray)).bind fun y184 => ((some (([] : List ByteArray) : List ByteArray)).bind fun y187 => ((spec_l1Below.f s0_0 t178 t179 (wrap64 ((x151000_4.length : Int) + 1))).bind fun bt190 => (if 0 ≤ bt190.1 then (if bt190.1 ≤ (x151000_4.length : Int) then ((some (x151000_4.take (bt190.1 : Int).toNat : List ByteArray)).bind fun y193 => (if y187.length + y193.length < 8796093022208 then ((some (y187 ++ y193 : List ByteArray)).bind fun y197 => ((spec_l1Below.f s0_0 bt190.2.1 bt190.2.2 (wrap64 ((y197.length : Int) + 1))).bind fun bt200 => ((spec_l1Below.f s0_0 bt200.2.1 bt200.2.2 (wrap64 ((y184.length : Int) + 1))).bind fun bt203 => (some (x151000_4, bt200.1, y184, x152000_4, bt203.1, y197, bt203.2.1, bt203.2.2))))) else (none))) else (none)) else (none))))) else (none))) else (none)) else (none)) = some (r1, r2, r3, r4, r5, r6, r7, r8) := H
         have A78 := Aside0.mk A780
         clear A780
         by_cases c79 : 0 ≤ t177
         ·rw [if_pos c79] at H
          have c79b0 := eq_true c79
          have c79b1 : decide (0 ≤ t177) = true := decide_eq_true c79
          clear c79
          by_cases c80 : t177 ≤ (x152000_4.length : Int)
          ·rw [if_pos c80] at H
           have c80b0 := eq_true c80
           have c80b1 : decide (t177 ≤ (x152000_4.length : Int)) = true := decide_eq_true c80
           clear c80
           obtain ⟨y180, hy180⟩ : ∃ y_ : List ByteArray, y_ = (x152000_4.take (t177 : Int).toNat) := ⟨_, rfl⟩
           replace H : (if y174.length + y180.length < 8796093022208 then ((some (y174 ++ y180 : List ByteArray)).bind fun y184 => ((some (([] : List ByteArray) : List ByteArray)).bind fun y187 => ((spec_l1Below.f s0_0 t178 t179 (wrap64 ((x151000_4.length : Int) + 1))).bind fun bt190 => (if 0 ≤ bt190.1 then (if bt190.1 ≤ (x151000_4.length : Int) then ((some (x151000_4.take (bt190.1 : Int).toNat : List ByteArray)).bind fun y193 => (if y187.length + y193.length < 8796093022208 then ((some (y187 ++ y193 : List ByteArray)).bind fun y197 => ((spec_l1Below.f s0_0 bt190.2.1 bt190.2.2 (wrap64 ((y197.length : Int) + 1))).bind fun bt200 => ((spec_l1Below.f s0_0 bt200.2.1 bt200.2.2 (wrap64 ((y184.length : Int) + 1))).bind fun bt203 => (some (x151000_4, bt200.1, y184, x152000_4, bt203.1, y197, bt203.2.1, bt203.2.2))))) else (none))) else (none)) else (none))))) else (none)) = some (r1, r2, r3, r4, r5, r6, r7, r8) := by first | (rw [hy180]; with_reducible exact H) | (have H2_ := (Option.bind_some _ _).symm.trans H; rw [hy180]; with_reducible exact H2_) | (have H2_ := (Option.bind_some _ _).symm.trans H; with_reducible exact H2_) | with_reducible exact H | (rw [hy180]; exact H) | exact H
           have Ny180 := Aside0.mk hy180
           clear hy180
           by_cases c81 : y174.length + y180.length < 8796093022208
           ·rw [if_pos c81] at H
            have LMc81 := Aside0.mk c81
            clear c81
            obtain ⟨y184, hy184⟩ : ∃ y_ : List ByteArray, y_ = (y174 ++ y180) := ⟨_, rfl⟩
            replace H : ((some (([] : List ByteArray) : List ByteArray)).bind fun y187 => ((spec_l1Below.f s0_0 t178 t179 (wrap64 ((x151000_4.length : Int) + 1))).bind fun bt190 => (if 0 ≤ bt190.1 then (if bt190.1 ≤ (x151000_4.length : Int) then ((some (x151000_4.take (bt190.1 : Int).toNat : List ByteArray)).bind fun y193 => (if y187.length + y193.length < 8796093022208 then ((some (y187 ++ y193 : List ByteArray)).bind fun y197 => ((spec_l1Below.f s0_0 bt190.2.1 bt190.2.2 (wrap64 ((y197.length : Int) + 1))).bind fun bt200 => ((spec_l1Below.f s0_0 bt200.2.1 bt200.2.2 (wrap64 ((y184.length : Int) + 1))).bind fun bt203 => (some (x151000_4, bt200.1, y184, x152000_4, bt203.1, y197, bt203.2.1, bt203.2.2))))) else (none))) else (none)) else (none)))) = some (r1, r2, r3, r4, r5, r6, r7, r8) := by first | (rw [hy184]; with_reducible exact H) | (have H2_ := (Option.bind_some _ _).symm.trans H; rw [hy184]; with_reducible exact H2_) | (have H2_ := (Option.bind_some _ _).symm.trans H; with_reducible exact H2_) | with_reducible exact H | (rw [hy184]; exact H) | exact H
            have Ny184 := Aside0.mk hy184
            clear hy184
            obtain ⟨y187, hy187⟩ : ∃ y_ : List ByteArray, y_ = (([] : List ByteArray)) := ⟨_, rfl⟩
            replace H : ((spec_l1Below.f s0_0 t178 t179 (wrap64 ((x151000_4.length : Int) + 1))).bind fun bt190 => (if 0 ≤ bt190.1 then (if bt190.1 ≤ (x151000_4.length : Int) then ((some (x151000_4.take (bt190.1 : Int).toNat : List ByteArray)).bind fun y193 => (if y187.length + y193.length < 8796093022208 then ((some (y187 ++ y193 : List ByteArray)).bind fun y197 => ((spec_l1Below.f s0_0 bt190.2.1 bt190.2.2 (wrap64 ((y197.length : Int) + 1))).bind fun bt200 => ((spec_l1Below.f s0_0 bt200.2.1 bt200.2.2 (wrap64 ((y184.length : Int) + 1))).bind fun bt203 => (some (x151000_4, bt200.1, y184, x152000_4, bt203.1, y197, bt203.2.1, bt203.2.2))))) else (none))) else (none)) else (none))) = some (r1, r2, r3, r4, r5, r6, r7, r8) := by first | (rw [hy187]; with_reducible exact H) | (have H2_ := (Option.bind_some _ _).symm.trans H; rw [hy187]; with_reducible exact H2_) | (have H2_ := (Option.bind_some _ _).symm.trans H; with_reducible exact H2_) | with_reducible exact H | (rw [hy187]; exact H) | exact H
            have Ny187 := Aside0.mk hy187
            clear hy187; replace H := Option.bind_eq_some_iff.mp H
            obtain ⟨⟨t190, t191, t192⟩, A820, H⟩ := H
            replace H : (if 0 ≤ t190 then (if t190 ≤ (x151000_4.length : Int) then ((some (x151000_4.take (t190 : Int).toNat : List ByteArray)).bind fun y193 => (if y187.length + y193.length < 8796093022208 then ((some (y187 ++ y193 : List ByteArray)).bind fun y197 => ((spec_l1Below.f s0_0 t191 t192 (wrap64 ((y197.length : Int) + 1))).bind fun bt200 => ((spec_l1Below.f s0_0 bt200.2.1 bt200.2.2 (wrap64 ((y184.length : Int) + 1))).bind fun bt203 => (some (x151000_4, bt200.1, y184, x152000_4, bt203.1, y197, bt203.2.1, bt203.2.2))))) else (none))) else (none)) else (none)) = some (r1, r2, r3, r4, r5, r6, r7, r8) := H
            have A82 := Aside0.mk A820
            clear A820
            by_cases c83 : 0 ≤ t190
            ·rw [if_pos c83] at H
             have c83b0 := eq_true c83
             have c83b1 : decide (0 ≤ t190) = true := decide_eq_true c83
             clear c83
             by_cases c84 : t190 ≤ (x151000_4.length : Int)
             ·rw [if_pos c84] at H
              have c84b0 := eq_true c84
              have c84b1 : decide (t190 ≤ (x151000_4.length : Int)) = true := decide_eq_true c84
              clear c84
              obtain ⟨y193, hy193⟩ : ∃ y_ : List ByteArray, y_ = (x151000_4.take (t190 : Int).toNat) := ⟨_, rfl⟩
              replace H : (if y187.length + y193.length < 8796093022208 then ((some (y187 ++ y193 : List ByteArray)).bind fun y197 => ((spec_l1Below.f s0_0 t191 t192 (wrap64 ((y197.length : Int) + 1))).bind fun bt200 => ((spec_l1Below.f s0_0 bt200.2.1 bt200.2.2 (wrap64 ((y184.length : Int) + 1))).bind fun bt203 => (some (x151000_4, bt200.1, y184, x152000_4, bt203.1, y197, bt203.2.1, bt203.2.2))))) else (none)) = some (r1, r2, r3, r4, r5, r6, r7, r8) := by first | (rw [hy193]; with_reducible exact H) | (have H2_ := (Option.bind_some _ _).symm.trans H; rw [hy193]; with_reducible exact H2_) | (have H2_ := (Option.bind_some _ _).symm.trans H; with_reducible exact H2_) | with_reducible exact H | (rw [hy193]; exact H) | exact H
              have Ny193 := Aside0.mk hy193
              clear hy193
              by_cases c85 : y187.length + y193.length < 8796093022208
              ·rw [if_pos c85] at H
               have LMc85 := Aside0.mk c85
               clear c85
               obtain ⟨y197, hy197⟩ : ∃ y_ : List ByteArray, y_ = (y187 ++ y193) := ⟨_, rfl⟩
               replace H : ((spec_l1Below.f s0_0 t191 t192 (wrap64 ((y197.length : Int) + 1))).bind fun bt200 => ((spec_l1Below.f s0_0 bt200.2.1 bt200.2.2 (wrap64 ((y184.length : Int) + 1))).bind fun bt203 => (some (x151000_4, bt200.1, y184, x152000_4, bt203.1, y197, bt203.2.1, bt203.2.2)))) = some (r1, r2, r3, r4, r5, r6, r7, r8) := by first | (rw [hy197]; with_reducible exact H) | (have H2_ := (Option.bind_some _ _).symm.trans H; rw [hy197]; with_reducible exact H2_) | (have H2_ := (Option.bind_some _ _).symm.trans H; with_reducible exact H2_) | with_reducible exact H | (rw [hy197]; exact H) | exact H
               have Ny197 := Aside0.mk hy197
               clear hy197; replace H := Option.bind_eq_some_iff.mp H
               obtain ⟨⟨t200, t201, t202⟩, A860, H⟩ := H
               replace H : ((spec_l1Below.f s0_0 t201 t202 (wrap64 ((y184.length : Int) + 1))).bind fun bt203 => (some (x151000_4, t200, y184, x152000_4, bt203.1, y197, bt203.2.1, bt203.2.2))) = some (r1, r2, r3, r4, r5, r6, r7, r8) := H
               have A86 := Aside0.mk A860
               clear A860; replace H := Option.bind_eq_some_iff.mp H
               obtain ⟨⟨t203, t204, t205⟩, A870, H⟩ := H
               replace H : (some (x151000_4, t200, y184, x152000_4, t203, y197, t204, t205)) = some (r1, r2, r3, r4, r5, r6, r7, r8) := H
               have A87 := Aside0.mk A870
               clear A870
               simp only [Option.some.injEq, Prod.mk.injEq] at H
               obtain ⟨rfl, rfl, rfl, rfl, rfl, rfl, rfl, rfl⟩ := H
               have hnb88 := NB151_148.out; have hnc88 := NB148_151.out; have hnb89 := NB151_149.out; have hnc89 := NB149_151.out; have hnb90 := NB151_150.out; have hnc90 := NB150_151.out; have hnb91 := NB151_0.out; have hnc91 := NB0_151.out; have hcz92_0 : wr.cell? ⟨gb151, 0, none⟩ = some (u152000) := bc_ BK151.out 0; have hcz92_1 : wr.cell? ⟨gb151, 1, none⟩ = some (.int .i64 0) := bc_ BK151.out 1; have hcz92_2 : wr.cell? ⟨gb151, 2, none⟩ = some (.slice none 0 0) := bc_ BK151.out 2; have hfz92_0 := blk_frozen BK151.out 0; have hfz92_1 := blk_frozen BK151.out 1; have hfz92_2 := blk_frozen BK151.out 2
               obtain ⟨Ao93, co93, eo93⟩ := Kd.R_slice HO_152000.out
               subst eo93
               try go_wp2
               replace HO_151000 := Aside0.mk (Kd.R_drew HO_151000.out); replace HO_152000 := Aside0.mk (Kd.R_drew HO_152000.out); replace BK148 := Aside0.mk (blk_drew BK148.out); replace BK149 := Aside0.mk (blk_drew BK149.out); replace BK150 := Aside0.mk (blk_drew BK150.out); replace BK151 := Aside0.mk (blk_drew BK151.out); replace HI0 := Aside0.mk (IsS74.drew HI0.out); replace HK := Aside0.mk (keep_drew HK.out); replace HB := Aside0.mk (below_drew1 HB.out)
               refine start_ (n := 13) (S := fun w' => w'.cell? ⟨gb151, 0, none⟩ = some (.slice Ao93 x152000_4.length co93) ∧ w'.cell? ⟨gb151, 1, none⟩ = some (.int .i64 0) ∧ w'.cell? ⟨gb151, 2, none⟩ = some (.slice none 0 0)) (ds := []) (bs 13 0) (by kernel_rfl) rfl rfl ⟨bc_ BK151.out 0, bc_ BK151.out 1, bc_ BK151.out 2⟩ (fun hHeld => ?_); refine with_tabW spec_l21DrawPair.tab20 spec_l21DrawPair.bits20 (fun HT_ HW_ => ?_)
               generalize wr.drew = w94 at HO_151000 HO_152000 BK148 BK149 BK150 BK151 HI0 HK HB hHeld ⊢
               refine pu_ 1 76 HT_ (bs 13 2) rfl rfl ?_
               refine pu_ 3 78 HT_ (bs 13 10) rfl rfl ?_
               refine pu_ 4 79 HT_ (bs 13 26) rfl rfl ?_
               refine take_ (i := 2) (N := some 77) (v := ?_) (a' := ?_) (bs 13 30) rfl rfl (take_ofW HT_.out HW_.out (by kernel_rfl)) (fun _ _ _ h => h) (Or.inl ⟨by rfl, ?_⟩) hHeld ?_ ?_
               rotate_left
               ·rintro w' ⟨s0, s1, s2⟩
                go_simp
                with_reducible rfl
               rotate_left
               ·simp only [Act.put, sA_, sZ_, sS_, i64_w, i32_w]
                rfl
               refine take_ (i := 5) (N := some 80) (v := ?_) (a' := ?_) (bs 13 62) rfl rfl (take_ofW HT_.out HW_.out (by kernel_rfl)) (fun _ _ _ h => h) (Or.inl ⟨by rfl, ?_⟩) hHeld ?_ ?_
               rotate_left
               ·rintro w' ⟨s0, s1, s2⟩
                go_simp
                with_reducible rfl
               rotate_left
               ·simp only [Act.put, sA_, sZ_, sS_, i64_w, i32_w]
                rfl
               refine pu_ 6 81 HT_ (bs 13 126) rfl rfl ?_
               refine pu_ 7 82 HT_ (bs 13 254) rfl rfl ?_
               refine join_ (σ := Value) 3 (bs 13 1023) (fun s_ => [(75, s_), (83, .int .i64 t177), (84, .slice Ao93 y180.length co93)]) (fun s_ w' => (w'.cell? ⟨gb151, 0, none⟩ = some (.slice Ao93 x152000_4.length co93) ∧ w'.cell? ⟨gb151, 1, none⟩ = some (.int .i64 0) ∧ w'.cell? ⟨gb151, 2, none⟩ = some (.slice none 0 0)) ∧ (Kd.R Kd.string 9 w' w.heap.size (fun k_ => nB_ (u151000) k_ ∧ nB_ (.slice Ao93 x152000_4.length co93) k_) s_ y174) ∧ (Kd.R Kd.string 9 w' w.heap.size (fun k_ => nB_ (s_) k_ ∧ nB_ (.slice Ao93 x152000_4.length co93) k_) u151000 x151000_4) ∧ (Kd.R Kd.string 9 w' w.heap.size (fun k_ => nB_ (s_) k_ ∧ nB_ (u151000) k_) (.slice Ao93 x152000_4.length co93) x152000_4) ∧ (w'.heap[gb148]? = some (.cells #[.slice none 0 0, .int .i64 0, .slice none 0 0] 26 (0, 0))) ∧ (w'.heap[gb149]? = some (.cells #[.slice none 0 0, .int .i64 0, .slice none 0 0] 26 (0, 0))) ∧ (w'.heap[gb150]? = some (.cells #[u151000, .int .i64 0, .slice none 0 0] 26 (0, 0))) ∧ (w'.heap[gb151]? = some (.cells #[.slice Ao93 x152000_4.length co93, .int .i64 0, .slice none 0 0] 26 (0, 0))) ∧ (IsS74 w0 w' g s0_0 t178 t179) ∧ (KeepBut w w' g none) ∧ (Below w0.heap.size w0 w')) ?_ ?_
               rotate_left
               ·intro hCont
                refine two_ (i := 0) (j := 8) (Ni := some 75) (Nj := some 83) (bs 13 255) (bs 13 510) rfl rfl rfl rfl (two_of HT_.out (by kernel_rfl)) (by decide) (by decide) (fun K hK => ?_) (fun K hK => ?_)
                ·skip
                 refine Kd.R_lit_step Kd.string _ 9 ?hg (N := 75) ?hd (xs := ([] : List ByteArray)) (inner := []) (ok := fun _ => True) (okp := fun _ => True) ?hr ?hp (fun _ hk => hk) trivial (Below.refl _ _) (Nat.le_refl _) (by simp) ?_; (case hd => rfl); (case hg => rfl); (case hr => first | (go_simp; done) | (go_simp; rfl)); (case hp => exact (Reps.none _ _))
                 intro v175 w95 ho96 hb hg_ hnew_
                 clear hg_ hnew_
                 (first | rw [← Ny174.out] at ho96 | (simp only [Int.reduceToNat] at ho96; rw [← Ny174.out] at ho96))
                 have HO176 := Aside0.mk (Kd.R_lower (Kd.R_new' (Kd.R_new' ho96 (Kd.R_lt (fr_ HO_151000.out))) (Kd.R_lt (fr_ HO_152000.out))) (keep_size (w := w) (g := g) (row := none) (by repeat (first | (with_reducible first | exact HK.out | apply KeepBut.set_ | apply keep_drewN | apply keep_drew | apply keep_alloc | refine keep_far ?_ GW148.out _ | refine keep_far ?_ GW149.out _ | refine keep_far ?_ GW150.out _ | refine keep_far ?_ GW151.out _) | exact HK.out))))
                 replace HO_151000 := Aside0.mk (Kd.R_elder' (fr_ HO_151000.out) (Kd.R_base ho96) hb); replace HO_152000 := Aside0.mk (Kd.R_elder' (fr_ HO_152000.out) (Kd.R_base ho96) hb); replace BK148 := Aside0.mk (bb_ BK148.out hb); replace BK149 := Aside0.mk (bb_ BK149.out hb); replace BK150 := Aside0.mk (bb_ BK150.out hb); replace BK151 := Aside0.mk (bb_ BK151.out hb); replace HK := Aside0.mk (KeepBut.trans (by repeat (first | (with_reducible first | exact HK.out | apply KeepBut.set_ | apply keep_drewN | apply keep_drew | apply keep_alloc | refine keep_far ?_ GW148.out _ | refine keep_far ?_ GW149.out _ | refine keep_far ?_ GW150.out _ | refine keep_far ?_ GW151.out _) | exact HK.out)) (KeepBut.of_below hb g none) (.inl rfl)); replace HB := Aside0.mk (below_step (by repeat (first | (with_reducible first | exact HB.out | apply below_alloc | apply pw_below_drewN | apply below_drew1 | refine below_set ?_ (IsS74.ge HI0.out) | refine below_set ?_ GE148.out | refine below_set ?_ GE149.out | refine below_set ?_ GE150.out | refine below_set ?_ GE151.out) | exact HB.out)) hb); replace HI0 := Aside0.mk (IsS74.below (by repeat (first | (with_reducible first | exact HI0.out | apply IsS74.alloc | apply IsS74.drewN | apply IsS74.drew | apply IsS74.set_1 | apply IsS74.set_2 | refine IsS74.far ?_ NB0_148.out _ | refine IsS74.far ?_ NB0_149.out _ | refine IsS74.far ?_ NB0_150.out _ | refine IsS74.far ?_ NB0_151.out _) | exact HI0.out)) hb); clear hb ho96
                 refine hK.out _ _ ⟨bc_ BK151.out 0, bc_ BK151.out 1, bc_ BK151.out 2⟩ (fun hHeld => ?_)
                 clear hK K
                 refine norm_ (a' := ?_) ?_ ?_
                 rotate_left
                 ·show Act.put _ (some 75) _ = _
                  simp only [Act.put, sA_, sZ_, sS_, i64_w, i32_w]
                  rfl
                 refine one_ (i := 8) (N := some 83) (bs 13 511) rfl rfl (one_of HT_.out (by kernel_rfl)) (by decide) (fun K hK => ?_)
                 refine goes_ Try.func32 (by kernel_rfl) rfl #[.pointer (some ⟨g, 0, none⟩), .int .i64 (wrap64 ((x152000_4.length : Int) + 1))] (by rfl) rfl rfl ml_ ?_
                 with_reducible refine (spec_l1Below.calls g s0_0 x1001_2 x1002_2 (wrap64 ((x152000_4.length : Int) + 1)) t177 t178 t179 w0 _ ?side1 ?side2 A78.out).mono ?_
                 (case side1 => repeat (first | (with_reducible first | exact HI0.out | apply IsS74.alloc | apply IsS74.drewN | apply IsS74.drew | apply IsS74.set_1 | apply IsS74.set_2 | refine IsS74.far ?_ NB0_148.out _ | refine IsS74.far ?_ NB0_149.out _ | refine IsS74.far ?_ NB0_150.out _ | refine IsS74.far ?_ NB0_151.out _) | exact HI0.out))
                 (case side2 => repeat (first | (with_reducible first | exact HB.out | apply below_alloc | apply pw_below_drewN | apply below_drew1 | refine below_set ?_ (IsS74.ge HI0.out) | refine below_set ?_ GE148.out | refine below_set ?_ GE149.out | refine below_set ?_ GE150.out | refine below_set ?_ GE151.out) | exact HB.out))
                 rintro e w97 ⟨rfl, hi, hb, hk⟩
                 refine ⟨_, rfl, ?_⟩; replace HO_151000 := Aside0.mk (Kd.R_mono (Kd.R_keep (IsS74.apart (show IsS74 w0 _ g s0_0 x1001_2 x1002_2 from by repeat (first | (with_reducible first | exact HI0.out | apply IsS74.alloc | apply IsS74.drewN | apply IsS74.drew | apply IsS74.set_1 | apply IsS74.set_2 | refine IsS74.far ?_ NB0_148.out _ | refine IsS74.far ?_ NB0_149.out _ | refine IsS74.far ?_ NB0_150.out _ | refine IsS74.far ?_ NB0_151.out _) | exact HI0.out)) (fr_ HO_151000.out) (by decide)) hk (fun _ h => h.2)) (fun _ h => h.1)); replace HO_152000 := Aside0.mk (Kd.R_mono (Kd.R_keep (IsS74.apart (show IsS74 w0 _ g s0_0 x1001_2 x1002_2 from by repeat (first | (with_reducible first | exact HI0.out | apply IsS74.alloc | apply IsS74.drewN | apply IsS74.drew | apply IsS74.set_1 | apply IsS74.set_2 | refine IsS74.far ?_ NB0_148.out _ | refine IsS74.far ?_ NB0_149.out _ | refine IsS74.far ?_ NB0_150.out _ | refine IsS74.far ?_ NB0_151.out _) | exact HI0.out)) (fr_ HO_152000.out) (by decide)) hk (fun _ h => h.2)) (fun _ h => h.1)); replace BK148 := Aside0.mk (KeepBut.blk hk (g' := gb148) (o := .cells #[.slice none 0 0, .int .i64 0, .slice none 0 0] 26 (0, 0)) (fb_ BK148.out) NB148_0.out (by simp)); replace BK149 := Aside0.mk (KeepBut.blk hk (g' := gb149) (o := .cells #[.slice none 0 0, .int .i64 0, .slice none 0 0] 26 (0, 0)) (fb_ BK149.out) NB149_0.out (by simp)); replace BK150 := Aside0.mk (KeepBut.blk hk (g' := gb150) (o := .cells #[u151000, .int .i64 0, .slice none 0 0] 26 (0, 0)) (fb_ BK150.out) NB150_0.out (by simp)); replace BK151 := Aside0.mk (KeepBut.blk hk (g' := gb151) (o := .cells #[.slice Ao93 x152000_4.length co93, .int .i64 0, .slice none 0 0] 26 (0, 0)) (fb_ BK151.out) NB151_0.out (by simp)); replace HO176 := Aside0.mk (Kd.R_mono (Kd.R_keep (IsS74.apart (show IsS74 w0 _ g s0_0 x1001_2 x1002_2 from by repeat (first | (with_reducible first | exact HI0.out | apply IsS74.alloc | apply IsS74.drewN | apply IsS74.drew | apply IsS74.set_1 | apply IsS74.set_2 | refine IsS74.far ?_ NB0_148.out _ | refine IsS74.far ?_ NB0_149.out _ | refine IsS74.far ?_ NB0_150.out _ | refine IsS74.far ?_ NB0_151.out _) | exact HI0.out)) (fr_ HO176.out) (by decide)) hk (fun _ h => h.2)) (fun _ h => h.1))
                 replace HK := Aside0.mk (KeepBut.trans (by repeat (first | (with_reducible first | exact HK.out | apply KeepBut.set_ | apply keep_drewN | apply keep_drew | apply keep_alloc | refine keep_far ?_ GW148.out _ | refine keep_far ?_ GW149.out _ | refine keep_far ?_ GW150.out _ | refine keep_far ?_ GW151.out _) | exact HK.out)) hk (.inl rfl)); replace HB := Aside0.mk (hb); replace HI0 := Aside0.mk (hi); (try clear hb); (try clear hb2); (try clear hk); (try clear hi)
                 refine hK.out _ _ ⟨bc_ BK151.out 0, bc_ BK151.out 1, bc_ BK151.out 2⟩ (fun hHeld => ?_)
                 clear hK K
                 refine norm_ (a' := ?_) ?_ ?_
                 rotate_left
                 ·show Act.put _ (some 83) _ = _
                  simp only [Act.put, sA_, sZ_, sS_, i64_w, i32_w]
                  rfl
                 have hro_ : x152000_4.length ≤ co93 := (Kd.R_reads' HO_152000.out).2.1
                 have hle_ : (t177 : Int) ≤ ((x152000_4.length : Nat) : Int) := of_decide_eq_true (by first | (with_reducible assumption) | assumption)
                 have hyy_ : y180.length = (t177 : Int).toNat := (by rw [Ny180.out, List.length_take]; omega)
                 refine pu_ 9 84 HT_ (bs 13 1023) rfl rfl ?_ (hy := by refine Or.inl ⟨by rfl, ?_⟩; intro w'; go_simp; rw [if_pos (show (t177 : Int) ≤ ((co93 : Nat) : Int) from Int.le_trans hle_ (Int.ofNat_le.2 hro_)), ← hyy_])
                 exact norm_ (by simp only [putAll, Act.put, sA_, sZ_, sS_]) (hCont (v175) _ ⟨hHeld, (rn_ HO176.out (fun _ hk => ⟨hk.1.2, hk.2⟩)), (rn_ HO_151000.out (fun _ hk => ⟨hk.2, hk.1⟩)), (rn_ HO_152000.out (fun _ hk => ⟨hk.2, hk.1⟩)), (fb_ BK148.out), (fb_ BK149.out), (fb_ BK150.out), (fb_ BK151.out), (by repeat (first | (with_reducible first | exact HI0.out | apply IsS74.alloc | apply IsS74.drewN | apply IsS74.drew | apply IsS74.set_1 | apply IsS74.set_2 | refine IsS74.far ?_ NB0_148.out _ | refine IsS74.far ?_ NB0_149.out _ | refine IsS74.far ?_ NB0_150.out _ | refine IsS74.far ?_ NB0_151.out _) | exact HI0.out)), (by repeat (first | (with_reducible first | exact HK.out | apply KeepBut.set_ | apply keep_drewN | apply keep_drew | apply keep_alloc | refine keep_far ?_ GW148.out _ | refine keep_far ?_ GW149.out _ | refine keep_far ?_ GW150.out _ | refine keep_far ?_ GW151.out _) | exact HK.out)), (by repeat (first | (with_reducible first | exact HB.out | apply below_alloc | apply pw_below_drewN | apply below_drew1 | refine below_set ?_ (IsS74.ge HI0.out) | refine below_set ?_ GE148.out | refine below_set ?_ GE149.out | refine below_set ?_ GE150.out | refine below_set ?_ GE151.out) | exact HB.out))⟩)
                ·skip
                 refine goes_ Try.func32 (by kernel_rfl) rfl #[.pointer (some ⟨g, 0, none⟩), .int .i64 (wrap64 ((x152000_4.length : Int) + 1))] (by rfl) rfl rfl ml_ ?_
                 with_reducible refine (spec_l1Below.calls g s0_0 x1001_2 x1002_2 (wrap64 ((x152000_4.length : Int) + 1)) t177 t178 t179 w0 _ ?side1 ?side2 A78.out).mono ?_
                 (case side1 => repeat (first | (with_reducible first | exact HI0.out | apply IsS74.alloc | apply IsS74.drewN | apply IsS74.drew | apply IsS74.set_1 | apply IsS74.set_2 | refine IsS74.far ?_ NB0_148.out _ | refine IsS74.far ?_ NB0_149.out _ | refine IsS74.far ?_ NB0_150.out _ | refine IsS74.far ?_ NB0_151.out _) | exact HI0.out))
                 (case side2 => repeat (first | (with_reducible first | exact HB.out | apply below_alloc | apply pw_below_drewN | apply below_drew1 | refine below_set ?_ (IsS74.ge HI0.out) | refine below_set ?_ GE148.out | refine below_set ?_ GE149.out | refine below_set ?_ GE150.out | refine below_set ?_ GE151.out) | exact HB.out))
                 rintro e w95 ⟨rfl, hi, hb, hk⟩
                 refine ⟨_, rfl, ?_⟩; replace HO_151000 := Aside0.mk (Kd.R_mono (Kd.R_keep (IsS74.apart (show IsS74 w0 _ g s0_0 x1001_2 x1002_2 from by repeat (first | (with_reducible first | exact HI0.out | apply IsS74.alloc | apply IsS74.drewN | apply IsS74.drew | apply IsS74.set_1 | apply IsS74.set_2 | refine IsS74.far ?_ NB0_148.out _ | refine IsS74.far ?_ NB0_149.out _ | refine IsS74.far ?_ NB0_150.out _ | refine IsS74.far ?_ NB0_151.out _) | exact HI0.out)) (fr_ HO_151000.out) (by decide)) hk (fun _ h => h.2)) (fun _ h => h.1)); replace HO_152000 := Aside0.mk (Kd.R_mono (Kd.R_keep (IsS74.apart (show IsS74 w0 _ g s0_0 x1001_2 x1002_2 from by repeat (first | (with_reducible first | exact HI0.out | apply IsS74.alloc | apply IsS74.drewN | apply IsS74.drew | apply IsS74.set_1 | apply IsS74.set_2 | refine IsS74.far ?_ NB0_148.out _ | refine IsS74.far ?_ NB0_149.out _ | refine IsS74.far ?_ NB0_150.out _ | refine IsS74.far ?_ NB0_151.out _) | exact HI0.out)) (fr_ HO_152000.out) (by decide)) hk (fun _ h => h.2)) (fun _ h => h.1)); replace BK148 := Aside0.mk (KeepBut.blk hk (g' := gb148) (o := .cells #[.slice none 0 0, .int .i64 0, .slice none 0 0] 26 (0, 0)) (fb_ BK148.out) NB148_0.out (by simp)); replace BK149 := Aside0.mk (KeepBut.blk hk (g' := gb149) (o := .cells #[.slice none 0 0, .int .i64 0, .slice none 0 0] 26 (0, 0)) (fb_ BK149.out) NB149_0.out (by simp)); replace BK150 := Aside0.mk (KeepBut.blk hk (g' := gb150) (o := .cells #[u151000, .int .i64 0, .slice none 0 0] 26 (0, 0)) (fb_ BK150.out) NB150_0.out (by simp)); replace BK151 := Aside0.mk (KeepBut.blk hk (g' := gb151) (o := .cells #[.slice Ao93 x152000_4.length co93, .int .i64 0, .slice none 0 0] 26 (0, 0)) (fb_ BK151.out) NB151_0.out (by simp)); replace HK := Aside0.mk (KeepBut.trans (by repeat (first | (with_reducible first | exact HK.out | apply KeepBut.set_ | apply keep_drewN | apply keep_drew | apply keep_alloc | refine keep_far ?_ GW148.out _ | refine keep_far ?_ GW149.out _ | refine keep_far ?_ GW150.out _ | refine keep_far ?_ GW151.out _) | exact HK.out)) hk (.inl rfl))
                 replace HB := Aside0.mk (hb); replace HI0 := Aside0.mk (hi); (try clear hb); (try clear hb2); (try clear hk); (try clear hi)
                 refine hK.out _ _ ⟨bc_ BK151.out 0, bc_ BK151.out 1, bc_ BK151.out 2⟩ (fun hHeld => ?_)
                 clear hK K
                 refine norm_ (a' := ?_) ?_ ?_
                 rotate_left
                 ·show Act.put _ (some 83) _ = _
                  simp only [Act.put, sA_, sZ_, sS_, i64_w, i32_w]
                  rfl
                 have hro_ : x152000_4.length ≤ co93 := (Kd.R_reads' HO_152000.out).2.1
                 have hle_ : (t177 : Int) ≤ ((x152000_4.length : Nat) : Int) := of_decide_eq_true (by first | (with_reducible assumption) | assumption)
                 have hyy_ : y180.length = (t177 : Int).toNat := (by rw [Ny180.out, List.length_take]; omega)
                 refine pu_ 9 84 HT_ (bs 13 1022) rfl rfl ?_ (hy := by refine Or.inl ⟨by rfl, ?_⟩; intro w'; go_simp; rw [if_pos (show (t177 : Int) ≤ ((co93 : Nat) : Int) from Int.le_trans hle_ (Int.ofNat_le.2 hro_)), ← hyy_])
                 refine one_ (i := 0) (N := some 75) (bs 13 1023) rfl rfl (one_of HT_.out (by kernel_rfl)) (by decide) (fun K hK => ?_)
                 refine Kd.R_lit_step Kd.string _ 9 ?hg (N := 75) ?hd (xs := ([] : List ByteArray)) (inner := []) (ok := fun _ => True) (okp := fun _ => True) ?hr ?hp (fun _ hk => hk) trivial (Below.refl _ _) (Nat.le_refl _) (by simp) ?_; (case hd => rfl); (case hg => rfl); (case hr => first | (go_simp; done) | (go_simp; rfl)); (case hp => exact (Reps.none _ _))
                 intro v175 w96 ho97 hb hg_ hnew_
                 clear hg_ hnew_
                 (first | rw [← Ny174.out] at ho97 | (simp only [Int.reduceToNat] at ho97; rw [← Ny174.out] at ho97))
                 have HO176 := Aside0.mk (Kd.R_lower (Kd.R_new' (Kd.R_new' ho97 (Kd.R_lt (fr_ HO_151000.out))) (Kd.R_lt (fr_ HO_152000.out))) (keep_size (w := w) (g := g) (row := none) (by repeat (first | (with_reducible first | exact HK.out | apply KeepBut.set_ | apply keep_drewN | apply keep_drew | apply keep_alloc | refine keep_far ?_ GW148.out _ | refine keep_far ?_ GW149.out _ | refine keep_far ?_ GW150.out _ | refine keep_far ?_ GW151.out _) | exact HK.out))))
                 replace HO_151000 := Aside0.mk (Kd.R_elder' (fr_ HO_151000.out) (Kd.R_base ho97) hb); replace HO_152000 := Aside0.mk (Kd.R_elder' (fr_ HO_152000.out) (Kd.R_base ho97) hb); replace BK148 := Aside0.mk (bb_ BK148.out hb); replace BK149 := Aside0.mk (bb_ BK149.out hb); replace BK150 := Aside0.mk (bb_ BK150.out hb); replace BK151 := Aside0.mk (bb_ BK151.out hb); replace HK := Aside0.mk (KeepBut.trans (by repeat (first | (with_reducible first | exact HK.out | apply KeepBut.set_ | apply keep_drewN | apply keep_drew | apply keep_alloc | refine keep_far ?_ GW148.out _ | refine keep_far ?_ GW149.out _ | refine keep_far ?_ GW150.out _ | refine keep_far ?_ GW151.out _) | exact HK.out)) (KeepBut.of_below hb g none) (.inl rfl)); replace HB := Aside0.mk (below_step (by repeat (first | (with_reducible first | exact HB.out | apply below_alloc | apply pw_below_drewN | apply below_drew1 | refine below_set ?_ (IsS74.ge HI0.out) | refine below_set ?_ GE148.out | refine below_set ?_ GE149.out | refine below_set ?_ GE150.out | refine below_set ?_ GE151.out) | exact HB.out)) hb); replace HI0 := Aside0.mk (IsS74.below (by repeat (first | (with_reducible first | exact HI0.out | apply IsS74.alloc | apply IsS74.drewN | apply IsS74.drew | apply IsS74.set_1 | apply IsS74.set_2 | refine IsS74.far ?_ NB0_148.out _ | refine IsS74.far ?_ NB0_149.out _ | refine IsS74.far ?_ NB0_150.out _ | refine IsS74.far ?_ NB0_151.out _) | exact HI0.out)) hb); clear hb ho97
                 refine hK.out _ _ ⟨bc_ BK151.out 0, bc_ BK151.out 1, bc_ BK151.out 2⟩ (fun hHeld => ?_)
                 clear hK K
                 refine norm_ (a' := ?_) ?_ ?_
                 rotate_left
                 ·show Act.put _ (some 75) _ = _
                  simp only [Act.put, sA_, sZ_, sS_, i64_w, i32_w]
                  rfl
                 exact norm_ (by simp only [putAll, Act.put, sA_, sZ_, sS_]) (hCont (v175) _ ⟨hHeld, (rn_ HO176.out (fun _ hk => ⟨hk.1.2, hk.2⟩)), (rn_ HO_151000.out (fun _ hk => ⟨hk.2, hk.1⟩)), (rn_ HO_152000.out (fun _ hk => ⟨hk.2, hk.1⟩)), (fb_ BK148.out), (fb_ BK149.out), (fb_ BK150.out), (fb_ BK151.out), (by repeat (first | (with_reducible first | exact HI0.out | apply IsS74.alloc | apply IsS74.drewN | apply IsS74.drew | apply IsS74.set_1 | apply IsS74.set_2 | refine IsS74.far ?_ NB0_148.out _ | refine IsS74.far ?_ NB0_149.out _ | refine IsS74.far ?_ NB0_150.out _ | refine IsS74.far ?_ NB0_151.out _) | exact HI0.out)), (by repeat (first | (with_reducible first | exact HK.out | apply KeepBut.set_ | apply keep_drewN | apply keep_drew | apply keep_alloc | refine keep_far ?_ GW148.out _ | refine keep_far ?_ GW149.out _ | refine keep_far ?_ GW150.out _ | refine keep_far ?_ GW151.out _) | exact HK.out)), (by repeat (first | (with_reducible first | exact HB.out | apply below_alloc | apply pw_below_drewN | apply below_drew1 | refine below_set ?_ (IsS74.ge HI0.out) | refine below_set ?_ GE148.out | refine below_set ?_ GE149.out | refine below_set ?_ GE150.out | refine below_set ?_ GE151.out) | exact HB.out))⟩)
               rintro v175 w98 ⟨hS_, h0_, h1_, h2_, h3_, h4_, h5_, h6_, h7_, h8_, h9_⟩
               (try dsimp only at h0_); have n0_ := Aside0.mk h0_
               (try dsimp only at h1_); have n1_ := Aside0.mk h1_
               (try dsimp only at h2_); have n2_ := Aside0.mk h2_
               (try dsimp only at h3_); have n3_ := Aside0.mk h3_
               (try dsimp only at h4_); have n4_ := Aside0.mk h4_
               (try dsimp only at h5_); have n5_ := Aside0.mk h5_
               (try dsimp only at h6_); have n6_ := Aside0.mk h6_
               (try dsimp only at h7_); have n7_ := Aside0.mk h7_
               (try dsimp only at h8_); have n8_ := Aside0.mk h8_
               (try dsimp only at h9_); have n9_ := Aside0.mk h9_
               clear HO_151000 HO_152000 BK148 BK149 BK150 BK151 HI0 HK HB h0_ h1_ h2_ h3_ h4_ h5_ h6_ h7_ h8_ h9_
               have HO176 := n0_
               have HO_151000 := n1_
               have HO_152000 := n2_
               have BK148 := n3_
               have BK149 := n4_
               have BK150 := n5_
               have BK151 := n6_
               have HI0 := n7_
               have HK := n8_
               have HB := n9_
               clear n0_ n1_ n2_ n3_ n4_ n5_ n6_ n7_ n8_ n9_
               have hHeld : w98.cell? ⟨gb151, 0, none⟩ = some (.slice Ao93 x152000_4.length co93) ∧ w98.cell? ⟨gb151, 1, none⟩ = some (.int .i64 0) ∧ w98.cell? ⟨gb151, 2, none⟩ = some (.slice none 0 0) := hS_
               have q99 : (t177 : Int) ≤ ((x152000_4.length : Int) : Int) := of_decide_eq_true (by first | (with_reducible assumption) | assumption)
               obtain ⟨i099, hi099, _, hsz99, _⟩ := info_parts info9
               have hroom99 : x152000_4.length ≤ co93 := (Kd.R_reads' HO_152000.out).2.1
               have hC99 : Kd.C Kd.string _ Ao93 x152000_4.length x152000_4 := (Kd.R_reads' HO_152000.out).2.2
               have hcut99 := cut_to (P := Try.prog) 24 9 .i64 Try.underlying24 hi099 Ao93 x152000_4.length co93 t177 (of_decide_eq_true (by first | (with_reducible assumption) | assumption)) q99 hroom99
               have hr99 := Kd.C_take (m := (t177 : Int).toNat) hC99 (by omega)
               have hy99 : y180.length = (t177 : Int).toNat := (by rw [Ny180.out, List.length_take]; omega)
               rw [← Ny180.out] at hr99
               rw [← hy99] at hcut99
               have HR183 := Aside0.mk hr99
               have HC183 := Aside0.mk (show y180.length ≤ co93 from by omega)
               clear hr99 hC99 hroom99 hi099 hsz99
               have KY99 := Aside0.mk hy99
               clear hy99
               have KL99 := Aside0.mk (show (t177 : Int).toNat ≤ x152000_4.length from by omega)
               replace q99 := eq_true q99
               refine norm_ (a' := ?_) ?_ ?_
               rotate_left
               ·simp only [putAll, Act.put, sA_, sZ_, sS_]
                rfl
               refine one_ (i := 10) (N := some 85) (bs 13 2047) rfl rfl (one_of HT_.out (by kernel_rfl)) (by decide) (fun K hK => ?_)
               refine Kd.R_append_rows_step Kd.string w.heap.size (by rfl) (.tmp 75) (.tmp 84) 24 9 (.string ⟨#[]⟩) 16 rfl Try.underlying24 info9 rfl (by decide) (by omega) v175 y174 y180 _ _ _ (fun k_ => nB_ (u151000) k_ ∧ nB_ (.slice Ao93 x152000_4.length co93) k_) (fun _ => False) rfl rfl ?aO ?aR (fun _ _ h => h) (fun _ h => h.elim) ?aF (Below.refl _ _) ?aS ?aL ?_
               (case aR => repeat (first | exact (by repeat (first | (with_reducible exact HR183.out) | (with_reducible refine Kd.C_alloc ?_ _) | (with_reducible refine Kd.C_drewN ?_ _) | (with_reducible refine Kd.C_drew ?_) | exact HR183.out)) | (with_reducible refine Kd.C_alloc ?_ _) | (with_reducible refine Kd.C_drewN ?_ _) | (with_reducible refine Kd.C_drew ?_)))
               (case aF => exact (fun k_ hk => ⟨Kd.fresh' (Kd.R_lt (fr_ HO_151000.out)) k_ hk, Kd.fresh' (Kd.R_lt (fr_ HO_152000.out)) k_ hk⟩))
               (case aO => exact (fr_ HO176.out))
               (case aS => exact (keep_size (w := w) (g := g) (row := none) (by repeat (first | (with_reducible first | exact HK.out | apply KeepBut.set_ | apply keep_drewN | apply keep_drew | apply keep_alloc | refine keep_far ?_ GW148.out _ | refine keep_far ?_ GW149.out _ | refine keep_far ?_ GW150.out _ | refine keep_far ?_ GW151.out _) | exact HK.out))))
               (case aL => have := LMc81.out; omega)
               intro v185 w100 ho hb hg hat
               rw [← Ny184.out] at ho
               replace HO_151000 := Aside0.mk (Kd.R_after (ok := (fun k_ => nB_ (.slice Ao93 x152000_4.length co93) k_)) (rn_ HO_151000.out (fun _ hk => ⟨hk.2, hk.1⟩)) hg hat); replace BK148 := Aside0.mk (blk_grown (g := gb148) (o := .cells #[.slice none 0 0, .int .i64 0, .slice none 0 0] 26 (0, 0)) (fb_ BK148.out) hg (Kd.R_ne HO176.out BK148.out (by decide))); replace BK149 := Aside0.mk (blk_grown (g := gb149) (o := .cells #[.slice none 0 0, .int .i64 0, .slice none 0 0] 26 (0, 0)) (fb_ BK149.out) hg (Kd.R_ne HO176.out BK149.out (by decide))); replace BK150 := Aside0.mk (blk_grown (g := gb150) (o := .cells #[u151000, .int .i64 0, .slice none 0 0] 26 (0, 0)) (fb_ BK150.out) hg (Kd.R_ne HO176.out BK150.out (by decide))); replace BK151 := Aside0.mk (blk_grown (g := gb151) (o := .cells #[.slice Ao93 x152000_4.length co93, .int .i64 0, .slice none 0 0] 26 (0, 0)) (fb_ BK151.out) hg (Kd.R_ne HO176.out BK151.out (by decide))); replace HB := Aside0.mk (below_weaken (by repeat (first | (with_reducible first | exact HB.out | apply below_alloc | apply pw_below_drewN | apply below_drew1 | refine below_set ?_ (IsS74.ge HI0.out) | refine below_set ?_ GE148.out | refine below_set ?_ GE149.out | refine below_set ?_ GE150.out | refine below_set ?_ GE151.out) | exact HB.out)) HL.out hb); replace HI0 := Aside0.mk (IsS74.grown (by repeat (first | (with_reducible first | exact HI0.out | apply IsS74.alloc | apply IsS74.drewN | apply IsS74.drew | apply IsS74.set_1 | apply IsS74.set_2 | refine IsS74.far ?_ NB0_148.out _ | refine IsS74.far ?_ NB0_149.out _ | refine IsS74.far ?_ NB0_150.out _ | refine IsS74.far ?_ NB0_151.out _) | exact HI0.out)) hg (IsS74.own_ne HI0.out HO176.out (by decide))); replace HK := Aside0.mk (KeepBut.trans (by repeat (first | (with_reducible first | exact HK.out | apply KeepBut.set_ | apply keep_drewN | apply keep_drew | apply keep_alloc | refine keep_far ?_ GW148.out _ | refine keep_far ?_ GW149.out _ | refine keep_far ?_ GW150.out _ | refine keep_far ?_ GW151.out _) | exact HK.out)) (KeepBut.of_grown hg g) (Kd.R_base2 HO176.out))
               replace HR183 := Aside0.mk ((show Kd.C Kd.string w100 Ao93 y180.length y180 from by rw [Ny180.out]; exact Kd.C_take (m := (t177 : Int).toNat) ((Kd.R_reads' (Kd.R_after (ok := (fun k_ => nB_ (u151000) k_)) (rn_ HO_152000.out (fun _ hk => ⟨hk.2, hk.1⟩)) hg hat)).2.2) KL99.out)); replace HO_152000 := Aside0.mk (Kd.R_after (ok := (fun k_ => nB_ (u151000) k_)) (rn_ HO_152000.out (fun _ hk => ⟨hk.2, hk.1⟩)) hg hat)
               have HO186 := Aside0.mk (ho)
               clear HO176 ho hb hg hat
               obtain ⟨Ao101, co101, eo101⟩ := Kd.R_slice HO186.out
               (first | subst eo101 | (injection eo101 with f1_ f2_ f3_; have f4_ := f1_.symm; have f5_ := f3_.symm; clear f1_ f2_ f3_; subst f4_; subst f5_))
               refine hK.out _ _ ⟨bc_ BK151.out 0, bc_ BK151.out 1, bc_ BK151.out 2⟩ (fun hHeld => ?_)
               clear hK K
               refine norm_ (a' := ?_) ?_ ?_
               rotate_left
               ·show Act.put _ (some 85) _ = _
                simp only [Act.put, sA_, sZ_, sS_, i64_w, i32_w]
                rfl
               refine pu_ 11 86 HT_ (bs 13 4095) rfl rfl ?_
               refine one_ (i := 12) (N := none) (bs 13 8191) rfl rfl (one_of HT_.out (by kernel_rfl)) (by decide) (fun K hK => ?_)
               have hs102 : w100.cell? ⟨gb150, 2, none⟩ = some (.slice none 0 0) := bc_ BK150.out 2
               have hfs102 := blk_frozen BK150.out 2
               have hns102_0 := NB148_150.out
               have hns102_1 := NB149_150.out
               have hns102_3 := NB151_150.out
               have hms102_0 := NB150_148.out
               have hms102_1 := NB150_149.out
               have hms102_3 := NB150_151.out
               refine skip_ (w1 := ?_) (by rfl) rfl ?_ ?_
               rotate_left
               ·go_simp
                rfl
               refine hK.out _ _ ⟨((cell_far (p := ⟨gb150, _, none⟩) NB151_150.out _).trans (hHeld.1)), ((cell_far (p := ⟨gb150, _, none⟩) NB151_150.out _).trans (hHeld.2.1)), ((cell_far (p := ⟨gb150, _, none⟩) NB151_150.out _).trans (hHeld.2.2))⟩ (fun hHeld => ?_)
               clear hK K
               refine done_ (done_of HT_.out (by kernel_rfl)) ?_
               try go_wp2
               have n0_ : Aside0 (Kd.R Kd.string 9 (w100.setCell ⟨gb150, 2, none⟩ (.slice Ao101 y184.length co101)) w.heap.size (fun k_ => nB_ (.slice Ao93 x152000_4.length co93) k_ ∧ nB_ (.slice Ao101 y184.length co101) k_) u151000 x151000_4) := ⟨by (with_reducible repeat (first | apply Kd.R_alloc | apply Kd.R_drewN | apply Kd.R_drew)); exact Kd.R_mono (Kd.R_far (p := ⟨gb150, 2, none⟩) (rt_ HO_151000.out BK150.out) (fun _ hk => hk.2) (.slice Ao101 y184.length co101)) (fun _ hk => ⟨hk.1.1, hk.1.2⟩)⟩
               have n1_ : Aside0 (Kd.R Kd.string 9 (w100.setCell ⟨gb150, 2, none⟩ (.slice Ao101 y184.length co101)) w.heap.size (fun k_ => nB_ (u151000) k_ ∧ nB_ (.slice Ao101 y184.length co101) k_) (.slice Ao93 x152000_4.length co93) x152000_4) := ⟨by (with_reducible repeat (first | apply Kd.R_alloc | apply Kd.R_drewN | apply Kd.R_drew)); exact Kd.R_mono (Kd.R_far (p := ⟨gb150, 2, none⟩) (rt_ HO_152000.out BK150.out) (fun _ hk => hk.2) (.slice Ao101 y184.length co101)) (fun _ hk => ⟨hk.1.1, hk.1.2⟩)⟩
               have n2_ : Aside0 (Kd.R Kd.string 9 (w100.setCell ⟨gb150, 2, none⟩ (.slice Ao101 y184.length co101)) w.heap.size (fun k_ => nB_ (u151000) k_ ∧ nB_ (.slice Ao93 x152000_4.length co93) k_) (.slice Ao101 y184.length co101) y184) := ⟨by (with_reducible repeat (first | apply Kd.R_alloc | apply Kd.R_drewN | apply Kd.R_drew)); exact Kd.R_mono (Kd.R_far (p := ⟨gb150, 2, none⟩) (rt_ HO186.out BK150.out) (fun _ hk => hk.2) (.slice Ao101 y184.length co101)) (fun _ hk => ⟨hk.1.1, hk.1.2⟩)⟩
               have n3_ : Aside0 ((w100.setCell ⟨gb150, 2, none⟩ (.slice Ao101 y184.length co101)).heap[gb148]? = some (.cells #[.slice none 0 0, .int .i64 0, .slice none 0 0] 26 (0, 0))) := ⟨by refine rp_ ?_; refine blk_far ?_ NB148_150.out _; refine rp_ ?_; exact BK148.out⟩
               have n4_ : Aside0 ((w100.setCell ⟨gb150, 2, none⟩ (.slice Ao101 y184.length co101)).heap[gb149]? = some (.cells #[.slice none 0 0, .int .i64 0, .slice none 0 0] 26 (0, 0))) := ⟨by refine rp_ ?_; refine blk_far ?_ NB149_150.out _; refine rp_ ?_; exact BK149.out⟩
               have n5_ : Aside0 ((w100.setCell ⟨gb150, 2, none⟩ (.slice Ao101 y184.length co101)).heap[gb150]? = some (.cells #[u151000, .int .i64 0, .slice Ao101 y184.length co101] 26 (0, 0))) := ⟨by refine rp_ ?_; refine blk_put (cs := #[u151000, .int .i64 0, .slice none 0 0]) ?_ 2 _ rfl; refine rp_ ?_; exact BK150.out⟩
               have n6_ : Aside0 ((w100.setCell ⟨gb150, 2, none⟩ (.slice Ao101 y184.length co101)).heap[gb151]? = some (.cells #[.slice Ao93 x152000_4.length co93, .int .i64 0, .slice none 0 0] 26 (0, 0))) := ⟨by refine rp_ ?_; refine blk_far ?_ NB151_150.out _; refine rp_ ?_; exact BK151.out⟩
               have n7_ : Aside0 (IsS74 w0 (w100.setCell ⟨gb150, 2, none⟩ (.slice Ao101 y184.length co101)) g s0_0 t178 t179) := ⟨by repeat (first | (with_reducible first | exact HI0.out | apply IsS74.alloc | apply IsS74.drewN | apply IsS74.drew | apply IsS74.set_1 | apply IsS74.set_2 | refine IsS74.far ?_ NB0_148.out _ | refine IsS74.far ?_ NB0_149.out _ | refine IsS74.far ?_ NB0_150.out _ | refine IsS74.far ?_ NB0_151.out _) | exact HI0.out)⟩
               have n8_ : Aside0 (KeepBut w (w100.setCell ⟨gb150, 2, none⟩ (.slice Ao101 y184.length co101)) g none) := ⟨by repeat (first | (with_reducible first | exact HK.out | apply KeepBut.set_ | apply keep_drewN | apply keep_drew | apply keep_alloc | refine keep_far ?_ GW148.out _ | refine keep_far ?_ GW149.out _ | refine keep_far ?_ GW150.out _ | refine keep_far ?_ GW151.out _) | exact HK.out)⟩
               have n9_ : Aside0 (Below w0.heap.size w0 (w100.setCell ⟨gb150, 2, none⟩ (.slice Ao101 y184.length co101))) := ⟨by repeat (first | (with_reducible first | exact HB.out | apply below_alloc | apply pw_below_drewN | apply below_drew1 | refine below_set ?_ (IsS74.ge HI0.out) | refine below_set ?_ GE148.out | refine below_set ?_ GE149.out | refine below_set ?_ GE150.out | refine below_set ?_ GE151.out) | exact HB.out)⟩
               (try clear HO_151000); (try clear HO_152000); (try clear HO186); (try clear BK148); (try clear BK149); (try clear BK150); (try clear BK151); (try clear HI0); (try clear HK); (try clear HB)
               generalize (w100.setCell ⟨gb150, 2, none⟩ (.slice Ao101 y184.length co101)) = w103 at n0_ n1_ n2_ n3_ n4_ n5_ n6_ n7_ n8_ n9_ ⊢
               have HO_151000 := n0_
               have HO_152000 := n1_
               have HO186 := n2_
               have BK148 := n3_
               have BK149 := n4_
               have BK150 := n5_
               have BK151 := n6_
               have HI0 := n7_
               have HK := n8_
               have HB := n9_
               clear n0_ n1_ n2_ n3_ n4_ n5_ n6_ n7_ n8_ n9_; replace HO_151000 := Aside0.mk (Kd.R_drew HO_151000.out); replace HO_152000 := Aside0.mk (Kd.R_drew HO_152000.out); replace HO186 := Aside0.mk (Kd.R_drew HO186.out); replace BK148 := Aside0.mk (blk_drew BK148.out); replace BK149 := Aside0.mk (blk_drew BK149.out); replace BK150 := Aside0.mk (blk_drew BK150.out); replace BK151 := Aside0.mk (blk_drew BK151.out); replace HI0 := Aside0.mk (IsS74.drew HI0.out); replace HK := Aside0.mk (keep_drew HK.out); replace HB := Aside0.mk (below_drew1 HB.out)
               obtain ⟨Ao105, co105, eo105⟩ := Kd.R_slice HO_151000.out
               (first | subst eo105 | (injection eo105 with f1_ f2_ f3_; have f4_ := f1_.symm; have f5_ := f3_.symm; clear f1_ f2_ f3_; subst f4_; subst f5_))
               refine start_ (n := 13) (S := fun w' => w'.cell? ⟨gb150, 0, none⟩ = some (.slice Ao105 x151000_4.length co105) ∧ w'.cell? ⟨gb150, 1, none⟩ = some (.int .i64 0) ∧ w'.cell? ⟨gb150, 2, none⟩ = some (.slice Ao101 y184.length co101)) (ds := []) (bs 13 0) (by kernel_rfl) rfl rfl ⟨bc_ BK150.out 0, bc_ BK150.out 1, bc_ BK150.out 2⟩ (fun hHeld => ?_); refine with_tabW spec_l21DrawPair.tab21 spec_l21DrawPair.bits21 (fun HT_ HW_ => ?_)
               generalize w103.drew = w104 at HO_151000 HO_152000 HO186 BK148 BK149 BK150 BK151 HI0 HK HB hHeld ⊢
               refine pu_ 1 88 HT_ (bs 13 2) rfl rfl ?_
               refine pu_ 3 90 HT_ (bs 13 10) rfl rfl ?_
               refine pu_ 4 91 HT_ (bs 13 26) rfl rfl ?_
               refine take_ (i := 2) (N := some 89) (v := ?_) (a' := ?_) (bs 13 30) rfl rfl (take_ofW HT_.out HW_.out (by kernel_rfl)) (fun _ _ _ h => h) (Or.inl ⟨by rfl, ?_⟩) hHeld ?_ ?_
               rotate_left
               ·rintro w' ⟨s0, s1, s2⟩
                go_simp
                with_reducible rfl
               rotate_left
               ·simp only [Act.put, sA_, sZ_, sS_, i64_w, i32_w]
                rfl
               refine take_ (i := 5) (N := some 92) (v := ?_) (a' := ?_) (bs 13 62) rfl rfl (take_ofW HT_.out HW_.out (by kernel_rfl)) (fun _ _ _ h => h) (Or.inl ⟨by rfl, ?_⟩) hHeld ?_ ?_
               rotate_left
               ·rintro w' ⟨s0, s1, s2⟩
                go_simp
                with_reducible rfl
               rotate_left
               ·simp only [Act.put, sA_, sZ_, sS_, i64_w, i32_w]
                rfl
               refine pu_ 6 93 HT_ (bs 13 126) rfl rfl ?_
               refine pu_ 7 94 HT_ (bs 13 254) rfl rfl ?_
               refine join_ (σ := Value) 3 (bs 13 1023) (fun s_ => [(87, s_), (95, .int .i64 t190), (96, .slice Ao105 y193.length co105)]) (fun s_ w' => (w'.cell? ⟨gb150, 0, none⟩ = some (.slice Ao105 x151000_4.length co105) ∧ w'.cell? ⟨gb150, 1, none⟩ = some (.int .i64 0) ∧ w'.cell? ⟨gb150, 2, none⟩ = some (.slice Ao101 y184.length co101)) ∧ (Kd.R Kd.string 9 w' w.heap.size (fun k_ => nB_ (s_) k_ ∧ nB_ (.slice Ao105 x151000_4.length co105) k_ ∧ nB_ (.slice Ao93 x152000_4.length co93) k_) (.slice Ao101 y184.length co101) y184) ∧ (Kd.R Kd.string 9 w' w.heap.size (fun k_ => nB_ (.slice Ao101 y184.length co101) k_ ∧ nB_ (.slice Ao105 x151000_4.length co105) k_ ∧ nB_ (.slice Ao93 x152000_4.length co93) k_) s_ y187) ∧ (Kd.R Kd.string 9 w' w.heap.size (fun k_ => nB_ (.slice Ao101 y184.length co101) k_ ∧ nB_ (s_) k_ ∧ nB_ (.slice Ao93 x152000_4.length co93) k_) (.slice Ao105 x151000_4.length co105) x151000_4) ∧ (Kd.R Kd.string 9 w' w.heap.size (fun k_ => nB_ (.slice Ao101 y184.length co101) k_ ∧ nB_ (s_) k_ ∧ nB_ (.slice Ao105 x151000_4.length co105) k_) (.slice Ao93 x152000_4.length co93) x152000_4) ∧ (w'.heap[gb148]? = some (.cells #[.slice none 0 0, .int .i64 0, .slice none 0 0] 26 (0, 0))) ∧ (w'.heap[gb149]? = some (.cells #[.slice none 0 0, .int .i64 0, .slice none 0 0] 26 (0, 0))) ∧ (w'.heap[gb150]? = some (.cells #[.slice Ao105 x151000_4.length co105, .int .i64 0, .slice Ao101 y184.length co101] 26 (0, 0))) ∧ (w'.heap[gb151]? = some (.cells #[.slice Ao93 x152000_4.length co93, .int .i64 0, .slice none 0 0] 26 (0, 0))) ∧ (IsS74 w0 w' g s0_0 t191 t192) ∧ (KeepBut w w' g none) ∧ (Below w0.heap.size w0 w')) ?_ ?_
               rotate_left
               ·intro hCont
                refine two_ (i := 0) (j := 8) (Ni := some 87) (Nj := some 95) (bs 13 255) (bs 13 510) rfl rfl rfl rfl (two_of HT_.out (by kernel_rfl)) (by decide) (by decide) (fun K hK => ?_) (fun K hK => ?_)
                ·skip
                 refine Kd.R_lit_step Kd.string _ 9 ?hg (N := 87) ?hd (xs := ([] : List ByteArray)) (inner := []) (ok := fun _ => True) (okp := fun _ => True) ?hr ?hp (fun _ hk => hk) trivial (Below.refl _ _) (Nat.le_refl _) (by simp) ?_; (case hd => rfl); (case hg => rfl); (case hr => first | (go_simp; done) | (go_simp; rfl)); (case hp => exact (Reps.none _ _))
                 intro v188 w106 ho107 hb hg_ hnew_
                 clear hg_ hnew_
                 (first | rw [← Ny187.out] at ho107 | (simp only [Int.reduceToNat] at ho107; rw [← Ny187.out] at ho107))
                 have HO189 := Aside0.mk (Kd.R_lower (Kd.R_new' (Kd.R_new' (Kd.R_new' ho107 (Kd.R_lt (fr_ HO_151000.out))) (Kd.R_lt (fr_ HO_152000.out))) (Kd.R_lt (fr_ HO186.out))) (keep_size (w := w) (g := g) (row := none) (by repeat (first | (with_reducible first | exact HK.out | apply KeepBut.set_ | apply keep_drewN | apply keep_drew | apply keep_alloc | refine keep_far ?_ GW148.out _ | refine keep_far ?_ GW149.out _ | refine keep_far ?_ GW150.out _ | refine keep_far ?_ GW151.out _) | exact HK.out))))
                 replace HO_151000 := Aside0.mk (Kd.R_elder' (fr_ HO_151000.out) (Kd.R_base ho107) hb); replace HO_152000 := Aside0.mk (Kd.R_elder' (fr_ HO_152000.out) (Kd.R_base ho107) hb); replace HO186 := Aside0.mk (Kd.R_elder' (fr_ HO186.out) (Kd.R_base ho107) hb); replace BK148 := Aside0.mk (bb_ BK148.out hb); replace BK149 := Aside0.mk (bb_ BK149.out hb); replace BK150 := Aside0.mk (bb_ BK150.out hb); replace BK151 := Aside0.mk (bb_ BK151.out hb); replace HK := Aside0.mk (KeepBut.trans (by repeat (first | (with_reducible first | exact HK.out | apply KeepBut.set_ | apply keep_drewN | apply keep_drew | apply keep_alloc | refine keep_far ?_ GW148.out _ | refine keep_far ?_ GW149.out _ | refine keep_far ?_ GW150.out _ | refine keep_far ?_ GW151.out _) | exact HK.out)) (KeepBut.of_below hb g none) (.inl rfl)); replace HB := Aside0.mk (below_step (by repeat (first | (with_reducible first | exact HB.out | apply below_alloc | apply pw_below_drewN | apply below_drew1 | refine below_set ?_ (IsS74.ge HI0.out) | refine below_set ?_ GE148.out | refine below_set ?_ GE149.out | refine below_set ?_ GE150.out | refine below_set ?_ GE151.out) | exact HB.out)) hb); replace HI0 := Aside0.mk (IsS74.below (by repeat (first | (with_reducible first | exact HI0.out | apply IsS74.alloc | apply IsS74.drewN | apply IsS74.drew | apply IsS74.set_1 | apply IsS74.set_2 | refine IsS74.far ?_ NB0_148.out _ | refine IsS74.far ?_ NB0_149.out _ | refine IsS74.far ?_ NB0_150.out _ | refine IsS74.far ?_ NB0_151.out _) | exact HI0.out)) hb); clear hb ho107
                 refine hK.out _ _ ⟨bc_ BK150.out 0, bc_ BK150.out 1, bc_ BK150.out 2⟩ (fun hHeld => ?_)
                 clear hK K
                 refine norm_ (a' := ?_) ?_ ?_
                 rotate_left
                 ·show Act.put _ (some 87) _ = _
                  simp only [Act.put, sA_, sZ_, sS_, i64_w, i32_w]
                  rfl
                 refine one_ (i := 8) (N := some 95) (bs 13 511) rfl rfl (one_of HT_.out (by kernel_rfl)) (by decide) (fun K hK => ?_)
                 refine goes_ Try.func32 (by kernel_rfl) rfl #[.pointer (some ⟨g, 0, none⟩), .int .i64 (wrap64 ((x151000_4.length : Int) + 1))] (by rfl) rfl rfl ml_ ?_
                 with_reducible refine (spec_l1Below.calls g s0_0 t178 t179 (wrap64 ((x151000_4.length : Int) + 1)) t190 t191 t192 w0 _ ?side1 ?side2 A82.out).mono ?_
                 (case side1 => repeat (first | (with_reducible first | exact HI0.out | apply IsS74.alloc | apply IsS74.drewN | apply IsS74.drew | apply IsS74.set_1 | apply IsS74.set_2 | refine IsS74.far ?_ NB0_148.out _ | refine IsS74.far ?_ NB0_149.out _ | refine IsS74.far ?_ NB0_150.out _ | refine IsS74.far ?_ NB0_151.out _) | exact HI0.out))
                 (case side2 => repeat (first | (with_reducible first | exact HB.out | apply below_alloc | apply pw_below_drewN | apply below_drew1 | refine below_set ?_ (IsS74.ge HI0.out) | refine below_set ?_ GE148.out | refine below_set ?_ GE149.out | refine below_set ?_ GE150.out | refine below_set ?_ GE151.out) | exact HB.out))
                 rintro e w108 ⟨rfl, hi, hb, hk⟩
                 refine ⟨_, rfl, ?_⟩; replace HO_151000 := Aside0.mk (Kd.R_mono (Kd.R_keep (IsS74.apart (show IsS74 w0 _ g s0_0 t178 t179 from by repeat (first | (with_reducible first | exact HI0.out | apply IsS74.alloc | apply IsS74.drewN | apply IsS74.drew | apply IsS74.set_1 | apply IsS74.set_2 | refine IsS74.far ?_ NB0_148.out _ | refine IsS74.far ?_ NB0_149.out _ | refine IsS74.far ?_ NB0_150.out _ | refine IsS74.far ?_ NB0_151.out _) | exact HI0.out)) (fr_ HO_151000.out) (by decide)) hk (fun _ h => h.2)) (fun _ h => h.1)); replace HO_152000 := Aside0.mk (Kd.R_mono (Kd.R_keep (IsS74.apart (show IsS74 w0 _ g s0_0 t178 t179 from by repeat (first | (with_reducible first | exact HI0.out | apply IsS74.alloc | apply IsS74.drewN | apply IsS74.drew | apply IsS74.set_1 | apply IsS74.set_2 | refine IsS74.far ?_ NB0_148.out _ | refine IsS74.far ?_ NB0_149.out _ | refine IsS74.far ?_ NB0_150.out _ | refine IsS74.far ?_ NB0_151.out _) | exact HI0.out)) (fr_ HO_152000.out) (by decide)) hk (fun _ h => h.2)) (fun _ h => h.1)); replace BK148 := Aside0.mk (KeepBut.blk hk (g' := gb148) (o := .cells #[.slice none 0 0, .int .i64 0, .slice none 0 0] 26 (0, 0)) (fb_ BK148.out) NB148_0.out (by simp)); replace BK149 := Aside0.mk (KeepBut.blk hk (g' := gb149) (o := .cells #[.slice none 0 0, .int .i64 0, .slice none 0 0] 26 (0, 0)) (fb_ BK149.out) NB149_0.out (by simp)); replace BK150 := Aside0.mk (KeepBut.blk hk (g' := gb150) (o := .cells #[.slice Ao105 x151000_4.length co105, .int .i64 0, .slice Ao101 y184.length co101] 26 (0, 0)) (fb_ BK150.out) NB150_0.out (by simp)); replace BK151 := Aside0.mk (KeepBut.blk hk (g' := gb151) (o := .cells #[.slice Ao93 x152000_4.length co93, .int .i64 0, .slice none 0 0] 26 (0, 0)) (fb_ BK151.out) NB151_0.out (by simp)); replace HO186 := Aside0.mk (Kd.R_mono (Kd.R_keep (IsS74.apart (show IsS74 w0 _ g s0_0 t178 t179 from by repeat (first | (with_reducible first | exact HI0.out | apply IsS74.alloc | apply IsS74.drewN | apply IsS74.drew | apply IsS74.set_1 | apply IsS74.set_2 | refine IsS74.far ?_ NB0_148.out _ | refine IsS74.far ?_ NB0_149.out _ | refine IsS74.far ?_ NB0_150.out _ | refine IsS74.far ?_ NB0_151.out _) | exact HI0.out)) (fr_ HO186.out) (by decide)) hk (fun _ h => h.2)) (fun _ h => h.1))
                 replace HO189 := Aside0.mk (Kd.R_mono (Kd.R_keep (IsS74.apart (show IsS74 w0 _ g s0_0 t178 t179 from by repeat (first | (with_reducible first | exact HI0.out | apply IsS74.alloc | apply IsS74.drewN | apply IsS74.drew | apply IsS74.set_1 | apply IsS74.set_2 | refine IsS74.far ?_ NB0_148.out _ | refine IsS74.far ?_ NB0_149.out _ | refine IsS74.far ?_ NB0_150.out _ | refine IsS74.far ?_ NB0_151.out _) | exact HI0.out)) (fr_ HO189.out) (by decide)) hk (fun _ h => h.2)) (fun _ h => h.1)); replace HK := Aside0.mk (KeepBut.trans (by repeat (first | (with_reducible first | exact HK.out | apply KeepBut.set_ | apply keep_drewN | apply keep_drew | apply keep_alloc | refine keep_far ?_ GW148.out _ | refine keep_far ?_ GW149.out _ | refine keep_far ?_ GW150.out _ | refine keep_far ?_ GW151.out _) | exact HK.out)) hk (.inl rfl)); replace HB := Aside0.mk (hb); replace HI0 := Aside0.mk (hi); (try clear hb); (try clear hb2); (try clear hk); (try clear hi)
                 refine hK.out _ _ ⟨bc_ BK150.out 0, bc_ BK150.out 1, bc_ BK150.out 2⟩ (fun hHeld => ?_)
                 clear hK K
                 refine norm_ (a' := ?_) ?_ ?_
                 rotate_left
                 ·show Act.put _ (some 95) _ = _
                  simp only [Act.put, sA_, sZ_, sS_, i64_w, i32_w]
                  rfl
                 have hro_ : x151000_4.length ≤ co105 := (Kd.R_reads' HO_151000.out).2.1
                 have hle_ : (t190 : Int) ≤ ((x151000_4.length : Nat) : Int) := of_decide_eq_true (by first | (with_reducible assumption) | assumption)
                 have hyy_ : y193.length = (t190 : Int).toNat := (by rw [Ny193.out, List.length_take]; omega)
                 refine pu_ 9 96 HT_ (bs 13 1023) rfl rfl ?_ (hy := by refine Or.inl ⟨by rfl, ?_⟩; intro w'; go_simp; rw [if_pos (show (t190 : Int) ≤ ((co105 : Nat) : Int) from Int.le_trans hle_ (Int.ofNat_le.2 hro_)), ← hyy_])
                 exact norm_ (by simp only [putAll, Act.put, sA_, sZ_, sS_]) (hCont (v188) _ ⟨hHeld, (rn_ HO186.out (fun _ hk => ⟨hk.2, ⟨hk.1.1, hk.1.2⟩⟩)), (rn_ HO189.out (fun _ hk => ⟨hk.2, ⟨hk.1.1.2, hk.1.2⟩⟩)), (rn_ HO_151000.out (fun _ hk => ⟨hk.1.2, ⟨hk.2, hk.1.1⟩⟩)), (rn_ HO_152000.out (fun _ hk => ⟨hk.1.2, ⟨hk.2, hk.1.1⟩⟩)), (fb_ BK148.out), (fb_ BK149.out), (fb_ BK150.out), (fb_ BK151.out), (by repeat (first | (with_reducible first | exact HI0.out | apply IsS74.alloc | apply IsS74.drewN | apply IsS74.drew | apply IsS74.set_1 | apply IsS74.set_2 | refine IsS74.far ?_ NB0_148.out _ | refine IsS74.far ?_ NB0_149.out _ | refine IsS74.far ?_ NB0_150.out _ | refine IsS74.far ?_ NB0_151.out _) | exact HI0.out)), (by repeat (first | (with_reducible first | exact HK.out | apply KeepBut.set_ | apply keep_drewN | apply keep_drew | apply keep_alloc | refine keep_far ?_ GW148.out _ | refine keep_far ?_ GW149.out _ | refine keep_far ?_ GW150.out _ | refine keep_far ?_ GW151.out _) | exact HK.out)), (by repeat (first | (with_reducible first | exact HB.out | apply below_alloc | apply pw_below_drewN | apply below_drew1 | refine below_set ?_ (IsS74.ge HI0.out) | refine below_set ?_ GE148.out | refine below_set ?_ GE149.out | refine below_set ?_ GE150.out | refine below_set ?_ GE151.out) | exact HB.out))⟩)
                ·skip
                 refine goes_ Try.func32 (by kernel_rfl) rfl #[.pointer (some ⟨g, 0, none⟩), .int .i64 (wrap64 ((x151000_4.length : Int) + 1))] (by rfl) rfl rfl ml_ ?_
                 with_reducible refine (spec_l1Below.calls g s0_0 t178 t179 (wrap64 ((x151000_4.length : Int) + 1)) t190 t191 t192 w0 _ ?side1 ?side2 A82.out).mono ?_
                 (case side1 => repeat (first | (with_reducible first | exact HI0.out | apply IsS74.alloc | apply IsS74.drewN | apply IsS74.drew | apply IsS74.set_1 | apply IsS74.set_2 | refine IsS74.far ?_ NB0_148.out _ | refine IsS74.far ?_ NB0_149.out _ | refine IsS74.far ?_ NB0_150.out _ | refine IsS74.far ?_ NB0_151.out _) | exact HI0.out))
                 (case side2 => repeat (first | (with_reducible first | exact HB.out | apply below_alloc | apply pw_below_drewN | apply below_drew1 | refine below_set ?_ (IsS74.ge HI0.out) | refine below_set ?_ GE148.out | refine below_set ?_ GE149.out | refine below_set ?_ GE150.out | refine below_set ?_ GE151.out) | exact HB.out))
                 rintro e w106 ⟨rfl, hi, hb, hk⟩
                 refine ⟨_, rfl, ?_⟩; replace HO_151000 := Aside0.mk (Kd.R_mono (Kd.R_keep (IsS74.apart (show IsS74 w0 _ g s0_0 t178 t179 from by repeat (first | (with_reducible first | exact HI0.out | apply IsS74.alloc | apply IsS74.drewN | apply IsS74.drew | apply IsS74.set_1 | apply IsS74.set_2 | refine IsS74.far ?_ NB0_148.out _ | refine IsS74.far ?_ NB0_149.out _ | refine IsS74.far ?_ NB0_150.out _ | refine IsS74.far ?_ NB0_151.out _) | exact HI0.out)) (fr_ HO_151000.out) (by decide)) hk (fun _ h => h.2)) (fun _ h => h.1)); replace HO_152000 := Aside0.mk (Kd.R_mono (Kd.R_keep (IsS74.apart (show IsS74 w0 _ g s0_0 t178 t179 from by repeat (first | (with_reducible first | exact HI0.out | apply IsS74.alloc | apply IsS74.drewN | apply IsS74.drew | apply IsS74.set_1 | apply IsS74.set_2 | refine IsS74.far ?_ NB0_148.out _ | refine IsS74.far ?_ NB0_149.out _ | refine IsS74.far ?_ NB0_150.out _ | refine IsS74.far ?_ NB0_151.out _) | exact HI0.out)) (fr_ HO_152000.out) (by decide)) hk (fun _ h => h.2)) (fun _ h => h.1)); replace BK148 := Aside0.mk (KeepBut.blk hk (g' := gb148) (o := .cells #[.slice none 0 0, .int .i64 0, .slice none 0 0] 26 (0, 0)) (fb_ BK148.out) NB148_0.out (by simp)); replace BK149 := Aside0.mk (KeepBut.blk hk (g' := gb149) (o := .cells #[.slice none 0 0, .int .i64 0, .slice none 0 0] 26 (0, 0)) (fb_ BK149.out) NB149_0.out (by simp)); replace BK150 := Aside0.mk (KeepBut.blk hk (g' := gb150) (o := .cells #[.slice Ao105 x151000_4.length co105, .int .i64 0, .slice Ao101 y184.length co101] 26 (0, 0)) (fb_ BK150.out) NB150_0.out (by simp)); replace BK151 := Aside0.mk (KeepBut.blk hk (g' := gb151) (o := .cells #[.slice Ao93 x152000_4.length co93, .int .i64 0, .slice none 0 0] 26 (0, 0)) (fb_ BK151.out) NB151_0.out (by simp)); replace HO186 := Aside0.mk (Kd.R_mono (Kd.R_keep (IsS74.apart (show IsS74 w0 _ g s0_0 t178 t179 from by repeat (first | (with_reducible first | exact HI0.out | apply IsS74.alloc | apply IsS74.drewN | apply IsS74.drew | apply IsS74.set_1 | apply IsS74.set_2 | refine IsS74.far ?_ NB0_148.out _ | refine IsS74.far ?_ NB0_149.out _ | refine IsS74.far ?_ NB0_150.out _ | refine IsS74.far ?_ NB0_151.out _) | exact HI0.out)) (fr_ HO186.out) (by decide)) hk (fun _ h => h.2)) (fun _ h => h.1))
                 replace HK := Aside0.mk (KeepBut.trans (by repeat (first | (with_reducible first | exact HK.out | apply KeepBut.set_ | apply keep_drewN | apply keep_drew | apply keep_alloc | refine keep_far ?_ GW148.out _ | refine keep_far ?_ GW149.out _ | refine keep_far ?_ GW150.out _ | refine keep_far ?_ GW151.out _) | exact HK.out)) hk (.inl rfl)); replace HB := Aside0.mk (hb); replace HI0 := Aside0.mk (hi); (try clear hb); (try clear hb2); (try clear hk); (try clear hi)
                 refine hK.out _ _ ⟨bc_ BK150.out 0, bc_ BK150.out 1, bc_ BK150.out 2⟩ (fun hHeld => ?_)
                 clear hK K
                 refine norm_ (a' := ?_) ?_ ?_
                 rotate_left
                 ·show Act.put _ (some 95) _ = _
                  simp only [Act.put, sA_, sZ_, sS_, i64_w, i32_w]
                  rfl
                 have hro_ : x151000_4.length ≤ co105 := (Kd.R_reads' HO_151000.out).2.1
                 have hle_ : (t190 : Int) ≤ ((x151000_4.length : Nat) : Int) := of_decide_eq_true (by first | (with_reducible assumption) | assumption)
                 have hyy_ : y193.length = (t190 : Int).toNat := (by rw [Ny193.out, List.length_take]; omega)
                 refine pu_ 9 96 HT_ (bs 13 1022) rfl rfl ?_ (hy := by refine Or.inl ⟨by rfl, ?_⟩; intro w'; go_simp; rw [if_pos (show (t190 : Int) ≤ ((co105 : Nat) : Int) from Int.le_trans hle_ (Int.ofNat_le.2 hro_)), ← hyy_])
                 refine one_ (i := 0) (N := some 87) (bs 13 1023) rfl rfl (one_of HT_.out (by kernel_rfl)) (by decide) (fun K hK => ?_)
                 refine Kd.R_lit_step Kd.string _ 9 ?hg (N := 87) ?hd (xs := ([] : List ByteArray)) (inner := []) (ok := fun _ => True) (okp := fun _ => True) ?hr ?hp (fun _ hk => hk) trivial (Below.refl _ _) (Nat.le_refl _) (by simp) ?_; (case hd => rfl); (case hg => rfl); (case hr => first | (go_simp; done) | (go_simp; rfl)); (case hp => exact (Reps.none _ _))
                 intro v188 w107 ho108 hb hg_ hnew_
                 clear hg_ hnew_
                 (first | rw [← Ny187.out] at ho108 | (simp only [Int.reduceToNat] at ho108; rw [← Ny187.out] at ho108))
                 have HO189 := Aside0.mk (Kd.R_lower (Kd.R_new' (Kd.R_new' (Kd.R_new' ho108 (Kd.R_lt (fr_ HO_151000.out))) (Kd.R_lt (fr_ HO_152000.out))) (Kd.R_lt (fr_ HO186.out))) (keep_size (w := w) (g := g) (row := none) (by repeat (first | (with_reducible first | exact HK.out | apply KeepBut.set_ | apply keep_drewN | apply keep_drew | apply keep_alloc | refine keep_far ?_ GW148.out _ | refine keep_far ?_ GW149.out _ | refine keep_far ?_ GW150.out _ | refine keep_far ?_ GW151.out _) | exact HK.out))))
                 replace HO_151000 := Aside0.mk (Kd.R_elder' (fr_ HO_151000.out) (Kd.R_base ho108) hb); replace HO_152000 := Aside0.mk (Kd.R_elder' (fr_ HO_152000.out) (Kd.R_base ho108) hb); replace HO186 := Aside0.mk (Kd.R_elder' (fr_ HO186.out) (Kd.R_base ho108) hb); replace BK148 := Aside0.mk (bb_ BK148.out hb); replace BK149 := Aside0.mk (bb_ BK149.out hb); replace BK150 := Aside0.mk (bb_ BK150.out hb); replace BK151 := Aside0.mk (bb_ BK151.out hb); replace HK := Aside0.mk (KeepBut.trans (by repeat (first | (with_reducible first | exact HK.out | apply KeepBut.set_ | apply keep_drewN | apply keep_drew | apply keep_alloc | refine keep_far ?_ GW148.out _ | refine keep_far ?_ GW149.out _ | refine keep_far ?_ GW150.out _ | refine keep_far ?_ GW151.out _) | exact HK.out)) (KeepBut.of_below hb g none) (.inl rfl)); replace HB := Aside0.mk (below_step (by repeat (first | (with_reducible first | exact HB.out | apply below_alloc | apply pw_below_drewN | apply below_drew1 | refine below_set ?_ (IsS74.ge HI0.out) | refine below_set ?_ GE148.out | refine below_set ?_ GE149.out | refine below_set ?_ GE150.out | refine below_set ?_ GE151.out) | exact HB.out)) hb); replace HI0 := Aside0.mk (IsS74.below (by repeat (first | (with_reducible first | exact HI0.out | apply IsS74.alloc | apply IsS74.drewN | apply IsS74.drew | apply IsS74.set_1 | apply IsS74.set_2 | refine IsS74.far ?_ NB0_148.out _ | refine IsS74.far ?_ NB0_149.out _ | refine IsS74.far ?_ NB0_150.out _ | refine IsS74.far ?_ NB0_151.out _) | exact HI0.out)) hb); clear hb ho108
                 refine hK.out _ _ ⟨bc_ BK150.out 0, bc_ BK150.out 1, bc_ BK150.out 2⟩ (fun hHeld => ?_)
                 clear hK K
                 refine norm_ (a' := ?_) ?_ ?_
                 rotate_left
                 ·show Act.put _ (some 87) _ = _
                  simp only [Act.put, sA_, sZ_, sS_, i64_w, i32_w]
                  rfl
                 exact norm_ (by simp only [putAll, Act.put, sA_, sZ_, sS_]) (hCont (v188) _ ⟨hHeld, (rn_ HO186.out (fun _ hk => ⟨hk.2, ⟨hk.1.1, hk.1.2⟩⟩)), (rn_ HO189.out (fun _ hk => ⟨hk.2, ⟨hk.1.1.2, hk.1.2⟩⟩)), (rn_ HO_151000.out (fun _ hk => ⟨hk.1.2, ⟨hk.2, hk.1.1⟩⟩)), (rn_ HO_152000.out (fun _ hk => ⟨hk.1.2, ⟨hk.2, hk.1.1⟩⟩)), (fb_ BK148.out), (fb_ BK149.out), (fb_ BK150.out), (fb_ BK151.out), (by repeat (first | (with_reducible first | exact HI0.out | apply IsS74.alloc | apply IsS74.drewN | apply IsS74.drew | apply IsS74.set_1 | apply IsS74.set_2 | refine IsS74.far ?_ NB0_148.out _ | refine IsS74.far ?_ NB0_149.out _ | refine IsS74.far ?_ NB0_150.out _ | refine IsS74.far ?_ NB0_151.out _) | exact HI0.out)), (by repeat (first | (with_reducible first | exact HK.out | apply KeepBut.set_ | apply keep_drewN | apply keep_drew | apply keep_alloc | refine keep_far ?_ GW148.out _ | refine keep_far ?_ GW149.out _ | refine keep_far ?_ GW150.out _ | refine keep_far ?_ GW151.out _) | exact HK.out)), (by repeat (first | (with_reducible first | exact HB.out | apply below_alloc | apply pw_below_drewN | apply below_drew1 | refine below_set ?_ (IsS74.ge HI0.out) | refine below_set ?_ GE148.out | refine below_set ?_ GE149.out | refine below_set ?_ GE150.out | refine below_set ?_ GE151.out) | exact HB.out))⟩)
               rintro v188 w109 ⟨hS_, h0_, h1_, h2_, h3_, h4_, h5_, h6_, h7_, h8_, h9_, h10_⟩
               (try dsimp only at h0_); have n0_ := Aside0.mk h0_
               (try dsimp only at h1_); have n1_ := Aside0.mk h1_
               (try dsimp only at h2_); have n2_ := Aside0.mk h2_
               (try dsimp only at h3_); have n3_ := Aside0.mk h3_
               (try dsimp only at h4_); have n4_ := Aside0.mk h4_
               (try dsimp only at h5_); have n5_ := Aside0.mk h5_
               (try dsimp only at h6_); have n6_ := Aside0.mk h6_
               (try dsimp only at h7_); have n7_ := Aside0.mk h7_
               (try dsimp only at h8_); have n8_ := Aside0.mk h8_
               (try dsimp only at h9_); have n9_ := Aside0.mk h9_
               (try dsimp only at h10_); have n10_ := Aside0.mk h10_
               clear HO_151000 HO_152000 HO186 BK148 BK149 BK150 BK151 HI0 HK HB h0_ h1_ h2_ h3_ h4_ h5_ h6_ h7_ h8_ h9_ h10_
               have HO186 := n0_
               have HO189 := n1_
               have HO_151000 := n2_
               have HO_152000 := n3_
               have BK148 := n4_
               have BK149 := n5_
               have BK150 := n6_
               have BK151 := n7_
               have HI0 := n8_
               have HK := n9_
               have HB := n10_
               clear n0_ n1_ n2_ n3_ n4_ n5_ n6_ n7_ n8_ n9_ n10_
               have hHeld : w109.cell? ⟨gb150, 0, none⟩ = some (.slice Ao105 x151000_4.length co105) ∧ w109.cell? ⟨gb150, 1, none⟩ = some (.int .i64 0) ∧ w109.cell? ⟨gb150, 2, none⟩ = some (.slice Ao101 y184.length co101) := hS_
               have q110 : (t190 : Int) ≤ ((x151000_4.length : Int) : Int) := of_decide_eq_true (by first | (with_reducible assumption) | assumption)
               obtain ⟨i0110, hi0110, _, hsz110, _⟩ := info_parts info9
               have hroom110 : x151000_4.length ≤ co105 := (Kd.R_reads' HO_151000.out).2.1
               have hC110 : Kd.C Kd.string _ Ao105 x151000_4.length x151000_4 := (Kd.R_reads' HO_151000.out).2.2
               have hcut110 := cut_to (P := Try.prog) 24 9 .i64 Try.underlying24 hi0110 Ao105 x151000_4.length co105 t190 (of_decide_eq_true (by first | (with_reducible assumption) | assumption)) q110 hroom110
               have hr110 := Kd.C_take (m := (t190 : Int).toNat) hC110 (by omega)
               have hy110 : y193.length = (t190 : Int).toNat := (by rw [Ny193.out, List.length_take]; omega)
               rw [← Ny193.out] at hr110
               rw [← hy110] at hcut110
               have HR196 := Aside0.mk hr110
               have HC196 := Aside0.mk (show y193.length ≤ co105 from by omega)
               clear hr110 hC110 hroom110 hi0110 hsz110
               have KY110 := Aside0.mk hy110
               clear hy110
               have KL110 := Aside0.mk (show (t190 : Int).toNat ≤ x151000_4.length from by omega)
               replace q110 := eq_true q110
               refine norm_ (a' := ?_) ?_ ?_
               rotate_left
               ·simp only [putAll, Act.put, sA_, sZ_, sS_]
                rfl
               refine one_ (i := 10) (N := some 97) (bs 13 2047) rfl rfl (one_of HT_.out (by kernel_rfl)) (by decide) (fun K hK => ?_)
               refine Kd.R_append_rows_step Kd.string w.heap.size (by rfl) (.tmp 87) (.tmp 96) 24 9 (.string ⟨#[]⟩) 16 rfl Try.underlying24 info9 rfl (by decide) (by omega) v188 y187 y193 _ _ _ (fun k_ => nB_ (.slice Ao105 x151000_4.length co105) k_ ∧ nB_ (.slice Ao93 x152000_4.length co93) k_ ∧ nB_ (.slice Ao101 y184.length co101) k_) (fun _ => False) rfl rfl ?aO ?aR (fun _ _ h => h) (fun _ h => h.elim) ?aF (Below.refl _ _) ?aS ?aL ?_
               (case aR => repeat (first | exact (by repeat (first | (with_reducible exact HR196.out) | (with_reducible refine Kd.C_alloc ?_ _) | (with_reducible refine Kd.C_drewN ?_ _) | (with_reducible refine Kd.C_drew ?_) | exact HR196.out)) | (with_reducible refine Kd.C_alloc ?_ _) | (with_reducible refine Kd.C_drewN ?_ _) | (with_reducible refine Kd.C_drew ?_)))
               (case aF => exact (fun k_ hk => ⟨Kd.fresh' (Kd.R_lt (fr_ HO_151000.out)) k_ hk, Kd.fresh' (Kd.R_lt (fr_ HO_152000.out)) k_ hk, Kd.fresh' (Kd.R_lt (fr_ HO186.out)) k_ hk⟩))
               (case aO => exact (rn_ HO189.out (fun _ hk => ⟨hk.2.1, ⟨hk.2.2, hk.1⟩⟩)))
               (case aS => exact (keep_size (w := w) (g := g) (row := none) (by repeat (first | (with_reducible first | exact HK.out | apply KeepBut.set_ | apply keep_drewN | apply keep_drew | apply keep_alloc | refine keep_far ?_ GW148.out _ | refine keep_far ?_ GW149.out _ | refine keep_far ?_ GW150.out _ | refine keep_far ?_ GW151.out _) | exact HK.out))))
               (case aL => have := LMc85.out; omega)
               intro v198 w111 ho hb hg hat
               rw [← Ny197.out] at ho
               replace HO_152000 := Aside0.mk (Kd.R_after (ok := (fun k_ => nB_ (.slice Ao105 x151000_4.length co105) k_ ∧ nB_ (.slice Ao101 y184.length co101) k_)) (rn_ HO_152000.out (fun _ hk => ⟨⟨hk.2.2, hk.1⟩, hk.2.1⟩)) hg hat); replace BK148 := Aside0.mk (blk_grown (g := gb148) (o := .cells #[.slice none 0 0, .int .i64 0, .slice none 0 0] 26 (0, 0)) (fb_ BK148.out) hg (Kd.R_ne HO189.out BK148.out (by decide))); replace BK149 := Aside0.mk (blk_grown (g := gb149) (o := .cells #[.slice none 0 0, .int .i64 0, .slice none 0 0] 26 (0, 0)) (fb_ BK149.out) hg (Kd.R_ne HO189.out BK149.out (by decide))); replace BK150 := Aside0.mk (blk_grown (g := gb150) (o := .cells #[.slice Ao105 x151000_4.length co105, .int .i64 0, .slice Ao101 y184.length co101] 26 (0, 0)) (fb_ BK150.out) hg (Kd.R_ne HO189.out BK150.out (by decide))); replace BK151 := Aside0.mk (blk_grown (g := gb151) (o := .cells #[.slice Ao93 x152000_4.length co93, .int .i64 0, .slice none 0 0] 26 (0, 0)) (fb_ BK151.out) hg (Kd.R_ne HO189.out BK151.out (by decide))); replace HO186 := Aside0.mk (Kd.R_after (ok := (fun k_ => nB_ (.slice Ao105 x151000_4.length co105) k_ ∧ nB_ (.slice Ao93 x152000_4.length co93) k_)) (rn_ HO186.out (fun _ hk => ⟨⟨hk.2.1, hk.2.2⟩, hk.1⟩)) hg hat); replace HB := Aside0.mk (below_weaken (by repeat (first | (with_reducible first | exact HB.out | apply below_alloc | apply pw_below_drewN | apply below_drew1 | refine below_set ?_ (IsS74.ge HI0.out) | refine below_set ?_ GE148.out | refine below_set ?_ GE149.out | refine below_set ?_ GE150.out | refine below_set ?_ GE151.out) | exact HB.out)) HL.out hb); replace HI0 := Aside0.mk (IsS74.grown (by repeat (first | (with_reducible first | exact HI0.out | apply IsS74.alloc | apply IsS74.drewN | apply IsS74.drew | apply IsS74.set_1 | apply IsS74.set_2 | refine IsS74.far ?_ NB0_148.out _ | refine IsS74.far ?_ NB0_149.out _ | refine IsS74.far ?_ NB0_150.out _ | refine IsS74.far ?_ NB0_151.out _) | exact HI0.out)) hg (IsS74.own_ne HI0.out HO189.out (by decide)))
               replace HK := Aside0.mk (KeepBut.trans (by repeat (first | (with_reducible first | exact HK.out | apply KeepBut.set_ | apply keep_drewN | apply keep_drew | apply keep_alloc | refine keep_far ?_ GW148.out _ | refine keep_far ?_ GW149.out _ | refine keep_far ?_ GW150.out _ | refine keep_far ?_ GW151.out _) | exact HK.out)) (KeepBut.of_grown hg g) (Kd.R_base2 HO189.out)); replace HR196 := Aside0.mk ((show Kd.C Kd.string w111 Ao105 y193.length y193 from by rw [Ny193.out]; exact Kd.C_take (m := (t190 : Int).toNat) ((Kd.R_reads' (Kd.R_after (ok := (fun k_ => nB_ (.slice Ao93 x152000_4.length co93) k_ ∧ nB_ (.slice Ao101 y184.length co101) k_)) (rn_ HO_151000.out (fun _ hk => ⟨⟨hk.2.2, hk.1⟩, hk.2.1⟩)) hg hat)).2.2) KL110.out)); replace HO_151000 := Aside0.mk (Kd.R_after (ok := (fun k_ => nB_ (.slice Ao93 x152000_4.length co93) k_ ∧ nB_ (.slice Ao101 y184.length co101) k_)) (rn_ HO_151000.out (fun _ hk => ⟨⟨hk.2.2, hk.1⟩, hk.2.1⟩)) hg hat)
               have HO199 := Aside0.mk (ho)
               clear HO189 ho hb hg hat
               obtain ⟨Ao112, co112, eo112⟩ := Kd.R_slice HO199.out
               (first | subst eo112 | (injection eo112 with f1_ f2_ f3_; have f4_ := f1_.symm; have f5_ := f3_.symm; clear f1_ f2_ f3_; subst f4_; subst f5_))
               refine hK.out _ _ ⟨bc_ BK150.out 0, bc_ BK150.out 1, bc_ BK150.out 2⟩ (fun hHeld => ?_)
               clear hK K
               refine norm_ (a' := ?_) ?_ ?_
               rotate_left
               ·show Act.put _ (some 97) _ = _
                simp only [Act.put, sA_, sZ_, sS_, i64_w, i32_w]
                rfl
               refine pu_ 11 98 HT_ (bs 13 4095) rfl rfl ?_
               refine one_ (i := 12) (N := none) (bs 13 8191) rfl rfl (one_of HT_.out (by kernel_rfl)) (by decide) (fun K hK => ?_)
               have hs113 : w111.cell? ⟨gb151, 2, none⟩ = some (.slice none 0 0) := bc_ BK151.out 2
               have hfs113 := blk_frozen BK151.out 2
               have hns113_0 := NB148_151.out
               have hns113_1 := NB149_151.out
               have hns113_2 := NB150_151.out
               have hms113_0 := NB151_148.out
               have hms113_1 := NB151_149.out
               have hms113_2 := NB151_150.out
               refine skip_ (w1 := ?_) (by rfl) rfl ?_ ?_
               rotate_left
               ·go_simp
                rfl
               refine hK.out _ _ ⟨((cell_far (p := ⟨gb151, _, none⟩) NB150_151.out _).trans (hHeld.1)), ((cell_far (p := ⟨gb151, _, none⟩) NB150_151.out _).trans (hHeld.2.1)), ((cell_far (p := ⟨gb151, _, none⟩) NB150_151.out _).trans (hHeld.2.2))⟩ (fun hHeld => ?_)
               clear hK K
               refine done_ (done_of HT_.out (by kernel_rfl)) ?_
               have hcz114_0 : w111.cell? ⟨gb151, 0, none⟩ = some (.slice Ao93 x152000_4.length co93) := bc_ BK151.out 0; have hcz114_1 : w111.cell? ⟨gb151, 1, none⟩ = some (.int .i64 0) := bc_ BK151.out 1; have hcz114_2 : w111.cell? ⟨gb151, 2, none⟩ = some (.slice none 0 0) := bc_ BK151.out 2; have hfz114_0 := blk_frozen BK151.out 0; have hfz114_1 := blk_frozen BK151.out 1; have hfz114_2 := blk_frozen BK151.out 2
               try go_wp2_with (first | ((with_reducible refine gate_callee (f := 32) rfl ?_); refine goesL_ (some 104) rfl rfl Try.func32 (by kernel_rfl) rfl #[.pointer (some ⟨g, 0, none⟩), .int .i64 (wrap64 ((y197.length : Int) + 1))] rfl ml_ ?_; (with_reducible refine (spec_l1Below.calls g s0_0 t191 t192 (wrap64 ((y197.length : Int) + 1)) t200 t201 t202 w0 _ ?side1 ?side2 A86.out).mono ?_); (case side1 => repeat (first | (with_reducible first | exact HI0.out | apply IsS74.alloc | apply IsS74.drewN | apply IsS74.drew | apply IsS74.set_1 | apply IsS74.set_2 | refine IsS74.far ?_ NB0_148.out _ | refine IsS74.far ?_ NB0_149.out _ | refine IsS74.far ?_ NB0_150.out _ | refine IsS74.far ?_ NB0_151.out _) | exact HI0.out)); (case side2 => repeat (first | (with_reducible first | exact HB.out | apply below_alloc | apply pw_below_drewN | apply below_drew1 | refine below_set ?_ (IsS74.ge HI0.out) | refine below_set ?_ GE148.out | refine below_set ?_ GE149.out | refine below_set ?_ GE150.out | refine below_set ?_ GE151.out) | exact HB.out)); rintro e w115 ⟨rfl, hi, hb, hk⟩; refine ⟨_, rfl, ?_⟩; replace HO_151000 := Aside0.mk (Kd.R_mono (Kd.R_keep (IsS74.apart (show IsS74 w0 _ g s0_0 t191 t192 from by repeat (first | (with_reducible first | exact HI0.out | apply IsS74.alloc | apply IsS74.drewN | apply IsS74.drew | apply IsS74.set_1 | apply IsS74.set_2 | refine IsS74.far ?_ NB0_148.out _ | refine IsS74.far ?_ NB0_149.out _ | refine IsS74.far ?_ NB0_150.out _ | refine IsS74.far ?_ NB0_151.out _) | exact HI0.out)) (rf1_ (rt_ HO_151000.out BK151.out)) (by decide)) hk (fun _ h => h.2)) (fun _ h => h.1)); replace HO_152000 := Aside0.mk (Kd.R_mono (Kd.R_keep (IsS74.apart (show IsS74 w0 _ g s0_0 t191 t192 from by repeat (first | (with_reducible first | exact HI0.out | apply IsS74.alloc | apply IsS74.drewN | apply IsS74.drew | apply IsS74.set_1 | apply IsS74.set_2 | refine IsS74.far ?_ NB0_148.out _ | refine IsS74.far ?_ NB0_149.out _ | refine IsS74.far ?_ NB0_150.out _ | refine IsS74.far ?_ NB0_151.out _) | exact HI0.out)) (rf1_ (rt_ HO_152000.out BK151.out)) (by decide)) hk (fun _ h => h.2)) (fun _ h => h.1)); replace BK148 := Aside0.mk (KeepBut.blk hk (g' := gb148) (o := .cells #[.slice none 0 0, .int .i64 0, .slice none 0 0] 26 (0, 0)) (fa_ BK148.out) NB148_0.out (by simp)); replace BK149 := Aside0.mk (KeepBut.blk hk (g' := gb149) (o := .cells #[.slice none 0 0, .int .i64 0, .slice none 0 0] 26 (0, 0)) (fa_ BK149.out) NB149_0.out (by simp)); replace BK150 := Aside0.mk (KeepBut.blk hk (g' := gb150) (o := .cells #[.slice Ao105 x151000_4.length co105, .int .i64 0, .slice Ao101 y184.length co101] 26 (0, 0)) (fa_ BK150.out) NB150_0.out (by simp)); replace HO186 := Aside0.mk (Kd.R_mono (Kd.R_keep (IsS74.apart (show IsS74 w0 _ g s0_0 t191 t192 from by repeat (first | (with_reducible first | exact HI0.out | apply IsS74.alloc | apply IsS74.drewN | apply IsS74.drew | apply IsS74.set_1 | apply IsS74.set_2 | refine IsS74.far ?_ NB0_148.out _ | refine IsS74.far ?_ NB0_149.out _ | refine IsS74.far ?_ NB0_150.out _ | refine IsS74.far ?_ NB0_151.out _) | exact HI0.out)) (rf1_ (rt_ HO186.out BK151.out)) (by decide)) hk (fun _ h => h.2)) (fun _ h => h.1)); replace HO199 := Aside0.mk (Kd.R_mono (Kd.R_keep (IsS74.apart (show IsS74 w0 _ g s0_0 t191 t192 from by repeat (first | (with_reducible first | exact HI0.out | apply IsS74.alloc | apply IsS74.drewN | apply IsS74.drew | apply IsS74.set_1 | apply IsS74.set_2 | refine IsS74.far ?_ NB0_148.out _ | refine IsS74.far ?_ NB0_149.out _ | refine IsS74.far ?_ NB0_150.out _ | refine IsS74.far ?_ NB0_151.out _) | exact HI0.out)) (rf1_ (rt_ HO199.out BK151.out)) (by decide)) hk (fun _ h => h.2)) (fun _ h => h.1)); replace BK151 := Aside0.mk (KeepBut.blk hk (g' := gb151) (o := .cells #[.slice Ao93 x152000_4.length co93, .int .i64 0, .slice Ao112 y197.length co112] 26 (0, 0)) (by refine rp_ ?_; refine blk_put (cs := #[.slice Ao93 x152000_4.length co93, .int .i64 0, .slice none 0 0]) ?_ 2 _ rfl; refine rp_ ?_; exact BK151.out) NB151_0.out (by simp)); replace HK := Aside0.mk (KeepBut.trans (by repeat (first | (with_reducible first | exact HK.out | apply KeepBut.set_ | apply keep_drewN | apply keep_drew | apply keep_alloc | refine keep_far ?_ GW148.out _ | refine keep_far ?_ GW149.out _ | refine keep_far ?_ GW150.out _ | refine keep_far ?_ GW151.out _) | exact HK.out)) hk (.inl rfl)); replace HB := Aside0.mk (hb); replace HI0 := Aside0.mk (hi); (try clear hb); (try clear hb2); (try clear hk); (try clear hi); have hnb116 := NB150_148.out; have hnc116 := NB148_150.out; have hnb117 := NB150_149.out; have hnc117 := NB149_150.out; have hnb118 := NB150_0.out; have hnc118 := NB0_150.out; have hcz119_0 : w115.cell? ⟨gb150, 0, none⟩ = some (.slice Ao105 x151000_4.length co105) := bc_ BK150.out 0; have hcz119_1 : w115.cell? ⟨gb150, 1, none⟩ = some (.int .i64 0) := bc_ BK150.out 1; have hcz119_2 : w115.cell? ⟨gb150, 2, none⟩ = some (.slice Ao101 y184.length co101) := bc_ BK150.out 2; have hfz119_0 := blk_frozen BK150.out 0; have hfz119_1 := blk_frozen BK150.out 1; have hfz119_2 := blk_frozen BK150.out 2) | ((with_reducible refine gate_callee (f := 32) rfl ?_); refine goesL_ (some 111) rfl rfl Try.func32 (by kernel_rfl) rfl #[.pointer (some ⟨g, 0, none⟩), .int .i64 (wrap64 ((y184.length : Int) + 1))] rfl ml_ ?_; (with_reducible refine (spec_l1Below.calls g s0_0 t201 t202 (wrap64 ((y184.length : Int) + 1)) t203 t204 t205 w0 _ ?side1 ?side2 A87.out).mono ?_); (case side1 => repeat (first | (with_reducible first | exact HI0.out | apply IsS74.alloc | apply IsS74.drewN | apply IsS74.drew | apply IsS74.set_1 | apply IsS74.set_2 | refine IsS74.far ?_ NB0_148.out _ | refine IsS74.far ?_ NB0_149.out _ | refine IsS74.far ?_ NB0_150.out _ | refine IsS74.far ?_ NB0_151.out _) | exact HI0.out)); (case side2 => repeat (first | (with_reducible first | exact HB.out | apply below_alloc | apply pw_below_drewN | apply below_drew1 | refine below_set ?_ (IsS74.ge HI0.out) | refine below_set ?_ GE148.out | refine below_set ?_ GE149.out | refine below_set ?_ GE150.out | refine below_set ?_ GE151.out) | exact HB.out)); rintro e w120 ⟨rfl, hi, hb, hk⟩; refine ⟨_, rfl, ?_⟩; replace HO_151000 := Aside0.mk (Kd.R_mono (Kd.R_keep (IsS74.apart (show IsS74 w0 _ g s0_0 t201 t202 from by repeat (first | (with_reducible first | exact HI0.out | apply IsS74.alloc | apply IsS74.drewN | apply IsS74.drew | apply IsS74.set_1 | apply IsS74.set_2 | refine IsS74.far ?_ NB0_148.out _ | refine IsS74.far ?_ NB0_149.out _ | refine IsS74.far ?_ NB0_150.out _ | refine IsS74.far ?_ NB0_151.out _) | exact HI0.out)) (rf1_ (rt_ HO_151000.out BK150.out)) (by decide)) hk (fun _ h => h.2)) (fun _ h => h.1)); replace HO_152000 := Aside0.mk (Kd.R_mono (Kd.R_keep (IsS74.apart (show IsS74 w0 _ g s0_0 t201 t202 from by repeat (first | (with_reducible first | exact HI0.out | apply IsS74.alloc | apply IsS74.drewN | apply IsS74.drew | apply IsS74.set_1 | apply IsS74.set_2 | refine IsS74.far ?_ NB0_148.out _ | refine IsS74.far ?_ NB0_149.out _ | refine IsS74.far ?_ NB0_150.out _ | refine IsS74.far ?_ NB0_151.out _) | exact HI0.out)) (rf1_ (rt_ HO_152000.out BK150.out)) (by decide)) hk (fun _ h => h.2)) (fun _ h => h.1)); replace BK148 := Aside0.mk (KeepBut.blk hk (g' := gb148) (o := .cells #[.slice none 0 0, .int .i64 0, .slice none 0 0] 26 (0, 0)) (fa_ BK148.out) NB148_0.out (by simp)); replace BK149 := Aside0.mk (KeepBut.blk hk (g' := gb149) (o := .cells #[.slice none 0 0, .int .i64 0, .slice none 0 0] 26 (0, 0)) (fa_ BK149.out) NB149_0.out (by simp)); replace BK151 := Aside0.mk (KeepBut.blk hk (g' := gb151) (o := .cells #[.slice Ao93 x152000_4.length co93, .int .i64 0, .slice Ao112 y197.length co112] 26 (0, 0)) (fa_ BK151.out) NB151_0.out (by simp)); replace HO186 := Aside0.mk (Kd.R_mono (Kd.R_keep (IsS74.apart (show IsS74 w0 _ g s0_0 t201 t202 from by repeat (first | (with_reducible first | exact HI0.out | apply IsS74.alloc | apply IsS74.drewN | apply IsS74.drew | apply IsS74.set_1 | apply IsS74.set_2 | refine IsS74.far ?_ NB0_148.out _ | refine IsS74.far ?_ NB0_149.out _ | refine IsS74.far ?_ NB0_150.out _ | refine IsS74.far ?_ NB0_151.out _) | exact HI0.out)) (rf1_ (rt_ HO186.out BK150.out)) (by decide)) hk (fun _ h => h.2)) (fun _ h => h.1)); replace HO199 := Aside0.mk (Kd.R_mono (Kd.R_keep (IsS74.apart (show IsS74 w0 _ g s0_0 t201 t202 from by repeat (first | (with_reducible first | exact HI0.out | apply IsS74.alloc | apply IsS74.drewN | apply IsS74.drew | apply IsS74.set_1 | apply IsS74.set_2 | refine IsS74.far ?_ NB0_148.out _ | refine IsS74.far ?_ NB0_149.out _ | refine IsS74.far ?_ NB0_150.out _ | refine IsS74.far ?_ NB0_151.out _) | exact HI0.out)) (rf1_ (rt_ HO199.out BK150.out)) (by decide)) hk (fun _ h => h.2)) (fun _ h => h.1)); replace BK150 := Aside0.mk (KeepBut.blk hk (g' := gb150) (o := .cells #[.slice Ao105 x151000_4.length co105, .int .i64 t200, .slice Ao101 y184.length co101] 26 (0, 0)) (by refine rp_ ?_; refine blk_put (cs := #[.slice Ao105 x151000_4.length co105, .int .i64 0, .slice Ao101 y184.length co101]) ?_ 1 _ rfl; refine rp_ ?_; exact BK150.out) NB150_0.out (by simp)); replace HK := Aside0.mk (KeepBut.trans (by repeat (first | (with_reducible first | exact HK.out | apply KeepBut.set_ | apply keep_drewN | apply keep_drew | apply keep_alloc | refine keep_far ?_ GW148.out _ | refine keep_far ?_ GW149.out _ | refine keep_far ?_ GW150.out _ | refine keep_far ?_ GW151.out _) | exact HK.out)) hk (.inl rfl)); replace HB := Aside0.mk (hb); replace HI0 := Aside0.mk (hi); (try clear hb); (try clear hb2); (try clear hk); (try clear hi); have hcz121_0 : w120.cell? ⟨gb151, 0, none⟩ = some (.slice Ao93 x152000_4.length co93) := bc_ BK151.out 0; have hcz121_1 : w120.cell? ⟨gb151, 1, none⟩ = some (.int .i64 0) := bc_ BK151.out 1; have hcz121_2 : w120.cell? ⟨gb151, 2, none⟩ = some (.slice Ao112 y197.length co112) := bc_ BK151.out 2; have hfz121_0 := blk_frozen BK151.out 0; have hfz121_1 := blk_frozen BK151.out 1; have hfz121_2 := blk_frozen BK151.out 2))
               have n0_ : Aside0 (Kd.R Kd.string 9 (w120.setCell ⟨gb151, 1, none⟩ (.int .i64 t203)) w.heap.size (fun k_ => nB_ (.slice Ao93 x152000_4.length co93) k_ ∧ nB_ (.slice Ao101 y184.length co101) k_ ∧ nB_ (.slice Ao112 y197.length co112) k_) (.slice Ao105 x151000_4.length co105) x151000_4) := ⟨by (with_reducible repeat (first | apply Kd.R_alloc | apply Kd.R_drewN | apply Kd.R_drew)); exact Kd.R_mono (Kd.R_far (p := ⟨gb151, 1, none⟩) (rt_ HO_151000.out BK151.out) (fun _ hk => hk.2) (.int .i64 t203)) (fun _ hk => ⟨hk.1.1.1, ⟨hk.1.1.2, hk.1.2⟩⟩)⟩
               have n1_ : Aside0 (Kd.R Kd.string 9 (w120.setCell ⟨gb151, 1, none⟩ (.int .i64 t203)) w.heap.size (fun k_ => nB_ (.slice Ao105 x151000_4.length co105) k_ ∧ nB_ (.slice Ao101 y184.length co101) k_ ∧ nB_ (.slice Ao112 y197.length co112) k_) (.slice Ao93 x152000_4.length co93) x152000_4) := ⟨by (with_reducible repeat (first | apply Kd.R_alloc | apply Kd.R_drewN | apply Kd.R_drew)); exact Kd.R_mono (Kd.R_far (p := ⟨gb151, 1, none⟩) (rt_ HO_152000.out BK151.out) (fun _ hk => hk.2) (.int .i64 t203)) (fun _ hk => ⟨hk.1.1.1, ⟨hk.1.1.2, hk.1.2⟩⟩)⟩
               have n2_ : Aside0 (Kd.R Kd.string 9 (w120.setCell ⟨gb151, 1, none⟩ (.int .i64 t203)) w.heap.size (fun k_ => nB_ (.slice Ao105 x151000_4.length co105) k_ ∧ nB_ (.slice Ao93 x152000_4.length co93) k_ ∧ nB_ (.slice Ao112 y197.length co112) k_) (.slice Ao101 y184.length co101) y184) := ⟨by (with_reducible repeat (first | apply Kd.R_alloc | apply Kd.R_drewN | apply Kd.R_drew)); exact Kd.R_mono (Kd.R_far (p := ⟨gb151, 1, none⟩) (rt_ HO186.out BK151.out) (fun _ hk => hk.2) (.int .i64 t203)) (fun _ hk => ⟨hk.1.1.1, ⟨hk.1.1.2, hk.1.2⟩⟩)⟩
               have n3_ : Aside0 (Kd.R Kd.string 9 (w120.setCell ⟨gb151, 1, none⟩ (.int .i64 t203)) w.heap.size (fun k_ => nB_ (.slice Ao105 x151000_4.length co105) k_ ∧ nB_ (.slice Ao93 x152000_4.length co93) k_ ∧ nB_ (.slice Ao101 y184.length co101) k_) (.slice Ao112 y197.length co112) y197) := ⟨by (with_reducible repeat (first | apply Kd.R_alloc | apply Kd.R_drewN | apply Kd.R_drew)); exact Kd.R_mono (Kd.R_far (p := ⟨gb151, 1, none⟩) (rt_ HO199.out BK151.out) (fun _ hk => hk.2) (.int .i64 t203)) (fun _ hk => ⟨hk.1.1, ⟨hk.1.2.1, hk.1.2.2⟩⟩)⟩
               have n4_ : Aside0 ((w120.setCell ⟨gb151, 1, none⟩ (.int .i64 t203)).heap[gb148]? = some (.cells #[.slice none 0 0, .int .i64 0, .slice none 0 0] 26 (0, 0))) := ⟨by refine rp_ ?_; refine blk_far ?_ NB148_151.out _; refine rp_ ?_; exact BK148.out⟩
               have n5_ : Aside0 ((w120.setCell ⟨gb151, 1, none⟩ (.int .i64 t203)).heap[gb149]? = some (.cells #[.slice none 0 0, .int .i64 0, .slice none 0 0] 26 (0, 0))) := ⟨by refine rp_ ?_; refine blk_far ?_ NB149_151.out _; refine rp_ ?_; exact BK149.out⟩
               have n6_ : Aside0 ((w120.setCell ⟨gb151, 1, none⟩ (.int .i64 t203)).heap[gb150]? = some (.cells #[.slice Ao105 x151000_4.length co105, .int .i64 t200, .slice Ao101 y184.length co101] 26 (0, 0))) := ⟨by refine rp_ ?_; refine blk_far ?_ NB150_151.out _; refine rp_ ?_; exact BK150.out⟩
               have n7_ : Aside0 ((w120.setCell ⟨gb151, 1, none⟩ (.int .i64 t203)).heap[gb151]? = some (.cells #[.slice Ao93 x152000_4.length co93, .int .i64 t203, .slice Ao112 y197.length co112] 26 (0, 0))) := ⟨by refine rp_ ?_; refine blk_put (cs := #[.slice Ao93 x152000_4.length co93, .int .i64 0, .slice Ao112 y197.length co112]) ?_ 1 _ rfl; refine rp_ ?_; exact BK151.out⟩
               have n8_ : Aside0 (IsS74 w0 (w120.setCell ⟨gb151, 1, none⟩ (.int .i64 t203)) g s0_0 t204 t205) := ⟨by repeat (first | (with_reducible first | exact HI0.out | apply IsS74.alloc | apply IsS74.drewN | apply IsS74.drew | apply IsS74.set_1 | apply IsS74.set_2 | refine IsS74.far ?_ NB0_148.out _ | refine IsS74.far ?_ NB0_149.out _ | refine IsS74.far ?_ NB0_150.out _ | refine IsS74.far ?_ NB0_151.out _) | exact HI0.out)⟩
               have n9_ : Aside0 (KeepBut w (w120.setCell ⟨gb151, 1, none⟩ (.int .i64 t203)) g none) := ⟨by repeat (first | (with_reducible first | exact HK.out | apply KeepBut.set_ | apply keep_drewN | apply keep_drew | apply keep_alloc | refine keep_far ?_ GW148.out _ | refine keep_far ?_ GW149.out _ | refine keep_far ?_ GW150.out _ | refine keep_far ?_ GW151.out _) | exact HK.out)⟩
               have n10_ : Aside0 (Below w0.heap.size w0 (w120.setCell ⟨gb151, 1, none⟩ (.int .i64 t203))) := ⟨by repeat (first | (with_reducible first | exact HB.out | apply below_alloc | apply pw_below_drewN | apply below_drew1 | refine below_set ?_ (IsS74.ge HI0.out) | refine below_set ?_ GE148.out | refine below_set ?_ GE149.out | refine below_set ?_ GE150.out | refine below_set ?_ GE151.out) | exact HB.out)⟩
               (try clear HO_151000); (try clear HO_152000); (try clear HO186); (try clear HO199); (try clear BK148); (try clear BK149); (try clear BK150); (try clear BK151); (try clear HI0); (try clear HK); (try clear HB)
               generalize (w120.setCell ⟨gb151, 1, none⟩ (.int .i64 t203)) = w122 at n0_ n1_ n2_ n3_ n4_ n5_ n6_ n7_ n8_ n9_ n10_ ⊢
               have HO_151000 := n0_
               have HO_152000 := n1_
               have HO186 := n2_
               have HO199 := n3_
               have BK148 := n4_
               have BK149 := n5_
               have BK150 := n6_
               have BK151 := n7_
               have HI0 := n8_
               have HK := n9_
               have HB := n10_
               clear n0_ n1_ n2_ n3_ n4_ n5_ n6_ n7_ n8_ n9_ n10_; replace HO_151000 := Aside0.mk (Kd.R_drew HO_151000.out); replace HO_152000 := Aside0.mk (Kd.R_drew HO_152000.out); replace HO186 := Aside0.mk (Kd.R_drew HO186.out); replace HO199 := Aside0.mk (Kd.R_drew HO199.out); replace BK148 := Aside0.mk (blk_drew BK148.out); replace BK149 := Aside0.mk (blk_drew BK149.out); replace BK150 := Aside0.mk (blk_drew BK150.out); replace BK151 := Aside0.mk (blk_drew BK151.out); replace HI0 := Aside0.mk (IsS74.drew HI0.out); replace HK := Aside0.mk (keep_drew HK.out); replace HB := Aside0.mk (below_drew1 HB.out)
               refine start_ (n := 4) (S := fun w' => w'.cell? ⟨gb150, 0, none⟩ = some (.slice Ao105 x151000_4.length co105) ∧ w'.cell? ⟨gb150, 1, none⟩ = some (.int .i64 t200) ∧ w'.cell? ⟨gb150, 2, none⟩ = some (.slice Ao101 y184.length co101) ∧ w'.cell? ⟨gb151, 0, none⟩ = some (.slice Ao93 x152000_4.length co93) ∧ w'.cell? ⟨gb151, 1, none⟩ = some (.int .i64 t203) ∧ w'.cell? ⟨gb151, 2, none⟩ = some (.slice Ao112 y197.length co112)) (ds := []) #[false, false, false, false] (by kernel_rfl) rfl rfl ⟨bc_ BK150.out 0, bc_ BK150.out 1, bc_ BK150.out 2, bc_ BK151.out 0, bc_ BK151.out 1, bc_ BK151.out 2⟩ (fun hHeld => ?_)
               generalize w122.drew = w123 at HO_151000 HO_152000 HO186 HO199 BK148 BK149 BK150 BK151 HI0 HK HB hHeld ⊢
               refine take_ (i := 0) (N := some 113) (v := ?_) (a' := ?_) #[true, false, false, false] rfl rfl (by kernel_rfl) (fun _ _ _ h => h) (Or.inl ⟨by rfl, ?_⟩) hHeld ?_ ?_
               rotate_left
               ·rintro w' ⟨s0, s1, s2, s3, s4, s5⟩
                go_simp
                with_reducible rfl
               rotate_left
               ·simp only [Act.put, sA_, sZ_, sS_, i64_w, i32_w]
                rfl
               refine take_ (i := 1) (N := some 114) (v := ?_) (a' := ?_) #[true, true, false, false] rfl rfl (by kernel_rfl) (fun _ _ _ h => h) (Or.inl ⟨by rfl, ?_⟩) hHeld ?_ ?_
               rotate_left
               ·rintro w' ⟨s0, s1, s2, s3, s4, s5⟩
                go_simp
                with_reducible rfl
               rotate_left
               ·simp only [Act.put, sA_, sZ_, sS_, i64_w, i32_w]
                rfl
               refine one_ (i := 2) (N := none) #[true, true, true, false] rfl rfl (by kernel_rfl) (by decide) (fun K hK => ?_)
               have hs124 : w123.cell? ⟨gb148, 0, none⟩ = some (.slice none 0 0) := bc_ BK148.out 0
               have hfs124 := blk_frozen BK148.out 0
               have hns124_1 := NB149_148.out
               have hns124_2 := NB150_148.out
               have hns124_3 := NB151_148.out
               have hms124_1 := NB148_149.out
               have hms124_2 := NB148_150.out
               have hms124_3 := NB148_151.out
               have hs125 : w123.cell? ⟨gb148, 1, none⟩ = some (.int .i64 0) := bc_ BK148.out 1
               have hfs125 := blk_frozen BK148.out 1
               have hns125_1 := NB149_148.out
               have hns125_2 := NB150_148.out
               have hns125_3 := NB151_148.out
               have hms125_1 := NB148_149.out
               have hms125_2 := NB148_150.out
               have hms125_3 := NB148_151.out
               have hs126 : w123.cell? ⟨gb148, 2, none⟩ = some (.slice none 0 0) := bc_ BK148.out 2
               have hfs126 := blk_frozen BK148.out 2
               have hns126_1 := NB149_148.out
               have hns126_2 := NB150_148.out
               have hns126_3 := NB151_148.out
               have hms126_1 := NB148_149.out
               have hms126_2 := NB148_150.out
               have hms126_3 := NB148_151.out
               refine skip_ (w1 := ?_) (by rfl) rfl ?_ ?_
               rotate_left
               ·go_simp
                rfl
               refine hK.out _ _ ⟨((cell_far (p := ⟨gb148, _, none⟩) NB150_148.out _).trans (((cell_far (p := ⟨gb148, _, none⟩) NB150_148.out _).trans (((cell_far (p := ⟨gb148, _, none⟩) NB150_148.out _).trans (hHeld.1)))))), ((cell_far (p := ⟨gb148, _, none⟩) NB150_148.out _).trans (((cell_far (p := ⟨gb148, _, none⟩) NB150_148.out _).trans (((cell_far (p := ⟨gb148, _, none⟩) NB150_148.out _).trans (hHeld.2.1)))))), ((cell_far (p := ⟨gb148, _, none⟩) NB150_148.out _).trans (((cell_far (p := ⟨gb148, _, none⟩) NB150_148.out _).trans (((cell_far (p := ⟨gb148, _, none⟩) NB150_148.out _).trans (hHeld.2.2.1)))))), ((cell_far (p := ⟨gb148, _, none⟩) NB151_148.out _).trans (((cell_far (p := ⟨gb148, _, none⟩) NB151_148.out _).trans (((cell_far (p := ⟨gb148, _, none⟩) NB151_148.out _).trans (hHeld.2.2.2.1)))))), ((cell_far (p := ⟨gb148, _, none⟩) NB151_148.out _).trans (((cell_far (p := ⟨gb148, _, none⟩) NB151_148.out _).trans (((cell_far (p := ⟨gb148, _, none⟩) NB151_148.out _).trans (hHeld.2.2.2.2.1)))))), ((cell_far (p := ⟨gb148, _, none⟩) NB151_148.out _).trans (((cell_far (p := ⟨gb148, _, none⟩) NB151_148.out _).trans (((cell_far (p := ⟨gb148, _, none⟩) NB151_148.out _).trans (hHeld.2.2.2.2.2))))))⟩ (fun hHeld => ?_)
               clear hK K
               refine one_ (i := 3) (N := none) #[true, true, true, true] rfl rfl (by kernel_rfl) (by decide) (fun K hK => ?_)
               have hs127 : w123.cell? ⟨gb149, 0, none⟩ = some (.slice none 0 0) := bc_ BK149.out 0
               have hfs127 := blk_frozen BK149.out 0
               have hns127_0 := NB148_149.out
               have hns127_2 := NB150_149.out
               have hns127_3 := NB151_149.out
               have hms127_0 := NB149_148.out
               have hms127_2 := NB149_150.out
               have hms127_3 := NB149_151.out
               have hs128 : w123.cell? ⟨gb149, 1, none⟩ = some (.int .i64 0) := bc_ BK149.out 1
               have hfs128 := blk_frozen BK149.out 1
               have hns128_0 := NB148_149.out
               have hns128_2 := NB150_149.out
               have hns128_3 := NB151_149.out
               have hms128_0 := NB149_148.out
               have hms128_2 := NB149_150.out
               have hms128_3 := NB149_151.out
               have hs129 : w123.cell? ⟨gb149, 2, none⟩ = some (.slice none 0 0) := bc_ BK149.out 2
               have hfs129 := blk_frozen BK149.out 2
               have hns129_0 := NB148_149.out
               have hns129_2 := NB150_149.out
               have hns129_3 := NB151_149.out
               have hms129_0 := NB149_148.out
               have hms129_2 := NB149_150.out
               have hms129_3 := NB149_151.out
               refine skip_ (w1 := ?_) (by rfl) rfl ?_ ?_
               rotate_left
               ·go_simp
                rfl
               refine hK.out _ _ ⟨((cell_far (p := ⟨gb149, _, none⟩) NB150_149.out _).trans (((cell_far (p := ⟨gb149, _, none⟩) NB150_149.out _).trans (((cell_far (p := ⟨gb149, _, none⟩) NB150_149.out _).trans (hHeld.1)))))), ((cell_far (p := ⟨gb149, _, none⟩) NB150_149.out _).trans (((cell_far (p := ⟨gb149, _, none⟩) NB150_149.out _).trans (((cell_far (p := ⟨gb149, _, none⟩) NB150_149.out _).trans (hHeld.2.1)))))), ((cell_far (p := ⟨gb149, _, none⟩) NB150_149.out _).trans (((cell_far (p := ⟨gb149, _, none⟩) NB150_149.out _).trans (((cell_far (p := ⟨gb149, _, none⟩) NB150_149.out _).trans (hHeld.2.2.1)))))), ((cell_far (p := ⟨gb149, _, none⟩) NB151_149.out _).trans (((cell_far (p := ⟨gb149, _, none⟩) NB151_149.out _).trans (((cell_far (p := ⟨gb149, _, none⟩) NB151_149.out _).trans (hHeld.2.2.2.1)))))), ((cell_far (p := ⟨gb149, _, none⟩) NB151_149.out _).trans (((cell_far (p := ⟨gb149, _, none⟩) NB151_149.out _).trans (((cell_far (p := ⟨gb149, _, none⟩) NB151_149.out _).trans (hHeld.2.2.2.2.1)))))), ((cell_far (p := ⟨gb149, _, none⟩) NB151_149.out _).trans (((cell_far (p := ⟨gb149, _, none⟩) NB151_149.out _).trans (((cell_far (p := ⟨gb149, _, none⟩) NB151_149.out _).trans (hHeld.2.2.2.2.2))))))⟩ (fun hHeld => ?_)
               clear hK K
               refine done_ (by kernel_rfl) ?_
               try go_wp2
               refine bodyPost_ret (results_cc rfl _ _ gb148 gb149 26 26 #[.slice Ao105 x151000_4.length co105, .int .i64 t200, .slice Ao101 y184.length co101] #[.slice Ao93 x152000_4.length co93, .int .i64 t203, .slice Ao112 y197.length co112] (0, 0) (0, 0) _ _ rfl (by refine rp_ ?_; refine blk_far ?_ NB148_149.out _; refine rp_ ?_; refine blk_far ?_ NB148_149.out _; refine rp_ ?_; refine blk_far ?_ NB148_149.out _; refine rp_ ?_; refine blk_put (cs := #[.slice Ao105 x151000_4.length co105, .int .i64 t200, .slice none 0 0]) ?_ 2 _ rfl; refine rp_ ?_; refine blk_put (cs := #[.slice Ao105 x151000_4.length co105, .int .i64 0, .slice none 0 0]) ?_ 1 _ rfl; refine rp_ ?_; refine blk_put (cs := #[.slice none 0 0, .int .i64 0, .slice none 0 0]) ?_ 0 _ rfl; refine rp_ ?_; exact BK148.out) Try.underlying26 rfl (by kernel_rfl) rfl (by refine rp_ ?_; refine blk_put (cs := #[.slice Ao93 x152000_4.length co93, .int .i64 t203, .slice none 0 0]) ?_ 2 _ rfl; refine rp_ ?_; refine blk_put (cs := #[.slice Ao93 x152000_4.length co93, .int .i64 0, .slice none 0 0]) ?_ 1 _ rfl; refine rp_ ?_; refine blk_put (cs := #[.slice none 0 0, .int .i64 0, .slice none 0 0]) ?_ 0 _ rfl; refine rp_ ?_; refine blk_far ?_ NB149_148.out _; refine rp_ ?_; refine blk_far ?_ NB149_148.out _; refine rp_ ?_; refine blk_far ?_ NB149_148.out _; refine rp_ ?_; exact BK149.out) Try.underlying26 rfl (by kernel_rfl)) rfl ?_
               exact ⟨_, _, _, _, by first | rfl | (simp [errW_none, errW_some] <;> rfl) | (simp [*, errW_none, errW_some] <;> rfl), by (with_reducible repeat (first | apply Kd.R_alloc | apply Kd.R_drewN | apply Kd.R_drew)); exact Kd.R_mono (Kd.R_far (p := ⟨gb149, 2, none⟩) (Kd.R_far (p := ⟨gb149, 1, none⟩) (Kd.R_far (p := ⟨gb149, 0, none⟩) (Kd.R_far (p := ⟨gb148, 2, none⟩) (Kd.R_far (p := ⟨gb148, 1, none⟩) (Kd.R_far (p := ⟨gb148, 0, none⟩) (rt_ (rt_ HO_151000.out BK148.out) BK149.out) (fun _ hk => hk.1.2) (.slice Ao105 x151000_4.length co105)) (fun _ hk => hk.1.2) (.int .i64 t200)) (fun _ hk => hk.1.2) (.slice Ao101 y184.length co101)) (fun _ hk => hk.2) (.slice Ao93 x152000_4.length co93)) (fun _ hk => hk.2) (.int .i64 t203)) (fun _ hk => hk.2) (.slice Ao112 y197.length co112)) (fun _ hk => ⟨hk.1.1.2.1, ⟨hk.1.1.1, hk.1.1.2.2⟩⟩), by (with_reducible repeat (first | apply Kd.R_alloc | apply Kd.R_drewN | apply Kd.R_drew)); exact Kd.R_mono (Kd.R_far (p := ⟨gb149, 2, none⟩) (Kd.R_far (p := ⟨gb149, 1, none⟩) (Kd.R_far (p := ⟨gb149, 0, none⟩) (Kd.R_far (p := ⟨gb148, 2, none⟩) (Kd.R_far (p := ⟨gb148, 1, none⟩) (Kd.R_far (p := ⟨gb148, 0, none⟩) (rt_ (rt_ HO186.out BK148.out) BK149.out) (fun _ hk => hk.1.2) (.slice Ao105 x151000_4.length co105)) (fun _ hk => hk.1.2) (.int .i64 t200)) (fun _ hk => hk.1.2) (.slice Ao101 y184.length co101)) (fun _ hk => hk.2) (.slice Ao93 x152000_4.length co93)) (fun _ hk => hk.2) (.int .i64 t203)) (fun _ hk => hk.2) (.slice Ao112 y197.length co112)) (fun _ hk => ⟨hk.1.1.1, ⟨hk.1.1.2.1, hk.1.1.2.2⟩⟩), by (with_reducible repeat (first | apply Kd.R_alloc | apply Kd.R_drewN | apply Kd.R_drew)); exact Kd.R_mono (Kd.R_far (p := ⟨gb149, 2, none⟩) (Kd.R_far (p := ⟨gb149, 1, none⟩) (Kd.R_far (p := ⟨gb149, 0, none⟩) (Kd.R_far (p := ⟨gb148, 2, none⟩) (Kd.R_far (p := ⟨gb148, 1, none⟩) (Kd.R_far (p := ⟨gb148, 0, none⟩) (rt_ (rt_ HO_152000.out BK148.out) BK149.out) (fun _ hk => hk.1.2) (.slice Ao105 x151000_4.length co105)) (fun _ hk => hk.1.2) (.int .i64 t200)) (fun _ hk => hk.1.2) (.slice Ao101 y184.length co101)) (fun _ hk => hk.2) (.slice Ao93 x152000_4.length co93)) (fun _ hk => hk.2) (.int .i64 t203)) (fun _ hk => hk.2) (.slice Ao112 y197.length co112)) (fun _ hk => ⟨hk.1.1.1, ⟨hk.1.1.2.1, hk.1.1.2.2⟩⟩), by (with_reducible repeat (first | apply Kd.R_alloc | apply Kd.R_drewN | apply Kd.R_drew)); exact Kd.R_mono (Kd.R_far (p := ⟨gb149, 2, none⟩) (Kd.R_far (p := ⟨gb149, 1, none⟩) (Kd.R_far (p := ⟨gb149, 0, none⟩) (Kd.R_far (p := ⟨gb148, 2, none⟩) (Kd.R_far (p := ⟨gb148, 1, none⟩) (Kd.R_far (p := ⟨gb148, 0, none⟩) (rt_ (rt_ HO199.out BK148.out) BK149.out) (fun _ hk => hk.1.2) (.slice Ao105 x151000_4.length co105)) (fun _ hk => hk.1.2) (.int .i64 t200)) (fun _ hk => hk.1.2) (.slice Ao101 y184.length co101)) (fun _ hk => hk.2) (.slice Ao93 x152000_4.length co93)) (fun _ hk => hk.2) (.int .i64 t203)) (fun _ hk => hk.2) (.slice Ao112 y197.length co112)) (fun _ hk => ⟨hk.1.1.1, ⟨hk.1.1.2.2, hk.1.1.2.1⟩⟩), by repeat (first | (with_reducible first | exact HI0.out | apply IsS74.alloc | apply IsS74.drewN | apply IsS74.drew | apply IsS74.set_1 | apply IsS74.set_2 | refine IsS74.far ?_ NB0_148.out _ | refine IsS74.far ?_ NB0_149.out _ | refine IsS74.far ?_ NB0_150.out _ | refine IsS74.far ?_ NB0_151.out _) | exact HI0.out), by repeat (first | (with_reducible first | exact HB.out | apply below_alloc | apply pw_below_drewN | apply below_drew1 | refine below_set ?_ (IsS74.ge HI0.out) | refine below_set ?_ GE148.out | refine below_set ?_ GE149.out | refine below_set ?_ GE150.out | refine below_set ?_ GE151.out) | exact HB.out), by repeat (first | (with_reducible first | exact HK.out | apply KeepBut.set_ | apply keep_drewN | apply keep_drew | apply keep_alloc | refine keep_far ?_ GW148.out _ | refine keep_far ?_ GW149.out _ | refine keep_far ?_ GW150.out _ | refine keep_far ?_ GW151.out _) | exact HK.out)⟩
              ·rw [if_neg c85] at H
               exact absurd H (by simp)
             ·rw [if_neg c84] at H
              exact absurd H (by simp)
            ·rw [if_neg c83] at H
             exact absurd H (by simp)
           ·rw [if_neg c81] at H
            exact absurd H (by simp)
          ·rw [if_neg c80] at H
           exact absurd H (by simp)
         ·rw [if_neg c79] at H
          exact absurd H (by simp)

end Go.Proofs.Ytmglilikmbbidaa.PFnParties
