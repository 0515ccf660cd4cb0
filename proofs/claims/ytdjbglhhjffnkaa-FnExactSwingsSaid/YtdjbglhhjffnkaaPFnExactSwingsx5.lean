/- The Lean side of Go functions of this seat: what each answers, and that its run comes to that answer; written by a program of this work. -/
import Derived.Test.YtdjbglhhjffnkaaPFnExactSwingsx0
import Derived.Test.YtdjbglhhjffnkaaPFnExactSwingsx4
namespace Go.Proofs.Ytdjbglhhjffnkaa.PFnExactSwings
open Go.RowKit Go.Proofs.YtdjbglhhjffnkaaW.PrintWords Go.Proofs.YtdjbglhhjffnkaaW.PrintLast Go.Proofs.YtdjbglhhjffnkaaW.PrintMore
attribute [local go_sem] max2_int min2_int max_two min_two max_three min_three max_four min_four   -- for this text's walks alone
set_option linter.unusedVariables false
set_option linter.unusedSimpArgs false

/-! ### spec_Swings: function 24 -/
mutual
def spec_Swings.l0 : Nat → List (S38) → List Int → List Int → Int → Option ((List (S38)))
 | 0, _, _, _, _ => none
 | k + 1, x3, x4, x5, x6 => if x6 < (x5.length : Int) then (if 0 ≤ x6 then ((some (([rd x5 x6] : List Int) : List Int)).bind fun y212 => (if x4.length + y212.length < 17592186044416 then (spec_Swings.l1 k x3 (x4 ++ y212) x5 x6) else (none))) else (none)) else (spec_Swings.l2 k x3 x4 0)
def spec_Swings.l1 : Nat → List (S38) → List Int → List Int → Int → Option ((List (S38)))
 | 0, _, _, _, _ => none
 | k + 1, x3, x4, x5, x6 => if (x4.length : Int) ≥ 3 then (if 0 ≤ (wrap64 ((x4.length : Int) - 1)) then (if (wrap64 ((x4.length : Int) - 1)) < (x4.length : Int) then (if 0 ≤ (wrap64 ((x4.length : Int) - 2)) then (if (wrap64 ((x4.length : Int) - 2)) < (x4.length : Int) then ((spec_l3Size.f (wrap64 ((rd x4 (wrap64 ((x4.length : Int) - 1))) - (rd x4 (wrap64 ((x4.length : Int) - 2)))))).bind fun t220 => (if 0 ≤ (wrap64 ((x4.length : Int) - 3)) then (if (wrap64 ((x4.length : Int) - 3)) < (x4.length : Int) then ((spec_l3Size.f (wrap64 ((rd x4 (wrap64 ((x4.length : Int) - 2))) - (rd x4 (wrap64 ((x4.length : Int) - 3)))))).bind fun t223 => (if t220 < t223 then (spec_Swings.l0 k x3 x4 x5 (wrap64 (x6 + 1))) else (if (x4.length : Int) = 3 then ((some (([(⟨t223, true⟩ : S38)] : List (S38)) : List (S38))).bind fun y224 => (if x3.length + y224.length < 8796093022208 then ((some (([] : List Int) : List Int)).bind fun y230 => (if 1 ≤ (x4.length : Int) then ((some (x4.drop 1 : List Int)).bind fun y233 => (if y230.length + y233.length < 17592186044416 then (spec_Swings.l1 k (x3 ++ y224) (y230 ++ y233) x5 x6) else (none))) else (none))) else (none))) else ((some (([(⟨t223, false⟩ : S38)] : List (S38)) : List (S38))).bind fun y240 => (if x3.length + y240.length < 8796093022208 then ((some (([] : List Int) : List Int)).bind fun y246 => (if (wrap64 ((x4.length : Int) - 3)) ≤ (x4.length : Int) then ((some (x4.take ((wrap64 ((x4.length : Int) - 3)) : Int).toNat : List Int)).bind fun y249 => (if y246.length + y249.length < 17592186044416 then ((some (y246 ++ y249 : List Int)).bind fun y253 => ((some (([rd x4 (wrap64 ((x4.length : Int) - 1))] : List Int) : List Int)).bind fun y257 => (if y253.length + y257.length < 17592186044416 then (spec_Swings.l1 k (x3 ++ y240) (y253 ++ y257) x5 x6) else (none)))) else (none))) else (none))) else (none)))))) else (none)) else (none))) else (none)) else (none)) else (none)) else (none)) else (spec_Swings.l0 k x3 x4 x5 (wrap64 (x6 + 1)))
def spec_Swings.l2 : Nat → List (S38) → List Int → Int → Option ((List (S38)))
 | 0, _, _, _ => none
 | k + 1, x3, x4, x10 => if (wrap64 (x10 + 1)) < (x4.length : Int) then (if 0 ≤ (wrap64 (x10 + 1)) then (if 0 ≤ x10 then (if x10 < (x4.length : Int) then ((spec_l3Size.f (wrap64 ((rd x4 (wrap64 (x10 + 1))) - (rd x4 x10)))).bind fun t265 => ((some (([(⟨t265, true⟩ : S38)] : List (S38)) : List (S38))).bind fun y266 => (if x3.length + y266.length < 8796093022208 then (spec_Swings.l2 k (x3 ++ y266) x4 (wrap64 (x10 + 1))) else (none)))) else (none)) else (none)) else (none)) else (some x3)
end
def spec_Swings.f (k : Nat) (l0 : List Int) : Option ((List (S38))) := (spec_Turns.f k l0).bind fun t208 => (spec_Swings.l0 k (([] : List (S38))) (([] : List Int)) t208 0)
theorem spec_Swings.mono_l : ∀ k, (∀ y0 y1 y2 y3, LeO (spec_Swings.l0 k y0 y1 y2 y3) (spec_Swings.l0 (k + 1) y0 y1 y2 y3)) ∧ (∀ y0 y1 y2 y3, LeO (spec_Swings.l1 k y0 y1 y2 y3) (spec_Swings.l1 (k + 1) y0 y1 y2 y3)) ∧ (∀ y0 y1 y2, LeO (spec_Swings.l2 k y0 y1 y2) (spec_Swings.l2 (k + 1) y0 y1 y2))
 | 0 => ⟨fun _ _ _ _ r h => by simp [spec_Swings.l0] at h, fun _ _ _ _ r h => by simp [spec_Swings.l1] at h, fun _ _ _ r h => by simp [spec_Swings.l2] at h⟩
 | k + 1 => by
  obtain ⟨ih0, ih1, ih2⟩ := spec_Swings.mono_l k
  refine ⟨?_, ?_, ?_⟩
  ·intro y0 y1 y2 y3
   unfold spec_Swings.l0
   repeat' first
   | (with_reducible exact ih0 _ _ _ _)
   | (with_reducible exact ih1 _ _ _ _)
   | (with_reducible exact ih2 _ _ _)
   | (with_reducible exact spec_Turns.mono _ _)
   | (with_reducible exact LeO.refl _)
   | (with_reducible exact LeO.none _)
   | (with_reducible refine LeO.ite ?_ ?_)
   | (with_reducible refine LeO.bind ?_ (fun _ => ?_))
   | exact ih0 _ _ _ _
   | exact ih1 _ _ _ _
   | exact ih2 _ _ _
   | exact spec_Turns.mono _ _
   | exact LeO.none _
   | refine LeO.ite ?_ ?_
   | refine LeO.bind ?_ (fun _ => ?_)
  ·intro y0 y1 y2 y3
   unfold spec_Swings.l1
   repeat' first
   | (with_reducible exact ih0 _ _ _ _)
   | (with_reducible exact ih1 _ _ _ _)
   | (with_reducible exact ih2 _ _ _)
   | (with_reducible exact spec_Turns.mono _ _)
   | (with_reducible exact LeO.refl _)
   | (with_reducible exact LeO.none _)
   | (with_reducible refine LeO.ite ?_ ?_)
   | (with_reducible refine LeO.bind ?_ (fun _ => ?_))
   | exact ih0 _ _ _ _
   | exact ih1 _ _ _ _
   | exact ih2 _ _ _
   | exact spec_Turns.mono _ _
   | exact LeO.none _
   | refine LeO.ite ?_ ?_
   | refine LeO.bind ?_ (fun _ => ?_)
  ·intro y0 y1 y2
   unfold spec_Swings.l2
   repeat' first
   | (with_reducible exact ih0 _ _ _ _)
   | (with_reducible exact ih1 _ _ _ _)
   | (with_reducible exact ih2 _ _ _)
   | (with_reducible exact spec_Turns.mono _ _)
   | (with_reducible exact LeO.refl _)
   | (with_reducible exact LeO.none _)
   | (with_reducible refine LeO.ite ?_ ?_)
   | (with_reducible refine LeO.bind ?_ (fun _ => ?_))
   | exact ih0 _ _ _ _
   | exact ih1 _ _ _ _
   | exact ih2 _ _ _
   | exact spec_Turns.mono _ _
   | exact LeO.none _
   | refine LeO.ite ?_ ?_
   | refine LeO.bind ?_ (fun _ => ?_)
theorem spec_Swings.mono : ∀ a0 k, LeO (spec_Swings.f k a0) (spec_Swings.f (k + 1) a0) := by
 intro a0 k
 obtain ⟨ih0, ih1, ih2⟩ := spec_Swings.mono_l k
 unfold spec_Swings.f
 repeat' first
   | (with_reducible exact ih0 _ _ _ _)
   | (with_reducible exact ih1 _ _ _ _)
   | (with_reducible exact ih2 _ _ _)
   | (with_reducible exact spec_Turns.mono _ _)
   | (with_reducible exact LeO.refl _)
   | (with_reducible exact LeO.none _)
   | (with_reducible refine LeO.ite ?_ ?_)
   | (with_reducible refine LeO.bind ?_ (fun _ => ?_))
   | exact ih0 _ _ _ _
   | exact ih1 _ _ _ _
   | exact ih2 _ _ _
   | exact spec_Turns.mono _ _
   | exact LeO.none _
   | refine LeO.ite ?_ ?_
   | refine LeO.bind ?_ (fun _ => ?_)
def spec_Swings.T10 : Bool × List (List Nat × List Nat) := (true, [([], []), ([], []), ([1], [1]), ([0, 2], [0, 2]), ([3], [3]), ([], []), ([], []), ([6], [6]), ([5, 7], [5, 7]), ([8], [8]), ([4, 9], [4, 9]), ([10], [10]), ([], []), ([], []), ([13], [13]), ([12, 14], [12, 14]), ([15], [15]), ([], []), ([], []), ([18], [18]), ([17, 19], [17, 19]), ([20], [20]), ([16, 21], [16, 21]), ([22, 11], [22]), ([11, 23, 0, 1, 2, 3, 4, 5, 6, 7, 8, 9, 10, 11], [11]), ([23, 24, 0, 1, 2, 3, 4, 5, 6, 7, 8, 9, 10, 11, 12, 13, 14, 15, 16, 17, 18, 19, 20, 21, 22, 23, 24], [23])])
def spec_Swings.B10 : List Nat := [0, 0, 2, 7, 15, 0, 0, 64, 224, 480, 1023, 2047, 0, 0, 8192, 28672, 61440, 0, 0, 262144, 917504, 1966080, 4190208, 8388607, 16777215, 33554431]
theorem spec_Swings.tab10 : rtab .any (opsOf Try.f24 10) = spec_Swings.T10 := by kernel_rfl
theorem spec_Swings.bits10 : waitsOk spec_Swings.T10.2 spec_Swings.B10 = true := by kernel_rfl
def spec_Swings.T16 : Bool × List (List Nat × List Nat) := (true, [([], []), ([], []), ([], []), ([2], [2]), ([1, 3], [1, 3]), ([0, 4], [0, 4]), ([], []), ([], []), ([7], [7]), ([6, 8], [6, 8]), ([9], [9]), ([10], [10]), ([5, 11, 5], [5, 11]), ([12, 12, 0, 1, 2, 3, 4, 5, 6, 7, 8, 9, 10, 11, 12], [1, 6, 12])])
def spec_Swings.B16 : List Nat := [0, 0, 0, 4, 14, 31, 0, 0, 128, 448, 960, 1984, 4095, 8191]
theorem spec_Swings.tab16 : rtab .any (opsOf Try.f24 16) = spec_Swings.T16 := by kernel_rfl
theorem spec_Swings.bits16 : waitsOk spec_Swings.T16.2 spec_Swings.B16 = true := by kernel_rfl
def spec_Swings.T20 : Bool × List (List Nat × List Nat) := (true, [([], []), ([], []), ([], []), ([2], [2]), ([1, 3], [1, 3]), ([4], [4]), ([], []), ([], []), ([6, 7], [6, 7]), ([8], [8]), ([5, 9], [5, 9]), ([10], [10]), ([11], [11]), ([12], [12]), ([0, 13, 11], [0, 13]), ([14, 14, 0, 1, 2, 3, 4, 5, 6, 7, 8, 9, 10, 11, 12, 13, 14], [0, 14])])
def spec_Swings.B20 : List Nat := [0, 0, 0, 4, 14, 30, 0, 0, 192, 448, 1022, 2046, 4094, 8190, 16383, 32767]
theorem spec_Swings.tab20 : rtab .any (opsOf Try.f24 20) = spec_Swings.T20 := by kernel_rfl
theorem spec_Swings.bits20 : waitsOk spec_Swings.T20.2 spec_Swings.B20 = true := by kernel_rfl
set_option maxHeartbeats 8000000 in
set_option maxRecDepth 100000 in
theorem spec_Swings.calls (k : Nat) (A0 : Option Addr) (c0 : Nat) (l0 : List Int) (r : List (S38)) (w : World) (hr0 : Kd.C (Kd.int .i64) w A0 l0.length l0) (hc0 : l0.length ≤ c0) (h : spec_Swings.f k l0 = some r) :
  Calls Try.prog 24 #[.slice A0 l0.length c0] w fun e w' => ∃ v0_ : Value, e = .returned (v0_) ∧ Kd.R k38 38 w' w.heap.size (fun _ => True) v0_ r ∧ Below w.heap.size w w' := by
 have hu38 := Try.underlying38
 have HR0 := Aside0.mk hr0
 have HC0 := Aside0.mk hc0
 clear hr0 hc0
 have HB := Aside0.mk (Below.refl w.heap.size w)
 have H : ((spec_Turns.f k l0).bind fun t208 => (spec_Swings.l0 k (([] : List (S38))) (([] : List Int)) t208 0)) = some r := h
 clear h
 obtain ⟨y202, hy202⟩ : ∃ y_ : List (S38), y_ = (([] : List (S38))) := ⟨_, rfl⟩
 replace H : ((spec_Turns.f k l0).bind fun t208 => (spec_Swings.l0 k y202 (([] : List Int)) t208 0)) = some r := by first | (rw [hy202]; with_reducible exact H) | (have H2_ := (Option.bind_some _ _).symm.trans H; rw [hy202]; with_reducible exact H2_) | (have H2_ := (Option.bind_some _ _).symm.trans H; with_reducible exact H2_) | with_reducible exact H | (rw [hy202]; exact H) | exact H
 have Ny202 := Aside0.mk hy202
 clear hy202
 obtain ⟨y205, hy205⟩ : ∃ y_ : List Int, y_ = (([] : List Int)) := ⟨_, rfl⟩
 replace H : ((spec_Turns.f k l0).bind fun t208 => (spec_Swings.l0 k y202 y205 t208 0)) = some r := by first | (rw [hy205]; with_reducible exact H) | (have H2_ := (Option.bind_some _ _).symm.trans H; rw [hy205]; with_reducible exact H2_) | (have H2_ := (Option.bind_some _ _).symm.trans H; with_reducible exact H2_) | with_reducible exact H | (rw [hy205]; exact H) | exact H
 have Ny205 := Aside0.mk hy205
 clear hy205
 replace H := Option.bind_eq_some_iff.mp H
 obtain ⟨t208, A20, H⟩ := H
 replace H : (spec_Swings.l0 k y202 y205 t208 0) = some r := H
 have A2 := Aside0.mk A20
 clear A20
 have H' := Aside0.mk H
 clear H
 go_enter Try.func24, Try.ntmps24
 go_wp2_with (first | ((with_reducible refine gate_dst (N := 11) rfl ?_); refine Kd.R_lit k38 _ 38 ?hg (N := 11) ?hd (xs := ([] : List (S38))) (inner := []) (ok := fun _ => True) (okp := fun _ => True) ?hr ?hp (fun _ hk => hk) trivial (Below.refl _ _) (Nat.le_refl _) (by simp) ?_; (case hd => rfl); (case hg => rfl); (case hr => first | (go_simp; done) | (go_simp; rfl)); (case hp => exact (Reps.none _ _)); intro v203 w3 ho4 hb hg_ hnew_; clear hg_ hnew_; (first | rw [← Ny202.out] at ho4 | (simp only [Int.reduceToNat] at ho4; rw [← Ny202.out] at ho4)); have n0_ := Aside0.mk (Kd.R_lower ho4 (below_size (bel_ HB.out))); have n1_ := Aside0.mk (below_step (bel_ HB.out) hb); clear HB; have HO204 := n0_; have HB := n1_; clear n0_ n1_; clear hb ho4) | ((with_reducible refine gate_dst (N := 12) rfl ?_); refine Kd.R_lit (Kd.int .i64) _ 3 ?hg (N := 12) ?hd (xs := ([] : List Int)) (inner := []) (ok := fun _ => True) (okp := fun _ => True) ?hr ?hp (fun _ hk => hk) trivial (Below.refl _ _) (Nat.le_refl _) (by simp) ?_; (case hd => rfl); (case hg => rfl); (case hr => first | (go_simp; done) | (go_simp; rfl)); (case hp => exact (Reps.none _ _)); intro v206 w5 ho6 hb hg_ hnew_; clear hg_ hnew_; (first | rw [← Ny205.out] at ho6 | (simp only [Int.reduceToNat] at ho6; rw [← Ny205.out] at ho6)); have n0_ := Aside0.mk (Kd.R_below (fr_ HO204.out) hb); have n1_ := Aside0.mk (Kd.R_lower ho6 (below_size (bel_ HB.out))); have n2_ := Aside0.mk (below_step (bel_ HB.out) hb); clear HO204; clear HB; have HO204 := n0_; have HO207 := n1_; have HB := n2_; clear n0_ n1_ n2_; clear hb ho6) | ((with_reducible refine gate_callee (f := 19) rfl ?_); refine goesL_ (some 14) rfl rfl Try.func19 (by kernel_rfl) rfl #[.slice A0 l0.length c0] rfl (by (try simp only [List.map_toArray, List.map_cons, List.map_nil]); first | done | rfl | (simp only [List.length_drop, List.length_take]; rfl)) ?_; (with_reducible refine (spec_Turns.calls k _ _ l0 t208 _ ?side1 ?side2 A2.out).mono ?_); (case side1 => repeat (first | exact (Kd.C_below HR0.out HB.out) | (with_reducible refine Kd.C_alloc ?_ _) | (with_reducible refine Kd.C_drewN ?_ _) | (with_reducible refine Kd.C_drew ?_))); (case side2 => exact HC0.out); rintro e w7 ⟨v209, rfl, ho0, hb⟩; refine ⟨_, rfl, ?_⟩; have n0_ := Aside0.mk (Kd.R_below (fr_ HO204.out) hb); have n1_ := Aside0.mk (Kd.R_elder' (fr_ HO207.out) (Kd.R_base ho0) hb); have n2_ := Aside0.mk (Kd.R_lower (Kd.R_new' ho0 (Kd.R_lt (fr_ HO207.out))) (below_size (bel_ HB.out))); have n3_ := Aside0.mk (below_step (bel_ HB.out) hb); clear HO204; clear HO207; clear HB; have HO204 := n0_; have HO207 := n1_; have HO210 := n2_; have HB := n3_; clear n0_ n1_ n2_ n3_; (try clear hb); (try clear hb2); (try clear hk); (try clear hi); (try clear ho0)))
 (try simp only [Act.put, sA_, sZ_, sS_])
 go_loopg [3, 4, 6] k (fun kq v3 v4 v6 w' => ∃ (x3_1 : List (S38)) (x4_1 : List Int) (x6_1 : Int), v6 = .int .i64 x6_1 ∧ Aside0 (spec_Swings.l0 kq x3_1 x4_1 t208 x6_1 = some r) ∧ Aside0 (kq ≤ k) ∧ Aside0 (Kd.R k38 38 w' w.heap.size (fun _ => True) v3 x3_1) ∧ Aside0 (Kd.R (Kd.int .i64) 3 w' w.heap.size (fun k_ => some k_ ≠ (v209 : Value).ownBlock) v4 x4_1) ∧ Aside0 (Kd.R (Kd.int .i64) 3 w' w.heap.size (fun k_ => some k_ ≠ (v4 : Value).ownBlock) v209 t208) ∧ Aside0 (Below w.heap.size w w'))
 case atStart => exact ⟨(y202), (y205), (0), (by first | rfl | (simp; done) | (simp [*]; done) | (simp [wrap64]; done)), H', ⟨Nat.le_refl _⟩, ⟨by (with_reducible repeat (first | apply Kd.R_alloc | apply Kd.R_drewN | apply Kd.R_drew)); exact HO204.out⟩, ⟨by (with_reducible repeat (first | apply Kd.R_alloc | apply Kd.R_drewN | apply Kd.R_drew)); exact Kd.R_mono HO207.out (fun _ hk => hk.2)⟩, ⟨by (with_reducible repeat (first | apply Kd.R_alloc | apply Kd.R_drewN | apply Kd.R_drew)); exact Kd.R_mono HO210.out (fun _ hk => hk.2)⟩, ⟨bel_ HB.out⟩⟩
 case round =>
  clear H'
  obtain ⟨x3_1, x4_1, x6_1, rfl, HA, HK1, HO_3, HO_4, HO_5, HB⟩ := hrel
  cases gk with
  | zero => exact absurd HA.out (by simp [spec_Swings.l0])
  | succ k1 =>
   have H := HA.out
   clear HA
   simp only [spec_Swings.l0] at H
   by_cases c8 : x6_1 < (t208.length : Int)
   ·rw [if_pos c8] at H
    have c8b0 : decide (x6_1 < (t208.length : Int)) = true := decide_eq_true c8
    clear c8
    by_cases c9 : 0 ≤ x6_1
    ·rw [if_pos c9] at H
     have c9b0 : decide (0 ≤ x6_1) = true := decide_eq_true c9
     clear c9
     obtain ⟨y212, hy212⟩ : ∃ y_ : List Int, y_ = (([rd t208 x6_1] : List Int)) := ⟨_, rfl⟩
     replace H : (if x4_1.length + y212.length < 17592186044416 then (spec_Swings.l1 k1 x3_1 (x4_1 ++ y212) t208 x6_1) else (none)) = some r := by first | (rw [hy212]; with_reducible exact H) | (have H2_ := (Option.bind_some _ _).symm.trans H; rw [hy212]; with_reducible exact H2_) | (have H2_ := (Option.bind_some _ _).symm.trans H; with_reducible exact H2_) | with_reducible exact H | (rw [hy212]; exact H) | exact H
     have Ny212 := Aside0.mk hy212
     clear hy212
     by_cases c10 : x4_1.length + y212.length < 17592186044416
     ·rw [if_pos c10] at H
      have LMc10 := Aside0.mk c10
      clear c10
      obtain ⟨y215, hy215⟩ : ∃ y_ : List Int, y_ = (x4_1 ++ y212) := ⟨_, rfl⟩
      replace H : (spec_Swings.l1 k1 x3_1 y215 t208 x6_1) = some r := by first | (rw [hy215]; with_reducible exact H) | (have H2_ := (Option.bind_some _ _).symm.trans H; rw [hy215]; with_reducible exact H2_) | (have H2_ := (Option.bind_some _ _).symm.trans H; with_reducible exact H2_) | with_reducible exact H | (rw [hy215]; exact H) | exact H
      have Ny215 := Aside0.mk hy215
      clear hy215
      have H' := Aside0.mk H
      clear H
      obtain ⟨Ao11, co11, eo11⟩ := Kd.R_slice HO_5.out
      subst eo11
      have p211 : 0 ≤ (x6_1 : Int) := of_decide_eq_true (by first | (with_reducible assumption) | assumption)
      have q211 : x6_1 < (t208.length : Int) := of_decide_eq_true (by first | (with_reducible assumption) | assumption)
      obtain ⟨ad211, e211, hx211_0⟩ := Kd.at_int (Kd.R_reads' HO_5.out).2.2 x6_1 p211 q211
      cases e211
      replace p211 := eq_true p211
      replace q211 := eq_true q211
      go_wp2_with (first | ((with_reducible refine gate_dst (N := 26) rfl ?_); refine Kd.R_lit (Kd.int .i64) _ 3 ?hg (N := 26) ?hd (xs := ([rd t208 x6_1] : List Int)) (inner := [.int .i64 (rd t208 x6_1)]) (ok := fun _ => True) (okp := fun _ => True) ?hr ?hp (fun _ hk => hk) trivial (Below.refl _ _) (Nat.le_refl _) (by simp) ?_; (case hd => rfl); (case hg => rfl); (case hr => first | (go_simp; done) | (go_simp; rfl)); (case hp => exact (Reps.one (show Kd.M (Kd.int .i64) _ _ _ (rd t208 x6_1) [.int .i64 (rd t208 x6_1)] from rfl) (Reps.none _ _))); intro v213 w12 ho13 hb hg_ hnew_; clear hg_ hnew_; (first | rw [← Ny212.out] at ho13 | (simp only [Int.reduceToNat] at ho13; rw [← Ny212.out] at ho13)); have n0_ := Aside0.mk (Kd.R_below (fr_ HO_3.out) hb); have n1_ := Aside0.mk (Kd.R_elder' (fr_ HO_4.out) (Kd.R_base ho13) hb); have n2_ := Aside0.mk (Kd.R_elder' (fr_ HO_5.out) (Kd.R_base ho13) hb); have n3_ := Aside0.mk (Kd.R_lower (Kd.R_new' (Kd.R_new' ho13 (Kd.R_lt (fr_ HO_4.out))) (Kd.R_lt (fr_ HO_5.out))) (below_size (bel_ HB.out))); have n4_ := Aside0.mk (below_step (bel_ HB.out) hb); clear HO_3; clear HO_4; clear HO_5; clear HB; have HO_3 := n0_; have HO_4 := n1_; have HO_5 := n2_; have HO214 := n3_; have HB := n4_; clear n0_ n1_ n2_ n3_ n4_; clear hb ho13; obtain ⟨Ao15, co15, eo15⟩ := Kd.R_slice HO214.out; subst eo15) | ((with_reducible refine gate_builtin (b := .append) (xs := #[.tmp 21, .tmp 26]) rfl ?_); at_builtin; refine Kd.R_append_rows (Kd.int .i64) (w0 := w) w.heap.size rfl (.tmp 21) (.tmp 26) 24 3 (.int .i64 0) 8 rfl Try.underlying24 info3 rfl (by decide) (by omega) u4 x4_1 y212 _ _ _ (fun k_ => some k_ ≠ (.slice (some ad211) t208.length co11 : Value).ownBlock ∧ some k_ ≠ (.slice Ao15 y212.length co15 : Value).ownBlock) (fun _ => False) rfl rfl ?aO ?aR (fun _ _ h => h) (fun _ h => h.elim) ?aF ?aB ?aS ?aL ?_; (case aR => repeat (first | exact (Kd.R_reads' HO214.out).2.2 | (with_reducible refine Kd.C_alloc ?_ _) | (with_reducible refine Kd.C_drewN ?_ _) | (with_reducible refine Kd.C_drew ?_))); (case aB => exact (bel_ HB.out)); (case aF => exact (fun k_ hk => ⟨Kd.fresh' (Kd.R_lt (fr_ HO_5.out)) k_ hk, Kd.fresh' (Kd.R_lt (fr_ HO214.out)) k_ hk⟩)); (case aO => exact (fr_ HO_4.out)); (case aS => exact (below_size (bel_ HB.out))); (case aL => have := LMc10.out; omega); intro v216 w14 ho hb hg hat; rw [← Ny215.out] at ho; have n0_ := Aside0.mk (Kd.R_over' (fr_ HO_3.out) (Kd.R_typed (fr_ HO_4.out)) (by decide) hg); have n1_ := Aside0.mk (Kd.R_after (ok := (fun k_ => some k_ ≠ (.slice Ao15 y212.length co15 : Value).ownBlock)) (by (with_reducible repeat (first | apply Kd.R_alloc | apply Kd.R_drewN | apply Kd.R_drew)); exact Kd.R_mono HO_5.out (fun _ hk => ⟨hk.2, hk.1⟩)) hg hat); have n2_ := Aside0.mk (Kd.R_after (ok := (fun k_ => some k_ ≠ (.slice (some ad211) t208.length co11 : Value).ownBlock)) (by (with_reducible repeat (first | apply Kd.R_alloc | apply Kd.R_drewN | apply Kd.R_drew)); exact Kd.R_mono HO214.out (fun _ hk => ⟨hk.2, hk.1.2⟩)) hg hat); have n3_ := Aside0.mk (hb); have n4_ := Aside0.mk (ho); clear HO_3; clear HO_5; clear HO214; clear HB; clear HO_4; have HO_3 := n0_; have HO_5 := n1_; have HO214 := n2_; have HB := n3_; have HO217 := n4_; clear n0_ n1_ n2_ n3_ n4_; clear ho hb hg hat))
      go_loopg [3, 4] k1 (fun kq v3 v4 w' => ∃ (x3_2 : List (S38)) (x4_2 : List Int), Aside0 (spec_Swings.l1 kq x3_2 x4_2 t208 x6_1 = some r) ∧ Aside0 (kq ≤ k1) ∧ Aside0 (Kd.R k38 38 w' w.heap.size (fun _ => True) v3 x3_2) ∧ Aside0 (Kd.R (Kd.int .i64) 3 w' w.heap.size (fun k_ => some k_ ≠ ((.slice (some ad211) t208.length co11) : Value).ownBlock) v4 x4_2) ∧ Aside0 (Kd.R (Kd.int .i64) 3 w' w.heap.size (fun k_ => some k_ ≠ (v4 : Value).ownBlock) (.slice (some ad211) t208.length co11) t208) ∧ Aside0 (Below w.heap.size w w'))
      case atStart => exact ⟨(x3_1), (y215), H', ⟨Nat.le_refl _⟩, ⟨by (with_reducible repeat (first | apply Kd.R_alloc | apply Kd.R_drewN | apply Kd.R_drew)); exact HO_3.out⟩, ⟨by (with_reducible repeat (first | apply Kd.R_alloc | apply Kd.R_drewN | apply Kd.R_drew)); exact Kd.R_mono HO217.out (fun _ hk => hk.1)⟩, ⟨by (with_reducible repeat (first | apply Kd.R_alloc | apply Kd.R_drewN | apply Kd.R_drew)); exact Kd.R_mono HO_5.out (fun _ hk => hk.2)⟩, ⟨bel_ HB.out⟩⟩
      case round =>
       clear H'
       try clear c8
       try clear c8b0
       try clear c9
       try clear c9b0
       try clear c10
       try clear hx211_0
       try clear p211
       try clear q211
       obtain ⟨x3_2, x4_2, HA, HK2, HO_3, HO_4, HO_5, HB⟩ := hrel
       cases gk with
       | zero => exact absurd HA.out (by simp [spec_Swings.l1])
       | succ k2 =>
        have H := HA.out
        clear HA
        simp only [spec_Swings.l1] at H
        by_cases c16 : (x4_2.length : Int) ≥ 3
        ·rw [if_pos c16] at H
         have c16b0 : decide (3 ≤ (x4_2.length : Int)) = true := decide_eq_true c16
         have c16b1 : decide (3 ≤ x4_2.length) = true := decide_eq_true (by omega)
         clear c16
         obtain ⟨ji17, hji17⟩ : ∃ j_ : Int, (wrap64 ((x4_2.length : Int) - 1)) = j_ := ⟨_, rfl⟩
         replace H : (if 0 ≤ (ji17) then (if (ji17) < (x4_2.length : Int) then (if 0 ≤ (wrap64 ((x4_2.length : Int) - 2)) then (if (wrap64 ((x4_2.length : Int) - 2)) < (x4_2.length : Int) then ((spec_l3Size.f (wrap64 ((rd x4_2 (ji17)) - (rd x4_2 (wrap64 ((x4_2.length : Int) - 2)))))).bind fun t220 => (if 0 ≤ (wrap64 ((x4_2.length : Int) - 3)) then (if (wrap64 ((x4_2.length : Int) - 3)) < (x4_2.length : Int) then ((spec_l3Size.f (wrap64 ((rd x4_2 (wrap64 ((x4_2.length : Int) - 2))) - (rd x4_2 (wrap64 ((x4_2.length : Int) - 3)))))).bind fun t223 => (if t220 < t223 then (spec_Swings.l0 k2 x3_2 x4_2 t208 (wrap64 (x6_1 + 1))) else (if (x4_2.length : Int) = 3 then ((some (([(⟨t223, true⟩ : S38)] : List (S38)) : List (S38))).bind fun y224 => (if x3_2.length + y224.length < 8796093022208 then ((some (([] : List Int) : List Int)).bind fun y230 => (if 1 ≤ (x4_2.length : Int) then ((some (x4_2.drop 1 : List Int)).bind fun y233 => (if y230.length + y233.length < 17592186044416 then (spec_Swings.l1 k2 (x3_2 ++ y224) (y230 ++ y233) t208 x6_1) else (none))) else (none))) else (none))) else ((some (([(⟨t223, false⟩ : S38)] : List (S38)) : List (S38))).bind fun y240 => (if x3_2.length + y240.length < 8796093022208 then ((some (([] : List Int) : List Int)).bind fun y246 => (if (wrap64 ((x4_2.length : Int) - 3)) ≤ (x4_2.length : Int) then ((some (x4_2.take ((wrap64 ((x4_2.length : Int) - 3)) : Int).toNat : List Int)).bind fun y249 => (if y246.length + y249.length < 17592186044416 then ((some (y246 ++ y249 : List Int)).bind fun y253 => ((some (([rd x4_2 (ji17)] : List Int) : List Int)).bind fun y257 => (if y253.length + y257.length < 17592186044416 then (spec_Swings.l1 k2 (x3_2 ++ y240) (y253 ++ y257) t208 x6_1) else (none)))) else (none))) else (none))) else (none)))))) else (none)) else (none))) else (none)) else (none)) else (none)) else (none)) = some r := by first | (rw [hji17] at H; exact H) | (simp only [hji17] at H ⊢; exact H)
         have hji17w : (IntKind.i64.wrap ((x4_2.length : Int) - 1)) = ji17 := (i64_w _).trans hji17
         by_cases c18 : 0 ≤ (ji17)
         ·rw [if_pos c18] at H
          have c18b0 : decide (0 ≤ (ji17)) = true := decide_eq_true c18
          clear c18
          by_cases c19 : (ji17) < (x4_2.length : Int)
          ·rw [if_pos c19] at H
           have c19b0 : decide ((ji17) < (x4_2.length : Int)) = true := decide_eq_true c19
           clear c19
           obtain ⟨ji20, hji20⟩ : ∃ j_ : Int, (wrap64 ((x4_2.length : Int) - 2)) = j_ := ⟨_, rfl⟩
           replace H : (if 0 ≤ (ji20) then (if (ji20) < (x4_2.length : Int) then ((spec_l3Size.f (wrap64 ((rd x4_2 (ji17)) - (rd x4_2 (ji20))))).bind fun t220 => (if 0 ≤ (wrap64 ((x4_2.length : Int) - 3)) then (if (wrap64 ((x4_2.length : Int) - 3)) < (x4_2.length : Int) then ((spec_l3Size.f (wrap64 ((rd x4_2 (ji20)) - (rd x4_2 (wrap64 ((x4_2.length : Int) - 3)))))).bind fun t223 => (if t220 < t223 then (spec_Swings.l0 k2 x3_2 x4_2 t208 (wrap64 (x6_1 + 1))) else (if (x4_2.length : Int) = 3 then ((some (([(⟨t223, true⟩ : S38)] : List (S38)) : List (S38))).bind fun y224 => (if x3_2.length + y224.length < 8796093022208 then ((some (([] : List Int) : List Int)).bind fun y230 => (if 1 ≤ (x4_2.length : Int) then ((some (x4_2.drop 1 : List Int)).bind fun y233 => (if y230.length + y233.length < 17592186044416 then (spec_Swings.l1 k2 (x3_2 ++ y224) (y230 ++ y233) t208 x6_1) else (none))) else (none))) else (none))) else ((some (([(⟨t223, false⟩ : S38)] : List (S38)) : List (S38))).bind fun y240 => (if x3_2.length + y240.length < 8796093022208 then ((some (([] : List Int) : List Int)).bind fun y246 => (if (wrap64 ((x4_2.length : Int) - 3)) ≤ (x4_2.length : Int) then ((some (x4_2.take ((wrap64 ((x4_2.length : Int) - 3)) : Int).toNat : List Int)).bind fun y249 => (if y246.length + y249.length < 17592186044416 then ((some (y246 ++ y249 : List Int)).bind fun y253 => ((some (([rd x4_2 (ji17)] : List Int) : List Int)).bind fun y257 => (if y253.length + y257.length < 17592186044416 then (spec_Swings.l1 k2 (x3_2 ++ y240) (y253 ++ y257) t208 x6_1) else (none)))) else (none))) else (none))) else (none)))))) else (none)) else (none))) else (none)) else (none)) = some r := by first | (rw [hji20] at H; exact H) | (simp only [hji20] at H ⊢; exact H)
           have hji20w : (IntKind.i64.wrap ((x4_2.length : Int) - 2)) = ji20 := (i64_w _).trans hji20
           by_cases c21 : 0 ≤ (ji20)
           ·rw [if_pos c21] at H
            have c21b0 : decide (0 ≤ (ji20)) = true := decide_eq_true c21
            clear c21
            by_cases c22 : (ji20) < (x4_2.length : Int)
            ·rw [if_pos c22] at H
             have c22b0 : decide ((ji20) < (x4_2.length : Int)) = true := decide_eq_true c22
             clear c22
             replace H := Option.bind_eq_some_iff.mp H
             obtain ⟨t220, A230, H⟩ := H
             replace H : (if 0 ≤ (wrap64 ((x4_2.length : Int) - 3)) then (if (wrap64 ((x4_2.length : Int) - 3)) < (x4_2.length : Int) then ((spec_l3Size.f (wrap64 ((rd x4_2 (ji20)) - (rd x4_2 (wrap64 ((x4_2.length : Int) - 3)))))).bind fun t223 => (if t220 < t223 then (spec_Swings.l0 k2 x3_2 x4_2 t208 (wrap64 (x6_1 + 1))) else (if (x4_2.length : Int) = 3 then ((some (([(⟨t223, true⟩ : S38)] : List (S38)) : List (S38))).bind fun y224 => (if x3_2.length + y224.length < 8796093022208 then ((some (([] : List Int) : List Int)).bind fun y230 => (if 1 ≤ (x4_2.length : Int) then ((some (x4_2.drop 1 : List Int)).bind fun y233 => (if y230.length + y233.length < 17592186044416 then (spec_Swings.l1 k2 (x3_2 ++ y224) (y230 ++ y233) t208 x6_1) else (none))) else (none))) else (none))) else ((some (([(⟨t223, false⟩ : S38)] : List (S38)) : List (S38))).bind fun y240 => (if x3_2.length + y240.length < 8796093022208 then ((some (([] : List Int) : List Int)).bind fun y246 => (if (wrap64 ((x4_2.length : Int) - 3)) ≤ (x4_2.length : Int) then ((some (x4_2.take ((wrap64 ((x4_2.length : Int) - 3)) : Int).toNat : List Int)).bind fun y249 => (if y246.length + y249.length < 17592186044416 then ((some (y246 ++ y249 : List Int)).bind fun y253 => ((some (([rd x4_2 (ji17)] : List Int) : List Int)).bind fun y257 => (if y253.length + y257.length < 17592186044416 then (spec_Swings.l1 k2 (x3_2 ++ y240) (y253 ++ y257) t208 x6_1) else (none)))) else (none))) else (none))) else (none)))))) else (none)) else (none)) = some r := H
             have A23 := Aside0.mk A230
             clear A230
             obtain ⟨ji24, hji24⟩ : ∃ j_ : Int, (wrap64 ((x4_2.length : Int) - 3)) = j_ := ⟨_, rfl⟩
             replace H : (if 0 ≤ (ji24) then (if (ji24) < (x4_2.length : Int) then ((spec_l3Size.f (wrap64 ((rd x4_2 (ji20)) - (rd x4_2 (ji24))))).bind fun t223 => (if t220 < t223 then (spec_Swings.l0 k2 x3_2 x4_2 t208 (wrap64 (x6_1 + 1))) else (if (x4_2.length : Int) = 3 then ((some (([(⟨t223, true⟩ : S38)] : List (S38)) : List (S38))).bind fun y224 => (if x3_2.length + y224.length < 8796093022208 then ((some (([] : List Int) : List Int)).bind fun y230 => (if 1 ≤ (x4_2.length : Int) then ((some (x4_2.drop 1 : List Int)).bind fun y233 => (if y230.length + y233.length < 17592186044416 then (spec_Swings.l1 k2 (x3_2 ++ y224) (y230 ++ y233) t208 x6_1) else (none))) else (none))) else (none))) else ((some (([(⟨t223, false⟩ : S38)] : List (S38)) : List (S38))).bind fun y240 => (if x3_2.length + y240.length < 8796093022208 then ((some (([] : List Int) : List Int)).bind fun y246 => (if (ji24) ≤ (x4_2.length : Int) then ((some (x4_2.take ((ji24) : Int).toNat : List Int)).bind fun y249 => (if y246.length + y249.length < 17592186044416 then ((some (y246 ++ y249 : List Int)).bind fun y253 => ((some (([rd x4_2 (ji17)] : List Int) : List Int)).bind fun y257 => (if y253.length + y257.length < 17592186044416 then (spec_Swings.l1 k2 (x3_2 ++ y240) (y253 ++ y257) t208 x6_1) else (none)))) else (none))) else (none))) else (none)))))) else (none)) else (none)) = some r := by first | (rw [hji24] at H; exact H) | (simp only [hji24] at H ⊢; exact H)
             (try rw [hji24] at A23)
             have hji24w : (IntKind.i64.wrap ((x4_2.length : Int) - 3)) = ji24 := (i64_w _).trans hji24
             by_cases c25 : 0 ≤ (ji24)
             ·rw [if_pos c25] at H
              have c25b0 : decide (0 ≤ (ji24)) = true := decide_eq_true c25
              clear c25
              by_cases c26 : (ji24) < (x4_2.length : Int)
              ·rw [if_pos c26] at H
               have c26b0 : decide ((ji24) < (x4_2.length : Int)) = true := decide_eq_true c26
               clear c26
               replace H := Option.bind_eq_some_iff.mp H
               obtain ⟨t223, A270, H⟩ := H
               replace H : (if t220 < t223 then (spec_Swings.l0 k2 x3_2 x4_2 t208 (wrap64 (x6_1 + 1))) else (if (x4_2.length : Int) = 3 then ((some (([(⟨t223, true⟩ : S38)] : List (S38)) : List (S38))).bind fun y224 => (if x3_2.length + y224.length < 8796093022208 then ((some (([] : List Int) : List Int)).bind fun y230 => (if 1 ≤ (x4_2.length : Int) then ((some (x4_2.drop 1 : List Int)).bind fun y233 => (if y230.length + y233.length < 17592186044416 then (spec_Swings.l1 k2 (x3_2 ++ y224) (y230 ++ y233) t208 x6_1) else (none))) else (none))) else (none))) else ((some (([(⟨t223, false⟩ : S38)] : List (S38)) : List (S38))).bind fun y240 => (if x3_2.length + y240.length < 8796093022208 then ((some (([] : List Int) : List Int)).bind fun y246 => (if (ji24) ≤ (x4_2.length : Int) then ((some (x4_2.take ((ji24) : Int).toNat : List Int)).bind fun y249 => (if y246.length + y249.length < 17592186044416 then ((some (y246 ++ y249 : List Int)).bind fun y253 => ((some (([rd x4_2 (ji17)] : List Int) : List Int)).bind fun y257 => (if y253.length + y257.length < 17592186044416 then (spec_Swings.l1 k2 (x3_2 ++ y240) (y253 ++ y257) t208 x6_1) else (none)))) else (none))) else (none))) else (none))))) = some r := H
               have A27 := Aside0.mk A270
               clear A270
               by_cases c28 : t220 < t223
               ·rw [if_pos c28] at H
                have c28b0 : decide (t220 < t223) = true := decide_eq_true c28
                clear c28
                have H' := Aside0.mk H
                clear H
                obtain ⟨Ao29, co29, eo29⟩ := Kd.R_slice HO_4.out
                subst eo29
                try go_wp2
                have n0_ := Aside0.mk (Kd.R_drew HO_3.out)
                have n1_ := Aside0.mk (Kd.R_drew HO_4.out)
                have n2_ := Aside0.mk (Kd.R_drew HO_5.out)
                have n3_ := Aside0.mk (below_drew1 HB.out)
                clear HO_3
                clear HO_4
                clear HO_5
                clear HB
                have HO_3 := n0_
                have HO_4 := n1_
                have HO_5 := n2_
                have HB := n3_
                clear n0_ n1_ n2_ n3_
                have p218 : 0 ≤ ((ji17) : Int) := of_decide_eq_true (by first | (with_reducible assumption) | assumption)
                have q218 : (ji17) < (x4_2.length : Int) := of_decide_eq_true (by first | (with_reducible assumption) | assumption)
                obtain ⟨ad218, e218, hx218_0⟩ := Kd.at_int (Kd.R_reads' HO_4.out).2.2 (ji17) p218 q218
                cases e218
                replace p218 := eq_true p218
                replace q218 := eq_true q218
                have p219 : 0 ≤ ((ji20) : Int) := of_decide_eq_true (by first | (with_reducible assumption) | assumption)
                have q219 : (ji20) < (x4_2.length : Int) := of_decide_eq_true (by first | (with_reducible assumption) | assumption)
                obtain ⟨ad219, e219, hx219_0⟩ := Kd.at_int (Kd.R_reads' HO_4.out).2.2 (ji20) p219 q219
                obtain rfl : ad218 = ad219 := (by injection e219)
                replace p219 := eq_true p219
                replace q219 := eq_true q219
                have p221 : 0 ≤ ((ji20) : Int) := of_decide_eq_true (by first | (with_reducible assumption) | assumption)
                have q221 : (ji20) < (x4_2.length : Int) := of_decide_eq_true (by first | (with_reducible assumption) | assumption)
                obtain ⟨ad221, e221, hx221_0⟩ := Kd.at_int (Kd.R_reads' HO_4.out).2.2 (ji20) p221 q221
                obtain rfl : ad218 = ad221 := (by injection e221)
                replace p221 := eq_true p221
                replace q221 := eq_true q221
                have p222 : 0 ≤ ((ji24) : Int) := of_decide_eq_true (by first | (with_reducible assumption) | assumption)
                have q222 : (ji24) < (x4_2.length : Int) := of_decide_eq_true (by first | (with_reducible assumption) | assumption)
                obtain ⟨ad222, e222, hx222_0⟩ := Kd.at_int (Kd.R_reads' HO_4.out).2.2 (ji24) p222 q222
                obtain rfl : ad218 = ad222 := (by injection e222)
                replace p222 := eq_true p222
                replace q222 := eq_true q222
                refine start_ (n := 26) (S := fun w' => w'.cell? (ad218.add ((ji17)).toNat) = some (.int .i64 (rd x4_2 (ji17))) ∧ w'.cell? (ad218.add ((ji20)).toNat) = some (.int .i64 (rd x4_2 (ji20))) ∧ w'.cell? (ad218.add ((ji20)).toNat) = some (.int .i64 (rd x4_2 (ji20))) ∧ w'.cell? (ad218.add ((ji24)).toNat) = some (.int .i64 (rd x4_2 (ji24)))) (ds := []) (bs 26 0) (by kernel_rfl) rfl rfl ⟨hx218_0, hx219_0, hx221_0, hx222_0⟩ (fun hHeld => ?_); refine with_tabW spec_Swings.tab10 spec_Swings.bits10 (fun HT_ HW_ => ?_)
                generalize wr.drew = w30 at HO_3 HO_4 HO_5 HB hx218_0 hx219_0 hx221_0 hx222_0 hHeld ⊢
                refine pu_ 0 33 HT_ (bs 26 1) rfl rfl ?_
                refine pu_ 1 34 HT_ (bs 26 3) rfl rfl ?_
                refine pu_ 2 35 HT_ (bs 26 7) rfl rfl ?_
                refine pu_ 3 36 HT_ (bs 26 15) rfl rfl ?_
                refine pu_ 5 38 HT_ (bs 26 47) rfl rfl ?_
                refine pu_ 6 39 HT_ (bs 26 111) rfl rfl ?_
                refine pu_ 7 40 HT_ (bs 26 239) rfl rfl ?_
                refine pu_ 8 41 HT_ (bs 26 495) rfl rfl ?_
                refine pu_ 12 45 HT_ (bs 26 4591) rfl rfl ?_
                refine pu_ 13 46 HT_ (bs 26 12783) rfl rfl ?_
                refine pu_ 14 47 HT_ (bs 26 29167) rfl rfl ?_
                refine pu_ 15 48 HT_ (bs 26 61935) rfl rfl ?_
                refine pu_ 17 50 HT_ (bs 26 193007) rfl rfl ?_
                refine pu_ 18 51 HT_ (bs 26 455151) rfl rfl ?_
                refine pu_ 19 52 HT_ (bs 26 979439) rfl rfl ?_
                refine pu_ 20 53 HT_ (bs 26 2028015) rfl rfl ?_
                refine take_ (i := 4) (N := some 37) (v := ?_) (a' := ?_) (bs 26 2028031) rfl rfl (take_ofW HT_.out HW_.out (by kernel_rfl)) (fun _ _ _ h => h) (Or.inl ⟨by rfl, ?_⟩) hHeld ?_ ?_
                rotate_left
                ·rintro w' ⟨s0, s1, s2, s3⟩
                 go_simp
                 with_reducible rfl
                rotate_left
                ·simp only [Act.put, sA_, sZ_, sS_, i64_w, i32_w]
                 rfl
                refine take_ (i := 9) (N := some 42) (v := ?_) (a' := ?_) (bs 26 2028543) rfl rfl (take_ofW HT_.out HW_.out (by kernel_rfl)) (fun _ _ _ h => h) (Or.inl ⟨by rfl, ?_⟩) hHeld ?_ ?_
                rotate_left
                ·rintro w' ⟨s0, s1, s2, s3⟩
                 go_simp
                 with_reducible rfl
                rotate_left
                ·simp only [Act.put, sA_, sZ_, sS_, i64_w, i32_w]
                 rfl
                refine pu_ 10 43 HT_ (bs 26 2029567) rfl rfl ?_
                refine take_ (i := 16) (N := some 49) (v := ?_) (a' := ?_) (bs 26 2095103) rfl rfl (take_ofW HT_.out HW_.out (by kernel_rfl)) (fun _ _ _ h => h) (Or.inl ⟨by rfl, ?_⟩) hHeld ?_ ?_
                rotate_left
                ·rintro w' ⟨s0, s1, s2, s3⟩
                 go_simp
                 with_reducible rfl
                rotate_left
                ·simp only [Act.put, sA_, sZ_, sS_, i64_w, i32_w]
                 rfl
                refine take_ (i := 21) (N := some 54) (v := ?_) (a' := ?_) (bs 26 4192255) rfl rfl (take_ofW HT_.out HW_.out (by kernel_rfl)) (fun _ _ _ h => h) (Or.inl ⟨by rfl, ?_⟩) hHeld ?_ ?_
                rotate_left
                ·rintro w' ⟨s0, s1, s2, s3⟩
                 go_simp
                 with_reducible rfl
                rotate_left
                ·simp only [Act.put, sA_, sZ_, sS_, i64_w, i32_w]
                 rfl
                refine pu_ 22 55 HT_ (bs 26 8386559) rfl rfl ?_
                refine one_ (i := 11) (N := some 44) (bs 26 8388607) rfl rfl (one_of HT_.out (by kernel_rfl)) (by decide) (fun K hK => ?_)
                refine goes_ Try.func46 (by kernel_rfl) rfl #[.int .i64 (wrap64 ((rd x4_2 (ji17)) - (rd x4_2 (ji20))))] (by rfl) rfl rfl (by (try simp only [List.map_toArray, List.map_cons, List.map_nil]); first | done | (simp only [hji17, hji20]; rfl) | rfl | (simp only [List.length_drop, List.length_take]; rfl)) ?_
                with_reducible refine (spec_l3Size.calls (wrap64 ((rd x4_2 (ji17)) - (rd x4_2 (ji20)))) t220 _ A23.out).mono ?_
                rintro e w' ⟨rfl, ⟨nd, rfl⟩⟩
                refine ⟨_, rfl, ?_⟩
                refine hK.out _ _ ⟨hHeld.1, hHeld.2.1, hHeld.2.2.1, hHeld.2.2.2⟩ (fun hHeld => ?_)
                clear hK K
                refine norm_ (a' := ?_) ?_ ?_
                rotate_left
                ·show Act.put _ (some 44) _ = _
                 simp only [Act.put, sA_, sZ_, sS_, i64_w, i32_w]
                 rfl
                refine one_ (i := 23) (N := some 56) (bs 26 16777215) rfl rfl (one_of HT_.out (by kernel_rfl)) (by decide) (fun K hK => ?_)
                refine goes_ Try.func46 (by kernel_rfl) rfl #[.int .i64 (wrap64 ((rd x4_2 (ji20)) - (rd x4_2 (ji24))))] (by rfl) rfl rfl (by (try simp only [List.map_toArray, List.map_cons, List.map_nil]); first | done | (simp only [hji20, hji24]; rfl) | rfl | (simp only [List.length_drop, List.length_take]; rfl)) ?_
                with_reducible refine (spec_l3Size.calls (wrap64 ((rd x4_2 (ji20)) - (rd x4_2 (ji24)))) t223 _ A27.out).mono ?_
                rintro e w' ⟨rfl, ⟨nd, rfl⟩⟩
                refine ⟨_, rfl, ?_⟩
                refine hK.out _ _ ⟨hHeld.1, hHeld.2.1, hHeld.2.2.1, hHeld.2.2.2⟩ (fun hHeld => ?_)
                clear hK K
                refine norm_ (a' := ?_) ?_ ?_
                rotate_left
                ·show Act.put _ (some 56) _ = _
                 simp only [Act.put, sA_, sZ_, sS_, i64_w, i32_w]
                 rfl
                refine pu_ 24 8 HT_ (bs 26 33554431) rfl rfl ?_
                refine pu_ 25 9 HT_ (bs 26 67108863) rfl rfl ?_
                refine done_ (done_of HT_.out (by kernel_rfl)) ?_
                try go_wp2
                (first | go_roundg k2 | (simp only [← hji17, ← hji20, ← hji24]; go_roundg k2))
                case measure => have := HK1.out; have := HK2.out; omega
                case rel => exact ⟨(x3_2), (x4_2), (wrap64 (x6_1 + 1)), (by first | rfl | (simp; done) | (simp [*]; done) | (simp [wrap64]; done)), H', ⟨by have := HK1.out; have := HK2.out; omega⟩, ⟨by (with_reducible repeat (first | apply Kd.R_alloc | apply Kd.R_drewN | apply Kd.R_drew)); exact HO_3.out⟩, ⟨by (with_reducible repeat (first | apply Kd.R_alloc | apply Kd.R_drewN | apply Kd.R_drew)); exact HO_4.out⟩, ⟨by (with_reducible repeat (first | apply Kd.R_alloc | apply Kd.R_drewN | apply Kd.R_drew)); exact HO_5.out⟩, ⟨bel_ HB.out⟩⟩
               ·rw [if_neg c28] at H
                have c28b0 : decide (t220 < t223) = false := decide_eq_false c28
                clear c28
                by_cases c31 : (x4_2.length : Int) = 3
                ·rw [if_pos c31] at H
                 have c31b0 : ((x4_2.length : Int) == 3) = true := beq_iff_eq.mpr c31
                 have c31b1 : ((x4_2.length : Int) != 3) = false := bne_eq_false_iff_eq.mpr c31
                 clear c31
                 obtain ⟨y224, hy224⟩ : ∃ y_ : List (S38), y_ = (([(⟨t223, true⟩ : S38)] : List (S38))) := ⟨_, rfl⟩
                 replace H : (if x3_2.length + y224.length < 8796093022208 then ((some (([] : List Int) : List Int)).bind fun y230 => (if 1 ≤ (x4_2.length : Int) then ((some (x4_2.drop 1 : List Int)).bind fun y233 => (if y230.length + y233.length < 17592186044416 then (spec_Swings.l1 k2 (x3_2 ++ y224) (y230 ++ y233) t208 x6_1) else (none))) else (none))) else (none)) = some r := by first | (rw [hy224]; with_reducible exact H) | (have H2_ := (Option.bind_some _ _).symm.trans H; rw [hy224]; with_reducible exact H2_) | (have H2_ := (Option.bind_some _ _).symm.trans H; with_reducible exact H2_) | with_reducible exact H | (rw [hy224]; exact H) | exact H
                 have Ny224 := Aside0.mk hy224
                 clear hy224
                 by_cases c32 : x3_2.length + y224.length < 8796093022208
                 ·rw [if_pos c32] at H
                  have LMc32 := Aside0.mk c32
                  clear c32
                  obtain ⟨y227, hy227⟩ : ∃ y_ : List (S38), y_ = (x3_2 ++ y224) := ⟨_, rfl⟩
                  replace H : ((some (([] : List Int) : List Int)).bind fun y230 => (if 1 ≤ (x4_2.length : Int) then ((some (x4_2.drop 1 : List Int)).bind fun y233 => (if y230.length + y233.length < 17592186044416 then (spec_Swings.l1 k2 y227 (y230 ++ y233) t208 x6_1) else (none))) else (none))) = some r := by first | (rw [hy227]; with_reducible exact H) | (have H2_ := (Option.bind_some _ _).symm.trans H; rw [hy227]; with_reducible exact H2_) | (have H2_ := (Option.bind_some _ _).symm.trans H; with_reducible exact H2_) | with_reducible exact H | (rw [hy227]; exact H) | exact H
                  have Ny227 := Aside0.mk hy227
                  clear hy227
                  obtain ⟨y230, hy230⟩ : ∃ y_ : List Int, y_ = (([] : List Int)) := ⟨_, rfl⟩
                  replace H : (if 1 ≤ (x4_2.length : Int) then ((some (x4_2.drop 1 : List Int)).bind fun y233 => (if y230.length + y233.length < 17592186044416 then (spec_Swings.l1 k2 y227 (y230 ++ y233) t208 x6_1) else (none))) else (none)) = some r := by first | (rw [hy230]; with_reducible exact H) | (have H2_ := (Option.bind_some _ _).symm.trans H; rw [hy230]; with_reducible exact H2_) | (have H2_ := (Option.bind_some _ _).symm.trans H; with_reducible exact H2_) | with_reducible exact H | (rw [hy230]; exact H) | exact H
                  have Ny230 := Aside0.mk hy230
                  clear hy230
                  by_cases c33 : 1 ≤ (x4_2.length : Int)
                  ·rw [if_pos c33] at H
                   have c33b0 := eq_true c33
                   have c33b1 : decide (1 ≤ (x4_2.length : Int)) = true := decide_eq_true c33
                   clear c33
                   obtain ⟨y233, hy233⟩ : ∃ y_ : List Int, y_ = (x4_2.drop 1) := ⟨_, rfl⟩
                   replace H : (if y230.length + y233.length < 17592186044416 then (spec_Swings.l1 k2 y227 (y230 ++ y233) t208 x6_1) else (none)) = some r := by first | (rw [hy233]; with_reducible exact H) | (have H2_ := (Option.bind_some _ _).symm.trans H; rw [hy233]; with_reducible exact H2_) | (have H2_ := (Option.bind_some _ _).symm.trans H; with_reducible exact H2_) | with_reducible exact H | (rw [hy233]; exact H) | exact H
                   have Ny233 := Aside0.mk hy233
                   clear hy233
                   by_cases c34 : y230.length + y233.length < 17592186044416
                   ·rw [if_pos c34] at H
                    have LMc34 := Aside0.mk c34
                    clear c34
                    obtain ⟨y237, hy237⟩ : ∃ y_ : List Int, y_ = (y230 ++ y233) := ⟨_, rfl⟩
                    replace H : (spec_Swings.l1 k2 y227 y237 t208 x6_1) = some r := by first | (rw [hy237]; with_reducible exact H) | (have H2_ := (Option.bind_some _ _).symm.trans H; rw [hy237]; with_reducible exact H2_) | (have H2_ := (Option.bind_some _ _).symm.trans H; with_reducible exact H2_) | with_reducible exact H | (rw [hy237]; exact H) | exact H
                    have Ny237 := Aside0.mk hy237
                    clear hy237
                    have H' := Aside0.mk H
                    clear H
                    obtain ⟨Ao35, co35, eo35⟩ := Kd.R_slice HO_4.out
                    subst eo35
                    try go_wp2
                    have n0_ := Aside0.mk (Kd.R_drew HO_3.out)
                    have n1_ := Aside0.mk (Kd.R_drew HO_4.out)
                    have n2_ := Aside0.mk (Kd.R_drew HO_5.out)
                    have n3_ := Aside0.mk (below_drew1 HB.out)
                    clear HO_3
                    clear HO_4
                    clear HO_5
                    clear HB
                    have HO_3 := n0_
                    have HO_4 := n1_
                    have HO_5 := n2_
                    have HB := n3_
                    clear n0_ n1_ n2_ n3_
                    have p218 : 0 ≤ ((ji17) : Int) := of_decide_eq_true (by first | (with_reducible assumption) | assumption)
                    have q218 : (ji17) < (x4_2.length : Int) := of_decide_eq_true (by first | (with_reducible assumption) | assumption)
                    obtain ⟨ad218, e218, hx218_0⟩ := Kd.at_int (Kd.R_reads' HO_4.out).2.2 (ji17) p218 q218
                    cases e218
                    replace p218 := eq_true p218
                    replace q218 := eq_true q218
                    have p219 : 0 ≤ ((ji20) : Int) := of_decide_eq_true (by first | (with_reducible assumption) | assumption)
                    have q219 : (ji20) < (x4_2.length : Int) := of_decide_eq_true (by first | (with_reducible assumption) | assumption)
                    obtain ⟨ad219, e219, hx219_0⟩ := Kd.at_int (Kd.R_reads' HO_4.out).2.2 (ji20) p219 q219
                    obtain rfl : ad218 = ad219 := (by injection e219)
                    replace p219 := eq_true p219
                    replace q219 := eq_true q219
                    have p221 : 0 ≤ ((ji20) : Int) := of_decide_eq_true (by first | (with_reducible assumption) | assumption)
                    have q221 : (ji20) < (x4_2.length : Int) := of_decide_eq_true (by first | (with_reducible assumption) | assumption)
                    obtain ⟨ad221, e221, hx221_0⟩ := Kd.at_int (Kd.R_reads' HO_4.out).2.2 (ji20) p221 q221
                    obtain rfl : ad218 = ad221 := (by injection e221)
                    replace p221 := eq_true p221
                    replace q221 := eq_true q221
                    have p222 : 0 ≤ ((ji24) : Int) := of_decide_eq_true (by first | (with_reducible assumption) | assumption)
                    have q222 : (ji24) < (x4_2.length : Int) := of_decide_eq_true (by first | (with_reducible assumption) | assumption)
                    obtain ⟨ad222, e222, hx222_0⟩ := Kd.at_int (Kd.R_reads' HO_4.out).2.2 (ji24) p222 q222
                    obtain rfl : ad218 = ad222 := (by injection e222)
                    replace p222 := eq_true p222
                    replace q222 := eq_true q222
                    refine start_ (n := 26) (S := fun w' => w'.cell? (ad218.add ((ji17)).toNat) = some (.int .i64 (rd x4_2 (ji17))) ∧ w'.cell? (ad218.add ((ji20)).toNat) = some (.int .i64 (rd x4_2 (ji20))) ∧ w'.cell? (ad218.add ((ji20)).toNat) = some (.int .i64 (rd x4_2 (ji20))) ∧ w'.cell? (ad218.add ((ji24)).toNat) = some (.int .i64 (rd x4_2 (ji24)))) (ds := []) (bs 26 0) (by kernel_rfl) rfl rfl ⟨hx218_0, hx219_0, hx221_0, hx222_0⟩ (fun hHeld => ?_); refine with_tabW spec_Swings.tab10 spec_Swings.bits10 (fun HT_ HW_ => ?_)
                    generalize wr.drew = w36 at HO_3 HO_4 HO_5 HB hx218_0 hx219_0 hx221_0 hx222_0 hHeld ⊢
                    refine pu_ 0 33 HT_ (bs 26 1) rfl rfl ?_
                    refine pu_ 1 34 HT_ (bs 26 3) rfl rfl ?_
                    refine pu_ 2 35 HT_ (bs 26 7) rfl rfl ?_
                    refine pu_ 3 36 HT_ (bs 26 15) rfl rfl ?_
                    refine pu_ 5 38 HT_ (bs 26 47) rfl rfl ?_
                    refine pu_ 6 39 HT_ (bs 26 111) rfl rfl ?_
                    refine pu_ 7 40 HT_ (bs 26 239) rfl rfl ?_
                    refine pu_ 8 41 HT_ (bs 26 495) rfl rfl ?_
                    refine pu_ 12 45 HT_ (bs 26 4591) rfl rfl ?_
                    refine pu_ 13 46 HT_ (bs 26 12783) rfl rfl ?_
                    refine pu_ 14 47 HT_ (bs 26 29167) rfl rfl ?_
                    refine pu_ 15 48 HT_ (bs 26 61935) rfl rfl ?_
                    refine pu_ 17 50 HT_ (bs 26 193007) rfl rfl ?_
                    refine pu_ 18 51 HT_ (bs 26 455151) rfl rfl ?_
                    refine pu_ 19 52 HT_ (bs 26 979439) rfl rfl ?_
                    refine pu_ 20 53 HT_ (bs 26 2028015) rfl rfl ?_
                    refine take_ (i := 4) (N := some 37) (v := ?_) (a' := ?_) (bs 26 2028031) rfl rfl (take_ofW HT_.out HW_.out (by kernel_rfl)) (fun _ _ _ h => h) (Or.inl ⟨by rfl, ?_⟩) hHeld ?_ ?_
                    rotate_left
                    ·rintro w' ⟨s0, s1, s2, s3⟩
                     go_simp
                     with_reducible rfl
                    rotate_left
                    ·simp only [Act.put, sA_, sZ_, sS_, i64_w, i32_w]
                     rfl
                    refine take_ (i := 9) (N := some 42) (v := ?_) (a' := ?_) (bs 26 2028543) rfl rfl (take_ofW HT_.out HW_.out (by kernel_rfl)) (fun _ _ _ h => h) (Or.inl ⟨by rfl, ?_⟩) hHeld ?_ ?_
                    rotate_left
                    ·rintro w' ⟨s0, s1, s2, s3⟩
                     go_simp
                     with_reducible rfl
                    rotate_left
                    ·simp only [Act.put, sA_, sZ_, sS_, i64_w, i32_w]
                     rfl
                    refine pu_ 10 43 HT_ (bs 26 2029567) rfl rfl ?_
                    refine take_ (i := 16) (N := some 49) (v := ?_) (a' := ?_) (bs 26 2095103) rfl rfl (take_ofW HT_.out HW_.out (by kernel_rfl)) (fun _ _ _ h => h) (Or.inl ⟨by rfl, ?_⟩) hHeld ?_ ?_
                    rotate_left
                    ·rintro w' ⟨s0, s1, s2, s3⟩
                     go_simp
                     with_reducible rfl
                    rotate_left
                    ·simp only [Act.put, sA_, sZ_, sS_, i64_w, i32_w]
                     rfl
                    refine take_ (i := 21) (N := some 54) (v := ?_) (a' := ?_) (bs 26 4192255) rfl rfl (take_ofW HT_.out HW_.out (by kernel_rfl)) (fun _ _ _ h => h) (Or.inl ⟨by rfl, ?_⟩) hHeld ?_ ?_
                    rotate_left
                    ·rintro w' ⟨s0, s1, s2, s3⟩
                     go_simp
                     with_reducible rfl
                    rotate_left
                    ·simp only [Act.put, sA_, sZ_, sS_, i64_w, i32_w]
                     rfl
                    refine pu_ 22 55 HT_ (bs 26 8386559) rfl rfl ?_
                    refine one_ (i := 11) (N := some 44) (bs 26 8388607) rfl rfl (one_of HT_.out (by kernel_rfl)) (by decide) (fun K hK => ?_)
                    refine goes_ Try.func46 (by kernel_rfl) rfl #[.int .i64 (wrap64 ((rd x4_2 (ji17)) - (rd x4_2 (ji20))))] (by rfl) rfl rfl (by (try simp only [List.map_toArray, List.map_cons, List.map_nil]); first | done | (simp only [hji17, hji20]; rfl) | rfl | (simp only [List.length_drop, List.length_take]; rfl)) ?_
                    with_reducible refine (spec_l3Size.calls (wrap64 ((rd x4_2 (ji17)) - (rd x4_2 (ji20)))) t220 _ A23.out).mono ?_
                    rintro e w' ⟨rfl, ⟨nd, rfl⟩⟩
                    refine ⟨_, rfl, ?_⟩
                    refine hK.out _ _ ⟨hHeld.1, hHeld.2.1, hHeld.2.2.1, hHeld.2.2.2⟩ (fun hHeld => ?_)
                    clear hK K
                    refine norm_ (a' := ?_) ?_ ?_
                    rotate_left
                    ·show Act.put _ (some 44) _ = _
                     simp only [Act.put, sA_, sZ_, sS_, i64_w, i32_w]
                     rfl
                    refine one_ (i := 23) (N := some 56) (bs 26 16777215) rfl rfl (one_of HT_.out (by kernel_rfl)) (by decide) (fun K hK => ?_)
                    refine goes_ Try.func46 (by kernel_rfl) rfl #[.int .i64 (wrap64 ((rd x4_2 (ji20)) - (rd x4_2 (ji24))))] (by rfl) rfl rfl (by (try simp only [List.map_toArray, List.map_cons, List.map_nil]); first | done | (simp only [hji20, hji24]; rfl) | rfl | (simp only [List.length_drop, List.length_take]; rfl)) ?_
                    with_reducible refine (spec_l3Size.calls (wrap64 ((rd x4_2 (ji20)) - (rd x4_2 (ji24)))) t223 _ A27.out).mono ?_
                    rintro e w' ⟨rfl, ⟨nd, rfl⟩⟩
                    refine ⟨_, rfl, ?_⟩
                    refine hK.out _ _ ⟨hHeld.1, hHeld.2.1, hHeld.2.2.1, hHeld.2.2.2⟩ (fun hHeld => ?_)
                    clear hK K
                    refine norm_ (a' := ?_) ?_ ?_
                    rotate_left
                    ·show Act.put _ (some 56) _ = _
                     simp only [Act.put, sA_, sZ_, sS_, i64_w, i32_w]
                     rfl
                    refine pu_ 24 8 HT_ (bs 26 33554431) rfl rfl ?_
                    refine pu_ 25 9 HT_ (bs 26 67108863) rfl rfl ?_
                    refine done_ (done_of HT_.out (by kernel_rfl)) ?_
                    try go_wp2_with (first | ((with_reducible refine gate_dst (N := 65) rfl ?_); refine Kd.R_lit k38 _ 38 ?hg (N := 65) ?hd (xs := ([(⟨t223, true⟩ : S38)] : List (S38))) (inner := [.int .i64 t223, .bool true]) (ok := fun _ => True) (okp := fun _ => True) ?hr ?hp (fun _ hk => hk) trivial (Below.refl _ _) (Nat.le_refl _) (by simp) ?_; (case hd => rfl); (case hg => rfl); (case hr => first | (go_simp; done) | (go_simp; rfl)); (case hp => exact (Reps.c2 (show Kd.M k38 _ _ _ (⟨t223, true⟩ : S38) [.int .i64 t223, .bool true] from (k38_mkM _ _ _ (⟨t223, true⟩ : S38) )) (Reps.none _ _))); intro v225 w37 ho38 hb hg_ hnew_; clear hg_ hnew_; (first | rw [← Ny224.out] at ho38 | (simp only [Int.reduceToNat] at ho38; rw [← Ny224.out] at ho38)); have n0_ := Aside0.mk (Kd.R_elder' (fr_ HO_3.out) (Kd.R_base ho38) hb); have n1_ := Aside0.mk (Kd.R_below (fr_ HO_4.out) hb); have n2_ := Aside0.mk (Kd.R_below (fr_ HO_5.out) hb); have n3_ := Aside0.mk (Kd.R_lower (Kd.R_new' ho38 (Kd.R_lt (fr_ HO_3.out))) (below_size (bel_ HB.out))); have n4_ := Aside0.mk (below_step (bel_ HB.out) hb); clear HO_3; clear HO_4; clear HO_5; clear HB; have HO_3 := n0_; have HO_4 := n1_; have HO_5 := n2_; have HO226 := n3_; have HB := n4_; clear n0_ n1_ n2_ n3_ n4_; clear hb ho38; obtain ⟨Ao40, co40, eo40⟩ := Kd.R_slice HO226.out; subst eo40) | ((with_reducible refine gate_builtin (b := .append) (xs := #[.tmp 62, .tmp 65]) rfl ?_); at_builtin; refine Kd.R_append_rows k38 (w0 := w) w.heap.size rfl (.tmp 62) (.tmp 65) 35 38 (.agg #[(.int .i64 0), (.bool false)]) 16 rfl Try.underlying35 info38 rfl (by decide) (by omega) u3 x3_2 y224 _ _ _ (fun k_ => some k_ ≠ (.slice Ao40 y224.length co40 : Value).ownBlock) (fun _ => False) rfl rfl ?aO ?aR (fun _ _ h => h) (fun _ h => h.elim) ?aF ?aB ?aS ?aL ?_; (case aR => repeat (first | exact (Kd.R_reads' HO226.out).2.2 | (with_reducible refine Kd.C_alloc ?_ _) | (with_reducible refine Kd.C_drewN ?_ _) | (with_reducible refine Kd.C_drew ?_))); (case aB => exact (bel_ HB.out)); (case aF => exact (fun k_ hk => Kd.fresh' (Kd.R_lt (fr_ HO226.out)) k_ hk)); (case aO => exact (by (with_reducible repeat (first | apply Kd.R_alloc | apply Kd.R_drewN | apply Kd.R_drew)); exact Kd.R_mono HO_3.out (fun _ hk => hk.2))); (case aS => exact (below_size (bel_ HB.out))); (case aL => have := LMc32.out; omega); intro v228 w39 ho hb hg hat; rw [← Ny227.out] at ho; have n0_ := Aside0.mk (Kd.R_over' (fr_ HO_4.out) (Kd.R_typed (fr_ HO_3.out)) (by decide) hg); have n1_ := Aside0.mk (Kd.R_over' (fr_ HO_5.out) (Kd.R_typed (fr_ HO_3.out)) (by decide) hg); have n2_ := Aside0.mk (Kd.R_after (ok := (fun _ => True)) (fr_ HO226.out) hg hat); have n3_ := Aside0.mk (hb); have n4_ := Aside0.mk (ho); clear HO_4; clear HO_5; clear HO226; clear HB; clear HO_3; have HO_4 := n0_; have HO_5 := n1_; have HO226 := n2_; have HB := n3_; have HO229 := n4_; clear n0_ n1_ n2_ n3_ n4_; clear ho hb hg hat) | ((with_reducible refine gate_dst (N := 67) rfl ?_); refine Kd.R_lit (Kd.int .i64) _ 3 ?hg (N := 67) ?hd (xs := ([] : List Int)) (inner := []) (ok := fun _ => True) (okp := fun _ => True) ?hr ?hp (fun _ hk => hk) trivial (Below.refl _ _) (Nat.le_refl _) (by simp) ?_; (case hd => rfl); (case hg => rfl); (case hr => first | (go_simp; done) | (go_simp; rfl)); (case hp => exact (Reps.none _ _)); intro v231 w41 ho42 hb hg_ hnew_; clear hg_ hnew_; (first | rw [← Ny230.out] at ho42 | (simp only [Int.reduceToNat] at ho42; rw [← Ny230.out] at ho42)); have n0_ := Aside0.mk (Kd.R_elder' (fr_ HO_4.out) (Kd.R_base ho42) hb); have n1_ := Aside0.mk (Kd.R_elder' (fr_ HO_5.out) (Kd.R_base ho42) hb); have n2_ := Aside0.mk (Kd.R_below (fr_ HO226.out) hb); have n3_ := Aside0.mk (Kd.R_below (fr_ HO229.out) hb); have n4_ := Aside0.mk (Kd.R_lower (Kd.R_new' (Kd.R_new' ho42 (Kd.R_lt (fr_ HO_4.out))) (Kd.R_lt (fr_ HO_5.out))) (below_size (bel_ HB.out))); have n5_ := Aside0.mk (below_step (bel_ HB.out) hb); clear HO_4; clear HO_5; clear HO226; clear HO229; clear HB; have HO_4 := n0_; have HO_5 := n1_; have HO226 := n2_; have HO229 := n3_; have HO232 := n4_; have HB := n5_; clear n0_ n1_ n2_ n3_ n4_ n5_; clear hb ho42; have q43 : (1 : Int) ≤ ((x4_2.length : Int) : Int) := of_decide_eq_true (by first | (with_reducible assumption) | assumption); obtain ⟨i043, hi043, _, hsz43, _⟩ := info_parts info3; have hroom43 : x4_2.length ≤ co35 := (Kd.R_reads' HO_4.out).2.1; have hC43 : Kd.C (Kd.int .i64) _ (some ad218) x4_2.length x4_2 := (Kd.R_reads' HO_4.out).2.2; have hcut43 := cut_from (P := Try.prog) 24 3 .i64 Try.underlying24 hi043 1 hsz43 (some ad218) x4_2.length co35 1 (by omega) q43; have hr43 := Kd.C_drop (m := (1 : Int).toNat) (c := co35) hC43 (by omega) hroom43; obtain ⟨A43, hA43⟩ : ∃ A1, A1 = (if co35 = (1 : Int).toNat then (some ad218) else ((some ad218) : Option Addr).map (·.add ((1 : Int).toNat * 1))) := ⟨_, rfl⟩; obtain ⟨c43, hc43⟩ : ∃ c1, c1 = co35 - (1 : Int).toNat := ⟨_, rfl⟩; have hy43 : y233.length = x4_2.length - (1 : Int).toNat := (by rw [Ny233.out, List.length_drop] <;> omega); rw [show (x4_2).drop (1 : Int).toNat = y233 from Ny233.out.symm] at hr43; replace hr43 : Kd.C (Kd.int .i64) _ A43 y233.length y233 := (by rw [hA43]; exact hr43); rw [← hy43, ← hA43, ← hc43] at hcut43; have HR236 := Aside0.mk hr43; have HC236 := Aside0.mk (show y233.length ≤ c43 from by rw [hy43, hc43]; exact Nat.sub_le_sub_right hroom43 _); clear hr43 hC43 hroom43 hi043 hsz43 hc43; have KY43 := Aside0.mk hy43; have KA43 := Aside0.mk hA43; clear hy43 hA43; have KL43 := Aside0.mk (show 1 ≤ x4_2.length from by omega); replace q43 := eq_true q43) | ((with_reducible refine gate_builtin (b := .append) (xs := #[.tmp 67, .tmp 69]) rfl ?_); at_builtin; refine Kd.R_append_rows (Kd.int .i64) (w0 := w) w.heap.size rfl (.tmp 67) (.tmp 69) 24 3 (.int .i64 0) 8 rfl Try.underlying24 info3 rfl (by decide) (by omega) v231 y230 y233 _ _ _ (fun k_ => some k_ ≠ (.slice (some ad218) x4_2.length co35 : Value).ownBlock ∧ some k_ ≠ (.slice (some ad211) t208.length co11 : Value).ownBlock) (fun _ => False) rfl rfl ?aO ?aR (fun _ _ h => h) (fun _ h => h.elim) ?aF ?aB ?aS ?aL ?_; (case aR => repeat (first | exact (by repeat (first | (with_reducible exact HR236.out) | (with_reducible refine Kd.C_alloc ?_ _) | (with_reducible refine Kd.C_drewN ?_ _) | (with_reducible refine Kd.C_drew ?_) | exact HR236.out)) | (with_reducible refine Kd.C_alloc ?_ _) | (with_reducible refine Kd.C_drewN ?_ _) | (with_reducible refine Kd.C_drew ?_))); (case aB => exact (bel_ HB.out)); (case aF => exact (fun k_ hk => ⟨Kd.fresh' (Kd.R_lt (fr_ HO_4.out)) k_ hk, Kd.fresh' (Kd.R_lt (fr_ HO_5.out)) k_ hk⟩)); (case aO => exact (by (with_reducible repeat (first | apply Kd.R_alloc | apply Kd.R_drewN | apply Kd.R_drew)); exact Kd.R_mono HO232.out (fun _ hk => ⟨hk.1.2, hk.2⟩))); (case aS => exact (below_size (bel_ HB.out))); (case aL => have := LMc34.out; omega); intro v238 w44 ho hb hg hat; rw [← Ny237.out] at ho; have n0_ := Aside0.mk (Kd.R_after (ok := (fun k_ => some k_ ≠ (.slice (some ad211) t208.length co11 : Value).ownBlock)) (fr_ HO_4.out) hg hat); have n1_ := Aside0.mk (Kd.R_after (ok := (fun k_ => some k_ ≠ (.slice (some ad218) x4_2.length co35 : Value).ownBlock)) (fr_ HO_5.out) hg hat); have n2_ := Aside0.mk (Kd.R_over' (fr_ HO226.out) (Kd.R_typed (fr_ HO232.out)) (by decide) hg); have n3_ := Aside0.mk (Kd.R_over' (fr_ HO229.out) (Kd.R_typed (fr_ HO232.out)) (by decide) hg); have n4_ := Aside0.mk (hb); have n5_ := Aside0.mk ((show Kd.C (Kd.int .i64) w44 A43 y233.length y233 from by rw [Ny233.out, KA43.out]; exact Kd.C_drop (m := 1) (c := co35) ((Kd.R_reads' (Kd.R_after (ok := (fun k_ => some k_ ≠ (.slice (some ad211) t208.length co11 : Value).ownBlock)) (fr_ HO_4.out) hg hat)).2.2) KL43.out ((Kd.R_reads' (Kd.R_after (ok := (fun k_ => some k_ ≠ (.slice (some ad211) t208.length co11 : Value).ownBlock)) (fr_ HO_4.out) hg hat)).2.1))); have n6_ := Aside0.mk (ho); clear HO_4; clear HO_5; clear HO226; clear HO229; clear HB; clear HR236; clear HO232; have HO_4 := n0_; have HO_5 := n1_; have HO226 := n2_; have HO229 := n3_; have HB := n4_; have HR236 := n5_; have HO239 := n6_; clear n0_ n1_ n2_ n3_ n4_ n5_ n6_; clear ho hb hg hat))
                    (first | go_roundg k2 | (simp only [← hji17, ← hji20, ← hji24]; go_roundg k2))
                    case measure => have := HK1.out; have := HK2.out; omega
                    case rel => exact ⟨(y227), (y237), H', ⟨by have := HK1.out; have := HK2.out; omega⟩, ⟨by (with_reducible repeat (first | apply Kd.R_alloc | apply Kd.R_drewN | apply Kd.R_drew)); exact Kd.R_mono HO229.out (fun _ hk => trivial)⟩, ⟨by (with_reducible repeat (first | apply Kd.R_alloc | apply Kd.R_drewN | apply Kd.R_drew)); exact Kd.R_mono HO239.out (fun _ hk => hk.2)⟩, ⟨by (with_reducible repeat (first | apply Kd.R_alloc | apply Kd.R_drewN | apply Kd.R_drew)); exact Kd.R_mono HO_5.out (fun _ hk => hk.2)⟩, ⟨bel_ HB.out⟩⟩
                   ·rw [if_neg c34] at H
                    exact absurd H (by simp)
                  ·rw [if_neg c33] at H
                   exact absurd H (by simp)
                 ·rw [if_neg c32] at H
                  exact absurd H (by simp)
                ·rw [if_neg c31] at H
                 have c31b0 : ((x4_2.length : Int) == 3) = false := beq_eq_false_iff_ne.mpr c31
                 have c31b1 : ((x4_2.length : Int) != 3) = true := bne_iff_ne.mpr c31
                 obtain ⟨y240, hy240⟩ : ∃ y_ : List (S38), y_ = (([(⟨t223, false⟩ : S38)] : List (S38))) := ⟨_, rfl⟩
                 replace H : (if x3_2.length + y240.length < 8796093022208 then ((some (([] : List Int) : List Int)).bind fun y246 => (if (ji24) ≤ (x4_2.length : Int) then ((some (x4_2.take ((ji24) : Int).toNat : List Int)).bind fun y249 => (if y246.length + y249.length < 17592186044416 then ((some (y246 ++ y249 : List Int)).bind fun y253 => ((some (([rd x4_2 (ji17)] : List Int) : List Int)).bind fun y257 => (if y253.length + y257.length < 17592186044416 then (spec_Swings.l1 k2 (x3_2 ++ y240) (y253 ++ y257) t208 x6_1) else (none)))) else (none))) else (none))) else (none)) = some r := by first | (rw [hy240]; with_reducible exact H) | (have H2_ := (Option.bind_some _ _).symm.trans H; rw [hy240]; with_reducible exact H2_) | (have H2_ := (Option.bind_some _ _).symm.trans H; with_reducible exact H2_) | with_reducible exact H | (rw [hy240]; exact H) | exact H
                 have Ny240 := Aside0.mk hy240
                 clear hy240
                 by_cases c45 : x3_2.length + y240.length < 8796093022208
                 ·rw [if_pos c45] at H
                  have LMc45 := Aside0.mk c45
                  clear c45
                  obtain ⟨y243, hy243⟩ : ∃ y_ : List (S38), y_ = (x3_2 ++ y240) := ⟨_, rfl⟩
                  replace H : ((some (([] : List Int) : List Int)).bind fun y246 => (if (ji24) ≤ (x4_2.length : Int) then ((some (x4_2.take ((ji24) : Int).toNat : List Int)).bind fun y249 => (if y246.length + y249.length < 17592186044416 then ((some (y246 ++ y249 : List Int)).bind fun y253 => ((some (([rd x4_2 (ji17)] : List Int) : List Int)).bind fun y257 => (if y253.length + y257.length < 17592186044416 then (spec_Swings.l1 k2 y243 (y253 ++ y257) t208 x6_1) else (none)))) else (none))) else (none))) = some r := by first | (rw [hy243]; with_reducible exact H) | (have H2_ := (Option.bind_some _ _).symm.trans H; rw [hy243]; with_reducible exact H2_) | (have H2_ := (Option.bind_some _ _).symm.trans H; with_reducible exact H2_) | with_reducible exact H | (rw [hy243]; exact H) | exact H
                  have Ny243 := Aside0.mk hy243
                  clear hy243
                  obtain ⟨y246, hy246⟩ : ∃ y_ : List Int, y_ = (([] : List Int)) := ⟨_, rfl⟩
                  replace H : (if (ji24) ≤ (x4_2.length : Int) then ((some (x4_2.take ((ji24) : Int).toNat : List Int)).bind fun y249 => (if y246.length + y249.length < 17592186044416 then ((some (y246 ++ y249 : List Int)).bind fun y253 => ((some (([rd x4_2 (ji17)] : List Int) : List Int)).bind fun y257 => (if y253.length + y257.length < 17592186044416 then (spec_Swings.l1 k2 y243 (y253 ++ y257) t208 x6_1) else (none)))) else (none))) else (none)) = some r := by first | (rw [hy246]; with_reducible exact H) | (have H2_ := (Option.bind_some _ _).symm.trans H; rw [hy246]; with_reducible exact H2_) | (have H2_ := (Option.bind_some _ _).symm.trans H; with_reducible exact H2_) | with_reducible exact H | (rw [hy246]; exact H) | exact H
                  have Ny246 := Aside0.mk hy246
                  clear hy246
                  have c46b0 := eq_true (of_decide_eq_true (by first | (with_reducible assumption) | assumption) : 0 ≤ (ji24))
                  by_cases c47 : (ji24) ≤ (x4_2.length : Int)
                  ·rw [if_pos c47] at H
                   have c47b0 := eq_true c47
                   have c47b1 : decide ((ji24) ≤ (x4_2.length : Int)) = true := decide_eq_true c47
                   clear c47
                   obtain ⟨y249, hy249⟩ : ∃ y_ : List Int, y_ = (x4_2.take ((ji24) : Int).toNat) := ⟨_, rfl⟩
                   replace H : (if y246.length + y249.length < 17592186044416 then ((some (y246 ++ y249 : List Int)).bind fun y253 => ((some (([rd x4_2 (ji17)] : List Int) : List Int)).bind fun y257 => (if y253.length + y257.length < 17592186044416 then (spec_Swings.l1 k2 y243 (y253 ++ y257) t208 x6_1) else (none)))) else (none)) = some r := by first | (rw [hy249]; with_reducible exact H) | (have H2_ := (Option.bind_some _ _).symm.trans H; rw [hy249]; with_reducible exact H2_) | (have H2_ := (Option.bind_some _ _).symm.trans H; with_reducible exact H2_) | with_reducible exact H | (rw [hy249]; exact H) | exact H
                   have Ny249 := Aside0.mk hy249
                   clear hy249
                   by_cases c48 : y246.length + y249.length < 17592186044416
                   ·rw [if_pos c48] at H
                    have LMc48 := Aside0.mk c48
                    clear c48
                    obtain ⟨y253, hy253⟩ : ∃ y_ : List Int, y_ = (y246 ++ y249) := ⟨_, rfl⟩
                    replace H : ((some (([rd x4_2 (ji17)] : List Int) : List Int)).bind fun y257 => (if y253.length + y257.length < 17592186044416 then (spec_Swings.l1 k2 y243 (y253 ++ y257) t208 x6_1) else (none))) = some r := by first | (rw [hy253]; with_reducible exact H) | (have H2_ := (Option.bind_some _ _).symm.trans H; rw [hy253]; with_reducible exact H2_) | (have H2_ := (Option.bind_some _ _).symm.trans H; with_reducible exact H2_) | with_reducible exact H | (rw [hy253]; exact H) | exact H
                    have Ny253 := Aside0.mk hy253
                    clear hy253
                    obtain ⟨y257, hy257⟩ : ∃ y_ : List Int, y_ = (([rd x4_2 (ji17)] : List Int)) := ⟨_, rfl⟩
                    replace H : (if y253.length + y257.length < 17592186044416 then (spec_Swings.l1 k2 y243 (y253 ++ y257) t208 x6_1) else (none)) = some r := by first | (rw [hy257]; with_reducible exact H) | (have H2_ := (Option.bind_some _ _).symm.trans H; rw [hy257]; with_reducible exact H2_) | (have H2_ := (Option.bind_some _ _).symm.trans H; with_reducible exact H2_) | with_reducible exact H | (rw [hy257]; exact H) | exact H
                    have Ny257 := Aside0.mk hy257
                    clear hy257
                    by_cases c49 : y253.length + y257.length < 17592186044416
                    ·rw [if_pos c49] at H
                     have LMc49 := Aside0.mk c49
                     clear c49
                     obtain ⟨y260, hy260⟩ : ∃ y_ : List Int, y_ = (y253 ++ y257) := ⟨_, rfl⟩
                     replace H : (spec_Swings.l1 k2 y243 y260 t208 x6_1) = some r := by first | (rw [hy260]; with_reducible exact H) | (have H2_ := (Option.bind_some _ _).symm.trans H; rw [hy260]; with_reducible exact H2_) | (have H2_ := (Option.bind_some _ _).symm.trans H; with_reducible exact H2_) | with_reducible exact H | (rw [hy260]; exact H) | exact H
                     have Ny260 := Aside0.mk hy260
                     clear hy260
                     have H' := Aside0.mk H
                     clear H
                     obtain ⟨Ao50, co50, eo50⟩ := Kd.R_slice HO_4.out
                     subst eo50
                     try go_wp2
                     have n0_ := Aside0.mk (Kd.R_drew HO_3.out)
                     have n1_ := Aside0.mk (Kd.R_drew HO_4.out)
                     have n2_ := Aside0.mk (Kd.R_drew HO_5.out)
                     have n3_ := Aside0.mk (below_drew1 HB.out)
                     clear HO_3
                     clear HO_4
                     clear HO_5
                     clear HB
                     have HO_3 := n0_
                     have HO_4 := n1_
                     have HO_5 := n2_
                     have HB := n3_
                     clear n0_ n1_ n2_ n3_
                     have p218 : 0 ≤ ((ji17) : Int) := of_decide_eq_true (by first | (with_reducible assumption) | assumption)
                     have q218 : (ji17) < (x4_2.length : Int) := of_decide_eq_true (by first | (with_reducible assumption) | assumption)
                     obtain ⟨ad218, e218, hx218_0⟩ := Kd.at_int (Kd.R_reads' HO_4.out).2.2 (ji17) p218 q218
                     cases e218
                     replace p218 := eq_true p218
                     replace q218 := eq_true q218
                     have p219 : 0 ≤ ((ji20) : Int) := of_decide_eq_true (by first | (with_reducible assumption) | assumption)
                     have q219 : (ji20) < (x4_2.length : Int) := of_decide_eq_true (by first | (with_reducible assumption) | assumption)
                     obtain ⟨ad219, e219, hx219_0⟩ := Kd.at_int (Kd.R_reads' HO_4.out).2.2 (ji20) p219 q219
                     obtain rfl : ad218 = ad219 := (by injection e219)
                     replace p219 := eq_true p219
                     replace q219 := eq_true q219
                     have p221 : 0 ≤ ((ji20) : Int) := of_decide_eq_true (by first | (with_reducible assumption) | assumption)
                     have q221 : (ji20) < (x4_2.length : Int) := of_decide_eq_true (by first | (with_reducible assumption) | assumption)
                     obtain ⟨ad221, e221, hx221_0⟩ := Kd.at_int (Kd.R_reads' HO_4.out).2.2 (ji20) p221 q221
                     obtain rfl : ad218 = ad221 := (by injection e221)
                     replace p221 := eq_true p221
                     replace q221 := eq_true q221
                     have p222 : 0 ≤ ((ji24) : Int) := of_decide_eq_true (by first | (with_reducible assumption) | assumption)
                     have q222 : (ji24) < (x4_2.length : Int) := of_decide_eq_true (by first | (with_reducible assumption) | assumption)
                     obtain ⟨ad222, e222, hx222_0⟩ := Kd.at_int (Kd.R_reads' HO_4.out).2.2 (ji24) p222 q222
                     obtain rfl : ad218 = ad222 := (by injection e222)
                     replace p222 := eq_true p222
                     replace q222 := eq_true q222
                     refine start_ (n := 26) (S := fun w' => w'.cell? (ad218.add ((ji17)).toNat) = some (.int .i64 (rd x4_2 (ji17))) ∧ w'.cell? (ad218.add ((ji20)).toNat) = some (.int .i64 (rd x4_2 (ji20))) ∧ w'.cell? (ad218.add ((ji20)).toNat) = some (.int .i64 (rd x4_2 (ji20))) ∧ w'.cell? (ad218.add ((ji24)).toNat) = some (.int .i64 (rd x4_2 (ji24)))) (ds := []) (bs 26 0) (by kernel_rfl) rfl rfl ⟨hx218_0, hx219_0, hx221_0, hx222_0⟩ (fun hHeld => ?_); refine with_tabW spec_Swings.tab10 spec_Swings.bits10 (fun HT_ HW_ => ?_)
                     generalize wr.drew = w51 at HO_3 HO_4 HO_5 HB hx218_0 hx219_0 hx221_0 hx222_0 hHeld ⊢
                     refine pu_ 0 33 HT_ (bs 26 1) rfl rfl ?_
                     refine pu_ 1 34 HT_ (bs 26 3) rfl rfl ?_
                     refine pu_ 2 35 HT_ (bs 26 7) rfl rfl ?_
                     refine pu_ 3 36 HT_ (bs 26 15) rfl rfl ?_
                     refine pu_ 5 38 HT_ (bs 26 47) rfl rfl ?_
                     refine pu_ 6 39 HT_ (bs 26 111) rfl rfl ?_
                     refine pu_ 7 40 HT_ (bs 26 239) rfl rfl ?_
                     refine pu_ 8 41 HT_ (bs 26 495) rfl rfl ?_
                     refine pu_ 12 45 HT_ (bs 26 4591) rfl rfl ?_
                     refine pu_ 13 46 HT_ (bs 26 12783) rfl rfl ?_
                     refine pu_ 14 47 HT_ (bs 26 29167) rfl rfl ?_
                     refine pu_ 15 48 HT_ (bs 26 61935) rfl rfl ?_
                     refine pu_ 17 50 HT_ (bs 26 193007) rfl rfl ?_
                     refine pu_ 18 51 HT_ (bs 26 455151) rfl rfl ?_
                     refine pu_ 19 52 HT_ (bs 26 979439) rfl rfl ?_
                     refine pu_ 20 53 HT_ (bs 26 2028015) rfl rfl ?_
                     refine take_ (i := 4) (N := some 37) (v := ?_) (a' := ?_) (bs 26 2028031) rfl rfl (take_ofW HT_.out HW_.out (by kernel_rfl)) (fun _ _ _ h => h) (Or.inl ⟨by rfl, ?_⟩) hHeld ?_ ?_
                     rotate_left
                     ·rintro w' ⟨s0, s1, s2, s3⟩
                      go_simp
                      with_reducible rfl
                     rotate_left
                     ·simp only [Act.put, sA_, sZ_, sS_, i64_w, i32_w]
                      rfl
                     refine take_ (i := 9) (N := some 42) (v := ?_) (a' := ?_) (bs 26 2028543) rfl rfl (take_ofW HT_.out HW_.out (by kernel_rfl)) (fun _ _ _ h => h) (Or.inl ⟨by rfl, ?_⟩) hHeld ?_ ?_
                     rotate_left
                     ·rintro w' ⟨s0, s1, s2, s3⟩
                      go_simp
                      with_reducible rfl
                     rotate_left
                     ·simp only [Act.put, sA_, sZ_, sS_, i64_w, i32_w]
                      rfl
                     refine pu_ 10 43 HT_ (bs 26 2029567) rfl rfl ?_
                     refine take_ (i := 16) (N := some 49) (v := ?_) (a' := ?_) (bs 26 2095103) rfl rfl (take_ofW HT_.out HW_.out (by kernel_rfl)) (fun _ _ _ h => h) (Or.inl ⟨by rfl, ?_⟩) hHeld ?_ ?_
                     rotate_left
                     ·rintro w' ⟨s0, s1, s2, s3⟩
                      go_simp
                      with_reducible rfl
                     rotate_left
                     ·simp only [Act.put, sA_, sZ_, sS_, i64_w, i32_w]
                      rfl
                     refine take_ (i := 21) (N := some 54) (v := ?_) (a' := ?_) (bs 26 4192255) rfl rfl (take_ofW HT_.out HW_.out (by kernel_rfl)) (fun _ _ _ h => h) (Or.inl ⟨by rfl, ?_⟩) hHeld ?_ ?_
                     rotate_left
                     ·rintro w' ⟨s0, s1, s2, s3⟩
                      go_simp
                      with_reducible rfl
                     rotate_left
                     ·simp only [Act.put, sA_, sZ_, sS_, i64_w, i32_w]
                      rfl
                     refine pu_ 22 55 HT_ (bs 26 8386559) rfl rfl ?_
                     refine one_ (i := 11) (N := some 44) (bs 26 8388607) rfl rfl (one_of HT_.out (by kernel_rfl)) (by decide) (fun K hK => ?_)
                     refine goes_ Try.func46 (by kernel_rfl) rfl #[.int .i64 (wrap64 ((rd x4_2 (ji17)) - (rd x4_2 (ji20))))] (by rfl) rfl rfl (by (try simp only [List.map_toArray, List.map_cons, List.map_nil]); first | done | (simp only [hji17, hji20]; rfl) | rfl | (simp only [List.length_drop, List.length_take]; rfl)) ?_
                     with_reducible refine (spec_l3Size.calls (wrap64 ((rd x4_2 (ji17)) - (rd x4_2 (ji20)))) t220 _ A23.out).mono ?_
                     rintro e w' ⟨rfl, ⟨nd, rfl⟩⟩
                     refine ⟨_, rfl, ?_⟩
                     refine hK.out _ _ ⟨hHeld.1, hHeld.2.1, hHeld.2.2.1, hHeld.2.2.2⟩ (fun hHeld => ?_)
                     clear hK K
                     refine norm_ (a' := ?_) ?_ ?_
                     rotate_left
                     ·show Act.put _ (some 44) _ = _
                      simp only [Act.put, sA_, sZ_, sS_, i64_w, i32_w]
                      rfl
                     refine one_ (i := 23) (N := some 56) (bs 26 16777215) rfl rfl (one_of HT_.out (by kernel_rfl)) (by decide) (fun K hK => ?_)
                     refine goes_ Try.func46 (by kernel_rfl) rfl #[.int .i64 (wrap64 ((rd x4_2 (ji20)) - (rd x4_2 (ji24))))] (by rfl) rfl rfl (by (try simp only [List.map_toArray, List.map_cons, List.map_nil]); first | done | (simp only [hji20, hji24]; rfl) | rfl | (simp only [List.length_drop, List.length_take]; rfl)) ?_
                     with_reducible refine (spec_l3Size.calls (wrap64 ((rd x4_2 (ji20)) - (rd x4_2 (ji24)))) t223 _ A27.out).mono ?_
                     rintro e w' ⟨rfl, ⟨nd, rfl⟩⟩
                     refine ⟨_, rfl, ?_⟩
                     refine hK.out _ _ ⟨hHeld.1, hHeld.2.1, hHeld.2.2.1, hHeld.2.2.2⟩ (fun hHeld => ?_)
                     clear hK K
                     refine norm_ (a' := ?_) ?_ ?_
                     rotate_left
                     ·show Act.put _ (some 56) _ = _
                      simp only [Act.put, sA_, sZ_, sS_, i64_w, i32_w]
                      rfl
                     refine pu_ 24 8 HT_ (bs 26 33554431) rfl rfl ?_
                     refine pu_ 25 9 HT_ (bs 26 67108863) rfl rfl ?_
                     refine done_ (done_of HT_.out (by kernel_rfl)) ?_
                     try go_wp2_with (first | ((with_reducible refine gate_dst (N := 74) rfl ?_); refine Kd.R_lit k38 _ 38 ?hg (N := 74) ?hd (xs := ([(⟨t223, false⟩ : S38)] : List (S38))) (inner := [.int .i64 t223, .bool false]) (ok := fun _ => True) (okp := fun _ => True) ?hr ?hp (fun _ hk => hk) trivial (Below.refl _ _) (Nat.le_refl _) (by simp) ?_; (case hd => rfl); (case hg => rfl); (case hr => first | (go_simp; done) | (go_simp; rfl)); (case hp => exact (Reps.c2 (show Kd.M k38 _ _ _ (⟨t223, false⟩ : S38) [.int .i64 t223, .bool false] from (k38_mkM _ _ _ (⟨t223, false⟩ : S38) )) (Reps.none _ _))); intro v241 w52 ho53 hb hg_ hnew_; clear hg_ hnew_; (first | rw [← Ny240.out] at ho53 | (simp only [Int.reduceToNat] at ho53; rw [← Ny240.out] at ho53)); have n0_ := Aside0.mk (Kd.R_elder' (fr_ HO_3.out) (Kd.R_base ho53) hb); have n1_ := Aside0.mk (Kd.R_below (fr_ HO_4.out) hb); have n2_ := Aside0.mk (Kd.R_below (fr_ HO_5.out) hb); have n3_ := Aside0.mk (Kd.R_lower (Kd.R_new' ho53 (Kd.R_lt (fr_ HO_3.out))) (below_size (bel_ HB.out))); have n4_ := Aside0.mk (below_step (bel_ HB.out) hb); clear HO_3; clear HO_4; clear HO_5; clear HB; have HO_3 := n0_; have HO_4 := n1_; have HO_5 := n2_; have HO242 := n3_; have HB := n4_; clear n0_ n1_ n2_ n3_ n4_; clear hb ho53; obtain ⟨Ao55, co55, eo55⟩ := Kd.R_slice HO242.out; subst eo55) | ((with_reducible refine gate_builtin (b := .append) (xs := #[.tmp 71, .tmp 74]) rfl ?_); at_builtin; refine Kd.R_append_rows k38 (w0 := w) w.heap.size rfl (.tmp 71) (.tmp 74) 35 38 (.agg #[(.int .i64 0), (.bool false)]) 16 rfl Try.underlying35 info38 rfl (by decide) (by omega) u3 x3_2 y240 _ _ _ (fun k_ => some k_ ≠ (.slice Ao55 y240.length co55 : Value).ownBlock) (fun _ => False) rfl rfl ?aO ?aR (fun _ _ h => h) (fun _ h => h.elim) ?aF ?aB ?aS ?aL ?_; (case aR => repeat (first | exact (Kd.R_reads' HO242.out).2.2 | (with_reducible refine Kd.C_alloc ?_ _) | (with_reducible refine Kd.C_drewN ?_ _) | (with_reducible refine Kd.C_drew ?_))); (case aB => exact (bel_ HB.out)); (case aF => exact (fun k_ hk => Kd.fresh' (Kd.R_lt (fr_ HO242.out)) k_ hk)); (case aO => exact (by (with_reducible repeat (first | apply Kd.R_alloc | apply Kd.R_drewN | apply Kd.R_drew)); exact Kd.R_mono HO_3.out (fun _ hk => hk.2))); (case aS => exact (below_size (bel_ HB.out))); (case aL => have := LMc45.out; omega); intro v244 w54 ho hb hg hat; rw [← Ny243.out] at ho; have n0_ := Aside0.mk (Kd.R_over' (fr_ HO_4.out) (Kd.R_typed (fr_ HO_3.out)) (by decide) hg); have n1_ := Aside0.mk (Kd.R_over' (fr_ HO_5.out) (Kd.R_typed (fr_ HO_3.out)) (by decide) hg); have n2_ := Aside0.mk (Kd.R_after (ok := (fun _ => True)) (fr_ HO242.out) hg hat); have n3_ := Aside0.mk (hb); have n4_ := Aside0.mk (ho); clear HO_4; clear HO_5; clear HO242; clear HB; clear HO_3; have HO_4 := n0_; have HO_5 := n1_; have HO242 := n2_; have HB := n3_; have HO245 := n4_; clear n0_ n1_ n2_ n3_ n4_; clear ho hb hg hat))
                     have n0_ := Aside0.mk (Kd.R_drew HO_4.out)
                     have n1_ := Aside0.mk (Kd.R_drew HO_5.out)
                     have n2_ := Aside0.mk (Kd.R_drew HO242.out)
                     have n3_ := Aside0.mk (Kd.R_drew HO245.out)
                     have n4_ := Aside0.mk (below_drew1 HB.out)
                     clear HO_4
                     clear HO_5
                     clear HO242
                     clear HO245
                     clear HB
                     have HO_4 := n0_
                     have HO_5 := n1_
                     have HO242 := n2_
                     have HO245 := n3_
                     have HB := n4_
                     clear n0_ n1_ n2_ n3_ n4_
                     have q57 : ((ji24) : Int) ≤ ((x4_2.length : Int) : Int) := of_decide_eq_true (by first | (with_reducible assumption) | assumption)
                     obtain ⟨i057, hi057, _, hsz57, _⟩ := info_parts info3
                     have hroom57 : x4_2.length ≤ co50 := (Kd.R_reads' HO_4.out).2.1
                     have hC57 : Kd.C (Kd.int .i64) _ (some ad218) x4_2.length x4_2 := (Kd.R_reads' HO_4.out).2.2
                     have hcut57 := cut_to (P := Try.prog) 24 3 .i64 Try.underlying24 hi057 (some ad218) x4_2.length co50 (ji24) (of_decide_eq_true (by first | (with_reducible assumption) | assumption)) q57 hroom57
                     have hr57 := Kd.C_take (m := ((ji24) : Int).toNat) hC57 (by omega)
                     have hy57 : y249.length = ((ji24) : Int).toNat := (by rw [Ny249.out, List.length_take]; omega)
                     rw [← Ny249.out] at hr57
                     rw [← hy57] at hcut57
                     have HR252 := Aside0.mk hr57
                     have HC252 := Aside0.mk (show y249.length ≤ co50 from by omega)
                     clear hr57 hC57 hroom57 hi057 hsz57
                     have KY57 := Aside0.mk hy57
                     clear hy57
                     have KL57 := Aside0.mk (show ((ji24) : Int).toNat ≤ x4_2.length from by omega)
                     replace q57 := eq_true q57
                     have p256 : 0 ≤ ((ji17) : Int) := of_decide_eq_true (by first | (with_reducible assumption) | assumption)
                     have q256 : (ji17) < (x4_2.length : Int) := of_decide_eq_true (by first | (with_reducible assumption) | assumption)
                     obtain ⟨ad256, e256, hx256_0⟩ := Kd.at_int (Kd.R_reads' HO_4.out).2.2 (ji17) p256 q256
                     obtain rfl : ad218 = ad256 := (by injection e256)
                     replace p256 := eq_true p256
                     replace q256 := eq_true q256
                     refine start_ (n := 14) (S := fun w' => w'.cell? (ad218.add ((ji17)).toNat) = some (.int .i64 (rd x4_2 (ji17)))) (ds := []) (bs 14 0) (by kernel_rfl) rfl rfl (hx256_0) (fun hHeld => ?_); refine with_tabW spec_Swings.tab16 spec_Swings.bits16 (fun HT_ HW_ => ?_)
                     generalize w54.drew = w56 at HO_4 HO_5 HO242 HO245 HB HR252 hx256_0 hHeld ⊢
                     refine pu_ 1 77 HT_ (bs 14 2) rfl rfl ?_
                     refine pu_ 2 78 HT_ (bs 14 6) rfl rfl ?_
                     refine pu_ 3 79 HT_ (bs 14 14) rfl rfl ?_
                     refine pu_ 4 80 HT_ (bs 14 30) rfl rfl ?_
                     refine pu_ 6 82 HT_ (bs 14 94) rfl rfl ?_
                     refine pu_ 7 83 HT_ (bs 14 222) rfl rfl ?_
                     refine pu_ 8 84 HT_ (bs 14 478) rfl rfl ?_
                     refine pu_ 9 85 HT_ (bs 14 990) rfl rfl ?_
                     refine take_ (i := 10) (N := some 86) (v := ?_) (a' := ?_) (bs 14 2014) rfl rfl (take_ofW HT_.out HW_.out (by kernel_rfl)) (fun _ _ _ h => h) (Or.inl ⟨by rfl, ?_⟩) hHeld ?_ ?_
                     rotate_left
                     ·intro w' s0
                      go_simp
                      with_reducible rfl
                     rotate_left
                     ·simp only [Act.put, sA_, sZ_, sS_, i64_w, i32_w]
                      rfl
                     refine join_ (σ := Value × Value × Value) 2 (bs 14 4095) (fun s_ => [(76, s_.1), (81, s_.2.1), (87, s_.2.2)]) (fun s_ w' => (w'.cell? (ad218.add ((ji17)).toNat) = some (.int .i64 (rd x4_2 (ji17)))) ∧ (Kd.R k38 38 w' w.heap.size (fun k_ => some k_ ≠ (v244 : Value).ownBlock) (.slice Ao55 y240.length co55) y240) ∧ (Kd.R k38 38 w' w.heap.size (fun k_ => some k_ ≠ (.slice Ao55 y240.length co55 : Value).ownBlock) v244 y243) ∧ (Kd.R (Kd.int .i64) 3 w' w.heap.size (fun k_ => some k_ ≠ (s_.2.2 : Value).ownBlock ∧ some k_ ≠ (.slice (some ad218) x4_2.length co50 : Value).ownBlock ∧ some k_ ≠ (.slice (some ad211) t208.length co11 : Value).ownBlock) s_.2.1 y253) ∧ (Kd.R (Kd.int .i64) 3 w' w.heap.size (fun k_ => some k_ ≠ (s_.2.1 : Value).ownBlock ∧ some k_ ≠ (.slice (some ad218) x4_2.length co50 : Value).ownBlock ∧ some k_ ≠ (.slice (some ad211) t208.length co11 : Value).ownBlock) s_.2.2 y257) ∧ (Kd.R (Kd.int .i64) 3 w' w.heap.size (fun k_ => some k_ ≠ (s_.2.1 : Value).ownBlock ∧ some k_ ≠ (s_.2.2 : Value).ownBlock ∧ some k_ ≠ (.slice (some ad211) t208.length co11 : Value).ownBlock) (.slice (some ad218) x4_2.length co50) x4_2) ∧ (Kd.R (Kd.int .i64) 3 w' w.heap.size (fun k_ => some k_ ≠ (s_.2.1 : Value).ownBlock ∧ some k_ ≠ (s_.2.2 : Value).ownBlock ∧ some k_ ≠ (.slice (some ad218) x4_2.length co50 : Value).ownBlock) (.slice (some ad211) t208.length co11) t208) ∧ (Below w.heap.size w w')) ?_ ?_
                     rotate_left
                     ·intro hCont
                      refine two_ (i := 0) (j := 11) (Ni := some 76) (Nj := some 87) (bs 14 2015) (bs 14 4062) rfl rfl rfl rfl (two_of HT_.out (by kernel_rfl)) (by decide) (by decide) (fun K hK => ?_) (fun K hK => ?_)
                      ·skip
                       refine Kd.R_lit_step (Kd.int .i64) _ 3 ?hg (N := 76) ?hd (xs := ([] : List Int)) (inner := []) (ok := fun _ => True) (okp := fun _ => True) ?hr ?hp (fun _ hk => hk) trivial (Below.refl _ _) (Nat.le_refl _) (by simp) ?_; (case hd => rfl); (case hg => rfl); (case hr => first | (go_simp; done) | (go_simp; rfl)); (case hp => exact (Reps.none _ _))
                       intro v247 w58 ho59 hb hg_ hnew_
                       have HS0_ := (hb.cell (World.block_lt_of_cell? _ _ (hHeld))).trans (hHeld)
                       clear hg_ hnew_
                       (first | rw [← Ny246.out] at ho59 | (simp only [Int.reduceToNat] at ho59; rw [← Ny246.out] at ho59))
                       have n0_ := Aside0.mk (Kd.R_elder' (fr_ HO_4.out) (Kd.R_base ho59) hb)
                       have n1_ := Aside0.mk (Kd.R_elder' (fr_ HO_5.out) (Kd.R_base ho59) hb)
                       have n2_ := Aside0.mk (Kd.R_below (fr_ HO242.out) hb)
                       have n3_ := Aside0.mk (Kd.R_below (fr_ HO245.out) hb)
                       have n4_ := Aside0.mk (Kd.R_lower (Kd.R_new' (Kd.R_new' ho59 (Kd.R_lt (fr_ HO_4.out))) (Kd.R_lt (fr_ HO_5.out))) (below_size (bel_ HB.out)))
                       have n5_ := Aside0.mk (Kd.C_below (by repeat (first | (with_reducible exact HR252.out) | (with_reducible refine Kd.C_alloc ?_ _) | (with_reducible refine Kd.C_drewN ?_ _) | (with_reducible refine Kd.C_drew ?_) | exact HR252.out)) hb)
                       have n6_ := Aside0.mk (below_step (bel_ HB.out) hb)
                       clear HO_4
                       clear HO_5
                       clear HO242
                       clear HO245
                       clear HR252
                       clear HB
                       have HO_4 := n0_
                       have HO_5 := n1_
                       have HO242 := n2_
                       have HO245 := n3_
                       have HO248 := n4_
                       have HR252 := n5_
                       have HB := n6_
                       clear n0_ n1_ n2_ n3_ n4_ n5_ n6_
                       clear hb ho59
                       refine hK.out _ _ (HS0_) (fun hHeld => ?_)
                       clear hK K
                       refine norm_ (a' := ?_) ?_ ?_
                       rotate_left
                       ·show Act.put _ (some 76) _ = _
                        simp only [Act.put, sA_, sZ_, sS_, i64_w, i32_w]
                        rfl
                       refine two_ (i := 5) (j := 11) (Ni := some 81) (Nj := some 87) (bs 14 2047) (bs 14 4063) rfl rfl rfl rfl (two_of HT_.out (by kernel_rfl)) (by decide) (by decide) (fun K hK => ?_) (fun K hK => ?_)
                       ·skip
                        refine Kd.R_append_rows_step (Kd.int .i64) (w0 := w) w.heap.size (by rfl) (.tmp 76) (.tmp 80) 24 3 (.int .i64 0) 8 rfl Try.underlying24 info3 rfl (by decide) (by omega) v247 y246 y249 _ _ _ (fun k_ => some k_ ≠ (.slice (some ad218) x4_2.length co50 : Value).ownBlock ∧ some k_ ≠ (.slice (some ad211) t208.length co11 : Value).ownBlock) (fun _ => False) rfl rfl ?aO ?aR (fun _ _ h => h) (fun _ h => h.elim) ?aF ?aB ?aS ?aL ?_
                        (case aR => repeat (first | exact (by repeat (first | (with_reducible exact HR252.out) | (with_reducible refine Kd.C_alloc ?_ _) | (with_reducible refine Kd.C_drewN ?_ _) | (with_reducible refine Kd.C_drew ?_) | exact HR252.out)) | (with_reducible refine Kd.C_alloc ?_ _) | (with_reducible refine Kd.C_drewN ?_ _) | (with_reducible refine Kd.C_drew ?_)))
                        (case aB => exact (bel_ HB.out))
                        (case aF => exact (fun k_ hk => ⟨Kd.fresh' (Kd.R_lt (fr_ HO_4.out)) k_ hk, Kd.fresh' (Kd.R_lt (fr_ HO_5.out)) k_ hk⟩))
                        (case aO => exact (by (with_reducible repeat (first | apply Kd.R_alloc | apply Kd.R_drewN | apply Kd.R_drew)); exact Kd.R_mono HO248.out (fun _ hk => ⟨hk.1.2, hk.2⟩)))
                        (case aS => exact (below_size (bel_ HB.out)))
                        (case aL => have := LMc48.out; omega)
                        intro v254 w60 ho hb hg hat
                        have HS0_ := cell_grown hg (hHeld) (by first | (rw [add_block]; exact (fun e_ => (by have h_ := (HO248.out.1 _ e_.symm); first | exact h_ rfl | exact h_.1 rfl | exact h_.2 rfl | exact h_.1.1 rfl | exact h_.1.2 rfl | exact h_.2.1 rfl | exact h_.2.2 rfl | exact h_.1.1.1 rfl | exact h_.1.1.2 rfl | exact h_.1.2.1 rfl | exact h_.1.2.2 rfl | exact h_.2.1.1 rfl | exact h_.2.1.2 rfl | exact h_.2.2.1 rfl | exact h_.2.2.2 rfl))) | (show some (Addr.add _ _).block ≠ _; rw [add_block]; exact (fun e_ => (by have h_ := (HO248.out.1 _ e_.symm); first | exact h_ rfl | exact h_.1 rfl | exact h_.2 rfl | exact h_.1.1 rfl | exact h_.1.2 rfl | exact h_.2.1 rfl | exact h_.2.2 rfl | exact h_.1.1.1 rfl | exact h_.1.1.2 rfl | exact h_.1.2.1 rfl | exact h_.1.2.2 rfl | exact h_.2.1.1 rfl | exact h_.2.1.2 rfl | exact h_.2.2.1 rfl | exact h_.2.2.2 rfl))) | exact (fun e_ => (by have h_ := (HO248.out.1 _ e_.symm); first | exact h_ rfl | exact h_.1 rfl | exact h_.2 rfl | exact h_.1.1 rfl | exact h_.1.2 rfl | exact h_.2.1 rfl | exact h_.2.2 rfl | exact h_.1.1.1 rfl | exact h_.1.1.2 rfl | exact h_.1.2.1 rfl | exact h_.1.2.2 rfl | exact h_.2.1.1 rfl | exact h_.2.1.2 rfl | exact h_.2.2.1 rfl | exact h_.2.2.2 rfl)))
                        rw [← Ny253.out] at ho
                        have n0_ := Aside0.mk (Kd.R_after (ok := (fun k_ => some k_ ≠ (.slice (some ad211) t208.length co11 : Value).ownBlock)) (fr_ HO_4.out) hg hat)
                        have n1_ := Aside0.mk (Kd.R_after (ok := (fun k_ => some k_ ≠ (.slice (some ad218) x4_2.length co50 : Value).ownBlock)) (fr_ HO_5.out) hg hat)
                        have n2_ := Aside0.mk (Kd.R_over' (fr_ HO242.out) (Kd.R_typed (fr_ HO248.out)) (by decide) hg)
                        have n3_ := Aside0.mk (Kd.R_over' (fr_ HO245.out) (Kd.R_typed (fr_ HO248.out)) (by decide) hg)
                        have n4_ := Aside0.mk (hb)
                        have n5_ := Aside0.mk ((show Kd.C (Kd.int .i64) w60 (some ad218) y249.length y249 from by rw [Ny249.out]; exact Kd.C_take (m := ((ji24) : Int).toNat) ((Kd.R_reads' (Kd.R_after (ok := (fun k_ => some k_ ≠ (.slice (some ad211) t208.length co11 : Value).ownBlock)) (fr_ HO_4.out) hg hat)).2.2) KL57.out))
                        have n6_ := Aside0.mk (ho)
                        clear HO_4
                        clear HO_5
                        clear HO242
                        clear HO245
                        clear HB
                        clear HR252
                        clear HO248
                        have HO_4 := n0_
                        have HO_5 := n1_
                        have HO242 := n2_
                        have HO245 := n3_
                        have HB := n4_
                        have HR252 := n5_
                        have HO255 := n6_
                        clear n0_ n1_ n2_ n3_ n4_ n5_ n6_
                        clear ho hb hg hat
                        refine hK.out _ _ (HS0_) (fun hHeld => ?_)
                        clear hK K
                        refine norm_ (a' := ?_) ?_ ?_
                        rotate_left
                        ·show Act.put _ (some 81) _ = _
                         simp only [Act.put, sA_, sZ_, sS_, i64_w, i32_w]
                         rfl
                        refine one_ (i := 11) (N := some 87) (bs 14 4095) rfl rfl (one_of HT_.out (by kernel_rfl)) (by decide) (fun K hK => ?_)
                        refine Kd.R_lit_step (Kd.int .i64) _ 3 ?hg (N := 87) ?hd (xs := ([rd x4_2 (ji17)] : List Int)) (inner := [.int .i64 (rd x4_2 (ji17))]) (ok := fun _ => True) (okp := fun _ => True) ?hr ?hp (fun _ hk => hk) trivial (Below.refl _ _) (Nat.le_refl _) (by simp) ?_; (case hd => rfl); (case hg => rfl); (case hr => first | (go_simp; done) | (go_simp; rfl)); (case hp => exact (Reps.one (show Kd.M (Kd.int .i64) _ _ _ (rd x4_2 (ji17)) [.int .i64 (rd x4_2 (ji17))] from rfl) (Reps.none _ _)))
                        intro v258 w61 ho62 hb hg_ hnew_
                        have HS0_ := (hb.cell (World.block_lt_of_cell? _ _ (hHeld))).trans (hHeld)
                        clear hg_ hnew_
                        (first | rw [← Ny257.out] at ho62 | (simp only [Int.reduceToNat] at ho62; rw [← Ny257.out] at ho62))
                        have n0_ := Aside0.mk (Kd.R_elder' (fr_ HO_4.out) (Kd.R_base ho62) hb)
                        have n1_ := Aside0.mk (Kd.R_elder' (fr_ HO_5.out) (Kd.R_base ho62) hb)
                        have n2_ := Aside0.mk (Kd.R_below (fr_ HO242.out) hb)
                        have n3_ := Aside0.mk (Kd.R_below (fr_ HO245.out) hb)
                        have n4_ := Aside0.mk (Kd.R_elder' (fr_ HO255.out) (Kd.R_base ho62) hb)
                        have n5_ := Aside0.mk (Kd.R_lower (Kd.R_new' (Kd.R_new' (Kd.R_new' ho62 (Kd.R_lt (fr_ HO_4.out))) (Kd.R_lt (fr_ HO_5.out))) (Kd.R_lt (fr_ HO255.out))) (below_size (bel_ HB.out)))
                        have n6_ := Aside0.mk (Kd.C_below (by repeat (first | (with_reducible exact HR252.out) | (with_reducible refine Kd.C_alloc ?_ _) | (with_reducible refine Kd.C_drewN ?_ _) | (with_reducible refine Kd.C_drew ?_) | exact HR252.out)) hb)
                        have n7_ := Aside0.mk (below_step (bel_ HB.out) hb)
                        clear HO_4
                        clear HO_5
                        clear HO242
                        clear HO245
                        clear HO255
                        clear HR252
                        clear HB
                        have HO_4 := n0_
                        have HO_5 := n1_
                        have HO242 := n2_
                        have HO245 := n3_
                        have HO255 := n4_
                        have HO259 := n5_
                        have HR252 := n6_
                        have HB := n7_
                        clear n0_ n1_ n2_ n3_ n4_ n5_ n6_ n7_
                        clear hb ho62
                        refine hK.out _ _ (HS0_) (fun hHeld => ?_)
                        clear hK K
                        refine norm_ (a' := ?_) ?_ ?_
                        rotate_left
                        ·show Act.put _ (some 87) _ = _
                         simp only [Act.put, sA_, sZ_, sS_, i64_w, i32_w]
                         rfl
                        exact norm_ (by simp only [putAll, Act.put, sA_, sZ_, sS_]) (hCont (v247, v254, v258) _ ⟨hHeld, (by (with_reducible repeat (first | apply Kd.R_alloc | apply Kd.R_drewN | apply Kd.R_drew)); exact Kd.R_mono HO242.out (fun _ hk => hk.2)), (fr_ HO245.out), (by (with_reducible repeat (first | apply Kd.R_alloc | apply Kd.R_drewN | apply Kd.R_drew)); exact Kd.R_mono HO255.out (fun _ hk => ⟨hk.2, ⟨hk.1.1, hk.1.2⟩⟩)), (by (with_reducible repeat (first | apply Kd.R_alloc | apply Kd.R_drewN | apply Kd.R_drew)); exact Kd.R_mono HO259.out (fun _ hk => ⟨hk.2, ⟨hk.1.1.2, hk.1.2⟩⟩)), (by (with_reducible repeat (first | apply Kd.R_alloc | apply Kd.R_drewN | apply Kd.R_drew)); exact Kd.R_mono HO_4.out (fun _ hk => ⟨hk.1.2, ⟨hk.2, hk.1.1⟩⟩)), (by (with_reducible repeat (first | apply Kd.R_alloc | apply Kd.R_drewN | apply Kd.R_drew)); exact Kd.R_mono HO_5.out (fun _ hk => ⟨hk.1.2, ⟨hk.2, hk.1.1⟩⟩)), (bel_ HB.out)⟩)
                       ·skip
                        refine Kd.R_lit_step (Kd.int .i64) _ 3 ?hg (N := 87) ?hd (xs := ([rd x4_2 (ji17)] : List Int)) (inner := [.int .i64 (rd x4_2 (ji17))]) (ok := fun _ => True) (okp := fun _ => True) ?hr ?hp (fun _ hk => hk) trivial (Below.refl _ _) (Nat.le_refl _) (by simp) ?_; (case hd => rfl); (case hg => rfl); (case hr => first | (go_simp; done) | (go_simp; rfl)); (case hp => exact (Reps.one (show Kd.M (Kd.int .i64) _ _ _ (rd x4_2 (ji17)) [.int .i64 (rd x4_2 (ji17))] from rfl) (Reps.none _ _)))
                        intro v258 w60 ho61 hb hg_ hnew_
                        have HS0_ := (hb.cell (World.block_lt_of_cell? _ _ (hHeld))).trans (hHeld)
                        clear hg_ hnew_
                        (first | rw [← Ny257.out] at ho61 | (simp only [Int.reduceToNat] at ho61; rw [← Ny257.out] at ho61))
                        have n0_ := Aside0.mk (Kd.R_elder' (fr_ HO_4.out) (Kd.R_base ho61) hb)
                        have n1_ := Aside0.mk (Kd.R_elder' (fr_ HO_5.out) (Kd.R_base ho61) hb)
                        have n2_ := Aside0.mk (Kd.R_below (fr_ HO242.out) hb)
                        have n3_ := Aside0.mk (Kd.R_below (fr_ HO245.out) hb)
                        have n4_ := Aside0.mk (Kd.R_elder' (fr_ HO248.out) (Kd.R_base ho61) hb)
                        have n5_ := Aside0.mk (Kd.R_lower (Kd.R_new' (Kd.R_new' (Kd.R_new' ho61 (Kd.R_lt (fr_ HO_4.out))) (Kd.R_lt (fr_ HO_5.out))) (Kd.R_lt (fr_ HO248.out))) (below_size (bel_ HB.out)))
                        have n6_ := Aside0.mk (Kd.C_below (by repeat (first | (with_reducible exact HR252.out) | (with_reducible refine Kd.C_alloc ?_ _) | (with_reducible refine Kd.C_drewN ?_ _) | (with_reducible refine Kd.C_drew ?_) | exact HR252.out)) hb)
                        have n7_ := Aside0.mk (below_step (bel_ HB.out) hb)
                        clear HO_4
                        clear HO_5
                        clear HO242
                        clear HO245
                        clear HO248
                        clear HR252
                        clear HB
                        have HO_4 := n0_
                        have HO_5 := n1_
                        have HO242 := n2_
                        have HO245 := n3_
                        have HO248 := n4_
                        have HO259 := n5_
                        have HR252 := n6_
                        have HB := n7_
                        clear n0_ n1_ n2_ n3_ n4_ n5_ n6_ n7_
                        clear hb ho61
                        refine hK.out _ _ (HS0_) (fun hHeld => ?_)
                        clear hK K
                        refine norm_ (a' := ?_) ?_ ?_
                        rotate_left
                        ·show Act.put _ (some 87) _ = _
                         simp only [Act.put, sA_, sZ_, sS_, i64_w, i32_w]
                         rfl
                        refine one_ (i := 5) (N := some 81) (bs 14 4095) rfl rfl (one_of HT_.out (by kernel_rfl)) (by decide) (fun K hK => ?_)
                        refine Kd.R_append_rows_step (Kd.int .i64) (w0 := w) w.heap.size (by rfl) (.tmp 76) (.tmp 80) 24 3 (.int .i64 0) 8 rfl Try.underlying24 info3 rfl (by decide) (by omega) v247 y246 y249 _ _ _ (fun k_ => some k_ ≠ (.slice (some ad218) x4_2.length co50 : Value).ownBlock ∧ some k_ ≠ (.slice (some ad211) t208.length co11 : Value).ownBlock ∧ some k_ ≠ (v258 : Value).ownBlock) (fun _ => False) rfl rfl ?aO ?aR (fun _ _ h => h) (fun _ h => h.elim) ?aF ?aB ?aS ?aL ?_
                        (case aR => repeat (first | exact (by repeat (first | (with_reducible exact HR252.out) | (with_reducible refine Kd.C_alloc ?_ _) | (with_reducible refine Kd.C_drewN ?_ _) | (with_reducible refine Kd.C_drew ?_) | exact HR252.out)) | (with_reducible refine Kd.C_alloc ?_ _) | (with_reducible refine Kd.C_drewN ?_ _) | (with_reducible refine Kd.C_drew ?_)))
                        (case aB => exact (bel_ HB.out))
                        (case aF => exact (fun k_ hk => ⟨Kd.fresh' (Kd.R_lt (fr_ HO_4.out)) k_ hk, Kd.fresh' (Kd.R_lt (fr_ HO_5.out)) k_ hk, Kd.fresh' (Kd.R_lt (fr_ HO259.out)) k_ hk⟩))
                        (case aO => exact (by (with_reducible repeat (first | apply Kd.R_alloc | apply Kd.R_drewN | apply Kd.R_drew)); exact Kd.R_mono HO248.out (fun _ hk => ⟨hk.1.1.2, ⟨hk.1.2, hk.2⟩⟩)))
                        (case aS => exact (below_size (bel_ HB.out)))
                        (case aL => have := LMc48.out; omega)
                        intro v254 w62 ho hb hg hat
                        have HS0_ := cell_grown hg (hHeld) (by first | (rw [add_block]; exact (fun e_ => (by have h_ := (HO248.out.1 _ e_.symm); first | exact h_ rfl | exact h_.1 rfl | exact h_.2 rfl | exact h_.1.1 rfl | exact h_.1.2 rfl | exact h_.2.1 rfl | exact h_.2.2 rfl | exact h_.1.1.1 rfl | exact h_.1.1.2 rfl | exact h_.1.2.1 rfl | exact h_.1.2.2 rfl | exact h_.2.1.1 rfl | exact h_.2.1.2 rfl | exact h_.2.2.1 rfl | exact h_.2.2.2 rfl))) | (show some (Addr.add _ _).block ≠ _; rw [add_block]; exact (fun e_ => (by have h_ := (HO248.out.1 _ e_.symm); first | exact h_ rfl | exact h_.1 rfl | exact h_.2 rfl | exact h_.1.1 rfl | exact h_.1.2 rfl | exact h_.2.1 rfl | exact h_.2.2 rfl | exact h_.1.1.1 rfl | exact h_.1.1.2 rfl | exact h_.1.2.1 rfl | exact h_.1.2.2 rfl | exact h_.2.1.1 rfl | exact h_.2.1.2 rfl | exact h_.2.2.1 rfl | exact h_.2.2.2 rfl))) | exact (fun e_ => (by have h_ := (HO248.out.1 _ e_.symm); first | exact h_ rfl | exact h_.1 rfl | exact h_.2 rfl | exact h_.1.1 rfl | exact h_.1.2 rfl | exact h_.2.1 rfl | exact h_.2.2 rfl | exact h_.1.1.1 rfl | exact h_.1.1.2 rfl | exact h_.1.2.1 rfl | exact h_.1.2.2 rfl | exact h_.2.1.1 rfl | exact h_.2.1.2 rfl | exact h_.2.2.1 rfl | exact h_.2.2.2 rfl)))
                        rw [← Ny253.out] at ho
                        have n0_ := Aside0.mk (Kd.R_after (ok := (fun k_ => some k_ ≠ (.slice (some ad211) t208.length co11 : Value).ownBlock ∧ some k_ ≠ (v258 : Value).ownBlock)) (by (with_reducible repeat (first | apply Kd.R_alloc | apply Kd.R_drewN | apply Kd.R_drew)); exact Kd.R_mono HO_4.out (fun _ hk => ⟨⟨hk.1.1, hk.2⟩, hk.1.2⟩)) hg hat)
                        have n1_ := Aside0.mk (Kd.R_after (ok := (fun k_ => some k_ ≠ (.slice (some ad218) x4_2.length co50 : Value).ownBlock ∧ some k_ ≠ (v258 : Value).ownBlock)) (by (with_reducible repeat (first | apply Kd.R_alloc | apply Kd.R_drewN | apply Kd.R_drew)); exact Kd.R_mono HO_5.out (fun _ hk => ⟨⟨hk.1.1, hk.2⟩, hk.1.2⟩)) hg hat)
                        have n2_ := Aside0.mk (Kd.R_over' (fr_ HO242.out) (Kd.R_typed (fr_ HO248.out)) (by decide) hg)
                        have n3_ := Aside0.mk (Kd.R_over' (fr_ HO245.out) (Kd.R_typed (fr_ HO248.out)) (by decide) hg)
                        have n4_ := Aside0.mk (Kd.R_after (ok := (fun k_ => some k_ ≠ (.slice (some ad218) x4_2.length co50 : Value).ownBlock ∧ some k_ ≠ (.slice (some ad211) t208.length co11 : Value).ownBlock)) (by (with_reducible repeat (first | apply Kd.R_alloc | apply Kd.R_drewN | apply Kd.R_drew)); exact Kd.R_mono HO259.out (fun _ hk => ⟨⟨hk.1.1.2, hk.1.2⟩, hk.2⟩)) hg hat)
                        have n5_ := Aside0.mk (hb)
                        have n6_ := Aside0.mk ((show Kd.C (Kd.int .i64) w62 (some ad218) y249.length y249 from by rw [Ny249.out]; exact Kd.C_take (m := ((ji24) : Int).toNat) ((Kd.R_reads' (Kd.R_after (ok := (fun k_ => some k_ ≠ (.slice (some ad211) t208.length co11 : Value).ownBlock ∧ some k_ ≠ (v258 : Value).ownBlock)) (by (with_reducible repeat (first | apply Kd.R_alloc | apply Kd.R_drewN | apply Kd.R_drew)); exact Kd.R_mono HO_4.out (fun _ hk => ⟨⟨hk.1.1, hk.2⟩, hk.1.2⟩)) hg hat)).2.2) KL57.out))
                        have n7_ := Aside0.mk (ho)
                        clear HO_4
                        clear HO_5
                        clear HO242
                        clear HO245
                        clear HO259
                        clear HB
                        clear HR252
                        clear HO248
                        have HO_4 := n0_
                        have HO_5 := n1_
                        have HO242 := n2_
                        have HO245 := n3_
                        have HO259 := n4_
                        have HB := n5_
                        have HR252 := n6_
                        have HO255 := n7_
                        clear n0_ n1_ n2_ n3_ n4_ n5_ n6_ n7_
                        clear ho hb hg hat
                        refine hK.out _ _ (HS0_) (fun hHeld => ?_)
                        clear hK K
                        refine norm_ (a' := ?_) ?_ ?_
                        rotate_left
                        ·show Act.put _ (some 81) _ = _
                         simp only [Act.put, sA_, sZ_, sS_, i64_w, i32_w]
                         rfl
                        exact norm_ (by simp only [putAll, Act.put, sA_, sZ_, sS_]) (hCont (v247, v254, v258) _ ⟨hHeld, (by (with_reducible repeat (first | apply Kd.R_alloc | apply Kd.R_drewN | apply Kd.R_drew)); exact Kd.R_mono HO242.out (fun _ hk => hk.2)), (fr_ HO245.out), (by (with_reducible repeat (first | apply Kd.R_alloc | apply Kd.R_drewN | apply Kd.R_drew)); exact Kd.R_mono HO255.out (fun _ hk => ⟨hk.2.2, ⟨hk.1, hk.2.1⟩⟩)), (by (with_reducible repeat (first | apply Kd.R_alloc | apply Kd.R_drewN | apply Kd.R_drew)); exact Kd.R_mono HO259.out (fun _ hk => ⟨hk.2, ⟨hk.1.1, hk.1.2⟩⟩)), (by (with_reducible repeat (first | apply Kd.R_alloc | apply Kd.R_drewN | apply Kd.R_drew)); exact Kd.R_mono HO_4.out (fun _ hk => ⟨hk.2, ⟨hk.1.2, hk.1.1⟩⟩)), (by (with_reducible repeat (first | apply Kd.R_alloc | apply Kd.R_drewN | apply Kd.R_drew)); exact Kd.R_mono HO_5.out (fun _ hk => ⟨hk.2, ⟨hk.1.2, hk.1.1⟩⟩)), (bel_ HB.out)⟩)
                      ·skip
                       refine Kd.R_lit_step (Kd.int .i64) _ 3 ?hg (N := 87) ?hd (xs := ([rd x4_2 (ji17)] : List Int)) (inner := [.int .i64 (rd x4_2 (ji17))]) (ok := fun _ => True) (okp := fun _ => True) ?hr ?hp (fun _ hk => hk) trivial (Below.refl _ _) (Nat.le_refl _) (by simp) ?_; (case hd => rfl); (case hg => rfl); (case hr => first | (go_simp; done) | (go_simp; rfl)); (case hp => exact (Reps.one (show Kd.M (Kd.int .i64) _ _ _ (rd x4_2 (ji17)) [.int .i64 (rd x4_2 (ji17))] from rfl) (Reps.none _ _)))
                       intro v258 w58 ho59 hb hg_ hnew_
                       have HS0_ := (hb.cell (World.block_lt_of_cell? _ _ (hHeld))).trans (hHeld)
                       clear hg_ hnew_
                       (first | rw [← Ny257.out] at ho59 | (simp only [Int.reduceToNat] at ho59; rw [← Ny257.out] at ho59))
                       have n0_ := Aside0.mk (Kd.R_elder' (fr_ HO_4.out) (Kd.R_base ho59) hb)
                       have n1_ := Aside0.mk (Kd.R_elder' (fr_ HO_5.out) (Kd.R_base ho59) hb)
                       have n2_ := Aside0.mk (Kd.R_below (fr_ HO242.out) hb)
                       have n3_ := Aside0.mk (Kd.R_below (fr_ HO245.out) hb)
                       have n4_ := Aside0.mk (Kd.R_lower (Kd.R_new' (Kd.R_new' ho59 (Kd.R_lt (fr_ HO_4.out))) (Kd.R_lt (fr_ HO_5.out))) (below_size (bel_ HB.out)))
                       have n5_ := Aside0.mk (Kd.C_below (by repeat (first | (with_reducible exact HR252.out) | (with_reducible refine Kd.C_alloc ?_ _) | (with_reducible refine Kd.C_drewN ?_ _) | (with_reducible refine Kd.C_drew ?_) | exact HR252.out)) hb)
                       have n6_ := Aside0.mk (below_step (bel_ HB.out) hb)
                       clear HO_4
                       clear HO_5
                       clear HO242
                       clear HO245
                       clear HR252
                       clear HB
                       have HO_4 := n0_
                       have HO_5 := n1_
                       have HO242 := n2_
                       have HO245 := n3_
                       have HO259 := n4_
                       have HR252 := n5_
                       have HB := n6_
                       clear n0_ n1_ n2_ n3_ n4_ n5_ n6_
                       clear hb ho59
                       refine hK.out _ _ (HS0_) (fun hHeld => ?_)
                       clear hK K
                       refine norm_ (a' := ?_) ?_ ?_
                       rotate_left
                       ·show Act.put _ (some 87) _ = _
                        simp only [Act.put, sA_, sZ_, sS_, i64_w, i32_w]
                        rfl
                       refine one_ (i := 0) (N := some 76) (bs 14 4063) rfl rfl (one_of HT_.out (by kernel_rfl)) (by decide) (fun K hK => ?_)
                       refine Kd.R_lit_step (Kd.int .i64) _ 3 ?hg (N := 76) ?hd (xs := ([] : List Int)) (inner := []) (ok := fun _ => True) (okp := fun _ => True) ?hr ?hp (fun _ hk => hk) trivial (Below.refl _ _) (Nat.le_refl _) (by simp) ?_; (case hd => rfl); (case hg => rfl); (case hr => first | (go_simp; done) | (go_simp; rfl)); (case hp => exact (Reps.none _ _))
                       intro v247 w60 ho61 hb hg_ hnew_
                       have HS0_ := (hb.cell (World.block_lt_of_cell? _ _ (hHeld))).trans (hHeld)
                       clear hg_ hnew_
                       (first | rw [← Ny246.out] at ho61 | (simp only [Int.reduceToNat] at ho61; rw [← Ny246.out] at ho61))
                       have n0_ := Aside0.mk (Kd.R_elder' (fr_ HO_4.out) (Kd.R_base ho61) hb)
                       have n1_ := Aside0.mk (Kd.R_elder' (fr_ HO_5.out) (Kd.R_base ho61) hb)
                       have n2_ := Aside0.mk (Kd.R_below (fr_ HO242.out) hb)
                       have n3_ := Aside0.mk (Kd.R_below (fr_ HO245.out) hb)
                       have n4_ := Aside0.mk (Kd.R_elder' (fr_ HO259.out) (Kd.R_base ho61) hb)
                       have n5_ := Aside0.mk (Kd.R_lower (Kd.R_new' (Kd.R_new' (Kd.R_new' ho61 (Kd.R_lt (fr_ HO_4.out))) (Kd.R_lt (fr_ HO_5.out))) (Kd.R_lt (fr_ HO259.out))) (below_size (bel_ HB.out)))
                       have n6_ := Aside0.mk (Kd.C_below (by repeat (first | (with_reducible exact HR252.out) | (with_reducible refine Kd.C_alloc ?_ _) | (with_reducible refine Kd.C_drewN ?_ _) | (with_reducible refine Kd.C_drew ?_) | exact HR252.out)) hb)
                       have n7_ := Aside0.mk (below_step (bel_ HB.out) hb)
                       clear HO_4
                       clear HO_5
                       clear HO242
                       clear HO245
                       clear HO259
                       clear HR252
                       clear HB
                       have HO_4 := n0_
                       have HO_5 := n1_
                       have HO242 := n2_
                       have HO245 := n3_
                       have HO259 := n4_
                       have HO248 := n5_
                       have HR252 := n6_
                       have HB := n7_
                       clear n0_ n1_ n2_ n3_ n4_ n5_ n6_ n7_
                       clear hb ho61
                       refine hK.out _ _ (HS0_) (fun hHeld => ?_)
                       clear hK K
                       refine norm_ (a' := ?_) ?_ ?_
                       rotate_left
                       ·show Act.put _ (some 76) _ = _
                        simp only [Act.put, sA_, sZ_, sS_, i64_w, i32_w]
                        rfl
                       refine one_ (i := 5) (N := some 81) (bs 14 4095) rfl rfl (one_of HT_.out (by kernel_rfl)) (by decide) (fun K hK => ?_)
                       refine Kd.R_append_rows_step (Kd.int .i64) (w0 := w) w.heap.size (by rfl) (.tmp 76) (.tmp 80) 24 3 (.int .i64 0) 8 rfl Try.underlying24 info3 rfl (by decide) (by omega) v247 y246 y249 _ _ _ (fun k_ => some k_ ≠ (.slice (some ad218) x4_2.length co50 : Value).ownBlock ∧ some k_ ≠ (.slice (some ad211) t208.length co11 : Value).ownBlock ∧ some k_ ≠ (v258 : Value).ownBlock) (fun _ => False) rfl rfl ?aO ?aR (fun _ _ h => h) (fun _ h => h.elim) ?aF ?aB ?aS ?aL ?_
                       (case aR => repeat (first | exact (by repeat (first | (with_reducible exact HR252.out) | (with_reducible refine Kd.C_alloc ?_ _) | (with_reducible refine Kd.C_drewN ?_ _) | (with_reducible refine Kd.C_drew ?_) | exact HR252.out)) | (with_reducible refine Kd.C_alloc ?_ _) | (with_reducible refine Kd.C_drewN ?_ _) | (with_reducible refine Kd.C_drew ?_)))
                       (case aB => exact (bel_ HB.out))
                       (case aF => exact (fun k_ hk => ⟨Kd.fresh' (Kd.R_lt (fr_ HO_4.out)) k_ hk, Kd.fresh' (Kd.R_lt (fr_ HO_5.out)) k_ hk, Kd.fresh' (Kd.R_lt (fr_ HO259.out)) k_ hk⟩))
                       (case aO => exact (by (with_reducible repeat (first | apply Kd.R_alloc | apply Kd.R_drewN | apply Kd.R_drew)); exact Kd.R_mono HO248.out (fun _ hk => ⟨hk.1.1.2, ⟨hk.1.2, hk.2⟩⟩)))
                       (case aS => exact (below_size (bel_ HB.out)))
                       (case aL => have := LMc48.out; omega)
                       intro v254 w62 ho hb hg hat
                       have HS0_ := cell_grown hg (hHeld) (by first | (rw [add_block]; exact (fun e_ => (by have h_ := (HO248.out.1 _ e_.symm); first | exact h_ rfl | exact h_.1 rfl | exact h_.2 rfl | exact h_.1.1 rfl | exact h_.1.2 rfl | exact h_.2.1 rfl | exact h_.2.2 rfl | exact h_.1.1.1 rfl | exact h_.1.1.2 rfl | exact h_.1.2.1 rfl | exact h_.1.2.2 rfl | exact h_.2.1.1 rfl | exact h_.2.1.2 rfl | exact h_.2.2.1 rfl | exact h_.2.2.2 rfl))) | (show some (Addr.add _ _).block ≠ _; rw [add_block]; exact (fun e_ => (by have h_ := (HO248.out.1 _ e_.symm); first | exact h_ rfl | exact h_.1 rfl | exact h_.2 rfl | exact h_.1.1 rfl | exact h_.1.2 rfl | exact h_.2.1 rfl | exact h_.2.2 rfl | exact h_.1.1.1 rfl | exact h_.1.1.2 rfl | exact h_.1.2.1 rfl | exact h_.1.2.2 rfl | exact h_.2.1.1 rfl | exact h_.2.1.2 rfl | exact h_.2.2.1 rfl | exact h_.2.2.2 rfl))) | exact (fun e_ => (by have h_ := (HO248.out.1 _ e_.symm); first | exact h_ rfl | exact h_.1 rfl | exact h_.2 rfl | exact h_.1.1 rfl | exact h_.1.2 rfl | exact h_.2.1 rfl | exact h_.2.2 rfl | exact h_.1.1.1 rfl | exact h_.1.1.2 rfl | exact h_.1.2.1 rfl | exact h_.1.2.2 rfl | exact h_.2.1.1 rfl | exact h_.2.1.2 rfl | exact h_.2.2.1 rfl | exact h_.2.2.2 rfl)))
                       rw [← Ny253.out] at ho
                       have n0_ := Aside0.mk (Kd.R_after (ok := (fun k_ => some k_ ≠ (.slice (some ad211) t208.length co11 : Value).ownBlock ∧ some k_ ≠ (v258 : Value).ownBlock)) (fr_ HO_4.out) hg hat)
                       have n1_ := Aside0.mk (Kd.R_after (ok := (fun k_ => some k_ ≠ (.slice (some ad218) x4_2.length co50 : Value).ownBlock ∧ some k_ ≠ (v258 : Value).ownBlock)) (fr_ HO_5.out) hg hat)
                       have n2_ := Aside0.mk (Kd.R_over' (fr_ HO242.out) (Kd.R_typed (fr_ HO248.out)) (by decide) hg)
                       have n3_ := Aside0.mk (Kd.R_over' (fr_ HO245.out) (Kd.R_typed (fr_ HO248.out)) (by decide) hg)
                       have n4_ := Aside0.mk (Kd.R_after (ok := (fun k_ => some k_ ≠ (.slice (some ad218) x4_2.length co50 : Value).ownBlock ∧ some k_ ≠ (.slice (some ad211) t208.length co11 : Value).ownBlock)) (by (with_reducible repeat (first | apply Kd.R_alloc | apply Kd.R_drewN | apply Kd.R_drew)); exact Kd.R_mono HO259.out (fun _ hk => ⟨⟨hk.1.1.2, hk.1.2⟩, hk.2⟩)) hg hat)
                       have n5_ := Aside0.mk (hb)
                       have n6_ := Aside0.mk ((show Kd.C (Kd.int .i64) w62 (some ad218) y249.length y249 from by rw [Ny249.out]; exact Kd.C_take (m := ((ji24) : Int).toNat) ((Kd.R_reads' (Kd.R_after (ok := (fun k_ => some k_ ≠ (.slice (some ad211) t208.length co11 : Value).ownBlock ∧ some k_ ≠ (v258 : Value).ownBlock)) (fr_ HO_4.out) hg hat)).2.2) KL57.out))
                       have n7_ := Aside0.mk (ho)
                       clear HO_4
                       clear HO_5
                       clear HO242
                       clear HO245
                       clear HO259
                       clear HB
                       clear HR252
                       clear HO248
                       have HO_4 := n0_
                       have HO_5 := n1_
                       have HO242 := n2_
                       have HO245 := n3_
                       have HO259 := n4_
                       have HB := n5_
                       have HR252 := n6_
                       have HO255 := n7_
                       clear n0_ n1_ n2_ n3_ n4_ n5_ n6_ n7_
                       clear ho hb hg hat
                       refine hK.out _ _ (HS0_) (fun hHeld => ?_)
                       clear hK K
                       refine norm_ (a' := ?_) ?_ ?_
                       rotate_left
                       ·show Act.put _ (some 81) _ = _
                        simp only [Act.put, sA_, sZ_, sS_, i64_w, i32_w]
                        rfl
                       exact norm_ (by simp only [putAll, Act.put, sA_, sZ_, sS_]) (hCont (v247, v254, v258) _ ⟨hHeld, (by (with_reducible repeat (first | apply Kd.R_alloc | apply Kd.R_drewN | apply Kd.R_drew)); exact Kd.R_mono HO242.out (fun _ hk => hk.2)), (fr_ HO245.out), (by (with_reducible repeat (first | apply Kd.R_alloc | apply Kd.R_drewN | apply Kd.R_drew)); exact Kd.R_mono HO255.out (fun _ hk => ⟨hk.2.2, ⟨hk.1, hk.2.1⟩⟩)), (by (with_reducible repeat (first | apply Kd.R_alloc | apply Kd.R_drewN | apply Kd.R_drew)); exact Kd.R_mono HO259.out (fun _ hk => ⟨hk.2, ⟨hk.1.1, hk.1.2⟩⟩)), (by (with_reducible repeat (first | apply Kd.R_alloc | apply Kd.R_drewN | apply Kd.R_drew)); exact Kd.R_mono HO_4.out (fun _ hk => ⟨hk.2, ⟨hk.1.2, hk.1.1⟩⟩)), (by (with_reducible repeat (first | apply Kd.R_alloc | apply Kd.R_drewN | apply Kd.R_drew)); exact Kd.R_mono HO_5.out (fun _ hk => ⟨hk.2, ⟨hk.1.2, hk.1.1⟩⟩)), (bel_ HB.out)⟩)
                     rintro ⟨v247, v254, v258⟩ w63 ⟨hS_, h0_, h1_, h2_, h3_, h4_, h5_, h6_⟩
                     have n0_ : Aside0 (Kd.R k38 38 w63 w.heap.size (fun k_ => some k_ ≠ (v244 : Value).ownBlock) (.slice Ao55 y240.length co55) y240) := ⟨h0_⟩
                     have n1_ : Aside0 (Kd.R k38 38 w63 w.heap.size (fun k_ => some k_ ≠ (.slice Ao55 y240.length co55 : Value).ownBlock) v244 y243) := ⟨h1_⟩
                     have n2_ : Aside0 (Kd.R (Kd.int .i64) 3 w63 w.heap.size (fun k_ => some k_ ≠ (v258 : Value).ownBlock ∧ some k_ ≠ (.slice (some ad218) x4_2.length co50 : Value).ownBlock ∧ some k_ ≠ (.slice (some ad211) t208.length co11 : Value).ownBlock) v254 y253) := ⟨h2_⟩
                     have n3_ : Aside0 (Kd.R (Kd.int .i64) 3 w63 w.heap.size (fun k_ => some k_ ≠ (v254 : Value).ownBlock ∧ some k_ ≠ (.slice (some ad218) x4_2.length co50 : Value).ownBlock ∧ some k_ ≠ (.slice (some ad211) t208.length co11 : Value).ownBlock) v258 y257) := ⟨h3_⟩
                     have n4_ : Aside0 (Kd.R (Kd.int .i64) 3 w63 w.heap.size (fun k_ => some k_ ≠ (v254 : Value).ownBlock ∧ some k_ ≠ (v258 : Value).ownBlock ∧ some k_ ≠ (.slice (some ad211) t208.length co11 : Value).ownBlock) (.slice (some ad218) x4_2.length co50) x4_2) := ⟨h4_⟩
                     have n5_ : Aside0 (Kd.R (Kd.int .i64) 3 w63 w.heap.size (fun k_ => some k_ ≠ (v254 : Value).ownBlock ∧ some k_ ≠ (v258 : Value).ownBlock ∧ some k_ ≠ (.slice (some ad218) x4_2.length co50 : Value).ownBlock) (.slice (some ad211) t208.length co11) t208) := ⟨h5_⟩
                     have n6_ : Aside0 (Below w.heap.size w w63) := ⟨h6_⟩
                     clear HO_4
                     clear HO_5
                     clear HO242
                     clear HO245
                     clear HB
                     clear h0_ h1_ h2_ h3_ h4_ h5_ h6_
                     have HO242 := n0_
                     have HO245 := n1_
                     have HO255 := n2_
                     have HO259 := n3_
                     have HO_4 := n4_
                     have HO_5 := n5_
                     have HB := n6_
                     clear n0_ n1_ n2_ n3_ n4_ n5_ n6_
                     have hHeld : w63.cell? (ad218.add ((ji17)).toNat) = some (.int .i64 (rd x4_2 (ji17))) := hS_
                     obtain ⟨Ao65, co65, eo65⟩ := Kd.R_slice HO259.out
                     (first | subst eo65 | (injection eo65 with f1_ f2_ f3_; have f4_ := f1_.symm; have f5_ := f3_.symm; clear f1_ f2_ f3_; subst f4_; subst f5_))
                     refine norm_ (a' := ?_) ?_ ?_
                     rotate_left
                     ·simp only [putAll, Act.put, sA_, sZ_, sS_]
                      rfl
                     refine one_ (i := 12) (N := some 88) (bs 14 8191) rfl rfl (one_of HT_.out (by kernel_rfl)) (by decide) (fun K hK => ?_)
                     refine Kd.R_append_rows_step (Kd.int .i64) (w0 := w) w.heap.size (by rfl) (.tmp 81) (.tmp 87) 24 3 (.int .i64 0) 8 rfl Try.underlying24 info3 rfl (by decide) (by omega) v254 y253 y257 _ _ _ (fun k_ => some k_ ≠ (.slice (some ad218) x4_2.length co50 : Value).ownBlock ∧ some k_ ≠ (.slice (some ad211) t208.length co11 : Value).ownBlock ∧ some k_ ≠ (.slice Ao65 y257.length co65 : Value).ownBlock) (fun _ => False) rfl rfl ?aO ?aR (fun _ _ h => h) (fun _ h => h.elim) ?aF ?aB ?aS ?aL ?_
                     (case aR => repeat (first | exact (Kd.R_reads' HO259.out).2.2 | (with_reducible refine Kd.C_alloc ?_ _) | (with_reducible refine Kd.C_drewN ?_ _) | (with_reducible refine Kd.C_drew ?_)))
                     (case aB => exact (bel_ HB.out))
                     (case aF => exact (fun k_ hk => ⟨Kd.fresh' (Kd.R_lt (fr_ HO_4.out)) k_ hk, Kd.fresh' (Kd.R_lt (fr_ HO_5.out)) k_ hk, Kd.fresh' (Kd.R_lt (fr_ HO259.out)) k_ hk⟩))
                     (case aO => exact (by (with_reducible repeat (first | apply Kd.R_alloc | apply Kd.R_drewN | apply Kd.R_drew)); exact Kd.R_mono HO255.out (fun _ hk => ⟨hk.2.1, ⟨hk.2.2, hk.1⟩⟩)))
                     (case aS => exact (below_size (bel_ HB.out)))
                     (case aL => have := LMc49.out; omega)
                     intro v261 w64 ho hb hg hat
                     have HS0_ := cell_grown hg (hHeld) (by first | (rw [add_block]; exact (fun e_ => (by have h_ := (HO255.out.1 _ e_.symm); first | exact h_ rfl | exact h_.1 rfl | exact h_.2 rfl | exact h_.1.1 rfl | exact h_.1.2 rfl | exact h_.2.1 rfl | exact h_.2.2 rfl | exact h_.1.1.1 rfl | exact h_.1.1.2 rfl | exact h_.1.2.1 rfl | exact h_.1.2.2 rfl | exact h_.2.1.1 rfl | exact h_.2.1.2 rfl | exact h_.2.2.1 rfl | exact h_.2.2.2 rfl))) | (show some (Addr.add _ _).block ≠ _; rw [add_block]; exact (fun e_ => (by have h_ := (HO255.out.1 _ e_.symm); first | exact h_ rfl | exact h_.1 rfl | exact h_.2 rfl | exact h_.1.1 rfl | exact h_.1.2 rfl | exact h_.2.1 rfl | exact h_.2.2 rfl | exact h_.1.1.1 rfl | exact h_.1.1.2 rfl | exact h_.1.2.1 rfl | exact h_.1.2.2 rfl | exact h_.2.1.1 rfl | exact h_.2.1.2 rfl | exact h_.2.2.1 rfl | exact h_.2.2.2 rfl))) | exact (fun e_ => (by have h_ := (HO255.out.1 _ e_.symm); first | exact h_ rfl | exact h_.1 rfl | exact h_.2 rfl | exact h_.1.1 rfl | exact h_.1.2 rfl | exact h_.2.1 rfl | exact h_.2.2 rfl | exact h_.1.1.1 rfl | exact h_.1.1.2 rfl | exact h_.1.2.1 rfl | exact h_.1.2.2 rfl | exact h_.2.1.1 rfl | exact h_.2.1.2 rfl | exact h_.2.2.1 rfl | exact h_.2.2.2 rfl)))
                     rw [← Ny260.out] at ho
                     have n0_ := Aside0.mk (Kd.R_after (ok := (fun k_ => some k_ ≠ (.slice (some ad211) t208.length co11 : Value).ownBlock ∧ some k_ ≠ (.slice Ao65 y257.length co65 : Value).ownBlock)) (by (with_reducible repeat (first | apply Kd.R_alloc | apply Kd.R_drewN | apply Kd.R_drew)); exact Kd.R_mono HO_4.out (fun _ hk => ⟨⟨hk.2.2, hk.2.1⟩, hk.1⟩)) hg hat)
                     have n1_ := Aside0.mk (Kd.R_after (ok := (fun k_ => some k_ ≠ (.slice (some ad218) x4_2.length co50 : Value).ownBlock ∧ some k_ ≠ (.slice Ao65 y257.length co65 : Value).ownBlock)) (by (with_reducible repeat (first | apply Kd.R_alloc | apply Kd.R_drewN | apply Kd.R_drew)); exact Kd.R_mono HO_5.out (fun _ hk => ⟨⟨hk.2.2, hk.2.1⟩, hk.1⟩)) hg hat)
                     have n2_ := Aside0.mk (Kd.R_over' (fr_ HO242.out) (Kd.R_typed (fr_ HO255.out)) (by decide) hg)
                     have n3_ := Aside0.mk (Kd.R_over' (fr_ HO245.out) (Kd.R_typed (fr_ HO255.out)) (by decide) hg)
                     have n4_ := Aside0.mk (Kd.R_after (ok := (fun k_ => some k_ ≠ (.slice (some ad218) x4_2.length co50 : Value).ownBlock ∧ some k_ ≠ (.slice (some ad211) t208.length co11 : Value).ownBlock)) (by (with_reducible repeat (first | apply Kd.R_alloc | apply Kd.R_drewN | apply Kd.R_drew)); exact Kd.R_mono HO259.out (fun _ hk => ⟨⟨hk.2.1, hk.2.2⟩, hk.1⟩)) hg hat)
                     have n5_ := Aside0.mk (hb)
                     have n6_ := Aside0.mk (ho)
                     clear HO_4
                     clear HO_5
                     clear HO242
                     clear HO245
                     clear HO259
                     clear HB
                     clear HO255
                     have HO_4 := n0_
                     have HO_5 := n1_
                     have HO242 := n2_
                     have HO245 := n3_
                     have HO259 := n4_
                     have HB := n5_
                     have HO262 := n6_
                     clear n0_ n1_ n2_ n3_ n4_ n5_ n6_
                     clear ho hb hg hat
                     refine hK.out _ _ (HS0_) (fun hHeld => ?_)
                     clear hK K
                     refine norm_ (a' := ?_) ?_ ?_
                     rotate_left
                     ·show Act.put _ (some 88) _ = _
                      simp only [Act.put, sA_, sZ_, sS_, i64_w, i32_w]
                      rfl
                     refine pu_ 13 4 HT_ (bs 14 16383) rfl rfl ?_
                     refine done_ (done_of HT_.out (by kernel_rfl)) ?_
                     try go_wp2
                     (first | go_roundg k2 | (simp only [← hji17, ← hji20, ← hji24]; go_roundg k2))
                     case measure => have := HK1.out; have := HK2.out; omega
                     case rel => exact ⟨(y243), (y260), H', ⟨by have := HK1.out; have := HK2.out; omega⟩, ⟨by (with_reducible repeat (first | apply Kd.R_alloc | apply Kd.R_drewN | apply Kd.R_drew)); exact Kd.R_mono HO245.out (fun _ hk => trivial)⟩, ⟨by (with_reducible repeat (first | apply Kd.R_alloc | apply Kd.R_drewN | apply Kd.R_drew)); exact Kd.R_mono HO262.out (fun _ hk => hk.2.1)⟩, ⟨by (with_reducible repeat (first | apply Kd.R_alloc | apply Kd.R_drewN | apply Kd.R_drew)); exact Kd.R_mono HO_5.out (fun _ hk => hk.2)⟩, ⟨bel_ HB.out⟩⟩
                    ·rw [if_neg c49] at H
                     exact absurd H (by simp)
                   ·rw [if_neg c48] at H
                    exact absurd H (by simp)
                  ·rw [if_neg c47] at H
                   exact absurd H (by simp)
                 ·rw [if_neg c45] at H
                  exact absurd H (by simp)
              ·rw [if_neg c26] at H
               exact absurd H (by simp)
             ·rw [if_neg c25] at H
              exact absurd H (by simp)
            ·rw [if_neg c22] at H
             exact absurd H (by simp)
           ·rw [if_neg c21] at H
            exact absurd H (by simp)
          ·rw [if_neg c19] at H
           exact absurd H (by simp)
         ·rw [if_neg c18] at H
          exact absurd H (by simp)
        ·rw [if_neg c16] at H
         have c16b0 : decide (3 ≤ (x4_2.length : Int)) = false := decide_eq_false c16
         have c16b1 : decide (3 ≤ x4_2.length) = false := decide_eq_false (by omega)
         clear c16
         have H' := Aside0.mk H
         clear H
         obtain ⟨Ao66, co66, eo66⟩ := Kd.R_slice HO_4.out
         subst eo66
         go_wp2
         go_roundg k2
         case measure => have := HK1.out; have := HK2.out; omega
         case rel => exact ⟨(x3_2), (x4_2), (wrap64 (x6_1 + 1)), (by first | rfl | (simp; done) | (simp [*]; done) | (simp [wrap64]; done)), H', ⟨by have := HK1.out; have := HK2.out; omega⟩, ⟨by (with_reducible repeat (first | apply Kd.R_alloc | apply Kd.R_drewN | apply Kd.R_drew)); exact HO_3.out⟩, ⟨by (with_reducible repeat (first | apply Kd.R_alloc | apply Kd.R_drewN | apply Kd.R_drew)); exact HO_4.out⟩, ⟨by (with_reducible repeat (first | apply Kd.R_alloc | apply Kd.R_drewN | apply Kd.R_drew)); exact HO_5.out⟩, ⟨bel_ HB.out⟩⟩
     ·rw [if_neg c10] at H
      exact absurd H (by simp)
    ·rw [if_neg c9] at H
     exact absurd H (by simp)
   ·rw [if_neg c8] at H
    have c8b0 : decide (x6_1 < (t208.length : Int)) = false := decide_eq_false c8
    clear c8
    have H' := Aside0.mk H
    clear H
    obtain ⟨Ao67, co67, eo67⟩ := Kd.R_slice HO_5.out
    subst eo67
    go_wp2
    go_loopg [3, 10] k1 (fun kq v3 v10 w' => ∃ (x3_2 : List (S38)) (x10_2 : Int), v10 = .int .i64 x10_2 ∧ Aside0 (spec_Swings.l2 kq x3_2 x4_1 x10_2 = some r) ∧ Aside0 (kq ≤ k1) ∧ Aside0 (Kd.R k38 38 w' w.heap.size (fun _ => True) v3 x3_2) ∧ Aside0 (Kd.R (Kd.int .i64) 3 w' w.heap.size (fun _ => True) u4 x4_1) ∧ Aside0 (Below w.heap.size w w'))
    case atStart => exact ⟨(x3_1), (0), (by first | rfl | (simp; done) | (simp [*]; done) | (simp [wrap64]; done)), H', ⟨Nat.le_refl _⟩, ⟨by (with_reducible repeat (first | apply Kd.R_alloc | apply Kd.R_drewN | apply Kd.R_drew)); exact HO_3.out⟩, ⟨by (with_reducible repeat (first | apply Kd.R_alloc | apply Kd.R_drewN | apply Kd.R_drew)); exact Kd.R_mono HO_4.out (fun _ hk => trivial)⟩, ⟨bel_ HB.out⟩⟩
    case round =>
     clear H'
     try clear c8
     try clear c8b0
     obtain ⟨x3_2, x10_2, rfl, HA, HK2, HO_3, HO_4, HB⟩ := hrel
     cases gk with
     | zero => exact absurd HA.out (by simp [spec_Swings.l2])
     | succ k2 =>
      have H := HA.out
      clear HA
      simp only [spec_Swings.l2] at H
      by_cases c68 : (wrap64 (x10_2 + 1)) < (x4_1.length : Int)
      ·rw [if_pos c68] at H
       have c68b0 : decide ((wrap64 (x10_2 + 1)) < (x4_1.length : Int)) = true := decide_eq_true c68
       clear c68
       obtain ⟨ji69, hji69⟩ : ∃ j_ : Int, (wrap64 (x10_2 + 1)) = j_ := ⟨_, rfl⟩
       replace H : (if 0 ≤ (ji69) then (if 0 ≤ x10_2 then (if x10_2 < (x4_1.length : Int) then ((spec_l3Size.f (wrap64 ((rd x4_1 (ji69)) - (rd x4_1 x10_2)))).bind fun t265 => ((some (([(⟨t265, true⟩ : S38)] : List (S38)) : List (S38))).bind fun y266 => (if x3_2.length + y266.length < 8796093022208 then (spec_Swings.l2 k2 (x3_2 ++ y266) x4_1 ji69) else (none)))) else (none)) else (none)) else (none)) = some r := by first | (rw [hji69] at H; exact H) | (simp only [hji69] at H ⊢; exact H)
       (try rw [hji69] at c68b0)
       have hji69w : (IntKind.i64.wrap (x10_2 + 1)) = ji69 := (i64_w _).trans hji69
       by_cases c70 : 0 ≤ (ji69)
       ·rw [if_pos c70] at H
        have c70b0 : decide (0 ≤ (ji69)) = true := decide_eq_true c70
        clear c70
        by_cases c71 : 0 ≤ x10_2
        ·rw [if_pos c71] at H
         have c71b0 : decide (0 ≤ x10_2) = true := decide_eq_true c71
         clear c71
         by_cases c72 : x10_2 < (x4_1.length : Int)
         ·rw [if_pos c72] at H
          have c72b0 : decide (x10_2 < (x4_1.length : Int)) = true := decide_eq_true c72
          clear c72
          replace H := Option.bind_eq_some_iff.mp H
          obtain ⟨t265, A730, H⟩ := H
          replace H : ((some (([(⟨t265, true⟩ : S38)] : List (S38)) : List (S38))).bind fun y266 => (if x3_2.length + y266.length < 8796093022208 then (spec_Swings.l2 k2 (x3_2 ++ y266) x4_1 ji69) else (none))) = some r := H
          have A73 := Aside0.mk A730
          clear A730
          obtain ⟨y266, hy266⟩ : ∃ y_ : List (S38), y_ = (([(⟨t265, true⟩ : S38)] : List (S38))) := ⟨_, rfl⟩
          replace H : (if x3_2.length + y266.length < 8796093022208 then (spec_Swings.l2 k2 (x3_2 ++ y266) x4_1 ji69) else (none)) = some r := by first | (rw [hy266]; with_reducible exact H) | (have H2_ := (Option.bind_some _ _).symm.trans H; rw [hy266]; with_reducible exact H2_) | (have H2_ := (Option.bind_some _ _).symm.trans H; with_reducible exact H2_) | with_reducible exact H | (rw [hy266]; exact H) | exact H
          have Ny266 := Aside0.mk hy266
          clear hy266
          by_cases c74 : x3_2.length + y266.length < 8796093022208
          ·rw [if_pos c74] at H
           have LMc74 := Aside0.mk c74
           clear c74
           obtain ⟨y269, hy269⟩ : ∃ y_ : List (S38), y_ = (x3_2 ++ y266) := ⟨_, rfl⟩
           replace H : (spec_Swings.l2 k2 y269 x4_1 ji69) = some r := by first | (rw [hy269]; with_reducible exact H) | (have H2_ := (Option.bind_some _ _).symm.trans H; rw [hy269]; with_reducible exact H2_) | (have H2_ := (Option.bind_some _ _).symm.trans H; with_reducible exact H2_) | with_reducible exact H | (rw [hy269]; exact H) | exact H
           have Ny269 := Aside0.mk hy269
           clear hy269
           have H' := Aside0.mk H
           clear H
           obtain ⟨Ao75, co75, eo75⟩ := Kd.R_slice HO_4.out
           subst eo75
           try go_wp2
           have n0_ := Aside0.mk (Kd.R_drew HO_3.out)
           have n1_ := Aside0.mk (Kd.R_drew HO_4.out)
           have n2_ := Aside0.mk (below_drew1 HB.out)
           clear HO_3
           clear HO_4
           clear HB
           have HO_3 := n0_
           have HO_4 := n1_
           have HB := n2_
           clear n0_ n1_ n2_
           have p263 : 0 ≤ ((ji69) : Int) := of_decide_eq_true (by first | (with_reducible assumption) | assumption)
           have q263 : (ji69) < (x4_1.length : Int) := of_decide_eq_true (by first | (with_reducible assumption) | assumption)
           obtain ⟨ad263, e263, hx263_0⟩ := Kd.at_int (Kd.R_reads' HO_4.out).2.2 (ji69) p263 q263
           cases e263
           replace p263 := eq_true p263
           replace q263 := eq_true q263
           have p264 : 0 ≤ (x10_2 : Int) := of_decide_eq_true (by first | (with_reducible assumption) | assumption)
           have q264 : x10_2 < (x4_1.length : Int) := of_decide_eq_true (by first | (with_reducible assumption) | assumption)
           obtain ⟨ad264, e264, hx264_0⟩ := Kd.at_int (Kd.R_reads' HO_4.out).2.2 x10_2 p264 q264
           obtain rfl : ad263 = ad264 := (by injection e264)
           replace p264 := eq_true p264
           replace q264 := eq_true q264
           refine start_ (n := 16) (S := fun w' => w'.cell? (ad263.add ((ji69)).toNat) = some (.int .i64 (rd x4_1 (ji69))) ∧ w'.cell? (ad263.add (x10_2).toNat) = some (.int .i64 (rd x4_1 x10_2))) (ds := [14]) (bs 16 0) (by kernel_rfl) rfl rfl ⟨hx263_0, hx264_0⟩ (fun hHeld => ?_); refine with_tabW spec_Swings.tab20 spec_Swings.bits20 (fun HT_ HW_ => ?_)
           generalize wr.drew = w76 at HO_3 HO_4 HB hx263_0 hx264_0 hHeld ⊢
           refine pu_ 0 96 HT_ (bs 16 1) rfl rfl ?_
           refine pu_ 1 97 HT_ (bs 16 3) rfl rfl ?_
           refine pu_ 2 98 HT_ (bs 16 7) rfl rfl ?_
           refine pu_ 3 99 HT_ (bs 16 15) rfl rfl ?_
           refine pu_ 4 100 HT_ (bs 16 31) rfl rfl ?_
           refine pu_ 6 102 HT_ (bs 16 95) rfl rfl ?_
           refine pu_ 7 103 HT_ (bs 16 223) rfl rfl ?_
           refine pu_ 8 104 HT_ (bs 16 479) rfl rfl ?_
           refine take_ (i := 5) (N := some 101) (v := ?_) (a' := ?_) (bs 16 511) rfl rfl (take_ofW HT_.out HW_.out (by kernel_rfl)) (fun _ _ _ h => h) (Or.inl ⟨by rfl, ?_⟩) hHeld ?_ ?_
           rotate_left
           ·rintro w' ⟨s0, s1⟩
            go_simp
            with_reducible rfl
           rotate_left
           ·simp only [Act.put, sA_, sZ_, sS_, i64_w, i32_w]
            rfl
           refine take_ (i := 9) (N := some 105) (v := ?_) (a' := ?_) (bs 16 1023) rfl rfl (take_ofW HT_.out HW_.out (by kernel_rfl)) (fun _ _ _ h => h) (Or.inl ⟨by rfl, ?_⟩) hHeld ?_ ?_
           rotate_left
           ·rintro w' ⟨s0, s1⟩
            go_simp
            with_reducible rfl
           rotate_left
           ·simp only [Act.put, sA_, sZ_, sS_, i64_w, i32_w]
            rfl
           refine pu_ 10 106 HT_ (bs 16 2047) rfl rfl ?_
           refine one_ (i := 11) (N := some 107) (bs 16 4095) rfl rfl (one_of HT_.out (by kernel_rfl)) (by decide) (fun K hK => ?_)
           refine goes_ Try.func46 (by kernel_rfl) rfl #[.int .i64 (wrap64 ((rd x4_1 (ji69)) - (rd x4_1 x10_2)))] (by rfl) rfl rfl (by (try simp only [List.map_toArray, List.map_cons, List.map_nil]); first | done | (simp only [hji69]; rfl) | rfl | (simp only [List.length_drop, List.length_take]; rfl)) ?_
           with_reducible refine (spec_l3Size.calls (wrap64 ((rd x4_1 (ji69)) - (rd x4_1 x10_2))) t265 _ A73.out).mono ?_
           rintro e w' ⟨rfl, ⟨nd, rfl⟩⟩
           refine ⟨_, rfl, ?_⟩
           refine hK.out _ _ ⟨hHeld.1, hHeld.2⟩ (fun hHeld => ?_)
           clear hK K
           refine norm_ (a' := ?_) ?_ ?_
           rotate_left
           ·show Act.put _ (some 107) _ = _
            simp only [Act.put, sA_, sZ_, sS_, i64_w, i32_w]
            rfl
           refine pu_ 12 108 HT_ (bs 16 8191) rfl rfl ?_
           refine one_ (i := 13) (N := some 109) (bs 16 16383) rfl rfl (one_of HT_.out (by kernel_rfl)) (by decide) (fun K hK => ?_)
           refine Kd.R_lit_step k38 _ 38 ?hg (N := 109) ?hd (xs := ([(⟨t265, true⟩ : S38)] : List (S38))) (inner := [.int .i64 t265, .bool true]) (ok := fun _ => True) (okp := fun _ => True) ?hr ?hp (fun _ hk => hk) trivial (Below.refl _ _) (Nat.le_refl _) (by simp) ?_; (case hd => rfl); (case hg => rfl); (case hr => first | (go_simp; done) | (go_simp; rfl)); (case hp => exact (Reps.c2 (show Kd.M k38 _ _ _ (⟨t265, true⟩ : S38) [.int .i64 t265, .bool true] from (k38_mkM _ _ _ (⟨t265, true⟩ : S38) )) (Reps.none _ _)))
           intro v267 w77 ho78 hb hg_ hnew_
           have HS0_ := (hb.cell (World.block_lt_of_cell? _ _ (hHeld.1))).trans (hHeld.1)
           have HS1_ := (hb.cell (World.block_lt_of_cell? _ _ (hHeld.2))).trans (hHeld.2)
           clear hg_ hnew_
           (first | rw [← Ny266.out] at ho78 | (simp only [Int.reduceToNat] at ho78; rw [← Ny266.out] at ho78))
           have n0_ := Aside0.mk (Kd.R_elder' (fr_ HO_3.out) (Kd.R_base ho78) hb)
           have n1_ := Aside0.mk (Kd.R_below (fr_ HO_4.out) hb)
           have n2_ := Aside0.mk (Kd.R_lower (Kd.R_new' ho78 (Kd.R_lt (fr_ HO_3.out))) (below_size (bel_ HB.out)))
           have n3_ := Aside0.mk (below_step (bel_ HB.out) hb)
           clear HO_3
           clear HO_4
           clear HB
           have HO_3 := n0_
           have HO_4 := n1_
           have HO268 := n2_
           have HB := n3_
           clear n0_ n1_ n2_ n3_
           clear hb ho78
           obtain ⟨Ao80, co80, eo80⟩ := Kd.R_slice HO268.out
           (first | subst eo80 | (injection eo80 with f1_ f2_ f3_; have f4_ := f1_.symm; have f5_ := f3_.symm; clear f1_ f2_ f3_; subst f4_; subst f5_))
           refine hK.out _ _ ⟨HS0_, HS1_⟩ (fun hHeld => ?_)
           clear hK K
           refine norm_ (a' := ?_) ?_ ?_
           rotate_left
           ·show Act.put _ (some 109) _ = _
            simp only [Act.put, sA_, sZ_, sS_, i64_w, i32_w]
            rfl
           refine last_ (i := 14) (N := some 110) (bs 16 32767) rfl rfl (one_of HT_.out (by kernel_rfl)) (by decide) (fun K hK => ?_)
           refine Kd.R_append_rows_step k38 (w0 := w) w.heap.size (by rfl) (.tmp 96) (.tmp 109) 35 38 (.agg #[(.int .i64 0), (.bool false)]) 16 rfl Try.underlying35 info38 rfl (by decide) (by omega) u3 x3_2 y266 _ _ _ (fun k_ => some k_ ≠ (.slice Ao80 y266.length co80 : Value).ownBlock) (fun _ => False) rfl rfl ?aO ?aR (fun _ _ h => h) (fun _ h => h.elim) ?aF ?aB ?aS ?aL ?_
           (case aR => repeat (first | exact (Kd.R_reads' HO268.out).2.2 | (with_reducible refine Kd.C_alloc ?_ _) | (with_reducible refine Kd.C_drewN ?_ _) | (with_reducible refine Kd.C_drew ?_)))
           (case aB => exact (bel_ HB.out))
           (case aF => exact (fun k_ hk => Kd.fresh' (Kd.R_lt (fr_ HO268.out)) k_ hk))
           (case aO => exact (by (with_reducible repeat (first | apply Kd.R_alloc | apply Kd.R_drewN | apply Kd.R_drew)); exact Kd.R_mono HO_3.out (fun _ hk => hk.2)))
           (case aS => exact (below_size (bel_ HB.out)))
           (case aL => have := LMc74.out; omega)
           intro v270 w79 ho hb hg hat
           rw [← Ny269.out] at ho
           have n0_ := Aside0.mk (Kd.R_over' (fr_ HO_4.out) (Kd.R_typed (fr_ HO_3.out)) (by decide) hg)
           have n1_ := Aside0.mk (Kd.R_after (ok := (fun _ => True)) (fr_ HO268.out) hg hat)
           have n2_ := Aside0.mk (hb)
           have n3_ := Aside0.mk (ho)
           clear HO_4
           clear HO268
           clear HB
           clear HO_3
           have HO_4 := n0_
           have HO268 := n1_
           have HB := n2_
           have HO271 := n3_
           clear n0_ n1_ n2_ n3_
           clear ho hb hg hat
           refine hK.out _ _ ?_
           clear hK K
           refine norm_ (a' := ?_) ?_ ?_
           rotate_left
           ·show Act.put _ (some 110) _ = _
            simp only [Act.put, sA_, sZ_, sS_, i64_w, i32_w]
            rfl
           refine pu_ 15 3 HT_ (bs 16 65535) rfl rfl ?_
           refine done_ (done_of HT_.out (by kernel_rfl)) ?_
           try go_wp2
           (first | go_roundg k2 | (simp only [← hji69]; go_roundg k2))
           case measure => have := HK1.out; have := HK2.out; omega
           case rel => exact ⟨(y269), (ji69), (by first | rfl | (simp; done) | (simp only [← hji69] <;> (first | rfl | simp)) | (simp [*]; done)), H', ⟨by have := HK1.out; have := HK2.out; omega⟩, ⟨by (with_reducible repeat (first | apply Kd.R_alloc | apply Kd.R_drewN | apply Kd.R_drew)); exact Kd.R_mono HO271.out (fun _ hk => trivial)⟩, ⟨by (with_reducible repeat (first | apply Kd.R_alloc | apply Kd.R_drewN | apply Kd.R_drew)); exact HO_4.out⟩, ⟨bel_ HB.out⟩⟩
          ·rw [if_neg c74] at H
           exact absurd H (by simp)
         ·rw [if_neg c72] at H
          exact absurd H (by simp)
        ·rw [if_neg c71] at H
         exact absurd H (by simp)
       ·rw [if_neg c70] at H
        exact absurd H (by simp)
      ·rw [if_neg c68] at H
       have c68b0 : decide ((wrap64 (x10_2 + 1)) < (x4_1.length : Int)) = false := decide_eq_false c68
       clear c68
       obtain rfl := Option.some.inj H
       obtain ⟨Ao81, co81, eo81⟩ := Kd.R_slice HO_4.out
       subst eo81
       go_wp2
       go_ret
       exact ⟨_, by first | rfl | (simp [errW_none, errW_some] <;> rfl) | (simp [*, errW_none, errW_some] <;> rfl), by (with_reducible repeat (first | apply Kd.R_alloc | apply Kd.R_drewN | apply Kd.R_drew)); exact HO_3.out, bel_ HB.out⟩

end Go.Proofs.Ytdjbglhhjffnkaa.PFnExactSwings
