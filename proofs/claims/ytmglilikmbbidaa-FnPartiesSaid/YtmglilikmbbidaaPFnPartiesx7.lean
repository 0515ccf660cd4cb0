/- The Lean side of Go functions of this seat: what each answers, and that its run comes to that answer; written by a program of this work. -/
import Derived.Test.YtmglilikmbbidaaPFnPartiesx0
import Derived.Test.YtmglilikmbbidaaPFnPartiesx3
import Derived.Test.YtmglilikmbbidaaPFnPartiesx4
namespace Go.Proofs.Ytmglilikmbbidaa.PFnParties
open Go.RowKit Go.Proofs.YtmglilikmbbidaaW.PrintWords Go.Proofs.YtmglilikmbbidaaW.PrintLast Go.Proofs.YtmglilikmbbidaaW.PrintMore
attribute [local go_sem] max2_int min2_int max_two min_two max_three min_three max_four min_four   -- for this text's walks alone
set_option linter.unusedVariables false
set_option linter.unusedSimpArgs false

/-! ### impl_Send21: function 12 -/
def impl_Send21.j0 : Nat → Int → ByteArray → Bool → List ByteArray → Int → List ByteArray → List ByteArray → Int → List ByteArray → Option (List ByteArray × Int × List ByteArray × Int × Int × Int × ByteArray × Int)
 | 0, _, _, _, _, _, _, _, _, _ => none
 | k + 1, x1, x2, x12, x363000, x363001, x363002, x373000, x373001, x373002 => if x12 = true then (some (x373000, x373001, x373002, 0, 0, 0, (⟨#[]⟩ : ByteArray), 1)) else (if (x363000.length : Int) = 200 then (some (x373000, x373001, x373002, 0, 0, 0, (⟨#[]⟩ : ByteArray), 2)) else (if x373000.length < 8796093022208 then ((impl_own_string.f (x373000 ++ [x2])).bind fun t378 => (some (t378, x373001, x373002, x1, (t378.length : Int), (x373002.length : Int), x2, 0))) else (none)))
def impl_Send21.f (k : Nat) (l0_0 : List ByteArray) (a0_1 : Int) (l0_2 : List ByteArray) (a1 : Int) (a2 : ByteArray) : Option (List ByteArray × Int × List ByteArray × Int × Int × Int × ByteArray × Int) := (impl_Party_own.f l0_0 a0_1 l0_2).bind fun bt365 => ((impl_PartyOk.f k l0_0 a0_1 l0_2).bind fun t373 => (if t373 = true then ((impl_in.f a1 0 1).bind fun t374 => (if t374 = true then (impl_Send21.j0 k a1 a2 (decide ((a2.size : Int) > 40)) l0_0 a0_1 l0_2 bt365.1 bt365.2.1 bt365.2.2) else (impl_Send21.j0 k a1 a2 true l0_0 a0_1 l0_2 bt365.1 bt365.2.1 bt365.2.2))) else (impl_Send21.j0 k a1 a2 true l0_0 a0_1 l0_2 bt365.1 bt365.2.1 bt365.2.2)))
theorem impl_Send21.mono_l : ∀ k, (∀ y0 y1 y2 y3 y4 y5 y6 y7 y8, LeO (impl_Send21.j0 k y0 y1 y2 y3 y4 y5 y6 y7 y8) (impl_Send21.j0 (k + 1) y0 y1 y2 y3 y4 y5 y6 y7 y8))
 | 0 => fun _ _ _ _ _ _ _ _ _ r h => by simp [impl_Send21.j0] at h
 | k + 1 => by
  have ih0 := impl_Send21.mono_l k
  ·intro y0 y1 y2 y3 y4 y5 y6 y7 y8
   unfold impl_Send21.j0
   repeat' first
   | (with_reducible exact ih0 _ _ _ _ _ _ _ _ _)
   | (with_reducible exact impl_PartyOk.mono _ _ _ _)
   | (with_reducible exact LeO.refl _)
   | (with_reducible exact LeO.none _)
   | (with_reducible refine LeO.ite ?_ ?_)
   | (with_reducible refine LeO.bind ?_ (fun _ => ?_))
   | exact ih0 _ _ _ _ _ _ _ _ _
   | exact impl_PartyOk.mono _ _ _ _
   | exact LeO.none _
   | refine LeO.ite ?_ ?_
   | refine LeO.bind ?_ (fun _ => ?_)
theorem impl_Send21.mono : ∀ a0 a1 a2 a3 a4 k, LeO (impl_Send21.f k a0 a1 a2 a3 a4) (impl_Send21.f (k + 1) a0 a1 a2 a3 a4) := by
 intro a0 a1 a2 a3 a4 k
 have ih0 := impl_Send21.mono_l k
 unfold impl_Send21.f
 repeat' first
   | (with_reducible exact ih0 _ _ _ _ _ _ _ _ _)
   | (with_reducible exact impl_PartyOk.mono _ _ _ _)
   | (with_reducible exact LeO.refl _)
   | (with_reducible exact LeO.none _)
   | (with_reducible refine LeO.ite ?_ ?_)
   | (with_reducible refine LeO.bind ?_ (fun _ => ?_))
   | exact ih0 _ _ _ _ _ _ _ _ _
   | exact impl_PartyOk.mono _ _ _ _
   | exact LeO.none _
   | refine LeO.ite ?_ ?_
   | refine LeO.bind ?_ (fun _ => ?_)
def impl_Send21.T7 : Bool × List (List Nat × List Nat) := (true, [([], []), ([], []), ([], []), ([2], [2]), ([3], [3]), ([], []), ([5], [5]), ([6], [6]), ([], []), ([1, 4, 7, 8], [1, 4, 7, 8]), ([0, 0], [0]), ([9, 10, 0, 1, 2, 3, 4, 5, 6, 7, 8, 9, 10], [9]), ([11, 0, 1, 2, 3, 4, 5, 6, 7, 8, 9, 10, 11], [])])
def impl_Send21.B7 : List Nat := [0, 0, 0, 4, 12, 0, 32, 96, 0, 510, 1, 2047, 4095]
theorem impl_Send21.tab7 : rtab .any (opsOf Try.f12 7) = impl_Send21.T7 := by kernel_rfl
theorem impl_Send21.bits7 : waitsOk impl_Send21.T7.2 impl_Send21.B7 = true := by kernel_rfl
set_option maxHeartbeats 8000000 in
set_option maxRecDepth 100000 in
theorem impl_Send21.calls (k : Nat) (A0_0 : Option Addr) (c0_0 : Nat) (l0_0 : List ByteArray) (a0_1 : Int) (A0_2 : Option Addr) (c0_2 : Nat) (l0_2 : List ByteArray) (a1 : Int) (a2 : ByteArray) (r1 : List ByteArray) (r2 : Int) (r3 : List ByteArray) (r4 : Int) (r5 : Int) (r6 : Int) (r7 : ByteArray) (r8 : Int) (w : World) (hr0_0 : Kd.C Kd.string w A0_0 l0_0.length l0_0) (hc0_0 : l0_0.length ≤ c0_0) (hr0_2 : Kd.C Kd.string w A0_2 l0_2.length l0_2) (hc0_2 : l0_2.length ≤ c0_2) (h : impl_Send21.f k l0_0 a0_1 l0_2 a1 a2 = some (r1, r2, r3, r4, r5, r6, r7, r8)) :
  Calls Try.prog 12 #[.agg #[.slice A0_0 l0_0.length c0_0, .int .i64 a0_1, .slice A0_2 l0_2.length c0_2], .int .i64 a1, .string a2] w fun e w' => ∃ v0_ v2_ : Value, e = .returned (.tuple #[.agg #[v0_, .int .i64 r2, v2_], .agg #[.int .i64 r4, .int .i64 r5, .int .i64 r6, .string r7], .int .i64 r8]) ∧ Kd.R Kd.string 9 w' w.heap.size (fun k_ => some k_ ≠ (v2_ : Value).ownBlock) v0_ r1 ∧ Kd.R Kd.string 9 w' w.heap.size (fun k_ => some k_ ≠ (v0_ : Value).ownBlock) v2_ r3 ∧ Below w.heap.size w w' := by
 have hu26 := Try.underlying26
 have hu34 := Try.underlying34
 have HR0_0 := Aside0.mk hr0_0
 have HC0_0 := Aside0.mk hc0_0
 clear hr0_0 hc0_0
 have HR0_2 := Aside0.mk hr0_2
 have HC0_2 := Aside0.mk hc0_2
 clear hr0_2 hc0_2
 have HB := Aside0.mk (Below.refl w.heap.size w)
 have H : ((impl_Party_own.f l0_0 a0_1 l0_2).bind fun bt365 => ((impl_PartyOk.f k l0_0 a0_1 l0_2).bind fun t373 => (if t373 = true then ((impl_in.f a1 0 1).bind fun t374 => (if t374 = true then (impl_Send21.j0 k a1 a2 (decide ((a2.size : Int) > 40)) l0_0 a0_1 l0_2 bt365.1 bt365.2.1 bt365.2.2) else (impl_Send21.j0 k a1 a2 true l0_0 a0_1 l0_2 bt365.1 bt365.2.1 bt365.2.2))) else (impl_Send21.j0 k a1 a2 true l0_0 a0_1 l0_2 bt365.1 bt365.2.1 bt365.2.2)))) = some (r1, r2, r3, r4, r5, r6, r7, r8) := h
 clear h
 replace H := Option.bind_eq_some_iff.mp H
 obtain ⟨⟨t365, t368, t369⟩, A40, H⟩ := H
 replace H : ((impl_PartyOk.f k l0_0 a0_1 l0_2).bind fun t373 => (if t373 = true then ((impl_in.f a1 0 1).bind fun t374 => (if t374 = true then (impl_Send21.j0 k a1 a2 (decide ((a2.size : Int) > 40)) l0_0 a0_1 l0_2 t365 t368 t369) else (impl_Send21.j0 k a1 a2 true l0_0 a0_1 l0_2 t365 t368 t369))) else (impl_Send21.j0 k a1 a2 true l0_0 a0_1 l0_2 t365 t368 t369))) = some (r1, r2, r3, r4, r5, r6, r7, r8) := H
 have A4 := Aside0.mk A40
 clear A40
 have HC5 := Aside0.mk H
 clear H
 go_enter Try.func12, Try.ntmps12
 go_upto_region 2 with (first | ((with_reducible refine gate_dst (N := 3) rfl ?_); (try (refine gate_guard (by rfl) ?_; dsimp only)); refine box_event ?hg (N := 3) ?hd (cs := #[.slice A0_0 l0_0.length c0_0, .int .i64 a0_1, .slice A0_2 l0_2.length c0_2]) (t := 26) ?hr ?_; (case hd => rfl); (case hg => rfl); (case hr => first | (go_simp; done) | (go_simp; rfl)); intro gb362 hg w6 hbox hb; have n0_ := Aside0.mk (below_step (bel_ HB.out) hb); have n1_ := Aside0.mk (hbox); have n2_ := Aside0.mk ((by rw [hg]; exact (below_size (bel_ HB.out)) : w.heap.size ≤ gb362)); have n3_ := Aside0.mk ((by rw [hg]; exact (below_size (bel_ HB.out)) : w.heap.size ≤ gb362)); clear HB; have HB := n0_; have BK362 := n1_; have GW362 := n2_; have GE362 := n3_; clear n0_ n1_ n2_ n3_; clear hb hbox hg) | ((with_reducible refine gate_dst (N := 6) rfl ?_); (try (refine gate_guard (by rfl) ?_; dsimp only)); refine box_event ?hg (N := 6) ?hd (cs := #[.slice none 0 0, .int .i64 0, .slice none 0 0]) (t := 26) ?hr ?_; (case hd => rfl); (case hg => rfl); (case hr => first | (go_simp; done) | (go_simp; rfl)); intro gb363 hg w7 hbox hb; have n0_ := Aside0.mk (blk_below (g := gb362) (o := .cells #[.slice A0_0 l0_0.length c0_0, .int .i64 a0_1, .slice A0_2 l0_2.length c0_2] 26 (0, 0)) (fb_ BK362.out) hb); have n1_ := Aside0.mk (below_step (bel_ HB.out) hb); have n2_ := Aside0.mk (hbox); have n3_ := Aside0.mk ((by rw [hg]; exact (below_size (bel_ HB.out)) : w.heap.size ≤ gb363)); have n4_ := Aside0.mk ((by rw [hg]; exact (below_size (bel_ HB.out)) : w.heap.size ≤ gb363)); have n5_ := Aside0.mk ((by rw [hg]; exact Nat.ne_of_lt (blk_lt (g := gb362) (o := .cells #[.slice A0_0 l0_0.length c0_0, .int .i64 a0_1, .slice A0_2 l0_2.length c0_2] 26 (0, 0)) (fb_ BK362.out)) : gb362 ≠ gb363)); have n6_ := Aside0.mk ((by rw [hg]; exact Nat.ne_of_gt (blk_lt (g := gb362) (o := .cells #[.slice A0_0 l0_0.length c0_0, .int .i64 a0_1, .slice A0_2 l0_2.length c0_2] 26 (0, 0)) (fb_ BK362.out)) : gb363 ≠ gb362)); clear BK362; clear HB; have BK362 := n0_; have HB := n1_; have BK363 := n2_; have GW363 := n3_; have GE363 := n4_; have NB362_363 := n5_; have NB363_362 := n6_; clear n0_ n1_ n2_ n3_ n4_ n5_ n6_; clear hb hbox hg) | ((with_reducible refine gate_dst (N := 7) rfl ?_); (try (refine gate_guard (by rfl) ?_; dsimp only)); refine box_event ?hg (N := 7) ?hd (cs := #[.int .i64 0, .int .i64 0, .int .i64 0, .string (⟨#[]⟩ : ByteArray)]) (t := 34) ?hr ?_; (case hd => rfl); (case hg => rfl); (case hr => first | (go_simp; done) | (go_simp; rfl)); intro gb364 hg w8 hbox hb; have n0_ := Aside0.mk (blk_below (g := gb362) (o := .cells #[.slice A0_0 l0_0.length c0_0, .int .i64 a0_1, .slice A0_2 l0_2.length c0_2] 26 (0, 0)) (fb_ BK362.out) hb); have n1_ := Aside0.mk (blk_below (g := gb363) (o := .cells #[.slice none 0 0, .int .i64 0, .slice none 0 0] 26 (0, 0)) (fb_ BK363.out) hb); have n2_ := Aside0.mk (below_step (bel_ HB.out) hb); have n3_ := Aside0.mk (hbox); have n4_ := Aside0.mk ((by rw [hg]; exact (below_size (bel_ HB.out)) : w.heap.size ≤ gb364)); have n5_ := Aside0.mk ((by rw [hg]; exact (below_size (bel_ HB.out)) : w.heap.size ≤ gb364)); have n6_ := Aside0.mk ((by rw [hg]; exact Nat.ne_of_lt (blk_lt (g := gb362) (o := .cells #[.slice A0_0 l0_0.length c0_0, .int .i64 a0_1, .slice A0_2 l0_2.length c0_2] 26 (0, 0)) (fb_ BK362.out)) : gb362 ≠ gb364)); have n7_ := Aside0.mk ((by rw [hg]; exact Nat.ne_of_gt (blk_lt (g := gb362) (o := .cells #[.slice A0_0 l0_0.length c0_0, .int .i64 a0_1, .slice A0_2 l0_2.length c0_2] 26 (0, 0)) (fb_ BK362.out)) : gb364 ≠ gb362)); have n8_ := Aside0.mk ((by rw [hg]; exact Nat.ne_of_lt (blk_lt (g := gb363) (o := .cells #[.slice none 0 0, .int .i64 0, .slice none 0 0] 26 (0, 0)) (fb_ BK363.out)) : gb363 ≠ gb364)); have n9_ := Aside0.mk ((by rw [hg]; exact Nat.ne_of_gt (blk_lt (g := gb363) (o := .cells #[.slice none 0 0, .int .i64 0, .slice none 0 0] 26 (0, 0)) (fb_ BK363.out)) : gb364 ≠ gb363)); clear BK362; clear BK363; clear HB; have BK362 := n0_; have BK363 := n1_; have HB := n2_; have BK364 := n3_; have GW364 := n4_; have GE364 := n5_; have NB362_364 := n6_; have NB364_362 := n7_; have NB363_364 := n8_; have NB364_363 := n9_; clear n0_ n1_ n2_ n3_ n4_ n5_ n6_ n7_ n8_ n9_; clear hb hbox hg; have hnb9 := NB362_363.out; have hnc9 := NB363_362.out; have hnb10 := NB362_364.out; have hnc10 := NB364_362.out; have hcz11_0 : w8.cell? ⟨gb362, 0, none⟩ = some (.slice A0_0 l0_0.length c0_0) := (blk_cell BK362.out 0).trans rfl; have hcz11_1 : w8.cell? ⟨gb362, 1, none⟩ = some (.int .i64 a0_1) := (blk_cell BK362.out 1).trans rfl; have hcz11_2 : w8.cell? ⟨gb362, 2, none⟩ = some (.slice A0_2 l0_2.length c0_2) := (blk_cell BK362.out 2).trans rfl; have hfz11_0 := blk_frozen BK362.out 0; have hfz11_1 := blk_frozen BK362.out 1; have hfz11_2 := blk_frozen BK362.out 2) | ((with_reducible refine gate_callee (f := 37) rfl ?_); refine goesL_ (some 11) rfl rfl Try.func37 (by kernel_rfl) rfl #[.agg #[.slice A0_0 l0_0.length c0_0, .int .i64 a0_1, .slice A0_2 l0_2.length c0_2]] rfl (by (try simp only [List.map_toArray, List.map_cons, List.map_nil]); first | done | rfl | (simp only [List.length_drop, List.length_take]; rfl)) ?_; (with_reducible refine (impl_Party_own.calls _ _ l0_0 a0_1 _ _ l0_2 t365 t368 t369 _ ?side1 ?side2 ?side3 ?side4 A4.out).mono ?_); (case side1 => repeat (first | exact (Kd.C_below HR0_0.out HB.out) | (with_reducible refine Kd.C_alloc ?_ _) | (with_reducible refine Kd.C_drewN ?_ _) | (with_reducible refine Kd.C_drew ?_))); (case side2 => exact HC0_0.out); (case side3 => repeat (first | exact (Kd.C_below HR0_2.out HB.out) | (with_reducible refine Kd.C_alloc ?_ _) | (with_reducible refine Kd.C_drewN ?_ _) | (with_reducible refine Kd.C_drew ?_))); (case side4 => exact HC0_2.out); rintro e w12 ⟨v366, v370, rfl, ho0, ho1, hb⟩; refine ⟨_, rfl, ?_⟩; have n0_ := Aside0.mk (Kd.R_lower ho0 (below_size (bel_ HB.out))); have n1_ := Aside0.mk (Kd.R_lower ho1 (below_size (bel_ HB.out))); have n2_ := Aside0.mk (blk_below (g := gb362) (o := .cells #[.slice A0_0 l0_0.length c0_0, .int .i64 a0_1, .slice A0_2 l0_2.length c0_2] 26 (0, 0)) (fb_ BK362.out) hb); have n3_ := Aside0.mk (blk_below (g := gb363) (o := .cells #[.slice none 0 0, .int .i64 0, .slice none 0 0] 26 (0, 0)) (fb_ BK363.out) hb); have n4_ := Aside0.mk (blk_below (g := gb364) (o := .cells #[.int .i64 0, .int .i64 0, .int .i64 0, .string (⟨#[]⟩ : ByteArray)] 34 (0, 0)) (fb_ BK364.out) hb); have n5_ := Aside0.mk (below_step (bel_ HB.out) hb); clear BK362; clear BK363; clear BK364; clear HB; have HO367 := n0_; have HO371 := n1_; have BK362 := n2_; have BK363 := n3_; have BK364 := n4_; have HB := n5_; clear n0_ n1_ n2_ n3_ n4_ n5_; (try clear hb); (try clear hb2); (try clear hk); (try clear hi); (try clear ho0); (try clear ho1)) | ((with_reducible refine gate_dst (N := 9) rfl ?_); (try (refine gate_guard (by rfl) ?_; dsimp only)); refine box_event ?hg (N := 9) ?hd (cs := #[.slice none 0 0, .int .i64 0, .slice none 0 0]) (t := 26) ?hr ?_; (case hd => rfl); (case hg => rfl); (case hr => first | (go_simp; done) | (go_simp; rfl)); intro gb372 hg w13 hbox hb; have n0_ := Aside0.mk (Kd.R_below (fr_ HO367.out) hb); have n1_ := Aside0.mk (Kd.R_below (fr_ HO371.out) hb); have n2_ := Aside0.mk (blk_below (g := gb362) (o := .cells #[.slice A0_0 l0_0.length c0_0, .int .i64 a0_1, .slice A0_2 l0_2.length c0_2] 26 (0, 0)) (fb_ BK362.out) hb); have n3_ := Aside0.mk (blk_below (g := gb363) (o := .cells #[.slice none 0 0, .int .i64 0, .slice none 0 0] 26 (0, 0)) (fb_ BK363.out) hb); have n4_ := Aside0.mk (blk_below (g := gb364) (o := .cells #[.int .i64 0, .int .i64 0, .int .i64 0, .string (⟨#[]⟩ : ByteArray)] 34 (0, 0)) (fb_ BK364.out) hb); have n5_ := Aside0.mk (below_step (bel_ HB.out) hb); have n6_ := Aside0.mk (hbox); have n7_ := Aside0.mk ((by rw [hg]; exact (below_size (bel_ HB.out)) : w.heap.size ≤ gb372)); have n8_ := Aside0.mk ((by rw [hg]; exact (below_size (bel_ HB.out)) : w.heap.size ≤ gb372)); have n9_ := Aside0.mk ((by rw [hg]; exact Nat.ne_of_lt (blk_lt (g := gb362) (o := .cells #[.slice A0_0 l0_0.length c0_0, .int .i64 a0_1, .slice A0_2 l0_2.length c0_2] 26 (0, 0)) (fb_ BK362.out)) : gb362 ≠ gb372)); have n10_ := Aside0.mk ((by rw [hg]; exact Nat.ne_of_gt (blk_lt (g := gb362) (o := .cells #[.slice A0_0 l0_0.length c0_0, .int .i64 a0_1, .slice A0_2 l0_2.length c0_2] 26 (0, 0)) (fb_ BK362.out)) : gb372 ≠ gb362)); have n11_ := Aside0.mk ((by rw [hg]; exact Nat.ne_of_lt (blk_lt (g := gb363) (o := .cells #[.slice none 0 0, .int .i64 0, .slice none 0 0] 26 (0, 0)) (fb_ BK363.out)) : gb363 ≠ gb372)); have n12_ := Aside0.mk ((by rw [hg]; exact Nat.ne_of_gt (blk_lt (g := gb363) (o := .cells #[.slice none 0 0, .int .i64 0, .slice none 0 0] 26 (0, 0)) (fb_ BK363.out)) : gb372 ≠ gb363)); have n13_ := Aside0.mk ((by rw [hg]; exact Nat.ne_of_lt (blk_lt (g := gb364) (o := .cells #[.int .i64 0, .int .i64 0, .int .i64 0, .string (⟨#[]⟩ : ByteArray)] 34 (0, 0)) (fb_ BK364.out)) : gb364 ≠ gb372)); have n14_ := Aside0.mk ((by rw [hg]; exact Nat.ne_of_gt (blk_lt (g := gb364) (o := .cells #[.int .i64 0, .int .i64 0, .int .i64 0, .string (⟨#[]⟩ : ByteArray)] 34 (0, 0)) (fb_ BK364.out)) : gb372 ≠ gb364)); clear HO367; clear HO371; clear BK362; clear BK363; clear BK364; clear HB; have HO367 := n0_; have HO371 := n1_; have BK362 := n2_; have BK363 := n3_; have BK364 := n4_; have HB := n5_; have BK372 := n6_; have GW372 := n7_; have GE372 := n8_; have NB362_372 := n9_; have NB372_362 := n10_; have NB363_372 := n11_; have NB372_363 := n12_; have NB364_372 := n13_; have NB372_364 := n14_; clear n0_ n1_ n2_ n3_ n4_ n5_ n6_ n7_ n8_ n9_ n10_ n11_ n12_ n13_ n14_; clear hb hbox hg; obtain ⟨Ao14, co14, eo14⟩ := Kd.R_slice HO367.out; subst eo14; have hnb15 := NB372_362.out; have hnc15 := NB362_372.out; have hnb16 := NB372_363.out; have hnc16 := NB363_372.out; have hnb17 := NB372_364.out; have hnc17 := NB364_372.out; have hcz18_0 : w13.cell? ⟨gb372, 0, none⟩ = some (.slice none 0 0) := (blk_cell BK372.out 0).trans rfl; have hcz18_1 : w13.cell? ⟨gb372, 1, none⟩ = some (.int .i64 0) := (blk_cell BK372.out 1).trans rfl; have hcz18_2 : w13.cell? ⟨gb372, 2, none⟩ = some (.slice none 0 0) := (blk_cell BK372.out 2).trans rfl; have hfz18_0 := blk_frozen BK372.out 0; have hfz18_1 := blk_frozen BK372.out 1; have hfz18_2 := blk_frozen BK372.out 2; obtain ⟨Ao19, co19, eo19⟩ := Kd.R_slice HO371.out; subst eo19))
 (try simp only [Act.put, sA_, sZ_, sS_])
 go_cut [12] (fun v12 wc => ∃ (kq : Nat) (x12_4 : Bool), v12 = .bool x12_4 ∧ Aside0 (impl_Send21.j0 kq a1 a2 x12_4 l0_0 a0_1 l0_2 t365 t368 t369 = some (r1, r2, r3, r4, r5, r6, r7, r8)) ∧ Aside0 (kq ≤ k) ∧ Aside0 (Kd.R Kd.string 9 wc w.heap.size (fun k_ => some k_ ≠ ((.slice Ao19 t369.length co19) : Value).ownBlock) (.slice Ao14 t365.length co14) t365) ∧ Aside0 (Kd.R Kd.string 9 wc w.heap.size (fun k_ => some k_ ≠ ((.slice Ao14 t365.length co14) : Value).ownBlock) (.slice Ao19 t369.length co19) t369) ∧ Aside0 (wc.heap[gb362]? = some (.cells #[(.slice A0_0 l0_0.length c0_0), .int .i64 a0_1, (.slice A0_2 l0_2.length c0_2)] 26 (0, 0))) ∧ Aside0 (wc.heap[gb363]? = some (.cells #[(.slice none 0 0), .int .i64 0, (.slice none 0 0)] 26 (0, 0))) ∧ Aside0 (wc.heap[gb364]? = some (.cells #[.int .i64 0, .int .i64 0, .int .i64 0, .string (⟨#[]⟩ : ByteArray)] 34 (0, 0))) ∧ Aside0 (wc.heap[gb372]? = some (.cells #[(.slice Ao14 t365.length co14), .int .i64 t368, (.slice Ao19 t369.length co19)] 26 (0, 0))) ∧ Aside0 (Below w.heap.size w wc))
 case first =>
  have H := HC5.out
  clear HC5
  replace H := Option.bind_eq_some_iff.mp H
  obtain ⟨t373, A200, H⟩ := H
  replace H : (if t373 = true then ((impl_in.f a1 0 1).bind fun t374 => (if t374 = true then (impl_Send21.j0 k a1 a2 (decide ((a2.size : Int) > 40)) l0_0 a0_1 l0_2 t365 t368 t369) else (impl_Send21.j0 k a1 a2 true l0_0 a0_1 l0_2 t365 t368 t369))) else (impl_Send21.j0 k a1 a2 true l0_0 a0_1 l0_2 t365 t368 t369)) = some (r1, r2, r3, r4, r5, r6, r7, r8) := H
  have A20 := Aside0.mk A200
  clear A200
  by_cases c21 : t373 = true
  ·subst c21
   have H1 : ((impl_in.f a1 0 1).bind fun t374 => (if t374 = true then (impl_Send21.j0 k a1 a2 (decide ((a2.size : Int) > 40)) l0_0 a0_1 l0_2 t365 t368 t369) else (impl_Send21.j0 k a1 a2 true l0_0 a0_1 l0_2 t365 t368 t369))) = some (r1, r2, r3, r4, r5, r6, r7, r8) := by rw [if_pos rfl] at H; exact H
   clear H
   have H := H1
   clear H1
   replace H := Option.bind_eq_some_iff.mp H
   obtain ⟨t374, A220, H⟩ := H
   replace H : (if t374 = true then (impl_Send21.j0 k a1 a2 (decide ((a2.size : Int) > 40)) l0_0 a0_1 l0_2 t365 t368 t369) else (impl_Send21.j0 k a1 a2 true l0_0 a0_1 l0_2 t365 t368 t369)) = some (r1, r2, r3, r4, r5, r6, r7, r8) := H
   have A22 := Aside0.mk A220
   clear A220
   by_cases c23 : t374 = true
   ·subst c23
    have H1 : (impl_Send21.j0 k a1 a2 (decide ((a2.size : Int) > 40)) l0_0 a0_1 l0_2 t365 t368 t369) = some (r1, r2, r3, r4, r5, r6, r7, r8) := by rw [if_pos rfl] at H; exact H
    clear H
    have H := H1
    clear H1
    have H' := Aside0.mk H
    clear H
    have hnb24 := NB362_363.out
    have hnc24 := NB363_362.out
    have hnb25 := NB362_364.out
    have hnc25 := NB364_362.out
    have hnb26 := NB362_372.out
    have hnc26 := NB372_362.out
    have hcz27_0 : w13.cell? ⟨gb362, 0, none⟩ = some (.slice A0_0 l0_0.length c0_0) := (blk_cell BK362.out 0).trans rfl
    have hcz27_1 : w13.cell? ⟨gb362, 1, none⟩ = some (.int .i64 a0_1) := (blk_cell BK362.out 1).trans rfl
    have hcz27_2 : w13.cell? ⟨gb362, 2, none⟩ = some (.slice A0_2 l0_2.length c0_2) := (blk_cell BK362.out 2).trans rfl
    have hfz27_0 := blk_frozen BK362.out 0
    have hfz27_1 := blk_frozen BK362.out 1
    have hfz27_2 := blk_frozen BK362.out 2
    go_wp2_with (first | ((with_reducible refine gate_callee (f := 11) rfl ?_); refine goesL_ (some 14) rfl rfl Try.func11 (by kernel_rfl) rfl #[.agg #[.slice A0_0 l0_0.length c0_0, .int .i64 a0_1, .slice A0_2 l0_2.length c0_2]] rfl (by (try simp only [List.map_toArray, List.map_cons, List.map_nil]); first | done | rfl | (simp only [List.length_drop, List.length_take]; rfl)) ?_; (with_reducible refine (impl_PartyOk.calls k _ _ l0_0 a0_1 _ _ l0_2 true _ ?side1 ?side2 ?side3 ?side4 A20.out).mono ?_); (case side1 => exact Kd.C_below HR0_0.out (bel_ HB.out)); (case side2 => exact HC0_0.out); (case side3 => exact Kd.C_below HR0_2.out (bel_ HB.out)); (case side4 => exact HC0_2.out); rintro e w28 ⟨rfl, hb⟩; refine ⟨_, rfl, ?_⟩; have n0_ := Aside0.mk (Kd.R_below (by (with_reducible repeat (first | apply Kd.R_alloc | apply Kd.R_drewN | apply Kd.R_drew)); exact (Kd.R_mono (Kd.R_far (p := ⟨gb372, 2, none⟩) (Kd.R_far (p := ⟨gb372, 1, none⟩) (Kd.R_far (p := ⟨gb372, 0, none⟩) (Kd.R_types HO367.out BK372.out (by decide)) (fun _ hk => hk.2) (.slice Ao14 t365.length co14)) (fun _ hk => hk.2) (.int .i64 t368)) (fun _ hk => hk.2) (.slice Ao19 t369.length co19)) (fun _ h_ => h_.1))) hb); have n1_ := Aside0.mk (Kd.R_below (by (with_reducible repeat (first | apply Kd.R_alloc | apply Kd.R_drewN | apply Kd.R_drew)); exact (Kd.R_mono (Kd.R_far (p := ⟨gb372, 2, none⟩) (Kd.R_far (p := ⟨gb372, 1, none⟩) (Kd.R_far (p := ⟨gb372, 0, none⟩) (Kd.R_types HO371.out BK372.out (by decide)) (fun _ hk => hk.2) (.slice Ao14 t365.length co14)) (fun _ hk => hk.2) (.int .i64 t368)) (fun _ hk => hk.2) (.slice Ao19 t369.length co19)) (fun _ h_ => h_.1))) hb); have n2_ := Aside0.mk (blk_below (g := gb362) (o := .cells #[.slice A0_0 l0_0.length c0_0, .int .i64 a0_1, .slice A0_2 l0_2.length c0_2] 26 (0, 0)) (by (with_reducible repeat (first | refine blk_drewN ?_ _ | refine blk_drew ?_ | refine blk_alloc ?_ _)); refine blk_far ?_ NB362_372.out _; (with_reducible repeat (first | refine blk_drewN ?_ _ | refine blk_drew ?_ | refine blk_alloc ?_ _)); refine blk_far ?_ NB362_372.out _; (with_reducible repeat (first | refine blk_drewN ?_ _ | refine blk_drew ?_ | refine blk_alloc ?_ _)); refine blk_far ?_ NB362_372.out _; (with_reducible repeat (first | refine blk_drewN ?_ _ | refine blk_drew ?_ | refine blk_alloc ?_ _)); exact BK362.out) hb); have n3_ := Aside0.mk (blk_below (g := gb363) (o := .cells #[.slice none 0 0, .int .i64 0, .slice none 0 0] 26 (0, 0)) (by (with_reducible repeat (first | refine blk_drewN ?_ _ | refine blk_drew ?_ | refine blk_alloc ?_ _)); refine blk_far ?_ NB363_372.out _; (with_reducible repeat (first | refine blk_drewN ?_ _ | refine blk_drew ?_ | refine blk_alloc ?_ _)); refine blk_far ?_ NB363_372.out _; (with_reducible repeat (first | refine blk_drewN ?_ _ | refine blk_drew ?_ | refine blk_alloc ?_ _)); refine blk_far ?_ NB363_372.out _; (with_reducible repeat (first | refine blk_drewN ?_ _ | refine blk_drew ?_ | refine blk_alloc ?_ _)); exact BK363.out) hb); have n4_ := Aside0.mk (blk_below (g := gb364) (o := .cells #[.int .i64 0, .int .i64 0, .int .i64 0, .string (⟨#[]⟩ : ByteArray)] 34 (0, 0)) (by (with_reducible repeat (first | refine blk_drewN ?_ _ | refine blk_drew ?_ | refine blk_alloc ?_ _)); refine blk_far ?_ NB364_372.out _; (with_reducible repeat (first | refine blk_drewN ?_ _ | refine blk_drew ?_ | refine blk_alloc ?_ _)); refine blk_far ?_ NB364_372.out _; (with_reducible repeat (first | refine blk_drewN ?_ _ | refine blk_drew ?_ | refine blk_alloc ?_ _)); refine blk_far ?_ NB364_372.out _; (with_reducible repeat (first | refine blk_drewN ?_ _ | refine blk_drew ?_ | refine blk_alloc ?_ _)); exact BK364.out) hb); have n5_ := Aside0.mk (blk_below (g := gb372) (o := .cells #[.slice Ao14 t365.length co14, .int .i64 t368, .slice Ao19 t369.length co19] 26 (0, 0)) (by (with_reducible repeat (first | refine blk_drewN ?_ _ | refine blk_drew ?_ | refine blk_alloc ?_ _)); refine blk_put (cs := #[.slice Ao14 t365.length co14, .int .i64 t368, .slice none 0 0]) ?_ 2 _ rfl; (with_reducible repeat (first | refine blk_drewN ?_ _ | refine blk_drew ?_ | refine blk_alloc ?_ _)); refine blk_put (cs := #[.slice Ao14 t365.length co14, .int .i64 0, .slice none 0 0]) ?_ 1 _ rfl; (with_reducible repeat (first | refine blk_drewN ?_ _ | refine blk_drew ?_ | refine blk_alloc ?_ _)); refine blk_put (cs := #[.slice none 0 0, .int .i64 0, .slice none 0 0]) ?_ 0 _ rfl; (with_reducible repeat (first | refine blk_drewN ?_ _ | refine blk_drew ?_ | refine blk_alloc ?_ _)); exact BK372.out) hb); have n6_ := Aside0.mk (below_step (bel_ HB.out) hb); clear HO367; clear HO371; clear BK362; clear BK363; clear BK364; clear BK372; clear HB; have HO367 := n0_; have HO371 := n1_; have BK362 := n2_; have BK363 := n3_; have BK364 := n4_; have BK372 := n5_; have HB := n6_; clear n0_ n1_ n2_ n3_ n4_ n5_ n6_; (try clear hb); (try clear hb2); (try clear hk); (try clear hi)) | (go_at_call 35; (with_reducible refine (impl_in.calls a1 0 1 true _ A22.out).mono ?_); rintro e w' ⟨rfl, ⟨nd, rfl⟩⟩))
    go_meet
    case rel => exact ⟨_, (decide ((a2.size : Int) > 40)), (by first | rfl | (simp; done) | (simp [*]; done) | (simp [wrap64]; done)), H', ⟨by first | omega | exact Nat.le_refl _⟩, ⟨by (with_reducible repeat (first | apply Kd.R_alloc | apply Kd.R_drewN | apply Kd.R_drew)); exact HO367.out⟩, ⟨by (with_reducible repeat (first | apply Kd.R_alloc | apply Kd.R_drewN | apply Kd.R_drew)); exact HO371.out⟩, ⟨by (with_reducible repeat (first | refine blk_drewN ?_ _ | refine blk_drew ?_ | refine blk_alloc ?_ _)); exact BK362.out⟩, ⟨by (with_reducible repeat (first | refine blk_drewN ?_ _ | refine blk_drew ?_ | refine blk_alloc ?_ _)); exact BK363.out⟩, ⟨by (with_reducible repeat (first | refine blk_drewN ?_ _ | refine blk_drew ?_ | refine blk_alloc ?_ _)); exact BK364.out⟩, ⟨by (with_reducible repeat (first | refine blk_drewN ?_ _ | refine blk_drew ?_ | refine blk_alloc ?_ _)); exact BK372.out⟩, ⟨bel_ HB.out⟩⟩
   ·replace c23 := Bool.eq_false_iff.mpr c23
    subst c23
    have H1 : (impl_Send21.j0 k a1 a2 true l0_0 a0_1 l0_2 t365 t368 t369) = some (r1, r2, r3, r4, r5, r6, r7, r8) := by rw [if_neg (show ¬ (false = true) by decide)] at H; exact H
    clear H
    have H := H1
    clear H1
    have H' := Aside0.mk H
    clear H
    have hnb29 := NB362_363.out
    have hnc29 := NB363_362.out
    have hnb30 := NB362_364.out
    have hnc30 := NB364_362.out
    have hnb31 := NB362_372.out
    have hnc31 := NB372_362.out
    have hcz32_0 : w13.cell? ⟨gb362, 0, none⟩ = some (.slice A0_0 l0_0.length c0_0) := (blk_cell BK362.out 0).trans rfl
    have hcz32_1 : w13.cell? ⟨gb362, 1, none⟩ = some (.int .i64 a0_1) := (blk_cell BK362.out 1).trans rfl
    have hcz32_2 : w13.cell? ⟨gb362, 2, none⟩ = some (.slice A0_2 l0_2.length c0_2) := (blk_cell BK362.out 2).trans rfl
    have hfz32_0 := blk_frozen BK362.out 0
    have hfz32_1 := blk_frozen BK362.out 1
    have hfz32_2 := blk_frozen BK362.out 2
    go_wp2_with (first | ((with_reducible refine gate_callee (f := 11) rfl ?_); refine goesL_ (some 14) rfl rfl Try.func11 (by kernel_rfl) rfl #[.agg #[.slice A0_0 l0_0.length c0_0, .int .i64 a0_1, .slice A0_2 l0_2.length c0_2]] rfl (by (try simp only [List.map_toArray, List.map_cons, List.map_nil]); first | done | rfl | (simp only [List.length_drop, List.length_take]; rfl)) ?_; (with_reducible refine (impl_PartyOk.calls k _ _ l0_0 a0_1 _ _ l0_2 true _ ?side1 ?side2 ?side3 ?side4 A20.out).mono ?_); (case side1 => exact Kd.C_below HR0_0.out (bel_ HB.out)); (case side2 => exact HC0_0.out); (case side3 => exact Kd.C_below HR0_2.out (bel_ HB.out)); (case side4 => exact HC0_2.out); rintro e w33 ⟨rfl, hb⟩; refine ⟨_, rfl, ?_⟩; have n0_ := Aside0.mk (Kd.R_below (by (with_reducible repeat (first | apply Kd.R_alloc | apply Kd.R_drewN | apply Kd.R_drew)); exact (Kd.R_mono (Kd.R_far (p := ⟨gb372, 2, none⟩) (Kd.R_far (p := ⟨gb372, 1, none⟩) (Kd.R_far (p := ⟨gb372, 0, none⟩) (Kd.R_types HO367.out BK372.out (by decide)) (fun _ hk => hk.2) (.slice Ao14 t365.length co14)) (fun _ hk => hk.2) (.int .i64 t368)) (fun _ hk => hk.2) (.slice Ao19 t369.length co19)) (fun _ h_ => h_.1))) hb); have n1_ := Aside0.mk (Kd.R_below (by (with_reducible repeat (first | apply Kd.R_alloc | apply Kd.R_drewN | apply Kd.R_drew)); exact (Kd.R_mono (Kd.R_far (p := ⟨gb372, 2, none⟩) (Kd.R_far (p := ⟨gb372, 1, none⟩) (Kd.R_far (p := ⟨gb372, 0, none⟩) (Kd.R_types HO371.out BK372.out (by decide)) (fun _ hk => hk.2) (.slice Ao14 t365.length co14)) (fun _ hk => hk.2) (.int .i64 t368)) (fun _ hk => hk.2) (.slice Ao19 t369.length co19)) (fun _ h_ => h_.1))) hb); have n2_ := Aside0.mk (blk_below (g := gb362) (o := .cells #[.slice A0_0 l0_0.length c0_0, .int .i64 a0_1, .slice A0_2 l0_2.length c0_2] 26 (0, 0)) (by (with_reducible repeat (first | refine blk_drewN ?_ _ | refine blk_drew ?_ | refine blk_alloc ?_ _)); refine blk_far ?_ NB362_372.out _; (with_reducible repeat (first | refine blk_drewN ?_ _ | refine blk_drew ?_ | refine blk_alloc ?_ _)); refine blk_far ?_ NB362_372.out _; (with_reducible repeat (first | refine blk_drewN ?_ _ | refine blk_drew ?_ | refine blk_alloc ?_ _)); refine blk_far ?_ NB362_372.out _; (with_reducible repeat (first | refine blk_drewN ?_ _ | refine blk_drew ?_ | refine blk_alloc ?_ _)); exact BK362.out) hb); have n3_ := Aside0.mk (blk_below (g := gb363) (o := .cells #[.slice none 0 0, .int .i64 0, .slice none 0 0] 26 (0, 0)) (by (with_reducible repeat (first | refine blk_drewN ?_ _ | refine blk_drew ?_ | refine blk_alloc ?_ _)); refine blk_far ?_ NB363_372.out _; (with_reducible repeat (first | refine blk_drewN ?_ _ | refine blk_drew ?_ | refine blk_alloc ?_ _)); refine blk_far ?_ NB363_372.out _; (with_reducible repeat (first | refine blk_drewN ?_ _ | refine blk_drew ?_ | refine blk_alloc ?_ _)); refine blk_far ?_ NB363_372.out _; (with_reducible repeat (first | refine blk_drewN ?_ _ | refine blk_drew ?_ | refine blk_alloc ?_ _)); exact BK363.out) hb); have n4_ := Aside0.mk (blk_below (g := gb364) (o := .cells #[.int .i64 0, .int .i64 0, .int .i64 0, .string (⟨#[]⟩ : ByteArray)] 34 (0, 0)) (by (with_reducible repeat (first | refine blk_drewN ?_ _ | refine blk_drew ?_ | refine blk_alloc ?_ _)); refine blk_far ?_ NB364_372.out _; (with_reducible repeat (first | refine blk_drewN ?_ _ | refine blk_drew ?_ | refine blk_alloc ?_ _)); refine blk_far ?_ NB364_372.out _; (with_reducible repeat (first | refine blk_drewN ?_ _ | refine blk_drew ?_ | refine blk_alloc ?_ _)); refine blk_far ?_ NB364_372.out _; (with_reducible repeat (first | refine blk_drewN ?_ _ | refine blk_drew ?_ | refine blk_alloc ?_ _)); exact BK364.out) hb); have n5_ := Aside0.mk (blk_below (g := gb372) (o := .cells #[.slice Ao14 t365.length co14, .int .i64 t368, .slice Ao19 t369.length co19] 26 (0, 0)) (by (with_reducible repeat (first | refine blk_drewN ?_ _ | refine blk_drew ?_ | refine blk_alloc ?_ _)); refine blk_put (cs := #[.slice Ao14 t365.length co14, .int .i64 t368, .slice none 0 0]) ?_ 2 _ rfl; (with_reducible repeat (first | refine blk_drewN ?_ _ | refine blk_drew ?_ | refine blk_alloc ?_ _)); refine blk_put (cs := #[.slice Ao14 t365.length co14, .int .i64 0, .slice none 0 0]) ?_ 1 _ rfl; (with_reducible repeat (first | refine blk_drewN ?_ _ | refine blk_drew ?_ | refine blk_alloc ?_ _)); refine blk_put (cs := #[.slice none 0 0, .int .i64 0, .slice none 0 0]) ?_ 0 _ rfl; (with_reducible repeat (first | refine blk_drewN ?_ _ | refine blk_drew ?_ | refine blk_alloc ?_ _)); exact BK372.out) hb); have n6_ := Aside0.mk (below_step (bel_ HB.out) hb); clear HO367; clear HO371; clear BK362; clear BK363; clear BK364; clear BK372; clear HB; have HO367 := n0_; have HO371 := n1_; have BK362 := n2_; have BK363 := n3_; have BK364 := n4_; have BK372 := n5_; have HB := n6_; clear n0_ n1_ n2_ n3_ n4_ n5_ n6_; (try clear hb); (try clear hb2); (try clear hk); (try clear hi)) | (go_at_call 35; (with_reducible refine (impl_in.calls a1 0 1 false _ A22.out).mono ?_); rintro e w' ⟨rfl, ⟨nd, rfl⟩⟩))
    go_meet
    case rel => exact ⟨_, (true), (by first | rfl | (simp; done) | (simp [*]; done) | (simp [wrap64]; done)), H', ⟨by first | omega | exact Nat.le_refl _⟩, ⟨by (with_reducible repeat (first | apply Kd.R_alloc | apply Kd.R_drewN | apply Kd.R_drew)); exact HO367.out⟩, ⟨by (with_reducible repeat (first | apply Kd.R_alloc | apply Kd.R_drewN | apply Kd.R_drew)); exact HO371.out⟩, ⟨by (with_reducible repeat (first | refine blk_drewN ?_ _ | refine blk_drew ?_ | refine blk_alloc ?_ _)); exact BK362.out⟩, ⟨by (with_reducible repeat (first | refine blk_drewN ?_ _ | refine blk_drew ?_ | refine blk_alloc ?_ _)); exact BK363.out⟩, ⟨by (with_reducible repeat (first | refine blk_drewN ?_ _ | refine blk_drew ?_ | refine blk_alloc ?_ _)); exact BK364.out⟩, ⟨by (with_reducible repeat (first | refine blk_drewN ?_ _ | refine blk_drew ?_ | refine blk_alloc ?_ _)); exact BK372.out⟩, ⟨bel_ HB.out⟩⟩
  ·replace c21 := Bool.eq_false_iff.mpr c21
   subst c21
   have H1 : (impl_Send21.j0 k a1 a2 true l0_0 a0_1 l0_2 t365 t368 t369) = some (r1, r2, r3, r4, r5, r6, r7, r8) := by rw [if_neg (show ¬ (false = true) by decide)] at H; exact H
   clear H
   have H := H1
   clear H1
   have H' := Aside0.mk H
   clear H
   have hnb34 := NB362_363.out
   have hnc34 := NB363_362.out
   have hnb35 := NB362_364.out
   have hnc35 := NB364_362.out
   have hnb36 := NB362_372.out
   have hnc36 := NB372_362.out
   have hcz37_0 : w13.cell? ⟨gb362, 0, none⟩ = some (.slice A0_0 l0_0.length c0_0) := (blk_cell BK362.out 0).trans rfl
   have hcz37_1 : w13.cell? ⟨gb362, 1, none⟩ = some (.int .i64 a0_1) := (blk_cell BK362.out 1).trans rfl
   have hcz37_2 : w13.cell? ⟨gb362, 2, none⟩ = some (.slice A0_2 l0_2.length c0_2) := (blk_cell BK362.out 2).trans rfl
   have hfz37_0 := blk_frozen BK362.out 0
   have hfz37_1 := blk_frozen BK362.out 1
   have hfz37_2 := blk_frozen BK362.out 2
   go_wp2_with (first | ((with_reducible refine gate_callee (f := 11) rfl ?_); refine goesL_ (some 14) rfl rfl Try.func11 (by kernel_rfl) rfl #[.agg #[.slice A0_0 l0_0.length c0_0, .int .i64 a0_1, .slice A0_2 l0_2.length c0_2]] rfl (by (try simp only [List.map_toArray, List.map_cons, List.map_nil]); first | done | rfl | (simp only [List.length_drop, List.length_take]; rfl)) ?_; (with_reducible refine (impl_PartyOk.calls k _ _ l0_0 a0_1 _ _ l0_2 false _ ?side1 ?side2 ?side3 ?side4 A20.out).mono ?_); (case side1 => exact Kd.C_below HR0_0.out (bel_ HB.out)); (case side2 => exact HC0_0.out); (case side3 => exact Kd.C_below HR0_2.out (bel_ HB.out)); (case side4 => exact HC0_2.out); rintro e w38 ⟨rfl, hb⟩; refine ⟨_, rfl, ?_⟩; have n0_ := Aside0.mk (Kd.R_below (by (with_reducible repeat (first | apply Kd.R_alloc | apply Kd.R_drewN | apply Kd.R_drew)); exact (Kd.R_mono (Kd.R_far (p := ⟨gb372, 2, none⟩) (Kd.R_far (p := ⟨gb372, 1, none⟩) (Kd.R_far (p := ⟨gb372, 0, none⟩) (Kd.R_types HO367.out BK372.out (by decide)) (fun _ hk => hk.2) (.slice Ao14 t365.length co14)) (fun _ hk => hk.2) (.int .i64 t368)) (fun _ hk => hk.2) (.slice Ao19 t369.length co19)) (fun _ h_ => h_.1))) hb); have n1_ := Aside0.mk (Kd.R_below (by (with_reducible repeat (first | apply Kd.R_alloc | apply Kd.R_drewN | apply Kd.R_drew)); exact (Kd.R_mono (Kd.R_far (p := ⟨gb372, 2, none⟩) (Kd.R_far (p := ⟨gb372, 1, none⟩) (Kd.R_far (p := ⟨gb372, 0, none⟩) (Kd.R_types HO371.out BK372.out (by decide)) (fun _ hk => hk.2) (.slice Ao14 t365.length co14)) (fun _ hk => hk.2) (.int .i64 t368)) (fun _ hk => hk.2) (.slice Ao19 t369.length co19)) (fun _ h_ => h_.1))) hb); have n2_ := Aside0.mk (blk_below (g := gb362) (o := .cells #[.slice A0_0 l0_0.length c0_0, .int .i64 a0_1, .slice A0_2 l0_2.length c0_2] 26 (0, 0)) (by (with_reducible repeat (first | refine blk_drewN ?_ _ | refine blk_drew ?_ | refine blk_alloc ?_ _)); refine blk_far ?_ NB362_372.out _; (with_reducible repeat (first | refine blk_drewN ?_ _ | refine blk_drew ?_ | refine blk_alloc ?_ _)); refine blk_far ?_ NB362_372.out _; (with_reducible repeat (first | refine blk_drewN ?_ _ | refine blk_drew ?_ | refine blk_alloc ?_ _)); refine blk_far ?_ NB362_372.out _; (with_reducible repeat (first | refine blk_drewN ?_ _ | refine blk_drew ?_ | refine blk_alloc ?_ _)); exact BK362.out) hb); have n3_ := Aside0.mk (blk_below (g := gb363) (o := .cells #[.slice none 0 0, .int .i64 0, .slice none 0 0] 26 (0, 0)) (by (with_reducible repeat (first | refine blk_drewN ?_ _ | refine blk_drew ?_ | refine blk_alloc ?_ _)); refine blk_far ?_ NB363_372.out _; (with_reducible repeat (first | refine blk_drewN ?_ _ | refine blk_drew ?_ | refine blk_alloc ?_ _)); refine blk_far ?_ NB363_372.out _; (with_reducible repeat (first | refine blk_drewN ?_ _ | refine blk_drew ?_ | refine blk_alloc ?_ _)); refine blk_far ?_ NB363_372.out _; (with_reducible repeat (first | refine blk_drewN ?_ _ | refine blk_drew ?_ | refine blk_alloc ?_ _)); exact BK363.out) hb); have n4_ := Aside0.mk (blk_below (g := gb364) (o := .cells #[.int .i64 0, .int .i64 0, .int .i64 0, .string (⟨#[]⟩ : ByteArray)] 34 (0, 0)) (by (with_reducible repeat (first | refine blk_drewN ?_ _ | refine blk_drew ?_ | refine blk_alloc ?_ _)); refine blk_far ?_ NB364_372.out _; (with_reducible repeat (first | refine blk_drewN ?_ _ | refine blk_drew ?_ | refine blk_alloc ?_ _)); refine blk_far ?_ NB364_372.out _; (with_reducible repeat (first | refine blk_drewN ?_ _ | refine blk_drew ?_ | refine blk_alloc ?_ _)); refine blk_far ?_ NB364_372.out _; (with_reducible repeat (first | refine blk_drewN ?_ _ | refine blk_drew ?_ | refine blk_alloc ?_ _)); exact BK364.out) hb); have n5_ := Aside0.mk (blk_below (g := gb372) (o := .cells #[.slice Ao14 t365.length co14, .int .i64 t368, .slice Ao19 t369.length co19] 26 (0, 0)) (by (with_reducible repeat (first | refine blk_drewN ?_ _ | refine blk_drew ?_ | refine blk_alloc ?_ _)); refine blk_put (cs := #[.slice Ao14 t365.length co14, .int .i64 t368, .slice none 0 0]) ?_ 2 _ rfl; (with_reducible repeat (first | refine blk_drewN ?_ _ | refine blk_drew ?_ | refine blk_alloc ?_ _)); refine blk_put (cs := #[.slice Ao14 t365.length co14, .int .i64 0, .slice none 0 0]) ?_ 1 _ rfl; (with_reducible repeat (first | refine blk_drewN ?_ _ | refine blk_drew ?_ | refine blk_alloc ?_ _)); refine blk_put (cs := #[.slice none 0 0, .int .i64 0, .slice none 0 0]) ?_ 0 _ rfl; (with_reducible repeat (first | refine blk_drewN ?_ _ | refine blk_drew ?_ | refine blk_alloc ?_ _)); exact BK372.out) hb); have n6_ := Aside0.mk (below_step (bel_ HB.out) hb); clear HO367; clear HO371; clear BK362; clear BK363; clear BK364; clear BK372; clear HB; have HO367 := n0_; have HO371 := n1_; have BK362 := n2_; have BK363 := n3_; have BK364 := n4_; have BK372 := n5_; have HB := n6_; clear n0_ n1_ n2_ n3_ n4_ n5_ n6_; (try clear hb); (try clear hb2); (try clear hk); (try clear hi)))
   go_meet
   case rel => exact ⟨_, (true), (by first | rfl | (simp; done) | (simp [*]; done) | (simp [wrap64]; done)), H', ⟨by first | omega | exact Nat.le_refl _⟩, ⟨by (with_reducible repeat (first | apply Kd.R_alloc | apply Kd.R_drewN | apply Kd.R_drew)); exact HO367.out⟩, ⟨by (with_reducible repeat (first | apply Kd.R_alloc | apply Kd.R_drewN | apply Kd.R_drew)); exact HO371.out⟩, ⟨by (with_reducible repeat (first | refine blk_drewN ?_ _ | refine blk_drew ?_ | refine blk_alloc ?_ _)); exact BK362.out⟩, ⟨by (with_reducible repeat (first | refine blk_drewN ?_ _ | refine blk_drew ?_ | refine blk_alloc ?_ _)); exact BK363.out⟩, ⟨by (with_reducible repeat (first | refine blk_drewN ?_ _ | refine blk_drew ?_ | refine blk_alloc ?_ _)); exact BK364.out⟩, ⟨by (with_reducible repeat (first | refine blk_drewN ?_ _ | refine blk_drew ?_ | refine blk_alloc ?_ _)); exact BK372.out⟩, ⟨bel_ HB.out⟩⟩
 case rest =>
  clear HC5
  try clear hcz11_0
  try clear hcz11_1
  try clear hcz11_2
  try clear hcz18_0
  try clear hcz18_1
  try clear hcz18_2
  try clear hfz11_0
  try clear hfz11_1
  try clear hfz11_2
  try clear hfz18_0
  try clear hfz18_1
  try clear hfz18_2
  obtain ⟨kq, x12_4, rfl, HA, HJ4, HO_373000, HO_373002, BK362, BK363, BK364, BK372, HB⟩ := hcut
  cases kq with
  | zero => exact absurd HA.out (by simp [impl_Send21.j0])
  | succ kj4 =>
   have H := HA.out
   clear HA
   simp only [impl_Send21.j0] at H
   by_cases c39 : x12_4 = true
   ·subst c39
    have H1 : (some (t365, t368, t369, 0, 0, 0, (⟨#[]⟩ : ByteArray), 1)) = some (r1, r2, r3, r4, r5, r6, r7, r8) := by rw [if_pos rfl] at H; exact H
    clear H
    have H := H1
    clear H1
    simp only [Option.some.injEq, Prod.mk.injEq] at H
    obtain ⟨rfl, rfl, rfl, rfl, rfl, rfl, rfl, rfl⟩ := H
    have hnb40 := NB372_362.out
    have hnc40 := NB362_372.out
    have hnb41 := NB372_363.out
    have hnc41 := NB363_372.out
    have hnb42 := NB372_364.out
    have hnc42 := NB364_372.out
    have hcz43_0 : wc.cell? ⟨gb372, 0, none⟩ = some (.slice Ao14 t365.length co14) := (blk_cell BK372.out 0).trans rfl
    have hcz43_1 : wc.cell? ⟨gb372, 1, none⟩ = some (.int .i64 t368) := (blk_cell BK372.out 1).trans rfl
    have hcz43_2 : wc.cell? ⟨gb372, 2, none⟩ = some (.slice Ao19 t369.length co19) := (blk_cell BK372.out 2).trans rfl
    have hfz43_0 := blk_frozen BK372.out 0
    have hfz43_1 := blk_frozen BK372.out 1
    have hfz43_2 := blk_frozen BK372.out 2
    have hnb44 := NB363_362.out
    have hnc44 := NB362_363.out
    have hnb45 := NB363_364.out
    have hnc45 := NB364_363.out
    have hcz46_0 : wc.cell? ⟨gb363, 0, none⟩ = some (.slice none 0 0) := (blk_cell BK363.out 0).trans rfl
    have hcz46_1 : wc.cell? ⟨gb363, 1, none⟩ = some (.int .i64 0) := (blk_cell BK363.out 1).trans rfl
    have hcz46_2 : wc.cell? ⟨gb363, 2, none⟩ = some (.slice none 0 0) := (blk_cell BK363.out 2).trans rfl
    have hfz46_0 := blk_frozen BK363.out 0
    have hfz46_1 := blk_frozen BK363.out 1
    have hfz46_2 := blk_frozen BK363.out 2
    have hnb47 := NB364_362.out
    have hnc47 := NB362_364.out
    have hcz48_0 : wc.cell? ⟨gb364, 0, none⟩ = some (.int .i64 0) := (blk_cell BK364.out 0).trans rfl
    have hcz48_1 : wc.cell? ⟨gb364, 1, none⟩ = some (.int .i64 0) := (blk_cell BK364.out 1).trans rfl
    have hcz48_2 : wc.cell? ⟨gb364, 2, none⟩ = some (.int .i64 0) := (blk_cell BK364.out 2).trans rfl
    have hcz48_3 : wc.cell? ⟨gb364, 3, none⟩ = some (.string (⟨#[]⟩ : ByteArray)) := (blk_cell BK364.out 3).trans rfl
    have hfz48_0 := blk_frozen BK364.out 0
    have hfz48_1 := blk_frozen BK364.out 1
    have hfz48_2 := blk_frozen BK364.out 2
    have hfz48_3 := blk_frozen BK364.out 3
    go_wp2
    refine bodyPost_ret (results_list (rs := [.cell 6 26, .cell 7 34, .tmp 8]) rfl (by simp) (.cell gb363 26 #[.slice Ao14 t365.length co14, .int .i64 t368, .slice Ao19 t369.length co19] (0, 0) _ rfl (by (with_reducible repeat (first | refine blk_drewN ?_ _ | refine blk_drew ?_ | refine blk_alloc ?_ _)); refine blk_far ?_ NB363_364.out _; (with_reducible repeat (first | refine blk_drewN ?_ _ | refine blk_drew ?_ | refine blk_alloc ?_ _)); refine blk_far ?_ NB363_364.out _; (with_reducible repeat (first | refine blk_drewN ?_ _ | refine blk_drew ?_ | refine blk_alloc ?_ _)); refine blk_far ?_ NB363_364.out _; (with_reducible repeat (first | refine blk_drewN ?_ _ | refine blk_drew ?_ | refine blk_alloc ?_ _)); refine blk_far ?_ NB363_364.out _; (with_reducible repeat (first | refine blk_drewN ?_ _ | refine blk_drew ?_ | refine blk_alloc ?_ _)); refine blk_put (cs := #[.slice Ao14 t365.length co14, .int .i64 t368, .slice none 0 0]) ?_ 2 _ rfl; (with_reducible repeat (first | refine blk_drewN ?_ _ | refine blk_drew ?_ | refine blk_alloc ?_ _)); refine blk_put (cs := #[.slice Ao14 t365.length co14, .int .i64 0, .slice none 0 0]) ?_ 1 _ rfl; (with_reducible repeat (first | refine blk_drewN ?_ _ | refine blk_drew ?_ | refine blk_alloc ?_ _)); refine blk_put (cs := #[.slice none 0 0, .int .i64 0, .slice none 0 0]) ?_ 0 _ rfl; (with_reducible repeat (first | refine blk_drewN ?_ _ | refine blk_drew ?_ | refine blk_alloc ?_ _)); exact BK363.out) Try.underlying26 rfl (by kernel_rfl) (.cell gb364 34 #[.int .i64 0, .int .i64 0, .int .i64 0, .string (⟨#[]⟩ : ByteArray)] (0, 0) _ rfl (by (with_reducible repeat (first | refine blk_drewN ?_ _ | refine blk_drew ?_ | refine blk_alloc ?_ _)); refine blk_put (cs := #[.int .i64 0, .int .i64 0, .int .i64 0, .string (⟨#[]⟩ : ByteArray)]) ?_ 3 _ rfl; (with_reducible repeat (first | refine blk_drewN ?_ _ | refine blk_drew ?_ | refine blk_alloc ?_ _)); refine blk_put (cs := #[.int .i64 0, .int .i64 0, .int .i64 0, .string (⟨#[]⟩ : ByteArray)]) ?_ 2 _ rfl; (with_reducible repeat (first | refine blk_drewN ?_ _ | refine blk_drew ?_ | refine blk_alloc ?_ _)); refine blk_put (cs := #[.int .i64 0, .int .i64 0, .int .i64 0, .string (⟨#[]⟩ : ByteArray)]) ?_ 1 _ rfl; (with_reducible repeat (first | refine blk_drewN ?_ _ | refine blk_drew ?_ | refine blk_alloc ?_ _)); refine blk_put (cs := #[.int .i64 0, .int .i64 0, .int .i64 0, .string (⟨#[]⟩ : ByteArray)]) ?_ 0 _ rfl; (with_reducible repeat (first | refine blk_drewN ?_ _ | refine blk_drew ?_ | refine blk_alloc ?_ _)); refine blk_far ?_ NB364_363.out _; (with_reducible repeat (first | refine blk_drewN ?_ _ | refine blk_drew ?_ | refine blk_alloc ?_ _)); refine blk_far ?_ NB364_363.out _; (with_reducible repeat (first | refine blk_drewN ?_ _ | refine blk_drew ?_ | refine blk_alloc ?_ _)); refine blk_far ?_ NB364_363.out _; (with_reducible repeat (first | refine blk_drewN ?_ _ | refine blk_drew ?_ | refine blk_alloc ?_ _)); exact BK364.out) Try.underlying34 rfl (by kernel_rfl) (.tmp .nil)))) rfl ?_
    exact ⟨_, _, by first | rfl | (simp [errW_none, errW_some] <;> rfl) | (simp [*, errW_none, errW_some] <;> rfl), by (with_reducible repeat (first | apply Kd.R_alloc | apply Kd.R_drewN | apply Kd.R_drew)); exact Kd.R_mono (Kd.R_far (p := ⟨gb364, 3, none⟩) (Kd.R_far (p := ⟨gb364, 2, none⟩) (Kd.R_far (p := ⟨gb364, 1, none⟩) (Kd.R_far (p := ⟨gb364, 0, none⟩) (Kd.R_far (p := ⟨gb363, 2, none⟩) (Kd.R_far (p := ⟨gb363, 1, none⟩) (Kd.R_far (p := ⟨gb363, 0, none⟩) (Kd.R_types (Kd.R_types HO_373000.out BK363.out (by decide)) BK364.out (by decide)) (fun _ hk => hk.1.2) (.slice Ao14 t365.length co14)) (fun _ hk => hk.1.2) (.int .i64 t368)) (fun _ hk => hk.1.2) (.slice Ao19 t369.length co19)) (fun _ hk => hk.2) (.int .i64 0)) (fun _ hk => hk.2) (.int .i64 0)) (fun _ hk => hk.2) (.int .i64 0)) (fun _ hk => hk.2) (.string (⟨#[]⟩ : ByteArray))) (fun _ hk => hk.1.1), by (with_reducible repeat (first | apply Kd.R_alloc | apply Kd.R_drewN | apply Kd.R_drew)); exact Kd.R_mono (Kd.R_far (p := ⟨gb364, 3, none⟩) (Kd.R_far (p := ⟨gb364, 2, none⟩) (Kd.R_far (p := ⟨gb364, 1, none⟩) (Kd.R_far (p := ⟨gb364, 0, none⟩) (Kd.R_far (p := ⟨gb363, 2, none⟩) (Kd.R_far (p := ⟨gb363, 1, none⟩) (Kd.R_far (p := ⟨gb363, 0, none⟩) (Kd.R_types (Kd.R_types HO_373002.out BK363.out (by decide)) BK364.out (by decide)) (fun _ hk => hk.1.2) (.slice Ao14 t365.length co14)) (fun _ hk => hk.1.2) (.int .i64 t368)) (fun _ hk => hk.1.2) (.slice Ao19 t369.length co19)) (fun _ hk => hk.2) (.int .i64 0)) (fun _ hk => hk.2) (.int .i64 0)) (fun _ hk => hk.2) (.int .i64 0)) (fun _ hk => hk.2) (.string (⟨#[]⟩ : ByteArray))) (fun _ hk => hk.1.1), bel_ HB.out⟩
   ·replace c39 := Bool.eq_false_iff.mpr c39
    subst c39
    have H1 : (if (l0_0.length : Int) = 200 then (some (t365, t368, t369, 0, 0, 0, (⟨#[]⟩ : ByteArray), 2)) else (if t365.length < 8796093022208 then ((impl_own_string.f (t365 ++ [a2])).bind fun t378 => (some (t378, t368, t369, a1, (t378.length : Int), (t369.length : Int), a2, 0))) else (none))) = some (r1, r2, r3, r4, r5, r6, r7, r8) := by rw [if_neg (show ¬ (false = true) by decide)] at H; exact H
    clear H
    have H := H1
    clear H1
    by_cases c49 : (l0_0.length : Int) = 200
    ·rw [if_pos c49] at H
     have c49b0 : ((l0_0.length : Int) == 200) = true := beq_iff_eq.mpr c49
     have c49b1 : ((l0_0.length : Int) != 200) = false := bne_eq_false_iff_eq.mpr c49
     clear c49
     simp only [Option.some.injEq, Prod.mk.injEq] at H
     obtain ⟨rfl, rfl, rfl, rfl, rfl, rfl, rfl, rfl⟩ := H
     have hnb50 := NB362_363.out
     have hnc50 := NB363_362.out
     have hnb51 := NB362_364.out
     have hnc51 := NB364_362.out
     have hnb52 := NB362_372.out
     have hnc52 := NB372_362.out
     have hcz53_0 : wc.cell? ⟨gb362, 0, none⟩ = some (.slice A0_0 l0_0.length c0_0) := (blk_cell BK362.out 0).trans rfl
     have hcz53_1 : wc.cell? ⟨gb362, 1, none⟩ = some (.int .i64 a0_1) := (blk_cell BK362.out 1).trans rfl
     have hcz53_2 : wc.cell? ⟨gb362, 2, none⟩ = some (.slice A0_2 l0_2.length c0_2) := (blk_cell BK362.out 2).trans rfl
     have hfz53_0 := blk_frozen BK362.out 0
     have hfz53_1 := blk_frozen BK362.out 1
     have hfz53_2 := blk_frozen BK362.out 2
     have hnb54 := NB372_363.out
     have hnc54 := NB363_372.out
     have hnb55 := NB372_364.out
     have hnc55 := NB364_372.out
     have hcz56_0 : wc.cell? ⟨gb372, 0, none⟩ = some (.slice Ao14 t365.length co14) := (blk_cell BK372.out 0).trans rfl
     have hcz56_1 : wc.cell? ⟨gb372, 1, none⟩ = some (.int .i64 t368) := (blk_cell BK372.out 1).trans rfl
     have hcz56_2 : wc.cell? ⟨gb372, 2, none⟩ = some (.slice Ao19 t369.length co19) := (blk_cell BK372.out 2).trans rfl
     have hfz56_0 := blk_frozen BK372.out 0
     have hfz56_1 := blk_frozen BK372.out 1
     have hfz56_2 := blk_frozen BK372.out 2
     have hnb57 := NB363_364.out
     have hnc57 := NB364_363.out
     have hcz58_0 : wc.cell? ⟨gb363, 0, none⟩ = some (.slice none 0 0) := (blk_cell BK363.out 0).trans rfl
     have hcz58_1 : wc.cell? ⟨gb363, 1, none⟩ = some (.int .i64 0) := (blk_cell BK363.out 1).trans rfl
     have hcz58_2 : wc.cell? ⟨gb363, 2, none⟩ = some (.slice none 0 0) := (blk_cell BK363.out 2).trans rfl
     have hfz58_0 := blk_frozen BK363.out 0
     have hfz58_1 := blk_frozen BK363.out 1
     have hfz58_2 := blk_frozen BK363.out 2
     have hcz59_0 : wc.cell? ⟨gb364, 0, none⟩ = some (.int .i64 0) := (blk_cell BK364.out 0).trans rfl
     have hcz59_1 : wc.cell? ⟨gb364, 1, none⟩ = some (.int .i64 0) := (blk_cell BK364.out 1).trans rfl
     have hcz59_2 : wc.cell? ⟨gb364, 2, none⟩ = some (.int .i64 0) := (blk_cell BK364.out 2).trans rfl
     have hcz59_3 : wc.cell? ⟨gb364, 3, none⟩ = some (.string (⟨#[]⟩ : ByteArray)) := (blk_cell BK364.out 3).trans rfl
     have hfz59_0 := blk_frozen BK364.out 0
     have hfz59_1 := blk_frozen BK364.out 1
     have hfz59_2 := blk_frozen BK364.out 2
     have hfz59_3 := blk_frozen BK364.out 3
     go_wp2
     refine bodyPost_ret (results_list (rs := [.cell 6 26, .cell 7 34, .tmp 8]) rfl (by simp) (.cell gb363 26 #[.slice Ao14 t365.length co14, .int .i64 t368, .slice Ao19 t369.length co19] (0, 0) _ rfl (by (with_reducible repeat (first | refine blk_drewN ?_ _ | refine blk_drew ?_ | refine blk_alloc ?_ _)); refine blk_far ?_ NB363_364.out _; (with_reducible repeat (first | refine blk_drewN ?_ _ | refine blk_drew ?_ | refine blk_alloc ?_ _)); refine blk_far ?_ NB363_364.out _; (with_reducible repeat (first | refine blk_drewN ?_ _ | refine blk_drew ?_ | refine blk_alloc ?_ _)); refine blk_far ?_ NB363_364.out _; (with_reducible repeat (first | refine blk_drewN ?_ _ | refine blk_drew ?_ | refine blk_alloc ?_ _)); refine blk_far ?_ NB363_364.out _; (with_reducible repeat (first | refine blk_drewN ?_ _ | refine blk_drew ?_ | refine blk_alloc ?_ _)); refine blk_put (cs := #[.slice Ao14 t365.length co14, .int .i64 t368, .slice none 0 0]) ?_ 2 _ rfl; (with_reducible repeat (first | refine blk_drewN ?_ _ | refine blk_drew ?_ | refine blk_alloc ?_ _)); refine blk_put (cs := #[.slice Ao14 t365.length co14, .int .i64 0, .slice none 0 0]) ?_ 1 _ rfl; (with_reducible repeat (first | refine blk_drewN ?_ _ | refine blk_drew ?_ | refine blk_alloc ?_ _)); refine blk_put (cs := #[.slice none 0 0, .int .i64 0, .slice none 0 0]) ?_ 0 _ rfl; (with_reducible repeat (first | refine blk_drewN ?_ _ | refine blk_drew ?_ | refine blk_alloc ?_ _)); exact BK363.out) Try.underlying26 rfl (by kernel_rfl) (.cell gb364 34 #[.int .i64 0, .int .i64 0, .int .i64 0, .string (⟨#[]⟩ : ByteArray)] (0, 0) _ rfl (by (with_reducible repeat (first | refine blk_drewN ?_ _ | refine blk_drew ?_ | refine blk_alloc ?_ _)); refine blk_put (cs := #[.int .i64 0, .int .i64 0, .int .i64 0, .string (⟨#[]⟩ : ByteArray)]) ?_ 3 _ rfl; (with_reducible repeat (first | refine blk_drewN ?_ _ | refine blk_drew ?_ | refine blk_alloc ?_ _)); refine blk_put (cs := #[.int .i64 0, .int .i64 0, .int .i64 0, .string (⟨#[]⟩ : ByteArray)]) ?_ 2 _ rfl; (with_reducible repeat (first | refine blk_drewN ?_ _ | refine blk_drew ?_ | refine blk_alloc ?_ _)); refine blk_put (cs := #[.int .i64 0, .int .i64 0, .int .i64 0, .string (⟨#[]⟩ : ByteArray)]) ?_ 1 _ rfl; (with_reducible repeat (first | refine blk_drewN ?_ _ | refine blk_drew ?_ | refine blk_alloc ?_ _)); refine blk_put (cs := #[.int .i64 0, .int .i64 0, .int .i64 0, .string (⟨#[]⟩ : ByteArray)]) ?_ 0 _ rfl; (with_reducible repeat (first | refine blk_drewN ?_ _ | refine blk_drew ?_ | refine blk_alloc ?_ _)); refine blk_far ?_ NB364_363.out _; (with_reducible repeat (first | refine blk_drewN ?_ _ | refine blk_drew ?_ | refine blk_alloc ?_ _)); refine blk_far ?_ NB364_363.out _; (with_reducible repeat (first | refine blk_drewN ?_ _ | refine blk_drew ?_ | refine blk_alloc ?_ _)); refine blk_far ?_ NB364_363.out _; (with_reducible repeat (first | refine blk_drewN ?_ _ | refine blk_drew ?_ | refine blk_alloc ?_ _)); exact BK364.out) Try.underlying34 rfl (by kernel_rfl) (.tmp .nil)))) rfl ?_
     exact ⟨_, _, by first | rfl | (simp [errW_none, errW_some] <;> rfl) | (simp [*, errW_none, errW_some] <;> rfl), by (with_reducible repeat (first | apply Kd.R_alloc | apply Kd.R_drewN | apply Kd.R_drew)); exact Kd.R_mono (Kd.R_far (p := ⟨gb364, 3, none⟩) (Kd.R_far (p := ⟨gb364, 2, none⟩) (Kd.R_far (p := ⟨gb364, 1, none⟩) (Kd.R_far (p := ⟨gb364, 0, none⟩) (Kd.R_far (p := ⟨gb363, 2, none⟩) (Kd.R_far (p := ⟨gb363, 1, none⟩) (Kd.R_far (p := ⟨gb363, 0, none⟩) (Kd.R_types (Kd.R_types HO_373000.out BK363.out (by decide)) BK364.out (by decide)) (fun _ hk => hk.1.2) (.slice Ao14 t365.length co14)) (fun _ hk => hk.1.2) (.int .i64 t368)) (fun _ hk => hk.1.2) (.slice Ao19 t369.length co19)) (fun _ hk => hk.2) (.int .i64 0)) (fun _ hk => hk.2) (.int .i64 0)) (fun _ hk => hk.2) (.int .i64 0)) (fun _ hk => hk.2) (.string (⟨#[]⟩ : ByteArray))) (fun _ hk => hk.1.1), by (with_reducible repeat (first | apply Kd.R_alloc | apply Kd.R_drewN | apply Kd.R_drew)); exact Kd.R_mono (Kd.R_far (p := ⟨gb364, 3, none⟩) (Kd.R_far (p := ⟨gb364, 2, none⟩) (Kd.R_far (p := ⟨gb364, 1, none⟩) (Kd.R_far (p := ⟨gb364, 0, none⟩) (Kd.R_far (p := ⟨gb363, 2, none⟩) (Kd.R_far (p := ⟨gb363, 1, none⟩) (Kd.R_far (p := ⟨gb363, 0, none⟩) (Kd.R_types (Kd.R_types HO_373002.out BK363.out (by decide)) BK364.out (by decide)) (fun _ hk => hk.1.2) (.slice Ao14 t365.length co14)) (fun _ hk => hk.1.2) (.int .i64 t368)) (fun _ hk => hk.1.2) (.slice Ao19 t369.length co19)) (fun _ hk => hk.2) (.int .i64 0)) (fun _ hk => hk.2) (.int .i64 0)) (fun _ hk => hk.2) (.int .i64 0)) (fun _ hk => hk.2) (.string (⟨#[]⟩ : ByteArray))) (fun _ hk => hk.1.1), bel_ HB.out⟩
    ·rw [if_neg c49] at H
     have c49b0 : ((l0_0.length : Int) == 200) = false := beq_eq_false_iff_ne.mpr c49
     have c49b1 : ((l0_0.length : Int) != 200) = true := bne_iff_ne.mpr c49
     by_cases c60 : t365.length < 8796093022208
     ·rw [if_pos c60] at H
      have LMc60 := Aside0.mk c60
      clear c60
      obtain ⟨y375, hy375⟩ : ∃ y_ : List ByteArray, y_ = (t365 ++ [a2]) := ⟨_, rfl⟩
      replace H : ((impl_own_string.f y375).bind fun t378 => (some (t378, t368, t369, a1, (t378.length : Int), (t369.length : Int), a2, 0))) = some (r1, r2, r3, r4, r5, r6, r7, r8) := by first | (rw [hy375]; with_reducible exact H) | (have H2_ := (Option.bind_some _ _).symm.trans H; rw [hy375]; with_reducible exact H2_) | (have H2_ := (Option.bind_some _ _).symm.trans H; with_reducible exact H2_) | with_reducible exact H | (rw [hy375]; exact H) | exact H
      have Ny375 := Aside0.mk hy375
      clear hy375
      replace H := Option.bind_eq_some_iff.mp H
      obtain ⟨t378, A610, H⟩ := H
      replace H : (some (t378, t368, t369, a1, (t378.length : Int), (t369.length : Int), a2, 0)) = some (r1, r2, r3, r4, r5, r6, r7, r8) := H
      have A61 := Aside0.mk A610
      clear A610
      simp only [Option.some.injEq, Prod.mk.injEq] at H
      obtain ⟨rfl, rfl, rfl, rfl, rfl, rfl, rfl, rfl⟩ := H
      have hnb62 := NB362_363.out
      have hnc62 := NB363_362.out
      have hnb63 := NB362_364.out
      have hnc63 := NB364_362.out
      have hnb64 := NB362_372.out
      have hnc64 := NB372_362.out
      have hcz65_0 : wc.cell? ⟨gb362, 0, none⟩ = some (.slice A0_0 l0_0.length c0_0) := (blk_cell BK362.out 0).trans rfl
      have hcz65_1 : wc.cell? ⟨gb362, 1, none⟩ = some (.int .i64 a0_1) := (blk_cell BK362.out 1).trans rfl
      have hcz65_2 : wc.cell? ⟨gb362, 2, none⟩ = some (.slice A0_2 l0_2.length c0_2) := (blk_cell BK362.out 2).trans rfl
      have hfz65_0 := blk_frozen BK362.out 0
      have hfz65_1 := blk_frozen BK362.out 1
      have hfz65_2 := blk_frozen BK362.out 2
      have hnb66 := NB372_363.out
      have hnc66 := NB363_372.out
      have hnb67 := NB372_364.out
      have hnc67 := NB364_372.out
      have hcz68_0 : wc.cell? ⟨gb372, 0, none⟩ = some (.slice Ao14 t365.length co14) := (blk_cell BK372.out 0).trans rfl
      have hcz68_1 : wc.cell? ⟨gb372, 1, none⟩ = some (.int .i64 t368) := (blk_cell BK372.out 1).trans rfl
      have hcz68_2 : wc.cell? ⟨gb372, 2, none⟩ = some (.slice Ao19 t369.length co19) := (blk_cell BK372.out 2).trans rfl
      have hfz68_0 := blk_frozen BK372.out 0
      have hfz68_1 := blk_frozen BK372.out 1
      have hfz68_2 := blk_frozen BK372.out 2
      try go_wp2_with (first | ((with_reducible refine gate_builtin (b := .append) (xs := #[.tmp 36, .tmp 38]) rfl ?_); (try (refine gate_guard (by rfl) ?_; dsimp only)); at_builtin; refine Kd.R_append Kd.string (w0 := w) w.heap.size rfl (.tmp 36) (.tmp 38) 24 9 (.string ⟨#[]⟩) 16 rfl Try.underlying24 info9 rfl (by decide) (by omega) (.slice Ao14 t365.length co14) t365 a2 [.string a2] (fun k_ => some k_ ≠ (.slice Ao19 t369.length co19 : Value).ownBlock) (fun _ => False) rfl rfl ?aP (fun _ hk => hk.elim) ?aF ?aO ?aB ?aS ?aL ?_; (case aP => exact rfl); (case aB => exact (bel_ HB.out)); (case aF => exact (fun k_ hk => Kd.fresh' (Kd.R_lt (fr_ HO_373002.out)) k_ hk)); (case aO => exact (fr_ HO_373000.out)); (case aS => exact (below_size (bel_ HB.out))); (case aL => have := LMc60.out; omega); intro v376 w69 ho hb hg hat; rw [← Ny375.out] at ho; have n0_ := Aside0.mk (Kd.R_after (ok := (fun _ => True)) (by (with_reducible repeat (first | apply Kd.R_alloc | apply Kd.R_drewN | apply Kd.R_drew)); exact Kd.R_mono HO_373002.out (fun _ hk => ⟨trivial, hk⟩)) hg hat); have n1_ := Aside0.mk (blk_grown (g := gb362) (o := .cells #[.slice A0_0 l0_0.length c0_0, .int .i64 a0_1, .slice A0_2 l0_2.length c0_2] 26 (0, 0)) (fb_ BK362.out) hg (Kd.R_ne HO_373000.out BK362.out (by decide))); have n2_ := Aside0.mk (blk_grown (g := gb363) (o := .cells #[.slice none 0 0, .int .i64 0, .slice none 0 0] 26 (0, 0)) (fb_ BK363.out) hg (Kd.R_ne HO_373000.out BK363.out (by decide))); have n3_ := Aside0.mk (blk_grown (g := gb364) (o := .cells #[.int .i64 0, .int .i64 0, .int .i64 0, .string (⟨#[]⟩ : ByteArray)] 34 (0, 0)) (fb_ BK364.out) hg (Kd.R_ne HO_373000.out BK364.out (by decide))); have n4_ := Aside0.mk (blk_grown (g := gb372) (o := .cells #[.slice Ao14 t365.length co14, .int .i64 t368, .slice Ao19 t369.length co19] 26 (0, 0)) (fb_ BK372.out) hg (Kd.R_ne HO_373000.out BK372.out (by decide))); have n5_ := Aside0.mk (hb); have n6_ := Aside0.mk (ho); clear HO_373002; clear BK362; clear BK363; clear BK364; clear BK372; clear HB; clear HO_373000; have HO_373002 := n0_; have BK362 := n1_; have BK363 := n2_; have BK364 := n3_; have BK372 := n4_; have HB := n5_; have HO377 := n6_; clear n0_ n1_ n2_ n3_ n4_ n5_ n6_; clear ho hb hg hat; obtain ⟨Ao70, co70, eo70⟩ := Kd.R_slice HO377.out; subst eo70) | ((with_reducible refine gate_callee (f := 40) rfl ?_); refine goesL_ (some 40) rfl rfl Try.func40 (by kernel_rfl) rfl #[.slice Ao70 y375.length co70] rfl (by (try simp only [List.map_toArray, List.map_cons, List.map_nil]); first | done | rfl | (simp only [List.length_drop, List.length_take]; rfl)) ?_; (with_reducible refine (impl_own_string.calls _ _ y375 t378 _ ?side1 ?side2 A61.out).mono ?_); (case side1 => repeat (first | exact (Kd.R_reads' HO377.out).2.2 | (with_reducible refine Kd.C_alloc ?_ _) | (with_reducible refine Kd.C_drewN ?_ _) | (with_reducible refine Kd.C_drew ?_))); (case side2 => exact (Kd.R_reads' HO377.out).2.1); rintro e w71 ⟨v379, rfl, ho0, hb⟩; refine ⟨_, rfl, ?_⟩; have n0_ := Aside0.mk (Kd.R_elder' (fr_ HO_373002.out) (Kd.R_base ho0) hb); have n1_ := Aside0.mk (Kd.R_elder' (fr_ HO377.out) (Kd.R_base ho0) hb); have n2_ := Aside0.mk (Kd.R_lower (Kd.R_new' (Kd.R_new' ho0 (Kd.R_lt (fr_ HO_373002.out))) (Kd.R_lt (fr_ HO377.out))) (below_size (bel_ HB.out))); have n3_ := Aside0.mk (blk_below (g := gb362) (o := .cells #[.slice A0_0 l0_0.length c0_0, .int .i64 a0_1, .slice A0_2 l0_2.length c0_2] 26 (0, 0)) (fb_ BK362.out) hb); have n4_ := Aside0.mk (blk_below (g := gb363) (o := .cells #[.slice none 0 0, .int .i64 0, .slice none 0 0] 26 (0, 0)) (fb_ BK363.out) hb); have n5_ := Aside0.mk (blk_below (g := gb364) (o := .cells #[.int .i64 0, .int .i64 0, .int .i64 0, .string (⟨#[]⟩ : ByteArray)] 34 (0, 0)) (fb_ BK364.out) hb); have n6_ := Aside0.mk (blk_below (g := gb372) (o := .cells #[.slice Ao14 t365.length co14, .int .i64 t368, .slice Ao19 t369.length co19] 26 (0, 0)) (fb_ BK372.out) hb); have n7_ := Aside0.mk (below_step (bel_ HB.out) hb); clear HO_373002; clear HO377; clear BK362; clear BK363; clear BK364; clear BK372; clear HB; have HO_373002 := n0_; have HO377 := n1_; have HO380 := n2_; have BK362 := n3_; have BK363 := n4_; have BK364 := n5_; have BK372 := n6_; have HB := n7_; clear n0_ n1_ n2_ n3_ n4_ n5_ n6_ n7_; (try clear hb); (try clear hb2); (try clear hk); (try clear hi); (try clear ho0); obtain ⟨Ao72, co72, eo72⟩ := Kd.R_slice HO380.out; subst eo72; have hcz73_0 : w71.cell? ⟨gb372, 0, none⟩ = some (.slice Ao14 t365.length co14) := (blk_cell BK372.out 0).trans rfl; have hcz73_1 : w71.cell? ⟨gb372, 1, none⟩ = some (.int .i64 t368) := (blk_cell BK372.out 1).trans rfl; have hcz73_2 : w71.cell? ⟨gb372, 2, none⟩ = some (.slice Ao19 t369.length co19) := (blk_cell BK372.out 2).trans rfl; have hfz73_0 := blk_frozen BK372.out 0; have hfz73_1 := blk_frozen BK372.out 1; have hfz73_2 := blk_frozen BK372.out 2))
      have n0_ : Aside0 (Kd.R Kd.string 9 (w71.setCell ⟨gb372, 0, none⟩ (.slice Ao72 t378.length co72)) w.heap.size (fun k_ => some k_ ≠ (.slice Ao70 y375.length co70 : Value).ownBlock ∧ some k_ ≠ (.slice Ao72 t378.length co72 : Value).ownBlock) (.slice Ao19 t369.length co19) t369) := ⟨by (with_reducible repeat (first | apply Kd.R_alloc | apply Kd.R_drewN | apply Kd.R_drew)); exact Kd.R_mono (Kd.R_far (p := ⟨gb372, 0, none⟩) (Kd.R_types HO_373002.out BK372.out (by decide)) (fun _ hk => hk.2) (.slice Ao72 t378.length co72)) (fun _ hk => ⟨hk.1.1.2, hk.1.2⟩)⟩
      have n1_ : Aside0 (Kd.R Kd.string 9 (w71.setCell ⟨gb372, 0, none⟩ (.slice Ao72 t378.length co72)) w.heap.size (fun k_ => some k_ ≠ (.slice Ao19 t369.length co19 : Value).ownBlock ∧ some k_ ≠ (.slice Ao72 t378.length co72 : Value).ownBlock) (.slice Ao70 y375.length co70) y375) := ⟨by (with_reducible repeat (first | apply Kd.R_alloc | apply Kd.R_drewN | apply Kd.R_drew)); exact Kd.R_mono (Kd.R_far (p := ⟨gb372, 0, none⟩) (Kd.R_types HO377.out BK372.out (by decide)) (fun _ hk => hk.2) (.slice Ao72 t378.length co72)) (fun _ hk => ⟨hk.1.1, hk.1.2⟩)⟩
      have n2_ : Aside0 (Kd.R Kd.string 9 (w71.setCell ⟨gb372, 0, none⟩ (.slice Ao72 t378.length co72)) w.heap.size (fun k_ => some k_ ≠ (.slice Ao19 t369.length co19 : Value).ownBlock ∧ some k_ ≠ (.slice Ao70 y375.length co70 : Value).ownBlock) (.slice Ao72 t378.length co72) t378) := ⟨by (with_reducible repeat (first | apply Kd.R_alloc | apply Kd.R_drewN | apply Kd.R_drew)); exact Kd.R_mono (Kd.R_far (p := ⟨gb372, 0, none⟩) (Kd.R_types HO380.out BK372.out (by decide)) (fun _ hk => hk.2) (.slice Ao72 t378.length co72)) (fun _ hk => ⟨hk.1.1.2, hk.1.2⟩)⟩
      have n3_ : Aside0 ((w71.setCell ⟨gb372, 0, none⟩ (.slice Ao72 t378.length co72)).heap[gb362]? = some (.cells #[.slice A0_0 l0_0.length c0_0, .int .i64 a0_1, .slice A0_2 l0_2.length c0_2] 26 (0, 0))) := ⟨by (with_reducible repeat (first | refine blk_drewN ?_ _ | refine blk_drew ?_ | refine blk_alloc ?_ _)); refine blk_far ?_ NB362_372.out _; (with_reducible repeat (first | refine blk_drewN ?_ _ | refine blk_drew ?_ | refine blk_alloc ?_ _)); exact BK362.out⟩
      have n4_ : Aside0 ((w71.setCell ⟨gb372, 0, none⟩ (.slice Ao72 t378.length co72)).heap[gb363]? = some (.cells #[.slice none 0 0, .int .i64 0, .slice none 0 0] 26 (0, 0))) := ⟨by (with_reducible repeat (first | refine blk_drewN ?_ _ | refine blk_drew ?_ | refine blk_alloc ?_ _)); refine blk_far ?_ NB363_372.out _; (with_reducible repeat (first | refine blk_drewN ?_ _ | refine blk_drew ?_ | refine blk_alloc ?_ _)); exact BK363.out⟩
      have n5_ : Aside0 ((w71.setCell ⟨gb372, 0, none⟩ (.slice Ao72 t378.length co72)).heap[gb364]? = some (.cells #[.int .i64 0, .int .i64 0, .int .i64 0, .string (⟨#[]⟩ : ByteArray)] 34 (0, 0))) := ⟨by (with_reducible repeat (first | refine blk_drewN ?_ _ | refine blk_drew ?_ | refine blk_alloc ?_ _)); refine blk_far ?_ NB364_372.out _; (with_reducible repeat (first | refine blk_drewN ?_ _ | refine blk_drew ?_ | refine blk_alloc ?_ _)); exact BK364.out⟩
      have n6_ : Aside0 ((w71.setCell ⟨gb372, 0, none⟩ (.slice Ao72 t378.length co72)).heap[gb372]? = some (.cells #[.slice Ao72 t378.length co72, .int .i64 t368, .slice Ao19 t369.length co19] 26 (0, 0))) := ⟨by (with_reducible repeat (first | refine blk_drewN ?_ _ | refine blk_drew ?_ | refine blk_alloc ?_ _)); refine blk_put (cs := #[.slice Ao14 t365.length co14, .int .i64 t368, .slice Ao19 t369.length co19]) ?_ 0 _ rfl; (with_reducible repeat (first | refine blk_drewN ?_ _ | refine blk_drew ?_ | refine blk_alloc ?_ _)); exact BK372.out⟩
      have n7_ : Aside0 (Below w.heap.size w (w71.setCell ⟨gb372, 0, none⟩ (.slice Ao72 t378.length co72))) := ⟨bel_ HB.out⟩
      (try clear HO_373002)
      (try clear HO377)
      (try clear HO380)
      (try clear BK362)
      (try clear BK363)
      (try clear BK364)
      (try clear BK372)
      (try clear HB)
      generalize (w71.setCell ⟨gb372, 0, none⟩ (.slice Ao72 t378.length co72)) = w74 at n0_ n1_ n2_ n3_ n4_ n5_ n6_ n7_ ⊢
      have HO_373002 := n0_
      have HO377 := n1_
      have HO380 := n2_
      have BK362 := n3_
      have BK363 := n4_
      have BK364 := n5_
      have BK372 := n6_
      have HB := n7_
      clear n0_ n1_ n2_ n3_ n4_ n5_ n6_ n7_
      have n0_ := Aside0.mk (Kd.R_drew HO_373002.out)
      have n1_ := Aside0.mk (Kd.R_drew HO377.out)
      have n2_ := Aside0.mk (Kd.R_drew HO380.out)
      have n3_ := Aside0.mk (blk_drew BK362.out)
      have n4_ := Aside0.mk (blk_drew BK363.out)
      have n5_ := Aside0.mk (blk_drew BK364.out)
      have n6_ := Aside0.mk (blk_drew BK372.out)
      have n7_ := Aside0.mk (below_drew1 HB.out)
      clear HO_373002
      clear HO377
      clear HO380
      clear BK362
      clear BK363
      clear BK364
      clear BK372
      clear HB
      have HO_373002 := n0_
      have HO377 := n1_
      have HO380 := n2_
      have BK362 := n3_
      have BK363 := n4_
      have BK364 := n5_
      have BK372 := n6_
      have HB := n7_
      clear n0_ n1_ n2_ n3_ n4_ n5_ n6_ n7_
      refine start_ (n := 13) (S := fun w' => w'.cell? ⟨gb372, 0, none⟩ = some (.slice Ao72 t378.length co72) ∧ w'.cell? ⟨gb372, 1, none⟩ = some (.int .i64 t368) ∧ w'.cell? ⟨gb372, 2, none⟩ = some (.slice Ao19 t369.length co19)) (ds := []) (bs 13 0) (by kernel_rfl) rfl rfl ⟨(blk_cell BK372.out 0).trans rfl, (blk_cell BK372.out 1).trans rfl, (blk_cell BK372.out 2).trans rfl⟩ (fun hHeld => ?_); refine with_tabW impl_Send21.tab7 impl_Send21.bits7 (fun HT_ HW_ => ?_)
      generalize w74.drew = w75 at HO_373002 HO377 HO380 BK362 BK363 BK364 BK372 HB hHeld ⊢
      refine pu_ 1 43 HT_ (bs 13 2) rfl rfl ?_
      refine pu_ 2 44 HT_ (bs 13 6) rfl rfl ?_
      refine pu_ 5 47 HT_ (bs 13 38) rfl rfl ?_
      refine pu_ 8 50 HT_ (bs 13 294) rfl rfl ?_
      refine take_ (i := 0) (N := some 42) (v := ?_) (a' := ?_) (bs 13 295) rfl rfl (take_ofW HT_.out HW_.out (by kernel_rfl)) (fun _ _ _ h => h) (Or.inl ⟨by rfl, ?_⟩) hHeld ?_ ?_
      rotate_left
      ·rintro w' ⟨s0, s1, s2⟩
       go_simp
       with_reducible rfl
      rotate_left
      ·simp only [Act.put, sA_, sZ_, sS_, i64_w, i32_w]
       rfl
      refine take_ (i := 3) (N := some 45) (v := ?_) (a' := ?_) (bs 13 303) rfl rfl (take_ofW HT_.out HW_.out (by kernel_rfl)) (fun _ _ _ h => h) (Or.inl ⟨by rfl, ?_⟩) hHeld ?_ ?_
      rotate_left
      ·rintro w' ⟨s0, s1, s2⟩
       go_simp
       with_reducible rfl
      rotate_left
      ·simp only [Act.put, sA_, sZ_, sS_, i64_w, i32_w]
       rfl
      refine pu_ 4 46 HT_ (bs 13 319) rfl rfl ?_
      refine take_ (i := 6) (N := some 48) (v := ?_) (a' := ?_) (bs 13 383) rfl rfl (take_ofW HT_.out HW_.out (by kernel_rfl)) (fun _ _ _ h => h) (Or.inl ⟨by rfl, ?_⟩) hHeld ?_ ?_
      rotate_left
      ·rintro w' ⟨s0, s1, s2⟩
       go_simp
       with_reducible rfl
      rotate_left
      ·simp only [Act.put, sA_, sZ_, sS_, i64_w, i32_w]
       rfl
      refine pu_ 7 49 HT_ (bs 13 511) rfl rfl ?_
      refine pu_ 9 51 HT_ (bs 13 1023) rfl rfl ?_
      refine one_ (i := 10) (N := none) (bs 13 2047) rfl rfl (one_of HT_.out (by kernel_rfl)) (by decide) (fun K hK => ?_)
      have hs76 : w75.cell? ⟨gb363, 0, none⟩ = some (.slice none 0 0) := (blk_cell BK363.out 0).trans rfl
      have hfs76 := blk_frozen BK363.out 0
      have hns76_0 := NB362_363.out
      have hns76_2 := NB364_363.out
      have hns76_3 := NB372_363.out
      have hms76_0 := NB363_362.out
      have hms76_2 := NB363_364.out
      have hms76_3 := NB363_372.out
      have hs77 : w75.cell? ⟨gb363, 1, none⟩ = some (.int .i64 0) := (blk_cell BK363.out 1).trans rfl
      have hfs77 := blk_frozen BK363.out 1
      have hns77_0 := NB362_363.out
      have hns77_2 := NB364_363.out
      have hns77_3 := NB372_363.out
      have hms77_0 := NB363_362.out
      have hms77_2 := NB363_364.out
      have hms77_3 := NB363_372.out
      have hs78 : w75.cell? ⟨gb363, 2, none⟩ = some (.slice none 0 0) := (blk_cell BK363.out 2).trans rfl
      have hfs78 := blk_frozen BK363.out 2
      have hns78_0 := NB362_363.out
      have hns78_2 := NB364_363.out
      have hns78_3 := NB372_363.out
      have hms78_0 := NB363_362.out
      have hms78_2 := NB363_364.out
      have hms78_3 := NB363_372.out
      refine skip_ (w1 := ?_) (by rfl) rfl ?_ ?_
      rotate_left
      ·go_simp
       rfl
      refine hK.out _ _ ⟨((cell_far (p := ⟨gb363, _, none⟩) NB372_363.out _).trans (((cell_far (p := ⟨gb363, _, none⟩) NB372_363.out _).trans (((cell_far (p := ⟨gb363, _, none⟩) NB372_363.out _).trans (hHeld.1)))))), ((cell_far (p := ⟨gb363, _, none⟩) NB372_363.out _).trans (((cell_far (p := ⟨gb363, _, none⟩) NB372_363.out _).trans (((cell_far (p := ⟨gb363, _, none⟩) NB372_363.out _).trans (hHeld.2.1)))))), ((cell_far (p := ⟨gb363, _, none⟩) NB372_363.out _).trans (((cell_far (p := ⟨gb363, _, none⟩) NB372_363.out _).trans (((cell_far (p := ⟨gb363, _, none⟩) NB372_363.out _).trans (hHeld.2.2))))))⟩ (fun hHeld => ?_)
      clear hK K
      refine one_ (i := 11) (N := none) (bs 13 4095) rfl rfl (one_of HT_.out (by kernel_rfl)) (by decide) (fun K hK => ?_)
      have hs79 : w75.cell? ⟨gb364, 0, none⟩ = some (.int .i64 0) := (blk_cell BK364.out 0).trans rfl
      have hfs79 := blk_frozen BK364.out 0
      have hns79_0 := NB362_364.out
      have hns79_1 := NB363_364.out
      have hns79_3 := NB372_364.out
      have hms79_0 := NB364_362.out
      have hms79_1 := NB364_363.out
      have hms79_3 := NB364_372.out
      have hs80 : w75.cell? ⟨gb364, 1, none⟩ = some (.int .i64 0) := (blk_cell BK364.out 1).trans rfl
      have hfs80 := blk_frozen BK364.out 1
      have hns80_0 := NB362_364.out
      have hns80_1 := NB363_364.out
      have hns80_3 := NB372_364.out
      have hms80_0 := NB364_362.out
      have hms80_1 := NB364_363.out
      have hms80_3 := NB364_372.out
      have hs81 : w75.cell? ⟨gb364, 2, none⟩ = some (.int .i64 0) := (blk_cell BK364.out 2).trans rfl
      have hfs81 := blk_frozen BK364.out 2
      have hns81_0 := NB362_364.out
      have hns81_1 := NB363_364.out
      have hns81_3 := NB372_364.out
      have hms81_0 := NB364_362.out
      have hms81_1 := NB364_363.out
      have hms81_3 := NB364_372.out
      have hs82 : w75.cell? ⟨gb364, 3, none⟩ = some (.string (⟨#[]⟩ : ByteArray)) := (blk_cell BK364.out 3).trans rfl
      have hfs82 := blk_frozen BK364.out 3
      have hns82_0 := NB362_364.out
      have hns82_1 := NB363_364.out
      have hns82_3 := NB372_364.out
      have hms82_0 := NB364_362.out
      have hms82_1 := NB364_363.out
      have hms82_3 := NB364_372.out
      refine skip_ (w1 := ?_) (by rfl) rfl ?_ ?_
      rotate_left
      ·go_simp
       rfl
      refine hK.out _ _ ⟨((cell_far (p := ⟨gb364, _, none⟩) NB372_364.out _).trans (((cell_far (p := ⟨gb364, _, none⟩) NB372_364.out _).trans (((cell_far (p := ⟨gb364, _, none⟩) NB372_364.out _).trans (((cell_far (p := ⟨gb364, _, none⟩) NB372_364.out _).trans (hHeld.1)))))))), ((cell_far (p := ⟨gb364, _, none⟩) NB372_364.out _).trans (((cell_far (p := ⟨gb364, _, none⟩) NB372_364.out _).trans (((cell_far (p := ⟨gb364, _, none⟩) NB372_364.out _).trans (((cell_far (p := ⟨gb364, _, none⟩) NB372_364.out _).trans (hHeld.2.1)))))))), ((cell_far (p := ⟨gb364, _, none⟩) NB372_364.out _).trans (((cell_far (p := ⟨gb364, _, none⟩) NB372_364.out _).trans (((cell_far (p := ⟨gb364, _, none⟩) NB372_364.out _).trans (((cell_far (p := ⟨gb364, _, none⟩) NB372_364.out _).trans (hHeld.2.2))))))))⟩ (fun hHeld => ?_)
      clear hK K
      refine pu_ 12 8 HT_ (bs 13 8191) rfl rfl ?_
      refine done_ (done_of HT_.out (by kernel_rfl)) ?_
      try go_wp2
      refine bodyPost_ret (results_list (rs := [.cell 6 26, .cell 7 34, .tmp 8]) rfl (by simp) (.cell gb363 26 #[.slice Ao72 t378.length co72, .int .i64 t368, .slice Ao19 t369.length co19] (0, 0) _ rfl (by (with_reducible repeat (first | refine blk_drewN ?_ _ | refine blk_drew ?_ | refine blk_alloc ?_ _)); refine blk_far ?_ NB363_364.out _; (with_reducible repeat (first | refine blk_drewN ?_ _ | refine blk_drew ?_ | refine blk_alloc ?_ _)); refine blk_far ?_ NB363_364.out _; (with_reducible repeat (first | refine blk_drewN ?_ _ | refine blk_drew ?_ | refine blk_alloc ?_ _)); refine blk_far ?_ NB363_364.out _; (with_reducible repeat (first | refine blk_drewN ?_ _ | refine blk_drew ?_ | refine blk_alloc ?_ _)); refine blk_far ?_ NB363_364.out _; (with_reducible repeat (first | refine blk_drewN ?_ _ | refine blk_drew ?_ | refine blk_alloc ?_ _)); refine blk_put (cs := #[.slice Ao72 t378.length co72, .int .i64 t368, .slice none 0 0]) ?_ 2 _ rfl; (with_reducible repeat (first | refine blk_drewN ?_ _ | refine blk_drew ?_ | refine blk_alloc ?_ _)); refine blk_put (cs := #[.slice Ao72 t378.length co72, .int .i64 0, .slice none 0 0]) ?_ 1 _ rfl; (with_reducible repeat (first | refine blk_drewN ?_ _ | refine blk_drew ?_ | refine blk_alloc ?_ _)); refine blk_put (cs := #[.slice none 0 0, .int .i64 0, .slice none 0 0]) ?_ 0 _ rfl; (with_reducible repeat (first | refine blk_drewN ?_ _ | refine blk_drew ?_ | refine blk_alloc ?_ _)); exact BK363.out) Try.underlying26 rfl (by kernel_rfl) (.cell gb364 34 #[.int .i64 a1, .int .i64 (t378.length : Int), .int .i64 (t369.length : Int), .string a2] (0, 0) _ rfl (by (with_reducible repeat (first | refine blk_drewN ?_ _ | refine blk_drew ?_ | refine blk_alloc ?_ _)); refine blk_put (cs := #[.int .i64 a1, .int .i64 (t378.length : Int), .int .i64 (t369.length : Int), .string (⟨#[]⟩ : ByteArray)]) ?_ 3 _ rfl; (with_reducible repeat (first | refine blk_drewN ?_ _ | refine blk_drew ?_ | refine blk_alloc ?_ _)); refine blk_put (cs := #[.int .i64 a1, .int .i64 (t378.length : Int), .int .i64 0, .string (⟨#[]⟩ : ByteArray)]) ?_ 2 _ rfl; (with_reducible repeat (first | refine blk_drewN ?_ _ | refine blk_drew ?_ | refine blk_alloc ?_ _)); refine blk_put (cs := #[.int .i64 a1, .int .i64 0, .int .i64 0, .string (⟨#[]⟩ : ByteArray)]) ?_ 1 _ rfl; (with_reducible repeat (first | refine blk_drewN ?_ _ | refine blk_drew ?_ | refine blk_alloc ?_ _)); refine blk_put (cs := #[.int .i64 0, .int .i64 0, .int .i64 0, .string (⟨#[]⟩ : ByteArray)]) ?_ 0 _ rfl; (with_reducible repeat (first | refine blk_drewN ?_ _ | refine blk_drew ?_ | refine blk_alloc ?_ _)); refine blk_far ?_ NB364_363.out _; (with_reducible repeat (first | refine blk_drewN ?_ _ | refine blk_drew ?_ | refine blk_alloc ?_ _)); refine blk_far ?_ NB364_363.out _; (with_reducible repeat (first | refine blk_drewN ?_ _ | refine blk_drew ?_ | refine blk_alloc ?_ _)); refine blk_far ?_ NB364_363.out _; (with_reducible repeat (first | refine blk_drewN ?_ _ | refine blk_drew ?_ | refine blk_alloc ?_ _)); exact BK364.out) Try.underlying34 rfl (by kernel_rfl) (.tmp .nil)))) rfl ?_
      exact ⟨_, _, by first | rfl | (simp [errW_none, errW_some] <;> rfl) | (simp [*, errW_none, errW_some] <;> rfl), by (with_reducible repeat (first | apply Kd.R_alloc | apply Kd.R_drewN | apply Kd.R_drew)); exact Kd.R_mono (Kd.R_far (p := ⟨gb364, 3, none⟩) (Kd.R_far (p := ⟨gb364, 2, none⟩) (Kd.R_far (p := ⟨gb364, 1, none⟩) (Kd.R_far (p := ⟨gb364, 0, none⟩) (Kd.R_far (p := ⟨gb363, 2, none⟩) (Kd.R_far (p := ⟨gb363, 1, none⟩) (Kd.R_far (p := ⟨gb363, 0, none⟩) (Kd.R_types (Kd.R_types HO380.out BK363.out (by decide)) BK364.out (by decide)) (fun _ hk => hk.1.2) (.slice Ao72 t378.length co72)) (fun _ hk => hk.1.2) (.int .i64 t368)) (fun _ hk => hk.1.2) (.slice Ao19 t369.length co19)) (fun _ hk => hk.2) (.int .i64 a1)) (fun _ hk => hk.2) (.int .i64 (t378.length : Int))) (fun _ hk => hk.2) (.int .i64 (t369.length : Int))) (fun _ hk => hk.2) (.string a2)) (fun _ hk => hk.1.1.1), by (with_reducible repeat (first | apply Kd.R_alloc | apply Kd.R_drewN | apply Kd.R_drew)); exact Kd.R_mono (Kd.R_far (p := ⟨gb364, 3, none⟩) (Kd.R_far (p := ⟨gb364, 2, none⟩) (Kd.R_far (p := ⟨gb364, 1, none⟩) (Kd.R_far (p := ⟨gb364, 0, none⟩) (Kd.R_far (p := ⟨gb363, 2, none⟩) (Kd.R_far (p := ⟨gb363, 1, none⟩) (Kd.R_far (p := ⟨gb363, 0, none⟩) (Kd.R_types (Kd.R_types HO_373002.out BK363.out (by decide)) BK364.out (by decide)) (fun _ hk => hk.1.2) (.slice Ao72 t378.length co72)) (fun _ hk => hk.1.2) (.int .i64 t368)) (fun _ hk => hk.1.2) (.slice Ao19 t369.length co19)) (fun _ hk => hk.2) (.int .i64 a1)) (fun _ hk => hk.2) (.int .i64 (t378.length : Int))) (fun _ hk => hk.2) (.int .i64 (t369.length : Int))) (fun _ hk => hk.2) (.string a2)) (fun _ hk => hk.1.1.2), bel_ HB.out⟩
     ·rw [if_neg c60] at H
      exact absurd H (by simp)

end Go.Proofs.Ytmglilikmbbidaa.PFnParties
