/- The Lean side of Go functions of this seat: what each answers, and that its run comes to that answer; written by a program of this work. -/
import Derived.Test.YtlphfhibnbhkfaaPFnYardx0
import Derived.Test.YtlphfhibnbhkfaaPFnYardx3
import Derived.Test.YtlphfhibnbhkfaaPFnYardx4
namespace Go.Proofs.Ytlphfhibnbhkfaa.PFnYard
open Go.RowKit Go.Proofs.YtlphfhibnbhkfaaW.PrintWords Go.Proofs.YtlphfhibnbhkfaaW.PrintLast Go.Proofs.YtlphfhibnbhkfaaW.PrintMore
attribute [local go_sem] max2_int min2_int max_two min_two max_three min_three max_four min_four   -- for this text's walks alone
set_option linter.unusedVariables false
set_option linter.unusedSimpArgs false

/-! ### impl_Yard_lift: function 73, and the ways of DoYard that end at once (by hand) -/
namespace Yt
theorem keep {W0 W : World} (hb : Below W0.heap.size W0 W) {a : Addr} {v : Value} (h : W0.cell? a = some v) : W.cell? a = some v := (hb.cell (World.block_lt_of_cell? _ _ h)).trans h
theorem keepf {W0 W : World} (hb : Below W0.heap.size W0 W) {a : Addr} {v : Value} (h : W0.cell? a = some v) (hf : W0.frozen? a = false) : W.frozen? a = false := by
  have := hb.block a.block (World.block_lt_of_cell? _ _ h)
  simpa [World.frozen?, this] using hf
theorem frozen {W : World} {base g n cap : Nat} {ok : Nat → Prop} {l : List (List Int)} (h : Kd.S (Kd.slice 3 (Kd.int .i64)) 28 W base ok (.slice (some ⟨g, 0, none⟩) n cap) l) (i : Int) (h0 : 0 ≤ i) (h1 : i < n) : W.frozen? ⟨g, i.toNat, none⟩ = false := by
  obtain ⟨_, _, _, _, _, hfr, _⟩ := Kd.S_elem h [] i h0 h1
  have h2 := hfr 0
  rw [show (Kd.slice 3 (Kd.int .i64)).sz = 1 from rfl, Nat.mul_one, Nat.add_zero] at h2
  exact h2
theorem cell_other {W : World} {g i j : Nat} {u v : Value} (h : W.cell? ⟨g, i, none⟩ = some u) (hne : i ≠ j) : (W.setCell ⟨g, j, none⟩ v).cell? ⟨g, i, none⟩ = some u :=
  (World.cell?_setCell_other W ⟨g, j, none⟩ ⟨g, i, none⟩ v (by intro e; injection e with _ e2 _; exact hne e2.symm)).trans h
theorem rd_set_ne {l : List (List Int)} {i j : Int} {y : List Int} (hi : 0 ≤ i) (hj : 0 ≤ j) (h : i ≠ j) : rd_L2 (l.set j.toNat y) i = rd_L2 l i := by
  simp [rd_L2, List.getD_eq_getElem?_getD, List.getElem?_set, show ¬ j.toNat = i.toNat by omega]
end Yt
theorem Yt.own46 (A : Option Addr) (c n : Nat) (l : List Int) (w : World) (hn : l.length = n) (hr : Kd.C (Kd.int .i64) w A n l) (hc : n ≤ c) (h1 : n ≤ 1000) :
    Calls Try.prog 46 #[.slice A n c] w fun e w' => ∃ v0_ : Value, e = .returned (v0_) ∧ Kd.R (Kd.int .i64) 3 w' w.heap.size (fun _ => True) v0_ l ∧ Below w.heap.size w w' := by
  subst hn
  exact impl_own_int_46.calls A c l l w hr hc (Yt.own_eq l h1)
theorem Yt.cutq {w : World} {A : Option Addr} {l : List Int} (hr : Kd.C (Kd.int .i64) w A l.length l) (q : Nat) (hq : q ≤ l.length) : (l.take q).length = q ∧ Kd.C (Kd.int .i64) w A q (l.take q) := by
  have h := Kd.C_take hr hq
  have hl : (l.take q).length = q := by rw [List.length_take]; omega
  rw [hl] at h
  exact ⟨hl, h⟩
theorem Yt.cutr (A : Option Addr) (n c : Nat) (q : Int) (h0 : 0 ≤ q) (h1 : q ≤ n) (hc : n ≤ c) : ∀ W : World, (Instr.slice 28 (.slice A n c) none (some (.int .i64 q)) none).run Try.prog W = .ok (.slice A q.toNat c) W := by
  obtain ⟨i, hi, _⟩ := Option.map_eq_some_iff.1 info3
  exact cut_to 28 3 .i64 Try.underlying28 hi A n c q h0 h1 hc
theorem Yt.c2 {w : World} {g : Nat} {t : TypeId} {a b : Value} (h : w.heap[g]? = some (.cells #[a, b] t (0, 0))) : w.cell? ⟨g, 0, none⟩ = some a ∧ w.frozen? ⟨g, 0, none⟩ = false ∧ w.cell? ⟨g, 1, none⟩ = some b ∧ w.frozen? ⟨g, 1, none⟩ = false :=
  ⟨(blk_cell h 0).trans rfl, blk_frozen h 0, (blk_cell h 1).trans rfl, blk_frozen h 1⟩
theorem Yt.c3 {w : World} {g : Nat} {t : TypeId} {a b c : Value} (h : w.heap[g]? = some (.cells #[a, b, c] t (0, 0))) : w.cell? ⟨g, 0, none⟩ = some a ∧ w.frozen? ⟨g, 0, none⟩ = false ∧ w.cell? ⟨g, 1, none⟩ = some b ∧ w.frozen? ⟨g, 1, none⟩ = false ∧ w.cell? ⟨g, 2, none⟩ = some c ∧ w.frozen? ⟨g, 2, none⟩ = false :=
  ⟨(blk_cell h 0).trans rfl, blk_frozen h 0, (blk_cell h 1).trans rfl, blk_frozen h 1, (blk_cell h 2).trans rfl, blk_frozen h 2⟩
theorem Yt.sb {α : Type} {d : Kd α} {e : Nat} {w0 W W2 : World} {base : Nat} {ok : Nat → Prop} {v : Value} {xs : List α} (h : Kd.S d e w0 base ok v xs) (hb : Below W.heap.size W W2)
    (k : Kd.S d e w0 base ok v xs → Kd.S d e W base ok v xs := by intro h_; (with_reducible repeat (first | apply Kd.S_alloc | apply Kd.S_drewN | apply Kd.S_drew)); exact h_) : Kd.S d e W2 base ok v xs := Kd.S_below (k h) hb
theorem Yt.sp {α : Type} {d : Kd α} {e : Nat} {w0 W : World} {base : Nat} {ok : Nat → Prop} {v : Value} {xs : List α} (h : Kd.S d e w0 base ok v xs)
    (k : Kd.S d e w0 base ok v xs → Kd.S d e W base ok v xs := by intro h_; (with_reducible repeat (first | apply Kd.S_alloc | apply Kd.S_drewN | apply Kd.S_drew)); exact h_) : Kd.S d e W base ok v xs := k h
/-- lift: the topmost of a stack onto another one -/
def Yt.lift (l : List (List Int)) (i j : Int) : List (List Int) :=
  (l.set j.toNat (rd_L2 l j ++ [rd (rd_L2 l i) (((rd_L2 l i).length : Int) - 1)])).set i.toNat ((rd_L2 l i).take ((rd_L2 l i).length - 1))
def Yt.lift_.T3 : Bool × List (List Nat × List Nat) := (true, [([], []), ([0], [0]), ([], []), ([], []), ([3], [3]), ([], []), ([4, 5], [4, 5]), ([6], [6]), ([7], [7]), ([], []), ([], []), ([9, 10], [9, 10]), ([11], [11]), ([12], [12]), ([8, 13, 8], [8, 13]), ([1, 2, 0, 1, 2, 3, 4, 5, 6, 7, 8, 9, 10, 11, 12, 13, 14], [1, 2]), ([15, 14, 14, 0, 1, 2, 3, 4, 5, 6, 7, 8, 9, 10, 11, 12, 13, 14], [14, 15])])
def Yt.lift_.B3 : List Nat := [0, 1, 0, 0, 8, 0, 56, 120, 248, 0, 0, 1536, 3584, 7680, 16376, 32767, 65535]
theorem Yt.lift_.tab3 : rtab .any (opsOf Try.f73 3) = Yt.lift_.T3 := by kernel_rfl
theorem Yt.lift_.bits3 : waitsOk Yt.lift_.T3.2 Yt.lift_.B3 = true := by kernel_rfl
def Yt.lift_.T4 : Bool × List (List Nat × List Nat) := (true, [([], []), ([0], [0]), ([], []), ([], []), ([], []), ([3, 4], [3, 4]), ([5], [5]), ([1, 2, 0, 1, 2, 3, 4, 5, 6], [1, 2]), ([7, 6, 6, 0, 1, 2, 3, 4, 5, 6], [6, 7])])
def Yt.lift_.B4 : List Nat := [0, 1, 0, 0, 0, 24, 56, 127, 255]
theorem Yt.lift_.tab4 : rtab .any (opsOf Try.f73 4) = Yt.lift_.T4 := by kernel_rfl
theorem Yt.lift_.bits4 : waitsOk Yt.lift_.T4.2 Yt.lift_.B4 = true := by kernel_rfl
set_option maxHeartbeats 8000000 in
set_option maxRecDepth 100000 in
theorem Yt.lift_calls (H : Int) (g n cap : Nat) (l : List (List Int)) (i j : Int) (P : Nat → Prop) (base : Nat) (w : World) (hbase : base ≤ w.heap.size) (hS : Kd.S (Kd.slice 3 (Kd.int .i64)) 28 w base P (.slice (some ⟨g, 0, none⟩) n cap) l) (hP : ∀ k, w.heap.size ≤ k → P k)
    (hi0 : 0 ≤ i) (hi1 : i < n) (hj0 : 0 ≤ j) (hj1 : j < n) (hne : i ≠ j) (hpos : 0 < (rd_L2 l i).length) (hsm : ∀ s ∈ l, s.length ≤ 100) :
    Calls Try.prog 73 #[.agg #[.int .i64 H, .slice (some ⟨g, 0, none⟩) n cap], .int .i64 i, .int .i64 j] w fun e w' => e = .returned (.tuple #[]) ∧ Kd.S (Kd.slice 3 (Kd.int .i64)) 28 w' base P (.slice (some ⟨g, 0, none⟩) n cap) (Yt.lift l i j) ∧ KeepBut w w' g none ∧ (∀ w0 : World, Below w0.heap.size w0 w → w0.heap.size ≤ g → Below w0.heap.size w0 w') := by
  have hu69 := Try.underlying69
  have HB := Aside0.mk (Below.refl w.heap.size w)
  have HS := Aside0.mk hS
  have hnl : n = l.length := (Kd.S_reads' hS).1
  have hmi : ∀ q : Int, 0 ≤ q → q < n → (rd_L2 l q).length ≤ 100 := (by intro q h0 h1; refine hsm _ ?_; have hq : q.toNat < l.length := (by omega); simp only [rd_L2, List.getD_eq_getElem?_getD, List.getElem?_eq_getElem hq]; exact List.getElem_mem hq)
  have HSIL := Aside0.mk (hmi i hi0 hi1)
  have HSJL := Aside0.mk (hmi j hj0 hj1)
  clear hmi hsm
  obtain ⟨Ai, ci, hxi, hci, hCi⟩ := Yt.get hS i hi0 hi1
  obtain ⟨Aj, cj, hxj, hcj, hCj⟩ := Yt.get hS j hj0 hj1
  have hfj := Yt.frozen hS j hj0 hj1
  have hfi := Yt.frozen hS i hi0 hi1
  obtain ⟨si, hsi⟩ : ∃ s, s = rd_L2 l i := ⟨_, rfl⟩
  obtain ⟨sj, hsj⟩ : ∃ s, s = rd_L2 l j := ⟨_, rfl⟩
  rw [← hsi] at hxi hci hCi hpos HSIL
  rw [← hsj] at hxj hcj hCj HSJL
  obtain ⟨q, hq⟩ : ∃ q : Int, q = (si.length : Int) - 1 := ⟨_, rfl⟩
  have hpl : (0 : Int) ≤ q := by omega
  have hpl2 : q < (si.length : Int) := by omega
  obtain ⟨adi, eai, hxl⟩ := Kd.at_int hCi q hpl hpl2
  cases eai
  obtain ⟨z, hz⟩ : ∃ z, z = rd si q := ⟨_, rfl⟩
  rw [← hz] at hxl
  have HSI := Aside0.mk hsi
  have HSJ := Aside0.mk hsj
  have HZ := Aside0.mk hz
  have HCI := Aside0.mk hCi
  have HCJ := Aside0.mk hCj
  have Hci := Aside0.mk hci
  have Hcj := Aside0.mk hcj
  have HPOS := Aside0.mk hpos
  have HPP := Aside0.mk hP
  have HNE := Aside0.mk hne
  have HBASE := Aside0.mk hbase
  have HNL := Aside0.mk hnl
  have HGE := Aside0.mk (Kd.S_lt hS g rfl)
  have hwl : wrap64 ((si.length : Int) - 1) = q := by rw [← hq]; exact impl_YardOk.w64 (by omega) (by have := HSIL.out; omega)
  have HQ := Aside0.mk hq
  clear hq
  clear hsi hsj hCi hCj hci hcj hP hne hbase hS hpos hz hnl
  have qi1 : (0 ≤ i) = True := eq_true hi0
  have qi2 : (i < (n : Int)) = True := eq_true hi1
  have qj1 : (0 ≤ j) = True := eq_true hj0
  have qj2 : (j < (n : Int)) = True := eq_true hj1
  have ql1 : (0 ≤ q) = True := eq_true hpl
  have ql2 : (q < (si.length : Int)) = True := eq_true hpl2
  go_enter Try.func73, Try.ntmps73
  go_upto_region 3 with (first | ((with_reducible refine gate_dst (N := 3) rfl ?_); refine box_event ?hg (N := 3) ?hd (cs := #[.int .i64 H, .slice (some ⟨g, 0, none⟩) n cap]) (t := 69) ?hr ?_; (case hd => rfl); (case hg => rfl); (case hr => first | (go_simp; done) | (go_simp; rfl)); intro gb3 hg w3 hbox hb; have n1_ := Aside0.mk hbox; have n2_ := Aside0.mk ((by rw [hg]; exact Nat.le_refl _) : w.heap.size ≤ gb3); have n3_ := Aside0.mk (Kd.S_below HS.out hb); have hyi := Yt.keep hb hxi; have hyj := Yt.keep hb hxj; have hyl := Yt.keep hb hxl; have hgi := Yt.keepf hb hxi hfi; have hgj := Yt.keepf hb hxj hfj; have n4_ := Aside0.mk hb; clear hxi hxj hxl hfi hfj HB HS; have HB := n4_; have BK3 := n1_; have GE3 := n2_; have HS := n3_; clear n1_ n2_ n3_ n4_ hb hbox hg; have hcz3_0 : w3.cell? ⟨gb3, 0, none⟩ = some (.int .i64 H) := (blk_cell BK3.out 0).trans rfl; have hfz3_0 := blk_frozen BK3.out 0; have hcz3_1 : w3.cell? ⟨gb3, 1, none⟩ = some (.slice (some ⟨g, 0, none⟩) n cap) := (blk_cell BK3.out 1).trans rfl; have hfz3_1 := blk_frozen BK3.out 1))
  (try simp only [Act.put, List.setIfInBounds_toArray, List.set_cons_zero, List.set_cons_succ])
  rw [hwl]
  have HBM := Aside0.mk (Below.refl w3.heap.size w3)
  have hyj1 := hyj
  refine start_ (n := 17) (S := fun w' => w'.cell? ⟨gb3, 1, none⟩ = some (.slice (some ⟨g, 0, none⟩) n cap) ∧ w'.cell? ⟨g, j.toNat, none⟩ = some (.slice Aj sj.length cj) ∧ w'.cell? (adi.add q.toNat) = some (.int .i64 z)) (ds := [16]) #[false, false, false, false, false, false, false, false, false, false, false, false, false, false, false, false, false] (by kernel_rfl) rfl rfl ⟨hcz3_1, hyj, hyl⟩ (fun hHeld => ?_); refine with_tabW Yt.lift_.tab3 Yt.lift_.bits3 (fun HT_ HW_ => ?_)
  refine pu_ 0 16 HT_ #[true, false, false, false, false, false, false, false, false, false, false, false, false, false, false, false, false] rfl rfl ?_
  refine pu_ 2 18 HT_ #[true, false, true, false, false, false, false, false, false, false, false, false, false, false, false, false, false] rfl rfl ?_
  refine pu_ 3 19 HT_ #[true, false, true, true, false, false, false, false, false, false, false, false, false, false, false, false, false] rfl rfl ?_
  refine pu_ 5 21 HT_ #[true, false, true, true, false, true, false, false, false, false, false, false, false, false, false, false, false] rfl rfl ?_
  refine pu_ 9 25 HT_ #[true, false, true, true, false, true, false, false, false, true, false, false, false, false, false, false, false] rfl rfl ?_
  refine pu_ 10 26 HT_ #[true, false, true, true, false, true, false, false, false, true, true, false, false, false, false, false, false] rfl rfl ?_
  refine take_ (i := 1) (N := some 17) (v := ?_) (a' := ?_) #[true, true, true, true, false, true, false, false, false, true, true, false, false, false, false, false, false] rfl rfl (take_ofW HT_.out HW_.out (by kernel_rfl)) (fun _ _ _ h => h) (Or.inl ⟨by rfl, ?_⟩) hHeld ?_ ?_
  rotate_left
  · rintro w' ⟨s0, s1, s2⟩
    go_simp
    with_reducible rfl
  rotate_left
  · simp only [Act.put, List.setIfInBounds_toArray, List.set_cons_zero, List.set_cons_succ, i64_w, i32_w]
    rfl
  refine take_ (i := 4) (N := some 20) (v := ?_) (a' := ?_) #[true, true, true, true, true, true, false, false, false, true, true, false, false, false, false, false, false] rfl rfl (take_ofW HT_.out HW_.out (by kernel_rfl)) (fun _ _ _ h => h) (Or.inl ⟨by rfl, ?_⟩) hHeld ?_ ?_
  rotate_left
  · rintro w' ⟨s0, s1, s2⟩
    go_simp
    with_reducible rfl
  rotate_left
  · simp only [Act.put, List.setIfInBounds_toArray, List.set_cons_zero, List.set_cons_succ, i64_w, i32_w]
    rfl
  refine pu_ 6 22 HT_ #[true, true, true, true, true, true, true, false, false, true, true, false, false, false, false, false, false] rfl rfl ?_
  refine take_ (i := 7) (N := some 23) (v := ?_) (a' := ?_) #[true, true, true, true, true, true, true, true, false, true, true, false, false, false, false, false, false] rfl rfl (take_ofW HT_.out HW_.out (by kernel_rfl)) (fun _ _ _ h => h) (Or.inl ⟨by rfl, ?_⟩) hHeld ?_ ?_
  rotate_left
  · rintro w' ⟨s0, s1, s2⟩
    go_simp
    with_reducible rfl
  rotate_left
  · simp only [Act.put, List.setIfInBounds_toArray, List.set_cons_zero, List.set_cons_succ, i64_w, i32_w]
    rfl
  refine pu_ 11 27 HT_ #[true, true, true, true, true, true, true, true, false, true, true, true, false, false, false, false, false] rfl rfl ?_
  refine take_ (i := 12) (N := some 28) (v := ?_) (a' := ?_) #[true, true, true, true, true, true, true, true, false, true, true, true, true, false, false, false, false] rfl rfl (take_ofW HT_.out HW_.out (by kernel_rfl)) (fun _ _ _ h => h) (Or.inl ⟨by rfl, ?_⟩) hHeld ?_ ?_
  rotate_left
  · rintro w' ⟨s0, s1, s2⟩
    go_simp
    with_reducible rfl
  rotate_left
  · simp only [Act.put, List.setIfInBounds_toArray, List.set_cons_zero, List.set_cons_succ, i64_w, i32_w]
    rfl
  refine join_ (σ := Value × Nat) 3 #[true, true, true, true, true, true, true, true, true, true, true, true, true, true, false, false, false] (fun s_ => [(24, s_.1), (29, .slice (some ⟨s_.2, 0, none⟩) 1 1)]) (fun s_ w' => Kd.R (Kd.int .i64) 3 w' w3.heap.size (fun _ => True) s_.1 sj ∧ w'.heap[s_.2]? = some (.cells #[.int .i64 z] 3 (0, 0)) ∧ Below w3.heap.size w3 w') ?_ ?_
  rotate_left
  · intro hJ
    refine two_ (i := 8) (j := 13) (Ni := some 24) (Nj := some 29) #[true, true, true, true, true, true, true, true, true, true, true, true, true, false, false, false, false] #[true, true, true, true, true, true, true, true, false, true, true, true, true, true, false, false, false] rfl rfl rfl rfl (two_of HT_.out (by kernel_rfl)) (by decide) (by decide) (fun K hK => ?_) (fun K hK => ?_)
    · skip
      refine goes_ Try.func46 (by kernel_rfl) rfl #[.slice Aj sj.length cj] (by rfl) rfl rfl (by (try simp only [List.map_toArray, List.map_cons, List.map_nil]); first | done | rfl) ?_
      with_reducible refine (impl_own_int_46.calls Aj cj sj sj _ ?side1 Hcj.out (Yt.own_eq sj (by have := HSJL.out; omega))).mono ?_
      (case side1 => exact Kd.C_below HCJ.out (by repeat (first | (with_reducible first | exact HB.out | apply below_alloc | apply pw_below_drewN | apply below_drew1) | exact HB.out)))
      rintro e w24 ⟨v24, rfl, hR, hb⟩
      refine ⟨_, rfl, ?_⟩
      have HV := Aside0.mk (Kd.R_lower hR (below_size (by repeat (first | (with_reducible first | exact HBM.out | apply below_alloc | apply pw_below_drewN | apply below_drew1) | exact HBM.out))))
      have n1_ := Aside0.mk (below_step (by repeat (first | (with_reducible first | exact HBM.out | apply below_alloc | apply pw_below_drewN | apply below_drew1) | exact HBM.out)) hb)
      clear HBM hR hb
      have HBM := n1_
      clear n1_
      refine hK.out _ _ ⟨Yt.keep (by repeat (first | (with_reducible first | exact HBM.out | apply below_alloc | apply pw_below_drewN | apply below_drew1) | exact HBM.out)) hcz3_1, Yt.keep (by repeat (first | (with_reducible first | exact HBM.out | apply below_alloc | apply pw_below_drewN | apply below_drew1) | exact HBM.out)) hyj, Yt.keep (by repeat (first | (with_reducible first | exact HBM.out | apply below_alloc | apply pw_below_drewN | apply below_drew1) | exact HBM.out)) hyl⟩ (fun hHeld => ?_)
      clear hK K
      refine norm_ (a' := ?_) ?_ ?_
      rotate_left
      · show Act.put _ (some 24) _ = _
        simp only [Act.put, List.setIfInBounds_toArray, List.set_cons_zero, List.set_cons_succ, i64_w, i32_w]
        rfl
      refine one_ (i := 13) (N := some 29) #[true, true, true, true, true, true, true, true, true, true, true, true, true, true, false, false, false] rfl rfl (one_of HT_.out (by kernel_rfl)) (by decide) (fun K hK => ?_)
      refine value_ (w1 := ?_) (v := ?_) (by rfl) rfl ?_ ?_
      rotate_left 2
      · go_simp
        constructor
        · rfl
        · rfl
      refine hK.out _ _ ⟨Yt.keep (by repeat (first | (with_reducible first | exact HBM.out | apply below_alloc | apply pw_below_drewN | apply below_drew1) | exact HBM.out)) hcz3_1, Yt.keep (by repeat (first | (with_reducible first | exact HBM.out | apply below_alloc | apply pw_below_drewN | apply below_drew1) | exact HBM.out)) hyj, Yt.keep (by repeat (first | (with_reducible first | exact HBM.out | apply below_alloc | apply pw_below_drewN | apply below_drew1) | exact HBM.out)) hyl⟩ (fun hHeld => ?_)
      clear hK K
      refine norm_ (a' := ?_) ?_ ?_
      rotate_left
      · show Act.put _ (some 29) _ = _
        simp only [Act.put, List.setIfInBounds_toArray, List.set_cons_zero, List.set_cons_succ, i64_w, i32_w]
        rfl
      exact norm_ (by first | (simp only [putAll, Act.put, List.setIfInBounds_toArray, List.set_cons_zero, List.set_cons_succ]; done) | (simp only [putAll, Act.put, List.setIfInBounds_toArray, List.set_cons_zero, List.set_cons_succ]; rfl)) (hJ (v24, w24.heap.size) _ ⟨by (with_reducible repeat (first | apply Kd.R_alloc | apply Kd.R_drewN | apply Kd.R_drew)); exact HV.out, blk_new _ _, by repeat (first | (with_reducible first | exact HBM.out | apply below_alloc | apply pw_below_drewN | apply below_drew1) | exact HBM.out)⟩)
    · skip
      refine value_ (w1 := ?_) (v := ?_) (by rfl) rfl ?_ ?_
      rotate_left 2
      · go_simp
        constructor
        · rfl
        · rfl
      refine hK.out _ _ ⟨Yt.keep (by repeat (first | (with_reducible first | exact HBM.out | apply below_alloc | apply pw_below_drewN | apply below_drew1) | exact HBM.out)) hcz3_1, Yt.keep (by repeat (first | (with_reducible first | exact HBM.out | apply below_alloc | apply pw_below_drewN | apply below_drew1) | exact HBM.out)) hyj, Yt.keep (by repeat (first | (with_reducible first | exact HBM.out | apply below_alloc | apply pw_below_drewN | apply below_drew1) | exact HBM.out)) hyl⟩ (fun hHeld => ?_)
      clear hK K
      refine norm_ (a' := ?_) ?_ ?_
      rotate_left
      · show Act.put _ (some 29) _ = _
        simp only [Act.put, List.setIfInBounds_toArray, List.set_cons_zero, List.set_cons_succ, i64_w, i32_w]
        rfl
      refine one_ (i := 8) (N := some 24) #[true, true, true, true, true, true, true, true, true, true, true, true, true, true, false, false, false] rfl rfl (one_of HT_.out (by kernel_rfl)) (by decide) (fun K hK => ?_)
      refine goes_ Try.func46 (by kernel_rfl) rfl #[.slice Aj sj.length cj] (by rfl) rfl rfl (by (try simp only [List.map_toArray, List.map_cons, List.map_nil]); first | done | rfl) ?_
      with_reducible refine (impl_own_int_46.calls Aj cj sj sj _ ?side1 Hcj.out (Yt.own_eq sj (by have := HSJL.out; omega))).mono ?_
      (case side1 => exact Kd.C_below HCJ.out (by repeat (first | (with_reducible first | exact HB.out | apply below_alloc | apply pw_below_drewN | apply below_drew1) | exact HB.out)))
      rintro e w24 ⟨v24, rfl, hR, hb⟩
      refine ⟨_, rfl, ?_⟩
      have HV := Aside0.mk (Kd.R_lower hR (below_size (by repeat (first | (with_reducible first | exact HBM.out | apply below_alloc | apply pw_below_drewN | apply below_drew1) | exact HBM.out))))
      have n1_ := Aside0.mk (below_step (by repeat (first | (with_reducible first | exact HBM.out | apply below_alloc | apply pw_below_drewN | apply below_drew1) | exact HBM.out)) hb)
      have BKQ := Aside0.mk (blk_below (w := (w3.alloc (.cells #[.int .i64 z] 3)).drew) (g := w3.heap.size) (o := .cells #[.int .i64 z] 3 (0, 0)) (blk_new _ _) hb)
      clear HBM hR hb
      have HBM := n1_
      clear n1_
      refine hK.out _ _ ⟨Yt.keep (by repeat (first | (with_reducible first | exact HBM.out | apply below_alloc | apply pw_below_drewN | apply below_drew1) | exact HBM.out)) hcz3_1, Yt.keep (by repeat (first | (with_reducible first | exact HBM.out | apply below_alloc | apply pw_below_drewN | apply below_drew1) | exact HBM.out)) hyj, Yt.keep (by repeat (first | (with_reducible first | exact HBM.out | apply below_alloc | apply pw_below_drewN | apply below_drew1) | exact HBM.out)) hyl⟩ (fun hHeld => ?_)
      clear hK K
      refine norm_ (a' := ?_) ?_ ?_
      rotate_left
      · show Act.put _ (some 24) _ = _
        simp only [Act.put, List.setIfInBounds_toArray, List.set_cons_zero, List.set_cons_succ, i64_w, i32_w]
        rfl
      exact norm_ (by first | (simp only [putAll, Act.put, List.setIfInBounds_toArray, List.set_cons_zero, List.set_cons_succ]; done) | (simp only [putAll, Act.put, List.setIfInBounds_toArray, List.set_cons_zero, List.set_cons_succ]; rfl)) (hJ (v24, w3.heap.size) _ ⟨HV.out, BKQ.out, by repeat (first | (with_reducible first | exact HBM.out | apply below_alloc | apply pw_below_drewN | apply below_drew1) | exact HBM.out)⟩)
  · rintro ⟨v24, gq⟩ w25 ⟨h0_, h1_, h2_⟩
    have HV := Aside0.mk h0_
    have BKQ := Aside0.mk h1_
    clear HBM
    have HBM := Aside0.mk h2_
    clear h0_ h1_ h2_
    refine norm_ (a' := ?_) ?_ ?_
    rotate_left
    · simp only [putAll, Act.put, List.setIfInBounds_toArray, List.set_cons_zero, List.set_cons_succ]
      rfl
    refine one_ (i := 14) (N := some 30) #[true, true, true, true, true, true, true, true, true, true, true, true, true, true, true, false, false] rfl rfl (one_of HT_.out (by kernel_rfl)) (by decide) (fun K hK => ?_)
    refine Kd.R_append_rows_step (Kd.int .i64) (w0 := w3) w3.heap.size (by rfl) (.tmp 24) (.tmp 29) 28 3 (.int .i64 0) 8 rfl Try.underlying28 info3 rfl (by decide) (by omega) v24 sj [z] _ _ _ (fun _ => True) (fun _ => False) rfl rfl ?aO ?aR (fun _ _ h => h) (fun _ h => h.elim) ?aF ?aB ?aS ?aL ?_
    (case aR => exact Kd.C_one BKQ.out rfl rfl)
    (case aF => exact (fun _ _ => trivial))
    (case aO => exact HV.out)
    (case aB => exact (by repeat (first | (with_reducible first | exact HBM.out | apply below_alloc | apply pw_below_drewN | apply below_drew1) | exact HBM.out)))
    (case aS => exact (below_size (by repeat (first | (with_reducible first | exact HBM.out | apply below_alloc | apply pw_below_drewN | apply below_drew1) | exact HBM.out))))
    (case aL => have := HSJL.out; omega)
    intro v30 w30 ho hb hg hat
    clear HBM
    have HBM := Aside0.mk hb
    have HV2 := Aside0.mk ho
    obtain ⟨Av, cv, ev⟩ := Kd.R_slice ho
    subst ev
    clear ho hb hg hat
    refine hK.out _ _ ⟨Yt.keep (by repeat (first | (with_reducible first | exact HBM.out | apply below_alloc | apply pw_below_drewN | apply below_drew1) | exact HBM.out)) hcz3_1, Yt.keep (by repeat (first | (with_reducible first | exact HBM.out | apply below_alloc | apply pw_below_drewN | apply below_drew1) | exact HBM.out)) hyj, Yt.keep (by repeat (first | (with_reducible first | exact HBM.out | apply below_alloc | apply pw_below_drewN | apply below_drew1) | exact HBM.out)) hyl⟩ (fun hHeld => ?_)
    clear hK K
    refine norm_ (a' := ?_) ?_ ?_
    rotate_left
    · show Act.put _ (some 30) _ = _
      simp only [Act.put, List.setIfInBounds_toArray, List.set_cons_zero, List.set_cons_succ, i64_w, i32_w]
      rfl
    refine pu_ 15 31 HT_ #[true, true, true, true, true, true, true, true, true, true, true, true, true, true, true, true, false] rfl rfl ?_
    refine last_ (i := 16) (N := none) #[true, true, true, true, true, true, true, true, true, true, true, true, true, true, true, true, true] rfl rfl (one_of HT_.out (by kernel_rfl)) (by decide) (fun K hK => ?_)
    have hs30 := Yt.keep HBM.out hyj
    have hfs30 := Yt.keepf HBM.out hyj hgj
    refine skip_ (w1 := ?_) (by rfl) rfl ?_ ?_
    rotate_left
    · go_simp
      rfl
    refine hK.out _ _ ?_
    clear hK K
    refine done_ (done_of HT_.out (by kernel_rfl)) ?_
    have hlen30 : (sj ++ [z]).length = sj.length + 1 := by simp
    rw [hlen30] at HV2
    have hS4 : Kd.S (Kd.slice 3 (Kd.int .i64)) 28 (w30.setCell ⟨g, j.toNat, none⟩ (.slice Av (sj.length + 1) cv)) base P (.slice (some ⟨g, 0, none⟩) n cap) (l.set j.toNat (sj ++ [z])) := (Yt.store HS.out HBM.out (fun k hk => HPP.out k (Nat.le_trans HB.out.size hk)) HV2.out j hj0 hj1 (Nat.le_trans HBASE.out HB.out.size)).1
    have hij : i.toNat ≠ j.toNat := by have := HNE.out; omega
    have hyi4 : (w30.setCell ⟨g, j.toNat, none⟩ (.slice Av (sj.length + 1) cv)).cell? ⟨g, i.toNat, none⟩ = some (.slice (some adi) si.length ci) := Yt.cell_other (Yt.keep HBM.out hyi) hij
    have hbk4 : (w30.setCell ⟨g, j.toNat, none⟩ (.slice Av (sj.length + 1) cv)).heap[gb3]? = some (.cells #[.int .i64 H, .slice (some ⟨g, 0, none⟩) n cap] 69 (0, 0)) := blk_far (blk_below BK3.out HBM.out) (by intro e_; exact Kd.R_ne (Kd.S_R HS.out) BK3.out (by decide) (by rw [e_]; rfl)) _
    have hkb4 : KeepBut w (w30.setCell ⟨g, j.toNat, none⟩ (.slice Av (sj.length + 1) cv)) g none := KeepBut.set_ (KeepBut.of_below (below_step HB.out HBM.out) g none) _ _
    have hbf4 : ∀ w0 : World, Below w0.heap.size w0 w → w0.heap.size ≤ g → Below w0.heap.size w0 (w30.setCell ⟨g, j.toNat, none⟩ (.slice Av (sj.length + 1) cv)) := fun w0 h hg => below_set (below_step (below_step h HB.out) HBM.out) hg
    have hsz4 : w.heap.size ≤ (w30.setCell ⟨g, j.toNat, none⟩ (.slice Av (sj.length + 1) cv)).heap.size := hkb4.1
    generalize w30.setCell ⟨g, j.toNat, none⟩ (.slice Av (sj.length + 1) cv) = w4 at hS4 hyi4 hbk4 hkb4 hbf4 hsz4 ⊢
    clear HS HBM HB BK3 HV HV2 BKQ hyi hyj hyl hgi hgj hs30 hfs30 hcz3_0 hcz3_1 hfz3_0 hfz3_1 hyj1
    obtain ⟨A4, c4, hx4, hl4, hC4⟩ := Yt.get hS4 i hi0 hi1
    rw [Yt.rd_set_ne hi0 hj0 HNE.out, ← HSI.out] at hx4 hl4 hC4
    rw [hyi4] at hx4
    injection hx4 with hx4
    injection hx4 with ha4 _ hc4
    subst ha4
    subst hc4
    have hf4 := Yt.frozen hS4 i hi0 hi1
    obtain ⟨hql, hCq⟩ := Yt.cutq hC4 q.toNat (by omega)
    have HQL := Aside0.mk hql
    have HCQ := Aside0.mk hCq
    have Hc4 := Aside0.mk hl4
    have hcut := Yt.cutr (some adi) si.length ci q hpl (by omega) hl4
    clear hql hCq hl4 hC4
    have HS := Aside0.mk hS4
    have BK3 := Aside0.mk hbk4
    have HKB := Aside0.mk hkb4
    have HBF := Aside0.mk hbf4
    have HSZ := Aside0.mk hsz4
    have HBM := Aside0.mk (Below.refl w4.heap.size w4)
    clear hS4 hbk4 hkb4 hbf4 hsz4
    have hcz3_0 : w4.cell? ⟨gb3, 0, none⟩ = some (.int .i64 H) := (blk_cell BK3.out 0).trans rfl; have hfz3_0 := blk_frozen BK3.out 0; have hcz3_1 : w4.cell? ⟨gb3, 1, none⟩ = some (.slice (some ⟨g, 0, none⟩) n cap) := (blk_cell BK3.out 1).trans rfl; have hfz3_1 := blk_frozen BK3.out 1
    try go_upto_region 4 with (fail)
    refine start_ (n := 9) (S := fun w' => w'.cell? ⟨gb3, 1, none⟩ = some (.slice (some ⟨g, 0, none⟩) n cap)) (ds := [8]) #[false, false, false, false, false, false, false, false, false] (by kernel_rfl) rfl rfl hcz3_1 (fun hHeld => ?_); refine with_tabW Yt.lift_.tab4 Yt.lift_.bits4 (fun HT_ HW_ => ?_)
    refine pu_ 0 32 HT_ #[true, false, false, false, false, false, false, false, false] rfl rfl ?_
    refine take_ (i := 1) (N := some 33) (v := ?_) (a' := ?_) #[true, true, false, false, false, false, false, false, false] rfl rfl (take_ofW HT_.out HW_.out (by kernel_rfl)) (fun _ _ _ h => h) (Or.inl ⟨by rfl, ?_⟩) hHeld ?_ ?_
    rotate_left
    · rintro w' s0
      go_simp
      with_reducible rfl
    rotate_left
    · simp only [Act.put, List.setIfInBounds_toArray, List.set_cons_zero, List.set_cons_succ, i64_w, i32_w]
      rfl
    refine pu_ 2 34 HT_ #[true, true, true, false, false, false, false, false, false] rfl rfl ?_
    refine pu_ 3 35 HT_ #[true, true, true, true, false, false, false, false, false] rfl rfl ?_
    refine pu_ 4 36 HT_ #[true, true, true, true, true, false, false, false, false] rfl rfl ?_
    refine pu_ 5 37 HT_ #[true, true, true, true, true, true, false, false, false] rfl rfl ?_
    refine one_ (i := 6) (N := some 38) #[true, true, true, true, true, true, true, false, false] rfl rfl (one_of HT_.out (by kernel_rfl)) (by decide) (fun K hK => ?_)
    refine goes_ Try.func46 (by kernel_rfl) rfl #[.slice (some adi) q.toNat ci] (by rfl) rfl rfl (by (try simp only [List.map_toArray, List.map_cons, List.map_nil]); first | done | rfl) ?_
    with_reducible refine (Yt.own46 (some adi) ci q.toNat (si.take q.toNat) _ HQL.out ?side1 (by have := Hc4.out; omega) (by have := HSIL.out; omega)).mono ?_
    (case side1 => exact Kd.C_below HCQ.out (by repeat (first | (with_reducible first | exact HBM.out | apply below_alloc | apply pw_below_drewN | apply below_drew1) | exact HBM.out)))
    rintro e w38 ⟨v38, rfl, hR, hb⟩
    refine ⟨_, rfl, ?_⟩
    have HV := Aside0.mk (Kd.R_lower hR (below_size (by repeat (first | (with_reducible first | exact HBM.out | apply below_alloc | apply pw_below_drewN | apply below_drew1) | exact HBM.out))))
    have n1_ := Aside0.mk (below_step (by repeat (first | (with_reducible first | exact HBM.out | apply below_alloc | apply pw_below_drewN | apply below_drew1) | exact HBM.out)) hb)
    clear HBM hR hb
    have HBM := n1_
    clear n1_
    obtain ⟨Aw, cw, ew⟩ := Kd.R_slice HV.out
    rw [HQL.out] at ew
    subst ew
    refine hK.out _ _ (Yt.keep (by repeat (first | (with_reducible first | exact HBM.out | apply below_alloc | apply pw_below_drewN | apply below_drew1) | exact HBM.out)) hcz3_1) (fun hHeld => ?_)
    clear hK K
    refine norm_ (a' := ?_) ?_ ?_
    rotate_left
    · show Act.put _ (some 38) _ = _
      simp only [Act.put, List.setIfInBounds_toArray, List.set_cons_zero, List.set_cons_succ, i64_w, i32_w]
      rfl
    refine pu_ 7 39 HT_ #[true, true, true, true, true, true, true, true, false] rfl rfl ?_
    refine last_ (i := 8) (N := none) #[true, true, true, true, true, true, true, true, true] rfl rfl (one_of HT_.out (by kernel_rfl)) (by decide) (fun K hK => ?_)
    have hs38 := Yt.keep HBM.out hyi4
    have hfs38 := Yt.keepf HBM.out hyi4 hf4
    refine skip_ (w1 := ?_) (by rfl) rfl ?_ ?_
    rotate_left
    · go_simp
      rfl
    refine hK.out _ _ ?_
    clear hK K
    refine done_ (done_of HT_.out (by kernel_rfl)) ?_
    try go_wp2
    first | go_end0 | ((try simp only [Exit.inBlock, Exit.then]); refine bodyPost_ret (results_none rfl _ _ _) rfl ?_)
    have hS5 := (Yt.store HS.out HBM.out (fun k hk => HPP.out k (Nat.le_trans HSZ.out hk)) HV.out i hi0 hi1 (Nat.le_trans HBASE.out HSZ.out)).1
    have hq5 : q.toNat = (rd_L2 l i).length - 1 := by rw [← HSI.out]; have := HQ.out; omega
    have HL5 : (l.set j.toNat (sj ++ [z])).set i.toNat (si.take q.toNat) = Yt.lift l i j := by rw [hq5, HZ.out, HQ.out, HSI.out, HSJ.out]; rfl
    rw [HL5] at hS5
    refine ⟨rfl, ?_, ?_, ?_⟩
    · exact hS5
    · exact KeepBut.set_ (KeepBut.trans HKB.out (KeepBut.of_below HBM.out g none) (.inl rfl)) _ _
    · exact fun w0 h hg => below_set (below_step (HBF.out w0 h hg) HBM.out) hg
set_option maxHeartbeats 8000000 in
set_option maxRecDepth 100000 in
theorem impl_DoYard.bad_ok (H : Int) (A : Option Addr) (c : Nat) (l : List (List Int)) (k b s : Int) (w : World) (hr0 : Kd.C (Kd.slice 3 (Kd.int .i64)) w A l.length l) (hc0 : l.length ≤ c) (hs1 : l.length ≤ 1000) (hs2 : ∀ x ∈ l, x.length ≤ 100) (hok : impl_YardOk.f H l = some false) :
    Calls Try.prog 31 #[.agg #[.int .i64 H, .slice A l.length c], .agg #[.int .i64 k, .int .i64 b, .int .i64 s]] w fun e w' => ∃ v0_ : Value, e = .returned (.tuple #[.agg #[.int .i64 H, v0_], .int .i64 0, .int .i64 1]) ∧ Kd.S (Kd.slice 3 (Kd.int .i64)) 28 w' w.heap.size (fun _ => True) v0_ l ∧ Below w.heap.size w w' := by
  have hu69 := Try.underlying69
  have hu76 := Try.underlying76
  have HR := Aside0.mk hr0
  have HC := Aside0.mk hc0
  have HS1 := Aside0.mk hs1
  have HS2 := Aside0.mk hs2
  have HF := Aside0.mk (show impl_Yard_own.f H l = some (H, l) from if_pos ⟨hs1, fun x hx => Nat.le_trans (hs2 x hx) (by omega)⟩)
  clear hr0 hc0 hs1 hs2
  obtain ⟨nn, hnn⟩ : ∃ nn : Int, nn = (l.length : Int) - 1 := ⟨_, rfl⟩
  have hwn : wrap64 ((l.length : Int) - 1) = nn := by rw [← hnn]; exact impl_YardOk.w64 (by omega) (by have := HS1.out; omega)
  have HNN := Aside0.mk hnn
  clear hnn
  have HOK := Aside0.mk hok
  clear hok
  have HB := Aside0.mk (Below.refl w.heap.size w)
  go_enter Try.func31, Try.ntmps31
  go_upto_region 2 with (first | ((with_reducible refine gate_dst (N := 2) rfl ?_); refine box_event ?hg (N := 2) ?hd (cs := #[.int .i64 H, .slice A l.length c]) (t := 69) ?hr ?_; (case hd => rfl); (case hg => rfl); (case hr => first | (go_simp; done) | (go_simp; rfl)); intro gb2 hg w2 hbox hb; have q1_ := Aside0.mk hbox; have q2_ := Aside0.mk ((by rw [hg]; exact (below_size (by exact bel_ HB.out))) : w.heap.size ≤ gb2); have n0_ := Aside0.mk (below_step (by exact bel_ HB.out) hb); clear HB; have HB := n0_; clear n0_; have BK2 := q1_; have GE2 := q2_; clear q1_ q2_; clear hb hbox hg; obtain ⟨hcz2_0, hfz2_0, hcz2_1, hfz2_1⟩ := Yt.c2 BK2.out) | ((with_reducible refine gate_dst (N := 3) rfl ?_); refine box_event ?hg (N := 3) ?hd (cs := #[.int .i64 k, .int .i64 b, .int .i64 s]) (t := 76) ?hr ?_; (case hd => rfl); (case hg => rfl); (case hr => first | (go_simp; done) | (go_simp; rfl)); intro gb3 hg w3 hbox hb; have q1_ := Aside0.mk hbox; have q2_ := Aside0.mk ((by rw [hg]; exact (below_size (by exact bel_ HB.out))) : w.heap.size ≤ gb3); have NB2_3 := Aside0.mk (nl_ BK2.out hg); have n0_ := Aside0.mk (below_step (by exact bel_ HB.out) hb); have m2_ := Aside0.mk (bb_ BK2.out hb); clear HB; have HB := n0_; clear n0_; clear BK2; have BK2 := m2_; clear m2_; have BK3 := q1_; have GE3 := q2_; clear q1_ q2_; clear hb hbox hg; obtain ⟨hcz2_0, hfz2_0, hcz2_1, hfz2_1⟩ := Yt.c2 BK2.out; obtain ⟨hcz3_0, hfz3_0, hcz3_1, hfz3_1, hcz3_2, hfz3_2⟩ := Yt.c3 BK3.out; have hnb2_3 := NB2_3.out; have hnc2_3 := Ne.symm NB2_3.out) | ((with_reducible refine gate_dst (N := 4) rfl ?_); refine box_event ?hg (N := 4) ?hd (cs := #[.int .i64 0, .slice none 0 0]) (t := 69) ?hr ?_; (case hd => rfl); (case hg => rfl); (case hr => first | (go_simp; done) | (go_simp; rfl)); intro gb4 hg w4 hbox hb; have q1_ := Aside0.mk hbox; have q2_ := Aside0.mk ((by rw [hg]; exact (below_size (by exact bel_ HB.out))) : w.heap.size ≤ gb4); have NB2_4 := Aside0.mk (nl_ BK2.out hg); have NB3_4 := Aside0.mk (nl_ BK3.out hg); have n0_ := Aside0.mk (below_step (by exact bel_ HB.out) hb); have m2_ := Aside0.mk (bb_ BK2.out hb); have m3_ := Aside0.mk (bb_ BK3.out hb); clear HB; have HB := n0_; clear n0_; clear BK2; have BK2 := m2_; clear m2_; clear BK3; have BK3 := m3_; clear m3_; have BK4 := q1_; have GE4 := q2_; clear q1_ q2_; clear hb hbox hg; obtain ⟨hcz2_0, hfz2_0, hcz2_1, hfz2_1⟩ := Yt.c2 BK2.out; obtain ⟨hcz3_0, hfz3_0, hcz3_1, hfz3_1, hcz3_2, hfz3_2⟩ := Yt.c3 BK3.out; obtain ⟨hcz4_0, hfz4_0, hcz4_1, hfz4_1⟩ := Yt.c2 BK4.out; have hnb2_4 := NB2_4.out; have hnc2_4 := Ne.symm NB2_4.out; have hnb3_4 := NB3_4.out; have hnc3_4 := Ne.symm NB3_4.out) | ((with_reducible refine gate_callee (f := 71) rfl ?_); refine goesL_ (some 18) rfl rfl Try.func71 (by kernel_rfl) rfl #[.agg #[.int .i64 H, .slice A l.length c]] rfl (by (try simp only [List.map_toArray, List.map_cons, List.map_nil]); first | done | rfl) ?_; (with_reducible refine (impl_Yard_own.calls H A c l H l _ ?side1 HC.out HF.out).mono ?_); (case side1 => exact Kd.C_below HR.out (by exact bel_ HB.out)); rintro e w18 ⟨v18, rfl, hS, hb⟩; refine ⟨_, rfl, ?_⟩; obtain ⟨Aw, cw, ew⟩ := Kd.S_slice hS; subst ew; have HSW := Aside0.mk (Kd.S_lower hS (below_size (by exact bel_ HB.out))); have n0_ := Aside0.mk (below_step (by exact bel_ HB.out) hb); have m2_ := Aside0.mk (bb_ BK2.out hb); have m3_ := Aside0.mk (bb_ BK3.out hb); have m4_ := Aside0.mk (bb_ BK4.out hb); clear HB; have HB := n0_; clear n0_; clear BK2; have BK2 := m2_; clear m2_; clear BK3; have BK3 := m3_; clear m3_; clear BK4; have BK4 := m4_; clear m4_; clear hb hS; obtain ⟨hcz2_0, hfz2_0, hcz2_1, hfz2_1⟩ := Yt.c2 BK2.out; obtain ⟨hcz3_0, hfz3_0, hcz3_1, hfz3_1, hcz3_2, hfz3_2⟩ := Yt.c3 BK3.out; obtain ⟨hcz4_0, hfz4_0, hcz4_1, hfz4_1⟩ := Yt.c2 BK4.out) | ((with_reducible refine gate_dst (N := 7) rfl ?_); refine box_event ?hg (N := 7) ?hd (cs := #[.int .i64 0, .slice none 0 0]) (t := 69) ?hr ?_; (case hd => rfl); (case hg => rfl); (case hr => first | (go_simp; done) | (go_simp; rfl)); intro gb7 hg w7 hbox hb; have q1_ := Aside0.mk hbox; have q2_ := Aside0.mk ((by rw [hg]; exact (below_size (by exact bel_ HB.out))) : w.heap.size ≤ gb7); have NB2_7 := Aside0.mk (nl_ BK2.out hg); have NB3_7 := Aside0.mk (nl_ BK3.out hg); have NB4_7 := Aside0.mk (nl_ BK4.out hg); have n0_ := Aside0.mk (below_step (by exact bel_ HB.out) hb); have m2_ := Aside0.mk (bb_ BK2.out hb); have m3_ := Aside0.mk (bb_ BK3.out hb); have m4_ := Aside0.mk (bb_ BK4.out hb); have mHSW_ := Aside0.mk (Yt.sb HSW.out hb); clear HB; have HB := n0_; clear n0_; clear BK2; have BK2 := m2_; clear m2_; clear BK3; have BK3 := m3_; clear m3_; clear BK4; have BK4 := m4_; clear m4_; clear HSW; have HSW := mHSW_; clear mHSW_; have BK7 := q1_; have GE7 := q2_; clear q1_ q2_; clear hb hbox hg; obtain ⟨hcz2_0, hfz2_0, hcz2_1, hfz2_1⟩ := Yt.c2 BK2.out; obtain ⟨hcz3_0, hfz3_0, hcz3_1, hfz3_1, hcz3_2, hfz3_2⟩ := Yt.c3 BK3.out; obtain ⟨hcz4_0, hfz4_0, hcz4_1, hfz4_1⟩ := Yt.c2 BK4.out; obtain ⟨hcz7_0, hfz7_0, hcz7_1, hfz7_1⟩ := Yt.c2 BK7.out; have hnb2_7 := NB2_7.out; have hnc2_7 := Ne.symm NB2_7.out; have hnb3_7 := NB3_7.out; have hnc3_7 := Ne.symm NB3_7.out; have hnb4_7 := NB4_7.out; have hnc4_7 := Ne.symm NB4_7.out))
  (try simp only [Act.put, List.setIfInBounds_toArray, List.set_cons_zero, List.set_cons_succ])
  have b7_ : ((w7.setCell ⟨gb7, 0, none⟩ (.int .i64 H)).setCell ⟨gb7, 1, none⟩ (.slice Aw l.length cw)).heap[gb7]? = some (.cells #[.int .i64 H, .slice Aw l.length cw] 69 (0, 0)) := blk_put (cs := #[.int .i64 H, .slice none 0 0]) (blk_put (cs := #[.int .i64 0, .slice none 0 0]) BK7.out 0 _ rfl) 1 _ rfl
  have b2_ : ((w7.setCell ⟨gb7, 0, none⟩ (.int .i64 H)).setCell ⟨gb7, 1, none⟩ (.slice Aw l.length cw)).heap[gb2]? = some (.cells #[.int .i64 H, .slice A l.length c] 69 (0, 0)) := blk_far (blk_far BK2.out NB2_7.out _) NB2_7.out _
  have b3_ : ((w7.setCell ⟨gb7, 0, none⟩ (.int .i64 H)).setCell ⟨gb7, 1, none⟩ (.slice Aw l.length cw)).heap[gb3]? = some (.cells #[.int .i64 k, .int .i64 b, .int .i64 s] 76 (0, 0)) := blk_far (blk_far BK3.out NB3_7.out _) NB3_7.out _
  have b4_ : ((w7.setCell ⟨gb7, 0, none⟩ (.int .i64 H)).setCell ⟨gb7, 1, none⟩ (.slice Aw l.length cw)).heap[gb4]? = some (.cells #[.int .i64 0, .slice none 0 0] 69 (0, 0)) := blk_far (blk_far BK4.out NB4_7.out _) NB4_7.out _
  have sHSW_ := Kd.S_mono (Kd.S_far (p := ⟨gb7, 1, none⟩) (Kd.S_far (p := ⟨gb7, 0, none⟩) (Kd.S_types HSW.out BK7.out (by decide)) (fun _ hk => hk.2) (.int .i64 H)) (fun _ hk => hk.2) (.slice Aw l.length cw)) (fun _ hk => hk.1)
  have hb_ : Below w.heap.size w ((w7.setCell ⟨gb7, 0, none⟩ (.int .i64 H)).setCell ⟨gb7, 1, none⟩ (.slice Aw l.length cw)) := below_set (below_set HB.out GE7.out) GE7.out
  try clear hcz2_0 hfz2_0 hcz2_1 hfz2_1
  try clear hcz3_0 hfz3_0 hcz3_1 hfz3_1 hcz3_2 hfz3_2
  try clear hcz4_0 hfz4_0 hcz4_1 hfz4_1
  try clear hcz7_0 hfz7_0 hcz7_1 hfz7_1
  try clear hnb2_3 hnc2_3 hnb2_4 hnc2_4 hnb2_7 hnc2_7 hnb3_4 hnc3_4 hnb3_7 hnc3_7 hnb4_7 hnc4_7
  generalize (w7.setCell ⟨gb7, 0, none⟩ (.int .i64 H)).setCell ⟨gb7, 1, none⟩ (.slice Aw l.length cw) = w8 at b2_ b3_ b4_ b7_ sHSW_ hb_ ⊢
  clear HB BK2 BK3 BK4 BK7 HSW
  have HB := Aside0.mk hb_
  clear hb_
  have BK2 := Aside0.mk b2_
  clear b2_
  have BK3 := Aside0.mk b3_
  clear b3_
  have BK4 := Aside0.mk b4_
  clear b4_
  have BK7 := Aside0.mk b7_
  clear b7_
  have HSW := Aside0.mk sHSW_
  clear sHSW_
  obtain ⟨hcz2_0, hfz2_0, hcz2_1, hfz2_1⟩ := Yt.c2 BK2.out; obtain ⟨hcz3_0, hfz3_0, hcz3_1, hfz3_1, hcz3_2, hfz3_2⟩ := Yt.c3 BK3.out; obtain ⟨hcz4_0, hfz4_0, hcz4_1, hfz4_1⟩ := Yt.c2 BK4.out; obtain ⟨hcz7_0, hfz7_0, hcz7_1, hfz7_1⟩ := Yt.c2 BK7.out
  have hnb2_3 := NB2_3.out; have hnc2_3 := Ne.symm NB2_3.out
  have hnb2_4 := NB2_4.out; have hnc2_4 := Ne.symm NB2_4.out
  have hnb2_7 := NB2_7.out; have hnc2_7 := Ne.symm NB2_7.out
  have hnb3_4 := NB3_4.out; have hnc3_4 := Ne.symm NB3_4.out
  have hnb3_7 := NB3_7.out; have hnc3_7 := Ne.symm NB3_7.out
  have hnb4_7 := NB4_7.out; have hnc4_7 := Ne.symm NB4_7.out
  go_wp2_with (first | ((with_reducible refine gate_callee (f := 32) rfl ?_); refine goesL_ (some 24) rfl rfl Try.func32 (by kernel_rfl) rfl #[.agg #[.int .i64 H, .slice A l.length c]] rfl (by (try simp only [List.map_toArray, List.map_cons, List.map_nil]); first | done | rfl) ?_; (with_reducible refine (impl_YardOk.calls H A c l false _ ?side1 HC.out HOK.out).mono ?_); (case side1 => exact Kd.C_below HR.out (by exact bel_ HB.out)); rintro e w24 ⟨rfl, hb⟩; refine ⟨_, rfl, ?_⟩; have n0_ := Aside0.mk (below_step (by exact bel_ HB.out) hb); have m2_ := Aside0.mk (bb_ BK2.out hb); have m3_ := Aside0.mk (bb_ BK3.out hb); have m4_ := Aside0.mk (bb_ BK4.out hb); have m7_ := Aside0.mk (bb_ BK7.out hb); have mHSW_ := Aside0.mk (Yt.sb HSW.out hb); clear HB; have HB := n0_; clear n0_; clear BK2; have BK2 := m2_; clear m2_; clear BK3; have BK3 := m3_; clear m3_; clear BK4; have BK4 := m4_; clear m4_; clear BK7; have BK7 := m7_; clear m7_; clear HSW; have HSW := mHSW_; clear mHSW_; clear hb; obtain ⟨hcz2_0, hfz2_0, hcz2_1, hfz2_1⟩ := Yt.c2 BK2.out; obtain ⟨hcz3_0, hfz3_0, hcz3_1, hfz3_1, hcz3_2, hfz3_2⟩ := Yt.c3 BK3.out; obtain ⟨hcz4_0, hfz4_0, hcz4_1, hfz4_1⟩ := Yt.c2 BK4.out; obtain ⟨hcz7_0, hfz7_0, hcz7_1, hfz7_1⟩ := Yt.c2 BK7.out))
  repeat (go_quiet (fail); try go_wp2_with (fail))
  refine bodyPost_ret (results_ctt rfl _ _ gb4 69 #[.int .i64 H, .slice Aw l.length cw] (0, 0) _ rfl (by (with_reducible repeat (first | refine blk_drewN ?_ _ | refine blk_drew ?_ | refine blk_alloc ?_ _)); refine blk_put (cs := #[.int .i64 H, .slice none 0 0]) ?_ 1 _ rfl; (with_reducible repeat (first | refine blk_drewN ?_ _ | refine blk_drew ?_ | refine blk_alloc ?_ _)); refine blk_put (cs := #[.int .i64 0, .slice none 0 0]) ?_ 0 _ rfl; (with_reducible repeat (first | refine blk_drewN ?_ _ | refine blk_drew ?_ | refine blk_alloc ?_ _)); exact BK4.out) Try.underlying69 rfl (by kernel_rfl)) rfl ?_
  exact ⟨_, rfl, by (with_reducible repeat (first | apply Kd.S_alloc | apply Kd.S_drewN | apply Kd.S_drew)); exact Kd.S_mono (Kd.S_far (p := ⟨gb4, 1, none⟩) (Kd.S_far (p := ⟨gb4, 0, none⟩) (Kd.S_types HSW.out BK4.out (by decide)) (fun _ hk => hk.2) _) (fun _ hk => hk.2) _) (fun _ hk => trivial), by exact bel_ HB.out⟩
set_option maxHeartbeats 8000000 in
set_option maxRecDepth 100000 in
theorem impl_DoYard.bad_kind (H : Int) (A : Option Addr) (c : Nat) (l : List (List Int)) (k b s : Int) (w : World) (hr0 : Kd.C (Kd.slice 3 (Kd.int .i64)) w A l.length l) (hc0 : l.length ≤ c) (hs1 : l.length ≤ 1000) (hs2 : ∀ x ∈ l, x.length ≤ 100) (hok : impl_YardOk.f H l = some true) (hki : impl_in.f k 1 3 = some false) :
    Calls Try.prog 31 #[.agg #[.int .i64 H, .slice A l.length c], .agg #[.int .i64 k, .int .i64 b, .int .i64 s]] w fun e w' => ∃ v0_ : Value, e = .returned (.tuple #[.agg #[.int .i64 H, v0_], .int .i64 0, .int .i64 1]) ∧ Kd.S (Kd.slice 3 (Kd.int .i64)) 28 w' w.heap.size (fun _ => True) v0_ l ∧ Below w.heap.size w w' := by
  have hu69 := Try.underlying69
  have hu76 := Try.underlying76
  have HR := Aside0.mk hr0
  have HC := Aside0.mk hc0
  have HS1 := Aside0.mk hs1
  have HS2 := Aside0.mk hs2
  have HF := Aside0.mk (show impl_Yard_own.f H l = some (H, l) from if_pos ⟨hs1, fun x hx => Nat.le_trans (hs2 x hx) (by omega)⟩)
  clear hr0 hc0 hs1 hs2
  obtain ⟨nn, hnn⟩ : ∃ nn : Int, nn = (l.length : Int) - 1 := ⟨_, rfl⟩
  have hwn : wrap64 ((l.length : Int) - 1) = nn := by rw [← hnn]; exact impl_YardOk.w64 (by omega) (by have := HS1.out; omega)
  have HNN := Aside0.mk hnn
  clear hnn
  have HOK := Aside0.mk hok
  clear hok
  have AK := Aside0.mk hki
  clear hki
  have HB := Aside0.mk (Below.refl w.heap.size w)
  go_enter Try.func31, Try.ntmps31
  go_upto_region 2 with (first | ((with_reducible refine gate_dst (N := 2) rfl ?_); refine box_event ?hg (N := 2) ?hd (cs := #[.int .i64 H, .slice A l.length c]) (t := 69) ?hr ?_; (case hd => rfl); (case hg => rfl); (case hr => first | (go_simp; done) | (go_simp; rfl)); intro gb2 hg w2 hbox hb; have q1_ := Aside0.mk hbox; have q2_ := Aside0.mk ((by rw [hg]; exact (below_size (by exact bel_ HB.out))) : w.heap.size ≤ gb2); have n0_ := Aside0.mk (below_step (by exact bel_ HB.out) hb); clear HB; have HB := n0_; clear n0_; have BK2 := q1_; have GE2 := q2_; clear q1_ q2_; clear hb hbox hg; obtain ⟨hcz2_0, hfz2_0, hcz2_1, hfz2_1⟩ := Yt.c2 BK2.out) | ((with_reducible refine gate_dst (N := 3) rfl ?_); refine box_event ?hg (N := 3) ?hd (cs := #[.int .i64 k, .int .i64 b, .int .i64 s]) (t := 76) ?hr ?_; (case hd => rfl); (case hg => rfl); (case hr => first | (go_simp; done) | (go_simp; rfl)); intro gb3 hg w3 hbox hb; have q1_ := Aside0.mk hbox; have q2_ := Aside0.mk ((by rw [hg]; exact (below_size (by exact bel_ HB.out))) : w.heap.size ≤ gb3); have NB2_3 := Aside0.mk (nl_ BK2.out hg); have n0_ := Aside0.mk (below_step (by exact bel_ HB.out) hb); have m2_ := Aside0.mk (bb_ BK2.out hb); clear HB; have HB := n0_; clear n0_; clear BK2; have BK2 := m2_; clear m2_; have BK3 := q1_; have GE3 := q2_; clear q1_ q2_; clear hb hbox hg; obtain ⟨hcz2_0, hfz2_0, hcz2_1, hfz2_1⟩ := Yt.c2 BK2.out; obtain ⟨hcz3_0, hfz3_0, hcz3_1, hfz3_1, hcz3_2, hfz3_2⟩ := Yt.c3 BK3.out; have hnb2_3 := NB2_3.out; have hnc2_3 := Ne.symm NB2_3.out) | ((with_reducible refine gate_dst (N := 4) rfl ?_); refine box_event ?hg (N := 4) ?hd (cs := #[.int .i64 0, .slice none 0 0]) (t := 69) ?hr ?_; (case hd => rfl); (case hg => rfl); (case hr => first | (go_simp; done) | (go_simp; rfl)); intro gb4 hg w4 hbox hb; have q1_ := Aside0.mk hbox; have q2_ := Aside0.mk ((by rw [hg]; exact (below_size (by exact bel_ HB.out))) : w.heap.size ≤ gb4); have NB2_4 := Aside0.mk (nl_ BK2.out hg); have NB3_4 := Aside0.mk (nl_ BK3.out hg); have n0_ := Aside0.mk (below_step (by exact bel_ HB.out) hb); have m2_ := Aside0.mk (bb_ BK2.out hb); have m3_ := Aside0.mk (bb_ BK3.out hb); clear HB; have HB := n0_; clear n0_; clear BK2; have BK2 := m2_; clear m2_; clear BK3; have BK3 := m3_; clear m3_; have BK4 := q1_; have GE4 := q2_; clear q1_ q2_; clear hb hbox hg; obtain ⟨hcz2_0, hfz2_0, hcz2_1, hfz2_1⟩ := Yt.c2 BK2.out; obtain ⟨hcz3_0, hfz3_0, hcz3_1, hfz3_1, hcz3_2, hfz3_2⟩ := Yt.c3 BK3.out; obtain ⟨hcz4_0, hfz4_0, hcz4_1, hfz4_1⟩ := Yt.c2 BK4.out; have hnb2_4 := NB2_4.out; have hnc2_4 := Ne.symm NB2_4.out; have hnb3_4 := NB3_4.out; have hnc3_4 := Ne.symm NB3_4.out) | ((with_reducible refine gate_callee (f := 71) rfl ?_); refine goesL_ (some 18) rfl rfl Try.func71 (by kernel_rfl) rfl #[.agg #[.int .i64 H, .slice A l.length c]] rfl (by (try simp only [List.map_toArray, List.map_cons, List.map_nil]); first | done | rfl) ?_; (with_reducible refine (impl_Yard_own.calls H A c l H l _ ?side1 HC.out HF.out).mono ?_); (case side1 => exact Kd.C_below HR.out (by exact bel_ HB.out)); rintro e w18 ⟨v18, rfl, hS, hb⟩; refine ⟨_, rfl, ?_⟩; obtain ⟨Aw, cw, ew⟩ := Kd.S_slice hS; subst ew; have HSW := Aside0.mk (Kd.S_lower hS (below_size (by exact bel_ HB.out))); have n0_ := Aside0.mk (below_step (by exact bel_ HB.out) hb); have m2_ := Aside0.mk (bb_ BK2.out hb); have m3_ := Aside0.mk (bb_ BK3.out hb); have m4_ := Aside0.mk (bb_ BK4.out hb); clear HB; have HB := n0_; clear n0_; clear BK2; have BK2 := m2_; clear m2_; clear BK3; have BK3 := m3_; clear m3_; clear BK4; have BK4 := m4_; clear m4_; clear hb hS; obtain ⟨hcz2_0, hfz2_0, hcz2_1, hfz2_1⟩ := Yt.c2 BK2.out; obtain ⟨hcz3_0, hfz3_0, hcz3_1, hfz3_1, hcz3_2, hfz3_2⟩ := Yt.c3 BK3.out; obtain ⟨hcz4_0, hfz4_0, hcz4_1, hfz4_1⟩ := Yt.c2 BK4.out) | ((with_reducible refine gate_dst (N := 7) rfl ?_); refine box_event ?hg (N := 7) ?hd (cs := #[.int .i64 0, .slice none 0 0]) (t := 69) ?hr ?_; (case hd => rfl); (case hg => rfl); (case hr => first | (go_simp; done) | (go_simp; rfl)); intro gb7 hg w7 hbox hb; have q1_ := Aside0.mk hbox; have q2_ := Aside0.mk ((by rw [hg]; exact (below_size (by exact bel_ HB.out))) : w.heap.size ≤ gb7); have NB2_7 := Aside0.mk (nl_ BK2.out hg); have NB3_7 := Aside0.mk (nl_ BK3.out hg); have NB4_7 := Aside0.mk (nl_ BK4.out hg); have n0_ := Aside0.mk (below_step (by exact bel_ HB.out) hb); have m2_ := Aside0.mk (bb_ BK2.out hb); have m3_ := Aside0.mk (bb_ BK3.out hb); have m4_ := Aside0.mk (bb_ BK4.out hb); have mHSW_ := Aside0.mk (Yt.sb HSW.out hb); clear HB; have HB := n0_; clear n0_; clear BK2; have BK2 := m2_; clear m2_; clear BK3; have BK3 := m3_; clear m3_; clear BK4; have BK4 := m4_; clear m4_; clear HSW; have HSW := mHSW_; clear mHSW_; have BK7 := q1_; have GE7 := q2_; clear q1_ q2_; clear hb hbox hg; obtain ⟨hcz2_0, hfz2_0, hcz2_1, hfz2_1⟩ := Yt.c2 BK2.out; obtain ⟨hcz3_0, hfz3_0, hcz3_1, hfz3_1, hcz3_2, hfz3_2⟩ := Yt.c3 BK3.out; obtain ⟨hcz4_0, hfz4_0, hcz4_1, hfz4_1⟩ := Yt.c2 BK4.out; obtain ⟨hcz7_0, hfz7_0, hcz7_1, hfz7_1⟩ := Yt.c2 BK7.out; have hnb2_7 := NB2_7.out; have hnc2_7 := Ne.symm NB2_7.out; have hnb3_7 := NB3_7.out; have hnc3_7 := Ne.symm NB3_7.out; have hnb4_7 := NB4_7.out; have hnc4_7 := Ne.symm NB4_7.out))
  (try simp only [Act.put, List.setIfInBounds_toArray, List.set_cons_zero, List.set_cons_succ])
  have b7_ : ((w7.setCell ⟨gb7, 0, none⟩ (.int .i64 H)).setCell ⟨gb7, 1, none⟩ (.slice Aw l.length cw)).heap[gb7]? = some (.cells #[.int .i64 H, .slice Aw l.length cw] 69 (0, 0)) := blk_put (cs := #[.int .i64 H, .slice none 0 0]) (blk_put (cs := #[.int .i64 0, .slice none 0 0]) BK7.out 0 _ rfl) 1 _ rfl
  have b2_ : ((w7.setCell ⟨gb7, 0, none⟩ (.int .i64 H)).setCell ⟨gb7, 1, none⟩ (.slice Aw l.length cw)).heap[gb2]? = some (.cells #[.int .i64 H, .slice A l.length c] 69 (0, 0)) := blk_far (blk_far BK2.out NB2_7.out _) NB2_7.out _
  have b3_ : ((w7.setCell ⟨gb7, 0, none⟩ (.int .i64 H)).setCell ⟨gb7, 1, none⟩ (.slice Aw l.length cw)).heap[gb3]? = some (.cells #[.int .i64 k, .int .i64 b, .int .i64 s] 76 (0, 0)) := blk_far (blk_far BK3.out NB3_7.out _) NB3_7.out _
  have b4_ : ((w7.setCell ⟨gb7, 0, none⟩ (.int .i64 H)).setCell ⟨gb7, 1, none⟩ (.slice Aw l.length cw)).heap[gb4]? = some (.cells #[.int .i64 0, .slice none 0 0] 69 (0, 0)) := blk_far (blk_far BK4.out NB4_7.out _) NB4_7.out _
  have sHSW_ := Kd.S_mono (Kd.S_far (p := ⟨gb7, 1, none⟩) (Kd.S_far (p := ⟨gb7, 0, none⟩) (Kd.S_types HSW.out BK7.out (by decide)) (fun _ hk => hk.2) (.int .i64 H)) (fun _ hk => hk.2) (.slice Aw l.length cw)) (fun _ hk => hk.1)
  have hb_ : Below w.heap.size w ((w7.setCell ⟨gb7, 0, none⟩ (.int .i64 H)).setCell ⟨gb7, 1, none⟩ (.slice Aw l.length cw)) := below_set (below_set HB.out GE7.out) GE7.out
  try clear hcz2_0 hfz2_0 hcz2_1 hfz2_1
  try clear hcz3_0 hfz3_0 hcz3_1 hfz3_1 hcz3_2 hfz3_2
  try clear hcz4_0 hfz4_0 hcz4_1 hfz4_1
  try clear hcz7_0 hfz7_0 hcz7_1 hfz7_1
  try clear hnb2_3 hnc2_3 hnb2_4 hnc2_4 hnb2_7 hnc2_7 hnb3_4 hnc3_4 hnb3_7 hnc3_7 hnb4_7 hnc4_7
  generalize (w7.setCell ⟨gb7, 0, none⟩ (.int .i64 H)).setCell ⟨gb7, 1, none⟩ (.slice Aw l.length cw) = w8 at b2_ b3_ b4_ b7_ sHSW_ hb_ ⊢
  clear HB BK2 BK3 BK4 BK7 HSW
  have HB := Aside0.mk hb_
  clear hb_
  have BK2 := Aside0.mk b2_
  clear b2_
  have BK3 := Aside0.mk b3_
  clear b3_
  have BK4 := Aside0.mk b4_
  clear b4_
  have BK7 := Aside0.mk b7_
  clear b7_
  have HSW := Aside0.mk sHSW_
  clear sHSW_
  obtain ⟨hcz2_0, hfz2_0, hcz2_1, hfz2_1⟩ := Yt.c2 BK2.out; obtain ⟨hcz3_0, hfz3_0, hcz3_1, hfz3_1, hcz3_2, hfz3_2⟩ := Yt.c3 BK3.out; obtain ⟨hcz4_0, hfz4_0, hcz4_1, hfz4_1⟩ := Yt.c2 BK4.out; obtain ⟨hcz7_0, hfz7_0, hcz7_1, hfz7_1⟩ := Yt.c2 BK7.out
  have hnb2_3 := NB2_3.out; have hnc2_3 := Ne.symm NB2_3.out
  have hnb2_4 := NB2_4.out; have hnc2_4 := Ne.symm NB2_4.out
  have hnb2_7 := NB2_7.out; have hnc2_7 := Ne.symm NB2_7.out
  have hnb3_4 := NB3_4.out; have hnc3_4 := Ne.symm NB3_4.out
  have hnb3_7 := NB3_7.out; have hnc3_7 := Ne.symm NB3_7.out
  have hnb4_7 := NB4_7.out; have hnc4_7 := Ne.symm NB4_7.out
  go_wp2_with (first | ((with_reducible refine gate_callee (f := 32) rfl ?_); refine goesL_ (some 24) rfl rfl Try.func32 (by kernel_rfl) rfl #[.agg #[.int .i64 H, .slice A l.length c]] rfl (by (try simp only [List.map_toArray, List.map_cons, List.map_nil]); first | done | rfl) ?_; (with_reducible refine (impl_YardOk.calls H A c l true _ ?side1 HC.out HOK.out).mono ?_); (case side1 => exact Kd.C_below HR.out (by exact bel_ HB.out)); rintro e w24 ⟨rfl, hb⟩; refine ⟨_, rfl, ?_⟩; have n0_ := Aside0.mk (below_step (by exact bel_ HB.out) hb); have m2_ := Aside0.mk (bb_ BK2.out hb); have m3_ := Aside0.mk (bb_ BK3.out hb); have m4_ := Aside0.mk (bb_ BK4.out hb); have m7_ := Aside0.mk (bb_ BK7.out hb); have mHSW_ := Aside0.mk (Yt.sb HSW.out hb); clear HB; have HB := n0_; clear n0_; clear BK2; have BK2 := m2_; clear m2_; clear BK3; have BK3 := m3_; clear m3_; clear BK4; have BK4 := m4_; clear m4_; clear BK7; have BK7 := m7_; clear m7_; clear HSW; have HSW := mHSW_; clear mHSW_; clear hb; obtain ⟨hcz2_0, hfz2_0, hcz2_1, hfz2_1⟩ := Yt.c2 BK2.out; obtain ⟨hcz3_0, hfz3_0, hcz3_1, hfz3_1, hcz3_2, hfz3_2⟩ := Yt.c3 BK3.out; obtain ⟨hcz4_0, hfz4_0, hcz4_1, hfz4_1⟩ := Yt.c2 BK4.out; obtain ⟨hcz7_0, hfz7_0, hcz7_1, hfz7_1⟩ := Yt.c2 BK7.out) | (go_at_call 48; (with_reducible refine (impl_in.calls k 1 3 false _ AK.out).mono ?_); rintro e w' ⟨rfl, ⟨nd, rfl⟩⟩; (try first | exact ⟨rfl, _, World.drewN_drewN _ _ _⟩ | exact ⟨rfl, _, Eq.trans (World.drewN_drewN _ _ _) (congrArg (World.drewN _) (Nat.add_assoc _ _ _))⟩)))
  repeat (go_quiet (first | (go_at_call 48; (with_reducible refine (impl_in.calls k 1 3 false _ AK.out).mono ?_); rintro e w' ⟨rfl, ⟨nd, rfl⟩⟩; (try first | exact ⟨rfl, _, World.drewN_drewN _ _ _⟩ | exact ⟨rfl, _, Eq.trans (World.drewN_drewN _ _ _) (congrArg (World.drewN _) (Nat.add_assoc _ _ _))⟩))); try go_wp2_with (first | (go_at_call 48; (with_reducible refine (impl_in.calls k 1 3 false _ AK.out).mono ?_); rintro e w' ⟨rfl, ⟨nd, rfl⟩⟩; (try first | exact ⟨rfl, _, World.drewN_drewN _ _ _⟩ | exact ⟨rfl, _, Eq.trans (World.drewN_drewN _ _ _) (congrArg (World.drewN _) (Nat.add_assoc _ _ _))⟩))))
  refine bodyPost_ret (results_ctt rfl _ _ gb4 69 #[.int .i64 H, .slice Aw l.length cw] (0, 0) _ rfl (by (with_reducible repeat (first | refine blk_drewN ?_ _ | refine blk_drew ?_ | refine blk_alloc ?_ _)); refine blk_put (cs := #[.int .i64 H, .slice none 0 0]) ?_ 1 _ rfl; (with_reducible repeat (first | refine blk_drewN ?_ _ | refine blk_drew ?_ | refine blk_alloc ?_ _)); refine blk_put (cs := #[.int .i64 0, .slice none 0 0]) ?_ 0 _ rfl; (with_reducible repeat (first | refine blk_drewN ?_ _ | refine blk_drew ?_ | refine blk_alloc ?_ _)); exact BK4.out) Try.underlying69 rfl (by kernel_rfl)) rfl ?_
  exact ⟨_, rfl, by (with_reducible repeat (first | apply Kd.S_alloc | apply Kd.S_drewN | apply Kd.S_drew)); exact Kd.S_mono (Kd.S_far (p := ⟨gb4, 1, none⟩) (Kd.S_far (p := ⟨gb4, 0, none⟩) (Kd.S_types HSW.out BK4.out (by decide)) (fun _ hk => hk.2) _) (fun _ hk => hk.2) _) (fun _ hk => trivial), by exact bel_ HB.out⟩
set_option maxHeartbeats 8000000 in
set_option maxRecDepth 100000 in
theorem impl_DoYard.bad_stack1 (H : Int) (A : Option Addr) (c : Nat) (l : List (List Int)) (b s : Int) (w : World) (hr0 : Kd.C (Kd.slice 3 (Kd.int .i64)) w A l.length l) (hc0 : l.length ≤ c) (hs1 : l.length ≤ 1000) (hs2 : ∀ x ∈ l, x.length ≤ 100) (hok : impl_YardOk.f H l = some true) (hst : impl_in.f s 0 ((l.length : Int) - 1) = some false) :
    Calls Try.prog 31 #[.agg #[.int .i64 H, .slice A l.length c], .agg #[.int .i64 1, .int .i64 b, .int .i64 s]] w fun e w' => ∃ v0_ : Value, e = .returned (.tuple #[.agg #[.int .i64 H, v0_], .int .i64 0, .int .i64 1]) ∧ Kd.S (Kd.slice 3 (Kd.int .i64)) 28 w' w.heap.size (fun _ => True) v0_ l ∧ Below w.heap.size w w' := by
  have hu69 := Try.underlying69
  have hu76 := Try.underlying76
  have HR := Aside0.mk hr0
  have HC := Aside0.mk hc0
  have HS1 := Aside0.mk hs1
  have HS2 := Aside0.mk hs2
  have HF := Aside0.mk (show impl_Yard_own.f H l = some (H, l) from if_pos ⟨hs1, fun x hx => Nat.le_trans (hs2 x hx) (by omega)⟩)
  clear hr0 hc0 hs1 hs2
  obtain ⟨nn, hnn⟩ : ∃ nn : Int, nn = (l.length : Int) - 1 := ⟨_, rfl⟩
  have hwn : wrap64 ((l.length : Int) - 1) = nn := by rw [← hnn]; exact impl_YardOk.w64 (by omega) (by have := HS1.out; omega)
  have HNN := Aside0.mk hnn
  clear hnn
  have HOK := Aside0.mk hok
  clear hok
  have AK := Aside0.mk (show impl_in.f 1 1 3 = some true from rfl)
  rw [← HNN.out] at hst
  have AST := Aside0.mk hst
  clear hst
  have HB := Aside0.mk (Below.refl w.heap.size w)
  go_enter Try.func31, Try.ntmps31
  go_upto_region 2 with (first | ((with_reducible refine gate_dst (N := 2) rfl ?_); refine box_event ?hg (N := 2) ?hd (cs := #[.int .i64 H, .slice A l.length c]) (t := 69) ?hr ?_; (case hd => rfl); (case hg => rfl); (case hr => first | (go_simp; done) | (go_simp; rfl)); intro gb2 hg w2 hbox hb; have q1_ := Aside0.mk hbox; have q2_ := Aside0.mk ((by rw [hg]; exact (below_size (by exact bel_ HB.out))) : w.heap.size ≤ gb2); have n0_ := Aside0.mk (below_step (by exact bel_ HB.out) hb); clear HB; have HB := n0_; clear n0_; have BK2 := q1_; have GE2 := q2_; clear q1_ q2_; clear hb hbox hg; obtain ⟨hcz2_0, hfz2_0, hcz2_1, hfz2_1⟩ := Yt.c2 BK2.out) | ((with_reducible refine gate_dst (N := 3) rfl ?_); refine box_event ?hg (N := 3) ?hd (cs := #[.int .i64 1, .int .i64 b, .int .i64 s]) (t := 76) ?hr ?_; (case hd => rfl); (case hg => rfl); (case hr => first | (go_simp; done) | (go_simp; rfl)); intro gb3 hg w3 hbox hb; have q1_ := Aside0.mk hbox; have q2_ := Aside0.mk ((by rw [hg]; exact (below_size (by exact bel_ HB.out))) : w.heap.size ≤ gb3); have NB2_3 := Aside0.mk (nl_ BK2.out hg); have n0_ := Aside0.mk (below_step (by exact bel_ HB.out) hb); have m2_ := Aside0.mk (bb_ BK2.out hb); clear HB; have HB := n0_; clear n0_; clear BK2; have BK2 := m2_; clear m2_; have BK3 := q1_; have GE3 := q2_; clear q1_ q2_; clear hb hbox hg; obtain ⟨hcz2_0, hfz2_0, hcz2_1, hfz2_1⟩ := Yt.c2 BK2.out; obtain ⟨hcz3_0, hfz3_0, hcz3_1, hfz3_1, hcz3_2, hfz3_2⟩ := Yt.c3 BK3.out; have hnb2_3 := NB2_3.out; have hnc2_3 := Ne.symm NB2_3.out) | ((with_reducible refine gate_dst (N := 4) rfl ?_); refine box_event ?hg (N := 4) ?hd (cs := #[.int .i64 0, .slice none 0 0]) (t := 69) ?hr ?_; (case hd => rfl); (case hg => rfl); (case hr => first | (go_simp; done) | (go_simp; rfl)); intro gb4 hg w4 hbox hb; have q1_ := Aside0.mk hbox; have q2_ := Aside0.mk ((by rw [hg]; exact (below_size (by exact bel_ HB.out))) : w.heap.size ≤ gb4); have NB2_4 := Aside0.mk (nl_ BK2.out hg); have NB3_4 := Aside0.mk (nl_ BK3.out hg); have n0_ := Aside0.mk (below_step (by exact bel_ HB.out) hb); have m2_ := Aside0.mk (bb_ BK2.out hb); have m3_ := Aside0.mk (bb_ BK3.out hb); clear HB; have HB := n0_; clear n0_; clear BK2; have BK2 := m2_; clear m2_; clear BK3; have BK3 := m3_; clear m3_; have BK4 := q1_; have GE4 := q2_; clear q1_ q2_; clear hb hbox hg; obtain ⟨hcz2_0, hfz2_0, hcz2_1, hfz2_1⟩ := Yt.c2 BK2.out; obtain ⟨hcz3_0, hfz3_0, hcz3_1, hfz3_1, hcz3_2, hfz3_2⟩ := Yt.c3 BK3.out; obtain ⟨hcz4_0, hfz4_0, hcz4_1, hfz4_1⟩ := Yt.c2 BK4.out; have hnb2_4 := NB2_4.out; have hnc2_4 := Ne.symm NB2_4.out; have hnb3_4 := NB3_4.out; have hnc3_4 := Ne.symm NB3_4.out) | ((with_reducible refine gate_callee (f := 71) rfl ?_); refine goesL_ (some 18) rfl rfl Try.func71 (by kernel_rfl) rfl #[.agg #[.int .i64 H, .slice A l.length c]] rfl (by (try simp only [List.map_toArray, List.map_cons, List.map_nil]); first | done | rfl) ?_; (with_reducible refine (impl_Yard_own.calls H A c l H l _ ?side1 HC.out HF.out).mono ?_); (case side1 => exact Kd.C_below HR.out (by exact bel_ HB.out)); rintro e w18 ⟨v18, rfl, hS, hb⟩; refine ⟨_, rfl, ?_⟩; obtain ⟨Aw, cw, ew⟩ := Kd.S_slice hS; subst ew; have HSW := Aside0.mk (Kd.S_lower hS (below_size (by exact bel_ HB.out))); have n0_ := Aside0.mk (below_step (by exact bel_ HB.out) hb); have m2_ := Aside0.mk (bb_ BK2.out hb); have m3_ := Aside0.mk (bb_ BK3.out hb); have m4_ := Aside0.mk (bb_ BK4.out hb); clear HB; have HB := n0_; clear n0_; clear BK2; have BK2 := m2_; clear m2_; clear BK3; have BK3 := m3_; clear m3_; clear BK4; have BK4 := m4_; clear m4_; clear hb hS; obtain ⟨hcz2_0, hfz2_0, hcz2_1, hfz2_1⟩ := Yt.c2 BK2.out; obtain ⟨hcz3_0, hfz3_0, hcz3_1, hfz3_1, hcz3_2, hfz3_2⟩ := Yt.c3 BK3.out; obtain ⟨hcz4_0, hfz4_0, hcz4_1, hfz4_1⟩ := Yt.c2 BK4.out) | ((with_reducible refine gate_dst (N := 7) rfl ?_); refine box_event ?hg (N := 7) ?hd (cs := #[.int .i64 0, .slice none 0 0]) (t := 69) ?hr ?_; (case hd => rfl); (case hg => rfl); (case hr => first | (go_simp; done) | (go_simp; rfl)); intro gb7 hg w7 hbox hb; have q1_ := Aside0.mk hbox; have q2_ := Aside0.mk ((by rw [hg]; exact (below_size (by exact bel_ HB.out))) : w.heap.size ≤ gb7); have NB2_7 := Aside0.mk (nl_ BK2.out hg); have NB3_7 := Aside0.mk (nl_ BK3.out hg); have NB4_7 := Aside0.mk (nl_ BK4.out hg); have n0_ := Aside0.mk (below_step (by exact bel_ HB.out) hb); have m2_ := Aside0.mk (bb_ BK2.out hb); have m3_ := Aside0.mk (bb_ BK3.out hb); have m4_ := Aside0.mk (bb_ BK4.out hb); have mHSW_ := Aside0.mk (Yt.sb HSW.out hb); clear HB; have HB := n0_; clear n0_; clear BK2; have BK2 := m2_; clear m2_; clear BK3; have BK3 := m3_; clear m3_; clear BK4; have BK4 := m4_; clear m4_; clear HSW; have HSW := mHSW_; clear mHSW_; have BK7 := q1_; have GE7 := q2_; clear q1_ q2_; clear hb hbox hg; obtain ⟨hcz2_0, hfz2_0, hcz2_1, hfz2_1⟩ := Yt.c2 BK2.out; obtain ⟨hcz3_0, hfz3_0, hcz3_1, hfz3_1, hcz3_2, hfz3_2⟩ := Yt.c3 BK3.out; obtain ⟨hcz4_0, hfz4_0, hcz4_1, hfz4_1⟩ := Yt.c2 BK4.out; obtain ⟨hcz7_0, hfz7_0, hcz7_1, hfz7_1⟩ := Yt.c2 BK7.out; have hnb2_7 := NB2_7.out; have hnc2_7 := Ne.symm NB2_7.out; have hnb3_7 := NB3_7.out; have hnc3_7 := Ne.symm NB3_7.out; have hnb4_7 := NB4_7.out; have hnc4_7 := Ne.symm NB4_7.out))
  (try simp only [Act.put, List.setIfInBounds_toArray, List.set_cons_zero, List.set_cons_succ])
  have b7_ : ((w7.setCell ⟨gb7, 0, none⟩ (.int .i64 H)).setCell ⟨gb7, 1, none⟩ (.slice Aw l.length cw)).heap[gb7]? = some (.cells #[.int .i64 H, .slice Aw l.length cw] 69 (0, 0)) := blk_put (cs := #[.int .i64 H, .slice none 0 0]) (blk_put (cs := #[.int .i64 0, .slice none 0 0]) BK7.out 0 _ rfl) 1 _ rfl
  have b2_ : ((w7.setCell ⟨gb7, 0, none⟩ (.int .i64 H)).setCell ⟨gb7, 1, none⟩ (.slice Aw l.length cw)).heap[gb2]? = some (.cells #[.int .i64 H, .slice A l.length c] 69 (0, 0)) := blk_far (blk_far BK2.out NB2_7.out _) NB2_7.out _
  have b3_ : ((w7.setCell ⟨gb7, 0, none⟩ (.int .i64 H)).setCell ⟨gb7, 1, none⟩ (.slice Aw l.length cw)).heap[gb3]? = some (.cells #[.int .i64 1, .int .i64 b, .int .i64 s] 76 (0, 0)) := blk_far (blk_far BK3.out NB3_7.out _) NB3_7.out _
  have b4_ : ((w7.setCell ⟨gb7, 0, none⟩ (.int .i64 H)).setCell ⟨gb7, 1, none⟩ (.slice Aw l.length cw)).heap[gb4]? = some (.cells #[.int .i64 0, .slice none 0 0] 69 (0, 0)) := blk_far (blk_far BK4.out NB4_7.out _) NB4_7.out _
  have sHSW_ := Kd.S_mono (Kd.S_far (p := ⟨gb7, 1, none⟩) (Kd.S_far (p := ⟨gb7, 0, none⟩) (Kd.S_types HSW.out BK7.out (by decide)) (fun _ hk => hk.2) (.int .i64 H)) (fun _ hk => hk.2) (.slice Aw l.length cw)) (fun _ hk => hk.1)
  have hb_ : Below w.heap.size w ((w7.setCell ⟨gb7, 0, none⟩ (.int .i64 H)).setCell ⟨gb7, 1, none⟩ (.slice Aw l.length cw)) := below_set (below_set HB.out GE7.out) GE7.out
  try clear hcz2_0 hfz2_0 hcz2_1 hfz2_1
  try clear hcz3_0 hfz3_0 hcz3_1 hfz3_1 hcz3_2 hfz3_2
  try clear hcz4_0 hfz4_0 hcz4_1 hfz4_1
  try clear hcz7_0 hfz7_0 hcz7_1 hfz7_1
  try clear hnb2_3 hnc2_3 hnb2_4 hnc2_4 hnb2_7 hnc2_7 hnb3_4 hnc3_4 hnb3_7 hnc3_7 hnb4_7 hnc4_7
  generalize (w7.setCell ⟨gb7, 0, none⟩ (.int .i64 H)).setCell ⟨gb7, 1, none⟩ (.slice Aw l.length cw) = w8 at b2_ b3_ b4_ b7_ sHSW_ hb_ ⊢
  clear HB BK2 BK3 BK4 BK7 HSW
  have HB := Aside0.mk hb_
  clear hb_
  have BK2 := Aside0.mk b2_
  clear b2_
  have BK3 := Aside0.mk b3_
  clear b3_
  have BK4 := Aside0.mk b4_
  clear b4_
  have BK7 := Aside0.mk b7_
  clear b7_
  have HSW := Aside0.mk sHSW_
  clear sHSW_
  obtain ⟨hcz2_0, hfz2_0, hcz2_1, hfz2_1⟩ := Yt.c2 BK2.out; obtain ⟨hcz3_0, hfz3_0, hcz3_1, hfz3_1, hcz3_2, hfz3_2⟩ := Yt.c3 BK3.out; obtain ⟨hcz4_0, hfz4_0, hcz4_1, hfz4_1⟩ := Yt.c2 BK4.out; obtain ⟨hcz7_0, hfz7_0, hcz7_1, hfz7_1⟩ := Yt.c2 BK7.out
  have hnb2_3 := NB2_3.out; have hnc2_3 := Ne.symm NB2_3.out
  have hnb2_4 := NB2_4.out; have hnc2_4 := Ne.symm NB2_4.out
  have hnb2_7 := NB2_7.out; have hnc2_7 := Ne.symm NB2_7.out
  have hnb3_4 := NB3_4.out; have hnc3_4 := Ne.symm NB3_4.out
  have hnb3_7 := NB3_7.out; have hnc3_7 := Ne.symm NB3_7.out
  have hnb4_7 := NB4_7.out; have hnc4_7 := Ne.symm NB4_7.out
  go_wp2_with (first | ((with_reducible refine gate_callee (f := 32) rfl ?_); refine goesL_ (some 24) rfl rfl Try.func32 (by kernel_rfl) rfl #[.agg #[.int .i64 H, .slice A l.length c]] rfl (by (try simp only [List.map_toArray, List.map_cons, List.map_nil]); first | done | rfl) ?_; (with_reducible refine (impl_YardOk.calls H A c l true _ ?side1 HC.out HOK.out).mono ?_); (case side1 => exact Kd.C_below HR.out (by exact bel_ HB.out)); rintro e w24 ⟨rfl, hb⟩; refine ⟨_, rfl, ?_⟩; have n0_ := Aside0.mk (below_step (by exact bel_ HB.out) hb); have m2_ := Aside0.mk (bb_ BK2.out hb); have m3_ := Aside0.mk (bb_ BK3.out hb); have m4_ := Aside0.mk (bb_ BK4.out hb); have m7_ := Aside0.mk (bb_ BK7.out hb); have mHSW_ := Aside0.mk (Yt.sb HSW.out hb); clear HB; have HB := n0_; clear n0_; clear BK2; have BK2 := m2_; clear m2_; clear BK3; have BK3 := m3_; clear m3_; clear BK4; have BK4 := m4_; clear m4_; clear BK7; have BK7 := m7_; clear m7_; clear HSW; have HSW := mHSW_; clear mHSW_; clear hb; obtain ⟨hcz2_0, hfz2_0, hcz2_1, hfz2_1⟩ := Yt.c2 BK2.out; obtain ⟨hcz3_0, hfz3_0, hcz3_1, hfz3_1, hcz3_2, hfz3_2⟩ := Yt.c3 BK3.out; obtain ⟨hcz4_0, hfz4_0, hcz4_1, hfz4_1⟩ := Yt.c2 BK4.out; obtain ⟨hcz7_0, hfz7_0, hcz7_1, hfz7_1⟩ := Yt.c2 BK7.out) | (go_at_call 48; (with_reducible refine (impl_in.calls 1 1 3 true _ AK.out).mono ?_); rintro e w' ⟨rfl, ⟨nd, rfl⟩⟩; (try first | exact ⟨rfl, _, World.drewN_drewN _ _ _⟩ | exact ⟨rfl, _, Eq.trans (World.drewN_drewN _ _ _) (congrArg (World.drewN _) (Nat.add_assoc _ _ _))⟩)) | (go_at_call 48; (with_reducible refine (impl_in.calls s 0 nn false _ AST.out).mono ?_); rintro e w' ⟨rfl, ⟨nd, rfl⟩⟩; (try first | exact ⟨rfl, _, World.drewN_drewN _ _ _⟩ | exact ⟨rfl, _, Eq.trans (World.drewN_drewN _ _ _) (congrArg (World.drewN _) (Nat.add_assoc _ _ _))⟩)))
  repeat (go_quiet (first | (go_at_call 48; (with_reducible refine (impl_in.calls 1 1 3 true _ AK.out).mono ?_); rintro e w' ⟨rfl, ⟨nd, rfl⟩⟩; (try first | exact ⟨rfl, _, World.drewN_drewN _ _ _⟩ | exact ⟨rfl, _, Eq.trans (World.drewN_drewN _ _ _) (congrArg (World.drewN _) (Nat.add_assoc _ _ _))⟩)) | (go_at_call 48; (with_reducible refine (impl_in.calls s 0 nn false _ AST.out).mono ?_); rintro e w' ⟨rfl, ⟨nd, rfl⟩⟩; (try first | exact ⟨rfl, _, World.drewN_drewN _ _ _⟩ | exact ⟨rfl, _, Eq.trans (World.drewN_drewN _ _ _) (congrArg (World.drewN _) (Nat.add_assoc _ _ _))⟩))); try go_wp2_with (first | (go_at_call 48; (with_reducible refine (impl_in.calls 1 1 3 true _ AK.out).mono ?_); rintro e w' ⟨rfl, ⟨nd, rfl⟩⟩; (try first | exact ⟨rfl, _, World.drewN_drewN _ _ _⟩ | exact ⟨rfl, _, Eq.trans (World.drewN_drewN _ _ _) (congrArg (World.drewN _) (Nat.add_assoc _ _ _))⟩)) | (go_at_call 48; (with_reducible refine (impl_in.calls s 0 nn false _ AST.out).mono ?_); rintro e w' ⟨rfl, ⟨nd, rfl⟩⟩; (try first | exact ⟨rfl, _, World.drewN_drewN _ _ _⟩ | exact ⟨rfl, _, Eq.trans (World.drewN_drewN _ _ _) (congrArg (World.drewN _) (Nat.add_assoc _ _ _))⟩))))
  refine bodyPost_ret (results_ctt rfl _ _ gb4 69 #[.int .i64 H, .slice Aw l.length cw] (0, 0) _ rfl (by (with_reducible repeat (first | refine blk_drewN ?_ _ | refine blk_drew ?_ | refine blk_alloc ?_ _)); refine blk_put (cs := #[.int .i64 H, .slice none 0 0]) ?_ 1 _ rfl; (with_reducible repeat (first | refine blk_drewN ?_ _ | refine blk_drew ?_ | refine blk_alloc ?_ _)); refine blk_put (cs := #[.int .i64 0, .slice none 0 0]) ?_ 0 _ rfl; (with_reducible repeat (first | refine blk_drewN ?_ _ | refine blk_drew ?_ | refine blk_alloc ?_ _)); exact BK4.out) Try.underlying69 rfl (by kernel_rfl)) rfl ?_
  exact ⟨_, rfl, by (with_reducible repeat (first | apply Kd.S_alloc | apply Kd.S_drewN | apply Kd.S_drew)); exact Kd.S_mono (Kd.S_far (p := ⟨gb4, 1, none⟩) (Kd.S_far (p := ⟨gb4, 0, none⟩) (Kd.S_types HSW.out BK4.out (by decide)) (fun _ hk => hk.2) _) (fun _ hk => hk.2) _) (fun _ hk => trivial), by exact bel_ HB.out⟩
set_option maxHeartbeats 8000000 in
set_option maxRecDepth 100000 in
theorem impl_DoYard.bad_id (H : Int) (A : Option Addr) (c : Nat) (l : List (List Int)) (b s : Int) (w : World) (hr0 : Kd.C (Kd.slice 3 (Kd.int .i64)) w A l.length l) (hc0 : l.length ≤ c) (hs1 : l.length ≤ 1000) (hs2 : ∀ x ∈ l, x.length ≤ 100) (hok : impl_YardOk.f H l = some true) (hst : impl_in.f s 0 ((l.length : Int) - 1) = some true) (hid : impl_idRight.f b = some false) :
    Calls Try.prog 31 #[.agg #[.int .i64 H, .slice A l.length c], .agg #[.int .i64 1, .int .i64 b, .int .i64 s]] w fun e w' => ∃ v0_ : Value, e = .returned (.tuple #[.agg #[.int .i64 H, v0_], .int .i64 0, .int .i64 1]) ∧ Kd.S (Kd.slice 3 (Kd.int .i64)) 28 w' w.heap.size (fun _ => True) v0_ l ∧ Below w.heap.size w w' := by
  have hu69 := Try.underlying69
  have hu76 := Try.underlying76
  have HR := Aside0.mk hr0
  have HC := Aside0.mk hc0
  have HS1 := Aside0.mk hs1
  have HS2 := Aside0.mk hs2
  have HF := Aside0.mk (show impl_Yard_own.f H l = some (H, l) from if_pos ⟨hs1, fun x hx => Nat.le_trans (hs2 x hx) (by omega)⟩)
  clear hr0 hc0 hs1 hs2
  obtain ⟨nn, hnn⟩ : ∃ nn : Int, nn = (l.length : Int) - 1 := ⟨_, rfl⟩
  have hwn : wrap64 ((l.length : Int) - 1) = nn := by rw [← hnn]; exact impl_YardOk.w64 (by omega) (by have := HS1.out; omega)
  have HNN := Aside0.mk hnn
  clear hnn
  have HOK := Aside0.mk hok
  clear hok
  have AK := Aside0.mk (show impl_in.f 1 1 3 = some true from rfl)
  rw [← HNN.out] at hst
  have AST := Aside0.mk hst
  clear hst
  have AID := Aside0.mk hid
  clear hid
  have HB := Aside0.mk (Below.refl w.heap.size w)
  go_enter Try.func31, Try.ntmps31
  go_upto_region 2 with (first | ((with_reducible refine gate_dst (N := 2) rfl ?_); refine box_event ?hg (N := 2) ?hd (cs := #[.int .i64 H, .slice A l.length c]) (t := 69) ?hr ?_; (case hd => rfl); (case hg => rfl); (case hr => first | (go_simp; done) | (go_simp; rfl)); intro gb2 hg w2 hbox hb; have q1_ := Aside0.mk hbox; have q2_ := Aside0.mk ((by rw [hg]; exact (below_size (by exact bel_ HB.out))) : w.heap.size ≤ gb2); have n0_ := Aside0.mk (below_step (by exact bel_ HB.out) hb); clear HB; have HB := n0_; clear n0_; have BK2 := q1_; have GE2 := q2_; clear q1_ q2_; clear hb hbox hg; obtain ⟨hcz2_0, hfz2_0, hcz2_1, hfz2_1⟩ := Yt.c2 BK2.out) | ((with_reducible refine gate_dst (N := 3) rfl ?_); refine box_event ?hg (N := 3) ?hd (cs := #[.int .i64 1, .int .i64 b, .int .i64 s]) (t := 76) ?hr ?_; (case hd => rfl); (case hg => rfl); (case hr => first | (go_simp; done) | (go_simp; rfl)); intro gb3 hg w3 hbox hb; have q1_ := Aside0.mk hbox; have q2_ := Aside0.mk ((by rw [hg]; exact (below_size (by exact bel_ HB.out))) : w.heap.size ≤ gb3); have NB2_3 := Aside0.mk (nl_ BK2.out hg); have n0_ := Aside0.mk (below_step (by exact bel_ HB.out) hb); have m2_ := Aside0.mk (bb_ BK2.out hb); clear HB; have HB := n0_; clear n0_; clear BK2; have BK2 := m2_; clear m2_; have BK3 := q1_; have GE3 := q2_; clear q1_ q2_; clear hb hbox hg; obtain ⟨hcz2_0, hfz2_0, hcz2_1, hfz2_1⟩ := Yt.c2 BK2.out; obtain ⟨hcz3_0, hfz3_0, hcz3_1, hfz3_1, hcz3_2, hfz3_2⟩ := Yt.c3 BK3.out; have hnb2_3 := NB2_3.out; have hnc2_3 := Ne.symm NB2_3.out) | ((with_reducible refine gate_dst (N := 4) rfl ?_); refine box_event ?hg (N := 4) ?hd (cs := #[.int .i64 0, .slice none 0 0]) (t := 69) ?hr ?_; (case hd => rfl); (case hg => rfl); (case hr => first | (go_simp; done) | (go_simp; rfl)); intro gb4 hg w4 hbox hb; have q1_ := Aside0.mk hbox; have q2_ := Aside0.mk ((by rw [hg]; exact (below_size (by exact bel_ HB.out))) : w.heap.size ≤ gb4); have NB2_4 := Aside0.mk (nl_ BK2.out hg); have NB3_4 := Aside0.mk (nl_ BK3.out hg); have n0_ := Aside0.mk (below_step (by exact bel_ HB.out) hb); have m2_ := Aside0.mk (bb_ BK2.out hb); have m3_ := Aside0.mk (bb_ BK3.out hb); clear HB; have HB := n0_; clear n0_; clear BK2; have BK2 := m2_; clear m2_; clear BK3; have BK3 := m3_; clear m3_; have BK4 := q1_; have GE4 := q2_; clear q1_ q2_; clear hb hbox hg; obtain ⟨hcz2_0, hfz2_0, hcz2_1, hfz2_1⟩ := Yt.c2 BK2.out; obtain ⟨hcz3_0, hfz3_0, hcz3_1, hfz3_1, hcz3_2, hfz3_2⟩ := Yt.c3 BK3.out; obtain ⟨hcz4_0, hfz4_0, hcz4_1, hfz4_1⟩ := Yt.c2 BK4.out; have hnb2_4 := NB2_4.out; have hnc2_4 := Ne.symm NB2_4.out; have hnb3_4 := NB3_4.out; have hnc3_4 := Ne.symm NB3_4.out) | ((with_reducible refine gate_callee (f := 71) rfl ?_); refine goesL_ (some 18) rfl rfl Try.func71 (by kernel_rfl) rfl #[.agg #[.int .i64 H, .slice A l.length c]] rfl (by (try simp only [List.map_toArray, List.map_cons, List.map_nil]); first | done | rfl) ?_; (with_reducible refine (impl_Yard_own.calls H A c l H l _ ?side1 HC.out HF.out).mono ?_); (case side1 => exact Kd.C_below HR.out (by exact bel_ HB.out)); rintro e w18 ⟨v18, rfl, hS, hb⟩; refine ⟨_, rfl, ?_⟩; obtain ⟨Aw, cw, ew⟩ := Kd.S_slice hS; subst ew; have HSW := Aside0.mk (Kd.S_lower hS (below_size (by exact bel_ HB.out))); have n0_ := Aside0.mk (below_step (by exact bel_ HB.out) hb); have m2_ := Aside0.mk (bb_ BK2.out hb); have m3_ := Aside0.mk (bb_ BK3.out hb); have m4_ := Aside0.mk (bb_ BK4.out hb); clear HB; have HB := n0_; clear n0_; clear BK2; have BK2 := m2_; clear m2_; clear BK3; have BK3 := m3_; clear m3_; clear BK4; have BK4 := m4_; clear m4_; clear hb hS; obtain ⟨hcz2_0, hfz2_0, hcz2_1, hfz2_1⟩ := Yt.c2 BK2.out; obtain ⟨hcz3_0, hfz3_0, hcz3_1, hfz3_1, hcz3_2, hfz3_2⟩ := Yt.c3 BK3.out; obtain ⟨hcz4_0, hfz4_0, hcz4_1, hfz4_1⟩ := Yt.c2 BK4.out) | ((with_reducible refine gate_dst (N := 7) rfl ?_); refine box_event ?hg (N := 7) ?hd (cs := #[.int .i64 0, .slice none 0 0]) (t := 69) ?hr ?_; (case hd => rfl); (case hg => rfl); (case hr => first | (go_simp; done) | (go_simp; rfl)); intro gb7 hg w7 hbox hb; have q1_ := Aside0.mk hbox; have q2_ := Aside0.mk ((by rw [hg]; exact (below_size (by exact bel_ HB.out))) : w.heap.size ≤ gb7); have NB2_7 := Aside0.mk (nl_ BK2.out hg); have NB3_7 := Aside0.mk (nl_ BK3.out hg); have NB4_7 := Aside0.mk (nl_ BK4.out hg); have n0_ := Aside0.mk (below_step (by exact bel_ HB.out) hb); have m2_ := Aside0.mk (bb_ BK2.out hb); have m3_ := Aside0.mk (bb_ BK3.out hb); have m4_ := Aside0.mk (bb_ BK4.out hb); have mHSW_ := Aside0.mk (Yt.sb HSW.out hb); clear HB; have HB := n0_; clear n0_; clear BK2; have BK2 := m2_; clear m2_; clear BK3; have BK3 := m3_; clear m3_; clear BK4; have BK4 := m4_; clear m4_; clear HSW; have HSW := mHSW_; clear mHSW_; have BK7 := q1_; have GE7 := q2_; clear q1_ q2_; clear hb hbox hg; obtain ⟨hcz2_0, hfz2_0, hcz2_1, hfz2_1⟩ := Yt.c2 BK2.out; obtain ⟨hcz3_0, hfz3_0, hcz3_1, hfz3_1, hcz3_2, hfz3_2⟩ := Yt.c3 BK3.out; obtain ⟨hcz4_0, hfz4_0, hcz4_1, hfz4_1⟩ := Yt.c2 BK4.out; obtain ⟨hcz7_0, hfz7_0, hcz7_1, hfz7_1⟩ := Yt.c2 BK7.out; have hnb2_7 := NB2_7.out; have hnc2_7 := Ne.symm NB2_7.out; have hnb3_7 := NB3_7.out; have hnc3_7 := Ne.symm NB3_7.out; have hnb4_7 := NB4_7.out; have hnc4_7 := Ne.symm NB4_7.out))
  (try simp only [Act.put, List.setIfInBounds_toArray, List.set_cons_zero, List.set_cons_succ])
  have b7_ : ((w7.setCell ⟨gb7, 0, none⟩ (.int .i64 H)).setCell ⟨gb7, 1, none⟩ (.slice Aw l.length cw)).heap[gb7]? = some (.cells #[.int .i64 H, .slice Aw l.length cw] 69 (0, 0)) := blk_put (cs := #[.int .i64 H, .slice none 0 0]) (blk_put (cs := #[.int .i64 0, .slice none 0 0]) BK7.out 0 _ rfl) 1 _ rfl
  have b2_ : ((w7.setCell ⟨gb7, 0, none⟩ (.int .i64 H)).setCell ⟨gb7, 1, none⟩ (.slice Aw l.length cw)).heap[gb2]? = some (.cells #[.int .i64 H, .slice A l.length c] 69 (0, 0)) := blk_far (blk_far BK2.out NB2_7.out _) NB2_7.out _
  have b3_ : ((w7.setCell ⟨gb7, 0, none⟩ (.int .i64 H)).setCell ⟨gb7, 1, none⟩ (.slice Aw l.length cw)).heap[gb3]? = some (.cells #[.int .i64 1, .int .i64 b, .int .i64 s] 76 (0, 0)) := blk_far (blk_far BK3.out NB3_7.out _) NB3_7.out _
  have b4_ : ((w7.setCell ⟨gb7, 0, none⟩ (.int .i64 H)).setCell ⟨gb7, 1, none⟩ (.slice Aw l.length cw)).heap[gb4]? = some (.cells #[.int .i64 0, .slice none 0 0] 69 (0, 0)) := blk_far (blk_far BK4.out NB4_7.out _) NB4_7.out _
  have sHSW_ := Kd.S_mono (Kd.S_far (p := ⟨gb7, 1, none⟩) (Kd.S_far (p := ⟨gb7, 0, none⟩) (Kd.S_types HSW.out BK7.out (by decide)) (fun _ hk => hk.2) (.int .i64 H)) (fun _ hk => hk.2) (.slice Aw l.length cw)) (fun _ hk => hk.1)
  have hb_ : Below w.heap.size w ((w7.setCell ⟨gb7, 0, none⟩ (.int .i64 H)).setCell ⟨gb7, 1, none⟩ (.slice Aw l.length cw)) := below_set (below_set HB.out GE7.out) GE7.out
  try clear hcz2_0 hfz2_0 hcz2_1 hfz2_1
  try clear hcz3_0 hfz3_0 hcz3_1 hfz3_1 hcz3_2 hfz3_2
  try clear hcz4_0 hfz4_0 hcz4_1 hfz4_1
  try clear hcz7_0 hfz7_0 hcz7_1 hfz7_1
  try clear hnb2_3 hnc2_3 hnb2_4 hnc2_4 hnb2_7 hnc2_7 hnb3_4 hnc3_4 hnb3_7 hnc3_7 hnb4_7 hnc4_7
  generalize (w7.setCell ⟨gb7, 0, none⟩ (.int .i64 H)).setCell ⟨gb7, 1, none⟩ (.slice Aw l.length cw) = w8 at b2_ b3_ b4_ b7_ sHSW_ hb_ ⊢
  clear HB BK2 BK3 BK4 BK7 HSW
  have HB := Aside0.mk hb_
  clear hb_
  have BK2 := Aside0.mk b2_
  clear b2_
  have BK3 := Aside0.mk b3_
  clear b3_
  have BK4 := Aside0.mk b4_
  clear b4_
  have BK7 := Aside0.mk b7_
  clear b7_
  have HSW := Aside0.mk sHSW_
  clear sHSW_
  obtain ⟨hcz2_0, hfz2_0, hcz2_1, hfz2_1⟩ := Yt.c2 BK2.out; obtain ⟨hcz3_0, hfz3_0, hcz3_1, hfz3_1, hcz3_2, hfz3_2⟩ := Yt.c3 BK3.out; obtain ⟨hcz4_0, hfz4_0, hcz4_1, hfz4_1⟩ := Yt.c2 BK4.out; obtain ⟨hcz7_0, hfz7_0, hcz7_1, hfz7_1⟩ := Yt.c2 BK7.out
  have hnb2_3 := NB2_3.out; have hnc2_3 := Ne.symm NB2_3.out
  have hnb2_4 := NB2_4.out; have hnc2_4 := Ne.symm NB2_4.out
  have hnb2_7 := NB2_7.out; have hnc2_7 := Ne.symm NB2_7.out
  have hnb3_4 := NB3_4.out; have hnc3_4 := Ne.symm NB3_4.out
  have hnb3_7 := NB3_7.out; have hnc3_7 := Ne.symm NB3_7.out
  have hnb4_7 := NB4_7.out; have hnc4_7 := Ne.symm NB4_7.out
  go_wp2_with (first | ((with_reducible refine gate_callee (f := 32) rfl ?_); refine goesL_ (some 24) rfl rfl Try.func32 (by kernel_rfl) rfl #[.agg #[.int .i64 H, .slice A l.length c]] rfl (by (try simp only [List.map_toArray, List.map_cons, List.map_nil]); first | done | rfl) ?_; (with_reducible refine (impl_YardOk.calls H A c l true _ ?side1 HC.out HOK.out).mono ?_); (case side1 => exact Kd.C_below HR.out (by exact bel_ HB.out)); rintro e w24 ⟨rfl, hb⟩; refine ⟨_, rfl, ?_⟩; have n0_ := Aside0.mk (below_step (by exact bel_ HB.out) hb); have m2_ := Aside0.mk (bb_ BK2.out hb); have m3_ := Aside0.mk (bb_ BK3.out hb); have m4_ := Aside0.mk (bb_ BK4.out hb); have m7_ := Aside0.mk (bb_ BK7.out hb); have mHSW_ := Aside0.mk (Yt.sb HSW.out hb); clear HB; have HB := n0_; clear n0_; clear BK2; have BK2 := m2_; clear m2_; clear BK3; have BK3 := m3_; clear m3_; clear BK4; have BK4 := m4_; clear m4_; clear BK7; have BK7 := m7_; clear m7_; clear HSW; have HSW := mHSW_; clear mHSW_; clear hb; obtain ⟨hcz2_0, hfz2_0, hcz2_1, hfz2_1⟩ := Yt.c2 BK2.out; obtain ⟨hcz3_0, hfz3_0, hcz3_1, hfz3_1, hcz3_2, hfz3_2⟩ := Yt.c3 BK3.out; obtain ⟨hcz4_0, hfz4_0, hcz4_1, hfz4_1⟩ := Yt.c2 BK4.out; obtain ⟨hcz7_0, hfz7_0, hcz7_1, hfz7_1⟩ := Yt.c2 BK7.out) | (go_at_call 48; (with_reducible refine (impl_in.calls 1 1 3 true _ AK.out).mono ?_); rintro e w' ⟨rfl, ⟨nd, rfl⟩⟩; (try first | exact ⟨rfl, _, World.drewN_drewN _ _ _⟩ | exact ⟨rfl, _, Eq.trans (World.drewN_drewN _ _ _) (congrArg (World.drewN _) (Nat.add_assoc _ _ _))⟩)) | (go_at_call 48; (with_reducible refine (impl_in.calls s 0 nn true _ AST.out).mono ?_); rintro e w' ⟨rfl, ⟨nd, rfl⟩⟩; (try first | exact ⟨rfl, _, World.drewN_drewN _ _ _⟩ | exact ⟨rfl, _, Eq.trans (World.drewN_drewN _ _ _) (congrArg (World.drewN _) (Nat.add_assoc _ _ _))⟩)) | (go_at_call 72; (with_reducible refine (impl_idRight.calls b false _ AID.out).mono ?_); rintro e w' ⟨rfl, ⟨nd, rfl⟩⟩; (try first | exact ⟨rfl, _, World.drewN_drewN _ _ _⟩ | exact ⟨rfl, _, Eq.trans (World.drewN_drewN _ _ _) (congrArg (World.drewN _) (Nat.add_assoc _ _ _))⟩)))
  repeat (go_quiet (first | (go_at_call 48; (with_reducible refine (impl_in.calls 1 1 3 true _ AK.out).mono ?_); rintro e w' ⟨rfl, ⟨nd, rfl⟩⟩; (try first | exact ⟨rfl, _, World.drewN_drewN _ _ _⟩ | exact ⟨rfl, _, Eq.trans (World.drewN_drewN _ _ _) (congrArg (World.drewN _) (Nat.add_assoc _ _ _))⟩)) | (go_at_call 48; (with_reducible refine (impl_in.calls s 0 nn true _ AST.out).mono ?_); rintro e w' ⟨rfl, ⟨nd, rfl⟩⟩; (try first | exact ⟨rfl, _, World.drewN_drewN _ _ _⟩ | exact ⟨rfl, _, Eq.trans (World.drewN_drewN _ _ _) (congrArg (World.drewN _) (Nat.add_assoc _ _ _))⟩)) | (go_at_call 72; (with_reducible refine (impl_idRight.calls b false _ AID.out).mono ?_); rintro e w' ⟨rfl, ⟨nd, rfl⟩⟩; (try first | exact ⟨rfl, _, World.drewN_drewN _ _ _⟩ | exact ⟨rfl, _, Eq.trans (World.drewN_drewN _ _ _) (congrArg (World.drewN _) (Nat.add_assoc _ _ _))⟩))); try go_wp2_with (first | (go_at_call 48; (with_reducible refine (impl_in.calls 1 1 3 true _ AK.out).mono ?_); rintro e w' ⟨rfl, ⟨nd, rfl⟩⟩; (try first | exact ⟨rfl, _, World.drewN_drewN _ _ _⟩ | exact ⟨rfl, _, Eq.trans (World.drewN_drewN _ _ _) (congrArg (World.drewN _) (Nat.add_assoc _ _ _))⟩)) | (go_at_call 48; (with_reducible refine (impl_in.calls s 0 nn true _ AST.out).mono ?_); rintro e w' ⟨rfl, ⟨nd, rfl⟩⟩; (try first | exact ⟨rfl, _, World.drewN_drewN _ _ _⟩ | exact ⟨rfl, _, Eq.trans (World.drewN_drewN _ _ _) (congrArg (World.drewN _) (Nat.add_assoc _ _ _))⟩)) | (go_at_call 72; (with_reducible refine (impl_idRight.calls b false _ AID.out).mono ?_); rintro e w' ⟨rfl, ⟨nd, rfl⟩⟩; (try first | exact ⟨rfl, _, World.drewN_drewN _ _ _⟩ | exact ⟨rfl, _, Eq.trans (World.drewN_drewN _ _ _) (congrArg (World.drewN _) (Nat.add_assoc _ _ _))⟩))))
  refine bodyPost_ret (results_ctt rfl _ _ gb4 69 #[.int .i64 H, .slice Aw l.length cw] (0, 0) _ rfl (by (with_reducible repeat (first | refine blk_drewN ?_ _ | refine blk_drew ?_ | refine blk_alloc ?_ _)); refine blk_put (cs := #[.int .i64 H, .slice none 0 0]) ?_ 1 _ rfl; (with_reducible repeat (first | refine blk_drewN ?_ _ | refine blk_drew ?_ | refine blk_alloc ?_ _)); refine blk_put (cs := #[.int .i64 0, .slice none 0 0]) ?_ 0 _ rfl; (with_reducible repeat (first | refine blk_drewN ?_ _ | refine blk_drew ?_ | refine blk_alloc ?_ _)); exact BK4.out) Try.underlying69 rfl (by kernel_rfl)) rfl ?_
  exact ⟨_, rfl, by (with_reducible repeat (first | apply Kd.S_alloc | apply Kd.S_drewN | apply Kd.S_drew)); exact Kd.S_mono (Kd.S_far (p := ⟨gb4, 1, none⟩) (Kd.S_far (p := ⟨gb4, 0, none⟩) (Kd.S_types HSW.out BK4.out (by decide)) (fun _ hk => hk.2) _) (fun _ hk => hk.2) _) (fun _ hk => trivial), by exact bel_ HB.out⟩
set_option maxHeartbeats 8000000 in
set_option maxRecDepth 100000 in
theorem impl_DoYard.bad_stack3 (H : Int) (A : Option Addr) (c : Nat) (l : List (List Int)) (b s : Int) (w : World) (hr0 : Kd.C (Kd.slice 3 (Kd.int .i64)) w A l.length l) (hc0 : l.length ≤ c) (hs1 : l.length ≤ 1000) (hs2 : ∀ x ∈ l, x.length ≤ 100) (hok : impl_YardOk.f H l = some true) (hst : impl_in.f s 0 ((l.length : Int) - 1) = some false) :
    Calls Try.prog 31 #[.agg #[.int .i64 H, .slice A l.length c], .agg #[.int .i64 3, .int .i64 b, .int .i64 s]] w fun e w' => ∃ v0_ : Value, e = .returned (.tuple #[.agg #[.int .i64 H, v0_], .int .i64 0, .int .i64 1]) ∧ Kd.S (Kd.slice 3 (Kd.int .i64)) 28 w' w.heap.size (fun _ => True) v0_ l ∧ Below w.heap.size w w' := by
  have hu69 := Try.underlying69
  have hu76 := Try.underlying76
  have HR := Aside0.mk hr0
  have HC := Aside0.mk hc0
  have HS1 := Aside0.mk hs1
  have HS2 := Aside0.mk hs2
  have HF := Aside0.mk (show impl_Yard_own.f H l = some (H, l) from if_pos ⟨hs1, fun x hx => Nat.le_trans (hs2 x hx) (by omega)⟩)
  clear hr0 hc0 hs1 hs2
  obtain ⟨nn, hnn⟩ : ∃ nn : Int, nn = (l.length : Int) - 1 := ⟨_, rfl⟩
  have hwn : wrap64 ((l.length : Int) - 1) = nn := by rw [← hnn]; exact impl_YardOk.w64 (by omega) (by have := HS1.out; omega)
  have HNN := Aside0.mk hnn
  clear hnn
  have HOK := Aside0.mk hok
  clear hok
  have AK := Aside0.mk (show impl_in.f 3 1 3 = some true from rfl)
  rw [← HNN.out] at hst
  have AST := Aside0.mk hst
  clear hst
  have HB := Aside0.mk (Below.refl w.heap.size w)
  go_enter Try.func31, Try.ntmps31
  go_upto_region 2 with (first | ((with_reducible refine gate_dst (N := 2) rfl ?_); refine box_event ?hg (N := 2) ?hd (cs := #[.int .i64 H, .slice A l.length c]) (t := 69) ?hr ?_; (case hd => rfl); (case hg => rfl); (case hr => first | (go_simp; done) | (go_simp; rfl)); intro gb2 hg w2 hbox hb; have q1_ := Aside0.mk hbox; have q2_ := Aside0.mk ((by rw [hg]; exact (below_size (by exact bel_ HB.out))) : w.heap.size ≤ gb2); have n0_ := Aside0.mk (below_step (by exact bel_ HB.out) hb); clear HB; have HB := n0_; clear n0_; have BK2 := q1_; have GE2 := q2_; clear q1_ q2_; clear hb hbox hg; obtain ⟨hcz2_0, hfz2_0, hcz2_1, hfz2_1⟩ := Yt.c2 BK2.out) | ((with_reducible refine gate_dst (N := 3) rfl ?_); refine box_event ?hg (N := 3) ?hd (cs := #[.int .i64 3, .int .i64 b, .int .i64 s]) (t := 76) ?hr ?_; (case hd => rfl); (case hg => rfl); (case hr => first | (go_simp; done) | (go_simp; rfl)); intro gb3 hg w3 hbox hb; have q1_ := Aside0.mk hbox; have q2_ := Aside0.mk ((by rw [hg]; exact (below_size (by exact bel_ HB.out))) : w.heap.size ≤ gb3); have NB2_3 := Aside0.mk (nl_ BK2.out hg); have n0_ := Aside0.mk (below_step (by exact bel_ HB.out) hb); have m2_ := Aside0.mk (bb_ BK2.out hb); clear HB; have HB := n0_; clear n0_; clear BK2; have BK2 := m2_; clear m2_; have BK3 := q1_; have GE3 := q2_; clear q1_ q2_; clear hb hbox hg; obtain ⟨hcz2_0, hfz2_0, hcz2_1, hfz2_1⟩ := Yt.c2 BK2.out; obtain ⟨hcz3_0, hfz3_0, hcz3_1, hfz3_1, hcz3_2, hfz3_2⟩ := Yt.c3 BK3.out; have hnb2_3 := NB2_3.out; have hnc2_3 := Ne.symm NB2_3.out) | ((with_reducible refine gate_dst (N := 4) rfl ?_); refine box_event ?hg (N := 4) ?hd (cs := #[.int .i64 0, .slice none 0 0]) (t := 69) ?hr ?_; (case hd => rfl); (case hg => rfl); (case hr => first | (go_simp; done) | (go_simp; rfl)); intro gb4 hg w4 hbox hb; have q1_ := Aside0.mk hbox; have q2_ := Aside0.mk ((by rw [hg]; exact (below_size (by exact bel_ HB.out))) : w.heap.size ≤ gb4); have NB2_4 := Aside0.mk (nl_ BK2.out hg); have NB3_4 := Aside0.mk (nl_ BK3.out hg); have n0_ := Aside0.mk (below_step (by exact bel_ HB.out) hb); have m2_ := Aside0.mk (bb_ BK2.out hb); have m3_ := Aside0.mk (bb_ BK3.out hb); clear HB; have HB := n0_; clear n0_; clear BK2; have BK2 := m2_; clear m2_; clear BK3; have BK3 := m3_; clear m3_; have BK4 := q1_; have GE4 := q2_; clear q1_ q2_; clear hb hbox hg; obtain ⟨hcz2_0, hfz2_0, hcz2_1, hfz2_1⟩ := Yt.c2 BK2.out; obtain ⟨hcz3_0, hfz3_0, hcz3_1, hfz3_1, hcz3_2, hfz3_2⟩ := Yt.c3 BK3.out; obtain ⟨hcz4_0, hfz4_0, hcz4_1, hfz4_1⟩ := Yt.c2 BK4.out; have hnb2_4 := NB2_4.out; have hnc2_4 := Ne.symm NB2_4.out; have hnb3_4 := NB3_4.out; have hnc3_4 := Ne.symm NB3_4.out) | ((with_reducible refine gate_callee (f := 71) rfl ?_); refine goesL_ (some 18) rfl rfl Try.func71 (by kernel_rfl) rfl #[.agg #[.int .i64 H, .slice A l.length c]] rfl (by (try simp only [List.map_toArray, List.map_cons, List.map_nil]); first | done | rfl) ?_; (with_reducible refine (impl_Yard_own.calls H A c l H l _ ?side1 HC.out HF.out).mono ?_); (case side1 => exact Kd.C_below HR.out (by exact bel_ HB.out)); rintro e w18 ⟨v18, rfl, hS, hb⟩; refine ⟨_, rfl, ?_⟩; obtain ⟨Aw, cw, ew⟩ := Kd.S_slice hS; subst ew; have HSW := Aside0.mk (Kd.S_lower hS (below_size (by exact bel_ HB.out))); have n0_ := Aside0.mk (below_step (by exact bel_ HB.out) hb); have m2_ := Aside0.mk (bb_ BK2.out hb); have m3_ := Aside0.mk (bb_ BK3.out hb); have m4_ := Aside0.mk (bb_ BK4.out hb); clear HB; have HB := n0_; clear n0_; clear BK2; have BK2 := m2_; clear m2_; clear BK3; have BK3 := m3_; clear m3_; clear BK4; have BK4 := m4_; clear m4_; clear hb hS; obtain ⟨hcz2_0, hfz2_0, hcz2_1, hfz2_1⟩ := Yt.c2 BK2.out; obtain ⟨hcz3_0, hfz3_0, hcz3_1, hfz3_1, hcz3_2, hfz3_2⟩ := Yt.c3 BK3.out; obtain ⟨hcz4_0, hfz4_0, hcz4_1, hfz4_1⟩ := Yt.c2 BK4.out) | ((with_reducible refine gate_dst (N := 7) rfl ?_); refine box_event ?hg (N := 7) ?hd (cs := #[.int .i64 0, .slice none 0 0]) (t := 69) ?hr ?_; (case hd => rfl); (case hg => rfl); (case hr => first | (go_simp; done) | (go_simp; rfl)); intro gb7 hg w7 hbox hb; have q1_ := Aside0.mk hbox; have q2_ := Aside0.mk ((by rw [hg]; exact (below_size (by exact bel_ HB.out))) : w.heap.size ≤ gb7); have NB2_7 := Aside0.mk (nl_ BK2.out hg); have NB3_7 := Aside0.mk (nl_ BK3.out hg); have NB4_7 := Aside0.mk (nl_ BK4.out hg); have n0_ := Aside0.mk (below_step (by exact bel_ HB.out) hb); have m2_ := Aside0.mk (bb_ BK2.out hb); have m3_ := Aside0.mk (bb_ BK3.out hb); have m4_ := Aside0.mk (bb_ BK4.out hb); have mHSW_ := Aside0.mk (Yt.sb HSW.out hb); clear HB; have HB := n0_; clear n0_; clear BK2; have BK2 := m2_; clear m2_; clear BK3; have BK3 := m3_; clear m3_; clear BK4; have BK4 := m4_; clear m4_; clear HSW; have HSW := mHSW_; clear mHSW_; have BK7 := q1_; have GE7 := q2_; clear q1_ q2_; clear hb hbox hg; obtain ⟨hcz2_0, hfz2_0, hcz2_1, hfz2_1⟩ := Yt.c2 BK2.out; obtain ⟨hcz3_0, hfz3_0, hcz3_1, hfz3_1, hcz3_2, hfz3_2⟩ := Yt.c3 BK3.out; obtain ⟨hcz4_0, hfz4_0, hcz4_1, hfz4_1⟩ := Yt.c2 BK4.out; obtain ⟨hcz7_0, hfz7_0, hcz7_1, hfz7_1⟩ := Yt.c2 BK7.out; have hnb2_7 := NB2_7.out; have hnc2_7 := Ne.symm NB2_7.out; have hnb3_7 := NB3_7.out; have hnc3_7 := Ne.symm NB3_7.out; have hnb4_7 := NB4_7.out; have hnc4_7 := Ne.symm NB4_7.out))
  (try simp only [Act.put, List.setIfInBounds_toArray, List.set_cons_zero, List.set_cons_succ])
  have b7_ : ((w7.setCell ⟨gb7, 0, none⟩ (.int .i64 H)).setCell ⟨gb7, 1, none⟩ (.slice Aw l.length cw)).heap[gb7]? = some (.cells #[.int .i64 H, .slice Aw l.length cw] 69 (0, 0)) := blk_put (cs := #[.int .i64 H, .slice none 0 0]) (blk_put (cs := #[.int .i64 0, .slice none 0 0]) BK7.out 0 _ rfl) 1 _ rfl
  have b2_ : ((w7.setCell ⟨gb7, 0, none⟩ (.int .i64 H)).setCell ⟨gb7, 1, none⟩ (.slice Aw l.length cw)).heap[gb2]? = some (.cells #[.int .i64 H, .slice A l.length c] 69 (0, 0)) := blk_far (blk_far BK2.out NB2_7.out _) NB2_7.out _
  have b3_ : ((w7.setCell ⟨gb7, 0, none⟩ (.int .i64 H)).setCell ⟨gb7, 1, none⟩ (.slice Aw l.length cw)).heap[gb3]? = some (.cells #[.int .i64 3, .int .i64 b, .int .i64 s] 76 (0, 0)) := blk_far (blk_far BK3.out NB3_7.out _) NB3_7.out _
  have b4_ : ((w7.setCell ⟨gb7, 0, none⟩ (.int .i64 H)).setCell ⟨gb7, 1, none⟩ (.slice Aw l.length cw)).heap[gb4]? = some (.cells #[.int .i64 0, .slice none 0 0] 69 (0, 0)) := blk_far (blk_far BK4.out NB4_7.out _) NB4_7.out _
  have sHSW_ := Kd.S_mono (Kd.S_far (p := ⟨gb7, 1, none⟩) (Kd.S_far (p := ⟨gb7, 0, none⟩) (Kd.S_types HSW.out BK7.out (by decide)) (fun _ hk => hk.2) (.int .i64 H)) (fun _ hk => hk.2) (.slice Aw l.length cw)) (fun _ hk => hk.1)
  have hb_ : Below w.heap.size w ((w7.setCell ⟨gb7, 0, none⟩ (.int .i64 H)).setCell ⟨gb7, 1, none⟩ (.slice Aw l.length cw)) := below_set (below_set HB.out GE7.out) GE7.out
  try clear hcz2_0 hfz2_0 hcz2_1 hfz2_1
  try clear hcz3_0 hfz3_0 hcz3_1 hfz3_1 hcz3_2 hfz3_2
  try clear hcz4_0 hfz4_0 hcz4_1 hfz4_1
  try clear hcz7_0 hfz7_0 hcz7_1 hfz7_1
  try clear hnb2_3 hnc2_3 hnb2_4 hnc2_4 hnb2_7 hnc2_7 hnb3_4 hnc3_4 hnb3_7 hnc3_7 hnb4_7 hnc4_7
  generalize (w7.setCell ⟨gb7, 0, none⟩ (.int .i64 H)).setCell ⟨gb7, 1, none⟩ (.slice Aw l.length cw) = w8 at b2_ b3_ b4_ b7_ sHSW_ hb_ ⊢
  clear HB BK2 BK3 BK4 BK7 HSW
  have HB := Aside0.mk hb_
  clear hb_
  have BK2 := Aside0.mk b2_
  clear b2_
  have BK3 := Aside0.mk b3_
  clear b3_
  have BK4 := Aside0.mk b4_
  clear b4_
  have BK7 := Aside0.mk b7_
  clear b7_
  have HSW := Aside0.mk sHSW_
  clear sHSW_
  obtain ⟨hcz2_0, hfz2_0, hcz2_1, hfz2_1⟩ := Yt.c2 BK2.out; obtain ⟨hcz3_0, hfz3_0, hcz3_1, hfz3_1, hcz3_2, hfz3_2⟩ := Yt.c3 BK3.out; obtain ⟨hcz4_0, hfz4_0, hcz4_1, hfz4_1⟩ := Yt.c2 BK4.out; obtain ⟨hcz7_0, hfz7_0, hcz7_1, hfz7_1⟩ := Yt.c2 BK7.out
  have hnb2_3 := NB2_3.out; have hnc2_3 := Ne.symm NB2_3.out
  have hnb2_4 := NB2_4.out; have hnc2_4 := Ne.symm NB2_4.out
  have hnb2_7 := NB2_7.out; have hnc2_7 := Ne.symm NB2_7.out
  have hnb3_4 := NB3_4.out; have hnc3_4 := Ne.symm NB3_4.out
  have hnb3_7 := NB3_7.out; have hnc3_7 := Ne.symm NB3_7.out
  have hnb4_7 := NB4_7.out; have hnc4_7 := Ne.symm NB4_7.out
  go_wp2_with (first | ((with_reducible refine gate_callee (f := 32) rfl ?_); refine goesL_ (some 24) rfl rfl Try.func32 (by kernel_rfl) rfl #[.agg #[.int .i64 H, .slice A l.length c]] rfl (by (try simp only [List.map_toArray, List.map_cons, List.map_nil]); first | done | rfl) ?_; (with_reducible refine (impl_YardOk.calls H A c l true _ ?side1 HC.out HOK.out).mono ?_); (case side1 => exact Kd.C_below HR.out (by exact bel_ HB.out)); rintro e w24 ⟨rfl, hb⟩; refine ⟨_, rfl, ?_⟩; have n0_ := Aside0.mk (below_step (by exact bel_ HB.out) hb); have m2_ := Aside0.mk (bb_ BK2.out hb); have m3_ := Aside0.mk (bb_ BK3.out hb); have m4_ := Aside0.mk (bb_ BK4.out hb); have m7_ := Aside0.mk (bb_ BK7.out hb); have mHSW_ := Aside0.mk (Yt.sb HSW.out hb); clear HB; have HB := n0_; clear n0_; clear BK2; have BK2 := m2_; clear m2_; clear BK3; have BK3 := m3_; clear m3_; clear BK4; have BK4 := m4_; clear m4_; clear BK7; have BK7 := m7_; clear m7_; clear HSW; have HSW := mHSW_; clear mHSW_; clear hb; obtain ⟨hcz2_0, hfz2_0, hcz2_1, hfz2_1⟩ := Yt.c2 BK2.out; obtain ⟨hcz3_0, hfz3_0, hcz3_1, hfz3_1, hcz3_2, hfz3_2⟩ := Yt.c3 BK3.out; obtain ⟨hcz4_0, hfz4_0, hcz4_1, hfz4_1⟩ := Yt.c2 BK4.out; obtain ⟨hcz7_0, hfz7_0, hcz7_1, hfz7_1⟩ := Yt.c2 BK7.out) | (go_at_call 48; (with_reducible refine (impl_in.calls 3 1 3 true _ AK.out).mono ?_); rintro e w' ⟨rfl, ⟨nd, rfl⟩⟩; (try first | exact ⟨rfl, _, World.drewN_drewN _ _ _⟩ | exact ⟨rfl, _, Eq.trans (World.drewN_drewN _ _ _) (congrArg (World.drewN _) (Nat.add_assoc _ _ _))⟩)) | (go_at_call 48; (with_reducible refine (impl_in.calls s 0 nn false _ AST.out).mono ?_); rintro e w' ⟨rfl, ⟨nd, rfl⟩⟩; (try first | exact ⟨rfl, _, World.drewN_drewN _ _ _⟩ | exact ⟨rfl, _, Eq.trans (World.drewN_drewN _ _ _) (congrArg (World.drewN _) (Nat.add_assoc _ _ _))⟩)))
  repeat (go_quiet (first | (go_at_call 48; (with_reducible refine (impl_in.calls 3 1 3 true _ AK.out).mono ?_); rintro e w' ⟨rfl, ⟨nd, rfl⟩⟩; (try first | exact ⟨rfl, _, World.drewN_drewN _ _ _⟩ | exact ⟨rfl, _, Eq.trans (World.drewN_drewN _ _ _) (congrArg (World.drewN _) (Nat.add_assoc _ _ _))⟩)) | (go_at_call 48; (with_reducible refine (impl_in.calls s 0 nn false _ AST.out).mono ?_); rintro e w' ⟨rfl, ⟨nd, rfl⟩⟩; (try first | exact ⟨rfl, _, World.drewN_drewN _ _ _⟩ | exact ⟨rfl, _, Eq.trans (World.drewN_drewN _ _ _) (congrArg (World.drewN _) (Nat.add_assoc _ _ _))⟩))); try go_wp2_with (first | (go_at_call 48; (with_reducible refine (impl_in.calls 3 1 3 true _ AK.out).mono ?_); rintro e w' ⟨rfl, ⟨nd, rfl⟩⟩; (try first | exact ⟨rfl, _, World.drewN_drewN _ _ _⟩ | exact ⟨rfl, _, Eq.trans (World.drewN_drewN _ _ _) (congrArg (World.drewN _) (Nat.add_assoc _ _ _))⟩)) | (go_at_call 48; (with_reducible refine (impl_in.calls s 0 nn false _ AST.out).mono ?_); rintro e w' ⟨rfl, ⟨nd, rfl⟩⟩; (try first | exact ⟨rfl, _, World.drewN_drewN _ _ _⟩ | exact ⟨rfl, _, Eq.trans (World.drewN_drewN _ _ _) (congrArg (World.drewN _) (Nat.add_assoc _ _ _))⟩))))
  refine bodyPost_ret (results_ctt rfl _ _ gb4 69 #[.int .i64 H, .slice Aw l.length cw] (0, 0) _ rfl (by (with_reducible repeat (first | refine blk_drewN ?_ _ | refine blk_drew ?_ | refine blk_alloc ?_ _)); refine blk_put (cs := #[.int .i64 H, .slice none 0 0]) ?_ 1 _ rfl; (with_reducible repeat (first | refine blk_drewN ?_ _ | refine blk_drew ?_ | refine blk_alloc ?_ _)); refine blk_put (cs := #[.int .i64 0, .slice none 0 0]) ?_ 0 _ rfl; (with_reducible repeat (first | refine blk_drewN ?_ _ | refine blk_drew ?_ | refine blk_alloc ?_ _)); exact BK4.out) Try.underlying69 rfl (by kernel_rfl)) rfl ?_
  exact ⟨_, rfl, by (with_reducible repeat (first | apply Kd.S_alloc | apply Kd.S_drewN | apply Kd.S_drew)); exact Kd.S_mono (Kd.S_far (p := ⟨gb4, 1, none⟩) (Kd.S_far (p := ⟨gb4, 0, none⟩) (Kd.S_types HSW.out BK4.out (by decide)) (fun _ hk => hk.2) _) (fun _ hk => hk.2) _) (fun _ hk => trivial), by exact bel_ HB.out⟩
set_option maxHeartbeats 8000000 in
set_option maxRecDepth 100000 in
theorem impl_DoYard.bad_box (H : Int) (A : Option Addr) (c : Nat) (l : List (List Int)) (b s : Int) (w : World) (hr0 : Kd.C (Kd.slice 3 (Kd.int .i64)) w A l.length l) (hc0 : l.length ≤ c) (hs1 : l.length ≤ 1000) (hs2 : ∀ x ∈ l, x.length ≤ 100) (hok : impl_YardOk.f H l = some true) (hst : impl_in.f s 0 ((l.length : Int) - 1) = some true) (hbx : impl_in.f b 0 ((l.length : Int) - 1) = some false) :
    Calls Try.prog 31 #[.agg #[.int .i64 H, .slice A l.length c], .agg #[.int .i64 3, .int .i64 b, .int .i64 s]] w fun e w' => ∃ v0_ : Value, e = .returned (.tuple #[.agg #[.int .i64 H, v0_], .int .i64 0, .int .i64 1]) ∧ Kd.S (Kd.slice 3 (Kd.int .i64)) 28 w' w.heap.size (fun _ => True) v0_ l ∧ Below w.heap.size w w' := by
  have hu69 := Try.underlying69
  have hu76 := Try.underlying76
  have HR := Aside0.mk hr0
  have HC := Aside0.mk hc0
  have HS1 := Aside0.mk hs1
  have HS2 := Aside0.mk hs2
  have HF := Aside0.mk (show impl_Yard_own.f H l = some (H, l) from if_pos ⟨hs1, fun x hx => Nat.le_trans (hs2 x hx) (by omega)⟩)
  clear hr0 hc0 hs1 hs2
  obtain ⟨nn, hnn⟩ : ∃ nn : Int, nn = (l.length : Int) - 1 := ⟨_, rfl⟩
  have hwn : wrap64 ((l.length : Int) - 1) = nn := by rw [← hnn]; exact impl_YardOk.w64 (by omega) (by have := HS1.out; omega)
  have HNN := Aside0.mk hnn
  clear hnn
  have HOK := Aside0.mk hok
  clear hok
  have AK := Aside0.mk (show impl_in.f 3 1 3 = some true from rfl)
  rw [← HNN.out] at hst
  have AST := Aside0.mk hst
  clear hst
  rw [← HNN.out] at hbx
  have ABX := Aside0.mk hbx
  clear hbx
  have HB := Aside0.mk (Below.refl w.heap.size w)
  go_enter Try.func31, Try.ntmps31
  go_upto_region 2 with (first | ((with_reducible refine gate_dst (N := 2) rfl ?_); refine box_event ?hg (N := 2) ?hd (cs := #[.int .i64 H, .slice A l.length c]) (t := 69) ?hr ?_; (case hd => rfl); (case hg => rfl); (case hr => first | (go_simp; done) | (go_simp; rfl)); intro gb2 hg w2 hbox hb; have q1_ := Aside0.mk hbox; have q2_ := Aside0.mk ((by rw [hg]; exact (below_size (by exact bel_ HB.out))) : w.heap.size ≤ gb2); have n0_ := Aside0.mk (below_step (by exact bel_ HB.out) hb); clear HB; have HB := n0_; clear n0_; have BK2 := q1_; have GE2 := q2_; clear q1_ q2_; clear hb hbox hg; obtain ⟨hcz2_0, hfz2_0, hcz2_1, hfz2_1⟩ := Yt.c2 BK2.out) | ((with_reducible refine gate_dst (N := 3) rfl ?_); refine box_event ?hg (N := 3) ?hd (cs := #[.int .i64 3, .int .i64 b, .int .i64 s]) (t := 76) ?hr ?_; (case hd => rfl); (case hg => rfl); (case hr => first | (go_simp; done) | (go_simp; rfl)); intro gb3 hg w3 hbox hb; have q1_ := Aside0.mk hbox; have q2_ := Aside0.mk ((by rw [hg]; exact (below_size (by exact bel_ HB.out))) : w.heap.size ≤ gb3); have NB2_3 := Aside0.mk (nl_ BK2.out hg); have n0_ := Aside0.mk (below_step (by exact bel_ HB.out) hb); have m2_ := Aside0.mk (bb_ BK2.out hb); clear HB; have HB := n0_; clear n0_; clear BK2; have BK2 := m2_; clear m2_; have BK3 := q1_; have GE3 := q2_; clear q1_ q2_; clear hb hbox hg; obtain ⟨hcz2_0, hfz2_0, hcz2_1, hfz2_1⟩ := Yt.c2 BK2.out; obtain ⟨hcz3_0, hfz3_0, hcz3_1, hfz3_1, hcz3_2, hfz3_2⟩ := Yt.c3 BK3.out; have hnb2_3 := NB2_3.out; have hnc2_3 := Ne.symm NB2_3.out) | ((with_reducible refine gate_dst (N := 4) rfl ?_); refine box_event ?hg (N := 4) ?hd (cs := #[.int .i64 0, .slice none 0 0]) (t := 69) ?hr ?_; (case hd => rfl); (case hg => rfl); (case hr => first | (go_simp; done) | (go_simp; rfl)); intro gb4 hg w4 hbox hb; have q1_ := Aside0.mk hbox; have q2_ := Aside0.mk ((by rw [hg]; exact (below_size (by exact bel_ HB.out))) : w.heap.size ≤ gb4); have NB2_4 := Aside0.mk (nl_ BK2.out hg); have NB3_4 := Aside0.mk (nl_ BK3.out hg); have n0_ := Aside0.mk (below_step (by exact bel_ HB.out) hb); have m2_ := Aside0.mk (bb_ BK2.out hb); have m3_ := Aside0.mk (bb_ BK3.out hb); clear HB; have HB := n0_; clear n0_; clear BK2; have BK2 := m2_; clear m2_; clear BK3; have BK3 := m3_; clear m3_; have BK4 := q1_; have GE4 := q2_; clear q1_ q2_; clear hb hbox hg; obtain ⟨hcz2_0, hfz2_0, hcz2_1, hfz2_1⟩ := Yt.c2 BK2.out; obtain ⟨hcz3_0, hfz3_0, hcz3_1, hfz3_1, hcz3_2, hfz3_2⟩ := Yt.c3 BK3.out; obtain ⟨hcz4_0, hfz4_0, hcz4_1, hfz4_1⟩ := Yt.c2 BK4.out; have hnb2_4 := NB2_4.out; have hnc2_4 := Ne.symm NB2_4.out; have hnb3_4 := NB3_4.out; have hnc3_4 := Ne.symm NB3_4.out) | ((with_reducible refine gate_callee (f := 71) rfl ?_); refine goesL_ (some 18) rfl rfl Try.func71 (by kernel_rfl) rfl #[.agg #[.int .i64 H, .slice A l.length c]] rfl (by (try simp only [List.map_toArray, List.map_cons, List.map_nil]); first | done | rfl) ?_; (with_reducible refine (impl_Yard_own.calls H A c l H l _ ?side1 HC.out HF.out).mono ?_); (case side1 => exact Kd.C_below HR.out (by exact bel_ HB.out)); rintro e w18 ⟨v18, rfl, hS, hb⟩; refine ⟨_, rfl, ?_⟩; obtain ⟨Aw, cw, ew⟩ := Kd.S_slice hS; subst ew; have HSW := Aside0.mk (Kd.S_lower hS (below_size (by exact bel_ HB.out))); have n0_ := Aside0.mk (below_step (by exact bel_ HB.out) hb); have m2_ := Aside0.mk (bb_ BK2.out hb); have m3_ := Aside0.mk (bb_ BK3.out hb); have m4_ := Aside0.mk (bb_ BK4.out hb); clear HB; have HB := n0_; clear n0_; clear BK2; have BK2 := m2_; clear m2_; clear BK3; have BK3 := m3_; clear m3_; clear BK4; have BK4 := m4_; clear m4_; clear hb hS; obtain ⟨hcz2_0, hfz2_0, hcz2_1, hfz2_1⟩ := Yt.c2 BK2.out; obtain ⟨hcz3_0, hfz3_0, hcz3_1, hfz3_1, hcz3_2, hfz3_2⟩ := Yt.c3 BK3.out; obtain ⟨hcz4_0, hfz4_0, hcz4_1, hfz4_1⟩ := Yt.c2 BK4.out) | ((with_reducible refine gate_dst (N := 7) rfl ?_); refine box_event ?hg (N := 7) ?hd (cs := #[.int .i64 0, .slice none 0 0]) (t := 69) ?hr ?_; (case hd => rfl); (case hg => rfl); (case hr => first | (go_simp; done) | (go_simp; rfl)); intro gb7 hg w7 hbox hb; have q1_ := Aside0.mk hbox; have q2_ := Aside0.mk ((by rw [hg]; exact (below_size (by exact bel_ HB.out))) : w.heap.size ≤ gb7); have NB2_7 := Aside0.mk (nl_ BK2.out hg); have NB3_7 := Aside0.mk (nl_ BK3.out hg); have NB4_7 := Aside0.mk (nl_ BK4.out hg); have n0_ := Aside0.mk (below_step (by exact bel_ HB.out) hb); have m2_ := Aside0.mk (bb_ BK2.out hb); have m3_ := Aside0.mk (bb_ BK3.out hb); have m4_ := Aside0.mk (bb_ BK4.out hb); have mHSW_ := Aside0.mk (Yt.sb HSW.out hb); clear HB; have HB := n0_; clear n0_; clear BK2; have BK2 := m2_; clear m2_; clear BK3; have BK3 := m3_; clear m3_; clear BK4; have BK4 := m4_; clear m4_; clear HSW; have HSW := mHSW_; clear mHSW_; have BK7 := q1_; have GE7 := q2_; clear q1_ q2_; clear hb hbox hg; obtain ⟨hcz2_0, hfz2_0, hcz2_1, hfz2_1⟩ := Yt.c2 BK2.out; obtain ⟨hcz3_0, hfz3_0, hcz3_1, hfz3_1, hcz3_2, hfz3_2⟩ := Yt.c3 BK3.out; obtain ⟨hcz4_0, hfz4_0, hcz4_1, hfz4_1⟩ := Yt.c2 BK4.out; obtain ⟨hcz7_0, hfz7_0, hcz7_1, hfz7_1⟩ := Yt.c2 BK7.out; have hnb2_7 := NB2_7.out; have hnc2_7 := Ne.symm NB2_7.out; have hnb3_7 := NB3_7.out; have hnc3_7 := Ne.symm NB3_7.out; have hnb4_7 := NB4_7.out; have hnc4_7 := Ne.symm NB4_7.out))
  (try simp only [Act.put, List.setIfInBounds_toArray, List.set_cons_zero, List.set_cons_succ])
  have b7_ : ((w7.setCell ⟨gb7, 0, none⟩ (.int .i64 H)).setCell ⟨gb7, 1, none⟩ (.slice Aw l.length cw)).heap[gb7]? = some (.cells #[.int .i64 H, .slice Aw l.length cw] 69 (0, 0)) := blk_put (cs := #[.int .i64 H, .slice none 0 0]) (blk_put (cs := #[.int .i64 0, .slice none 0 0]) BK7.out 0 _ rfl) 1 _ rfl
  have b2_ : ((w7.setCell ⟨gb7, 0, none⟩ (.int .i64 H)).setCell ⟨gb7, 1, none⟩ (.slice Aw l.length cw)).heap[gb2]? = some (.cells #[.int .i64 H, .slice A l.length c] 69 (0, 0)) := blk_far (blk_far BK2.out NB2_7.out _) NB2_7.out _
  have b3_ : ((w7.setCell ⟨gb7, 0, none⟩ (.int .i64 H)).setCell ⟨gb7, 1, none⟩ (.slice Aw l.length cw)).heap[gb3]? = some (.cells #[.int .i64 3, .int .i64 b, .int .i64 s] 76 (0, 0)) := blk_far (blk_far BK3.out NB3_7.out _) NB3_7.out _
  have b4_ : ((w7.setCell ⟨gb7, 0, none⟩ (.int .i64 H)).setCell ⟨gb7, 1, none⟩ (.slice Aw l.length cw)).heap[gb4]? = some (.cells #[.int .i64 0, .slice none 0 0] 69 (0, 0)) := blk_far (blk_far BK4.out NB4_7.out _) NB4_7.out _
  have sHSW_ := Kd.S_mono (Kd.S_far (p := ⟨gb7, 1, none⟩) (Kd.S_far (p := ⟨gb7, 0, none⟩) (Kd.S_types HSW.out BK7.out (by decide)) (fun _ hk => hk.2) (.int .i64 H)) (fun _ hk => hk.2) (.slice Aw l.length cw)) (fun _ hk => hk.1)
  have hb_ : Below w.heap.size w ((w7.setCell ⟨gb7, 0, none⟩ (.int .i64 H)).setCell ⟨gb7, 1, none⟩ (.slice Aw l.length cw)) := below_set (below_set HB.out GE7.out) GE7.out
  try clear hcz2_0 hfz2_0 hcz2_1 hfz2_1
  try clear hcz3_0 hfz3_0 hcz3_1 hfz3_1 hcz3_2 hfz3_2
  try clear hcz4_0 hfz4_0 hcz4_1 hfz4_1
  try clear hcz7_0 hfz7_0 hcz7_1 hfz7_1
  try clear hnb2_3 hnc2_3 hnb2_4 hnc2_4 hnb2_7 hnc2_7 hnb3_4 hnc3_4 hnb3_7 hnc3_7 hnb4_7 hnc4_7
  generalize (w7.setCell ⟨gb7, 0, none⟩ (.int .i64 H)).setCell ⟨gb7, 1, none⟩ (.slice Aw l.length cw) = w8 at b2_ b3_ b4_ b7_ sHSW_ hb_ ⊢
  clear HB BK2 BK3 BK4 BK7 HSW
  have HB := Aside0.mk hb_
  clear hb_
  have BK2 := Aside0.mk b2_
  clear b2_
  have BK3 := Aside0.mk b3_
  clear b3_
  have BK4 := Aside0.mk b4_
  clear b4_
  have BK7 := Aside0.mk b7_
  clear b7_
  have HSW := Aside0.mk sHSW_
  clear sHSW_
  obtain ⟨hcz2_0, hfz2_0, hcz2_1, hfz2_1⟩ := Yt.c2 BK2.out; obtain ⟨hcz3_0, hfz3_0, hcz3_1, hfz3_1, hcz3_2, hfz3_2⟩ := Yt.c3 BK3.out; obtain ⟨hcz4_0, hfz4_0, hcz4_1, hfz4_1⟩ := Yt.c2 BK4.out; obtain ⟨hcz7_0, hfz7_0, hcz7_1, hfz7_1⟩ := Yt.c2 BK7.out
  have hnb2_3 := NB2_3.out; have hnc2_3 := Ne.symm NB2_3.out
  have hnb2_4 := NB2_4.out; have hnc2_4 := Ne.symm NB2_4.out
  have hnb2_7 := NB2_7.out; have hnc2_7 := Ne.symm NB2_7.out
  have hnb3_4 := NB3_4.out; have hnc3_4 := Ne.symm NB3_4.out
  have hnb3_7 := NB3_7.out; have hnc3_7 := Ne.symm NB3_7.out
  have hnb4_7 := NB4_7.out; have hnc4_7 := Ne.symm NB4_7.out
  go_wp2_with (first | ((with_reducible refine gate_callee (f := 32) rfl ?_); refine goesL_ (some 24) rfl rfl Try.func32 (by kernel_rfl) rfl #[.agg #[.int .i64 H, .slice A l.length c]] rfl (by (try simp only [List.map_toArray, List.map_cons, List.map_nil]); first | done | rfl) ?_; (with_reducible refine (impl_YardOk.calls H A c l true _ ?side1 HC.out HOK.out).mono ?_); (case side1 => exact Kd.C_below HR.out (by exact bel_ HB.out)); rintro e w24 ⟨rfl, hb⟩; refine ⟨_, rfl, ?_⟩; have n0_ := Aside0.mk (below_step (by exact bel_ HB.out) hb); have m2_ := Aside0.mk (bb_ BK2.out hb); have m3_ := Aside0.mk (bb_ BK3.out hb); have m4_ := Aside0.mk (bb_ BK4.out hb); have m7_ := Aside0.mk (bb_ BK7.out hb); have mHSW_ := Aside0.mk (Yt.sb HSW.out hb); clear HB; have HB := n0_; clear n0_; clear BK2; have BK2 := m2_; clear m2_; clear BK3; have BK3 := m3_; clear m3_; clear BK4; have BK4 := m4_; clear m4_; clear BK7; have BK7 := m7_; clear m7_; clear HSW; have HSW := mHSW_; clear mHSW_; clear hb; obtain ⟨hcz2_0, hfz2_0, hcz2_1, hfz2_1⟩ := Yt.c2 BK2.out; obtain ⟨hcz3_0, hfz3_0, hcz3_1, hfz3_1, hcz3_2, hfz3_2⟩ := Yt.c3 BK3.out; obtain ⟨hcz4_0, hfz4_0, hcz4_1, hfz4_1⟩ := Yt.c2 BK4.out; obtain ⟨hcz7_0, hfz7_0, hcz7_1, hfz7_1⟩ := Yt.c2 BK7.out) | (go_at_call 48; (with_reducible refine (impl_in.calls 3 1 3 true _ AK.out).mono ?_); rintro e w' ⟨rfl, ⟨nd, rfl⟩⟩; (try first | exact ⟨rfl, _, World.drewN_drewN _ _ _⟩ | exact ⟨rfl, _, Eq.trans (World.drewN_drewN _ _ _) (congrArg (World.drewN _) (Nat.add_assoc _ _ _))⟩)) | (go_at_call 48; (with_reducible refine (impl_in.calls s 0 nn true _ AST.out).mono ?_); rintro e w' ⟨rfl, ⟨nd, rfl⟩⟩; (try first | exact ⟨rfl, _, World.drewN_drewN _ _ _⟩ | exact ⟨rfl, _, Eq.trans (World.drewN_drewN _ _ _) (congrArg (World.drewN _) (Nat.add_assoc _ _ _))⟩)) | (go_at_call 48; (with_reducible refine (impl_in.calls b 0 nn false _ ABX.out).mono ?_); rintro e w' ⟨rfl, ⟨nd, rfl⟩⟩; (try first | exact ⟨rfl, _, World.drewN_drewN _ _ _⟩ | exact ⟨rfl, _, Eq.trans (World.drewN_drewN _ _ _) (congrArg (World.drewN _) (Nat.add_assoc _ _ _))⟩)))
  repeat (go_quiet (first | (go_at_call 48; (with_reducible refine (impl_in.calls 3 1 3 true _ AK.out).mono ?_); rintro e w' ⟨rfl, ⟨nd, rfl⟩⟩; (try first | exact ⟨rfl, _, World.drewN_drewN _ _ _⟩ | exact ⟨rfl, _, Eq.trans (World.drewN_drewN _ _ _) (congrArg (World.drewN _) (Nat.add_assoc _ _ _))⟩)) | (go_at_call 48; (with_reducible refine (impl_in.calls s 0 nn true _ AST.out).mono ?_); rintro e w' ⟨rfl, ⟨nd, rfl⟩⟩; (try first | exact ⟨rfl, _, World.drewN_drewN _ _ _⟩ | exact ⟨rfl, _, Eq.trans (World.drewN_drewN _ _ _) (congrArg (World.drewN _) (Nat.add_assoc _ _ _))⟩)) | (go_at_call 48; (with_reducible refine (impl_in.calls b 0 nn false _ ABX.out).mono ?_); rintro e w' ⟨rfl, ⟨nd, rfl⟩⟩; (try first | exact ⟨rfl, _, World.drewN_drewN _ _ _⟩ | exact ⟨rfl, _, Eq.trans (World.drewN_drewN _ _ _) (congrArg (World.drewN _) (Nat.add_assoc _ _ _))⟩))); try go_wp2_with (first | (go_at_call 48; (with_reducible refine (impl_in.calls 3 1 3 true _ AK.out).mono ?_); rintro e w' ⟨rfl, ⟨nd, rfl⟩⟩; (try first | exact ⟨rfl, _, World.drewN_drewN _ _ _⟩ | exact ⟨rfl, _, Eq.trans (World.drewN_drewN _ _ _) (congrArg (World.drewN _) (Nat.add_assoc _ _ _))⟩)) | (go_at_call 48; (with_reducible refine (impl_in.calls s 0 nn true _ AST.out).mono ?_); rintro e w' ⟨rfl, ⟨nd, rfl⟩⟩; (try first | exact ⟨rfl, _, World.drewN_drewN _ _ _⟩ | exact ⟨rfl, _, Eq.trans (World.drewN_drewN _ _ _) (congrArg (World.drewN _) (Nat.add_assoc _ _ _))⟩)) | (go_at_call 48; (with_reducible refine (impl_in.calls b 0 nn false _ ABX.out).mono ?_); rintro e w' ⟨rfl, ⟨nd, rfl⟩⟩; (try first | exact ⟨rfl, _, World.drewN_drewN _ _ _⟩ | exact ⟨rfl, _, Eq.trans (World.drewN_drewN _ _ _) (congrArg (World.drewN _) (Nat.add_assoc _ _ _))⟩))))
  refine bodyPost_ret (results_ctt rfl _ _ gb4 69 #[.int .i64 H, .slice Aw l.length cw] (0, 0) _ rfl (by (with_reducible repeat (first | refine blk_drewN ?_ _ | refine blk_drew ?_ | refine blk_alloc ?_ _)); refine blk_put (cs := #[.int .i64 H, .slice none 0 0]) ?_ 1 _ rfl; (with_reducible repeat (first | refine blk_drewN ?_ _ | refine blk_drew ?_ | refine blk_alloc ?_ _)); refine blk_put (cs := #[.int .i64 0, .slice none 0 0]) ?_ 0 _ rfl; (with_reducible repeat (first | refine blk_drewN ?_ _ | refine blk_drew ?_ | refine blk_alloc ?_ _)); exact BK4.out) Try.underlying69 rfl (by kernel_rfl)) rfl ?_
  exact ⟨_, rfl, by (with_reducible repeat (first | apply Kd.S_alloc | apply Kd.S_drewN | apply Kd.S_drew)); exact Kd.S_mono (Kd.S_far (p := ⟨gb4, 1, none⟩) (Kd.S_far (p := ⟨gb4, 0, none⟩) (Kd.S_types HSW.out BK4.out (by decide)) (fun _ hk => hk.2) _) (fun _ hk => hk.2) _) (fun _ hk => trivial), by exact bel_ HB.out⟩
set_option maxHeartbeats 8000000 in
set_option maxRecDepth 100000 in
theorem impl_DoYard.bad_same (H : Int) (A : Option Addr) (c : Nat) (l : List (List Int)) (b s : Int) (w : World) (hr0 : Kd.C (Kd.slice 3 (Kd.int .i64)) w A l.length l) (hc0 : l.length ≤ c) (hs1 : l.length ≤ 1000) (hs2 : ∀ x ∈ l, x.length ≤ 100) (hok : impl_YardOk.f H l = some true) (hst : impl_in.f s 0 ((l.length : Int) - 1) = some true) (hbx : impl_in.f b 0 ((l.length : Int) - 1) = some true) (hbs : (b == s) = true) :
    Calls Try.prog 31 #[.agg #[.int .i64 H, .slice A l.length c], .agg #[.int .i64 3, .int .i64 b, .int .i64 s]] w fun e w' => ∃ v0_ : Value, e = .returned (.tuple #[.agg #[.int .i64 H, v0_], .int .i64 0, .int .i64 1]) ∧ Kd.S (Kd.slice 3 (Kd.int .i64)) 28 w' w.heap.size (fun _ => True) v0_ l ∧ Below w.heap.size w w' := by
  have hu69 := Try.underlying69
  have hu76 := Try.underlying76
  have HR := Aside0.mk hr0
  have HC := Aside0.mk hc0
  have HS1 := Aside0.mk hs1
  have HS2 := Aside0.mk hs2
  have HF := Aside0.mk (show impl_Yard_own.f H l = some (H, l) from if_pos ⟨hs1, fun x hx => Nat.le_trans (hs2 x hx) (by omega)⟩)
  clear hr0 hc0 hs1 hs2
  obtain ⟨nn, hnn⟩ : ∃ nn : Int, nn = (l.length : Int) - 1 := ⟨_, rfl⟩
  have hwn : wrap64 ((l.length : Int) - 1) = nn := by rw [← hnn]; exact impl_YardOk.w64 (by omega) (by have := HS1.out; omega)
  have HNN := Aside0.mk hnn
  clear hnn
  have HOK := Aside0.mk hok
  clear hok
  have AK := Aside0.mk (show impl_in.f 3 1 3 = some true from rfl)
  rw [← HNN.out] at hst
  have AST := Aside0.mk hst
  clear hst
  rw [← HNN.out] at hbx
  have ABX := Aside0.mk hbx
  clear hbx
  have HB := Aside0.mk (Below.refl w.heap.size w)
  go_enter Try.func31, Try.ntmps31
  go_upto_region 2 with (first | ((with_reducible refine gate_dst (N := 2) rfl ?_); refine box_event ?hg (N := 2) ?hd (cs := #[.int .i64 H, .slice A l.length c]) (t := 69) ?hr ?_; (case hd => rfl); (case hg => rfl); (case hr => first | (go_simp; done) | (go_simp; rfl)); intro gb2 hg w2 hbox hb; have q1_ := Aside0.mk hbox; have q2_ := Aside0.mk ((by rw [hg]; exact (below_size (by exact bel_ HB.out))) : w.heap.size ≤ gb2); have n0_ := Aside0.mk (below_step (by exact bel_ HB.out) hb); clear HB; have HB := n0_; clear n0_; have BK2 := q1_; have GE2 := q2_; clear q1_ q2_; clear hb hbox hg; obtain ⟨hcz2_0, hfz2_0, hcz2_1, hfz2_1⟩ := Yt.c2 BK2.out) | ((with_reducible refine gate_dst (N := 3) rfl ?_); refine box_event ?hg (N := 3) ?hd (cs := #[.int .i64 3, .int .i64 b, .int .i64 s]) (t := 76) ?hr ?_; (case hd => rfl); (case hg => rfl); (case hr => first | (go_simp; done) | (go_simp; rfl)); intro gb3 hg w3 hbox hb; have q1_ := Aside0.mk hbox; have q2_ := Aside0.mk ((by rw [hg]; exact (below_size (by exact bel_ HB.out))) : w.heap.size ≤ gb3); have NB2_3 := Aside0.mk (nl_ BK2.out hg); have n0_ := Aside0.mk (below_step (by exact bel_ HB.out) hb); have m2_ := Aside0.mk (bb_ BK2.out hb); clear HB; have HB := n0_; clear n0_; clear BK2; have BK2 := m2_; clear m2_; have BK3 := q1_; have GE3 := q2_; clear q1_ q2_; clear hb hbox hg; obtain ⟨hcz2_0, hfz2_0, hcz2_1, hfz2_1⟩ := Yt.c2 BK2.out; obtain ⟨hcz3_0, hfz3_0, hcz3_1, hfz3_1, hcz3_2, hfz3_2⟩ := Yt.c3 BK3.out; have hnb2_3 := NB2_3.out; have hnc2_3 := Ne.symm NB2_3.out) | ((with_reducible refine gate_dst (N := 4) rfl ?_); refine box_event ?hg (N := 4) ?hd (cs := #[.int .i64 0, .slice none 0 0]) (t := 69) ?hr ?_; (case hd => rfl); (case hg => rfl); (case hr => first | (go_simp; done) | (go_simp; rfl)); intro gb4 hg w4 hbox hb; have q1_ := Aside0.mk hbox; have q2_ := Aside0.mk ((by rw [hg]; exact (below_size (by exact bel_ HB.out))) : w.heap.size ≤ gb4); have NB2_4 := Aside0.mk (nl_ BK2.out hg); have NB3_4 := Aside0.mk (nl_ BK3.out hg); have n0_ := Aside0.mk (below_step (by exact bel_ HB.out) hb); have m2_ := Aside0.mk (bb_ BK2.out hb); have m3_ := Aside0.mk (bb_ BK3.out hb); clear HB; have HB := n0_; clear n0_; clear BK2; have BK2 := m2_; clear m2_; clear BK3; have BK3 := m3_; clear m3_; have BK4 := q1_; have GE4 := q2_; clear q1_ q2_; clear hb hbox hg; obtain ⟨hcz2_0, hfz2_0, hcz2_1, hfz2_1⟩ := Yt.c2 BK2.out; obtain ⟨hcz3_0, hfz3_0, hcz3_1, hfz3_1, hcz3_2, hfz3_2⟩ := Yt.c3 BK3.out; obtain ⟨hcz4_0, hfz4_0, hcz4_1, hfz4_1⟩ := Yt.c2 BK4.out; have hnb2_4 := NB2_4.out; have hnc2_4 := Ne.symm NB2_4.out; have hnb3_4 := NB3_4.out; have hnc3_4 := Ne.symm NB3_4.out) | ((with_reducible refine gate_callee (f := 71) rfl ?_); refine goesL_ (some 18) rfl rfl Try.func71 (by kernel_rfl) rfl #[.agg #[.int .i64 H, .slice A l.length c]] rfl (by (try simp only [List.map_toArray, List.map_cons, List.map_nil]); first | done | rfl) ?_; (with_reducible refine (impl_Yard_own.calls H A c l H l _ ?side1 HC.out HF.out).mono ?_); (case side1 => exact Kd.C_below HR.out (by exact bel_ HB.out)); rintro e w18 ⟨v18, rfl, hS, hb⟩; refine ⟨_, rfl, ?_⟩; obtain ⟨Aw, cw, ew⟩ := Kd.S_slice hS; subst ew; have HSW := Aside0.mk (Kd.S_lower hS (below_size (by exact bel_ HB.out))); have n0_ := Aside0.mk (below_step (by exact bel_ HB.out) hb); have m2_ := Aside0.mk (bb_ BK2.out hb); have m3_ := Aside0.mk (bb_ BK3.out hb); have m4_ := Aside0.mk (bb_ BK4.out hb); clear HB; have HB := n0_; clear n0_; clear BK2; have BK2 := m2_; clear m2_; clear BK3; have BK3 := m3_; clear m3_; clear BK4; have BK4 := m4_; clear m4_; clear hb hS; obtain ⟨hcz2_0, hfz2_0, hcz2_1, hfz2_1⟩ := Yt.c2 BK2.out; obtain ⟨hcz3_0, hfz3_0, hcz3_1, hfz3_1, hcz3_2, hfz3_2⟩ := Yt.c3 BK3.out; obtain ⟨hcz4_0, hfz4_0, hcz4_1, hfz4_1⟩ := Yt.c2 BK4.out) | ((with_reducible refine gate_dst (N := 7) rfl ?_); refine box_event ?hg (N := 7) ?hd (cs := #[.int .i64 0, .slice none 0 0]) (t := 69) ?hr ?_; (case hd => rfl); (case hg => rfl); (case hr => first | (go_simp; done) | (go_simp; rfl)); intro gb7 hg w7 hbox hb; have q1_ := Aside0.mk hbox; have q2_ := Aside0.mk ((by rw [hg]; exact (below_size (by exact bel_ HB.out))) : w.heap.size ≤ gb7); have NB2_7 := Aside0.mk (nl_ BK2.out hg); have NB3_7 := Aside0.mk (nl_ BK3.out hg); have NB4_7 := Aside0.mk (nl_ BK4.out hg); have n0_ := Aside0.mk (below_step (by exact bel_ HB.out) hb); have m2_ := Aside0.mk (bb_ BK2.out hb); have m3_ := Aside0.mk (bb_ BK3.out hb); have m4_ := Aside0.mk (bb_ BK4.out hb); have mHSW_ := Aside0.mk (Yt.sb HSW.out hb); clear HB; have HB := n0_; clear n0_; clear BK2; have BK2 := m2_; clear m2_; clear BK3; have BK3 := m3_; clear m3_; clear BK4; have BK4 := m4_; clear m4_; clear HSW; have HSW := mHSW_; clear mHSW_; have BK7 := q1_; have GE7 := q2_; clear q1_ q2_; clear hb hbox hg; obtain ⟨hcz2_0, hfz2_0, hcz2_1, hfz2_1⟩ := Yt.c2 BK2.out; obtain ⟨hcz3_0, hfz3_0, hcz3_1, hfz3_1, hcz3_2, hfz3_2⟩ := Yt.c3 BK3.out; obtain ⟨hcz4_0, hfz4_0, hcz4_1, hfz4_1⟩ := Yt.c2 BK4.out; obtain ⟨hcz7_0, hfz7_0, hcz7_1, hfz7_1⟩ := Yt.c2 BK7.out; have hnb2_7 := NB2_7.out; have hnc2_7 := Ne.symm NB2_7.out; have hnb3_7 := NB3_7.out; have hnc3_7 := Ne.symm NB3_7.out; have hnb4_7 := NB4_7.out; have hnc4_7 := Ne.symm NB4_7.out))
  (try simp only [Act.put, List.setIfInBounds_toArray, List.set_cons_zero, List.set_cons_succ])
  have b7_ : ((w7.setCell ⟨gb7, 0, none⟩ (.int .i64 H)).setCell ⟨gb7, 1, none⟩ (.slice Aw l.length cw)).heap[gb7]? = some (.cells #[.int .i64 H, .slice Aw l.length cw] 69 (0, 0)) := blk_put (cs := #[.int .i64 H, .slice none 0 0]) (blk_put (cs := #[.int .i64 0, .slice none 0 0]) BK7.out 0 _ rfl) 1 _ rfl
  have b2_ : ((w7.setCell ⟨gb7, 0, none⟩ (.int .i64 H)).setCell ⟨gb7, 1, none⟩ (.slice Aw l.length cw)).heap[gb2]? = some (.cells #[.int .i64 H, .slice A l.length c] 69 (0, 0)) := blk_far (blk_far BK2.out NB2_7.out _) NB2_7.out _
  have b3_ : ((w7.setCell ⟨gb7, 0, none⟩ (.int .i64 H)).setCell ⟨gb7, 1, none⟩ (.slice Aw l.length cw)).heap[gb3]? = some (.cells #[.int .i64 3, .int .i64 b, .int .i64 s] 76 (0, 0)) := blk_far (blk_far BK3.out NB3_7.out _) NB3_7.out _
  have b4_ : ((w7.setCell ⟨gb7, 0, none⟩ (.int .i64 H)).setCell ⟨gb7, 1, none⟩ (.slice Aw l.length cw)).heap[gb4]? = some (.cells #[.int .i64 0, .slice none 0 0] 69 (0, 0)) := blk_far (blk_far BK4.out NB4_7.out _) NB4_7.out _
  have sHSW_ := Kd.S_mono (Kd.S_far (p := ⟨gb7, 1, none⟩) (Kd.S_far (p := ⟨gb7, 0, none⟩) (Kd.S_types HSW.out BK7.out (by decide)) (fun _ hk => hk.2) (.int .i64 H)) (fun _ hk => hk.2) (.slice Aw l.length cw)) (fun _ hk => hk.1)
  have hb_ : Below w.heap.size w ((w7.setCell ⟨gb7, 0, none⟩ (.int .i64 H)).setCell ⟨gb7, 1, none⟩ (.slice Aw l.length cw)) := below_set (below_set HB.out GE7.out) GE7.out
  try clear hcz2_0 hfz2_0 hcz2_1 hfz2_1
  try clear hcz3_0 hfz3_0 hcz3_1 hfz3_1 hcz3_2 hfz3_2
  try clear hcz4_0 hfz4_0 hcz4_1 hfz4_1
  try clear hcz7_0 hfz7_0 hcz7_1 hfz7_1
  try clear hnb2_3 hnc2_3 hnb2_4 hnc2_4 hnb2_7 hnc2_7 hnb3_4 hnc3_4 hnb3_7 hnc3_7 hnb4_7 hnc4_7
  generalize (w7.setCell ⟨gb7, 0, none⟩ (.int .i64 H)).setCell ⟨gb7, 1, none⟩ (.slice Aw l.length cw) = w8 at b2_ b3_ b4_ b7_ sHSW_ hb_ ⊢
  clear HB BK2 BK3 BK4 BK7 HSW
  have HB := Aside0.mk hb_
  clear hb_
  have BK2 := Aside0.mk b2_
  clear b2_
  have BK3 := Aside0.mk b3_
  clear b3_
  have BK4 := Aside0.mk b4_
  clear b4_
  have BK7 := Aside0.mk b7_
  clear b7_
  have HSW := Aside0.mk sHSW_
  clear sHSW_
  obtain ⟨hcz2_0, hfz2_0, hcz2_1, hfz2_1⟩ := Yt.c2 BK2.out; obtain ⟨hcz3_0, hfz3_0, hcz3_1, hfz3_1, hcz3_2, hfz3_2⟩ := Yt.c3 BK3.out; obtain ⟨hcz4_0, hfz4_0, hcz4_1, hfz4_1⟩ := Yt.c2 BK4.out; obtain ⟨hcz7_0, hfz7_0, hcz7_1, hfz7_1⟩ := Yt.c2 BK7.out
  have hnb2_3 := NB2_3.out; have hnc2_3 := Ne.symm NB2_3.out
  have hnb2_4 := NB2_4.out; have hnc2_4 := Ne.symm NB2_4.out
  have hnb2_7 := NB2_7.out; have hnc2_7 := Ne.symm NB2_7.out
  have hnb3_4 := NB3_4.out; have hnc3_4 := Ne.symm NB3_4.out
  have hnb3_7 := NB3_7.out; have hnc3_7 := Ne.symm NB3_7.out
  have hnb4_7 := NB4_7.out; have hnc4_7 := Ne.symm NB4_7.out
  go_wp2_with (first | ((with_reducible refine gate_callee (f := 32) rfl ?_); refine goesL_ (some 24) rfl rfl Try.func32 (by kernel_rfl) rfl #[.agg #[.int .i64 H, .slice A l.length c]] rfl (by (try simp only [List.map_toArray, List.map_cons, List.map_nil]); first | done | rfl) ?_; (with_reducible refine (impl_YardOk.calls H A c l true _ ?side1 HC.out HOK.out).mono ?_); (case side1 => exact Kd.C_below HR.out (by exact bel_ HB.out)); rintro e w24 ⟨rfl, hb⟩; refine ⟨_, rfl, ?_⟩; have n0_ := Aside0.mk (below_step (by exact bel_ HB.out) hb); have m2_ := Aside0.mk (bb_ BK2.out hb); have m3_ := Aside0.mk (bb_ BK3.out hb); have m4_ := Aside0.mk (bb_ BK4.out hb); have m7_ := Aside0.mk (bb_ BK7.out hb); have mHSW_ := Aside0.mk (Yt.sb HSW.out hb); clear HB; have HB := n0_; clear n0_; clear BK2; have BK2 := m2_; clear m2_; clear BK3; have BK3 := m3_; clear m3_; clear BK4; have BK4 := m4_; clear m4_; clear BK7; have BK7 := m7_; clear m7_; clear HSW; have HSW := mHSW_; clear mHSW_; clear hb; obtain ⟨hcz2_0, hfz2_0, hcz2_1, hfz2_1⟩ := Yt.c2 BK2.out; obtain ⟨hcz3_0, hfz3_0, hcz3_1, hfz3_1, hcz3_2, hfz3_2⟩ := Yt.c3 BK3.out; obtain ⟨hcz4_0, hfz4_0, hcz4_1, hfz4_1⟩ := Yt.c2 BK4.out; obtain ⟨hcz7_0, hfz7_0, hcz7_1, hfz7_1⟩ := Yt.c2 BK7.out) | (go_at_call 48; (with_reducible refine (impl_in.calls 3 1 3 true _ AK.out).mono ?_); rintro e w' ⟨rfl, ⟨nd, rfl⟩⟩; (try first | exact ⟨rfl, _, World.drewN_drewN _ _ _⟩ | exact ⟨rfl, _, Eq.trans (World.drewN_drewN _ _ _) (congrArg (World.drewN _) (Nat.add_assoc _ _ _))⟩)) | (go_at_call 48; (with_reducible refine (impl_in.calls s 0 nn true _ AST.out).mono ?_); rintro e w' ⟨rfl, ⟨nd, rfl⟩⟩; (try first | exact ⟨rfl, _, World.drewN_drewN _ _ _⟩ | exact ⟨rfl, _, Eq.trans (World.drewN_drewN _ _ _) (congrArg (World.drewN _) (Nat.add_assoc _ _ _))⟩)) | (go_at_call 48; (with_reducible refine (impl_in.calls b 0 nn true _ ABX.out).mono ?_); rintro e w' ⟨rfl, ⟨nd, rfl⟩⟩; (try first | exact ⟨rfl, _, World.drewN_drewN _ _ _⟩ | exact ⟨rfl, _, Eq.trans (World.drewN_drewN _ _ _) (congrArg (World.drewN _) (Nat.add_assoc _ _ _))⟩)))
  repeat (go_quiet (first | (go_at_call 48; (with_reducible refine (impl_in.calls 3 1 3 true _ AK.out).mono ?_); rintro e w' ⟨rfl, ⟨nd, rfl⟩⟩; (try first | exact ⟨rfl, _, World.drewN_drewN _ _ _⟩ | exact ⟨rfl, _, Eq.trans (World.drewN_drewN _ _ _) (congrArg (World.drewN _) (Nat.add_assoc _ _ _))⟩)) | (go_at_call 48; (with_reducible refine (impl_in.calls s 0 nn true _ AST.out).mono ?_); rintro e w' ⟨rfl, ⟨nd, rfl⟩⟩; (try first | exact ⟨rfl, _, World.drewN_drewN _ _ _⟩ | exact ⟨rfl, _, Eq.trans (World.drewN_drewN _ _ _) (congrArg (World.drewN _) (Nat.add_assoc _ _ _))⟩)) | (go_at_call 48; (with_reducible refine (impl_in.calls b 0 nn true _ ABX.out).mono ?_); rintro e w' ⟨rfl, ⟨nd, rfl⟩⟩; (try first | exact ⟨rfl, _, World.drewN_drewN _ _ _⟩ | exact ⟨rfl, _, Eq.trans (World.drewN_drewN _ _ _) (congrArg (World.drewN _) (Nat.add_assoc _ _ _))⟩))); try go_wp2_with (first | (go_at_call 48; (with_reducible refine (impl_in.calls 3 1 3 true _ AK.out).mono ?_); rintro e w' ⟨rfl, ⟨nd, rfl⟩⟩; (try first | exact ⟨rfl, _, World.drewN_drewN _ _ _⟩ | exact ⟨rfl, _, Eq.trans (World.drewN_drewN _ _ _) (congrArg (World.drewN _) (Nat.add_assoc _ _ _))⟩)) | (go_at_call 48; (with_reducible refine (impl_in.calls s 0 nn true _ AST.out).mono ?_); rintro e w' ⟨rfl, ⟨nd, rfl⟩⟩; (try first | exact ⟨rfl, _, World.drewN_drewN _ _ _⟩ | exact ⟨rfl, _, Eq.trans (World.drewN_drewN _ _ _) (congrArg (World.drewN _) (Nat.add_assoc _ _ _))⟩)) | (go_at_call 48; (with_reducible refine (impl_in.calls b 0 nn true _ ABX.out).mono ?_); rintro e w' ⟨rfl, ⟨nd, rfl⟩⟩; (try first | exact ⟨rfl, _, World.drewN_drewN _ _ _⟩ | exact ⟨rfl, _, Eq.trans (World.drewN_drewN _ _ _) (congrArg (World.drewN _) (Nat.add_assoc _ _ _))⟩))))
  refine bodyPost_ret (results_ctt rfl _ _ gb4 69 #[.int .i64 H, .slice Aw l.length cw] (0, 0) _ rfl (by (with_reducible repeat (first | refine blk_drewN ?_ _ | refine blk_drew ?_ | refine blk_alloc ?_ _)); refine blk_put (cs := #[.int .i64 H, .slice none 0 0]) ?_ 1 _ rfl; (with_reducible repeat (first | refine blk_drewN ?_ _ | refine blk_drew ?_ | refine blk_alloc ?_ _)); refine blk_put (cs := #[.int .i64 0, .slice none 0 0]) ?_ 0 _ rfl; (with_reducible repeat (first | refine blk_drewN ?_ _ | refine blk_drew ?_ | refine blk_alloc ?_ _)); exact BK4.out) Try.underlying69 rfl (by kernel_rfl)) rfl ?_
  exact ⟨_, rfl, by (with_reducible repeat (first | apply Kd.S_alloc | apply Kd.S_drewN | apply Kd.S_drew)); exact Kd.S_mono (Kd.S_far (p := ⟨gb4, 1, none⟩) (Kd.S_far (p := ⟨gb4, 0, none⟩) (Kd.S_types HSW.out BK4.out (by decide)) (fun _ hk => hk.2) _) (fun _ hk => hk.2) _) (fun _ hk => trivial), by exact bel_ HB.out⟩

end Go.Proofs.Ytlphfhibnbhkfaa.PFnYard
