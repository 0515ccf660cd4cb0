/- The Lean side of Go functions of this seat: what each answers, and that its run comes to that answer; written by a program of this work. -/
import Derived.Test.YtlphfhibnbhkfaaPFnYardx0
import Derived.Test.YtlphfhibnbhkfaaPFnYardx3
import Derived.Test.YtlphfhibnbhkfaaPFnYardx4
import Derived.Test.YtlphfhibnbhkfaaPFnYardx5
namespace Go.Proofs.Ytlphfhibnbhkfaa.PFnYard
open Go.RowKit Go.Proofs.YtlphfhibnbhkfaaW.PrintWords Go.Proofs.YtlphfhibnbhkfaaW.PrintLast Go.Proofs.YtlphfhibnbhkfaaW.PrintMore
attribute [local go_sem] max2_int min2_int max_two min_two max_three min_three max_four min_four   -- for this text's walks alone
set_option linter.unusedVariables false
set_option linter.unusedSimpArgs false

/-! ### impl_DoYard: function 31 (by hand) -/
def impl_DoYard.in_.T13 : Bool × List (List Nat × List Nat) := (true, [([], []), ([0], [0]), ([], []), ([2], [2]), ([], []), ([4], [4]), ([], []), ([6], [6]), ([5, 7], [5, 7]), ([8], [8]), ([], []), ([10], [10]), ([11], [11]), ([9, 12], [9, 12]), ([13, 13], [13]), ([1, 3, 0, 1, 2, 3, 4, 5, 6, 7, 8, 9, 10, 11, 12, 13, 14], [1, 3]), ([15, 14, 14, 0, 1, 2, 3, 4, 5, 6, 7, 8, 9, 10, 11, 12, 13, 14], [14, 15])])
def impl_DoYard.in_.B13 : List Nat := [0, 1, 0, 4, 0, 16, 0, 64, 240, 496, 0, 1024, 3072, 8176, 16368, 32767, 65535]
theorem impl_DoYard.in_.tab13 : rtab .any (opsOf Try.f31 13) = impl_DoYard.in_.T13 := by kernel_rfl
theorem impl_DoYard.in_.bits13 : waitsOk impl_DoYard.in_.T13.2 impl_DoYard.in_.B13 = true := by kernel_rfl
set_option maxHeartbeats 8000000 in
set_option maxRecDepth 100000 in
theorem impl_DoYard.in_has (H : Int) (A : Option Addr) (c : Nat) (l : List (List Int)) (b s : Int) (w : World) (hr0 : Kd.C (Kd.slice 3 (Kd.int .i64)) w A l.length l) (hc0 : l.length ≤ c) (hs1 : l.length ≤ 1000) (hs2 : ∀ x ∈ l, x.length ≤ 100) (hok : impl_YardOk.f H l = some true) (hst : impl_in.f s 0 ((l.length : Int) - 1) = some true) (hid : impl_idRight.f b = some true) (fa ft : Int) (hfb : impl_FindBox.f 50 H l b = some (fa, ft, true)) (hlen : 0 < l.length) :
    Calls Try.prog 31 #[.agg #[.int .i64 H, .slice A l.length c], .agg #[.int .i64 1, .int .i64 b, .int .i64 s]] w fun e w' => ∃ v0_ : Value, e = .returned (.tuple #[.agg #[.int .i64 H, v0_], .int .i64 0, .int .i64 2]) ∧ Kd.S (Kd.slice 3 (Kd.int .i64)) 28 w' w.heap.size (fun _ => True) v0_ l ∧ Below w.heap.size w w' := by
  have hu69 := Try.underlying69
  have hu76 := Try.underlying76
  have HR := Aside0.mk hr0
  have HC := Aside0.mk hc0
  have HS1 := Aside0.mk hs1
  have HS2 := Aside0.mk hs2
  have HF := Aside0.mk (show impl_Yard_own.f H l = some (H, l) from if_pos ⟨hs1, fun x hx => Nat.le_trans (hs2 x hx) (by omega)⟩)
  clear hr0 hc0 hs1 hs2
  obtain ⟨nn, hnn⟩ : ∃ nn : Int, nn = (l.length : Int) - 1 := ⟨_, rfl⟩
  have hwn : wrap64 ((l.length : Int) - 1) = nn := by rw [← hnn]; exact impl_YardOk.w64 (by omega) (by have := HS1.out; omega)
  have HNN := Aside0.mk hnn
  clear hnn
  have HOK := Aside0.mk hok
  clear hok
  have HFB := Aside0.mk hfb
  have HLEN := Aside0.mk hlen
  clear hfb hlen
  have AK := Aside0.mk (show impl_in.f 1 1 3 = some true from rfl)
  rw [← HNN.out] at hst
  have AST := Aside0.mk hst
  clear hst
  have AID := Aside0.mk hid
  clear hid
  have HB := Aside0.mk (Below.refl w.heap.size w)
  go_enter Try.func31, Try.ntmps31
  go_upto_region 2 with (first | ((with_reducible refine gate_dst (N := 2) rfl ?_); refine box_event ?hg (N := 2) ?hd (cs := #[.int .i64 H, .slice A l.length c]) (t := 69) ?hr ?_; (case hd => rfl); (case hg => rfl); (case hr => first | (go_simp; done) | (go_simp; rfl)); intro gb2 hg w2 hbox hb; have q1_ := Aside0.mk hbox; have q2_ := Aside0.mk ((by rw [hg]; exact (below_size (by exact bel_ HB.out))) : w.heap.size ≤ gb2); have n0_ := Aside0.mk (below_step (by exact bel_ HB.out) hb); clear HB; have HB := n0_; clear n0_; have BK2 := q1_; have GE2 := q2_; clear q1_ q2_; clear hb hbox hg; obtain ⟨hcz2_0, hfz2_0, hcz2_1, hfz2_1⟩ := Yt.c2 BK2.out) | ((with_reducible refine gate_dst (N := 3) rfl ?_); refine box_event ?hg (N := 3) ?hd (cs := #[.int .i64 1, .int .i64 b, .int .i64 s]) (t := 76) ?hr ?_; (case hd => rfl); (case hg => rfl); (case hr => first | (go_simp; done) | (go_simp; rfl)); intro gb3 hg w3 hbox hb; have q1_ := Aside0.mk hbox; have q2_ := Aside0.mk ((by rw [hg]; exact (below_size (by exact bel_ HB.out))) : w.heap.size ≤ gb3); have NB2_3 := Aside0.mk (nl_ BK2.out hg); have n0_ := Aside0.mk (below_step (by exact bel_ HB.out) hb); have m2_ := Aside0.mk (bb_ BK2.out hb); clear HB; have HB := n0_; clear n0_; clear BK2; have BK2 := m2_; clear m2_; have BK3 := q1_; have GE3 := q2_; clear q1_ q2_; clear hb hbox hg; obtain ⟨hcz2_0, hfz2_0, hcz2_1, hfz2_1⟩ := Yt.c2 BK2.out; obtain ⟨hcz3_0, hfz3_0, hcz3_1, hfz3_1, hcz3_2, hfz3_2⟩ := Yt.c3 BK3.out; have hnb2_3 := NB2_3.out; have hnc2_3 := Ne.symm NB2_3.out) | ((with_reducible refine gate_dst (N := 4) rfl ?_); refine box_event ?hg (N := 4) ?hd (cs := #[.int .i64 0, .slice none 0 0]) (t := 69) ?hr ?_; (case hd => rfl); (case hg => rfl); (case hr => first | (go_simp; done) | (go_simp; rfl)); intro gb4 hg w4 hbox hb; have q1_ := Aside0.mk hbox; have q2_ := Aside0.mk ((by rw [hg]; exact (below_size (by exact bel_ HB.out))) : w.heap.size ≤ gb4); have NB2_4 := Aside0.mk (nl_ BK2.out hg); have NB3_4 := Aside0.mk (nl_ BK3.out hg); have n0_ := Aside0.mk (below_step (by exact bel_ HB.out) hb); have m2_ := Aside0.mk (bb_ BK2.out hb); have m3_ := Aside0.mk (bb_ BK3.out hb); clear HB; have HB := n0_; clear n0_; clear BK2; have BK2 := m2_; clear m2_; clear BK3; have BK3 := m3_; clear m3_; have BK4 := q1_; have GE4 := q2_; clear q1_ q2_; clear hb hbox hg; obtain ⟨hcz2_0, hfz2_0, hcz2_1, hfz2_1⟩ := Yt.c2 BK2.out; obtain ⟨hcz3_0, hfz3_0, hcz3_1, hfz3_1, hcz3_2, hfz3_2⟩ := Yt.c3 BK3.out; obtain ⟨hcz4_0, hfz4_0, hcz4_1, hfz4_1⟩ := Yt.c2 BK4.out; have hnb2_4 := NB2_4.out; have hnc2_4 := Ne.symm NB2_4.out; have hnb3_4 := NB3_4.out; have hnc3_4 := Ne.symm NB3_4.out) | ((with_reducible refine gate_callee (f := 71) rfl ?_); refine goesL_ (some 18) rfl rfl Try.func71 (by kernel_rfl) rfl #[.agg #[.int .i64 H, .slice A l.length c]] rfl (by (try simp only [List.map_toArray, List.map_cons, List.map_nil]); first | done | rfl) ?_; (with_reducible refine (impl_Yard_own.calls H A c l H l _ ?side1 HC.out HF.out).mono ?_); (case side1 => exact Kd.C_below HR.out (by exact bel_ HB.out)); rintro e w18 ⟨v18, rfl, hS, hb⟩; refine ⟨_, rfl, ?_⟩; obtain ⟨Aw, cw, ew⟩ := Kd.S_slice hS; subst ew; have HSW := Aside0.mk (Kd.S_lower hS (below_size (by exact bel_ HB.out))); have n0_ := Aside0.mk (below_step (by exact bel_ HB.out) hb); have m2_ := Aside0.mk (bb_ BK2.out hb); have m3_ := Aside0.mk (bb_ BK3.out hb); have m4_ := Aside0.mk (bb_ BK4.out hb); clear HB; have HB := n0_; clear n0_; clear BK2; have BK2 := m2_; clear m2_; clear BK3; have BK3 := m3_; clear m3_; clear BK4; have BK4 := m4_; clear m4_; clear hb hS; obtain ⟨hcz2_0, hfz2_0, hcz2_1, hfz2_1⟩ := Yt.c2 BK2.out; obtain ⟨hcz3_0, hfz3_0, hcz3_1, hfz3_1, hcz3_2, hfz3_2⟩ := Yt.c3 BK3.out; obtain ⟨hcz4_0, hfz4_0, hcz4_1, hfz4_1⟩ := Yt.c2 BK4.out) | ((with_reducible refine gate_dst (N := 7) rfl ?_); refine box_event ?hg (N := 7) ?hd (cs := #[.int .i64 0, .slice none 0 0]) (t := 69) ?hr ?_; (case hd => rfl); (case hg => rfl); (case hr => first | (go_simp; done) | (go_simp; rfl)); intro gb7 hg w7 hbox hb; have q1_ := Aside0.mk hbox; have q2_ := Aside0.mk ((by rw [hg]; exact (below_size (by exact bel_ HB.out))) : w.heap.size ≤ gb7); have NB2_7 := Aside0.mk (nl_ BK2.out hg); have NB3_7 := Aside0.mk (nl_ BK3.out hg); have NB4_7 := Aside0.mk (nl_ BK4.out hg); have n0_ := Aside0.mk (below_step (by exact bel_ HB.out) hb); have m2_ := Aside0.mk (bb_ BK2.out hb); have m3_ := Aside0.mk (bb_ BK3.out hb); have m4_ := Aside0.mk (bb_ BK4.out hb); have mHSW_ := Aside0.mk (Yt.sb HSW.out hb); clear HB; have HB := n0_; clear n0_; clear BK2; have BK2 := m2_; clear m2_; clear BK3; have BK3 := m3_; clear m3_; clear BK4; have BK4 := m4_; clear m4_; clear HSW; have HSW := mHSW_; clear mHSW_; have BK7 := q1_; have GE7 := q2_; clear q1_ q2_; clear hb hbox hg; obtain ⟨hcz2_0, hfz2_0, hcz2_1, hfz2_1⟩ := Yt.c2 BK2.out; obtain ⟨hcz3_0, hfz3_0, hcz3_1, hfz3_1, hcz3_2, hfz3_2⟩ := Yt.c3 BK3.out; obtain ⟨hcz4_0, hfz4_0, hcz4_1, hfz4_1⟩ := Yt.c2 BK4.out; obtain ⟨hcz7_0, hfz7_0, hcz7_1, hfz7_1⟩ := Yt.c2 BK7.out; have hnb2_7 := NB2_7.out; have hnc2_7 := Ne.symm NB2_7.out; have hnb3_7 := NB3_7.out; have hnc3_7 := Ne.symm NB3_7.out; have hnb4_7 := NB4_7.out; have hnc4_7 := Ne.symm NB4_7.out))
  (try simp only [Act.put, List.setIfInBounds_toArray, List.set_cons_zero, List.set_cons_succ])
  have b7_ : ((w7.setCell ⟨gb7, 0, none⟩ (.int .i64 H)).setCell ⟨gb7, 1, none⟩ (.slice Aw l.length cw)).heap[gb7]? = some (.cells #[.int .i64 H, .slice Aw l.length cw] 69 (0, 0)) := blk_put (cs := #[.int .i64 H, .slice none 0 0]) (blk_put (cs := #[.int .i64 0, .slice none 0 0]) BK7.out 0 _ rfl) 1 _ rfl
  have b2_ : ((w7.setCell ⟨gb7, 0, none⟩ (.int .i64 H)).setCell ⟨gb7, 1, none⟩ (.slice Aw l.length cw)).heap[gb2]? = some (.cells #[.int .i64 H, .slice A l.length c] 69 (0, 0)) := blk_far (blk_far BK2.out NB2_7.out _) NB2_7.out _
  have b3_ : ((w7.setCell ⟨gb7, 0, none⟩ (.int .i64 H)).setCell ⟨gb7, 1, none⟩ (.slice Aw l.length cw)).heap[gb3]? = some (.cells #[.int .i64 1, .int .i64 b, .int .i64 s] 76 (0, 0)) := blk_far (blk_far BK3.out NB3_7.out _) NB3_7.out _
  have b4_ : ((w7.setCell ⟨gb7, 0, none⟩ (.int .i64 H)).setCell ⟨gb7, 1, none⟩ (.slice Aw l.length cw)).heap[gb4]? = some (.cells #[.int .i64 0, .slice none 0 0] 69 (0, 0)) := blk_far (blk_far BK4.out NB4_7.out _) NB4_7.out _
  have sHSW_ := Kd.S_mono (Kd.S_far (p := ⟨gb7, 1, none⟩) (Kd.S_far (p := ⟨gb7, 0, none⟩) (Kd.S_types HSW.out BK7.out (by decide)) (fun _ hk => hk.2) (.int .i64 H)) (fun _ hk => hk.2) (.slice Aw l.length cw)) (fun _ hk => hk.1)
  have hb_ : Below w.heap.size w ((w7.setCell ⟨gb7, 0, none⟩ (.int .i64 H)).setCell ⟨gb7, 1, none⟩ (.slice Aw l.length cw)) := below_set (below_set HB.out GE7.out) GE7.out
  try clear hcz2_0 hfz2_0 hcz2_1 hfz2_1
  try clear hcz3_0 hfz3_0 hcz3_1 hfz3_1 hcz3_2 hfz3_2
  try clear hcz4_0 hfz4_0 hcz4_1 hfz4_1
  try clear hcz7_0 hfz7_0 hcz7_1 hfz7_1
  try clear hnb2_3 hnc2_3 hnb2_4 hnc2_4 hnb2_7 hnc2_7 hnb3_4 hnc3_4 hnb3_7 hnc3_7 hnb4_7 hnc4_7
  generalize (w7.setCell ⟨gb7, 0, none⟩ (.int .i64 H)).setCell ⟨gb7, 1, none⟩ (.slice Aw l.length cw) = w8 at b2_ b3_ b4_ b7_ sHSW_ hb_ ⊢
  clear HB BK2 BK3 BK4 BK7 HSW
  have HB := Aside0.mk hb_
  clear hb_
  have BK2 := Aside0.mk b2_
  clear b2_
  have BK3 := Aside0.mk b3_
  clear b3_
  have BK4 := Aside0.mk b4_
  clear b4_
  have BK7 := Aside0.mk b7_
  clear b7_
  have HSW := Aside0.mk sHSW_
  clear sHSW_
  obtain ⟨hcz2_0, hfz2_0, hcz2_1, hfz2_1⟩ := Yt.c2 BK2.out; obtain ⟨hcz3_0, hfz3_0, hcz3_1, hfz3_1, hcz3_2, hfz3_2⟩ := Yt.c3 BK3.out; obtain ⟨hcz4_0, hfz4_0, hcz4_1, hfz4_1⟩ := Yt.c2 BK4.out; obtain ⟨hcz7_0, hfz7_0, hcz7_1, hfz7_1⟩ := Yt.c2 BK7.out
  have hnb2_3 := NB2_3.out; have hnc2_3 := Ne.symm NB2_3.out
  have hnb2_4 := NB2_4.out; have hnc2_4 := Ne.symm NB2_4.out
  have hnb2_7 := NB2_7.out; have hnc2_7 := Ne.symm NB2_7.out
  have hnb3_4 := NB3_4.out; have hnc3_4 := Ne.symm NB3_4.out
  have hnb3_7 := NB3_7.out; have hnc3_7 := Ne.symm NB3_7.out
  have hnb4_7 := NB4_7.out; have hnc4_7 := Ne.symm NB4_7.out
  go_upto_region 5 with (first | ((with_reducible refine gate_callee (f := 32) rfl ?_); refine goesL_ (some 24) rfl rfl Try.func32 (by kernel_rfl) rfl #[.agg #[.int .i64 H, .slice A l.length c]] rfl (by (try simp only [List.map_toArray, List.map_cons, List.map_nil]); first | done | rfl) ?_; (with_reducible refine (impl_YardOk.calls H A c l true _ ?side1 HC.out HOK.out).mono ?_); (case side1 => exact Kd.C_below HR.out (by exact bel_ HB.out)); rintro e w24 ⟨rfl, hb⟩; refine ⟨_, rfl, ?_⟩; have n0_ := Aside0.mk (below_step (by exact bel_ HB.out) hb); have m2_ := Aside0.mk (bb_ BK2.out hb); have m3_ := Aside0.mk (bb_ BK3.out hb); have m4_ := Aside0.mk (bb_ BK4.out hb); have m7_ := Aside0.mk (bb_ BK7.out hb); have mHSW_ := Aside0.mk (Yt.sb HSW.out hb); clear HB; have HB := n0_; clear n0_; clear BK2; have BK2 := m2_; clear m2_; clear BK3; have BK3 := m3_; clear m3_; clear BK4; have BK4 := m4_; clear m4_; clear BK7; have BK7 := m7_; clear m7_; clear HSW; have HSW := mHSW_; clear mHSW_; clear hb; obtain ⟨hcz2_0, hfz2_0, hcz2_1, hfz2_1⟩ := Yt.c2 BK2.out; obtain ⟨hcz3_0, hfz3_0, hcz3_1, hfz3_1, hcz3_2, hfz3_2⟩ := Yt.c3 BK3.out; obtain ⟨hcz4_0, hfz4_0, hcz4_1, hfz4_1⟩ := Yt.c2 BK4.out; obtain ⟨hcz7_0, hfz7_0, hcz7_1, hfz7_1⟩ := Yt.c2 BK7.out) | (go_at_call 48; (with_reducible refine (impl_in.calls 1 1 3 true _ AK.out).mono ?_); rintro e w' ⟨rfl, ⟨nd, rfl⟩⟩; (try first | exact ⟨rfl, _, World.drewN_drewN _ _ _⟩ | exact ⟨rfl, _, Eq.trans (World.drewN_drewN _ _ _) (congrArg (World.drewN _) (Nat.add_assoc _ _ _))⟩)) | (go_at_call 48; (with_reducible refine (impl_in.calls s 0 nn true _ AST.out).mono ?_); rintro e w' ⟨rfl, ⟨nd, rfl⟩⟩; (try first | exact ⟨rfl, _, World.drewN_drewN _ _ _⟩ | exact ⟨rfl, _, Eq.trans (World.drewN_drewN _ _ _) (congrArg (World.drewN _) (Nat.add_assoc _ _ _))⟩)) | (go_at_call 72; (with_reducible refine (impl_idRight.calls b true _ AID.out).mono ?_); rintro e w' ⟨rfl, ⟨nd, rfl⟩⟩; (try first | exact ⟨rfl, _, World.drewN_drewN _ _ _⟩ | exact ⟨rfl, _, Eq.trans (World.drewN_drewN _ _ _) (congrArg (World.drewN _) (Nat.add_assoc _ _ _))⟩)))
  repeat (go_quiet (first | (go_at_call 48; (with_reducible refine (impl_in.calls 1 1 3 true _ AK.out).mono ?_); rintro e w' ⟨rfl, ⟨nd, rfl⟩⟩; (try first | exact ⟨rfl, _, World.drewN_drewN _ _ _⟩ | exact ⟨rfl, _, Eq.trans (World.drewN_drewN _ _ _) (congrArg (World.drewN _) (Nat.add_assoc _ _ _))⟩)) | (go_at_call 48; (with_reducible refine (impl_in.calls s 0 nn true _ AST.out).mono ?_); rintro e w' ⟨rfl, ⟨nd, rfl⟩⟩; (try first | exact ⟨rfl, _, World.drewN_drewN _ _ _⟩ | exact ⟨rfl, _, Eq.trans (World.drewN_drewN _ _ _) (congrArg (World.drewN _) (Nat.add_assoc _ _ _))⟩)) | (go_at_call 72; (with_reducible refine (impl_idRight.calls b true _ AID.out).mono ?_); rintro e w' ⟨rfl, ⟨nd, rfl⟩⟩; (try first | exact ⟨rfl, _, World.drewN_drewN _ _ _⟩ | exact ⟨rfl, _, Eq.trans (World.drewN_drewN _ _ _) (congrArg (World.drewN _) (Nat.add_assoc _ _ _))⟩))); try go_upto_region 5 with (first | (go_at_call 48; (with_reducible refine (impl_in.calls 1 1 3 true _ AK.out).mono ?_); rintro e w' ⟨rfl, ⟨nd, rfl⟩⟩; (try first | exact ⟨rfl, _, World.drewN_drewN _ _ _⟩ | exact ⟨rfl, _, Eq.trans (World.drewN_drewN _ _ _) (congrArg (World.drewN _) (Nat.add_assoc _ _ _))⟩)) | (go_at_call 48; (with_reducible refine (impl_in.calls s 0 nn true _ AST.out).mono ?_); rintro e w' ⟨rfl, ⟨nd, rfl⟩⟩; (try first | exact ⟨rfl, _, World.drewN_drewN _ _ _⟩ | exact ⟨rfl, _, Eq.trans (World.drewN_drewN _ _ _) (congrArg (World.drewN _) (Nat.add_assoc _ _ _))⟩)) | (go_at_call 72; (with_reducible refine (impl_idRight.calls b true _ AID.out).mono ?_); rintro e w' ⟨rfl, ⟨nd, rfl⟩⟩; (try first | exact ⟨rfl, _, World.drewN_drewN _ _ _⟩ | exact ⟨rfl, _, Eq.trans (World.drewN_drewN _ _ _) (congrArg (World.drewN _) (Nat.add_assoc _ _ _))⟩))))
  (try simp only [Act.put, List.setIfInBounds_toArray, List.set_cons_zero, List.set_cons_succ])
  obtain ⟨M, hM⟩ : ∃ M, M = w24.heap.size := ⟨_, rfl⟩
  have HM := Aside0.mk hM
  have HMW : Aside0 (w.heap.size ≤ M) := ⟨by rw [hM]; exact HB.out.size⟩
  clear hM
  go_upto_region 6 with (first | ((with_reducible refine gate_callee (f := 71) rfl ?_); refine goesL_ (some 76) rfl rfl Try.func71 (by kernel_rfl) rfl #[.agg #[.int .i64 H, .slice A l.length c]] rfl (by (try simp only [List.map_toArray, List.map_cons, List.map_nil]); first | done | rfl) ?_; (with_reducible refine (impl_Yard_own.calls H A c l H l _ ?side1 HC.out HF.out).mono ?_); (case side1 => exact Kd.C_below HR.out (by exact bel_ HB.out)); rintro e w76 ⟨v76, rfl, hS, hb⟩; refine ⟨_, rfl, ?_⟩; obtain ⟨gx, cx, ex, hgx, hgl, _⟩ := Kd.S_form hS HLEN.out; subst ex; have HGX : Aside0 (M ≤ gx) := ⟨by rw [HM.out]; exact hgx⟩; have mW_ := Aside0.mk (Kd.S_below (Kd.S_mono (ok' := fun k => k < M) (Kd.S_bound (Yt.sp HSW.out)) (fun k hk => by rw [HM.out]; exact hk.2.2.1)) hb); have HSX := Aside0.mk (Kd.S_lower (Kd.S_mono (ok' := fun k => M ≤ k) (Kd.S_bound hS) (fun k hk => by rw [HM.out]; exact hk.2.1)) (below_size (by exact bel_ HB.out))); have n0_ := Aside0.mk (below_step (by exact bel_ HB.out) hb); have m2_ := Aside0.mk (bb_ BK2.out hb); have m3_ := Aside0.mk (bb_ BK3.out hb); have m4_ := Aside0.mk (bb_ BK4.out hb); have m7_ := Aside0.mk (bb_ BK7.out hb); clear HB; have HB := n0_; clear n0_; clear BK2; have BK2 := m2_; clear m2_; clear BK3; have BK3 := m3_; clear m3_; clear BK4; have BK4 := m4_; clear m4_; clear BK7; have BK7 := m7_; clear m7_; clear HSW; have HSW := mW_; clear mW_; clear hb hS hgx hgl; obtain ⟨hcz2_0, hfz2_0, hcz2_1, hfz2_1⟩ := Yt.c2 BK2.out; obtain ⟨hcz3_0, hfz3_0, hcz3_1, hfz3_1, hcz3_2, hfz3_2⟩ := Yt.c3 BK3.out; obtain ⟨hcz4_0, hfz4_0, hcz4_1, hfz4_1⟩ := Yt.c2 BK4.out; obtain ⟨hcz7_0, hfz7_0, hcz7_1, hfz7_1⟩ := Yt.c2 BK7.out) | ((with_reducible refine gate_dst (N := 9) rfl ?_); refine box_event ?hg (N := 9) ?hd (cs := #[.int .i64 0, .slice none 0 0]) (t := 69) ?hr ?_; (case hd => rfl); (case hg => rfl); (case hr => first | (go_simp; done) | (go_simp; rfl)); intro gb9 hg w9 hbox hb; have q1_ := Aside0.mk hbox; have q2_ := Aside0.mk ((by rw [hg]; exact (below_size (by exact bel_ HB.out))) : w.heap.size ≤ gb9); have NB2_9 := Aside0.mk (nl_ BK2.out hg); have NB3_9 := Aside0.mk (nl_ BK3.out hg); have NB4_9 := Aside0.mk (nl_ BK4.out hg); have NB7_9 := Aside0.mk (nl_ BK7.out hg); have n0_ := Aside0.mk (below_step (by exact bel_ HB.out) hb); have m2_ := Aside0.mk (bb_ BK2.out hb); have m3_ := Aside0.mk (bb_ BK3.out hb); have m4_ := Aside0.mk (bb_ BK4.out hb); have m7_ := Aside0.mk (bb_ BK7.out hb); have mHSW_ := Aside0.mk (Yt.sb HSW.out hb); have mHSX_ := Aside0.mk (Yt.sb HSX.out hb); clear HB; have HB := n0_; clear n0_; clear BK2; have BK2 := m2_; clear m2_; clear BK3; have BK3 := m3_; clear m3_; clear BK4; have BK4 := m4_; clear m4_; clear BK7; have BK7 := m7_; clear m7_; clear HSW; have HSW := mHSW_; clear mHSW_; clear HSX; have HSX := mHSX_; clear mHSX_; have BK9 := q1_; have GE9 := q2_; clear q1_ q2_; clear hb hbox hg; obtain ⟨hcz2_0, hfz2_0, hcz2_1, hfz2_1⟩ := Yt.c2 BK2.out; obtain ⟨hcz3_0, hfz3_0, hcz3_1, hfz3_1, hcz3_2, hfz3_2⟩ := Yt.c3 BK3.out; obtain ⟨hcz4_0, hfz4_0, hcz4_1, hfz4_1⟩ := Yt.c2 BK4.out; obtain ⟨hcz7_0, hfz7_0, hcz7_1, hfz7_1⟩ := Yt.c2 BK7.out; obtain ⟨hcz9_0, hfz9_0, hcz9_1, hfz9_1⟩ := Yt.c2 BK9.out; have hnb2_9 := NB2_9.out; have hnc2_9 := Ne.symm NB2_9.out; have hnb3_9 := NB3_9.out; have hnc3_9 := Ne.symm NB3_9.out; have hnb4_9 := NB4_9.out; have hnc4_9 := Ne.symm NB4_9.out; have hnb7_9 := NB7_9.out; have hnc7_9 := Ne.symm NB7_9.out))
  (try simp only [Act.put, List.setIfInBounds_toArray, List.set_cons_zero, List.set_cons_succ])
  have b9_ : ((w9.setCell ⟨gb9, 0, none⟩ (.int .i64 H)).setCell ⟨gb9, 1, none⟩ (.slice (some ⟨gx, 0, none⟩) l.length cx)).heap[gb9]? = some (.cells #[.int .i64 H, .slice (some ⟨gx, 0, none⟩) l.length cx] 69 (0, 0)) := blk_put (cs := #[.int .i64 H, .slice none 0 0]) (blk_put (cs := #[.int .i64 0, .slice none 0 0]) BK9.out 0 _ rfl) 1 _ rfl
  have b2_ : ((w9.setCell ⟨gb9, 0, none⟩ (.int .i64 H)).setCell ⟨gb9, 1, none⟩ (.slice (some ⟨gx, 0, none⟩) l.length cx)).heap[gb2]? = some (.cells #[.int .i64 H, .slice A l.length c] 69 (0, 0)) := blk_far (blk_far BK2.out NB2_9.out _) NB2_9.out _
  have b3_ : ((w9.setCell ⟨gb9, 0, none⟩ (.int .i64 H)).setCell ⟨gb9, 1, none⟩ (.slice (some ⟨gx, 0, none⟩) l.length cx)).heap[gb3]? = some (.cells #[.int .i64 1, .int .i64 b, .int .i64 s] 76 (0, 0)) := blk_far (blk_far BK3.out NB3_9.out _) NB3_9.out _
  have b4_ : ((w9.setCell ⟨gb9, 0, none⟩ (.int .i64 H)).setCell ⟨gb9, 1, none⟩ (.slice (some ⟨gx, 0, none⟩) l.length cx)).heap[gb4]? = some (.cells #[.int .i64 0, .slice none 0 0] 69 (0, 0)) := blk_far (blk_far BK4.out NB4_9.out _) NB4_9.out _
  have b7_ : ((w9.setCell ⟨gb9, 0, none⟩ (.int .i64 H)).setCell ⟨gb9, 1, none⟩ (.slice (some ⟨gx, 0, none⟩) l.length cx)).heap[gb7]? = some (.cells #[.int .i64 H, .slice Aw l.length cw] 69 (0, 0)) := blk_far (blk_far BK7.out NB7_9.out _) NB7_9.out _
  have sHSW_ := Kd.S_mono (Kd.S_far (p := ⟨gb9, 1, none⟩) (Kd.S_far (p := ⟨gb9, 0, none⟩) (Kd.S_types HSW.out BK9.out (by decide)) (fun _ hk => hk.2) (.int .i64 H)) (fun _ hk => hk.2) (.slice (some ⟨gx, 0, none⟩) l.length cx)) (fun _ hk => hk.1)
  have sHSX_ := Kd.S_mono (Kd.S_far (p := ⟨gb9, 1, none⟩) (Kd.S_far (p := ⟨gb9, 0, none⟩) (Kd.S_types HSX.out BK9.out (by decide)) (fun _ hk => hk.2) (.int .i64 H)) (fun _ hk => hk.2) (.slice (some ⟨gx, 0, none⟩) l.length cx)) (fun _ hk => hk.1)
  have hb_ : Below w.heap.size w ((w9.setCell ⟨gb9, 0, none⟩ (.int .i64 H)).setCell ⟨gb9, 1, none⟩ (.slice (some ⟨gx, 0, none⟩) l.length cx)) := below_set (below_set HB.out GE9.out) GE9.out
  try clear hcz2_0 hfz2_0 hcz2_1 hfz2_1
  try clear hcz3_0 hfz3_0 hcz3_1 hfz3_1 hcz3_2 hfz3_2
  try clear hcz4_0 hfz4_0 hcz4_1 hfz4_1
  try clear hcz7_0 hfz7_0 hcz7_1 hfz7_1
  try clear hcz9_0 hfz9_0 hcz9_1 hfz9_1
  try clear hnb2_3 hnc2_3 hnb2_4 hnc2_4 hnb2_7 hnc2_7 hnb2_9 hnc2_9 hnb3_4 hnc3_4 hnb3_7 hnc3_7 hnb3_9 hnc3_9 hnb4_7 hnc4_7 hnb4_9 hnc4_9 hnb7_9 hnc7_9
  generalize (w9.setCell ⟨gb9, 0, none⟩ (.int .i64 H)).setCell ⟨gb9, 1, none⟩ (.slice (some ⟨gx, 0, none⟩) l.length cx) = w10 at b2_ b3_ b4_ b7_ b9_ sHSW_ sHSX_ hb_ ⊢
  clear HB BK2 BK3 BK4 BK7 BK9 HSW HSX
  have HB := Aside0.mk hb_
  clear hb_
  have BK2 := Aside0.mk b2_
  clear b2_
  have BK3 := Aside0.mk b3_
  clear b3_
  have BK4 := Aside0.mk b4_
  clear b4_
  have BK7 := Aside0.mk b7_
  clear b7_
  have BK9 := Aside0.mk b9_
  clear b9_
  have HSW := Aside0.mk sHSW_
  clear sHSW_
  have HSX := Aside0.mk sHSX_
  clear sHSX_
  obtain ⟨hcz2_0, hfz2_0, hcz2_1, hfz2_1⟩ := Yt.c2 BK2.out; obtain ⟨hcz3_0, hfz3_0, hcz3_1, hfz3_1, hcz3_2, hfz3_2⟩ := Yt.c3 BK3.out; obtain ⟨hcz4_0, hfz4_0, hcz4_1, hfz4_1⟩ := Yt.c2 BK4.out; obtain ⟨hcz7_0, hfz7_0, hcz7_1, hfz7_1⟩ := Yt.c2 BK7.out; obtain ⟨hcz9_0, hfz9_0, hcz9_1, hfz9_1⟩ := Yt.c2 BK9.out
  have hnb2_3 := NB2_3.out; have hnc2_3 := Ne.symm NB2_3.out
  have hnb2_4 := NB2_4.out; have hnc2_4 := Ne.symm NB2_4.out
  have hnb2_7 := NB2_7.out; have hnc2_7 := Ne.symm NB2_7.out
  have hnb2_9 := NB2_9.out; have hnc2_9 := Ne.symm NB2_9.out
  have hnb3_4 := NB3_4.out; have hnc3_4 := Ne.symm NB3_4.out
  have hnb3_7 := NB3_7.out; have hnc3_7 := Ne.symm NB3_7.out
  have hnb3_9 := NB3_9.out; have hnc3_9 := Ne.symm NB3_9.out
  have hnb4_7 := NB4_7.out; have hnc4_7 := Ne.symm NB4_7.out
  have hnb4_9 := NB4_9.out; have hnc4_9 := Ne.symm NB4_9.out
  have hnb7_9 := NB7_9.out; have hnc7_9 := Ne.symm NB7_9.out
  go_upto_region 7 with (first | ((with_reducible refine gate_callee (f := 30) rfl ?_); refine goesL_ (some 81) rfl rfl Try.func30 (by kernel_rfl) rfl #[.agg #[.int .i64 H, .slice A l.length c], .int .i64 b] rfl (by (try simp only [List.map_toArray, List.map_cons, List.map_nil]); first | done | rfl) ?_; (with_reducible refine (impl_FindBox.calls 50 H A c l b fa ft true _ ?side1 HC.out HFB.out).mono ?_); (case side1 => exact Kd.C_below HR.out (by exact bel_ HB.out)); rintro e w81 ⟨rfl, hb⟩; refine ⟨_, rfl, ?_⟩; have n0_ := Aside0.mk (below_step (by exact bel_ HB.out) hb); have m2_ := Aside0.mk (bb_ BK2.out hb); have m3_ := Aside0.mk (bb_ BK3.out hb); have m4_ := Aside0.mk (bb_ BK4.out hb); have m7_ := Aside0.mk (bb_ BK7.out hb); have m9_ := Aside0.mk (bb_ BK9.out hb); have mHSW_ := Aside0.mk (Yt.sb HSW.out hb); have mHSX_ := Aside0.mk (Yt.sb HSX.out hb); clear HB; have HB := n0_; clear n0_; clear BK2; have BK2 := m2_; clear m2_; clear BK3; have BK3 := m3_; clear m3_; clear BK4; have BK4 := m4_; clear m4_; clear BK7; have BK7 := m7_; clear m7_; clear BK9; have BK9 := m9_; clear m9_; clear HSW; have HSW := mHSW_; clear mHSW_; clear HSX; have HSX := mHSX_; clear mHSX_; clear hb; obtain ⟨hcz2_0, hfz2_0, hcz2_1, hfz2_1⟩ := Yt.c2 BK2.out; obtain ⟨hcz3_0, hfz3_0, hcz3_1, hfz3_1, hcz3_2, hfz3_2⟩ := Yt.c3 BK3.out; obtain ⟨hcz4_0, hfz4_0, hcz4_1, hfz4_1⟩ := Yt.c2 BK4.out; obtain ⟨hcz7_0, hfz7_0, hcz7_1, hfz7_1⟩ := Yt.c2 BK7.out; obtain ⟨hcz9_0, hfz9_0, hcz9_1, hfz9_1⟩ := Yt.c2 BK9.out))
  (try simp only [Act.put, List.setIfInBounds_toArray, List.set_cons_zero, List.set_cons_succ])
  go_wp2
  refine bodyPost_ret (results_ctt rfl _ _ gb4 69 #[.int .i64 H, .slice Aw l.length cw] (0, 0) _ rfl (by (with_reducible repeat (first | refine blk_drewN ?_ _ | refine blk_drew ?_ | refine blk_alloc ?_ _)); refine blk_put (cs := #[.int .i64 H, .slice none 0 0]) ?_ 1 _ rfl; (with_reducible repeat (first | refine blk_drewN ?_ _ | refine blk_drew ?_ | refine blk_alloc ?_ _)); refine blk_put (cs := #[.int .i64 0, .slice none 0 0]) ?_ 0 _ rfl; (with_reducible repeat (first | refine blk_drewN ?_ _ | refine blk_drew ?_ | refine blk_alloc ?_ _)); exact BK4.out) Try.underlying69 rfl (by kernel_rfl)) rfl ?_
  exact ⟨_, rfl, by (with_reducible repeat (first | apply Kd.S_alloc | apply Kd.S_drewN | apply Kd.S_drew)); exact Kd.S_mono (Kd.S_far (p := ⟨gb4, 1, none⟩) (Kd.S_far (p := ⟨gb4, 0, none⟩) (Kd.S_types HSW.out BK4.out (by decide)) (fun _ hk => hk.2) _) (fun _ hk => hk.2) _) (fun _ hk => trivial), by exact bel_ HB.out⟩
set_option maxHeartbeats 8000000 in
set_option maxRecDepth 100000 in
theorem impl_DoYard.in_full (H : Int) (A : Option Addr) (c : Nat) (l : List (List Int)) (b s : Int) (w : World) (hr0 : Kd.C (Kd.slice 3 (Kd.int .i64)) w A l.length l) (hc0 : l.length ≤ c) (hs1 : l.length ≤ 1000) (hs2 : ∀ x ∈ l, x.length ≤ 100) (hok : impl_YardOk.f H l = some true) (hst : impl_in.f s 0 ((l.length : Int) - 1) = some true) (hid : impl_idRight.f b = some true) (fa ft : Int) (hfb : impl_FindBox.f 50 H l b = some (fa, ft, false)) (hlen : 0 < l.length) (hs0 : 0 ≤ s) (hs9 : s < (l.length : Int)) (hfl : (((rd_L2 l s).length : Int) == H) = true) :
    Calls Try.prog 31 #[.agg #[.int .i64 H, .slice A l.length c], .agg #[.int .i64 1, .int .i64 b, .int .i64 s]] w fun e w' => ∃ v0_ : Value, e = .returned (.tuple #[.agg #[.int .i64 H, v0_], .int .i64 0, .int .i64 4]) ∧ Kd.S (Kd.slice 3 (Kd.int .i64)) 28 w' w.heap.size (fun _ => True) v0_ l ∧ Below w.heap.size w w' := by
  have hu69 := Try.underlying69
  have hu76 := Try.underlying76
  have HR := Aside0.mk hr0
  have HC := Aside0.mk hc0
  have HS1 := Aside0.mk hs1
  have HS2 := Aside0.mk hs2
  have HF := Aside0.mk (show impl_Yard_own.f H l = some (H, l) from if_pos ⟨hs1, fun x hx => Nat.le_trans (hs2 x hx) (by omega)⟩)
  clear hr0 hc0 hs1 hs2
  obtain ⟨nn, hnn⟩ : ∃ nn : Int, nn = (l.length : Int) - 1 := ⟨_, rfl⟩
  have hwn : wrap64 ((l.length : Int) - 1) = nn := by rw [← hnn]; exact impl_YardOk.w64 (by omega) (by have := HS1.out; omega)
  have HNN := Aside0.mk hnn
  clear hnn
  have HOK := Aside0.mk hok
  clear hok
  have HFB := Aside0.mk hfb
  have HLEN := Aside0.mk hlen
  clear hfb hlen
  have AK := Aside0.mk (show impl_in.f 1 1 3 = some true from rfl)
  rw [← HNN.out] at hst
  have AST := Aside0.mk hst
  clear hst
  have AID := Aside0.mk hid
  clear hid
  have h0s := hs0
  have h1s := hs9
  clear hs0 hs9
  have HB := Aside0.mk (Below.refl w.heap.size w)
  go_enter Try.func31, Try.ntmps31
  go_upto_region 2 with (first | ((with_reducible refine gate_dst (N := 2) rfl ?_); refine box_event ?hg (N := 2) ?hd (cs := #[.int .i64 H, .slice A l.length c]) (t := 69) ?hr ?_; (case hd => rfl); (case hg => rfl); (case hr => first | (go_simp; done) | (go_simp; rfl)); intro gb2 hg w2 hbox hb; have q1_ := Aside0.mk hbox; have q2_ := Aside0.mk ((by rw [hg]; exact (below_size (by exact bel_ HB.out))) : w.heap.size ≤ gb2); have n0_ := Aside0.mk (below_step (by exact bel_ HB.out) hb); clear HB; have HB := n0_; clear n0_; have BK2 := q1_; have GE2 := q2_; clear q1_ q2_; clear hb hbox hg; obtain ⟨hcz2_0, hfz2_0, hcz2_1, hfz2_1⟩ := Yt.c2 BK2.out) | ((with_reducible refine gate_dst (N := 3) rfl ?_); refine box_event ?hg (N := 3) ?hd (cs := #[.int .i64 1, .int .i64 b, .int .i64 s]) (t := 76) ?hr ?_; (case hd => rfl); (case hg => rfl); (case hr => first | (go_simp; done) | (go_simp; rfl)); intro gb3 hg w3 hbox hb; have q1_ := Aside0.mk hbox; have q2_ := Aside0.mk ((by rw [hg]; exact (below_size (by exact bel_ HB.out))) : w.heap.size ≤ gb3); have NB2_3 := Aside0.mk (nl_ BK2.out hg); have n0_ := Aside0.mk (below_step (by exact bel_ HB.out) hb); have m2_ := Aside0.mk (bb_ BK2.out hb); clear HB; have HB := n0_; clear n0_; clear BK2; have BK2 := m2_; clear m2_; have BK3 := q1_; have GE3 := q2_; clear q1_ q2_; clear hb hbox hg; obtain ⟨hcz2_0, hfz2_0, hcz2_1, hfz2_1⟩ := Yt.c2 BK2.out; obtain ⟨hcz3_0, hfz3_0, hcz3_1, hfz3_1, hcz3_2, hfz3_2⟩ := Yt.c3 BK3.out; have hnb2_3 := NB2_3.out; have hnc2_3 := Ne.symm NB2_3.out) | ((with_reducible refine gate_dst (N := 4) rfl ?_); refine box_event ?hg (N := 4) ?hd (cs := #[.int .i64 0, .slice none 0 0]) (t := 69) ?hr ?_; (case hd => rfl); (case hg => rfl); (case hr => first | (go_simp; done) | (go_simp; rfl)); intro gb4 hg w4 hbox hb; have q1_ := Aside0.mk hbox; have q2_ := Aside0.mk ((by rw [hg]; exact (below_size (by exact bel_ HB.out))) : w.heap.size ≤ gb4); have NB2_4 := Aside0.mk (nl_ BK2.out hg); have NB3_4 := Aside0.mk (nl_ BK3.out hg); have n0_ := Aside0.mk (below_step (by exact bel_ HB.out) hb); have m2_ := Aside0.mk (bb_ BK2.out hb); have m3_ := Aside0.mk (bb_ BK3.out hb); clear HB; have HB := n0_; clear n0_; clear BK2; have BK2 := m2_; clear m2_; clear BK3; have BK3 := m3_; clear m3_; have BK4 := q1_; have GE4 := q2_; clear q1_ q2_; clear hb hbox hg; obtain ⟨hcz2_0, hfz2_0, hcz2_1, hfz2_1⟩ := Yt.c2 BK2.out; obtain ⟨hcz3_0, hfz3_0, hcz3_1, hfz3_1, hcz3_2, hfz3_2⟩ := Yt.c3 BK3.out; obtain ⟨hcz4_0, hfz4_0, hcz4_1, hfz4_1⟩ := Yt.c2 BK4.out; have hnb2_4 := NB2_4.out; have hnc2_4 := Ne.symm NB2_4.out; have hnb3_4 := NB3_4.out; have hnc3_4 := Ne.symm NB3_4.out) | ((with_reducible refine gate_callee (f := 71) rfl ?_); refine goesL_ (some 18) rfl rfl Try.func71 (by kernel_rfl) rfl #[.agg #[.int .i64 H, .slice A l.length c]] rfl (by (try simp only [List.map_toArray, List.map_cons, List.map_nil]); first | done | rfl) ?_; (with_reducible refine (impl_Yard_own.calls H A c l H l _ ?side1 HC.out HF.out).mono ?_); (case side1 => exact Kd.C_below HR.out (by exact bel_ HB.out)); rintro e w18 ⟨v18, rfl, hS, hb⟩; refine ⟨_, rfl, ?_⟩; obtain ⟨Aw, cw, ew⟩ := Kd.S_slice hS; subst ew; have HSW := Aside0.mk (Kd.S_lower hS (below_size (by exact bel_ HB.out))); have n0_ := Aside0.mk (below_step (by exact bel_ HB.out) hb); have m2_ := Aside0.mk (bb_ BK2.out hb); have m3_ := Aside0.mk (bb_ BK3.out hb); have m4_ := Aside0.mk (bb_ BK4.out hb); clear HB; have HB := n0_; clear n0_; clear BK2; have BK2 := m2_; clear m2_; clear BK3; have BK3 := m3_; clear m3_; clear BK4; have BK4 := m4_; clear m4_; clear hb hS; obtain ⟨hcz2_0, hfz2_0, hcz2_1, hfz2_1⟩ := Yt.c2 BK2.out; obtain ⟨hcz3_0, hfz3_0, hcz3_1, hfz3_1, hcz3_2, hfz3_2⟩ := Yt.c3 BK3.out; obtain ⟨hcz4_0, hfz4_0, hcz4_1, hfz4_1⟩ := Yt.c2 BK4.out) | ((with_reducible refine gate_dst (N := 7) rfl ?_); refine box_event ?hg (N := 7) ?hd (cs := #[.int .i64 0, .slice none 0 0]) (t := 69) ?hr ?_; (case hd => rfl); (case hg => rfl); (case hr => first | (go_simp; done) | (go_simp; rfl)); intro gb7 hg w7 hbox hb; have q1_ := Aside0.mk hbox; have q2_ := Aside0.mk ((by rw [hg]; exact (below_size (by exact bel_ HB.out))) : w.heap.size ≤ gb7); have NB2_7 := Aside0.mk (nl_ BK2.out hg); have NB3_7 := Aside0.mk (nl_ BK3.out hg); have NB4_7 := Aside0.mk (nl_ BK4.out hg); have n0_ := Aside0.mk (below_step (by exact bel_ HB.out) hb); have m2_ := Aside0.mk (bb_ BK2.out hb); have m3_ := Aside0.mk (bb_ BK3.out hb); have m4_ := Aside0.mk (bb_ BK4.out hb); have mHSW_ := Aside0.mk (Yt.sb HSW.out hb); clear HB; have HB := n0_; clear n0_; clear BK2; have BK2 := m2_; clear m2_; clear BK3; have BK3 := m3_; clear m3_; clear BK4; have BK4 := m4_; clear m4_; clear HSW; have HSW := mHSW_; clear mHSW_; have BK7 := q1_; have GE7 := q2_; clear q1_ q2_; clear hb hbox hg; obtain ⟨hcz2_0, hfz2_0, hcz2_1, hfz2_1⟩ := Yt.c2 BK2.out; obtain ⟨hcz3_0, hfz3_0, hcz3_1, hfz3_1, hcz3_2, hfz3_2⟩ := Yt.c3 BK3.out; obtain ⟨hcz4_0, hfz4_0, hcz4_1, hfz4_1⟩ := Yt.c2 BK4.out; obtain ⟨hcz7_0, hfz7_0, hcz7_1, hfz7_1⟩ := Yt.c2 BK7.out; have hnb2_7 := NB2_7.out; have hnc2_7 := Ne.symm NB2_7.out; have hnb3_7 := NB3_7.out; have hnc3_7 := Ne.symm NB3_7.out; have hnb4_7 := NB4_7.out; have hnc4_7 := Ne.symm NB4_7.out))
  (try simp only [Act.put, List.setIfInBounds_toArray, List.set_cons_zero, List.set_cons_succ])
  have b7_ : ((w7.setCell ⟨gb7, 0, none⟩ (.int .i64 H)).setCell ⟨gb7, 1, none⟩ (.slice Aw l.length cw)).heap[gb7]? = some (.cells #[.int .i64 H, .slice Aw l.length cw] 69 (0, 0)) := blk_put (cs := #[.int .i64 H, .slice none 0 0]) (blk_put (cs := #[.int .i64 0, .slice none 0 0]) BK7.out 0 _ rfl) 1 _ rfl
  have b2_ : ((w7.setCell ⟨gb7, 0, none⟩ (.int .i64 H)).setCell ⟨gb7, 1, none⟩ (.slice Aw l.length cw)).heap[gb2]? = some (.cells #[.int .i64 H, .slice A l.length c] 69 (0, 0)) := blk_far (blk_far BK2.out NB2_7.out _) NB2_7.out _
  have b3_ : ((w7.setCell ⟨gb7, 0, none⟩ (.int .i64 H)).setCell ⟨gb7, 1, none⟩ (.slice Aw l.length cw)).heap[gb3]? = some (.cells #[.int .i64 1, .int .i64 b, .int .i64 s] 76 (0, 0)) := blk_far (blk_far BK3.out NB3_7.out _) NB3_7.out _
  have b4_ : ((w7.setCell ⟨gb7, 0, none⟩ (.int .i64 H)).setCell ⟨gb7, 1, none⟩ (.slice Aw l.length cw)).heap[gb4]? = some (.cells #[.int .i64 0, .slice none 0 0] 69 (0, 0)) := blk_far (blk_far BK4.out NB4_7.out _) NB4_7.out _
  have sHSW_ := Kd.S_mono (Kd.S_far (p := ⟨gb7, 1, none⟩) (Kd.S_far (p := ⟨gb7, 0, none⟩) (Kd.S_types HSW.out BK7.out (by decide)) (fun _ hk => hk.2) (.int .i64 H)) (fun _ hk => hk.2) (.slice Aw l.length cw)) (fun _ hk => hk.1)
  have hb_ : Below w.heap.size w ((w7.setCell ⟨gb7, 0, none⟩ (.int .i64 H)).setCell ⟨gb7, 1, none⟩ (.slice Aw l.length cw)) := below_set (below_set HB.out GE7.out) GE7.out
  try clear hcz2_0 hfz2_0 hcz2_1 hfz2_1
  try clear hcz3_0 hfz3_0 hcz3_1 hfz3_1 hcz3_2 hfz3_2
  try clear hcz4_0 hfz4_0 hcz4_1 hfz4_1
  try clear hcz7_0 hfz7_0 hcz7_1 hfz7_1
  try clear hnb2_3 hnc2_3 hnb2_4 hnc2_4 hnb2_7 hnc2_7 hnb3_4 hnc3_4 hnb3_7 hnc3_7 hnb4_7 hnc4_7
  generalize (w7.setCell ⟨gb7, 0, none⟩ (.int .i64 H)).setCell ⟨gb7, 1, none⟩ (.slice Aw l.length cw) = w8 at b2_ b3_ b4_ b7_ sHSW_ hb_ ⊢
  clear HB BK2 BK3 BK4 BK7 HSW
  have HB := Aside0.mk hb_
  clear hb_
  have BK2 := Aside0.mk b2_
  clear b2_
  have BK3 := Aside0.mk b3_
  clear b3_
  have BK4 := Aside0.mk b4_
  clear b4_
  have BK7 := Aside0.mk b7_
  clear b7_
  have HSW := Aside0.mk sHSW_
  clear sHSW_
  obtain ⟨hcz2_0, hfz2_0, hcz2_1, hfz2_1⟩ := Yt.c2 BK2.out; obtain ⟨hcz3_0, hfz3_0, hcz3_1, hfz3_1, hcz3_2, hfz3_2⟩ := Yt.c3 BK3.out; obtain ⟨hcz4_0, hfz4_0, hcz4_1, hfz4_1⟩ := Yt.c2 BK4.out; obtain ⟨hcz7_0, hfz7_0, hcz7_1, hfz7_1⟩ := Yt.c2 BK7.out
  have hnb2_3 := NB2_3.out; have hnc2_3 := Ne.symm NB2_3.out
  have hnb2_4 := NB2_4.out; have hnc2_4 := Ne.symm NB2_4.out
  have hnb2_7 := NB2_7.out; have hnc2_7 := Ne.symm NB2_7.out
  have hnb3_4 := NB3_4.out; have hnc3_4 := Ne.symm NB3_4.out
  have hnb3_7 := NB3_7.out; have hnc3_7 := Ne.symm NB3_7.out
  have hnb4_7 := NB4_7.out; have hnc4_7 := Ne.symm NB4_7.out
  go_upto_region 5 with (first | ((with_reducible refine gate_callee (f := 32) rfl ?_); refine goesL_ (some 24) rfl rfl Try.func32 (by kernel_rfl) rfl #[.agg #[.int .i64 H, .slice A l.length c]] rfl (by (try simp only [List.map_toArray, List.map_cons, List.map_nil]); first | done | rfl) ?_; (with_reducible refine (impl_YardOk.calls H A c l true _ ?side1 HC.out HOK.out).mono ?_); (case side1 => exact Kd.C_below HR.out (by exact bel_ HB.out)); rintro e w24 ⟨rfl, hb⟩; refine ⟨_, rfl, ?_⟩; have n0_ := Aside0.mk (below_step (by exact bel_ HB.out) hb); have m2_ := Aside0.mk (bb_ BK2.out hb); have m3_ := Aside0.mk (bb_ BK3.out hb); have m4_ := Aside0.mk (bb_ BK4.out hb); have m7_ := Aside0.mk (bb_ BK7.out hb); have mHSW_ := Aside0.mk (Yt.sb HSW.out hb); clear HB; have HB := n0_; clear n0_; clear BK2; have BK2 := m2_; clear m2_; clear BK3; have BK3 := m3_; clear m3_; clear BK4; have BK4 := m4_; clear m4_; clear BK7; have BK7 := m7_; clear m7_; clear HSW; have HSW := mHSW_; clear mHSW_; clear hb; obtain ⟨hcz2_0, hfz2_0, hcz2_1, hfz2_1⟩ := Yt.c2 BK2.out; obtain ⟨hcz3_0, hfz3_0, hcz3_1, hfz3_1, hcz3_2, hfz3_2⟩ := Yt.c3 BK3.out; obtain ⟨hcz4_0, hfz4_0, hcz4_1, hfz4_1⟩ := Yt.c2 BK4.out; obtain ⟨hcz7_0, hfz7_0, hcz7_1, hfz7_1⟩ := Yt.c2 BK7.out) | (go_at_call 48; (with_reducible refine (impl_in.calls 1 1 3 true _ AK.out).mono ?_); rintro e w' ⟨rfl, ⟨nd, rfl⟩⟩; (try first | exact ⟨rfl, _, World.drewN_drewN _ _ _⟩ | exact ⟨rfl, _, Eq.trans (World.drewN_drewN _ _ _) (congrArg (World.drewN _) (Nat.add_assoc _ _ _))⟩)) | (go_at_call 48; (with_reducible refine (impl_in.calls s 0 nn true _ AST.out).mono ?_); rintro e w' ⟨rfl, ⟨nd, rfl⟩⟩; (try first | exact ⟨rfl, _, World.drewN_drewN _ _ _⟩ | exact ⟨rfl, _, Eq.trans (World.drewN_drewN _ _ _) (congrArg (World.drewN _) (Nat.add_assoc _ _ _))⟩)) | (go_at_call 72; (with_reducible refine (impl_idRight.calls b true _ AID.out).mono ?_); rintro e w' ⟨rfl, ⟨nd, rfl⟩⟩; (try first | exact ⟨rfl, _, World.drewN_drewN _ _ _⟩ | exact ⟨rfl, _, Eq.trans (World.drewN_drewN _ _ _) (congrArg (World.drewN _) (Nat.add_assoc _ _ _))⟩)))
  repeat (go_quiet (first | (go_at_call 48; (with_reducible refine (impl_in.calls 1 1 3 true _ AK.out).mono ?_); rintro e w' ⟨rfl, ⟨nd, rfl⟩⟩; (try first | exact ⟨rfl, _, World.drewN_drewN _ _ _⟩ | exact ⟨rfl, _, Eq.trans (World.drewN_drewN _ _ _) (congrArg (World.drewN _) (Nat.add_assoc _ _ _))⟩)) | (go_at_call 48; (with_reducible refine (impl_in.calls s 0 nn true _ AST.out).mono ?_); rintro e w' ⟨rfl, ⟨nd, rfl⟩⟩; (try first | exact ⟨rfl, _, World.drewN_drewN _ _ _⟩ | exact ⟨rfl, _, Eq.trans (World.drewN_drewN _ _ _) (congrArg (World.drewN _) (Nat.add_assoc _ _ _))⟩)) | (go_at_call 72; (with_reducible refine (impl_idRight.calls b true _ AID.out).mono ?_); rintro e w' ⟨rfl, ⟨nd, rfl⟩⟩; (try first | exact ⟨rfl, _, World.drewN_drewN _ _ _⟩ | exact ⟨rfl, _, Eq.trans (World.drewN_drewN _ _ _) (congrArg (World.drewN _) (Nat.add_assoc _ _ _))⟩))); try go_upto_region 5 with (first | (go_at_call 48; (with_reducible refine (impl_in.calls 1 1 3 true _ AK.out).mono ?_); rintro e w' ⟨rfl, ⟨nd, rfl⟩⟩; (try first | exact ⟨rfl, _, World.drewN_drewN _ _ _⟩ | exact ⟨rfl, _, Eq.trans (World.drewN_drewN _ _ _) (congrArg (World.drewN _) (Nat.add_assoc _ _ _))⟩)) | (go_at_call 48; (with_reducible refine (impl_in.calls s 0 nn true _ AST.out).mono ?_); rintro e w' ⟨rfl, ⟨nd, rfl⟩⟩; (try first | exact ⟨rfl, _, World.drewN_drewN _ _ _⟩ | exact ⟨rfl, _, Eq.trans (World.drewN_drewN _ _ _) (congrArg (World.drewN _) (Nat.add_assoc _ _ _))⟩)) | (go_at_call 72; (with_reducible refine (impl_idRight.calls b true _ AID.out).mono ?_); rintro e w' ⟨rfl, ⟨nd, rfl⟩⟩; (try first | exact ⟨rfl, _, World.drewN_drewN _ _ _⟩ | exact ⟨rfl, _, Eq.trans (World.drewN_drewN _ _ _) (congrArg (World.drewN _) (Nat.add_assoc _ _ _))⟩))))
  (try simp only [Act.put, List.setIfInBounds_toArray, List.set_cons_zero, List.set_cons_succ])
  obtain ⟨M, hM⟩ : ∃ M, M = w24.heap.size := ⟨_, rfl⟩
  have HM := Aside0.mk hM
  have HMW : Aside0 (w.heap.size ≤ M) := ⟨by rw [hM]; exact HB.out.size⟩
  clear hM
  go_upto_region 6 with (first | ((with_reducible refine gate_callee (f := 71) rfl ?_); refine goesL_ (some 76) rfl rfl Try.func71 (by kernel_rfl) rfl #[.agg #[.int .i64 H, .slice A l.length c]] rfl (by (try simp only [List.map_toArray, List.map_cons, List.map_nil]); first | done | rfl) ?_; (with_reducible refine (impl_Yard_own.calls H A c l H l _ ?side1 HC.out HF.out).mono ?_); (case side1 => exact Kd.C_below HR.out (by exact bel_ HB.out)); rintro e w76 ⟨v76, rfl, hS, hb⟩; refine ⟨_, rfl, ?_⟩; obtain ⟨gx, cx, ex, hgx, hgl, _⟩ := Kd.S_form hS HLEN.out; subst ex; have HGX : Aside0 (M ≤ gx) := ⟨by rw [HM.out]; exact hgx⟩; have mW_ := Aside0.mk (Kd.S_below (Kd.S_mono (ok' := fun k => k < M) (Kd.S_bound (Yt.sp HSW.out)) (fun k hk => by rw [HM.out]; exact hk.2.2.1)) hb); have HSX := Aside0.mk (Kd.S_lower (Kd.S_mono (ok' := fun k => M ≤ k) (Kd.S_bound hS) (fun k hk => by rw [HM.out]; exact hk.2.1)) (below_size (by exact bel_ HB.out))); have n0_ := Aside0.mk (below_step (by exact bel_ HB.out) hb); have m2_ := Aside0.mk (bb_ BK2.out hb); have m3_ := Aside0.mk (bb_ BK3.out hb); have m4_ := Aside0.mk (bb_ BK4.out hb); have m7_ := Aside0.mk (bb_ BK7.out hb); clear HB; have HB := n0_; clear n0_; clear BK2; have BK2 := m2_; clear m2_; clear BK3; have BK3 := m3_; clear m3_; clear BK4; have BK4 := m4_; clear m4_; clear BK7; have BK7 := m7_; clear m7_; clear HSW; have HSW := mW_; clear mW_; clear hb hS hgx hgl; obtain ⟨hcz2_0, hfz2_0, hcz2_1, hfz2_1⟩ := Yt.c2 BK2.out; obtain ⟨hcz3_0, hfz3_0, hcz3_1, hfz3_1, hcz3_2, hfz3_2⟩ := Yt.c3 BK3.out; obtain ⟨hcz4_0, hfz4_0, hcz4_1, hfz4_1⟩ := Yt.c2 BK4.out; obtain ⟨hcz7_0, hfz7_0, hcz7_1, hfz7_1⟩ := Yt.c2 BK7.out) | ((with_reducible refine gate_dst (N := 9) rfl ?_); refine box_event ?hg (N := 9) ?hd (cs := #[.int .i64 0, .slice none 0 0]) (t := 69) ?hr ?_; (case hd => rfl); (case hg => rfl); (case hr => first | (go_simp; done) | (go_simp; rfl)); intro gb9 hg w9 hbox hb; have q1_ := Aside0.mk hbox; have q2_ := Aside0.mk ((by rw [hg]; exact (below_size (by exact bel_ HB.out))) : w.heap.size ≤ gb9); have NB2_9 := Aside0.mk (nl_ BK2.out hg); have NB3_9 := Aside0.mk (nl_ BK3.out hg); have NB4_9 := Aside0.mk (nl_ BK4.out hg); have NB7_9 := Aside0.mk (nl_ BK7.out hg); have n0_ := Aside0.mk (below_step (by exact bel_ HB.out) hb); have m2_ := Aside0.mk (bb_ BK2.out hb); have m3_ := Aside0.mk (bb_ BK3.out hb); have m4_ := Aside0.mk (bb_ BK4.out hb); have m7_ := Aside0.mk (bb_ BK7.out hb); have mHSW_ := Aside0.mk (Yt.sb HSW.out hb); have mHSX_ := Aside0.mk (Yt.sb HSX.out hb); clear HB; have HB := n0_; clear n0_; clear BK2; have BK2 := m2_; clear m2_; clear BK3; have BK3 := m3_; clear m3_; clear BK4; have BK4 := m4_; clear m4_; clear BK7; have BK7 := m7_; clear m7_; clear HSW; have HSW := mHSW_; clear mHSW_; clear HSX; have HSX := mHSX_; clear mHSX_; have BK9 := q1_; have GE9 := q2_; clear q1_ q2_; clear hb hbox hg; obtain ⟨hcz2_0, hfz2_0, hcz2_1, hfz2_1⟩ := Yt.c2 BK2.out; obtain ⟨hcz3_0, hfz3_0, hcz3_1, hfz3_1, hcz3_2, hfz3_2⟩ := Yt.c3 BK3.out; obtain ⟨hcz4_0, hfz4_0, hcz4_1, hfz4_1⟩ := Yt.c2 BK4.out; obtain ⟨hcz7_0, hfz7_0, hcz7_1, hfz7_1⟩ := Yt.c2 BK7.out; obtain ⟨hcz9_0, hfz9_0, hcz9_1, hfz9_1⟩ := Yt.c2 BK9.out; have hnb2_9 := NB2_9.out; have hnc2_9 := Ne.symm NB2_9.out; have hnb3_9 := NB3_9.out; have hnc3_9 := Ne.symm NB3_9.out; have hnb4_9 := NB4_9.out; have hnc4_9 := Ne.symm NB4_9.out; have hnb7_9 := NB7_9.out; have hnc7_9 := Ne.symm NB7_9.out))
  (try simp only [Act.put, List.setIfInBounds_toArray, List.set_cons_zero, List.set_cons_succ])
  have b9_ : ((w9.setCell ⟨gb9, 0, none⟩ (.int .i64 H)).setCell ⟨gb9, 1, none⟩ (.slice (some ⟨gx, 0, none⟩) l.length cx)).heap[gb9]? = some (.cells #[.int .i64 H, .slice (some ⟨gx, 0, none⟩) l.length cx] 69 (0, 0)) := blk_put (cs := #[.int .i64 H, .slice none 0 0]) (blk_put (cs := #[.int .i64 0, .slice none 0 0]) BK9.out 0 _ rfl) 1 _ rfl
  have b2_ : ((w9.setCell ⟨gb9, 0, none⟩ (.int .i64 H)).setCell ⟨gb9, 1, none⟩ (.slice (some ⟨gx, 0, none⟩) l.length cx)).heap[gb2]? = some (.cells #[.int .i64 H, .slice A l.length c] 69 (0, 0)) := blk_far (blk_far BK2.out NB2_9.out _) NB2_9.out _
  have b3_ : ((w9.setCell ⟨gb9, 0, none⟩ (.int .i64 H)).setCell ⟨gb9, 1, none⟩ (.slice (some ⟨gx, 0, none⟩) l.length cx)).heap[gb3]? = some (.cells #[.int .i64 1, .int .i64 b, .int .i64 s] 76 (0, 0)) := blk_far (blk_far BK3.out NB3_9.out _) NB3_9.out _
  have b4_ : ((w9.setCell ⟨gb9, 0, none⟩ (.int .i64 H)).setCell ⟨gb9, 1, none⟩ (.slice (some ⟨gx, 0, none⟩) l.length cx)).heap[gb4]? = some (.cells #[.int .i64 0, .slice none 0 0] 69 (0, 0)) := blk_far (blk_far BK4.out NB4_9.out _) NB4_9.out _
  have b7_ : ((w9.setCell ⟨gb9, 0, none⟩ (.int .i64 H)).setCell ⟨gb9, 1, none⟩ (.slice (some ⟨gx, 0, none⟩) l.length cx)).heap[gb7]? = some (.cells #[.int .i64 H, .slice Aw l.length cw] 69 (0, 0)) := blk_far (blk_far BK7.out NB7_9.out _) NB7_9.out _
  have sHSW_ := Kd.S_mono (Kd.S_far (p := ⟨gb9, 1, none⟩) (Kd.S_far (p := ⟨gb9, 0, none⟩) (Kd.S_types HSW.out BK9.out (by decide)) (fun _ hk => hk.2) (.int .i64 H)) (fun _ hk => hk.2) (.slice (some ⟨gx, 0, none⟩) l.length cx)) (fun _ hk => hk.1)
  have sHSX_ := Kd.S_mono (Kd.S_far (p := ⟨gb9, 1, none⟩) (Kd.S_far (p := ⟨gb9, 0, none⟩) (Kd.S_types HSX.out BK9.out (by decide)) (fun _ hk => hk.2) (.int .i64 H)) (fun _ hk => hk.2) (.slice (some ⟨gx, 0, none⟩) l.length cx)) (fun _ hk => hk.1)
  have hb_ : Below w.heap.size w ((w9.setCell ⟨gb9, 0, none⟩ (.int .i64 H)).setCell ⟨gb9, 1, none⟩ (.slice (some ⟨gx, 0, none⟩) l.length cx)) := below_set (below_set HB.out GE9.out) GE9.out
  try clear hcz2_0 hfz2_0 hcz2_1 hfz2_1
  try clear hcz3_0 hfz3_0 hcz3_1 hfz3_1 hcz3_2 hfz3_2
  try clear hcz4_0 hfz4_0 hcz4_1 hfz4_1
  try clear hcz7_0 hfz7_0 hcz7_1 hfz7_1
  try clear hcz9_0 hfz9_0 hcz9_1 hfz9_1
  try clear hnb2_3 hnc2_3 hnb2_4 hnc2_4 hnb2_7 hnc2_7 hnb2_9 hnc2_9 hnb3_4 hnc3_4 hnb3_7 hnc3_7 hnb3_9 hnc3_9 hnb4_7 hnc4_7 hnb4_9 hnc4_9 hnb7_9 hnc7_9
  generalize (w9.setCell ⟨gb9, 0, none⟩ (.int .i64 H)).setCell ⟨gb9, 1, none⟩ (.slice (some ⟨gx, 0, none⟩) l.length cx) = w10 at b2_ b3_ b4_ b7_ b9_ sHSW_ sHSX_ hb_ ⊢
  clear HB BK2 BK3 BK4 BK7 BK9 HSW HSX
  have HB := Aside0.mk hb_
  clear hb_
  have BK2 := Aside0.mk b2_
  clear b2_
  have BK3 := Aside0.mk b3_
  clear b3_
  have BK4 := Aside0.mk b4_
  clear b4_
  have BK7 := Aside0.mk b7_
  clear b7_
  have BK9 := Aside0.mk b9_
  clear b9_
  have HSW := Aside0.mk sHSW_
  clear sHSW_
  have HSX := Aside0.mk sHSX_
  clear sHSX_
  obtain ⟨hcz2_0, hfz2_0, hcz2_1, hfz2_1⟩ := Yt.c2 BK2.out; obtain ⟨hcz3_0, hfz3_0, hcz3_1, hfz3_1, hcz3_2, hfz3_2⟩ := Yt.c3 BK3.out; obtain ⟨hcz4_0, hfz4_0, hcz4_1, hfz4_1⟩ := Yt.c2 BK4.out; obtain ⟨hcz7_0, hfz7_0, hcz7_1, hfz7_1⟩ := Yt.c2 BK7.out; obtain ⟨hcz9_0, hfz9_0, hcz9_1, hfz9_1⟩ := Yt.c2 BK9.out
  have hnb2_3 := NB2_3.out; have hnc2_3 := Ne.symm NB2_3.out
  have hnb2_4 := NB2_4.out; have hnc2_4 := Ne.symm NB2_4.out
  have hnb2_7 := NB2_7.out; have hnc2_7 := Ne.symm NB2_7.out
  have hnb2_9 := NB2_9.out; have hnc2_9 := Ne.symm NB2_9.out
  have hnb3_4 := NB3_4.out; have hnc3_4 := Ne.symm NB3_4.out
  have hnb3_7 := NB3_7.out; have hnc3_7 := Ne.symm NB3_7.out
  have hnb3_9 := NB3_9.out; have hnc3_9 := Ne.symm NB3_9.out
  have hnb4_7 := NB4_7.out; have hnc4_7 := Ne.symm NB4_7.out
  have hnb4_9 := NB4_9.out; have hnc4_9 := Ne.symm NB4_9.out
  have hnb7_9 := NB7_9.out; have hnc7_9 := Ne.symm NB7_9.out
  go_upto_region 7 with (first | ((with_reducible refine gate_callee (f := 30) rfl ?_); refine goesL_ (some 81) rfl rfl Try.func30 (by kernel_rfl) rfl #[.agg #[.int .i64 H, .slice A l.length c], .int .i64 b] rfl (by (try simp only [List.map_toArray, List.map_cons, List.map_nil]); first | done | rfl) ?_; (with_reducible refine (impl_FindBox.calls 50 H A c l b fa ft false _ ?side1 HC.out HFB.out).mono ?_); (case side1 => exact Kd.C_below HR.out (by exact bel_ HB.out)); rintro e w81 ⟨rfl, hb⟩; refine ⟨_, rfl, ?_⟩; have n0_ := Aside0.mk (below_step (by exact bel_ HB.out) hb); have m2_ := Aside0.mk (bb_ BK2.out hb); have m3_ := Aside0.mk (bb_ BK3.out hb); have m4_ := Aside0.mk (bb_ BK4.out hb); have m7_ := Aside0.mk (bb_ BK7.out hb); have m9_ := Aside0.mk (bb_ BK9.out hb); have mHSW_ := Aside0.mk (Yt.sb HSW.out hb); have mHSX_ := Aside0.mk (Yt.sb HSX.out hb); clear HB; have HB := n0_; clear n0_; clear BK2; have BK2 := m2_; clear m2_; clear BK3; have BK3 := m3_; clear m3_; clear BK4; have BK4 := m4_; clear m4_; clear BK7; have BK7 := m7_; clear m7_; clear BK9; have BK9 := m9_; clear m9_; clear HSW; have HSW := mHSW_; clear mHSW_; clear HSX; have HSX := mHSX_; clear mHSX_; clear hb; obtain ⟨hcz2_0, hfz2_0, hcz2_1, hfz2_1⟩ := Yt.c2 BK2.out; obtain ⟨hcz3_0, hfz3_0, hcz3_1, hfz3_1, hcz3_2, hfz3_2⟩ := Yt.c3 BK3.out; obtain ⟨hcz4_0, hfz4_0, hcz4_1, hfz4_1⟩ := Yt.c2 BK4.out; obtain ⟨hcz7_0, hfz7_0, hcz7_1, hfz7_1⟩ := Yt.c2 BK7.out; obtain ⟨hcz9_0, hfz9_0, hcz9_1, hfz9_1⟩ := Yt.c2 BK9.out))
  (try simp only [Act.put, List.setIfInBounds_toArray, List.set_cons_zero, List.set_cons_succ])
  obtain ⟨As, cs, hxs, hcs, hCs⟩ := Yt.get HSX.out s h0s h1s
  obtain ⟨ss, hss⟩ : ∃ q, q = rd_L2 l s := ⟨_, rfl⟩
  rw [← hss] at hxs hcs hCs
  have HSs := Aside0.mk hss
  clear hss
  have q0s : (0 ≤ s) = True := eq_true h0s
  have q1s : (s < (l.length : Int)) = True := eq_true h1s
  rw [← HSs.out] at hfl
  go_wp2
  repeat (go_quiet (fail); try go_wp2)
  refine bodyPost_ret (results_ctt rfl _ _ gb4 69 #[.int .i64 H, .slice Aw l.length cw] (0, 0) _ rfl (by (with_reducible repeat (first | refine blk_drewN ?_ _ | refine blk_drew ?_ | refine blk_alloc ?_ _)); refine blk_put (cs := #[.int .i64 H, .slice none 0 0]) ?_ 1 _ rfl; (with_reducible repeat (first | refine blk_drewN ?_ _ | refine blk_drew ?_ | refine blk_alloc ?_ _)); refine blk_put (cs := #[.int .i64 0, .slice none 0 0]) ?_ 0 _ rfl; (with_reducible repeat (first | refine blk_drewN ?_ _ | refine blk_drew ?_ | refine blk_alloc ?_ _)); exact BK4.out) Try.underlying69 rfl (by kernel_rfl)) rfl ?_
  exact ⟨_, rfl, by (with_reducible repeat (first | apply Kd.S_alloc | apply Kd.S_drewN | apply Kd.S_drew)); exact Kd.S_mono (Kd.S_far (p := ⟨gb4, 1, none⟩) (Kd.S_far (p := ⟨gb4, 0, none⟩) (Kd.S_types HSW.out BK4.out (by decide)) (fun _ hk => hk.2) _) (fun _ hk => hk.2) _) (fun _ hk => trivial), by exact bel_ HB.out⟩
set_option maxHeartbeats 8000000 in
set_option maxRecDepth 100000 in
theorem impl_DoYard.in_done (H : Int) (A : Option Addr) (c : Nat) (l : List (List Int)) (b s : Int) (w : World) (hr0 : Kd.C (Kd.slice 3 (Kd.int .i64)) w A l.length l) (hc0 : l.length ≤ c) (hs1 : l.length ≤ 1000) (hs2 : ∀ x ∈ l, x.length ≤ 100) (hok : impl_YardOk.f H l = some true) (hst : impl_in.f s 0 ((l.length : Int) - 1) = some true) (hid : impl_idRight.f b = some true) (fa ft : Int) (hfb : impl_FindBox.f 50 H l b = some (fa, ft, false)) (hlen : 0 < l.length) (hs0 : 0 ≤ s) (hs9 : s < (l.length : Int)) (hfl : (((rd_L2 l s).length : Int) == H) = false) :
    Calls Try.prog 31 #[.agg #[.int .i64 H, .slice A l.length c], .agg #[.int .i64 1, .int .i64 b, .int .i64 s]] w fun e w' => ∃ v0_ : Value, e = .returned (.tuple #[.agg #[.int .i64 H, v0_], .int .i64 0, .int .i64 0]) ∧ Kd.S (Kd.slice 3 (Kd.int .i64)) 28 w' w.heap.size (fun _ => True) v0_ (l.set s.toNat (rd_L2 l s ++ [b])) ∧ Below w.heap.size w w' := by
  have hu69 := Try.underlying69
  have hu76 := Try.underlying76
  have HR := Aside0.mk hr0
  have HC := Aside0.mk hc0
  have HS1 := Aside0.mk hs1
  have HS2 := Aside0.mk hs2
  have HF := Aside0.mk (show impl_Yard_own.f H l = some (H, l) from if_pos ⟨hs1, fun x hx => Nat.le_trans (hs2 x hx) (by omega)⟩)
  clear hr0 hc0 hs1 hs2
  obtain ⟨nn, hnn⟩ : ∃ nn : Int, nn = (l.length : Int) - 1 := ⟨_, rfl⟩
  have hwn : wrap64 ((l.length : Int) - 1) = nn := by rw [← hnn]; exact impl_YardOk.w64 (by omega) (by have := HS1.out; omega)
  have HNN := Aside0.mk hnn
  clear hnn
  have HOK := Aside0.mk hok
  clear hok
  have HFB := Aside0.mk hfb
  have HLEN := Aside0.mk hlen
  clear hfb hlen
  have AK := Aside0.mk (show impl_in.f 1 1 3 = some true from rfl)
  rw [← HNN.out] at hst
  have AST := Aside0.mk hst
  clear hst
  have AID := Aside0.mk hid
  clear hid
  have h0s := hs0
  have h1s := hs9
  clear hs0 hs9
  have HB := Aside0.mk (Below.refl w.heap.size w)
  go_enter Try.func31, Try.ntmps31
  go_upto_region 2 with (first | ((with_reducible refine gate_dst (N := 2) rfl ?_); refine box_event ?hg (N := 2) ?hd (cs := #[.int .i64 H, .slice A l.length c]) (t := 69) ?hr ?_; (case hd => rfl); (case hg => rfl); (case hr => first | (go_simp; done) | (go_simp; rfl)); intro gb2 hg w2 hbox hb; have q1_ := Aside0.mk hbox; have q2_ := Aside0.mk ((by rw [hg]; exact (below_size (by exact bel_ HB.out))) : w.heap.size ≤ gb2); have n0_ := Aside0.mk (below_step (by exact bel_ HB.out) hb); clear HB; have HB := n0_; clear n0_; have BK2 := q1_; have GE2 := q2_; clear q1_ q2_; clear hb hbox hg; obtain ⟨hcz2_0, hfz2_0, hcz2_1, hfz2_1⟩ := Yt.c2 BK2.out) | ((with_reducible refine gate_dst (N := 3) rfl ?_); refine box_event ?hg (N := 3) ?hd (cs := #[.int .i64 1, .int .i64 b, .int .i64 s]) (t := 76) ?hr ?_; (case hd => rfl); (case hg => rfl); (case hr => first | (go_simp; done) | (go_simp; rfl)); intro gb3 hg w3 hbox hb; have q1_ := Aside0.mk hbox; have q2_ := Aside0.mk ((by rw [hg]; exact (below_size (by exact bel_ HB.out))) : w.heap.size ≤ gb3); have NB2_3 := Aside0.mk (nl_ BK2.out hg); have n0_ := Aside0.mk (below_step (by exact bel_ HB.out) hb); have m2_ := Aside0.mk (bb_ BK2.out hb); clear HB; have HB := n0_; clear n0_; clear BK2; have BK2 := m2_; clear m2_; have BK3 := q1_; have GE3 := q2_; clear q1_ q2_; clear hb hbox hg; obtain ⟨hcz2_0, hfz2_0, hcz2_1, hfz2_1⟩ := Yt.c2 BK2.out; obtain ⟨hcz3_0, hfz3_0, hcz3_1, hfz3_1, hcz3_2, hfz3_2⟩ := Yt.c3 BK3.out; have hnb2_3 := NB2_3.out; have hnc2_3 := Ne.symm NB2_3.out) | ((with_reducible refine gate_dst (N := 4) rfl ?_); refine box_event ?hg (N := 4) ?hd (cs := #[.int .i64 0, .slice none 0 0]) (t := 69) ?hr ?_; (case hd => rfl); (case hg => rfl); (case hr => first | (go_simp; done) | (go_simp; rfl)); intro gb4 hg w4 hbox hb; have q1_ := Aside0.mk hbox; have q2_ := Aside0.mk ((by rw [hg]; exact (below_size (by exact bel_ HB.out))) : w.heap.size ≤ gb4); have NB2_4 := Aside0.mk (nl_ BK2.out hg); have NB3_4 := Aside0.mk (nl_ BK3.out hg); have n0_ := Aside0.mk (below_step (by exact bel_ HB.out) hb); have m2_ := Aside0.mk (bb_ BK2.out hb); have m3_ := Aside0.mk (bb_ BK3.out hb); clear HB; have HB := n0_; clear n0_; clear BK2; have BK2 := m2_; clear m2_; clear BK3; have BK3 := m3_; clear m3_; have BK4 := q1_; have GE4 := q2_; clear q1_ q2_; clear hb hbox hg; obtain ⟨hcz2_0, hfz2_0, hcz2_1, hfz2_1⟩ := Yt.c2 BK2.out; obtain ⟨hcz3_0, hfz3_0, hcz3_1, hfz3_1, hcz3_2, hfz3_2⟩ := Yt.c3 BK3.out; obtain ⟨hcz4_0, hfz4_0, hcz4_1, hfz4_1⟩ := Yt.c2 BK4.out; have hnb2_4 := NB2_4.out; have hnc2_4 := Ne.symm NB2_4.out; have hnb3_4 := NB3_4.out; have hnc3_4 := Ne.symm NB3_4.out) | ((with_reducible refine gate_callee (f := 71) rfl ?_); refine goesL_ (some 18) rfl rfl Try.func71 (by kernel_rfl) rfl #[.agg #[.int .i64 H, .slice A l.length c]] rfl (by (try simp only [List.map_toArray, List.map_cons, List.map_nil]); first | done | rfl) ?_; (with_reducible refine (impl_Yard_own.calls H A c l H l _ ?side1 HC.out HF.out).mono ?_); (case side1 => exact Kd.C_below HR.out (by exact bel_ HB.out)); rintro e w18 ⟨v18, rfl, hS, hb⟩; refine ⟨_, rfl, ?_⟩; obtain ⟨Aw, cw, ew⟩ := Kd.S_slice hS; subst ew; have HSW := Aside0.mk (Kd.S_lower hS (below_size (by exact bel_ HB.out))); have n0_ := Aside0.mk (below_step (by exact bel_ HB.out) hb); have m2_ := Aside0.mk (bb_ BK2.out hb); have m3_ := Aside0.mk (bb_ BK3.out hb); have m4_ := Aside0.mk (bb_ BK4.out hb); clear HB; have HB := n0_; clear n0_; clear BK2; have BK2 := m2_; clear m2_; clear BK3; have BK3 := m3_; clear m3_; clear BK4; have BK4 := m4_; clear m4_; clear hb hS; obtain ⟨hcz2_0, hfz2_0, hcz2_1, hfz2_1⟩ := Yt.c2 BK2.out; obtain ⟨hcz3_0, hfz3_0, hcz3_1, hfz3_1, hcz3_2, hfz3_2⟩ := Yt.c3 BK3.out; obtain ⟨hcz4_0, hfz4_0, hcz4_1, hfz4_1⟩ := Yt.c2 BK4.out) | ((with_reducible refine gate_dst (N := 7) rfl ?_); refine box_event ?hg (N := 7) ?hd (cs := #[.int .i64 0, .slice none 0 0]) (t := 69) ?hr ?_; (case hd => rfl); (case hg => rfl); (case hr => first | (go_simp; done) | (go_simp; rfl)); intro gb7 hg w7 hbox hb; have q1_ := Aside0.mk hbox; have q2_ := Aside0.mk ((by rw [hg]; exact (below_size (by exact bel_ HB.out))) : w.heap.size ≤ gb7); have NB2_7 := Aside0.mk (nl_ BK2.out hg); have NB3_7 := Aside0.mk (nl_ BK3.out hg); have NB4_7 := Aside0.mk (nl_ BK4.out hg); have n0_ := Aside0.mk (below_step (by exact bel_ HB.out) hb); have m2_ := Aside0.mk (bb_ BK2.out hb); have m3_ := Aside0.mk (bb_ BK3.out hb); have m4_ := Aside0.mk (bb_ BK4.out hb); have mHSW_ := Aside0.mk (Yt.sb HSW.out hb); clear HB; have HB := n0_; clear n0_; clear BK2; have BK2 := m2_; clear m2_; clear BK3; have BK3 := m3_; clear m3_; clear BK4; have BK4 := m4_; clear m4_; clear HSW; have HSW := mHSW_; clear mHSW_; have BK7 := q1_; have GE7 := q2_; clear q1_ q2_; clear hb hbox hg; obtain ⟨hcz2_0, hfz2_0, hcz2_1, hfz2_1⟩ := Yt.c2 BK2.out; obtain ⟨hcz3_0, hfz3_0, hcz3_1, hfz3_1, hcz3_2, hfz3_2⟩ := Yt.c3 BK3.out; obtain ⟨hcz4_0, hfz4_0, hcz4_1, hfz4_1⟩ := Yt.c2 BK4.out; obtain ⟨hcz7_0, hfz7_0, hcz7_1, hfz7_1⟩ := Yt.c2 BK7.out; have hnb2_7 := NB2_7.out; have hnc2_7 := Ne.symm NB2_7.out; have hnb3_7 := NB3_7.out; have hnc3_7 := Ne.symm NB3_7.out; have hnb4_7 := NB4_7.out; have hnc4_7 := Ne.symm NB4_7.out))
  (try simp only [Act.put, List.setIfInBounds_toArray, List.set_cons_zero, List.set_cons_succ])
  have b7_ : ((w7.setCell ⟨gb7, 0, none⟩ (.int .i64 H)).setCell ⟨gb7, 1, none⟩ (.slice Aw l.length cw)).heap[gb7]? = some (.cells #[.int .i64 H, .slice Aw l.length cw] 69 (0, 0)) := blk_put (cs := #[.int .i64 H, .slice none 0 0]) (blk_put (cs := #[.int .i64 0, .slice none 0 0]) BK7.out 0 _ rfl) 1 _ rfl
  have b2_ : ((w7.setCell ⟨gb7, 0, none⟩ (.int .i64 H)).setCell ⟨gb7, 1, none⟩ (.slice Aw l.length cw)).heap[gb2]? = some (.cells #[.int .i64 H, .slice A l.length c] 69 (0, 0)) := blk_far (blk_far BK2.out NB2_7.out _) NB2_7.out _
  have b3_ : ((w7.setCell ⟨gb7, 0, none⟩ (.int .i64 H)).setCell ⟨gb7, 1, none⟩ (.slice Aw l.length cw)).heap[gb3]? = some (.cells #[.int .i64 1, .int .i64 b, .int .i64 s] 76 (0, 0)) := blk_far (blk_far BK3.out NB3_7.out _) NB3_7.out _
  have b4_ : ((w7.setCell ⟨gb7, 0, none⟩ (.int .i64 H)).setCell ⟨gb7, 1, none⟩ (.slice Aw l.length cw)).heap[gb4]? = some (.cells #[.int .i64 0, .slice none 0 0] 69 (0, 0)) := blk_far (blk_far BK4.out NB4_7.out _) NB4_7.out _
  have sHSW_ := Kd.S_mono (Kd.S_far (p := ⟨gb7, 1, none⟩) (Kd.S_far (p := ⟨gb7, 0, none⟩) (Kd.S_types HSW.out BK7.out (by decide)) (fun _ hk => hk.2) (.int .i64 H)) (fun _ hk => hk.2) (.slice Aw l.length cw)) (fun _ hk => hk.1)
  have hb_ : Below w.heap.size w ((w7.setCell ⟨gb7, 0, none⟩ (.int .i64 H)).setCell ⟨gb7, 1, none⟩ (.slice Aw l.length cw)) := below_set (below_set HB.out GE7.out) GE7.out
  try clear hcz2_0 hfz2_0 hcz2_1 hfz2_1
  try clear hcz3_0 hfz3_0 hcz3_1 hfz3_1 hcz3_2 hfz3_2
  try clear hcz4_0 hfz4_0 hcz4_1 hfz4_1
  try clear hcz7_0 hfz7_0 hcz7_1 hfz7_1
  try clear hnb2_3 hnc2_3 hnb2_4 hnc2_4 hnb2_7 hnc2_7 hnb3_4 hnc3_4 hnb3_7 hnc3_7 hnb4_7 hnc4_7
  generalize (w7.setCell ⟨gb7, 0, none⟩ (.int .i64 H)).setCell ⟨gb7, 1, none⟩ (.slice Aw l.length cw) = w8 at b2_ b3_ b4_ b7_ sHSW_ hb_ ⊢
  clear HB BK2 BK3 BK4 BK7 HSW
  have HB := Aside0.mk hb_
  clear hb_
  have BK2 := Aside0.mk b2_
  clear b2_
  have BK3 := Aside0.mk b3_
  clear b3_
  have BK4 := Aside0.mk b4_
  clear b4_
  have BK7 := Aside0.mk b7_
  clear b7_
  have HSW := Aside0.mk sHSW_
  clear sHSW_
  obtain ⟨hcz2_0, hfz2_0, hcz2_1, hfz2_1⟩ := Yt.c2 BK2.out; obtain ⟨hcz3_0, hfz3_0, hcz3_1, hfz3_1, hcz3_2, hfz3_2⟩ := Yt.c3 BK3.out; obtain ⟨hcz4_0, hfz4_0, hcz4_1, hfz4_1⟩ := Yt.c2 BK4.out; obtain ⟨hcz7_0, hfz7_0, hcz7_1, hfz7_1⟩ := Yt.c2 BK7.out
  have hnb2_3 := NB2_3.out; have hnc2_3 := Ne.symm NB2_3.out
  have hnb2_4 := NB2_4.out; have hnc2_4 := Ne.symm NB2_4.out
  have hnb2_7 := NB2_7.out; have hnc2_7 := Ne.symm NB2_7.out
  have hnb3_4 := NB3_4.out; have hnc3_4 := Ne.symm NB3_4.out
  have hnb3_7 := NB3_7.out; have hnc3_7 := Ne.symm NB3_7.out
  have hnb4_7 := NB4_7.out; have hnc4_7 := Ne.symm NB4_7.out
  go_upto_region 5 with (first | ((with_reducible refine gate_callee (f := 32) rfl ?_); refine goesL_ (some 24) rfl rfl Try.func32 (by kernel_rfl) rfl #[.agg #[.int .i64 H, .slice A l.length c]] rfl (by (try simp only [List.map_toArray, List.map_cons, List.map_nil]); first | done | rfl) ?_; (with_reducible refine (impl_YardOk.calls H A c l true _ ?side1 HC.out HOK.out).mono ?_); (case side1 => exact Kd.C_below HR.out (by exact bel_ HB.out)); rintro e w24 ⟨rfl, hb⟩; refine ⟨_, rfl, ?_⟩; have n0_ := Aside0.mk (below_step (by exact bel_ HB.out) hb); have m2_ := Aside0.mk (bb_ BK2.out hb); have m3_ := Aside0.mk (bb_ BK3.out hb); have m4_ := Aside0.mk (bb_ BK4.out hb); have m7_ := Aside0.mk (bb_ BK7.out hb); have mHSW_ := Aside0.mk (Yt.sb HSW.out hb); clear HB; have HB := n0_; clear n0_; clear BK2; have BK2 := m2_; clear m2_; clear BK3; have BK3 := m3_; clear m3_; clear BK4; have BK4 := m4_; clear m4_; clear BK7; have BK7 := m7_; clear m7_; clear HSW; have HSW := mHSW_; clear mHSW_; clear hb; obtain ⟨hcz2_0, hfz2_0, hcz2_1, hfz2_1⟩ := Yt.c2 BK2.out; obtain ⟨hcz3_0, hfz3_0, hcz3_1, hfz3_1, hcz3_2, hfz3_2⟩ := Yt.c3 BK3.out; obtain ⟨hcz4_0, hfz4_0, hcz4_1, hfz4_1⟩ := Yt.c2 BK4.out; obtain ⟨hcz7_0, hfz7_0, hcz7_1, hfz7_1⟩ := Yt.c2 BK7.out) | (go_at_call 48; (with_reducible refine (impl_in.calls 1 1 3 true _ AK.out).mono ?_); rintro e w' ⟨rfl, ⟨nd, rfl⟩⟩; (try first | exact ⟨rfl, _, World.drewN_drewN _ _ _⟩ | exact ⟨rfl, _, Eq.trans (World.drewN_drewN _ _ _) (congrArg (World.drewN _) (Nat.add_assoc _ _ _))⟩)) | (go_at_call 48; (with_reducible refine (impl_in.calls s 0 nn true _ AST.out).mono ?_); rintro e w' ⟨rfl, ⟨nd, rfl⟩⟩; (try first | exact ⟨rfl, _, World.drewN_drewN _ _ _⟩ | exact ⟨rfl, _, Eq.trans (World.drewN_drewN _ _ _) (congrArg (World.drewN _) (Nat.add_assoc _ _ _))⟩)) | (go_at_call 72; (with_reducible refine (impl_idRight.calls b true _ AID.out).mono ?_); rintro e w' ⟨rfl, ⟨nd, rfl⟩⟩; (try first | exact ⟨rfl, _, World.drewN_drewN _ _ _⟩ | exact ⟨rfl, _, Eq.trans (World.drewN_drewN _ _ _) (congrArg (World.drewN _) (Nat.add_assoc _ _ _))⟩)))
  repeat (go_quiet (first | (go_at_call 48; (with_reducible refine (impl_in.calls 1 1 3 true _ AK.out).mono ?_); rintro e w' ⟨rfl, ⟨nd, rfl⟩⟩; (try first | exact ⟨rfl, _, World.drewN_drewN _ _ _⟩ | exact ⟨rfl, _, Eq.trans (World.drewN_drewN _ _ _) (congrArg (World.drewN _) (Nat.add_assoc _ _ _))⟩)) | (go_at_call 48; (with_reducible refine (impl_in.calls s 0 nn true _ AST.out).mono ?_); rintro e w' ⟨rfl, ⟨nd, rfl⟩⟩; (try first | exact ⟨rfl, _, World.drewN_drewN _ _ _⟩ | exact ⟨rfl, _, Eq.trans (World.drewN_drewN _ _ _) (congrArg (World.drewN _) (Nat.add_assoc _ _ _))⟩)) | (go_at_call 72; (with_reducible refine (impl_idRight.calls b true _ AID.out).mono ?_); rintro e w' ⟨rfl, ⟨nd, rfl⟩⟩; (try first | exact ⟨rfl, _, World.drewN_drewN _ _ _⟩ | exact ⟨rfl, _, Eq.trans (World.drewN_drewN _ _ _) (congrArg (World.drewN _) (Nat.add_assoc _ _ _))⟩))); try go_upto_region 5 with (first | (go_at_call 48; (with_reducible refine (impl_in.calls 1 1 3 true _ AK.out).mono ?_); rintro e w' ⟨rfl, ⟨nd, rfl⟩⟩; (try first | exact ⟨rfl, _, World.drewN_drewN _ _ _⟩ | exact ⟨rfl, _, Eq.trans (World.drewN_drewN _ _ _) (congrArg (World.drewN _) (Nat.add_assoc _ _ _))⟩)) | (go_at_call 48; (with_reducible refine (impl_in.calls s 0 nn true _ AST.out).mono ?_); rintro e w' ⟨rfl, ⟨nd, rfl⟩⟩; (try first | exact ⟨rfl, _, World.drewN_drewN _ _ _⟩ | exact ⟨rfl, _, Eq.trans (World.drewN_drewN _ _ _) (congrArg (World.drewN _) (Nat.add_assoc _ _ _))⟩)) | (go_at_call 72; (with_reducible refine (impl_idRight.calls b true _ AID.out).mono ?_); rintro e w' ⟨rfl, ⟨nd, rfl⟩⟩; (try first | exact ⟨rfl, _, World.drewN_drewN _ _ _⟩ | exact ⟨rfl, _, Eq.trans (World.drewN_drewN _ _ _) (congrArg (World.drewN _) (Nat.add_assoc _ _ _))⟩))))
  (try simp only [Act.put, List.setIfInBounds_toArray, List.set_cons_zero, List.set_cons_succ])
  obtain ⟨M, hM⟩ : ∃ M, M = w24.heap.size := ⟨_, rfl⟩
  have HM := Aside0.mk hM
  have HMW : Aside0 (w.heap.size ≤ M) := ⟨by rw [hM]; exact HB.out.size⟩
  clear hM
  go_upto_region 6 with (first | ((with_reducible refine gate_callee (f := 71) rfl ?_); refine goesL_ (some 76) rfl rfl Try.func71 (by kernel_rfl) rfl #[.agg #[.int .i64 H, .slice A l.length c]] rfl (by (try simp only [List.map_toArray, List.map_cons, List.map_nil]); first | done | rfl) ?_; (with_reducible refine (impl_Yard_own.calls H A c l H l _ ?side1 HC.out HF.out).mono ?_); (case side1 => exact Kd.C_below HR.out (by exact bel_ HB.out)); rintro e w76 ⟨v76, rfl, hS, hb⟩; refine ⟨_, rfl, ?_⟩; obtain ⟨gx, cx, ex, hgx, hgl, _⟩ := Kd.S_form hS HLEN.out; subst ex; have HGX : Aside0 (M ≤ gx) := ⟨by rw [HM.out]; exact hgx⟩; have mW_ := Aside0.mk (Kd.S_below (Kd.S_mono (ok' := fun k => k < M) (Kd.S_bound (Yt.sp HSW.out)) (fun k hk => by rw [HM.out]; exact hk.2.2.1)) hb); have HSX := Aside0.mk (Kd.S_lower (Kd.S_mono (ok' := fun k => M ≤ k) (Kd.S_bound hS) (fun k hk => by rw [HM.out]; exact hk.2.1)) (below_size (by exact bel_ HB.out))); have n0_ := Aside0.mk (below_step (by exact bel_ HB.out) hb); have m2_ := Aside0.mk (bb_ BK2.out hb); have m3_ := Aside0.mk (bb_ BK3.out hb); have m4_ := Aside0.mk (bb_ BK4.out hb); have m7_ := Aside0.mk (bb_ BK7.out hb); clear HB; have HB := n0_; clear n0_; clear BK2; have BK2 := m2_; clear m2_; clear BK3; have BK3 := m3_; clear m3_; clear BK4; have BK4 := m4_; clear m4_; clear BK7; have BK7 := m7_; clear m7_; clear HSW; have HSW := mW_; clear mW_; clear hb hS hgx hgl; obtain ⟨hcz2_0, hfz2_0, hcz2_1, hfz2_1⟩ := Yt.c2 BK2.out; obtain ⟨hcz3_0, hfz3_0, hcz3_1, hfz3_1, hcz3_2, hfz3_2⟩ := Yt.c3 BK3.out; obtain ⟨hcz4_0, hfz4_0, hcz4_1, hfz4_1⟩ := Yt.c2 BK4.out; obtain ⟨hcz7_0, hfz7_0, hcz7_1, hfz7_1⟩ := Yt.c2 BK7.out) | ((with_reducible refine gate_dst (N := 9) rfl ?_); refine box_event ?hg (N := 9) ?hd (cs := #[.int .i64 0, .slice none 0 0]) (t := 69) ?hr ?_; (case hd => rfl); (case hg => rfl); (case hr => first | (go_simp; done) | (go_simp; rfl)); intro gb9 hg w9 hbox hb; have q1_ := Aside0.mk hbox; have q2_ := Aside0.mk ((by rw [hg]; exact (below_size (by exact bel_ HB.out))) : w.heap.size ≤ gb9); have NB2_9 := Aside0.mk (nl_ BK2.out hg); have NB3_9 := Aside0.mk (nl_ BK3.out hg); have NB4_9 := Aside0.mk (nl_ BK4.out hg); have NB7_9 := Aside0.mk (nl_ BK7.out hg); have n0_ := Aside0.mk (below_step (by exact bel_ HB.out) hb); have m2_ := Aside0.mk (bb_ BK2.out hb); have m3_ := Aside0.mk (bb_ BK3.out hb); have m4_ := Aside0.mk (bb_ BK4.out hb); have m7_ := Aside0.mk (bb_ BK7.out hb); have mHSW_ := Aside0.mk (Yt.sb HSW.out hb); have mHSX_ := Aside0.mk (Yt.sb HSX.out hb); clear HB; have HB := n0_; clear n0_; clear BK2; have BK2 := m2_; clear m2_; clear BK3; have BK3 := m3_; clear m3_; clear BK4; have BK4 := m4_; clear m4_; clear BK7; have BK7 := m7_; clear m7_; clear HSW; have HSW := mHSW_; clear mHSW_; clear HSX; have HSX := mHSX_; clear mHSX_; have BK9 := q1_; have GE9 := q2_; clear q1_ q2_; clear hb hbox hg; obtain ⟨hcz2_0, hfz2_0, hcz2_1, hfz2_1⟩ := Yt.c2 BK2.out; obtain ⟨hcz3_0, hfz3_0, hcz3_1, hfz3_1, hcz3_2, hfz3_2⟩ := Yt.c3 BK3.out; obtain ⟨hcz4_0, hfz4_0, hcz4_1, hfz4_1⟩ := Yt.c2 BK4.out; obtain ⟨hcz7_0, hfz7_0, hcz7_1, hfz7_1⟩ := Yt.c2 BK7.out; obtain ⟨hcz9_0, hfz9_0, hcz9_1, hfz9_1⟩ := Yt.c2 BK9.out; have hnb2_9 := NB2_9.out; have hnc2_9 := Ne.symm NB2_9.out; have hnb3_9 := NB3_9.out; have hnc3_9 := Ne.symm NB3_9.out; have hnb4_9 := NB4_9.out; have hnc4_9 := Ne.symm NB4_9.out; have hnb7_9 := NB7_9.out; have hnc7_9 := Ne.symm NB7_9.out))
  (try simp only [Act.put, List.setIfInBounds_toArray, List.set_cons_zero, List.set_cons_succ])
  have b9_ : ((w9.setCell ⟨gb9, 0, none⟩ (.int .i64 H)).setCell ⟨gb9, 1, none⟩ (.slice (some ⟨gx, 0, none⟩) l.length cx)).heap[gb9]? = some (.cells #[.int .i64 H, .slice (some ⟨gx, 0, none⟩) l.length cx] 69 (0, 0)) := blk_put (cs := #[.int .i64 H, .slice none 0 0]) (blk_put (cs := #[.int .i64 0, .slice none 0 0]) BK9.out 0 _ rfl) 1 _ rfl
  have b2_ : ((w9.setCell ⟨gb9, 0, none⟩ (.int .i64 H)).setCell ⟨gb9, 1, none⟩ (.slice (some ⟨gx, 0, none⟩) l.length cx)).heap[gb2]? = some (.cells #[.int .i64 H, .slice A l.length c] 69 (0, 0)) := blk_far (blk_far BK2.out NB2_9.out _) NB2_9.out _
  have b3_ : ((w9.setCell ⟨gb9, 0, none⟩ (.int .i64 H)).setCell ⟨gb9, 1, none⟩ (.slice (some ⟨gx, 0, none⟩) l.length cx)).heap[gb3]? = some (.cells #[.int .i64 1, .int .i64 b, .int .i64 s] 76 (0, 0)) := blk_far (blk_far BK3.out NB3_9.out _) NB3_9.out _
  have b4_ : ((w9.setCell ⟨gb9, 0, none⟩ (.int .i64 H)).setCell ⟨gb9, 1, none⟩ (.slice (some ⟨gx, 0, none⟩) l.length cx)).heap[gb4]? = some (.cells #[.int .i64 0, .slice none 0 0] 69 (0, 0)) := blk_far (blk_far BK4.out NB4_9.out _) NB4_9.out _
  have b7_ : ((w9.setCell ⟨gb9, 0, none⟩ (.int .i64 H)).setCell ⟨gb9, 1, none⟩ (.slice (some ⟨gx, 0, none⟩) l.length cx)).heap[gb7]? = some (.cells #[.int .i64 H, .slice Aw l.length cw] 69 (0, 0)) := blk_far (blk_far BK7.out NB7_9.out _) NB7_9.out _
  have sHSW_ := Kd.S_mono (Kd.S_far (p := ⟨gb9, 1, none⟩) (Kd.S_far (p := ⟨gb9, 0, none⟩) (Kd.S_types HSW.out BK9.out (by decide)) (fun _ hk => hk.2) (.int .i64 H)) (fun _ hk => hk.2) (.slice (some ⟨gx, 0, none⟩) l.length cx)) (fun _ hk => hk.1)
  have sHSX_ := Kd.S_mono (Kd.S_far (p := ⟨gb9, 1, none⟩) (Kd.S_far (p := ⟨gb9, 0, none⟩) (Kd.S_types HSX.out BK9.out (by decide)) (fun _ hk => hk.2) (.int .i64 H)) (fun _ hk => hk.2) (.slice (some ⟨gx, 0, none⟩) l.length cx)) (fun _ hk => hk.1)
  have hb_ : Below w.heap.size w ((w9.setCell ⟨gb9, 0, none⟩ (.int .i64 H)).setCell ⟨gb9, 1, none⟩ (.slice (some ⟨gx, 0, none⟩) l.length cx)) := below_set (below_set HB.out GE9.out) GE9.out
  try clear hcz2_0 hfz2_0 hcz2_1 hfz2_1
  try clear hcz3_0 hfz3_0 hcz3_1 hfz3_1 hcz3_2 hfz3_2
  try clear hcz4_0 hfz4_0 hcz4_1 hfz4_1
  try clear hcz7_0 hfz7_0 hcz7_1 hfz7_1
  try clear hcz9_0 hfz9_0 hcz9_1 hfz9_1
  try clear hnb2_3 hnc2_3 hnb2_4 hnc2_4 hnb2_7 hnc2_7 hnb2_9 hnc2_9 hnb3_4 hnc3_4 hnb3_7 hnc3_7 hnb3_9 hnc3_9 hnb4_7 hnc4_7 hnb4_9 hnc4_9 hnb7_9 hnc7_9
  generalize (w9.setCell ⟨gb9, 0, none⟩ (.int .i64 H)).setCell ⟨gb9, 1, none⟩ (.slice (some ⟨gx, 0, none⟩) l.length cx) = w10 at b2_ b3_ b4_ b7_ b9_ sHSW_ sHSX_ hb_ ⊢
  clear HB BK2 BK3 BK4 BK7 BK9 HSW HSX
  have HB := Aside0.mk hb_
  clear hb_
  have BK2 := Aside0.mk b2_
  clear b2_
  have BK3 := Aside0.mk b3_
  clear b3_
  have BK4 := Aside0.mk b4_
  clear b4_
  have BK7 := Aside0.mk b7_
  clear b7_
  have BK9 := Aside0.mk b9_
  clear b9_
  have HSW := Aside0.mk sHSW_
  clear sHSW_
  have HSX := Aside0.mk sHSX_
  clear sHSX_
  obtain ⟨hcz2_0, hfz2_0, hcz2_1, hfz2_1⟩ := Yt.c2 BK2.out; obtain ⟨hcz3_0, hfz3_0, hcz3_1, hfz3_1, hcz3_2, hfz3_2⟩ := Yt.c3 BK3.out; obtain ⟨hcz4_0, hfz4_0, hcz4_1, hfz4_1⟩ := Yt.c2 BK4.out; obtain ⟨hcz7_0, hfz7_0, hcz7_1, hfz7_1⟩ := Yt.c2 BK7.out; obtain ⟨hcz9_0, hfz9_0, hcz9_1, hfz9_1⟩ := Yt.c2 BK9.out
  have hnb2_3 := NB2_3.out; have hnc2_3 := Ne.symm NB2_3.out
  have hnb2_4 := NB2_4.out; have hnc2_4 := Ne.symm NB2_4.out
  have hnb2_7 := NB2_7.out; have hnc2_7 := Ne.symm NB2_7.out
  have hnb2_9 := NB2_9.out; have hnc2_9 := Ne.symm NB2_9.out
  have hnb3_4 := NB3_4.out; have hnc3_4 := Ne.symm NB3_4.out
  have hnb3_7 := NB3_7.out; have hnc3_7 := Ne.symm NB3_7.out
  have hnb3_9 := NB3_9.out; have hnc3_9 := Ne.symm NB3_9.out
  have hnb4_7 := NB4_7.out; have hnc4_7 := Ne.symm NB4_7.out
  have hnb4_9 := NB4_9.out; have hnc4_9 := Ne.symm NB4_9.out
  have hnb7_9 := NB7_9.out; have hnc7_9 := Ne.symm NB7_9.out
  go_upto_region 7 with (first | ((with_reducible refine gate_callee (f := 30) rfl ?_); refine goesL_ (some 81) rfl rfl Try.func30 (by kernel_rfl) rfl #[.agg #[.int .i64 H, .slice A l.length c], .int .i64 b] rfl (by (try simp only [List.map_toArray, List.map_cons, List.map_nil]); first | done | rfl) ?_; (with_reducible refine (impl_FindBox.calls 50 H A c l b fa ft false _ ?side1 HC.out HFB.out).mono ?_); (case side1 => exact Kd.C_below HR.out (by exact bel_ HB.out)); rintro e w81 ⟨rfl, hb⟩; refine ⟨_, rfl, ?_⟩; have n0_ := Aside0.mk (below_step (by exact bel_ HB.out) hb); have m2_ := Aside0.mk (bb_ BK2.out hb); have m3_ := Aside0.mk (bb_ BK3.out hb); have m4_ := Aside0.mk (bb_ BK4.out hb); have m7_ := Aside0.mk (bb_ BK7.out hb); have m9_ := Aside0.mk (bb_ BK9.out hb); have mHSW_ := Aside0.mk (Yt.sb HSW.out hb); have mHSX_ := Aside0.mk (Yt.sb HSX.out hb); clear HB; have HB := n0_; clear n0_; clear BK2; have BK2 := m2_; clear m2_; clear BK3; have BK3 := m3_; clear m3_; clear BK4; have BK4 := m4_; clear m4_; clear BK7; have BK7 := m7_; clear m7_; clear BK9; have BK9 := m9_; clear m9_; clear HSW; have HSW := mHSW_; clear mHSW_; clear HSX; have HSX := mHSX_; clear mHSX_; clear hb; obtain ⟨hcz2_0, hfz2_0, hcz2_1, hfz2_1⟩ := Yt.c2 BK2.out; obtain ⟨hcz3_0, hfz3_0, hcz3_1, hfz3_1, hcz3_2, hfz3_2⟩ := Yt.c3 BK3.out; obtain ⟨hcz4_0, hfz4_0, hcz4_1, hfz4_1⟩ := Yt.c2 BK4.out; obtain ⟨hcz7_0, hfz7_0, hcz7_1, hfz7_1⟩ := Yt.c2 BK7.out; obtain ⟨hcz9_0, hfz9_0, hcz9_1, hfz9_1⟩ := Yt.c2 BK9.out))
  (try simp only [Act.put, List.setIfInBounds_toArray, List.set_cons_zero, List.set_cons_succ])
  have NX2 : Aside0 (gb2 ≠ gx) := ⟨by intro e_; exact Kd.R_ne (Kd.S_R HSX.out) BK2.out (by decide) (by rw [e_]; rfl)⟩
  have NX3 : Aside0 (gb3 ≠ gx) := ⟨by intro e_; exact Kd.R_ne (Kd.S_R HSX.out) BK3.out (by decide) (by rw [e_]; rfl)⟩
  have NX4 : Aside0 (gb4 ≠ gx) := ⟨by intro e_; exact Kd.R_ne (Kd.S_R HSX.out) BK4.out (by decide) (by rw [e_]; rfl)⟩
  have NX7 : Aside0 (gb7 ≠ gx) := ⟨by intro e_; exact Kd.R_ne (Kd.S_R HSX.out) BK7.out (by decide) (by rw [e_]; rfl)⟩
  have NX9 : Aside0 (gb9 ≠ gx) := ⟨by intro e_; exact Kd.R_ne (Kd.S_R HSX.out) BK9.out (by decide) (by rw [e_]; rfl)⟩
  obtain ⟨ls, els⟩ : ∃ q, q = rd_L2 l s := ⟨_, rfl⟩
  have hsl : ls.length ≤ 100 := (by rw [els]; refine HS2.out _ ?_; have hq : s.toNat < l.length := (by omega); simp only [rd_L2, List.getD_eq_getElem?_getD, List.getElem?_eq_getElem hq]; exact List.getElem_mem hq)
  obtain ⟨oki, ce, hcl, hMe, hcc, hfr, hoki, hH⟩ := Kd.S_elem HSX.out [] s h0s h1s
  obtain ⟨v0, rfl, gv0⟩ := hMe
  have gv : Kd.R (Kd.int .i64) 3 w81 w.heap.size oki v0 (rd_L2 l s) := gv0
  clear gv0
  rw [← els] at gv hfl
  obtain ⟨As, cs, ev⟩ := Kd.R_slice gv
  subst ev
  have hx1 := hcc 0 _ rfl
  rw [show (Kd.slice 3 (Kd.int .i64)).sz = 1 from rfl, Nat.mul_one, Nat.add_zero] at hx1
  have GV := Aside0.mk gv
  have HH := Aside0.mk hH
  have HOKI := Aside0.mk hoki
  have HSL := Aside0.mk hsl
  have ELS := Aside0.mk els
  clear hcc hfr hcl gv hH hoki hsl els
  have q0s : (0 ≤ s) = True := eq_true h0s
  have q1s : (s < (l.length : Int)) = True := eq_true h1s
  go_upto_region 13 with (fail)
  repeat (go_quiet (fail); try go_upto_region 13 with (fail))
  (try simp only [Act.put, List.setIfInBounds_toArray, List.set_cons_zero, List.set_cons_succ])
  have HBM := Aside0.mk (Below.refl w81.heap.size w81)
  have HM81 : Aside0 (M ≤ w81.heap.size) := ⟨Nat.le_trans HGX.out (Nat.le_of_lt (Kd.S_lt HSX.out gx rfl))⟩
  refine start_ (n := 17) (S := fun w' => w'.cell? ⟨gb9, 1, none⟩ = some (.slice (some ⟨gx, 0, none⟩) l.length cx) ∧ w'.cell? ⟨gb3, 2, none⟩ = some (.int .i64 s) ∧ w'.cell? ⟨gb3, 1, none⟩ = some (.int .i64 b) ∧ w'.cell? ⟨gx, s.toNat, none⟩ = some (.slice As ls.length cs)) (ds := [16]) #[false, false, false, false, false, false, false, false, false, false, false, false, false, false, false, false, false] (by kernel_rfl) rfl rfl ⟨hcz9_1, hcz3_2, hcz3_1, hx1⟩ (fun hHeld => ?_); refine with_tabW impl_DoYard.in_.tab13 impl_DoYard.in_.bits13 (fun HT_ HW_ => ?_)
  refine pu_ 0 104 HT_ #[true, false, false, false, false, false, false, false, false, false, false, false, false, false, false, false, false] rfl rfl ?_
  refine pu_ 2 106 HT_ #[true, false, true, false, false, false, false, false, false, false, false, false, false, false, false, false, false] rfl rfl ?_
  refine pu_ 4 108 HT_ #[true, false, true, false, true, false, false, false, false, false, false, false, false, false, false, false, false] rfl rfl ?_
  refine pu_ 6 110 HT_ #[true, false, true, false, true, false, true, false, false, false, false, false, false, false, false, false, false] rfl rfl ?_
  refine pu_ 10 114 HT_ #[true, false, true, false, true, false, true, false, false, false, true, false, false, false, false, false, false] rfl rfl ?_
  refine take_ (i := 1) (N := some 105) (v := ?_) (a' := ?_) #[true, true, true, false, true, false, true, false, false, false, true, false, false, false, false, false, false] rfl rfl (take_ofW HT_.out HW_.out (by kernel_rfl)) (fun _ _ _ h => h) (Or.inl ⟨by rfl, ?_⟩) hHeld ?_ ?_
  rotate_left
  · rintro w' ⟨s0, s1, s2, s3⟩
    go_simp
    with_reducible rfl
  rotate_left
  · simp only [Act.put, List.setIfInBounds_toArray, List.set_cons_zero, List.set_cons_succ, i64_w, i32_w]
    rfl
  refine take_ (i := 3) (N := some 107) (v := ?_) (a' := ?_) #[true, true, true, true, true, false, true, false, false, false, true, false, false, false, false, false, false] rfl rfl (take_ofW HT_.out HW_.out (by kernel_rfl)) (fun _ _ _ h => h) (Or.inl ⟨by rfl, ?_⟩) hHeld ?_ ?_
  rotate_left
  · rintro w' ⟨s0, s1, s2, s3⟩
    go_simp
    with_reducible rfl
  rotate_left
  · simp only [Act.put, List.setIfInBounds_toArray, List.set_cons_zero, List.set_cons_succ, i64_w, i32_w]
    rfl
  refine take_ (i := 5) (N := some 109) (v := ?_) (a' := ?_) #[true, true, true, true, true, true, true, false, false, false, true, false, false, false, false, false, false] rfl rfl (take_ofW HT_.out HW_.out (by kernel_rfl)) (fun _ _ _ h => h) (Or.inl ⟨by rfl, ?_⟩) hHeld ?_ ?_
  rotate_left
  · rintro w' ⟨s0, s1, s2, s3⟩
    go_simp
    with_reducible rfl
  rotate_left
  · simp only [Act.put, List.setIfInBounds_toArray, List.set_cons_zero, List.set_cons_succ, i64_w, i32_w]
    rfl
  refine take_ (i := 7) (N := some 111) (v := ?_) (a' := ?_) #[true, true, true, true, true, true, true, true, false, false, true, false, false, false, false, false, false] rfl rfl (take_ofW HT_.out HW_.out (by kernel_rfl)) (fun _ _ _ h => h) (Or.inl ⟨by rfl, ?_⟩) hHeld ?_ ?_
  rotate_left
  · rintro w' ⟨s0, s1, s2, s3⟩
    go_simp
    with_reducible rfl
  rotate_left
  · simp only [Act.put, List.setIfInBounds_toArray, List.set_cons_zero, List.set_cons_succ, i64_w, i32_w]
    rfl
  refine take_ (i := 11) (N := some 115) (v := ?_) (a' := ?_) #[true, true, true, true, true, true, true, true, false, false, true, true, false, false, false, false, false] rfl rfl (take_ofW HT_.out HW_.out (by kernel_rfl)) (fun _ _ _ h => h) (Or.inl ⟨by rfl, ?_⟩) hHeld ?_ ?_
  rotate_left
  · rintro w' ⟨s0, s1, s2, s3⟩
    go_simp
    with_reducible rfl
  rotate_left
  · simp only [Act.put, List.setIfInBounds_toArray, List.set_cons_zero, List.set_cons_succ, i64_w, i32_w]
    rfl
  refine pu_ 8 112 HT_ #[true, true, true, true, true, true, true, true, true, false, true, true, false, false, false, false, false] rfl rfl ?_
  refine take_ (i := 9) (N := some 113) (v := ?_) (a' := ?_) #[true, true, true, true, true, true, true, true, true, true, true, true, false, false, false, false, false] rfl rfl (take_ofW HT_.out HW_.out (by kernel_rfl)) (fun _ _ _ h => h) (Or.inl ⟨by rfl, ?_⟩) hHeld ?_ ?_
  rotate_left
  · rintro w' ⟨s0, s1, s2, s3⟩
    go_simp
    with_reducible rfl
  rotate_left
  · simp only [Act.put, List.setIfInBounds_toArray, List.set_cons_zero, List.set_cons_succ, i64_w, i32_w]
    rfl
  refine one_ (i := 12) (N := some 116) #[true, true, true, true, true, true, true, true, true, true, true, true, true, false, false, false, false] rfl rfl (one_of HT_.out (by kernel_rfl)) (by decide) (fun K hK => ?_)
  refine value_ (w1 := ?_) (v := ?_) (by rfl) rfl ?_ ?_
  rotate_left 2
  · go_simp
    constructor
    · rfl
    · rfl
  refine hK.out _ _ ⟨Yt.keep (by repeat (first | (with_reducible first | exact HBM.out | apply below_alloc | apply pw_below_drewN | apply below_drew1) | exact HBM.out)) hcz9_1, Yt.keep (by repeat (first | (with_reducible first | exact HBM.out | apply below_alloc | apply pw_below_drewN | apply below_drew1) | exact HBM.out)) hcz3_2, Yt.keep (by repeat (first | (with_reducible first | exact HBM.out | apply below_alloc | apply pw_below_drewN | apply below_drew1) | exact HBM.out)) hcz3_1, Yt.keep (by repeat (first | (with_reducible first | exact HBM.out | apply below_alloc | apply pw_below_drewN | apply below_drew1) | exact HBM.out)) hx1⟩ (fun hHeld => ?_)
  clear hK K
  refine norm_ (a' := ?_) ?_ ?_
  rotate_left
  · show Act.put _ (some 116) _ = _
    simp only [Act.put, List.setIfInBounds_toArray, List.set_cons_zero, List.set_cons_succ, i64_w, i32_w]
    rfl
  refine one_ (i := 13) (N := some 117) #[true, true, true, true, true, true, true, true, true, true, true, true, true, true, false, false, false] rfl rfl (one_of HT_.out (by kernel_rfl)) (by decide) (fun K hK => ?_)
  refine Kd.R_append_rows_step (Kd.int .i64) (w0 := w) w.heap.size (by rfl) (.tmp 113) (.tmp 116) 28 3 (.int .i64 0) 8 rfl Try.underlying28 info3 rfl (by decide) (by omega) (.slice As ls.length cs) ls [b] _ _ _ (fun k_ => oki k_ ∨ (M ≤ k_ ∧ w81.heap.size ≤ k_)) (fun _ => False) rfl rfl ?aO ?aR (fun _ _ h => h) (fun _ h => h.elim) ?aF ?aB ?aS ?aL ?_
  (case aR => exact Kd.C_one (blk_new _ _) rfl rfl)
  (case aF => intro k hk; have h1_ : w81.heap.size ≤ k := Nat.le_trans (below_size (by repeat (first | (with_reducible first | exact HBM.out | apply below_alloc | apply pw_below_drewN | apply below_drew1) | exact HBM.out))) hk; exact .inr ⟨Nat.le_trans HM81.out h1_, h1_⟩)
  (case aO => (with_reducible repeat (first | apply Kd.R_alloc | apply Kd.R_drewN | apply Kd.R_drew)); exact Kd.R_mono GV.out (fun _ hk => .inl hk))
  (case aB => exact (by exact bel_ HB.out))
  (case aS => exact (below_size (by exact bel_ HB.out)))
  (case aL => have := HSL.out; omega)
  intro v17 w17 ho hb hg hat
  have HW17 : Aside0 (w81.heap.size ≤ w17.heap.size) := ⟨Nat.le_trans (below_size (by repeat (first | (with_reducible first | exact HBM.out | apply below_alloc | apply pw_below_drewN | apply below_drew1) | exact HBM.out))) hg.size⟩
  have hH2 := Kd.H_grown (Kd.H_below (Kd.H_widen HH.out) (by repeat (first | (with_reducible first | exact HBM.out | apply below_alloc | apply pw_below_drewN | apply below_drew1) | exact HBM.out))) hg (fun k e_ => .inl (GV.out.1 k e_))
  have b2_ := Aside0.mk (blk_grown (g := gb2) (o := .cells #[.int .i64 H, .slice A l.length c] 69 (0, 0)) (blk_below BK2.out (by repeat (first | (with_reducible first | exact HBM.out | apply below_alloc | apply pw_below_drewN | apply below_drew1) | exact HBM.out))) hg (Kd.R_ne GV.out BK2.out (by decide)))
  have b3_ := Aside0.mk (blk_grown (g := gb3) (o := .cells #[.int .i64 1, .int .i64 b, .int .i64 s] 76 (0, 0)) (blk_below BK3.out (by repeat (first | (with_reducible first | exact HBM.out | apply below_alloc | apply pw_below_drewN | apply below_drew1) | exact HBM.out))) hg (Kd.R_ne GV.out BK3.out (by decide)))
  have b4_ := Aside0.mk (blk_grown (g := gb4) (o := .cells #[.int .i64 0, .slice none 0 0] 69 (0, 0)) (blk_below BK4.out (by repeat (first | (with_reducible first | exact HBM.out | apply below_alloc | apply pw_below_drewN | apply below_drew1) | exact HBM.out))) hg (Kd.R_ne GV.out BK4.out (by decide)))
  have b7_ := Aside0.mk (blk_grown (g := gb7) (o := .cells #[.int .i64 H, .slice Aw l.length cw] 69 (0, 0)) (blk_below BK7.out (by repeat (first | (with_reducible first | exact HBM.out | apply below_alloc | apply pw_below_drewN | apply below_drew1) | exact HBM.out))) hg (Kd.R_ne GV.out BK7.out (by decide)))
  have b9_ := Aside0.mk (blk_grown (g := gb9) (o := .cells #[.int .i64 H, .slice (some ⟨gx, 0, none⟩) l.length cx] 69 (0, 0)) (blk_below BK9.out (by repeat (first | (with_reducible first | exact HBM.out | apply below_alloc | apply pw_below_drewN | apply below_drew1) | exact HBM.out))) hg (Kd.R_ne GV.out BK9.out (by decide)))
  have sW_ := Aside0.mk (Kd.S_grown (Kd.S_below HSW.out (by repeat (first | (with_reducible first | exact HBM.out | apply below_alloc | apply pw_below_drewN | apply below_drew1) | exact HBM.out))) hg (fun k hk e_ => by have h_ := (HOKI.out k (GV.out.1 k e_.symm)).1; have h2_ : k < M := hk; exact absurd h2_ (Nat.not_lt.2 h_)))
  have hlen17 : (ls ++ [b]).length = ls.length + 1 := by simp
  obtain ⟨Av, cv, ev⟩ := Kd.R_slice ho
  rw [hlen17] at ev
  subst ev
  have hcv17 := (Kd.R_reads' ho).2
  rw [hlen17] at hcv17
  have HCV := Aside0.mk hcv17
  clear hcv17
  obtain ⟨hat17, hfz17⟩ := Kd.H_at hH2 h0s h1s
  have hx17 := hat17 0 _ rfl
  rw [show (Kd.slice 3 (Kd.int .i64)).sz = 1 from rfl, Nat.mul_one, Nat.add_zero] at hx17
  clear hat17 hfz17
  try clear hcz2_0 hfz2_0 hcz2_1 hfz2_1
  try clear hcz3_0 hfz3_0 hcz3_1 hfz3_1 hcz3_2 hfz3_2
  try clear hcz4_0 hfz4_0 hcz4_1 hfz4_1
  try clear hcz7_0 hfz7_0 hcz7_1 hfz7_1
  try clear hcz9_0 hfz9_0 hcz9_1 hfz9_1
  try clear hnb2_3 hnc2_3 hnb2_4 hnc2_4 hnb2_7 hnc2_7 hnb2_9 hnc2_9 hnb3_4 hnc3_4 hnb3_7 hnc3_7 hnb3_9 hnc3_9 hnb4_7 hnc4_7 hnb4_9 hnc4_9 hnb7_9 hnc7_9
  clear hx1 HB HSW HSX HH BK2 BK3 BK4 BK7 BK9
  have HB := Aside0.mk hb
  have HSW := sW_
  have HH := Aside0.mk hH2
  have BK2 := b2_
  have BK3 := b3_
  have BK4 := b4_
  have BK7 := b7_
  have BK9 := b9_
  clear sW_ hb hg hat ho hH2 HBM b2_ b3_ b4_ b7_ b9_
  obtain ⟨hcz2_0, hfz2_0, hcz2_1, hfz2_1⟩ := Yt.c2 BK2.out; obtain ⟨hcz3_0, hfz3_0, hcz3_1, hfz3_1, hcz3_2, hfz3_2⟩ := Yt.c3 BK3.out; obtain ⟨hcz4_0, hfz4_0, hcz4_1, hfz4_1⟩ := Yt.c2 BK4.out; obtain ⟨hcz7_0, hfz7_0, hcz7_1, hfz7_1⟩ := Yt.c2 BK7.out; obtain ⟨hcz9_0, hfz9_0, hcz9_1, hfz9_1⟩ := Yt.c2 BK9.out
  have HBM := Aside0.mk (Below.refl w17.heap.size w17)
  refine hK.out _ _ ⟨Yt.keep (by repeat (first | (with_reducible first | exact HBM.out | apply below_alloc | apply pw_below_drewN | apply below_drew1) | exact HBM.out)) hcz9_1, Yt.keep (by repeat (first | (with_reducible first | exact HBM.out | apply below_alloc | apply pw_below_drewN | apply below_drew1) | exact HBM.out)) hcz3_2, Yt.keep (by repeat (first | (with_reducible first | exact HBM.out | apply below_alloc | apply pw_below_drewN | apply below_drew1) | exact HBM.out)) hcz3_1, Yt.keep (by repeat (first | (with_reducible first | exact HBM.out | apply below_alloc | apply pw_below_drewN | apply below_drew1) | exact HBM.out)) hx17⟩ (fun hHeld => ?_)
  clear hK K
  refine norm_ (a' := ?_) ?_ ?_
  rotate_left
  · show Act.put _ (some 117) _ = _
    simp only [Act.put, List.setIfInBounds_toArray, List.set_cons_zero, List.set_cons_succ, i64_w, i32_w]
    rfl
  refine one_ (i := 14) (N := some 118) #[true, true, true, true, true, true, true, true, true, true, true, true, true, true, true, false, false] rfl rfl (one_of HT_.out (by kernel_rfl)) (by decide) (fun K hK => ?_)
  refine goes_ Try.func46 (by kernel_rfl) rfl #[.slice Av (ls.length + 1) cv] (by rfl) rfl rfl (by (try simp only [List.map_toArray, List.map_cons, List.map_nil]); first | done | rfl) ?_
  with_reducible refine (Yt.own46 Av cv (ls.length + 1) (ls ++ [b]) _ (by simp) ?side1 HCV.out.1 (by have := HSL.out; omega)).mono ?_
  (case side1 => exact HCV.out.2)
  rintro e w18 ⟨v18, rfl, hR, hb⟩
  refine ⟨_, rfl, ?_⟩
  have hH3 := Kd.H_below HH.out hb
  have HV := Aside0.mk hR
  obtain ⟨Au, cu, eu⟩ := Kd.R_slice hR
  rw [hlen17] at eu
  subst eu
  try clear hcz2_0 hfz2_0 hcz2_1 hfz2_1
  try clear hcz3_0 hfz3_0 hcz3_1 hfz3_1 hcz3_2 hfz3_2
  try clear hcz4_0 hfz4_0 hcz4_1 hfz4_1
  try clear hcz7_0 hfz7_0 hcz7_1 hfz7_1
  try clear hcz9_0 hfz9_0 hcz9_1 hfz9_1
  try clear hnb2_3 hnc2_3 hnb2_4 hnc2_4 hnb2_7 hnc2_7 hnb2_9 hnc2_9 hnb3_4 hnc3_4 hnb3_7 hnc3_7 hnb3_9 hnc3_9 hnb4_7 hnc4_7 hnb4_9 hnc4_9 hnb7_9 hnc7_9
  have n0_ := Aside0.mk (below_step (by exact bel_ HB.out) hb); have m2_ := Aside0.mk (bb_ BK2.out hb); have m3_ := Aside0.mk (bb_ BK3.out hb); have m4_ := Aside0.mk (bb_ BK4.out hb); have m7_ := Aside0.mk (bb_ BK7.out hb); have m9_ := Aside0.mk (bb_ BK9.out hb); have mHSW_ := Aside0.mk (Yt.sb HSW.out hb); clear HB; have HB := n0_; clear n0_; clear BK2; have BK2 := m2_; clear m2_; clear BK3; have BK3 := m3_; clear m3_; clear BK4; have BK4 := m4_; clear m4_; clear BK7; have BK7 := m7_; clear m7_; clear BK9; have BK9 := m9_; clear m9_; clear HSW; have HSW := mHSW_; clear mHSW_
  clear hR hb HBM
  obtain ⟨hat18, hfz18⟩ := Kd.H_at hH3 h0s h1s
  have hx18 := hat18 0 _ rfl
  have hf18 := hfz18 0
  rw [show (Kd.slice 3 (Kd.int .i64)).sz = 1 from rfl, Nat.mul_one, Nat.add_zero] at hx18 hf18
  clear hat18 hfz18 hx17
  have HH3 := Aside0.mk hH3
  clear hH3
  obtain ⟨hcz2_0, hfz2_0, hcz2_1, hfz2_1⟩ := Yt.c2 BK2.out; obtain ⟨hcz3_0, hfz3_0, hcz3_1, hfz3_1, hcz3_2, hfz3_2⟩ := Yt.c3 BK3.out; obtain ⟨hcz4_0, hfz4_0, hcz4_1, hfz4_1⟩ := Yt.c2 BK4.out; obtain ⟨hcz7_0, hfz7_0, hcz7_1, hfz7_1⟩ := Yt.c2 BK7.out; obtain ⟨hcz9_0, hfz9_0, hcz9_1, hfz9_1⟩ := Yt.c2 BK9.out
  refine hK.out _ _ ⟨hcz9_1, hcz3_2, hcz3_1, hx18⟩ (fun hHeld => ?_)
  clear hK K
  refine norm_ (a' := ?_) ?_ ?_
  rotate_left
  · show Act.put _ (some 118) _ = _
    simp only [Act.put, List.setIfInBounds_toArray, List.set_cons_zero, List.set_cons_succ, i64_w, i32_w]
    rfl
  refine pu_ 15 119 HT_ #[true, true, true, true, true, true, true, true, true, true, true, true, true, true, true, true, false] rfl rfl ?_
  refine last_ (i := 16) (N := none) #[true, true, true, true, true, true, true, true, true, true, true, true, true, true, true, true, true] rfl rfl (one_of HT_.out (by kernel_rfl)) (by decide) (fun K hK => ?_)
  refine skip_ (w1 := ?_) (by rfl) rfl ?_ ?_
  rotate_left
  · go_simp
    rfl
  refine hK.out _ _ ?_
  clear hK K
  refine done_ (done_of HT_.out (by kernel_rfl)) ?_
  have hMV : (Kd.slice 3 (Kd.int .i64)).M w18 w.heap.size (fun k_ => oki k_ ∨ (M ≤ k_ ∧ w81.heap.size ≤ k_)) (ls ++ [b]) ([].take 0 ++ [.slice Au (ls.length + 1) cu] ++ [Value.slice As ls.length cs].drop 1) := ⟨_, rfl, Kd.R_lower (Kd.R_mono (Kd.R_bound HV.out) (fun k hk => .inr ⟨Nat.le_trans HM81.out (Nat.le_trans HW17.out hk.2.1), Nat.le_trans HW17.out hk.2.1⟩)) (Nat.le_trans HMW.out (Nat.le_trans HM81.out HW17.out))⟩
  have sX_ := (show Kd.S (Kd.slice 3 (Kd.int .i64)) 28 (w18.setCell ⟨gx, s.toNat, none⟩ (.slice Au (ls.length + 1) cu)) w.heap.size (fun k => M ≤ k) (.slice (some ⟨gx, 0, none⟩) l.length cx) (l.set s.toNat (ls ++ [b])) from by have h_ := (Kd.S_seg0 HH3.out h0s h1s (seg := [.slice Au (ls.length + 1) cu]) (j := 0) (Nat.le_refl 1) (x' := ls ++ [b]) hMV (fun _ hk => hk)).1; rw [show (Kd.slice 3 (Kd.int .i64)).sz = 1 from rfl, Nat.mul_one, Nat.add_zero] at h_; exact h_)
  have b2_ : (w18.setCell ⟨gx, s.toNat, none⟩ (.slice Au (ls.length + 1) cu)).heap[gb2]? = some (.cells #[.int .i64 H, .slice A l.length c] 69 (0, 0)) := blk_far BK2.out NX2.out _
  have b3_ : (w18.setCell ⟨gx, s.toNat, none⟩ (.slice Au (ls.length + 1) cu)).heap[gb3]? = some (.cells #[.int .i64 1, .int .i64 b, .int .i64 s] 76 (0, 0)) := blk_far BK3.out NX3.out _
  have b4_ : (w18.setCell ⟨gx, s.toNat, none⟩ (.slice Au (ls.length + 1) cu)).heap[gb4]? = some (.cells #[.int .i64 0, .slice none 0 0] 69 (0, 0)) := blk_far BK4.out NX4.out _
  have b7_ : (w18.setCell ⟨gx, s.toNat, none⟩ (.slice Au (ls.length + 1) cu)).heap[gb7]? = some (.cells #[.int .i64 H, .slice Aw l.length cw] 69 (0, 0)) := blk_far BK7.out NX7.out _
  have b9_ : (w18.setCell ⟨gx, s.toNat, none⟩ (.slice Au (ls.length + 1) cu)).heap[gb9]? = some (.cells #[.int .i64 H, .slice (some ⟨gx, 0, none⟩) l.length cx] 69 (0, 0)) := blk_far BK9.out NX9.out _
  have sW_ : Kd.S (Kd.slice 3 (Kd.int .i64)) 28 (w18.setCell ⟨gx, s.toNat, none⟩ (.slice Au (ls.length + 1) cu)) w.heap.size (fun k => k < M) (.slice Aw l.length cw) l := Kd.S_far (p := ⟨gx, s.toNat, none⟩) HSW.out (fun k hk => by intro e_; have h_ : k < M := hk; have h2_ := HGX.out; rw [e_] at h_; exact absurd h_ (Nat.not_lt.2 h2_)) _
  have hb_ : Below w.heap.size w (w18.setCell ⟨gx, s.toNat, none⟩ (.slice Au (ls.length + 1) cu)) := below_set HB.out (Nat.le_trans HMW.out HGX.out)
  try clear hcz2_0 hfz2_0 hcz2_1 hfz2_1
  try clear hcz3_0 hfz3_0 hcz3_1 hfz3_1 hcz3_2 hfz3_2
  try clear hcz4_0 hfz4_0 hcz4_1 hfz4_1
  try clear hcz7_0 hfz7_0 hcz7_1 hfz7_1
  try clear hcz9_0 hfz9_0 hcz9_1 hfz9_1
  try clear hnb2_3 hnc2_3 hnb2_4 hnc2_4 hnb2_7 hnc2_7 hnb2_9 hnc2_9 hnb3_4 hnc3_4 hnb3_7 hnc3_7 hnb3_9 hnc3_9 hnb4_7 hnc4_7 hnb4_9 hnc4_9 hnb7_9 hnc7_9
  generalize w18.setCell ⟨gx, s.toNat, none⟩ (.slice Au (ls.length + 1) cu) = w20 at sX_ sW_ hb_ b2_ b3_ b4_ b7_ b9_ ⊢
  try clear HSX
  clear HB HSW BK2 BK3 BK4 BK7 BK9
  have HB := Aside0.mk hb_
  have HSX := Aside0.mk sX_
  have HSW := Aside0.mk sW_
  clear hb_ sX_ sW_
  have BK2 := Aside0.mk b2_
  have BK3 := Aside0.mk b3_
  have BK4 := Aside0.mk b4_
  have BK7 := Aside0.mk b7_
  have BK9 := Aside0.mk b9_
  clear b2_ b3_ b4_ b7_ b9_
  obtain ⟨hcz2_0, hfz2_0, hcz2_1, hfz2_1⟩ := Yt.c2 BK2.out; obtain ⟨hcz3_0, hfz3_0, hcz3_1, hfz3_1, hcz3_2, hfz3_2⟩ := Yt.c3 BK3.out; obtain ⟨hcz4_0, hfz4_0, hcz4_1, hfz4_1⟩ := Yt.c2 BK4.out; obtain ⟨hcz7_0, hfz7_0, hcz7_1, hfz7_1⟩ := Yt.c2 BK7.out; obtain ⟨hcz9_0, hfz9_0, hcz9_1, hfz9_1⟩ := Yt.c2 BK9.out
  have hnb2_3 := NB2_3.out; have hnc2_3 := Ne.symm NB2_3.out
  have hnb2_4 := NB2_4.out; have hnc2_4 := Ne.symm NB2_4.out
  have hnb2_7 := NB2_7.out; have hnc2_7 := Ne.symm NB2_7.out
  have hnb2_9 := NB2_9.out; have hnc2_9 := Ne.symm NB2_9.out
  have hnb3_4 := NB3_4.out; have hnc3_4 := Ne.symm NB3_4.out
  have hnb3_7 := NB3_7.out; have hnc3_7 := Ne.symm NB3_7.out
  have hnb3_9 := NB3_9.out; have hnc3_9 := Ne.symm NB3_9.out
  have hnb4_7 := NB4_7.out; have hnc4_7 := Ne.symm NB4_7.out
  have hnb4_9 := NB4_9.out; have hnc4_9 := Ne.symm NB4_9.out
  have hnb7_9 := NB7_9.out; have hnc7_9 := Ne.symm NB7_9.out
  try go_wp2
  rw [ELS.out] at HSX
  refine bodyPost_ret (results_ctt rfl _ _ gb4 69 #[.int .i64 H, .slice (some ⟨gx, 0, none⟩) l.length cx] (0, 0) _ rfl (by (with_reducible repeat (first | refine blk_drewN ?_ _ | refine blk_drew ?_ | refine blk_alloc ?_ _)); refine blk_put (cs := #[.int .i64 H, .slice none 0 0]) ?_ 1 _ rfl; (with_reducible repeat (first | refine blk_drewN ?_ _ | refine blk_drew ?_ | refine blk_alloc ?_ _)); refine blk_put (cs := #[.int .i64 0, .slice none 0 0]) ?_ 0 _ rfl; (with_reducible repeat (first | refine blk_drewN ?_ _ | refine blk_drew ?_ | refine blk_alloc ?_ _)); exact BK4.out) Try.underlying69 rfl (by kernel_rfl)) rfl ?_
  exact ⟨_, rfl, by (with_reducible repeat (first | apply Kd.S_alloc | apply Kd.S_drewN | apply Kd.S_drew)); exact Kd.S_mono (Kd.S_far (p := ⟨gb4, 1, none⟩) (Kd.S_far (p := ⟨gb4, 0, none⟩) (Kd.S_types HSX.out BK4.out (by decide)) (fun _ hk => hk.2) _) (fun _ hk => hk.2) _) (fun _ hk => trivial), by exact bel_ HB.out⟩
set_option maxHeartbeats 8000000 in
set_option maxRecDepth 100000 in
theorem impl_DoYard.sh_none (H : Int) (A : Option Addr) (c : Nat) (l : List (List Int)) (b s : Int) (w : World) (hr0 : Kd.C (Kd.slice 3 (Kd.int .i64)) w A l.length l) (hc0 : l.length ≤ c) (hs1 : l.length ≤ 1000) (hs2 : ∀ x ∈ l, x.length ≤ 100) (hok : impl_YardOk.f H l = some true) (hst : impl_in.f s 0 ((l.length : Int) - 1) = some true) (hbx : impl_in.f b 0 ((l.length : Int) - 1) = some true) (hbs : (b == s) = false) (fa ft : Int) (fth : Bool) (hfb : impl_FindBox.f 50 H l b = some (fa, ft, fth)) (hlen : 0 < l.length) (hs0 : 0 ≤ s) (hs9 : s < (l.length : Int)) (hb0 : 0 ≤ b) (hb9 : b < (l.length : Int)) (hz : (rd_L2 l b).length = 0) :
    Calls Try.prog 31 #[.agg #[.int .i64 H, .slice A l.length c], .agg #[.int .i64 3, .int .i64 b, .int .i64 s]] w fun e w' => ∃ v0_ : Value, e = .returned (.tuple #[.agg #[.int .i64 H, v0_], .int .i64 0, .int .i64 3]) ∧ Kd.S (Kd.slice 3 (Kd.int .i64)) 28 w' w.heap.size (fun _ => True) v0_ l ∧ Below w.heap.size w w' := by
  have hu69 := Try.underlying69
  have hu76 := Try.underlying76
  have HR := Aside0.mk hr0
  have HC := Aside0.mk hc0
  have HS1 := Aside0.mk hs1
  have HS2 := Aside0.mk hs2
  have HF := Aside0.mk (show impl_Yard_own.f H l = some (H, l) from if_pos ⟨hs1, fun x hx => Nat.le_trans (hs2 x hx) (by omega)⟩)
  clear hr0 hc0 hs1 hs2
  obtain ⟨nn, hnn⟩ : ∃ nn : Int, nn = (l.length : Int) - 1 := ⟨_, rfl⟩
  have hwn : wrap64 ((l.length : Int) - 1) = nn := by rw [← hnn]; exact impl_YardOk.w64 (by omega) (by have := HS1.out; omega)
  have HNN := Aside0.mk hnn
  clear hnn
  have HOK := Aside0.mk hok
  clear hok
  have HFB := Aside0.mk hfb
  have HLEN := Aside0.mk hlen
  clear hfb hlen
  have AK := Aside0.mk (show impl_in.f 3 1 3 = some true from rfl)
  rw [← HNN.out] at hst
  have AST := Aside0.mk hst
  clear hst
  rw [← HNN.out] at hbx
  have ABX := Aside0.mk hbx
  clear hbx
  have h0s := hs0
  have h1s := hs9
  have h0b := hb0
  have h1b := hb9
  clear hs0 hs9 hb0 hb9
  have HB := Aside0.mk (Below.refl w.heap.size w)
  go_enter Try.func31, Try.ntmps31
  go_upto_region 2 with (first | ((with_reducible refine gate_dst (N := 2) rfl ?_); refine box_event ?hg (N := 2) ?hd (cs := #[.int .i64 H, .slice A l.length c]) (t := 69) ?hr ?_; (case hd => rfl); (case hg => rfl); (case hr => first | (go_simp; done) | (go_simp; rfl)); intro gb2 hg w2 hbox hb; have q1_ := Aside0.mk hbox; have q2_ := Aside0.mk ((by rw [hg]; exact (below_size (by exact bel_ HB.out))) : w.heap.size ≤ gb2); have n0_ := Aside0.mk (below_step (by exact bel_ HB.out) hb); clear HB; have HB := n0_; clear n0_; have BK2 := q1_; have GE2 := q2_; clear q1_ q2_; clear hb hbox hg; obtain ⟨hcz2_0, hfz2_0, hcz2_1, hfz2_1⟩ := Yt.c2 BK2.out) | ((with_reducible refine gate_dst (N := 3) rfl ?_); refine box_event ?hg (N := 3) ?hd (cs := #[.int .i64 3, .int .i64 b, .int .i64 s]) (t := 76) ?hr ?_; (case hd => rfl); (case hg => rfl); (case hr => first | (go_simp; done) | (go_simp; rfl)); intro gb3 hg w3 hbox hb; have q1_ := Aside0.mk hbox; have q2_ := Aside0.mk ((by rw [hg]; exact (below_size (by exact bel_ HB.out))) : w.heap.size ≤ gb3); have NB2_3 := Aside0.mk (nl_ BK2.out hg); have n0_ := Aside0.mk (below_step (by exact bel_ HB.out) hb); have m2_ := Aside0.mk (bb_ BK2.out hb); clear HB; have HB := n0_; clear n0_; clear BK2; have BK2 := m2_; clear m2_; have BK3 := q1_; have GE3 := q2_; clear q1_ q2_; clear hb hbox hg; obtain ⟨hcz2_0, hfz2_0, hcz2_1, hfz2_1⟩ := Yt.c2 BK2.out; obtain ⟨hcz3_0, hfz3_0, hcz3_1, hfz3_1, hcz3_2, hfz3_2⟩ := Yt.c3 BK3.out; have hnb2_3 := NB2_3.out; have hnc2_3 := Ne.symm NB2_3.out) | ((with_reducible refine gate_dst (N := 4) rfl ?_); refine box_event ?hg (N := 4) ?hd (cs := #[.int .i64 0, .slice none 0 0]) (t := 69) ?hr ?_; (case hd => rfl); (case hg => rfl); (case hr => first | (go_simp; done) | (go_simp; rfl)); intro gb4 hg w4 hbox hb; have q1_ := Aside0.mk hbox; have q2_ := Aside0.mk ((by rw [hg]; exact (below_size (by exact bel_ HB.out))) : w.heap.size ≤ gb4); have NB2_4 := Aside0.mk (nl_ BK2.out hg); have NB3_4 := Aside0.mk (nl_ BK3.out hg); have n0_ := Aside0.mk (below_step (by exact bel_ HB.out) hb); have m2_ := Aside0.mk (bb_ BK2.out hb); have m3_ := Aside0.mk (bb_ BK3.out hb); clear HB; have HB := n0_; clear n0_; clear BK2; have BK2 := m2_; clear m2_; clear BK3; have BK3 := m3_; clear m3_; have BK4 := q1_; have GE4 := q2_; clear q1_ q2_; clear hb hbox hg; obtain ⟨hcz2_0, hfz2_0, hcz2_1, hfz2_1⟩ := Yt.c2 BK2.out; obtain ⟨hcz3_0, hfz3_0, hcz3_1, hfz3_1, hcz3_2, hfz3_2⟩ := Yt.c3 BK3.out; obtain ⟨hcz4_0, hfz4_0, hcz4_1, hfz4_1⟩ := Yt.c2 BK4.out; have hnb2_4 := NB2_4.out; have hnc2_4 := Ne.symm NB2_4.out; have hnb3_4 := NB3_4.out; have hnc3_4 := Ne.symm NB3_4.out) | ((with_reducible refine gate_callee (f := 71) rfl ?_); refine goesL_ (some 18) rfl rfl Try.func71 (by kernel_rfl) rfl #[.agg #[.int .i64 H, .slice A l.length c]] rfl (by (try simp only [List.map_toArray, List.map_cons, List.map_nil]); first | done | rfl) ?_; (with_reducible refine (impl_Yard_own.calls H A c l H l _ ?side1 HC.out HF.out).mono ?_); (case side1 => exact Kd.C_below HR.out (by exact bel_ HB.out)); rintro e w18 ⟨v18, rfl, hS, hb⟩; refine ⟨_, rfl, ?_⟩; obtain ⟨Aw, cw, ew⟩ := Kd.S_slice hS; subst ew; have HSW := Aside0.mk (Kd.S_lower hS (below_size (by exact bel_ HB.out))); have n0_ := Aside0.mk (below_step (by exact bel_ HB.out) hb); have m2_ := Aside0.mk (bb_ BK2.out hb); have m3_ := Aside0.mk (bb_ BK3.out hb); have m4_ := Aside0.mk (bb_ BK4.out hb); clear HB; have HB := n0_; clear n0_; clear BK2; have BK2 := m2_; clear m2_; clear BK3; have BK3 := m3_; clear m3_; clear BK4; have BK4 := m4_; clear m4_; clear hb hS; obtain ⟨hcz2_0, hfz2_0, hcz2_1, hfz2_1⟩ := Yt.c2 BK2.out; obtain ⟨hcz3_0, hfz3_0, hcz3_1, hfz3_1, hcz3_2, hfz3_2⟩ := Yt.c3 BK3.out; obtain ⟨hcz4_0, hfz4_0, hcz4_1, hfz4_1⟩ := Yt.c2 BK4.out) | ((with_reducible refine gate_dst (N := 7) rfl ?_); refine box_event ?hg (N := 7) ?hd (cs := #[.int .i64 0, .slice none 0 0]) (t := 69) ?hr ?_; (case hd => rfl); (case hg => rfl); (case hr => first | (go_simp; done) | (go_simp; rfl)); intro gb7 hg w7 hbox hb; have q1_ := Aside0.mk hbox; have q2_ := Aside0.mk ((by rw [hg]; exact (below_size (by exact bel_ HB.out))) : w.heap.size ≤ gb7); have NB2_7 := Aside0.mk (nl_ BK2.out hg); have NB3_7 := Aside0.mk (nl_ BK3.out hg); have NB4_7 := Aside0.mk (nl_ BK4.out hg); have n0_ := Aside0.mk (below_step (by exact bel_ HB.out) hb); have m2_ := Aside0.mk (bb_ BK2.out hb); have m3_ := Aside0.mk (bb_ BK3.out hb); have m4_ := Aside0.mk (bb_ BK4.out hb); have mHSW_ := Aside0.mk (Yt.sb HSW.out hb); clear HB; have HB := n0_; clear n0_; clear BK2; have BK2 := m2_; clear m2_; clear BK3; have BK3 := m3_; clear m3_; clear BK4; have BK4 := m4_; clear m4_; clear HSW; have HSW := mHSW_; clear mHSW_; have BK7 := q1_; have GE7 := q2_; clear q1_ q2_; clear hb hbox hg; obtain ⟨hcz2_0, hfz2_0, hcz2_1, hfz2_1⟩ := Yt.c2 BK2.out; obtain ⟨hcz3_0, hfz3_0, hcz3_1, hfz3_1, hcz3_2, hfz3_2⟩ := Yt.c3 BK3.out; obtain ⟨hcz4_0, hfz4_0, hcz4_1, hfz4_1⟩ := Yt.c2 BK4.out; obtain ⟨hcz7_0, hfz7_0, hcz7_1, hfz7_1⟩ := Yt.c2 BK7.out; have hnb2_7 := NB2_7.out; have hnc2_7 := Ne.symm NB2_7.out; have hnb3_7 := NB3_7.out; have hnc3_7 := Ne.symm NB3_7.out; have hnb4_7 := NB4_7.out; have hnc4_7 := Ne.symm NB4_7.out))
  (try simp only [Act.put, List.setIfInBounds_toArray, List.set_cons_zero, List.set_cons_succ])
  have b7_ : ((w7.setCell ⟨gb7, 0, none⟩ (.int .i64 H)).setCell ⟨gb7, 1, none⟩ (.slice Aw l.length cw)).heap[gb7]? = some (.cells #[.int .i64 H, .slice Aw l.length cw] 69 (0, 0)) := blk_put (cs := #[.int .i64 H, .slice none 0 0]) (blk_put (cs := #[.int .i64 0, .slice none 0 0]) BK7.out 0 _ rfl) 1 _ rfl
  have b2_ : ((w7.setCell ⟨gb7, 0, none⟩ (.int .i64 H)).setCell ⟨gb7, 1, none⟩ (.slice Aw l.length cw)).heap[gb2]? = some (.cells #[.int .i64 H, .slice A l.length c] 69 (0, 0)) := blk_far (blk_far BK2.out NB2_7.out _) NB2_7.out _
  have b3_ : ((w7.setCell ⟨gb7, 0, none⟩ (.int .i64 H)).setCell ⟨gb7, 1, none⟩ (.slice Aw l.length cw)).heap[gb3]? = some (.cells #[.int .i64 3, .int .i64 b, .int .i64 s] 76 (0, 0)) := blk_far (blk_far BK3.out NB3_7.out _) NB3_7.out _
  have b4_ : ((w7.setCell ⟨gb7, 0, none⟩ (.int .i64 H)).setCell ⟨gb7, 1, none⟩ (.slice Aw l.length cw)).heap[gb4]? = some (.cells #[.int .i64 0, .slice none 0 0] 69 (0, 0)) := blk_far (blk_far BK4.out NB4_7.out _) NB4_7.out _
  have sHSW_ := Kd.S_mono (Kd.S_far (p := ⟨gb7, 1, none⟩) (Kd.S_far (p := ⟨gb7, 0, none⟩) (Kd.S_types HSW.out BK7.out (by decide)) (fun _ hk => hk.2) (.int .i64 H)) (fun _ hk => hk.2) (.slice Aw l.length cw)) (fun _ hk => hk.1)
  have hb_ : Below w.heap.size w ((w7.setCell ⟨gb7, 0, none⟩ (.int .i64 H)).setCell ⟨gb7, 1, none⟩ (.slice Aw l.length cw)) := below_set (below_set HB.out GE7.out) GE7.out
  try clear hcz2_0 hfz2_0 hcz2_1 hfz2_1
  try clear hcz3_0 hfz3_0 hcz3_1 hfz3_1 hcz3_2 hfz3_2
  try clear hcz4_0 hfz4_0 hcz4_1 hfz4_1
  try clear hcz7_0 hfz7_0 hcz7_1 hfz7_1
  try clear hnb2_3 hnc2_3 hnb2_4 hnc2_4 hnb2_7 hnc2_7 hnb3_4 hnc3_4 hnb3_7 hnc3_7 hnb4_7 hnc4_7
  generalize (w7.setCell ⟨gb7, 0, none⟩ (.int .i64 H)).setCell ⟨gb7, 1, none⟩ (.slice Aw l.length cw) = w8 at b2_ b3_ b4_ b7_ sHSW_ hb_ ⊢
  clear HB BK2 BK3 BK4 BK7 HSW
  have HB := Aside0.mk hb_
  clear hb_
  have BK2 := Aside0.mk b2_
  clear b2_
  have BK3 := Aside0.mk b3_
  clear b3_
  have BK4 := Aside0.mk b4_
  clear b4_
  have BK7 := Aside0.mk b7_
  clear b7_
  have HSW := Aside0.mk sHSW_
  clear sHSW_
  obtain ⟨hcz2_0, hfz2_0, hcz2_1, hfz2_1⟩ := Yt.c2 BK2.out; obtain ⟨hcz3_0, hfz3_0, hcz3_1, hfz3_1, hcz3_2, hfz3_2⟩ := Yt.c3 BK3.out; obtain ⟨hcz4_0, hfz4_0, hcz4_1, hfz4_1⟩ := Yt.c2 BK4.out; obtain ⟨hcz7_0, hfz7_0, hcz7_1, hfz7_1⟩ := Yt.c2 BK7.out
  have hnb2_3 := NB2_3.out; have hnc2_3 := Ne.symm NB2_3.out
  have hnb2_4 := NB2_4.out; have hnc2_4 := Ne.symm NB2_4.out
  have hnb2_7 := NB2_7.out; have hnc2_7 := Ne.symm NB2_7.out
  have hnb3_4 := NB3_4.out; have hnc3_4 := Ne.symm NB3_4.out
  have hnb3_7 := NB3_7.out; have hnc3_7 := Ne.symm NB3_7.out
  have hnb4_7 := NB4_7.out; have hnc4_7 := Ne.symm NB4_7.out
  go_upto_region 5 with (first | ((with_reducible refine gate_callee (f := 32) rfl ?_); refine goesL_ (some 24) rfl rfl Try.func32 (by kernel_rfl) rfl #[.agg #[.int .i64 H, .slice A l.length c]] rfl (by (try simp only [List.map_toArray, List.map_cons, List.map_nil]); first | done | rfl) ?_; (with_reducible refine (impl_YardOk.calls H A c l true _ ?side1 HC.out HOK.out).mono ?_); (case side1 => exact Kd.C_below HR.out (by exact bel_ HB.out)); rintro e w24 ⟨rfl, hb⟩; refine ⟨_, rfl, ?_⟩; have n0_ := Aside0.mk (below_step (by exact bel_ HB.out) hb); have m2_ := Aside0.mk (bb_ BK2.out hb); have m3_ := Aside0.mk (bb_ BK3.out hb); have m4_ := Aside0.mk (bb_ BK4.out hb); have m7_ := Aside0.mk (bb_ BK7.out hb); have mHSW_ := Aside0.mk (Yt.sb HSW.out hb); clear HB; have HB := n0_; clear n0_; clear BK2; have BK2 := m2_; clear m2_; clear BK3; have BK3 := m3_; clear m3_; clear BK4; have BK4 := m4_; clear m4_; clear BK7; have BK7 := m7_; clear m7_; clear HSW; have HSW := mHSW_; clear mHSW_; clear hb; obtain ⟨hcz2_0, hfz2_0, hcz2_1, hfz2_1⟩ := Yt.c2 BK2.out; obtain ⟨hcz3_0, hfz3_0, hcz3_1, hfz3_1, hcz3_2, hfz3_2⟩ := Yt.c3 BK3.out; obtain ⟨hcz4_0, hfz4_0, hcz4_1, hfz4_1⟩ := Yt.c2 BK4.out; obtain ⟨hcz7_0, hfz7_0, hcz7_1, hfz7_1⟩ := Yt.c2 BK7.out) | (go_at_call 48; (with_reducible refine (impl_in.calls 3 1 3 true _ AK.out).mono ?_); rintro e w' ⟨rfl, ⟨nd, rfl⟩⟩; (try first | exact ⟨rfl, _, World.drewN_drewN _ _ _⟩ | exact ⟨rfl, _, Eq.trans (World.drewN_drewN _ _ _) (congrArg (World.drewN _) (Nat.add_assoc _ _ _))⟩)) | (go_at_call 48; (with_reducible refine (impl_in.calls s 0 nn true _ AST.out).mono ?_); rintro e w' ⟨rfl, ⟨nd, rfl⟩⟩; (try first | exact ⟨rfl, _, World.drewN_drewN _ _ _⟩ | exact ⟨rfl, _, Eq.trans (World.drewN_drewN _ _ _) (congrArg (World.drewN _) (Nat.add_assoc _ _ _))⟩)) | (go_at_call 48; (with_reducible refine (impl_in.calls b 0 nn true _ ABX.out).mono ?_); rintro e w' ⟨rfl, ⟨nd, rfl⟩⟩; (try first | exact ⟨rfl, _, World.drewN_drewN _ _ _⟩ | exact ⟨rfl, _, Eq.trans (World.drewN_drewN _ _ _) (congrArg (World.drewN _) (Nat.add_assoc _ _ _))⟩)))
  repeat (go_quiet (first | (go_at_call 48; (with_reducible refine (impl_in.calls 3 1 3 true _ AK.out).mono ?_); rintro e w' ⟨rfl, ⟨nd, rfl⟩⟩; (try first | exact ⟨rfl, _, World.drewN_drewN _ _ _⟩ | exact ⟨rfl, _, Eq.trans (World.drewN_drewN _ _ _) (congrArg (World.drewN _) (Nat.add_assoc _ _ _))⟩)) | (go_at_call 48; (with_reducible refine (impl_in.calls s 0 nn true _ AST.out).mono ?_); rintro e w' ⟨rfl, ⟨nd, rfl⟩⟩; (try first | exact ⟨rfl, _, World.drewN_drewN _ _ _⟩ | exact ⟨rfl, _, Eq.trans (World.drewN_drewN _ _ _) (congrArg (World.drewN _) (Nat.add_assoc _ _ _))⟩)) | (go_at_call 48; (with_reducible refine (impl_in.calls b 0 nn true _ ABX.out).mono ?_); rintro e w' ⟨rfl, ⟨nd, rfl⟩⟩; (try first | exact ⟨rfl, _, World.drewN_drewN _ _ _⟩ | exact ⟨rfl, _, Eq.trans (World.drewN_drewN _ _ _) (congrArg (World.drewN _) (Nat.add_assoc _ _ _))⟩))); try go_upto_region 5 with (first | (go_at_call 48; (with_reducible refine (impl_in.calls 3 1 3 true _ AK.out).mono ?_); rintro e w' ⟨rfl, ⟨nd, rfl⟩⟩; (try first | exact ⟨rfl, _, World.drewN_drewN _ _ _⟩ | exact ⟨rfl, _, Eq.trans (World.drewN_drewN _ _ _) (congrArg (World.drewN _) (Nat.add_assoc _ _ _))⟩)) | (go_at_call 48; (with_reducible refine (impl_in.calls s 0 nn true _ AST.out).mono ?_); rintro e w' ⟨rfl, ⟨nd, rfl⟩⟩; (try first | exact ⟨rfl, _, World.drewN_drewN _ _ _⟩ | exact ⟨rfl, _, Eq.trans (World.drewN_drewN _ _ _) (congrArg (World.drewN _) (Nat.add_assoc _ _ _))⟩)) | (go_at_call 48; (with_reducible refine (impl_in.calls b 0 nn true _ ABX.out).mono ?_); rintro e w' ⟨rfl, ⟨nd, rfl⟩⟩; (try first | exact ⟨rfl, _, World.drewN_drewN _ _ _⟩ | exact ⟨rfl, _, Eq.trans (World.drewN_drewN _ _ _) (congrArg (World.drewN _) (Nat.add_assoc _ _ _))⟩))))
  (try simp only [Act.put, List.setIfInBounds_toArray, List.set_cons_zero, List.set_cons_succ])
  obtain ⟨M, hM⟩ : ∃ M, M = w24.heap.size := ⟨_, rfl⟩
  have HM := Aside0.mk hM
  have HMW : Aside0 (w.heap.size ≤ M) := ⟨by rw [hM]; exact HB.out.size⟩
  clear hM
  go_upto_region 6 with (first | ((with_reducible refine gate_callee (f := 71) rfl ?_); refine goesL_ (some 76) rfl rfl Try.func71 (by kernel_rfl) rfl #[.agg #[.int .i64 H, .slice A l.length c]] rfl (by (try simp only [List.map_toArray, List.map_cons, List.map_nil]); first | done | rfl) ?_; (with_reducible refine (impl_Yard_own.calls H A c l H l _ ?side1 HC.out HF.out).mono ?_); (case side1 => exact Kd.C_below HR.out (by exact bel_ HB.out)); rintro e w76 ⟨v76, rfl, hS, hb⟩; refine ⟨_, rfl, ?_⟩; obtain ⟨gx, cx, ex, hgx, hgl, _⟩ := Kd.S_form hS HLEN.out; subst ex; have HGX : Aside0 (M ≤ gx) := ⟨by rw [HM.out]; exact hgx⟩; have mW_ := Aside0.mk (Kd.S_below (Kd.S_mono (ok' := fun k => k < M) (Kd.S_bound (Yt.sp HSW.out)) (fun k hk => by rw [HM.out]; exact hk.2.2.1)) hb); have HSX := Aside0.mk (Kd.S_lower (Kd.S_mono (ok' := fun k => M ≤ k) (Kd.S_bound hS) (fun k hk => by rw [HM.out]; exact hk.2.1)) (below_size (by exact bel_ HB.out))); have n0_ := Aside0.mk (below_step (by exact bel_ HB.out) hb); have m2_ := Aside0.mk (bb_ BK2.out hb); have m3_ := Aside0.mk (bb_ BK3.out hb); have m4_ := Aside0.mk (bb_ BK4.out hb); have m7_ := Aside0.mk (bb_ BK7.out hb); clear HB; have HB := n0_; clear n0_; clear BK2; have BK2 := m2_; clear m2_; clear BK3; have BK3 := m3_; clear m3_; clear BK4; have BK4 := m4_; clear m4_; clear BK7; have BK7 := m7_; clear m7_; clear HSW; have HSW := mW_; clear mW_; clear hb hS hgx hgl; obtain ⟨hcz2_0, hfz2_0, hcz2_1, hfz2_1⟩ := Yt.c2 BK2.out; obtain ⟨hcz3_0, hfz3_0, hcz3_1, hfz3_1, hcz3_2, hfz3_2⟩ := Yt.c3 BK3.out; obtain ⟨hcz4_0, hfz4_0, hcz4_1, hfz4_1⟩ := Yt.c2 BK4.out; obtain ⟨hcz7_0, hfz7_0, hcz7_1, hfz7_1⟩ := Yt.c2 BK7.out) | ((with_reducible refine gate_dst (N := 9) rfl ?_); refine box_event ?hg (N := 9) ?hd (cs := #[.int .i64 0, .slice none 0 0]) (t := 69) ?hr ?_; (case hd => rfl); (case hg => rfl); (case hr => first | (go_simp; done) | (go_simp; rfl)); intro gb9 hg w9 hbox hb; have q1_ := Aside0.mk hbox; have q2_ := Aside0.mk ((by rw [hg]; exact (below_size (by exact bel_ HB.out))) : w.heap.size ≤ gb9); have NB2_9 := Aside0.mk (nl_ BK2.out hg); have NB3_9 := Aside0.mk (nl_ BK3.out hg); have NB4_9 := Aside0.mk (nl_ BK4.out hg); have NB7_9 := Aside0.mk (nl_ BK7.out hg); have n0_ := Aside0.mk (below_step (by exact bel_ HB.out) hb); have m2_ := Aside0.mk (bb_ BK2.out hb); have m3_ := Aside0.mk (bb_ BK3.out hb); have m4_ := Aside0.mk (bb_ BK4.out hb); have m7_ := Aside0.mk (bb_ BK7.out hb); have mHSW_ := Aside0.mk (Yt.sb HSW.out hb); have mHSX_ := Aside0.mk (Yt.sb HSX.out hb); clear HB; have HB := n0_; clear n0_; clear BK2; have BK2 := m2_; clear m2_; clear BK3; have BK3 := m3_; clear m3_; clear BK4; have BK4 := m4_; clear m4_; clear BK7; have BK7 := m7_; clear m7_; clear HSW; have HSW := mHSW_; clear mHSW_; clear HSX; have HSX := mHSX_; clear mHSX_; have BK9 := q1_; have GE9 := q2_; clear q1_ q2_; clear hb hbox hg; obtain ⟨hcz2_0, hfz2_0, hcz2_1, hfz2_1⟩ := Yt.c2 BK2.out; obtain ⟨hcz3_0, hfz3_0, hcz3_1, hfz3_1, hcz3_2, hfz3_2⟩ := Yt.c3 BK3.out; obtain ⟨hcz4_0, hfz4_0, hcz4_1, hfz4_1⟩ := Yt.c2 BK4.out; obtain ⟨hcz7_0, hfz7_0, hcz7_1, hfz7_1⟩ := Yt.c2 BK7.out; obtain ⟨hcz9_0, hfz9_0, hcz9_1, hfz9_1⟩ := Yt.c2 BK9.out; have hnb2_9 := NB2_9.out; have hnc2_9 := Ne.symm NB2_9.out; have hnb3_9 := NB3_9.out; have hnc3_9 := Ne.symm NB3_9.out; have hnb4_9 := NB4_9.out; have hnc4_9 := Ne.symm NB4_9.out; have hnb7_9 := NB7_9.out; have hnc7_9 := Ne.symm NB7_9.out))
  (try simp only [Act.put, List.setIfInBounds_toArray, List.set_cons_zero, List.set_cons_succ])
  have b9_ : ((w9.setCell ⟨gb9, 0, none⟩ (.int .i64 H)).setCell ⟨gb9, 1, none⟩ (.slice (some ⟨gx, 0, none⟩) l.length cx)).heap[gb9]? = some (.cells #[.int .i64 H, .slice (some ⟨gx, 0, none⟩) l.length cx] 69 (0, 0)) := blk_put (cs := #[.int .i64 H, .slice none 0 0]) (blk_put (cs := #[.int .i64 0, .slice none 0 0]) BK9.out 0 _ rfl) 1 _ rfl
  have b2_ : ((w9.setCell ⟨gb9, 0, none⟩ (.int .i64 H)).setCell ⟨gb9, 1, none⟩ (.slice (some ⟨gx, 0, none⟩) l.length cx)).heap[gb2]? = some (.cells #[.int .i64 H, .slice A l.length c] 69 (0, 0)) := blk_far (blk_far BK2.out NB2_9.out _) NB2_9.out _
  have b3_ : ((w9.setCell ⟨gb9, 0, none⟩ (.int .i64 H)).setCell ⟨gb9, 1, none⟩ (.slice (some ⟨gx, 0, none⟩) l.length cx)).heap[gb3]? = some (.cells #[.int .i64 3, .int .i64 b, .int .i64 s] 76 (0, 0)) := blk_far (blk_far BK3.out NB3_9.out _) NB3_9.out _
  have b4_ : ((w9.setCell ⟨gb9, 0, none⟩ (.int .i64 H)).setCell ⟨gb9, 1, none⟩ (.slice (some ⟨gx, 0, none⟩) l.length cx)).heap[gb4]? = some (.cells #[.int .i64 0, .slice none 0 0] 69 (0, 0)) := blk_far (blk_far BK4.out NB4_9.out _) NB4_9.out _
  have b7_ : ((w9.setCell ⟨gb9, 0, none⟩ (.int .i64 H)).setCell ⟨gb9, 1, none⟩ (.slice (some ⟨gx, 0, none⟩) l.length cx)).heap[gb7]? = some (.cells #[.int .i64 H, .slice Aw l.length cw] 69 (0, 0)) := blk_far (blk_far BK7.out NB7_9.out _) NB7_9.out _
  have sHSW_ := Kd.S_mono (Kd.S_far (p := ⟨gb9, 1, none⟩) (Kd.S_far (p := ⟨gb9, 0, none⟩) (Kd.S_types HSW.out BK9.out (by decide)) (fun _ hk => hk.2) (.int .i64 H)) (fun _ hk => hk.2) (.slice (some ⟨gx, 0, none⟩) l.length cx)) (fun _ hk => hk.1)
  have sHSX_ := Kd.S_mono (Kd.S_far (p := ⟨gb9, 1, none⟩) (Kd.S_far (p := ⟨gb9, 0, none⟩) (Kd.S_types HSX.out BK9.out (by decide)) (fun _ hk => hk.2) (.int .i64 H)) (fun _ hk => hk.2) (.slice (some ⟨gx, 0, none⟩) l.length cx)) (fun _ hk => hk.1)
  have hb_ : Below w.heap.size w ((w9.setCell ⟨gb9, 0, none⟩ (.int .i64 H)).setCell ⟨gb9, 1, none⟩ (.slice (some ⟨gx, 0, none⟩) l.length cx)) := below_set (below_set HB.out GE9.out) GE9.out
  try clear hcz2_0 hfz2_0 hcz2_1 hfz2_1
  try clear hcz3_0 hfz3_0 hcz3_1 hfz3_1 hcz3_2 hfz3_2
  try clear hcz4_0 hfz4_0 hcz4_1 hfz4_1
  try clear hcz7_0 hfz7_0 hcz7_1 hfz7_1
  try clear hcz9_0 hfz9_0 hcz9_1 hfz9_1
  try clear hnb2_3 hnc2_3 hnb2_4 hnc2_4 hnb2_7 hnc2_7 hnb2_9 hnc2_9 hnb3_4 hnc3_4 hnb3_7 hnc3_7 hnb3_9 hnc3_9 hnb4_7 hnc4_7 hnb4_9 hnc4_9 hnb7_9 hnc7_9
  generalize (w9.setCell ⟨gb9, 0, none⟩ (.int .i64 H)).setCell ⟨gb9, 1, none⟩ (.slice (some ⟨gx, 0, none⟩) l.length cx) = w10 at b2_ b3_ b4_ b7_ b9_ sHSW_ sHSX_ hb_ ⊢
  clear HB BK2 BK3 BK4 BK7 BK9 HSW HSX
  have HB := Aside0.mk hb_
  clear hb_
  have BK2 := Aside0.mk b2_
  clear b2_
  have BK3 := Aside0.mk b3_
  clear b3_
  have BK4 := Aside0.mk b4_
  clear b4_
  have BK7 := Aside0.mk b7_
  clear b7_
  have BK9 := Aside0.mk b9_
  clear b9_
  have HSW := Aside0.mk sHSW_
  clear sHSW_
  have HSX := Aside0.mk sHSX_
  clear sHSX_
  obtain ⟨hcz2_0, hfz2_0, hcz2_1, hfz2_1⟩ := Yt.c2 BK2.out; obtain ⟨hcz3_0, hfz3_0, hcz3_1, hfz3_1, hcz3_2, hfz3_2⟩ := Yt.c3 BK3.out; obtain ⟨hcz4_0, hfz4_0, hcz4_1, hfz4_1⟩ := Yt.c2 BK4.out; obtain ⟨hcz7_0, hfz7_0, hcz7_1, hfz7_1⟩ := Yt.c2 BK7.out; obtain ⟨hcz9_0, hfz9_0, hcz9_1, hfz9_1⟩ := Yt.c2 BK9.out
  have hnb2_3 := NB2_3.out; have hnc2_3 := Ne.symm NB2_3.out
  have hnb2_4 := NB2_4.out; have hnc2_4 := Ne.symm NB2_4.out
  have hnb2_7 := NB2_7.out; have hnc2_7 := Ne.symm NB2_7.out
  have hnb2_9 := NB2_9.out; have hnc2_9 := Ne.symm NB2_9.out
  have hnb3_4 := NB3_4.out; have hnc3_4 := Ne.symm NB3_4.out
  have hnb3_7 := NB3_7.out; have hnc3_7 := Ne.symm NB3_7.out
  have hnb3_9 := NB3_9.out; have hnc3_9 := Ne.symm NB3_9.out
  have hnb4_7 := NB4_7.out; have hnc4_7 := Ne.symm NB4_7.out
  have hnb4_9 := NB4_9.out; have hnc4_9 := Ne.symm NB4_9.out
  have hnb7_9 := NB7_9.out; have hnc7_9 := Ne.symm NB7_9.out
  go_upto_region 7 with (first | ((with_reducible refine gate_callee (f := 30) rfl ?_); refine goesL_ (some 81) rfl rfl Try.func30 (by kernel_rfl) rfl #[.agg #[.int .i64 H, .slice A l.length c], .int .i64 b] rfl (by (try simp only [List.map_toArray, List.map_cons, List.map_nil]); first | done | rfl) ?_; (with_reducible refine (impl_FindBox.calls 50 H A c l b fa ft fth _ ?side1 HC.out HFB.out).mono ?_); (case side1 => exact Kd.C_below HR.out (by exact bel_ HB.out)); rintro e w81 ⟨rfl, hb⟩; refine ⟨_, rfl, ?_⟩; have n0_ := Aside0.mk (below_step (by exact bel_ HB.out) hb); have m2_ := Aside0.mk (bb_ BK2.out hb); have m3_ := Aside0.mk (bb_ BK3.out hb); have m4_ := Aside0.mk (bb_ BK4.out hb); have m7_ := Aside0.mk (bb_ BK7.out hb); have m9_ := Aside0.mk (bb_ BK9.out hb); have mHSW_ := Aside0.mk (Yt.sb HSW.out hb); have mHSX_ := Aside0.mk (Yt.sb HSX.out hb); clear HB; have HB := n0_; clear n0_; clear BK2; have BK2 := m2_; clear m2_; clear BK3; have BK3 := m3_; clear m3_; clear BK4; have BK4 := m4_; clear m4_; clear BK7; have BK7 := m7_; clear m7_; clear BK9; have BK9 := m9_; clear m9_; clear HSW; have HSW := mHSW_; clear mHSW_; clear HSX; have HSX := mHSX_; clear mHSX_; clear hb; obtain ⟨hcz2_0, hfz2_0, hcz2_1, hfz2_1⟩ := Yt.c2 BK2.out; obtain ⟨hcz3_0, hfz3_0, hcz3_1, hfz3_1, hcz3_2, hfz3_2⟩ := Yt.c3 BK3.out; obtain ⟨hcz4_0, hfz4_0, hcz4_1, hfz4_1⟩ := Yt.c2 BK4.out; obtain ⟨hcz7_0, hfz7_0, hcz7_1, hfz7_1⟩ := Yt.c2 BK7.out; obtain ⟨hcz9_0, hfz9_0, hcz9_1, hfz9_1⟩ := Yt.c2 BK9.out))
  (try simp only [Act.put, List.setIfInBounds_toArray, List.set_cons_zero, List.set_cons_succ])
  obtain ⟨Ab, cb, hxb, hcb, hCb⟩ := Yt.get HSX.out b h0b h1b
  obtain ⟨sb, hsb⟩ : ∃ q, q = rd_L2 l b := ⟨_, rfl⟩
  rw [← hsb] at hxb hcb hCb
  have HSb := Aside0.mk hsb
  clear hsb
  have q0b : (0 ≤ b) = True := eq_true h0b
  have q1b : (b < (l.length : Int)) = True := eq_true h1b
  rw [← HSb.out] at hz
  have hz1 : ((sb.length : Int) == 0) = true := by rw [hz]; rfl
  go_wp2
  repeat (go_quiet (fail); try go_wp2)
  refine bodyPost_ret (results_ctt rfl _ _ gb4 69 #[.int .i64 H, .slice Aw l.length cw] (0, 0) _ rfl (by (with_reducible repeat (first | refine blk_drewN ?_ _ | refine blk_drew ?_ | refine blk_alloc ?_ _)); refine blk_put (cs := #[.int .i64 H, .slice none 0 0]) ?_ 1 _ rfl; (with_reducible repeat (first | refine blk_drewN ?_ _ | refine blk_drew ?_ | refine blk_alloc ?_ _)); refine blk_put (cs := #[.int .i64 0, .slice none 0 0]) ?_ 0 _ rfl; (with_reducible repeat (first | refine blk_drewN ?_ _ | refine blk_drew ?_ | refine blk_alloc ?_ _)); exact BK4.out) Try.underlying69 rfl (by kernel_rfl)) rfl ?_
  exact ⟨_, rfl, by (with_reducible repeat (first | apply Kd.S_alloc | apply Kd.S_drewN | apply Kd.S_drew)); exact Kd.S_mono (Kd.S_far (p := ⟨gb4, 1, none⟩) (Kd.S_far (p := ⟨gb4, 0, none⟩) (Kd.S_types HSW.out BK4.out (by decide)) (fun _ hk => hk.2) _) (fun _ hk => hk.2) _) (fun _ hk => trivial), by exact bel_ HB.out⟩
set_option maxHeartbeats 8000000 in
set_option maxRecDepth 100000 in
theorem impl_DoYard.sh_full (H : Int) (A : Option Addr) (c : Nat) (l : List (List Int)) (b s : Int) (w : World) (hr0 : Kd.C (Kd.slice 3 (Kd.int .i64)) w A l.length l) (hc0 : l.length ≤ c) (hs1 : l.length ≤ 1000) (hs2 : ∀ x ∈ l, x.length ≤ 100) (hok : impl_YardOk.f H l = some true) (hst : impl_in.f s 0 ((l.length : Int) - 1) = some true) (hbx : impl_in.f b 0 ((l.length : Int) - 1) = some true) (hbs : (b == s) = false) (fa ft : Int) (fth : Bool) (hfb : impl_FindBox.f 50 H l b = some (fa, ft, fth)) (hlen : 0 < l.length) (hs0 : 0 ≤ s) (hs9 : s < (l.length : Int)) (hb0 : 0 ≤ b) (hb9 : b < (l.length : Int)) (hz : 0 < (rd_L2 l b).length) (hfl : (((rd_L2 l s).length : Int) == H) = true) :
    Calls Try.prog 31 #[.agg #[.int .i64 H, .slice A l.length c], .agg #[.int .i64 3, .int .i64 b, .int .i64 s]] w fun e w' => ∃ v0_ : Value, e = .returned (.tuple #[.agg #[.int .i64 H, v0_], .int .i64 0, .int .i64 4]) ∧ Kd.S (Kd.slice 3 (Kd.int .i64)) 28 w' w.heap.size (fun _ => True) v0_ l ∧ Below w.heap.size w w' := by
  have hu69 := Try.underlying69
  have hu76 := Try.underlying76
  have HR := Aside0.mk hr0
  have HC := Aside0.mk hc0
  have HS1 := Aside0.mk hs1
  have HS2 := Aside0.mk hs2
  have HF := Aside0.mk (show impl_Yard_own.f H l = some (H, l) from if_pos ⟨hs1, fun x hx => Nat.le_trans (hs2 x hx) (by omega)⟩)
  clear hr0 hc0 hs1 hs2
  obtain ⟨nn, hnn⟩ : ∃ nn : Int, nn = (l.length : Int) - 1 := ⟨_, rfl⟩
  have hwn : wrap64 ((l.length : Int) - 1) = nn := by rw [← hnn]; exact impl_YardOk.w64 (by omega) (by have := HS1.out; omega)
  have HNN := Aside0.mk hnn
  clear hnn
  have HOK := Aside0.mk hok
  clear hok
  have HFB := Aside0.mk hfb
  have HLEN := Aside0.mk hlen
  clear hfb hlen
  have AK := Aside0.mk (show impl_in.f 3 1 3 = some true from rfl)
  rw [← HNN.out] at hst
  have AST := Aside0.mk hst
  clear hst
  rw [← HNN.out] at hbx
  have ABX := Aside0.mk hbx
  clear hbx
  have h0s := hs0
  have h1s := hs9
  have h0b := hb0
  have h1b := hb9
  clear hs0 hs9 hb0 hb9
  have HB := Aside0.mk (Below.refl w.heap.size w)
  go_enter Try.func31, Try.ntmps31
  go_upto_region 2 with (first | ((with_reducible refine gate_dst (N := 2) rfl ?_); refine box_event ?hg (N := 2) ?hd (cs := #[.int .i64 H, .slice A l.length c]) (t := 69) ?hr ?_; (case hd => rfl); (case hg => rfl); (case hr => first | (go_simp; done) | (go_simp; rfl)); intro gb2 hg w2 hbox hb; have q1_ := Aside0.mk hbox; have q2_ := Aside0.mk ((by rw [hg]; exact (below_size (by exact bel_ HB.out))) : w.heap.size ≤ gb2); have n0_ := Aside0.mk (below_step (by exact bel_ HB.out) hb); clear HB; have HB := n0_; clear n0_; have BK2 := q1_; have GE2 := q2_; clear q1_ q2_; clear hb hbox hg; obtain ⟨hcz2_0, hfz2_0, hcz2_1, hfz2_1⟩ := Yt.c2 BK2.out) | ((with_reducible refine gate_dst (N := 3) rfl ?_); refine box_event ?hg (N := 3) ?hd (cs := #[.int .i64 3, .int .i64 b, .int .i64 s]) (t := 76) ?hr ?_; (case hd => rfl); (case hg => rfl); (case hr => first | (go_simp; done) | (go_simp; rfl)); intro gb3 hg w3 hbox hb; have q1_ := Aside0.mk hbox; have q2_ := Aside0.mk ((by rw [hg]; exact (below_size (by exact bel_ HB.out))) : w.heap.size ≤ gb3); have NB2_3 := Aside0.mk (nl_ BK2.out hg); have n0_ := Aside0.mk (below_step (by exact bel_ HB.out) hb); have m2_ := Aside0.mk (bb_ BK2.out hb); clear HB; have HB := n0_; clear n0_; clear BK2; have BK2 := m2_; clear m2_; have BK3 := q1_; have GE3 := q2_; clear q1_ q2_; clear hb hbox hg; obtain ⟨hcz2_0, hfz2_0, hcz2_1, hfz2_1⟩ := Yt.c2 BK2.out; obtain ⟨hcz3_0, hfz3_0, hcz3_1, hfz3_1, hcz3_2, hfz3_2⟩ := Yt.c3 BK3.out; have hnb2_3 := NB2_3.out; have hnc2_3 := Ne.symm NB2_3.out) | ((with_reducible refine gate_dst (N := 4) rfl ?_); refine box_event ?hg (N := 4) ?hd (cs := #[.int .i64 0, .slice none 0 0]) (t := 69) ?hr ?_; (case hd => rfl); (case hg => rfl); (case hr => first | (go_simp; done) | (go_simp; rfl)); intro gb4 hg w4 hbox hb; have q1_ := Aside0.mk hbox; have q2_ := Aside0.mk ((by rw [hg]; exact (below_size (by exact bel_ HB.out))) : w.heap.size ≤ gb4); have NB2_4 := Aside0.mk (nl_ BK2.out hg); have NB3_4 := Aside0.mk (nl_ BK3.out hg); have n0_ := Aside0.mk (below_step (by exact bel_ HB.out) hb); have m2_ := Aside0.mk (bb_ BK2.out hb); have m3_ := Aside0.mk (bb_ BK3.out hb); clear HB; have HB := n0_; clear n0_; clear BK2; have BK2 := m2_; clear m2_; clear BK3; have BK3 := m3_; clear m3_; have BK4 := q1_; have GE4 := q2_; clear q1_ q2_; clear hb hbox hg; obtain ⟨hcz2_0, hfz2_0, hcz2_1, hfz2_1⟩ := Yt.c2 BK2.out; obtain ⟨hcz3_0, hfz3_0, hcz3_1, hfz3_1, hcz3_2, hfz3_2⟩ := Yt.c3 BK3.out; obtain ⟨hcz4_0, hfz4_0, hcz4_1, hfz4_1⟩ := Yt.c2 BK4.out; have hnb2_4 := NB2_4.out; have hnc2_4 := Ne.symm NB2_4.out; have hnb3_4 := NB3_4.out; have hnc3_4 := Ne.symm NB3_4.out) | ((with_reducible refine gate_callee (f := 71) rfl ?_); refine goesL_ (some 18) rfl rfl Try.func71 (by kernel_rfl) rfl #[.agg #[.int .i64 H, .slice A l.length c]] rfl (by (try simp only [List.map_toArray, List.map_cons, List.map_nil]); first | done | rfl) ?_; (with_reducible refine (impl_Yard_own.calls H A c l H l _ ?side1 HC.out HF.out).mono ?_); (case side1 => exact Kd.C_below HR.out (by exact bel_ HB.out)); rintro e w18 ⟨v18, rfl, hS, hb⟩; refine ⟨_, rfl, ?_⟩; obtain ⟨Aw, cw, ew⟩ := Kd.S_slice hS; subst ew; have HSW := Aside0.mk (Kd.S_lower hS (below_size (by exact bel_ HB.out))); have n0_ := Aside0.mk (below_step (by exact bel_ HB.out) hb); have m2_ := Aside0.mk (bb_ BK2.out hb); have m3_ := Aside0.mk (bb_ BK3.out hb); have m4_ := Aside0.mk (bb_ BK4.out hb); clear HB; have HB := n0_; clear n0_; clear BK2; have BK2 := m2_; clear m2_; clear BK3; have BK3 := m3_; clear m3_; clear BK4; have BK4 := m4_; clear m4_; clear hb hS; obtain ⟨hcz2_0, hfz2_0, hcz2_1, hfz2_1⟩ := Yt.c2 BK2.out; obtain ⟨hcz3_0, hfz3_0, hcz3_1, hfz3_1, hcz3_2, hfz3_2⟩ := Yt.c3 BK3.out; obtain ⟨hcz4_0, hfz4_0, hcz4_1, hfz4_1⟩ := Yt.c2 BK4.out) | ((with_reducible refine gate_dst (N := 7) rfl ?_); refine box_event ?hg (N := 7) ?hd (cs := #[.int .i64 0, .slice none 0 0]) (t := 69) ?hr ?_; (case hd => rfl); (case hg => rfl); (case hr => first | (go_simp; done) | (go_simp; rfl)); intro gb7 hg w7 hbox hb; have q1_ := Aside0.mk hbox; have q2_ := Aside0.mk ((by rw [hg]; exact (below_size (by exact bel_ HB.out))) : w.heap.size ≤ gb7); have NB2_7 := Aside0.mk (nl_ BK2.out hg); have NB3_7 := Aside0.mk (nl_ BK3.out hg); have NB4_7 := Aside0.mk (nl_ BK4.out hg); have n0_ := Aside0.mk (below_step (by exact bel_ HB.out) hb); have m2_ := Aside0.mk (bb_ BK2.out hb); have m3_ := Aside0.mk (bb_ BK3.out hb); have m4_ := Aside0.mk (bb_ BK4.out hb); have mHSW_ := Aside0.mk (Yt.sb HSW.out hb); clear HB; have HB := n0_; clear n0_; clear BK2; have BK2 := m2_; clear m2_; clear BK3; have BK3 := m3_; clear m3_; clear BK4; have BK4 := m4_; clear m4_; clear HSW; have HSW := mHSW_; clear mHSW_; have BK7 := q1_; have GE7 := q2_; clear q1_ q2_; clear hb hbox hg; obtain ⟨hcz2_0, hfz2_0, hcz2_1, hfz2_1⟩ := Yt.c2 BK2.out; obtain ⟨hcz3_0, hfz3_0, hcz3_1, hfz3_1, hcz3_2, hfz3_2⟩ := Yt.c3 BK3.out; obtain ⟨hcz4_0, hfz4_0, hcz4_1, hfz4_1⟩ := Yt.c2 BK4.out; obtain ⟨hcz7_0, hfz7_0, hcz7_1, hfz7_1⟩ := Yt.c2 BK7.out; have hnb2_7 := NB2_7.out; have hnc2_7 := Ne.symm NB2_7.out; have hnb3_7 := NB3_7.out; have hnc3_7 := Ne.symm NB3_7.out; have hnb4_7 := NB4_7.out; have hnc4_7 := Ne.symm NB4_7.out))
  (try simp only [Act.put, List.setIfInBounds_toArray, List.set_cons_zero, List.set_cons_succ])
  have b7_ : ((w7.setCell ⟨gb7, 0, none⟩ (.int .i64 H)).setCell ⟨gb7, 1, none⟩ (.slice Aw l.length cw)).heap[gb7]? = some (.cells #[.int .i64 H, .slice Aw l.length cw] 69 (0, 0)) := blk_put (cs := #[.int .i64 H, .slice none 0 0]) (blk_put (cs := #[.int .i64 0, .slice none 0 0]) BK7.out 0 _ rfl) 1 _ rfl
  have b2_ : ((w7.setCell ⟨gb7, 0, none⟩ (.int .i64 H)).setCell ⟨gb7, 1, none⟩ (.slice Aw l.length cw)).heap[gb2]? = some (.cells #[.int .i64 H, .slice A l.length c] 69 (0, 0)) := blk_far (blk_far BK2.out NB2_7.out _) NB2_7.out _
  have b3_ : ((w7.setCell ⟨gb7, 0, none⟩ (.int .i64 H)).setCell ⟨gb7, 1, none⟩ (.slice Aw l.length cw)).heap[gb3]? = some (.cells #[.int .i64 3, .int .i64 b, .int .i64 s] 76 (0, 0)) := blk_far (blk_far BK3.out NB3_7.out _) NB3_7.out _
  have b4_ : ((w7.setCell ⟨gb7, 0, none⟩ (.int .i64 H)).setCell ⟨gb7, 1, none⟩ (.slice Aw l.length cw)).heap[gb4]? = some (.cells #[.int .i64 0, .slice none 0 0] 69 (0, 0)) := blk_far (blk_far BK4.out NB4_7.out _) NB4_7.out _
  have sHSW_ := Kd.S_mono (Kd.S_far (p := ⟨gb7, 1, none⟩) (Kd.S_far (p := ⟨gb7, 0, none⟩) (Kd.S_types HSW.out BK7.out (by decide)) (fun _ hk => hk.2) (.int .i64 H)) (fun _ hk => hk.2) (.slice Aw l.length cw)) (fun _ hk => hk.1)
  have hb_ : Below w.heap.size w ((w7.setCell ⟨gb7, 0, none⟩ (.int .i64 H)).setCell ⟨gb7, 1, none⟩ (.slice Aw l.length cw)) := below_set (below_set HB.out GE7.out) GE7.out
  try clear hcz2_0 hfz2_0 hcz2_1 hfz2_1
  try clear hcz3_0 hfz3_0 hcz3_1 hfz3_1 hcz3_2 hfz3_2
  try clear hcz4_0 hfz4_0 hcz4_1 hfz4_1
  try clear hcz7_0 hfz7_0 hcz7_1 hfz7_1
  try clear hnb2_3 hnc2_3 hnb2_4 hnc2_4 hnb2_7 hnc2_7 hnb3_4 hnc3_4 hnb3_7 hnc3_7 hnb4_7 hnc4_7
  generalize (w7.setCell ⟨gb7, 0, none⟩ (.int .i64 H)).setCell ⟨gb7, 1, none⟩ (.slice Aw l.length cw) = w8 at b2_ b3_ b4_ b7_ sHSW_ hb_ ⊢
  clear HB BK2 BK3 BK4 BK7 HSW
  have HB := Aside0.mk hb_
  clear hb_
  have BK2 := Aside0.mk b2_
  clear b2_
  have BK3 := Aside0.mk b3_
  clear b3_
  have BK4 := Aside0.mk b4_
  clear b4_
  have BK7 := Aside0.mk b7_
  clear b7_
  have HSW := Aside0.mk sHSW_
  clear sHSW_
  obtain ⟨hcz2_0, hfz2_0, hcz2_1, hfz2_1⟩ := Yt.c2 BK2.out; obtain ⟨hcz3_0, hfz3_0, hcz3_1, hfz3_1, hcz3_2, hfz3_2⟩ := Yt.c3 BK3.out; obtain ⟨hcz4_0, hfz4_0, hcz4_1, hfz4_1⟩ := Yt.c2 BK4.out; obtain ⟨hcz7_0, hfz7_0, hcz7_1, hfz7_1⟩ := Yt.c2 BK7.out
  have hnb2_3 := NB2_3.out; have hnc2_3 := Ne.symm NB2_3.out
  have hnb2_4 := NB2_4.out; have hnc2_4 := Ne.symm NB2_4.out
  have hnb2_7 := NB2_7.out; have hnc2_7 := Ne.symm NB2_7.out
  have hnb3_4 := NB3_4.out; have hnc3_4 := Ne.symm NB3_4.out
  have hnb3_7 := NB3_7.out; have hnc3_7 := Ne.symm NB3_7.out
  have hnb4_7 := NB4_7.out; have hnc4_7 := Ne.symm NB4_7.out
  go_upto_region 5 with (first | ((with_reducible refine gate_callee (f := 32) rfl ?_); refine goesL_ (some 24) rfl rfl Try.func32 (by kernel_rfl) rfl #[.agg #[.int .i64 H, .slice A l.length c]] rfl (by (try simp only [List.map_toArray, List.map_cons, List.map_nil]); first | done | rfl) ?_; (with_reducible refine (impl_YardOk.calls H A c l true _ ?side1 HC.out HOK.out).mono ?_); (case side1 => exact Kd.C_below HR.out (by exact bel_ HB.out)); rintro e w24 ⟨rfl, hb⟩; refine ⟨_, rfl, ?_⟩; have n0_ := Aside0.mk (below_step (by exact bel_ HB.out) hb); have m2_ := Aside0.mk (bb_ BK2.out hb); have m3_ := Aside0.mk (bb_ BK3.out hb); have m4_ := Aside0.mk (bb_ BK4.out hb); have m7_ := Aside0.mk (bb_ BK7.out hb); have mHSW_ := Aside0.mk (Yt.sb HSW.out hb); clear HB; have HB := n0_; clear n0_; clear BK2; have BK2 := m2_; clear m2_; clear BK3; have BK3 := m3_; clear m3_; clear BK4; have BK4 := m4_; clear m4_; clear BK7; have BK7 := m7_; clear m7_; clear HSW; have HSW := mHSW_; clear mHSW_; clear hb; obtain ⟨hcz2_0, hfz2_0, hcz2_1, hfz2_1⟩ := Yt.c2 BK2.out; obtain ⟨hcz3_0, hfz3_0, hcz3_1, hfz3_1, hcz3_2, hfz3_2⟩ := Yt.c3 BK3.out; obtain ⟨hcz4_0, hfz4_0, hcz4_1, hfz4_1⟩ := Yt.c2 BK4.out; obtain ⟨hcz7_0, hfz7_0, hcz7_1, hfz7_1⟩ := Yt.c2 BK7.out) | (go_at_call 48; (with_reducible refine (impl_in.calls 3 1 3 true _ AK.out).mono ?_); rintro e w' ⟨rfl, ⟨nd, rfl⟩⟩; (try first | exact ⟨rfl, _, World.drewN_drewN _ _ _⟩ | exact ⟨rfl, _, Eq.trans (World.drewN_drewN _ _ _) (congrArg (World.drewN _) (Nat.add_assoc _ _ _))⟩)) | (go_at_call 48; (with_reducible refine (impl_in.calls s 0 nn true _ AST.out).mono ?_); rintro e w' ⟨rfl, ⟨nd, rfl⟩⟩; (try first | exact ⟨rfl, _, World.drewN_drewN _ _ _⟩ | exact ⟨rfl, _, Eq.trans (World.drewN_drewN _ _ _) (congrArg (World.drewN _) (Nat.add_assoc _ _ _))⟩)) | (go_at_call 48; (with_reducible refine (impl_in.calls b 0 nn true _ ABX.out).mono ?_); rintro e w' ⟨rfl, ⟨nd, rfl⟩⟩; (try first | exact ⟨rfl, _, World.drewN_drewN _ _ _⟩ | exact ⟨rfl, _, Eq.trans (World.drewN_drewN _ _ _) (congrArg (World.drewN _) (Nat.add_assoc _ _ _))⟩)))
  repeat (go_quiet (first | (go_at_call 48; (with_reducible refine (impl_in.calls 3 1 3 true _ AK.out).mono ?_); rintro e w' ⟨rfl, ⟨nd, rfl⟩⟩; (try first | exact ⟨rfl, _, World.drewN_drewN _ _ _⟩ | exact ⟨rfl, _, Eq.trans (World.drewN_drewN _ _ _) (congrArg (World.drewN _) (Nat.add_assoc _ _ _))⟩)) | (go_at_call 48; (with_reducible refine (impl_in.calls s 0 nn true _ AST.out).mono ?_); rintro e w' ⟨rfl, ⟨nd, rfl⟩⟩; (try first | exact ⟨rfl, _, World.drewN_drewN _ _ _⟩ | exact ⟨rfl, _, Eq.trans (World.drewN_drewN _ _ _) (congrArg (World.drewN _) (Nat.add_assoc _ _ _))⟩)) | (go_at_call 48; (with_reducible refine (impl_in.calls b 0 nn true _ ABX.out).mono ?_); rintro e w' ⟨rfl, ⟨nd, rfl⟩⟩; (try first | exact ⟨rfl, _, World.drewN_drewN _ _ _⟩ | exact ⟨rfl, _, Eq.trans (World.drewN_drewN _ _ _) (congrArg (World.drewN _) (Nat.add_assoc _ _ _))⟩))); try go_upto_region 5 with (first | (go_at_call 48; (with_reducible refine (impl_in.calls 3 1 3 true _ AK.out).mono ?_); rintro e w' ⟨rfl, ⟨nd, rfl⟩⟩; (try first | exact ⟨rfl, _, World.drewN_drewN _ _ _⟩ | exact ⟨rfl, _, Eq.trans (World.drewN_drewN _ _ _) (congrArg (World.drewN _) (Nat.add_assoc _ _ _))⟩)) | (go_at_call 48; (with_reducible refine (impl_in.calls s 0 nn true _ AST.out).mono ?_); rintro e w' ⟨rfl, ⟨nd, rfl⟩⟩; (try first | exact ⟨rfl, _, World.drewN_drewN _ _ _⟩ | exact ⟨rfl, _, Eq.trans (World.drewN_drewN _ _ _) (congrArg (World.drewN _) (Nat.add_assoc _ _ _))⟩)) | (go_at_call 48; (with_reducible refine (impl_in.calls b 0 nn true _ ABX.out).mono ?_); rintro e w' ⟨rfl, ⟨nd, rfl⟩⟩; (try first | exact ⟨rfl, _, World.drewN_drewN _ _ _⟩ | exact ⟨rfl, _, Eq.trans (World.drewN_drewN _ _ _) (congrArg (World.drewN _) (Nat.add_assoc _ _ _))⟩))))
  (try simp only [Act.put, List.setIfInBounds_toArray, List.set_cons_zero, List.set_cons_succ])
  obtain ⟨M, hM⟩ : ∃ M, M = w24.heap.size := ⟨_, rfl⟩
  have HM := Aside0.mk hM
  have HMW : Aside0 (w.heap.size ≤ M) := ⟨by rw [hM]; exact HB.out.size⟩
  clear hM
  go_upto_region 6 with (first | ((with_reducible refine gate_callee (f := 71) rfl ?_); refine goesL_ (some 76) rfl rfl Try.func71 (by kernel_rfl) rfl #[.agg #[.int .i64 H, .slice A l.length c]] rfl (by (try simp only [List.map_toArray, List.map_cons, List.map_nil]); first | done | rfl) ?_; (with_reducible refine (impl_Yard_own.calls H A c l H l _ ?side1 HC.out HF.out).mono ?_); (case side1 => exact Kd.C_below HR.out (by exact bel_ HB.out)); rintro e w76 ⟨v76, rfl, hS, hb⟩; refine ⟨_, rfl, ?_⟩; obtain ⟨gx, cx, ex, hgx, hgl, _⟩ := Kd.S_form hS HLEN.out; subst ex; have HGX : Aside0 (M ≤ gx) := ⟨by rw [HM.out]; exact hgx⟩; have mW_ := Aside0.mk (Kd.S_below (Kd.S_mono (ok' := fun k => k < M) (Kd.S_bound (Yt.sp HSW.out)) (fun k hk => by rw [HM.out]; exact hk.2.2.1)) hb); have HSX := Aside0.mk (Kd.S_lower (Kd.S_mono (ok' := fun k => M ≤ k) (Kd.S_bound hS) (fun k hk => by rw [HM.out]; exact hk.2.1)) (below_size (by exact bel_ HB.out))); have n0_ := Aside0.mk (below_step (by exact bel_ HB.out) hb); have m2_ := Aside0.mk (bb_ BK2.out hb); have m3_ := Aside0.mk (bb_ BK3.out hb); have m4_ := Aside0.mk (bb_ BK4.out hb); have m7_ := Aside0.mk (bb_ BK7.out hb); clear HB; have HB := n0_; clear n0_; clear BK2; have BK2 := m2_; clear m2_; clear BK3; have BK3 := m3_; clear m3_; clear BK4; have BK4 := m4_; clear m4_; clear BK7; have BK7 := m7_; clear m7_; clear HSW; have HSW := mW_; clear mW_; clear hb hS hgx hgl; obtain ⟨hcz2_0, hfz2_0, hcz2_1, hfz2_1⟩ := Yt.c2 BK2.out; obtain ⟨hcz3_0, hfz3_0, hcz3_1, hfz3_1, hcz3_2, hfz3_2⟩ := Yt.c3 BK3.out; obtain ⟨hcz4_0, hfz4_0, hcz4_1, hfz4_1⟩ := Yt.c2 BK4.out; obtain ⟨hcz7_0, hfz7_0, hcz7_1, hfz7_1⟩ := Yt.c2 BK7.out) | ((with_reducible refine gate_dst (N := 9) rfl ?_); refine box_event ?hg (N := 9) ?hd (cs := #[.int .i64 0, .slice none 0 0]) (t := 69) ?hr ?_; (case hd => rfl); (case hg => rfl); (case hr => first | (go_simp; done) | (go_simp; rfl)); intro gb9 hg w9 hbox hb; have q1_ := Aside0.mk hbox; have q2_ := Aside0.mk ((by rw [hg]; exact (below_size (by exact bel_ HB.out))) : w.heap.size ≤ gb9); have NB2_9 := Aside0.mk (nl_ BK2.out hg); have NB3_9 := Aside0.mk (nl_ BK3.out hg); have NB4_9 := Aside0.mk (nl_ BK4.out hg); have NB7_9 := Aside0.mk (nl_ BK7.out hg); have n0_ := Aside0.mk (below_step (by exact bel_ HB.out) hb); have m2_ := Aside0.mk (bb_ BK2.out hb); have m3_ := Aside0.mk (bb_ BK3.out hb); have m4_ := Aside0.mk (bb_ BK4.out hb); have m7_ := Aside0.mk (bb_ BK7.out hb); have mHSW_ := Aside0.mk (Yt.sb HSW.out hb); have mHSX_ := Aside0.mk (Yt.sb HSX.out hb); clear HB; have HB := n0_; clear n0_; clear BK2; have BK2 := m2_; clear m2_; clear BK3; have BK3 := m3_; clear m3_; clear BK4; have BK4 := m4_; clear m4_; clear BK7; have BK7 := m7_; clear m7_; clear HSW; have HSW := mHSW_; clear mHSW_; clear HSX; have HSX := mHSX_; clear mHSX_; have BK9 := q1_; have GE9 := q2_; clear q1_ q2_; clear hb hbox hg; obtain ⟨hcz2_0, hfz2_0, hcz2_1, hfz2_1⟩ := Yt.c2 BK2.out; obtain ⟨hcz3_0, hfz3_0, hcz3_1, hfz3_1, hcz3_2, hfz3_2⟩ := Yt.c3 BK3.out; obtain ⟨hcz4_0, hfz4_0, hcz4_1, hfz4_1⟩ := Yt.c2 BK4.out; obtain ⟨hcz7_0, hfz7_0, hcz7_1, hfz7_1⟩ := Yt.c2 BK7.out; obtain ⟨hcz9_0, hfz9_0, hcz9_1, hfz9_1⟩ := Yt.c2 BK9.out; have hnb2_9 := NB2_9.out; have hnc2_9 := Ne.symm NB2_9.out; have hnb3_9 := NB3_9.out; have hnc3_9 := Ne.symm NB3_9.out; have hnb4_9 := NB4_9.out; have hnc4_9 := Ne.symm NB4_9.out; have hnb7_9 := NB7_9.out; have hnc7_9 := Ne.symm NB7_9.out))
  (try simp only [Act.put, List.setIfInBounds_toArray, List.set_cons_zero, List.set_cons_succ])
  have b9_ : ((w9.setCell ⟨gb9, 0, none⟩ (.int .i64 H)).setCell ⟨gb9, 1, none⟩ (.slice (some ⟨gx, 0, none⟩) l.length cx)).heap[gb9]? = some (.cells #[.int .i64 H, .slice (some ⟨gx, 0, none⟩) l.length cx] 69 (0, 0)) := blk_put (cs := #[.int .i64 H, .slice none 0 0]) (blk_put (cs := #[.int .i64 0, .slice none 0 0]) BK9.out 0 _ rfl) 1 _ rfl
  have b2_ : ((w9.setCell ⟨gb9, 0, none⟩ (.int .i64 H)).setCell ⟨gb9, 1, none⟩ (.slice (some ⟨gx, 0, none⟩) l.length cx)).heap[gb2]? = some (.cells #[.int .i64 H, .slice A l.length c] 69 (0, 0)) := blk_far (blk_far BK2.out NB2_9.out _) NB2_9.out _
  have b3_ : ((w9.setCell ⟨gb9, 0, none⟩ (.int .i64 H)).setCell ⟨gb9, 1, none⟩ (.slice (some ⟨gx, 0, none⟩) l.length cx)).heap[gb3]? = some (.cells #[.int .i64 3, .int .i64 b, .int .i64 s] 76 (0, 0)) := blk_far (blk_far BK3.out NB3_9.out _) NB3_9.out _
  have b4_ : ((w9.setCell ⟨gb9, 0, none⟩ (.int .i64 H)).setCell ⟨gb9, 1, none⟩ (.slice (some ⟨gx, 0, none⟩) l.length cx)).heap[gb4]? = some (.cells #[.int .i64 0, .slice none 0 0] 69 (0, 0)) := blk_far (blk_far BK4.out NB4_9.out _) NB4_9.out _
  have b7_ : ((w9.setCell ⟨gb9, 0, none⟩ (.int .i64 H)).setCell ⟨gb9, 1, none⟩ (.slice (some ⟨gx, 0, none⟩) l.length cx)).heap[gb7]? = some (.cells #[.int .i64 H, .slice Aw l.length cw] 69 (0, 0)) := blk_far (blk_far BK7.out NB7_9.out _) NB7_9.out _
  have sHSW_ := Kd.S_mono (Kd.S_far (p := ⟨gb9, 1, none⟩) (Kd.S_far (p := ⟨gb9, 0, none⟩) (Kd.S_types HSW.out BK9.out (by decide)) (fun _ hk => hk.2) (.int .i64 H)) (fun _ hk => hk.2) (.slice (some ⟨gx, 0, none⟩) l.length cx)) (fun _ hk => hk.1)
  have sHSX_ := Kd.S_mono (Kd.S_far (p := ⟨gb9, 1, none⟩) (Kd.S_far (p := ⟨gb9, 0, none⟩) (Kd.S_types HSX.out BK9.out (by decide)) (fun _ hk => hk.2) (.int .i64 H)) (fun _ hk => hk.2) (.slice (some ⟨gx, 0, none⟩) l.length cx)) (fun _ hk => hk.1)
  have hb_ : Below w.heap.size w ((w9.setCell ⟨gb9, 0, none⟩ (.int .i64 H)).setCell ⟨gb9, 1, none⟩ (.slice (some ⟨gx, 0, none⟩) l.length cx)) := below_set (below_set HB.out GE9.out) GE9.out
  try clear hcz2_0 hfz2_0 hcz2_1 hfz2_1
  try clear hcz3_0 hfz3_0 hcz3_1 hfz3_1 hcz3_2 hfz3_2
  try clear hcz4_0 hfz4_0 hcz4_1 hfz4_1
  try clear hcz7_0 hfz7_0 hcz7_1 hfz7_1
  try clear hcz9_0 hfz9_0 hcz9_1 hfz9_1
  try clear hnb2_3 hnc2_3 hnb2_4 hnc2_4 hnb2_7 hnc2_7 hnb2_9 hnc2_9 hnb3_4 hnc3_4 hnb3_7 hnc3_7 hnb3_9 hnc3_9 hnb4_7 hnc4_7 hnb4_9 hnc4_9 hnb7_9 hnc7_9
  generalize (w9.setCell ⟨gb9, 0, none⟩ (.int .i64 H)).setCell ⟨gb9, 1, none⟩ (.slice (some ⟨gx, 0, none⟩) l.length cx) = w10 at b2_ b3_ b4_ b7_ b9_ sHSW_ sHSX_ hb_ ⊢
  clear HB BK2 BK3 BK4 BK7 BK9 HSW HSX
  have HB := Aside0.mk hb_
  clear hb_
  have BK2 := Aside0.mk b2_
  clear b2_
  have BK3 := Aside0.mk b3_
  clear b3_
  have BK4 := Aside0.mk b4_
  clear b4_
  have BK7 := Aside0.mk b7_
  clear b7_
  have BK9 := Aside0.mk b9_
  clear b9_
  have HSW := Aside0.mk sHSW_
  clear sHSW_
  have HSX := Aside0.mk sHSX_
  clear sHSX_
  obtain ⟨hcz2_0, hfz2_0, hcz2_1, hfz2_1⟩ := Yt.c2 BK2.out; obtain ⟨hcz3_0, hfz3_0, hcz3_1, hfz3_1, hcz3_2, hfz3_2⟩ := Yt.c3 BK3.out; obtain ⟨hcz4_0, hfz4_0, hcz4_1, hfz4_1⟩ := Yt.c2 BK4.out; obtain ⟨hcz7_0, hfz7_0, hcz7_1, hfz7_1⟩ := Yt.c2 BK7.out; obtain ⟨hcz9_0, hfz9_0, hcz9_1, hfz9_1⟩ := Yt.c2 BK9.out
  have hnb2_3 := NB2_3.out; have hnc2_3 := Ne.symm NB2_3.out
  have hnb2_4 := NB2_4.out; have hnc2_4 := Ne.symm NB2_4.out
  have hnb2_7 := NB2_7.out; have hnc2_7 := Ne.symm NB2_7.out
  have hnb2_9 := NB2_9.out; have hnc2_9 := Ne.symm NB2_9.out
  have hnb3_4 := NB3_4.out; have hnc3_4 := Ne.symm NB3_4.out
  have hnb3_7 := NB3_7.out; have hnc3_7 := Ne.symm NB3_7.out
  have hnb3_9 := NB3_9.out; have hnc3_9 := Ne.symm NB3_9.out
  have hnb4_7 := NB4_7.out; have hnc4_7 := Ne.symm NB4_7.out
  have hnb4_9 := NB4_9.out; have hnc4_9 := Ne.symm NB4_9.out
  have hnb7_9 := NB7_9.out; have hnc7_9 := Ne.symm NB7_9.out
  go_upto_region 7 with (first | ((with_reducible refine gate_callee (f := 30) rfl ?_); refine goesL_ (some 81) rfl rfl Try.func30 (by kernel_rfl) rfl #[.agg #[.int .i64 H, .slice A l.length c], .int .i64 b] rfl (by (try simp only [List.map_toArray, List.map_cons, List.map_nil]); first | done | rfl) ?_; (with_reducible refine (impl_FindBox.calls 50 H A c l b fa ft fth _ ?side1 HC.out HFB.out).mono ?_); (case side1 => exact Kd.C_below HR.out (by exact bel_ HB.out)); rintro e w81 ⟨rfl, hb⟩; refine ⟨_, rfl, ?_⟩; have n0_ := Aside0.mk (below_step (by exact bel_ HB.out) hb); have m2_ := Aside0.mk (bb_ BK2.out hb); have m3_ := Aside0.mk (bb_ BK3.out hb); have m4_ := Aside0.mk (bb_ BK4.out hb); have m7_ := Aside0.mk (bb_ BK7.out hb); have m9_ := Aside0.mk (bb_ BK9.out hb); have mHSW_ := Aside0.mk (Yt.sb HSW.out hb); have mHSX_ := Aside0.mk (Yt.sb HSX.out hb); clear HB; have HB := n0_; clear n0_; clear BK2; have BK2 := m2_; clear m2_; clear BK3; have BK3 := m3_; clear m3_; clear BK4; have BK4 := m4_; clear m4_; clear BK7; have BK7 := m7_; clear m7_; clear BK9; have BK9 := m9_; clear m9_; clear HSW; have HSW := mHSW_; clear mHSW_; clear HSX; have HSX := mHSX_; clear mHSX_; clear hb; obtain ⟨hcz2_0, hfz2_0, hcz2_1, hfz2_1⟩ := Yt.c2 BK2.out; obtain ⟨hcz3_0, hfz3_0, hcz3_1, hfz3_1, hcz3_2, hfz3_2⟩ := Yt.c3 BK3.out; obtain ⟨hcz4_0, hfz4_0, hcz4_1, hfz4_1⟩ := Yt.c2 BK4.out; obtain ⟨hcz7_0, hfz7_0, hcz7_1, hfz7_1⟩ := Yt.c2 BK7.out; obtain ⟨hcz9_0, hfz9_0, hcz9_1, hfz9_1⟩ := Yt.c2 BK9.out))
  (try simp only [Act.put, List.setIfInBounds_toArray, List.set_cons_zero, List.set_cons_succ])
  obtain ⟨Ab, cb, hxb, hcb, hCb⟩ := Yt.get HSX.out b h0b h1b
  obtain ⟨sb, hsb⟩ : ∃ q, q = rd_L2 l b := ⟨_, rfl⟩
  rw [← hsb] at hxb hcb hCb
  have HSb := Aside0.mk hsb
  clear hsb
  have q0b : (0 ≤ b) = True := eq_true h0b
  have q1b : (b < (l.length : Int)) = True := eq_true h1b
  obtain ⟨As, cs, hxs, hcs, hCs⟩ := Yt.get HSX.out s h0s h1s
  obtain ⟨ss, hss⟩ : ∃ q, q = rd_L2 l s := ⟨_, rfl⟩
  rw [← hss] at hxs hcs hCs
  have HSs := Aside0.mk hss
  clear hss
  have q0s : (0 ≤ s) = True := eq_true h0s
  have q1s : (s < (l.length : Int)) = True := eq_true h1s
  rw [← HSb.out] at hz
  rw [← HSs.out] at hfl
  have hz1 : ((sb.length : Int) == 0) = false := by rw [beq_eq_false_iff_ne]; omega
  have hz2 : (sb.length == 0) = false := by rw [beq_eq_false_iff_ne]; omega
  have hz3 : ¬ sb = [] := by intro e_; rw [e_] at hz; exact absurd hz (by simp)
  go_wp2
  repeat (go_quiet (fail); try go_wp2)
  refine bodyPost_ret (results_ctt rfl _ _ gb4 69 #[.int .i64 H, .slice Aw l.length cw] (0, 0) _ rfl (by (with_reducible repeat (first | refine blk_drewN ?_ _ | refine blk_drew ?_ | refine blk_alloc ?_ _)); refine blk_put (cs := #[.int .i64 H, .slice none 0 0]) ?_ 1 _ rfl; (with_reducible repeat (first | refine blk_drewN ?_ _ | refine blk_drew ?_ | refine blk_alloc ?_ _)); refine blk_put (cs := #[.int .i64 0, .slice none 0 0]) ?_ 0 _ rfl; (with_reducible repeat (first | refine blk_drewN ?_ _ | refine blk_drew ?_ | refine blk_alloc ?_ _)); exact BK4.out) Try.underlying69 rfl (by kernel_rfl)) rfl ?_
  exact ⟨_, rfl, by (with_reducible repeat (first | apply Kd.S_alloc | apply Kd.S_drewN | apply Kd.S_drew)); exact Kd.S_mono (Kd.S_far (p := ⟨gb4, 1, none⟩) (Kd.S_far (p := ⟨gb4, 0, none⟩) (Kd.S_types HSW.out BK4.out (by decide)) (fun _ hk => hk.2) _) (fun _ hk => hk.2) _) (fun _ hk => trivial), by exact bel_ HB.out⟩
set_option maxHeartbeats 8000000 in
set_option maxRecDepth 100000 in
theorem impl_DoYard.sh_done (H : Int) (A : Option Addr) (c : Nat) (l : List (List Int)) (b s : Int) (w : World) (hr0 : Kd.C (Kd.slice 3 (Kd.int .i64)) w A l.length l) (hc0 : l.length ≤ c) (hs1 : l.length ≤ 1000) (hs2 : ∀ x ∈ l, x.length ≤ 100) (hok : impl_YardOk.f H l = some true) (hst : impl_in.f s 0 ((l.length : Int) - 1) = some true) (hbx : impl_in.f b 0 ((l.length : Int) - 1) = some true) (hbs : (b == s) = false) (fa ft : Int) (fth : Bool) (hfb : impl_FindBox.f 50 H l b = some (fa, ft, fth)) (hlen : 0 < l.length) (hs0 : 0 ≤ s) (hs9 : s < (l.length : Int)) (hb0 : 0 ≤ b) (hb9 : b < (l.length : Int)) (hz : 0 < (rd_L2 l b).length) (hfl : (((rd_L2 l s).length : Int) == H) = false) :
    Calls Try.prog 31 #[.agg #[.int .i64 H, .slice A l.length c], .agg #[.int .i64 3, .int .i64 b, .int .i64 s]] w fun e w' => ∃ v0_ : Value, e = .returned (.tuple #[.agg #[.int .i64 H, v0_], .int .i64 0, .int .i64 0]) ∧ Kd.S (Kd.slice 3 (Kd.int .i64)) 28 w' w.heap.size (fun _ => True) v0_ (Yt.lift l b s) ∧ Below w.heap.size w w' := by
  have hu69 := Try.underlying69
  have hu76 := Try.underlying76
  have HR := Aside0.mk hr0
  have HC := Aside0.mk hc0
  have HS1 := Aside0.mk hs1
  have HS2 := Aside0.mk hs2
  have HF := Aside0.mk (show impl_Yard_own.f H l = some (H, l) from if_pos ⟨hs1, fun x hx => Nat.le_trans (hs2 x hx) (by omega)⟩)
  clear hr0 hc0 hs1 hs2
  obtain ⟨nn, hnn⟩ : ∃ nn : Int, nn = (l.length : Int) - 1 := ⟨_, rfl⟩
  have hwn : wrap64 ((l.length : Int) - 1) = nn := by rw [← hnn]; exact impl_YardOk.w64 (by omega) (by have := HS1.out; omega)
  have HNN := Aside0.mk hnn
  clear hnn
  have HOK := Aside0.mk hok
  clear hok
  have HFB := Aside0.mk hfb
  have HLEN := Aside0.mk hlen
  clear hfb hlen
  have AK := Aside0.mk (show impl_in.f 3 1 3 = some true from rfl)
  rw [← HNN.out] at hst
  have AST := Aside0.mk hst
  clear hst
  rw [← HNN.out] at hbx
  have ABX := Aside0.mk hbx
  clear hbx
  have h0s := hs0
  have h1s := hs9
  have h0b := hb0
  have h1b := hb9
  clear hs0 hs9 hb0 hb9
  have HPOS := Aside0.mk hz
  have HNE := Aside0.mk (show b ≠ s from beq_eq_false_iff_ne.1 hbs)
  have HB := Aside0.mk (Below.refl w.heap.size w)
  go_enter Try.func31, Try.ntmps31
  go_upto_region 2 with (first | ((with_reducible refine gate_dst (N := 2) rfl ?_); refine box_event ?hg (N := 2) ?hd (cs := #[.int .i64 H, .slice A l.length c]) (t := 69) ?hr ?_; (case hd => rfl); (case hg => rfl); (case hr => first | (go_simp; done) | (go_simp; rfl)); intro gb2 hg w2 hbox hb; have q1_ := Aside0.mk hbox; have q2_ := Aside0.mk ((by rw [hg]; exact (below_size (by exact bel_ HB.out))) : w.heap.size ≤ gb2); have n0_ := Aside0.mk (below_step (by exact bel_ HB.out) hb); clear HB; have HB := n0_; clear n0_; have BK2 := q1_; have GE2 := q2_; clear q1_ q2_; clear hb hbox hg; obtain ⟨hcz2_0, hfz2_0, hcz2_1, hfz2_1⟩ := Yt.c2 BK2.out) | ((with_reducible refine gate_dst (N := 3) rfl ?_); refine box_event ?hg (N := 3) ?hd (cs := #[.int .i64 3, .int .i64 b, .int .i64 s]) (t := 76) ?hr ?_; (case hd => rfl); (case hg => rfl); (case hr => first | (go_simp; done) | (go_simp; rfl)); intro gb3 hg w3 hbox hb; have q1_ := Aside0.mk hbox; have q2_ := Aside0.mk ((by rw [hg]; exact (below_size (by exact bel_ HB.out))) : w.heap.size ≤ gb3); have NB2_3 := Aside0.mk (nl_ BK2.out hg); have n0_ := Aside0.mk (below_step (by exact bel_ HB.out) hb); have m2_ := Aside0.mk (bb_ BK2.out hb); clear HB; have HB := n0_; clear n0_; clear BK2; have BK2 := m2_; clear m2_; have BK3 := q1_; have GE3 := q2_; clear q1_ q2_; clear hb hbox hg; obtain ⟨hcz2_0, hfz2_0, hcz2_1, hfz2_1⟩ := Yt.c2 BK2.out; obtain ⟨hcz3_0, hfz3_0, hcz3_1, hfz3_1, hcz3_2, hfz3_2⟩ := Yt.c3 BK3.out; have hnb2_3 := NB2_3.out; have hnc2_3 := Ne.symm NB2_3.out) | ((with_reducible refine gate_dst (N := 4) rfl ?_); refine box_event ?hg (N := 4) ?hd (cs := #[.int .i64 0, .slice none 0 0]) (t := 69) ?hr ?_; (case hd => rfl); (case hg => rfl); (case hr => first | (go_simp; done) | (go_simp; rfl)); intro gb4 hg w4 hbox hb; have q1_ := Aside0.mk hbox; have q2_ := Aside0.mk ((by rw [hg]; exact (below_size (by exact bel_ HB.out))) : w.heap.size ≤ gb4); have NB2_4 := Aside0.mk (nl_ BK2.out hg); have NB3_4 := Aside0.mk (nl_ BK3.out hg); have n0_ := Aside0.mk (below_step (by exact bel_ HB.out) hb); have m2_ := Aside0.mk (bb_ BK2.out hb); have m3_ := Aside0.mk (bb_ BK3.out hb); clear HB; have HB := n0_; clear n0_; clear BK2; have BK2 := m2_; clear m2_; clear BK3; have BK3 := m3_; clear m3_; have BK4 := q1_; have GE4 := q2_; clear q1_ q2_; clear hb hbox hg; obtain ⟨hcz2_0, hfz2_0, hcz2_1, hfz2_1⟩ := Yt.c2 BK2.out; obtain ⟨hcz3_0, hfz3_0, hcz3_1, hfz3_1, hcz3_2, hfz3_2⟩ := Yt.c3 BK3.out; obtain ⟨hcz4_0, hfz4_0, hcz4_1, hfz4_1⟩ := Yt.c2 BK4.out; have hnb2_4 := NB2_4.out; have hnc2_4 := Ne.symm NB2_4.out; have hnb3_4 := NB3_4.out; have hnc3_4 := Ne.symm NB3_4.out) | ((with_reducible refine gate_callee (f := 71) rfl ?_); refine goesL_ (some 18) rfl rfl Try.func71 (by kernel_rfl) rfl #[.agg #[.int .i64 H, .slice A l.length c]] rfl (by (try simp only [List.map_toArray, List.map_cons, List.map_nil]); first | done | rfl) ?_; (with_reducible refine (impl_Yard_own.calls H A c l H l _ ?side1 HC.out HF.out).mono ?_); (case side1 => exact Kd.C_below HR.out (by exact bel_ HB.out)); rintro e w18 ⟨v18, rfl, hS, hb⟩; refine ⟨_, rfl, ?_⟩; obtain ⟨Aw, cw, ew⟩ := Kd.S_slice hS; subst ew; have HSW := Aside0.mk (Kd.S_lower hS (below_size (by exact bel_ HB.out))); have n0_ := Aside0.mk (below_step (by exact bel_ HB.out) hb); have m2_ := Aside0.mk (bb_ BK2.out hb); have m3_ := Aside0.mk (bb_ BK3.out hb); have m4_ := Aside0.mk (bb_ BK4.out hb); clear HB; have HB := n0_; clear n0_; clear BK2; have BK2 := m2_; clear m2_; clear BK3; have BK3 := m3_; clear m3_; clear BK4; have BK4 := m4_; clear m4_; clear hb hS; obtain ⟨hcz2_0, hfz2_0, hcz2_1, hfz2_1⟩ := Yt.c2 BK2.out; obtain ⟨hcz3_0, hfz3_0, hcz3_1, hfz3_1, hcz3_2, hfz3_2⟩ := Yt.c3 BK3.out; obtain ⟨hcz4_0, hfz4_0, hcz4_1, hfz4_1⟩ := Yt.c2 BK4.out) | ((with_reducible refine gate_dst (N := 7) rfl ?_); refine box_event ?hg (N := 7) ?hd (cs := #[.int .i64 0, .slice none 0 0]) (t := 69) ?hr ?_; (case hd => rfl); (case hg => rfl); (case hr => first | (go_simp; done) | (go_simp; rfl)); intro gb7 hg w7 hbox hb; have q1_ := Aside0.mk hbox; have q2_ := Aside0.mk ((by rw [hg]; exact (below_size (by exact bel_ HB.out))) : w.heap.size ≤ gb7); have NB2_7 := Aside0.mk (nl_ BK2.out hg); have NB3_7 := Aside0.mk (nl_ BK3.out hg); have NB4_7 := Aside0.mk (nl_ BK4.out hg); have n0_ := Aside0.mk (below_step (by exact bel_ HB.out) hb); have m2_ := Aside0.mk (bb_ BK2.out hb); have m3_ := Aside0.mk (bb_ BK3.out hb); have m4_ := Aside0.mk (bb_ BK4.out hb); have mHSW_ := Aside0.mk (Yt.sb HSW.out hb); clear HB; have HB := n0_; clear n0_; clear BK2; have BK2 := m2_; clear m2_; clear BK3; have BK3 := m3_; clear m3_; clear BK4; have BK4 := m4_; clear m4_; clear HSW; have HSW := mHSW_; clear mHSW_; have BK7 := q1_; have GE7 := q2_; clear q1_ q2_; clear hb hbox hg; obtain ⟨hcz2_0, hfz2_0, hcz2_1, hfz2_1⟩ := Yt.c2 BK2.out; obtain ⟨hcz3_0, hfz3_0, hcz3_1, hfz3_1, hcz3_2, hfz3_2⟩ := Yt.c3 BK3.out; obtain ⟨hcz4_0, hfz4_0, hcz4_1, hfz4_1⟩ := Yt.c2 BK4.out; obtain ⟨hcz7_0, hfz7_0, hcz7_1, hfz7_1⟩ := Yt.c2 BK7.out; have hnb2_7 := NB2_7.out; have hnc2_7 := Ne.symm NB2_7.out; have hnb3_7 := NB3_7.out; have hnc3_7 := Ne.symm NB3_7.out; have hnb4_7 := NB4_7.out; have hnc4_7 := Ne.symm NB4_7.out))
  (try simp only [Act.put, List.setIfInBounds_toArray, List.set_cons_zero, List.set_cons_succ])
  have b7_ : ((w7.setCell ⟨gb7, 0, none⟩ (.int .i64 H)).setCell ⟨gb7, 1, none⟩ (.slice Aw l.length cw)).heap[gb7]? = some (.cells #[.int .i64 H, .slice Aw l.length cw] 69 (0, 0)) := blk_put (cs := #[.int .i64 H, .slice none 0 0]) (blk_put (cs := #[.int .i64 0, .slice none 0 0]) BK7.out 0 _ rfl) 1 _ rfl
  have b2_ : ((w7.setCell ⟨gb7, 0, none⟩ (.int .i64 H)).setCell ⟨gb7, 1, none⟩ (.slice Aw l.length cw)).heap[gb2]? = some (.cells #[.int .i64 H, .slice A l.length c] 69 (0, 0)) := blk_far (blk_far BK2.out NB2_7.out _) NB2_7.out _
  have b3_ : ((w7.setCell ⟨gb7, 0, none⟩ (.int .i64 H)).setCell ⟨gb7, 1, none⟩ (.slice Aw l.length cw)).heap[gb3]? = some (.cells #[.int .i64 3, .int .i64 b, .int .i64 s] 76 (0, 0)) := blk_far (blk_far BK3.out NB3_7.out _) NB3_7.out _
  have b4_ : ((w7.setCell ⟨gb7, 0, none⟩ (.int .i64 H)).setCell ⟨gb7, 1, none⟩ (.slice Aw l.length cw)).heap[gb4]? = some (.cells #[.int .i64 0, .slice none 0 0] 69 (0, 0)) := blk_far (blk_far BK4.out NB4_7.out _) NB4_7.out _
  have sHSW_ := Kd.S_mono (Kd.S_far (p := ⟨gb7, 1, none⟩) (Kd.S_far (p := ⟨gb7, 0, none⟩) (Kd.S_types HSW.out BK7.out (by decide)) (fun _ hk => hk.2) (.int .i64 H)) (fun _ hk => hk.2) (.slice Aw l.length cw)) (fun _ hk => hk.1)
  have hb_ : Below w.heap.size w ((w7.setCell ⟨gb7, 0, none⟩ (.int .i64 H)).setCell ⟨gb7, 1, none⟩ (.slice Aw l.length cw)) := below_set (below_set HB.out GE7.out) GE7.out
  try clear hcz2_0 hfz2_0 hcz2_1 hfz2_1
  try clear hcz3_0 hfz3_0 hcz3_1 hfz3_1 hcz3_2 hfz3_2
  try clear hcz4_0 hfz4_0 hcz4_1 hfz4_1
  try clear hcz7_0 hfz7_0 hcz7_1 hfz7_1
  try clear hnb2_3 hnc2_3 hnb2_4 hnc2_4 hnb2_7 hnc2_7 hnb3_4 hnc3_4 hnb3_7 hnc3_7 hnb4_7 hnc4_7
  generalize (w7.setCell ⟨gb7, 0, none⟩ (.int .i64 H)).setCell ⟨gb7, 1, none⟩ (.slice Aw l.length cw) = w8 at b2_ b3_ b4_ b7_ sHSW_ hb_ ⊢
  clear HB BK2 BK3 BK4 BK7 HSW
  have HB := Aside0.mk hb_
  clear hb_
  have BK2 := Aside0.mk b2_
  clear b2_
  have BK3 := Aside0.mk b3_
  clear b3_
  have BK4 := Aside0.mk b4_
  clear b4_
  have BK7 := Aside0.mk b7_
  clear b7_
  have HSW := Aside0.mk sHSW_
  clear sHSW_
  obtain ⟨hcz2_0, hfz2_0, hcz2_1, hfz2_1⟩ := Yt.c2 BK2.out; obtain ⟨hcz3_0, hfz3_0, hcz3_1, hfz3_1, hcz3_2, hfz3_2⟩ := Yt.c3 BK3.out; obtain ⟨hcz4_0, hfz4_0, hcz4_1, hfz4_1⟩ := Yt.c2 BK4.out; obtain ⟨hcz7_0, hfz7_0, hcz7_1, hfz7_1⟩ := Yt.c2 BK7.out
  have hnb2_3 := NB2_3.out; have hnc2_3 := Ne.symm NB2_3.out
  have hnb2_4 := NB2_4.out; have hnc2_4 := Ne.symm NB2_4.out
  have hnb2_7 := NB2_7.out; have hnc2_7 := Ne.symm NB2_7.out
  have hnb3_4 := NB3_4.out; have hnc3_4 := Ne.symm NB3_4.out
  have hnb3_7 := NB3_7.out; have hnc3_7 := Ne.symm NB3_7.out
  have hnb4_7 := NB4_7.out; have hnc4_7 := Ne.symm NB4_7.out
  go_upto_region 5 with (first | ((with_reducible refine gate_callee (f := 32) rfl ?_); refine goesL_ (some 24) rfl rfl Try.func32 (by kernel_rfl) rfl #[.agg #[.int .i64 H, .slice A l.length c]] rfl (by (try simp only [List.map_toArray, List.map_cons, List.map_nil]); first | done | rfl) ?_; (with_reducible refine (impl_YardOk.calls H A c l true _ ?side1 HC.out HOK.out).mono ?_); (case side1 => exact Kd.C_below HR.out (by exact bel_ HB.out)); rintro e w24 ⟨rfl, hb⟩; refine ⟨_, rfl, ?_⟩; have n0_ := Aside0.mk (below_step (by exact bel_ HB.out) hb); have m2_ := Aside0.mk (bb_ BK2.out hb); have m3_ := Aside0.mk (bb_ BK3.out hb); have m4_ := Aside0.mk (bb_ BK4.out hb); have m7_ := Aside0.mk (bb_ BK7.out hb); have mHSW_ := Aside0.mk (Yt.sb HSW.out hb); clear HB; have HB := n0_; clear n0_; clear BK2; have BK2 := m2_; clear m2_; clear BK3; have BK3 := m3_; clear m3_; clear BK4; have BK4 := m4_; clear m4_; clear BK7; have BK7 := m7_; clear m7_; clear HSW; have HSW := mHSW_; clear mHSW_; clear hb; obtain ⟨hcz2_0, hfz2_0, hcz2_1, hfz2_1⟩ := Yt.c2 BK2.out; obtain ⟨hcz3_0, hfz3_0, hcz3_1, hfz3_1, hcz3_2, hfz3_2⟩ := Yt.c3 BK3.out; obtain ⟨hcz4_0, hfz4_0, hcz4_1, hfz4_1⟩ := Yt.c2 BK4.out; obtain ⟨hcz7_0, hfz7_0, hcz7_1, hfz7_1⟩ := Yt.c2 BK7.out) | (go_at_call 48; (with_reducible refine (impl_in.calls 3 1 3 true _ AK.out).mono ?_); rintro e w' ⟨rfl, ⟨nd, rfl⟩⟩; (try first | exact ⟨rfl, _, World.drewN_drewN _ _ _⟩ | exact ⟨rfl, _, Eq.trans (World.drewN_drewN _ _ _) (congrArg (World.drewN _) (Nat.add_assoc _ _ _))⟩)) | (go_at_call 48; (with_reducible refine (impl_in.calls s 0 nn true _ AST.out).mono ?_); rintro e w' ⟨rfl, ⟨nd, rfl⟩⟩; (try first | exact ⟨rfl, _, World.drewN_drewN _ _ _⟩ | exact ⟨rfl, _, Eq.trans (World.drewN_drewN _ _ _) (congrArg (World.drewN _) (Nat.add_assoc _ _ _))⟩)) | (go_at_call 48; (with_reducible refine (impl_in.calls b 0 nn true _ ABX.out).mono ?_); rintro e w' ⟨rfl, ⟨nd, rfl⟩⟩; (try first | exact ⟨rfl, _, World.drewN_drewN _ _ _⟩ | exact ⟨rfl, _, Eq.trans (World.drewN_drewN _ _ _) (congrArg (World.drewN _) (Nat.add_assoc _ _ _))⟩)))
  repeat (go_quiet (first | (go_at_call 48; (with_reducible refine (impl_in.calls 3 1 3 true _ AK.out).mono ?_); rintro e w' ⟨rfl, ⟨nd, rfl⟩⟩; (try first | exact ⟨rfl, _, World.drewN_drewN _ _ _⟩ | exact ⟨rfl, _, Eq.trans (World.drewN_drewN _ _ _) (congrArg (World.drewN _) (Nat.add_assoc _ _ _))⟩)) | (go_at_call 48; (with_reducible refine (impl_in.calls s 0 nn true _ AST.out).mono ?_); rintro e w' ⟨rfl, ⟨nd, rfl⟩⟩; (try first | exact ⟨rfl, _, World.drewN_drewN _ _ _⟩ | exact ⟨rfl, _, Eq.trans (World.drewN_drewN _ _ _) (congrArg (World.drewN _) (Nat.add_assoc _ _ _))⟩)) | (go_at_call 48; (with_reducible refine (impl_in.calls b 0 nn true _ ABX.out).mono ?_); rintro e w' ⟨rfl, ⟨nd, rfl⟩⟩; (try first | exact ⟨rfl, _, World.drewN_drewN _ _ _⟩ | exact ⟨rfl, _, Eq.trans (World.drewN_drewN _ _ _) (congrArg (World.drewN _) (Nat.add_assoc _ _ _))⟩))); try go_upto_region 5 with (first | (go_at_call 48; (with_reducible refine (impl_in.calls 3 1 3 true _ AK.out).mono ?_); rintro e w' ⟨rfl, ⟨nd, rfl⟩⟩; (try first | exact ⟨rfl, _, World.drewN_drewN _ _ _⟩ | exact ⟨rfl, _, Eq.trans (World.drewN_drewN _ _ _) (congrArg (World.drewN _) (Nat.add_assoc _ _ _))⟩)) | (go_at_call 48; (with_reducible refine (impl_in.calls s 0 nn true _ AST.out).mono ?_); rintro e w' ⟨rfl, ⟨nd, rfl⟩⟩; (try first | exact ⟨rfl, _, World.drewN_drewN _ _ _⟩ | exact ⟨rfl, _, Eq.trans (World.drewN_drewN _ _ _) (congrArg (World.drewN _) (Nat.add_assoc _ _ _))⟩)) | (go_at_call 48; (with_reducible refine (impl_in.calls b 0 nn true _ ABX.out).mono ?_); rintro e w' ⟨rfl, ⟨nd, rfl⟩⟩; (try first | exact ⟨rfl, _, World.drewN_drewN _ _ _⟩ | exact ⟨rfl, _, Eq.trans (World.drewN_drewN _ _ _) (congrArg (World.drewN _) (Nat.add_assoc _ _ _))⟩))))
  (try simp only [Act.put, List.setIfInBounds_toArray, List.set_cons_zero, List.set_cons_succ])
  obtain ⟨M, hM⟩ : ∃ M, M = w24.heap.size := ⟨_, rfl⟩
  have HM := Aside0.mk hM
  have HMW : Aside0 (w.heap.size ≤ M) := ⟨by rw [hM]; exact HB.out.size⟩
  clear hM
  go_upto_region 6 with (first | ((with_reducible refine gate_callee (f := 71) rfl ?_); refine goesL_ (some 76) rfl rfl Try.func71 (by kernel_rfl) rfl #[.agg #[.int .i64 H, .slice A l.length c]] rfl (by (try simp only [List.map_toArray, List.map_cons, List.map_nil]); first | done | rfl) ?_; (with_reducible refine (impl_Yard_own.calls H A c l H l _ ?side1 HC.out HF.out).mono ?_); (case side1 => exact Kd.C_below HR.out (by exact bel_ HB.out)); rintro e w76 ⟨v76, rfl, hS, hb⟩; refine ⟨_, rfl, ?_⟩; obtain ⟨gx, cx, ex, hgx, hgl, _⟩ := Kd.S_form hS HLEN.out; subst ex; have HGX : Aside0 (M ≤ gx) := ⟨by rw [HM.out]; exact hgx⟩; have mW_ := Aside0.mk (Kd.S_below (Kd.S_mono (ok' := fun k => k < M) (Kd.S_bound (Yt.sp HSW.out)) (fun k hk => by rw [HM.out]; exact hk.2.2.1)) hb); have HSX := Aside0.mk (Kd.S_lower (Kd.S_mono (ok' := fun k => M ≤ k) (Kd.S_bound hS) (fun k hk => by rw [HM.out]; exact hk.2.1)) (below_size (by exact bel_ HB.out))); have n0_ := Aside0.mk (below_step (by exact bel_ HB.out) hb); have m2_ := Aside0.mk (bb_ BK2.out hb); have m3_ := Aside0.mk (bb_ BK3.out hb); have m4_ := Aside0.mk (bb_ BK4.out hb); have m7_ := Aside0.mk (bb_ BK7.out hb); clear HB; have HB := n0_; clear n0_; clear BK2; have BK2 := m2_; clear m2_; clear BK3; have BK3 := m3_; clear m3_; clear BK4; have BK4 := m4_; clear m4_; clear BK7; have BK7 := m7_; clear m7_; clear HSW; have HSW := mW_; clear mW_; clear hb hS hgx hgl; obtain ⟨hcz2_0, hfz2_0, hcz2_1, hfz2_1⟩ := Yt.c2 BK2.out; obtain ⟨hcz3_0, hfz3_0, hcz3_1, hfz3_1, hcz3_2, hfz3_2⟩ := Yt.c3 BK3.out; obtain ⟨hcz4_0, hfz4_0, hcz4_1, hfz4_1⟩ := Yt.c2 BK4.out; obtain ⟨hcz7_0, hfz7_0, hcz7_1, hfz7_1⟩ := Yt.c2 BK7.out) | ((with_reducible refine gate_dst (N := 9) rfl ?_); refine box_event ?hg (N := 9) ?hd (cs := #[.int .i64 0, .slice none 0 0]) (t := 69) ?hr ?_; (case hd => rfl); (case hg => rfl); (case hr => first | (go_simp; done) | (go_simp; rfl)); intro gb9 hg w9 hbox hb; have q1_ := Aside0.mk hbox; have q2_ := Aside0.mk ((by rw [hg]; exact (below_size (by exact bel_ HB.out))) : w.heap.size ≤ gb9); have NB2_9 := Aside0.mk (nl_ BK2.out hg); have NB3_9 := Aside0.mk (nl_ BK3.out hg); have NB4_9 := Aside0.mk (nl_ BK4.out hg); have NB7_9 := Aside0.mk (nl_ BK7.out hg); have n0_ := Aside0.mk (below_step (by exact bel_ HB.out) hb); have m2_ := Aside0.mk (bb_ BK2.out hb); have m3_ := Aside0.mk (bb_ BK3.out hb); have m4_ := Aside0.mk (bb_ BK4.out hb); have m7_ := Aside0.mk (bb_ BK7.out hb); have mHSW_ := Aside0.mk (Yt.sb HSW.out hb); have mHSX_ := Aside0.mk (Yt.sb HSX.out hb); clear HB; have HB := n0_; clear n0_; clear BK2; have BK2 := m2_; clear m2_; clear BK3; have BK3 := m3_; clear m3_; clear BK4; have BK4 := m4_; clear m4_; clear BK7; have BK7 := m7_; clear m7_; clear HSW; have HSW := mHSW_; clear mHSW_; clear HSX; have HSX := mHSX_; clear mHSX_; have BK9 := q1_; have GE9 := q2_; clear q1_ q2_; clear hb hbox hg; obtain ⟨hcz2_0, hfz2_0, hcz2_1, hfz2_1⟩ := Yt.c2 BK2.out; obtain ⟨hcz3_0, hfz3_0, hcz3_1, hfz3_1, hcz3_2, hfz3_2⟩ := Yt.c3 BK3.out; obtain ⟨hcz4_0, hfz4_0, hcz4_1, hfz4_1⟩ := Yt.c2 BK4.out; obtain ⟨hcz7_0, hfz7_0, hcz7_1, hfz7_1⟩ := Yt.c2 BK7.out; obtain ⟨hcz9_0, hfz9_0, hcz9_1, hfz9_1⟩ := Yt.c2 BK9.out; have hnb2_9 := NB2_9.out; have hnc2_9 := Ne.symm NB2_9.out; have hnb3_9 := NB3_9.out; have hnc3_9 := Ne.symm NB3_9.out; have hnb4_9 := NB4_9.out; have hnc4_9 := Ne.symm NB4_9.out; have hnb7_9 := NB7_9.out; have hnc7_9 := Ne.symm NB7_9.out))
  (try simp only [Act.put, List.setIfInBounds_toArray, List.set_cons_zero, List.set_cons_succ])
  have b9_ : ((w9.setCell ⟨gb9, 0, none⟩ (.int .i64 H)).setCell ⟨gb9, 1, none⟩ (.slice (some ⟨gx, 0, none⟩) l.length cx)).heap[gb9]? = some (.cells #[.int .i64 H, .slice (some ⟨gx, 0, none⟩) l.length cx] 69 (0, 0)) := blk_put (cs := #[.int .i64 H, .slice none 0 0]) (blk_put (cs := #[.int .i64 0, .slice none 0 0]) BK9.out 0 _ rfl) 1 _ rfl
  have b2_ : ((w9.setCell ⟨gb9, 0, none⟩ (.int .i64 H)).setCell ⟨gb9, 1, none⟩ (.slice (some ⟨gx, 0, none⟩) l.length cx)).heap[gb2]? = some (.cells #[.int .i64 H, .slice A l.length c] 69 (0, 0)) := blk_far (blk_far BK2.out NB2_9.out _) NB2_9.out _
  have b3_ : ((w9.setCell ⟨gb9, 0, none⟩ (.int .i64 H)).setCell ⟨gb9, 1, none⟩ (.slice (some ⟨gx, 0, none⟩) l.length cx)).heap[gb3]? = some (.cells #[.int .i64 3, .int .i64 b, .int .i64 s] 76 (0, 0)) := blk_far (blk_far BK3.out NB3_9.out _) NB3_9.out _
  have b4_ : ((w9.setCell ⟨gb9, 0, none⟩ (.int .i64 H)).setCell ⟨gb9, 1, none⟩ (.slice (some ⟨gx, 0, none⟩) l.length cx)).heap[gb4]? = some (.cells #[.int .i64 0, .slice none 0 0] 69 (0, 0)) := blk_far (blk_far BK4.out NB4_9.out _) NB4_9.out _
  have b7_ : ((w9.setCell ⟨gb9, 0, none⟩ (.int .i64 H)).setCell ⟨gb9, 1, none⟩ (.slice (some ⟨gx, 0, none⟩) l.length cx)).heap[gb7]? = some (.cells #[.int .i64 H, .slice Aw l.length cw] 69 (0, 0)) := blk_far (blk_far BK7.out NB7_9.out _) NB7_9.out _
  have sHSW_ := Kd.S_mono (Kd.S_far (p := ⟨gb9, 1, none⟩) (Kd.S_far (p := ⟨gb9, 0, none⟩) (Kd.S_types HSW.out BK9.out (by decide)) (fun _ hk => hk.2) (.int .i64 H)) (fun _ hk => hk.2) (.slice (some ⟨gx, 0, none⟩) l.length cx)) (fun _ hk => hk.1)
  have sHSX_ := Kd.S_mono (Kd.S_far (p := ⟨gb9, 1, none⟩) (Kd.S_far (p := ⟨gb9, 0, none⟩) (Kd.S_types HSX.out BK9.out (by decide)) (fun _ hk => hk.2) (.int .i64 H)) (fun _ hk => hk.2) (.slice (some ⟨gx, 0, none⟩) l.length cx)) (fun _ hk => hk.1)
  have hb_ : Below w.heap.size w ((w9.setCell ⟨gb9, 0, none⟩ (.int .i64 H)).setCell ⟨gb9, 1, none⟩ (.slice (some ⟨gx, 0, none⟩) l.length cx)) := below_set (below_set HB.out GE9.out) GE9.out
  try clear hcz2_0 hfz2_0 hcz2_1 hfz2_1
  try clear hcz3_0 hfz3_0 hcz3_1 hfz3_1 hcz3_2 hfz3_2
  try clear hcz4_0 hfz4_0 hcz4_1 hfz4_1
  try clear hcz7_0 hfz7_0 hcz7_1 hfz7_1
  try clear hcz9_0 hfz9_0 hcz9_1 hfz9_1
  try clear hnb2_3 hnc2_3 hnb2_4 hnc2_4 hnb2_7 hnc2_7 hnb2_9 hnc2_9 hnb3_4 hnc3_4 hnb3_7 hnc3_7 hnb3_9 hnc3_9 hnb4_7 hnc4_7 hnb4_9 hnc4_9 hnb7_9 hnc7_9
  generalize (w9.setCell ⟨gb9, 0, none⟩ (.int .i64 H)).setCell ⟨gb9, 1, none⟩ (.slice (some ⟨gx, 0, none⟩) l.length cx) = w10 at b2_ b3_ b4_ b7_ b9_ sHSW_ sHSX_ hb_ ⊢
  clear HB BK2 BK3 BK4 BK7 BK9 HSW HSX
  have HB := Aside0.mk hb_
  clear hb_
  have BK2 := Aside0.mk b2_
  clear b2_
  have BK3 := Aside0.mk b3_
  clear b3_
  have BK4 := Aside0.mk b4_
  clear b4_
  have BK7 := Aside0.mk b7_
  clear b7_
  have BK9 := Aside0.mk b9_
  clear b9_
  have HSW := Aside0.mk sHSW_
  clear sHSW_
  have HSX := Aside0.mk sHSX_
  clear sHSX_
  obtain ⟨hcz2_0, hfz2_0, hcz2_1, hfz2_1⟩ := Yt.c2 BK2.out; obtain ⟨hcz3_0, hfz3_0, hcz3_1, hfz3_1, hcz3_2, hfz3_2⟩ := Yt.c3 BK3.out; obtain ⟨hcz4_0, hfz4_0, hcz4_1, hfz4_1⟩ := Yt.c2 BK4.out; obtain ⟨hcz7_0, hfz7_0, hcz7_1, hfz7_1⟩ := Yt.c2 BK7.out; obtain ⟨hcz9_0, hfz9_0, hcz9_1, hfz9_1⟩ := Yt.c2 BK9.out
  have hnb2_3 := NB2_3.out; have hnc2_3 := Ne.symm NB2_3.out
  have hnb2_4 := NB2_4.out; have hnc2_4 := Ne.symm NB2_4.out
  have hnb2_7 := NB2_7.out; have hnc2_7 := Ne.symm NB2_7.out
  have hnb2_9 := NB2_9.out; have hnc2_9 := Ne.symm NB2_9.out
  have hnb3_4 := NB3_4.out; have hnc3_4 := Ne.symm NB3_4.out
  have hnb3_7 := NB3_7.out; have hnc3_7 := Ne.symm NB3_7.out
  have hnb3_9 := NB3_9.out; have hnc3_9 := Ne.symm NB3_9.out
  have hnb4_7 := NB4_7.out; have hnc4_7 := Ne.symm NB4_7.out
  have hnb4_9 := NB4_9.out; have hnc4_9 := Ne.symm NB4_9.out
  have hnb7_9 := NB7_9.out; have hnc7_9 := Ne.symm NB7_9.out
  go_upto_region 7 with (first | ((with_reducible refine gate_callee (f := 30) rfl ?_); refine goesL_ (some 81) rfl rfl Try.func30 (by kernel_rfl) rfl #[.agg #[.int .i64 H, .slice A l.length c], .int .i64 b] rfl (by (try simp only [List.map_toArray, List.map_cons, List.map_nil]); first | done | rfl) ?_; (with_reducible refine (impl_FindBox.calls 50 H A c l b fa ft fth _ ?side1 HC.out HFB.out).mono ?_); (case side1 => exact Kd.C_below HR.out (by exact bel_ HB.out)); rintro e w81 ⟨rfl, hb⟩; refine ⟨_, rfl, ?_⟩; have n0_ := Aside0.mk (below_step (by exact bel_ HB.out) hb); have m2_ := Aside0.mk (bb_ BK2.out hb); have m3_ := Aside0.mk (bb_ BK3.out hb); have m4_ := Aside0.mk (bb_ BK4.out hb); have m7_ := Aside0.mk (bb_ BK7.out hb); have m9_ := Aside0.mk (bb_ BK9.out hb); have mHSW_ := Aside0.mk (Yt.sb HSW.out hb); have mHSX_ := Aside0.mk (Yt.sb HSX.out hb); clear HB; have HB := n0_; clear n0_; clear BK2; have BK2 := m2_; clear m2_; clear BK3; have BK3 := m3_; clear m3_; clear BK4; have BK4 := m4_; clear m4_; clear BK7; have BK7 := m7_; clear m7_; clear BK9; have BK9 := m9_; clear m9_; clear HSW; have HSW := mHSW_; clear mHSW_; clear HSX; have HSX := mHSX_; clear mHSX_; clear hb; obtain ⟨hcz2_0, hfz2_0, hcz2_1, hfz2_1⟩ := Yt.c2 BK2.out; obtain ⟨hcz3_0, hfz3_0, hcz3_1, hfz3_1, hcz3_2, hfz3_2⟩ := Yt.c3 BK3.out; obtain ⟨hcz4_0, hfz4_0, hcz4_1, hfz4_1⟩ := Yt.c2 BK4.out; obtain ⟨hcz7_0, hfz7_0, hcz7_1, hfz7_1⟩ := Yt.c2 BK7.out; obtain ⟨hcz9_0, hfz9_0, hcz9_1, hfz9_1⟩ := Yt.c2 BK9.out))
  (try simp only [Act.put, List.setIfInBounds_toArray, List.set_cons_zero, List.set_cons_succ])
  have NX2 : Aside0 (gb2 ≠ gx) := ⟨by intro e_; exact Kd.R_ne (Kd.S_R HSX.out) BK2.out (by decide) (by rw [e_]; rfl)⟩
  have NX3 : Aside0 (gb3 ≠ gx) := ⟨by intro e_; exact Kd.R_ne (Kd.S_R HSX.out) BK3.out (by decide) (by rw [e_]; rfl)⟩
  have NX4 : Aside0 (gb4 ≠ gx) := ⟨by intro e_; exact Kd.R_ne (Kd.S_R HSX.out) BK4.out (by decide) (by rw [e_]; rfl)⟩
  have NX7 : Aside0 (gb7 ≠ gx) := ⟨by intro e_; exact Kd.R_ne (Kd.S_R HSX.out) BK7.out (by decide) (by rw [e_]; rfl)⟩
  have NX9 : Aside0 (gb9 ≠ gx) := ⟨by intro e_; exact Kd.R_ne (Kd.S_R HSX.out) BK9.out (by decide) (by rw [e_]; rfl)⟩
  obtain ⟨Ab, cb, hxb, hcb, hCb⟩ := Yt.get HSX.out b h0b h1b
  obtain ⟨sb, hsb⟩ : ∃ q, q = rd_L2 l b := ⟨_, rfl⟩
  rw [← hsb] at hxb hcb hCb
  have HSb := Aside0.mk hsb
  clear hsb
  have q0b : (0 ≤ b) = True := eq_true h0b
  have q1b : (b < (l.length : Int)) = True := eq_true h1b
  obtain ⟨As, cs, hxs, hcs, hCs⟩ := Yt.get HSX.out s h0s h1s
  obtain ⟨ss, hss⟩ : ∃ q, q = rd_L2 l s := ⟨_, rfl⟩
  rw [← hss] at hxs hcs hCs
  have HSs := Aside0.mk hss
  clear hss
  have q0s : (0 ≤ s) = True := eq_true h0s
  have q1s : (s < (l.length : Int)) = True := eq_true h1s
  rw [← HSb.out] at hz
  rw [← HSs.out] at hfl
  have hz1 : ((sb.length : Int) == 0) = false := by rw [beq_eq_false_iff_ne]; omega
  have hz2 : (sb.length == 0) = false := by rw [beq_eq_false_iff_ne]; omega
  have hz3 : ¬ sb = [] := by intro e_; rw [e_] at hz; exact absurd hz (by simp)
  go_wp2_with (first | ((with_reducible refine gate_callee (f := 73) rfl ?_); refine goesL_ (some 150) rfl rfl Try.func73 (by kernel_rfl) rfl #[.agg #[.int .i64 H, .slice (some ⟨gx, 0, none⟩) l.length cx], .int .i64 b, .int .i64 s] rfl (by (try simp only [List.map_toArray, List.map_cons, List.map_nil]); first | done | rfl) ?_; (with_reducible refine (Yt.lift_calls H gx l.length cx l b s (fun k => M ≤ k) w.heap.size _ ?sA ?sB ?sC h0b h1b h0s h1s HNE.out HPOS.out HS2.out).mono ?_); (case sA => exact (below_size (by exact bel_ HB.out))); (case sB => (with_reducible repeat (first | apply Kd.S_alloc | apply Kd.S_drewN | apply Kd.S_drew)); exact HSX.out); (case sC => intro k hk; exact Nat.le_trans (Nat.le_trans HGX.out (Nat.le_of_lt (Kd.S_lt HSX.out gx rfl))) hk); rintro e w150 ⟨rfl, hS, hk, hbf⟩; refine ⟨_, rfl, ?_⟩; have n0_ := Aside0.mk (hbf w (by exact bel_ HB.out) (Nat.le_trans HMW.out HGX.out)); have m2_ := Aside0.mk (KeepBut.blk hk (g' := gb2) (o := .cells #[.int .i64 H, .slice A l.length c] 69 (0, 0)) (fb_ BK2.out) NX2.out (by simp)); have m3_ := Aside0.mk (KeepBut.blk hk (g' := gb3) (o := .cells #[.int .i64 3, .int .i64 b, .int .i64 s] 76 (0, 0)) (fb_ BK3.out) NX3.out (by simp)); have m4_ := Aside0.mk (KeepBut.blk hk (g' := gb4) (o := .cells #[.int .i64 0, .slice none 0 0] 69 (0, 0)) (fb_ BK4.out) NX4.out (by simp)); have m7_ := Aside0.mk (KeepBut.blk hk (g' := gb7) (o := .cells #[.int .i64 H, .slice Aw l.length cw] 69 (0, 0)) (fb_ BK7.out) NX7.out (by simp)); have m9_ := Aside0.mk (KeepBut.blk hk (g' := gb9) (o := .cells #[.int .i64 H, .slice (some ⟨gx, 0, none⟩) l.length cx] 69 (0, 0)) (fb_ BK9.out) NX9.out (by simp)); have sW_ := Aside0.mk (Kd.S_keep (Yt.sp HSW.out) hk (fun k hk_ e_ => by have h_ : k < M := hk_; have h2_ := HGX.out; rw [e_] at h_; exact absurd h_ (Nat.not_lt.2 h2_))); have sX_ := Aside0.mk hS; clear HB HSW HSX BK2 BK3 BK4 BK7 BK9; have HB := n0_; have HSW := sW_; have HSX := sX_; have BK2 := m2_; have BK3 := m3_; have BK4 := m4_; have BK7 := m7_; have BK9 := m9_; clear n0_ sW_ sX_ m2_ m3_ m4_ m7_ m9_; clear hS hk hbf; obtain ⟨hcz2_0, hfz2_0, hcz2_1, hfz2_1⟩ := Yt.c2 BK2.out; obtain ⟨hcz3_0, hfz3_0, hcz3_1, hfz3_1, hcz3_2, hfz3_2⟩ := Yt.c3 BK3.out; obtain ⟨hcz4_0, hfz4_0, hcz4_1, hfz4_1⟩ := Yt.c2 BK4.out; obtain ⟨hcz7_0, hfz7_0, hcz7_1, hfz7_1⟩ := Yt.c2 BK7.out; obtain ⟨hcz9_0, hfz9_0, hcz9_1, hfz9_1⟩ := Yt.c2 BK9.out))
  repeat (go_quiet (first | ((with_reducible refine gate_callee (f := 73) rfl ?_); refine goesL_ (some 150) rfl rfl Try.func73 (by kernel_rfl) rfl #[.agg #[.int .i64 H, .slice (some ⟨gx, 0, none⟩) l.length cx], .int .i64 b, .int .i64 s] rfl (by (try simp only [List.map_toArray, List.map_cons, List.map_nil]); first | done | rfl) ?_; (with_reducible refine (Yt.lift_calls H gx l.length cx l b s (fun k => M ≤ k) w.heap.size _ ?sA ?sB ?sC h0b h1b h0s h1s HNE.out HPOS.out HS2.out).mono ?_); (case sA => exact (below_size (by exact bel_ HB.out))); (case sB => (with_reducible repeat (first | apply Kd.S_alloc | apply Kd.S_drewN | apply Kd.S_drew)); exact HSX.out); (case sC => intro k hk; exact Nat.le_trans (Nat.le_trans HGX.out (Nat.le_of_lt (Kd.S_lt HSX.out gx rfl))) hk); rintro e w150 ⟨rfl, hS, hk, hbf⟩; refine ⟨_, rfl, ?_⟩; have n0_ := Aside0.mk (hbf w (by exact bel_ HB.out) (Nat.le_trans HMW.out HGX.out)); have m2_ := Aside0.mk (KeepBut.blk hk (g' := gb2) (o := .cells #[.int .i64 H, .slice A l.length c] 69 (0, 0)) (fb_ BK2.out) NX2.out (by simp)); have m3_ := Aside0.mk (KeepBut.blk hk (g' := gb3) (o := .cells #[.int .i64 3, .int .i64 b, .int .i64 s] 76 (0, 0)) (fb_ BK3.out) NX3.out (by simp)); have m4_ := Aside0.mk (KeepBut.blk hk (g' := gb4) (o := .cells #[.int .i64 0, .slice none 0 0] 69 (0, 0)) (fb_ BK4.out) NX4.out (by simp)); have m7_ := Aside0.mk (KeepBut.blk hk (g' := gb7) (o := .cells #[.int .i64 H, .slice Aw l.length cw] 69 (0, 0)) (fb_ BK7.out) NX7.out (by simp)); have m9_ := Aside0.mk (KeepBut.blk hk (g' := gb9) (o := .cells #[.int .i64 H, .slice (some ⟨gx, 0, none⟩) l.length cx] 69 (0, 0)) (fb_ BK9.out) NX9.out (by simp)); have sW_ := Aside0.mk (Kd.S_keep (Yt.sp HSW.out) hk (fun k hk_ e_ => by have h_ : k < M := hk_; have h2_ := HGX.out; rw [e_] at h_; exact absurd h_ (Nat.not_lt.2 h2_))); have sX_ := Aside0.mk hS; clear HB HSW HSX BK2 BK3 BK4 BK7 BK9; have HB := n0_; have HSW := sW_; have HSX := sX_; have BK2 := m2_; have BK3 := m3_; have BK4 := m4_; have BK7 := m7_; have BK9 := m9_; clear n0_ sW_ sX_ m2_ m3_ m4_ m7_ m9_; clear hS hk hbf; obtain ⟨hcz2_0, hfz2_0, hcz2_1, hfz2_1⟩ := Yt.c2 BK2.out; obtain ⟨hcz3_0, hfz3_0, hcz3_1, hfz3_1, hcz3_2, hfz3_2⟩ := Yt.c3 BK3.out; obtain ⟨hcz4_0, hfz4_0, hcz4_1, hfz4_1⟩ := Yt.c2 BK4.out; obtain ⟨hcz7_0, hfz7_0, hcz7_1, hfz7_1⟩ := Yt.c2 BK7.out; obtain ⟨hcz9_0, hfz9_0, hcz9_1, hfz9_1⟩ := Yt.c2 BK9.out)); try go_wp2_with (first | ((with_reducible refine gate_callee (f := 73) rfl ?_); refine goesL_ (some 150) rfl rfl Try.func73 (by kernel_rfl) rfl #[.agg #[.int .i64 H, .slice (some ⟨gx, 0, none⟩) l.length cx], .int .i64 b, .int .i64 s] rfl (by (try simp only [List.map_toArray, List.map_cons, List.map_nil]); first | done | rfl) ?_; (with_reducible refine (Yt.lift_calls H gx l.length cx l b s (fun k => M ≤ k) w.heap.size _ ?sA ?sB ?sC h0b h1b h0s h1s HNE.out HPOS.out HS2.out).mono ?_); (case sA => exact (below_size (by exact bel_ HB.out))); (case sB => (with_reducible repeat (first | apply Kd.S_alloc | apply Kd.S_drewN | apply Kd.S_drew)); exact HSX.out); (case sC => intro k hk; exact Nat.le_trans (Nat.le_trans HGX.out (Nat.le_of_lt (Kd.S_lt HSX.out gx rfl))) hk); rintro e w150 ⟨rfl, hS, hk, hbf⟩; refine ⟨_, rfl, ?_⟩; have n0_ := Aside0.mk (hbf w (by exact bel_ HB.out) (Nat.le_trans HMW.out HGX.out)); have m2_ := Aside0.mk (KeepBut.blk hk (g' := gb2) (o := .cells #[.int .i64 H, .slice A l.length c] 69 (0, 0)) (fb_ BK2.out) NX2.out (by simp)); have m3_ := Aside0.mk (KeepBut.blk hk (g' := gb3) (o := .cells #[.int .i64 3, .int .i64 b, .int .i64 s] 76 (0, 0)) (fb_ BK3.out) NX3.out (by simp)); have m4_ := Aside0.mk (KeepBut.blk hk (g' := gb4) (o := .cells #[.int .i64 0, .slice none 0 0] 69 (0, 0)) (fb_ BK4.out) NX4.out (by simp)); have m7_ := Aside0.mk (KeepBut.blk hk (g' := gb7) (o := .cells #[.int .i64 H, .slice Aw l.length cw] 69 (0, 0)) (fb_ BK7.out) NX7.out (by simp)); have m9_ := Aside0.mk (KeepBut.blk hk (g' := gb9) (o := .cells #[.int .i64 H, .slice (some ⟨gx, 0, none⟩) l.length cx] 69 (0, 0)) (fb_ BK9.out) NX9.out (by simp)); have sW_ := Aside0.mk (Kd.S_keep (Yt.sp HSW.out) hk (fun k hk_ e_ => by have h_ : k < M := hk_; have h2_ := HGX.out; rw [e_] at h_; exact absurd h_ (Nat.not_lt.2 h2_))); have sX_ := Aside0.mk hS; clear HB HSW HSX BK2 BK3 BK4 BK7 BK9; have HB := n0_; have HSW := sW_; have HSX := sX_; have BK2 := m2_; have BK3 := m3_; have BK4 := m4_; have BK7 := m7_; have BK9 := m9_; clear n0_ sW_ sX_ m2_ m3_ m4_ m7_ m9_; clear hS hk hbf; obtain ⟨hcz2_0, hfz2_0, hcz2_1, hfz2_1⟩ := Yt.c2 BK2.out; obtain ⟨hcz3_0, hfz3_0, hcz3_1, hfz3_1, hcz3_2, hfz3_2⟩ := Yt.c3 BK3.out; obtain ⟨hcz4_0, hfz4_0, hcz4_1, hfz4_1⟩ := Yt.c2 BK4.out; obtain ⟨hcz7_0, hfz7_0, hcz7_1, hfz7_1⟩ := Yt.c2 BK7.out; obtain ⟨hcz9_0, hfz9_0, hcz9_1, hfz9_1⟩ := Yt.c2 BK9.out)))
  refine bodyPost_ret (results_ctt rfl _ _ gb4 69 #[.int .i64 H, .slice (some ⟨gx, 0, none⟩) l.length cx] (0, 0) _ rfl (by (with_reducible repeat (first | refine blk_drewN ?_ _ | refine blk_drew ?_ | refine blk_alloc ?_ _)); refine blk_put (cs := #[.int .i64 H, .slice none 0 0]) ?_ 1 _ rfl; (with_reducible repeat (first | refine blk_drewN ?_ _ | refine blk_drew ?_ | refine blk_alloc ?_ _)); refine blk_put (cs := #[.int .i64 0, .slice none 0 0]) ?_ 0 _ rfl; (with_reducible repeat (first | refine blk_drewN ?_ _ | refine blk_drew ?_ | refine blk_alloc ?_ _)); exact BK4.out) Try.underlying69 rfl (by kernel_rfl)) rfl ?_
  exact ⟨_, rfl, by (with_reducible repeat (first | apply Kd.S_alloc | apply Kd.S_drewN | apply Kd.S_drew)); exact Kd.S_mono (Kd.S_far (p := ⟨gb4, 1, none⟩) (Kd.S_far (p := ⟨gb4, 0, none⟩) (Kd.S_types HSX.out BK4.out (by decide)) (fun _ hk => hk.2) _) (fun _ hk => hk.2) _) (fun _ hk => trivial), by exact bel_ HB.out⟩
/-- the stack that takes what is lifted: the lowest that isn't full (the first of these) -/
def Yt.to (H a : Int) (X : List (List Int)) : List (List Int) → Int → Int → Int
  | [], _, t => t
  | q :: r, i, t => Yt.to H a X r (i + 1) (if (i != a && (decide ((q.length : Int) < H) && (decide (t < 0) || decide ((q.length : Int) < ((rd_L2 X t).length : Int))))) = true then i else t)
/-- the boxes above are lifted; none: there is no place for one -/
def Yt.out (H a : Int) : Nat → List (List Int) → Int → Option (Option (List (List Int) × Int))
  | 0, X, m => some (some (X, m))
  | n + 1, X, m => if (∀ x ∈ X, x.length ≤ 100) then
      (if Yt.to H a X X 0 (-1) < 0 then some none
       else if Yt.to H a X X 0 (-1) < (X.length : Int) ∧ Yt.to H a X X 0 (-1) ≠ a then Yt.out H a n (Yt.lift X a (Yt.to H a X X 0 (-1))) (m + 1) else none)
      else none
theorem Yt.lift_length (X : List (List Int)) (i j : Int) : (Yt.lift X i j).length = X.length := by simp [Yt.lift]
theorem Yt.lift_from (X : List (List Int)) (i j : Int) (h0 : 0 ≤ i) (h1 : i < X.length) : rd_L2 (Yt.lift X i j) i = (rd_L2 X i).take ((rd_L2 X i).length - 1) := by
  have h : i.toNat < X.length := by omega
  simp [Yt.lift, rd_L2, List.getD_eq_getElem?_getD, List.getElem?_set_self, h]

def impl_DoYard.out_.T37 : Bool × List (List Nat × List Nat) := (true, [([], []), ([0], [0]), ([], []), ([], []), ([3], [3]), ([], []), ([4, 5], [4, 5]), ([6], [6]), ([], []), ([7, 8], [7, 8]), ([9], [9]), ([1, 2, 0, 1, 2, 3, 4, 5, 6, 7, 8, 9, 10], [1, 2]), ([11, 10, 10, 0, 1, 2, 3, 4, 5, 6, 7, 8, 9, 10], [10, 11])])
def impl_DoYard.out_.B37 : List Nat := [0, 1, 0, 0, 8, 0, 56, 120, 0, 504, 1016, 2047, 4095]
theorem impl_DoYard.out_.tab37 : rtab .any (opsOf Try.f31 37) = impl_DoYard.out_.T37 := by kernel_rfl
theorem impl_DoYard.out_.bits37 : waitsOk impl_DoYard.out_.T37.2 impl_DoYard.out_.B37 = true := by kernel_rfl
set_option maxHeartbeats 8000000 in
set_option maxRecDepth 100000 in
theorem impl_DoYard.out_none (H : Int) (A : Option Addr) (c : Nat) (l : List (List Int)) (b s : Int) (w : World) (hr0 : Kd.C (Kd.slice 3 (Kd.int .i64)) w A l.length l) (hc0 : l.length ≤ c) (hs1 : l.length ≤ 1000) (hs2 : ∀ x ∈ l, x.length ≤ 100) (hok : impl_YardOk.f H l = some true) (fa ft : Int) (hfb : impl_FindBox.f 50 H l b = some (fa, ft, false)) (hlen : 0 < l.length) :
    Calls Try.prog 31 #[.agg #[.int .i64 H, .slice A l.length c], .agg #[.int .i64 2, .int .i64 b, .int .i64 s]] w fun e w' => ∃ v0_ : Value, e = .returned (.tuple #[.agg #[.int .i64 H, v0_], .int .i64 0, .int .i64 3]) ∧ Kd.S (Kd.slice 3 (Kd.int .i64)) 28 w' w.heap.size (fun _ => True) v0_ l ∧ Below w.heap.size w w' := by
  have hu69 := Try.underlying69
  have hu76 := Try.underlying76
  have HR := Aside0.mk hr0
  have HC := Aside0.mk hc0
  have HS1 := Aside0.mk hs1
  have HS2 := Aside0.mk hs2
  have HF := Aside0.mk (show impl_Yard_own.f H l = some (H, l) from if_pos ⟨hs1, fun x hx => Nat.le_trans (hs2 x hx) (by omega)⟩)
  clear hr0 hc0 hs1 hs2
  obtain ⟨nn, hnn⟩ : ∃ nn : Int, nn = (l.length : Int) - 1 := ⟨_, rfl⟩
  have hwn : wrap64 ((l.length : Int) - 1) = nn := by rw [← hnn]; exact impl_YardOk.w64 (by omega) (by have := HS1.out; omega)
  have HNN := Aside0.mk hnn
  clear hnn
  have HOK := Aside0.mk hok
  clear hok
  have HFB := Aside0.mk hfb
  have HLEN := Aside0.mk hlen
  clear hfb hlen
  have AK := Aside0.mk (show impl_in.f 2 1 3 = some true from rfl)
  have HB := Aside0.mk (Below.refl w.heap.size w)
  go_enter Try.func31, Try.ntmps31
  go_upto_region 2 with (first | ((with_reducible refine gate_dst (N := 2) rfl ?_); refine box_event ?hg (N := 2) ?hd (cs := #[.int .i64 H, .slice A l.length c]) (t := 69) ?hr ?_; (case hd => rfl); (case hg => rfl); (case hr => first | (go_simp; done) | (go_simp; rfl)); intro gb2 hg w2 hbox hb; have q1_ := Aside0.mk hbox; have q2_ := Aside0.mk ((by rw [hg]; exact (below_size (by exact bel_ HB.out))) : w.heap.size ≤ gb2); have n0_ := Aside0.mk (below_step (by exact bel_ HB.out) hb); clear HB; have HB := n0_; clear n0_; have BK2 := q1_; have GE2 := q2_; clear q1_ q2_; clear hb hbox hg; obtain ⟨hcz2_0, hfz2_0, hcz2_1, hfz2_1⟩ := Yt.c2 BK2.out) | ((with_reducible refine gate_dst (N := 3) rfl ?_); refine box_event ?hg (N := 3) ?hd (cs := #[.int .i64 2, .int .i64 b, .int .i64 s]) (t := 76) ?hr ?_; (case hd => rfl); (case hg => rfl); (case hr => first | (go_simp; done) | (go_simp; rfl)); intro gb3 hg w3 hbox hb; have q1_ := Aside0.mk hbox; have q2_ := Aside0.mk ((by rw [hg]; exact (below_size (by exact bel_ HB.out))) : w.heap.size ≤ gb3); have NB2_3 := Aside0.mk (nl_ BK2.out hg); have n0_ := Aside0.mk (below_step (by exact bel_ HB.out) hb); have m2_ := Aside0.mk (bb_ BK2.out hb); clear HB; have HB := n0_; clear n0_; clear BK2; have BK2 := m2_; clear m2_; have BK3 := q1_; have GE3 := q2_; clear q1_ q2_; clear hb hbox hg; obtain ⟨hcz2_0, hfz2_0, hcz2_1, hfz2_1⟩ := Yt.c2 BK2.out; obtain ⟨hcz3_0, hfz3_0, hcz3_1, hfz3_1, hcz3_2, hfz3_2⟩ := Yt.c3 BK3.out; have hnb2_3 := NB2_3.out; have hnc2_3 := Ne.symm NB2_3.out) | ((with_reducible refine gate_dst (N := 4) rfl ?_); refine box_event ?hg (N := 4) ?hd (cs := #[.int .i64 0, .slice none 0 0]) (t := 69) ?hr ?_; (case hd => rfl); (case hg => rfl); (case hr => first | (go_simp; done) | (go_simp; rfl)); intro gb4 hg w4 hbox hb; have q1_ := Aside0.mk hbox; have q2_ := Aside0.mk ((by rw [hg]; exact (below_size (by exact bel_ HB.out))) : w.heap.size ≤ gb4); have NB2_4 := Aside0.mk (nl_ BK2.out hg); have NB3_4 := Aside0.mk (nl_ BK3.out hg); have n0_ := Aside0.mk (below_step (by exact bel_ HB.out) hb); have m2_ := Aside0.mk (bb_ BK2.out hb); have m3_ := Aside0.mk (bb_ BK3.out hb); clear HB; have HB := n0_; clear n0_; clear BK2; have BK2 := m2_; clear m2_; clear BK3; have BK3 := m3_; clear m3_; have BK4 := q1_; have GE4 := q2_; clear q1_ q2_; clear hb hbox hg; obtain ⟨hcz2_0, hfz2_0, hcz2_1, hfz2_1⟩ := Yt.c2 BK2.out; obtain ⟨hcz3_0, hfz3_0, hcz3_1, hfz3_1, hcz3_2, hfz3_2⟩ := Yt.c3 BK3.out; obtain ⟨hcz4_0, hfz4_0, hcz4_1, hfz4_1⟩ := Yt.c2 BK4.out; have hnb2_4 := NB2_4.out; have hnc2_4 := Ne.symm NB2_4.out; have hnb3_4 := NB3_4.out; have hnc3_4 := Ne.symm NB3_4.out) | ((with_reducible refine gate_callee (f := 71) rfl ?_); refine goesL_ (some 18) rfl rfl Try.func71 (by kernel_rfl) rfl #[.agg #[.int .i64 H, .slice A l.length c]] rfl (by (try simp only [List.map_toArray, List.map_cons, List.map_nil]); first | done | rfl) ?_; (with_reducible refine (impl_Yard_own.calls H A c l H l _ ?side1 HC.out HF.out).mono ?_); (case side1 => exact Kd.C_below HR.out (by exact bel_ HB.out)); rintro e w18 ⟨v18, rfl, hS, hb⟩; refine ⟨_, rfl, ?_⟩; obtain ⟨Aw, cw, ew⟩ := Kd.S_slice hS; subst ew; have HSW := Aside0.mk (Kd.S_lower hS (below_size (by exact bel_ HB.out))); have n0_ := Aside0.mk (below_step (by exact bel_ HB.out) hb); have m2_ := Aside0.mk (bb_ BK2.out hb); have m3_ := Aside0.mk (bb_ BK3.out hb); have m4_ := Aside0.mk (bb_ BK4.out hb); clear HB; have HB := n0_; clear n0_; clear BK2; have BK2 := m2_; clear m2_; clear BK3; have BK3 := m3_; clear m3_; clear BK4; have BK4 := m4_; clear m4_; clear hb hS; obtain ⟨hcz2_0, hfz2_0, hcz2_1, hfz2_1⟩ := Yt.c2 BK2.out; obtain ⟨hcz3_0, hfz3_0, hcz3_1, hfz3_1, hcz3_2, hfz3_2⟩ := Yt.c3 BK3.out; obtain ⟨hcz4_0, hfz4_0, hcz4_1, hfz4_1⟩ := Yt.c2 BK4.out) | ((with_reducible refine gate_dst (N := 7) rfl ?_); refine box_event ?hg (N := 7) ?hd (cs := #[.int .i64 0, .slice none 0 0]) (t := 69) ?hr ?_; (case hd => rfl); (case hg => rfl); (case hr => first | (go_simp; done) | (go_simp; rfl)); intro gb7 hg w7 hbox hb; have q1_ := Aside0.mk hbox; have q2_ := Aside0.mk ((by rw [hg]; exact (below_size (by exact bel_ HB.out))) : w.heap.size ≤ gb7); have NB2_7 := Aside0.mk (nl_ BK2.out hg); have NB3_7 := Aside0.mk (nl_ BK3.out hg); have NB4_7 := Aside0.mk (nl_ BK4.out hg); have n0_ := Aside0.mk (below_step (by exact bel_ HB.out) hb); have m2_ := Aside0.mk (bb_ BK2.out hb); have m3_ := Aside0.mk (bb_ BK3.out hb); have m4_ := Aside0.mk (bb_ BK4.out hb); have mHSW_ := Aside0.mk (Yt.sb HSW.out hb); clear HB; have HB := n0_; clear n0_; clear BK2; have BK2 := m2_; clear m2_; clear BK3; have BK3 := m3_; clear m3_; clear BK4; have BK4 := m4_; clear m4_; clear HSW; have HSW := mHSW_; clear mHSW_; have BK7 := q1_; have GE7 := q2_; clear q1_ q2_; clear hb hbox hg; obtain ⟨hcz2_0, hfz2_0, hcz2_1, hfz2_1⟩ := Yt.c2 BK2.out; obtain ⟨hcz3_0, hfz3_0, hcz3_1, hfz3_1, hcz3_2, hfz3_2⟩ := Yt.c3 BK3.out; obtain ⟨hcz4_0, hfz4_0, hcz4_1, hfz4_1⟩ := Yt.c2 BK4.out; obtain ⟨hcz7_0, hfz7_0, hcz7_1, hfz7_1⟩ := Yt.c2 BK7.out; have hnb2_7 := NB2_7.out; have hnc2_7 := Ne.symm NB2_7.out; have hnb3_7 := NB3_7.out; have hnc3_7 := Ne.symm NB3_7.out; have hnb4_7 := NB4_7.out; have hnc4_7 := Ne.symm NB4_7.out))
  (try simp only [Act.put, List.setIfInBounds_toArray, List.set_cons_zero, List.set_cons_succ])
  have b7_ : ((w7.setCell ⟨gb7, 0, none⟩ (.int .i64 H)).setCell ⟨gb7, 1, none⟩ (.slice Aw l.length cw)).heap[gb7]? = some (.cells #[.int .i64 H, .slice Aw l.length cw] 69 (0, 0)) := blk_put (cs := #[.int .i64 H, .slice none 0 0]) (blk_put (cs := #[.int .i64 0, .slice none 0 0]) BK7.out 0 _ rfl) 1 _ rfl
  have b2_ : ((w7.setCell ⟨gb7, 0, none⟩ (.int .i64 H)).setCell ⟨gb7, 1, none⟩ (.slice Aw l.length cw)).heap[gb2]? = some (.cells #[.int .i64 H, .slice A l.length c] 69 (0, 0)) := blk_far (blk_far BK2.out NB2_7.out _) NB2_7.out _
  have b3_ : ((w7.setCell ⟨gb7, 0, none⟩ (.int .i64 H)).setCell ⟨gb7, 1, none⟩ (.slice Aw l.length cw)).heap[gb3]? = some (.cells #[.int .i64 2, .int .i64 b, .int .i64 s] 76 (0, 0)) := blk_far (blk_far BK3.out NB3_7.out _) NB3_7.out _
  have b4_ : ((w7.setCell ⟨gb7, 0, none⟩ (.int .i64 H)).setCell ⟨gb7, 1, none⟩ (.slice Aw l.length cw)).heap[gb4]? = some (.cells #[.int .i64 0, .slice none 0 0] 69 (0, 0)) := blk_far (blk_far BK4.out NB4_7.out _) NB4_7.out _
  have sHSW_ := Kd.S_mono (Kd.S_far (p := ⟨gb7, 1, none⟩) (Kd.S_far (p := ⟨gb7, 0, none⟩) (Kd.S_types HSW.out BK7.out (by decide)) (fun _ hk => hk.2) (.int .i64 H)) (fun _ hk => hk.2) (.slice Aw l.length cw)) (fun _ hk => hk.1)
  have hb_ : Below w.heap.size w ((w7.setCell ⟨gb7, 0, none⟩ (.int .i64 H)).setCell ⟨gb7, 1, none⟩ (.slice Aw l.length cw)) := below_set (below_set HB.out GE7.out) GE7.out
  try clear hcz2_0 hfz2_0 hcz2_1 hfz2_1
  try clear hcz3_0 hfz3_0 hcz3_1 hfz3_1 hcz3_2 hfz3_2
  try clear hcz4_0 hfz4_0 hcz4_1 hfz4_1
  try clear hcz7_0 hfz7_0 hcz7_1 hfz7_1
  try clear hnb2_3 hnc2_3 hnb2_4 hnc2_4 hnb2_7 hnc2_7 hnb3_4 hnc3_4 hnb3_7 hnc3_7 hnb4_7 hnc4_7
  generalize (w7.setCell ⟨gb7, 0, none⟩ (.int .i64 H)).setCell ⟨gb7, 1, none⟩ (.slice Aw l.length cw) = w8 at b2_ b3_ b4_ b7_ sHSW_ hb_ ⊢
  clear HB BK2 BK3 BK4 BK7 HSW
  have HB := Aside0.mk hb_
  clear hb_
  have BK2 := Aside0.mk b2_
  clear b2_
  have BK3 := Aside0.mk b3_
  clear b3_
  have BK4 := Aside0.mk b4_
  clear b4_
  have BK7 := Aside0.mk b7_
  clear b7_
  have HSW := Aside0.mk sHSW_
  clear sHSW_
  obtain ⟨hcz2_0, hfz2_0, hcz2_1, hfz2_1⟩ := Yt.c2 BK2.out; obtain ⟨hcz3_0, hfz3_0, hcz3_1, hfz3_1, hcz3_2, hfz3_2⟩ := Yt.c3 BK3.out; obtain ⟨hcz4_0, hfz4_0, hcz4_1, hfz4_1⟩ := Yt.c2 BK4.out; obtain ⟨hcz7_0, hfz7_0, hcz7_1, hfz7_1⟩ := Yt.c2 BK7.out
  have hnb2_3 := NB2_3.out; have hnc2_3 := Ne.symm NB2_3.out
  have hnb2_4 := NB2_4.out; have hnc2_4 := Ne.symm NB2_4.out
  have hnb2_7 := NB2_7.out; have hnc2_7 := Ne.symm NB2_7.out
  have hnb3_4 := NB3_4.out; have hnc3_4 := Ne.symm NB3_4.out
  have hnb3_7 := NB3_7.out; have hnc3_7 := Ne.symm NB3_7.out
  have hnb4_7 := NB4_7.out; have hnc4_7 := Ne.symm NB4_7.out
  go_upto_region 5 with (first | ((with_reducible refine gate_callee (f := 32) rfl ?_); refine goesL_ (some 24) rfl rfl Try.func32 (by kernel_rfl) rfl #[.agg #[.int .i64 H, .slice A l.length c]] rfl (by (try simp only [List.map_toArray, List.map_cons, List.map_nil]); first | done | rfl) ?_; (with_reducible refine (impl_YardOk.calls H A c l true _ ?side1 HC.out HOK.out).mono ?_); (case side1 => exact Kd.C_below HR.out (by exact bel_ HB.out)); rintro e w24 ⟨rfl, hb⟩; refine ⟨_, rfl, ?_⟩; have n0_ := Aside0.mk (below_step (by exact bel_ HB.out) hb); have m2_ := Aside0.mk (bb_ BK2.out hb); have m3_ := Aside0.mk (bb_ BK3.out hb); have m4_ := Aside0.mk (bb_ BK4.out hb); have m7_ := Aside0.mk (bb_ BK7.out hb); have mHSW_ := Aside0.mk (Yt.sb HSW.out hb); clear HB; have HB := n0_; clear n0_; clear BK2; have BK2 := m2_; clear m2_; clear BK3; have BK3 := m3_; clear m3_; clear BK4; have BK4 := m4_; clear m4_; clear BK7; have BK7 := m7_; clear m7_; clear HSW; have HSW := mHSW_; clear mHSW_; clear hb; obtain ⟨hcz2_0, hfz2_0, hcz2_1, hfz2_1⟩ := Yt.c2 BK2.out; obtain ⟨hcz3_0, hfz3_0, hcz3_1, hfz3_1, hcz3_2, hfz3_2⟩ := Yt.c3 BK3.out; obtain ⟨hcz4_0, hfz4_0, hcz4_1, hfz4_1⟩ := Yt.c2 BK4.out; obtain ⟨hcz7_0, hfz7_0, hcz7_1, hfz7_1⟩ := Yt.c2 BK7.out) | (go_at_call 48; (with_reducible refine (impl_in.calls 2 1 3 true _ AK.out).mono ?_); rintro e w' ⟨rfl, ⟨nd, rfl⟩⟩; (try first | exact ⟨rfl, _, World.drewN_drewN _ _ _⟩ | exact ⟨rfl, _, Eq.trans (World.drewN_drewN _ _ _) (congrArg (World.drewN _) (Nat.add_assoc _ _ _))⟩)))
  repeat (go_quiet (first | (go_at_call 48; (with_reducible refine (impl_in.calls 2 1 3 true _ AK.out).mono ?_); rintro e w' ⟨rfl, ⟨nd, rfl⟩⟩; (try first | exact ⟨rfl, _, World.drewN_drewN _ _ _⟩ | exact ⟨rfl, _, Eq.trans (World.drewN_drewN _ _ _) (congrArg (World.drewN _) (Nat.add_assoc _ _ _))⟩))); try go_upto_region 5 with (first | (go_at_call 48; (with_reducible refine (impl_in.calls 2 1 3 true _ AK.out).mono ?_); rintro e w' ⟨rfl, ⟨nd, rfl⟩⟩; (try first | exact ⟨rfl, _, World.drewN_drewN _ _ _⟩ | exact ⟨rfl, _, Eq.trans (World.drewN_drewN _ _ _) (congrArg (World.drewN _) (Nat.add_assoc _ _ _))⟩))))
  (try simp only [Act.put, List.setIfInBounds_toArray, List.set_cons_zero, List.set_cons_succ])
  obtain ⟨M, hM⟩ : ∃ M, M = w24.heap.size := ⟨_, rfl⟩
  have HM := Aside0.mk hM
  have HMW : Aside0 (w.heap.size ≤ M) := ⟨by rw [hM]; exact HB.out.size⟩
  clear hM
  go_upto_region 6 with (first | ((with_reducible refine gate_callee (f := 71) rfl ?_); refine goesL_ (some 76) rfl rfl Try.func71 (by kernel_rfl) rfl #[.agg #[.int .i64 H, .slice A l.length c]] rfl (by (try simp only [List.map_toArray, List.map_cons, List.map_nil]); first | done | rfl) ?_; (with_reducible refine (impl_Yard_own.calls H A c l H l _ ?side1 HC.out HF.out).mono ?_); (case side1 => exact Kd.C_below HR.out (by exact bel_ HB.out)); rintro e w76 ⟨v76, rfl, hS, hb⟩; refine ⟨_, rfl, ?_⟩; obtain ⟨gx, cx, ex, hgx, hgl, _⟩ := Kd.S_form hS HLEN.out; subst ex; have HGX : Aside0 (M ≤ gx) := ⟨by rw [HM.out]; exact hgx⟩; have mW_ := Aside0.mk (Kd.S_below (Kd.S_mono (ok' := fun k => k < M) (Kd.S_bound (Yt.sp HSW.out)) (fun k hk => by rw [HM.out]; exact hk.2.2.1)) hb); have HSX := Aside0.mk (Kd.S_lower (Kd.S_mono (ok' := fun k => M ≤ k) (Kd.S_bound hS) (fun k hk => by rw [HM.out]; exact hk.2.1)) (below_size (by exact bel_ HB.out))); have n0_ := Aside0.mk (below_step (by exact bel_ HB.out) hb); have m2_ := Aside0.mk (bb_ BK2.out hb); have m3_ := Aside0.mk (bb_ BK3.out hb); have m4_ := Aside0.mk (bb_ BK4.out hb); have m7_ := Aside0.mk (bb_ BK7.out hb); clear HB; have HB := n0_; clear n0_; clear BK2; have BK2 := m2_; clear m2_; clear BK3; have BK3 := m3_; clear m3_; clear BK4; have BK4 := m4_; clear m4_; clear BK7; have BK7 := m7_; clear m7_; clear HSW; have HSW := mW_; clear mW_; clear hb hS hgx hgl; obtain ⟨hcz2_0, hfz2_0, hcz2_1, hfz2_1⟩ := Yt.c2 BK2.out; obtain ⟨hcz3_0, hfz3_0, hcz3_1, hfz3_1, hcz3_2, hfz3_2⟩ := Yt.c3 BK3.out; obtain ⟨hcz4_0, hfz4_0, hcz4_1, hfz4_1⟩ := Yt.c2 BK4.out; obtain ⟨hcz7_0, hfz7_0, hcz7_1, hfz7_1⟩ := Yt.c2 BK7.out) | ((with_reducible refine gate_dst (N := 9) rfl ?_); refine box_event ?hg (N := 9) ?hd (cs := #[.int .i64 0, .slice none 0 0]) (t := 69) ?hr ?_; (case hd => rfl); (case hg => rfl); (case hr => first | (go_simp; done) | (go_simp; rfl)); intro gb9 hg w9 hbox hb; have q1_ := Aside0.mk hbox; have q2_ := Aside0.mk ((by rw [hg]; exact (below_size (by exact bel_ HB.out))) : w.heap.size ≤ gb9); have NB2_9 := Aside0.mk (nl_ BK2.out hg); have NB3_9 := Aside0.mk (nl_ BK3.out hg); have NB4_9 := Aside0.mk (nl_ BK4.out hg); have NB7_9 := Aside0.mk (nl_ BK7.out hg); have n0_ := Aside0.mk (below_step (by exact bel_ HB.out) hb); have m2_ := Aside0.mk (bb_ BK2.out hb); have m3_ := Aside0.mk (bb_ BK3.out hb); have m4_ := Aside0.mk (bb_ BK4.out hb); have m7_ := Aside0.mk (bb_ BK7.out hb); have mHSW_ := Aside0.mk (Yt.sb HSW.out hb); have mHSX_ := Aside0.mk (Yt.sb HSX.out hb); clear HB; have HB := n0_; clear n0_; clear BK2; have BK2 := m2_; clear m2_; clear BK3; have BK3 := m3_; clear m3_; clear BK4; have BK4 := m4_; clear m4_; clear BK7; have BK7 := m7_; clear m7_; clear HSW; have HSW := mHSW_; clear mHSW_; clear HSX; have HSX := mHSX_; clear mHSX_; have BK9 := q1_; have GE9 := q2_; clear q1_ q2_; clear hb hbox hg; obtain ⟨hcz2_0, hfz2_0, hcz2_1, hfz2_1⟩ := Yt.c2 BK2.out; obtain ⟨hcz3_0, hfz3_0, hcz3_1, hfz3_1, hcz3_2, hfz3_2⟩ := Yt.c3 BK3.out; obtain ⟨hcz4_0, hfz4_0, hcz4_1, hfz4_1⟩ := Yt.c2 BK4.out; obtain ⟨hcz7_0, hfz7_0, hcz7_1, hfz7_1⟩ := Yt.c2 BK7.out; obtain ⟨hcz9_0, hfz9_0, hcz9_1, hfz9_1⟩ := Yt.c2 BK9.out; have hnb2_9 := NB2_9.out; have hnc2_9 := Ne.symm NB2_9.out; have hnb3_9 := NB3_9.out; have hnc3_9 := Ne.symm NB3_9.out; have hnb4_9 := NB4_9.out; have hnc4_9 := Ne.symm NB4_9.out; have hnb7_9 := NB7_9.out; have hnc7_9 := Ne.symm NB7_9.out))
  (try simp only [Act.put, List.setIfInBounds_toArray, List.set_cons_zero, List.set_cons_succ])
  have b9_ : ((w9.setCell ⟨gb9, 0, none⟩ (.int .i64 H)).setCell ⟨gb9, 1, none⟩ (.slice (some ⟨gx, 0, none⟩) l.length cx)).heap[gb9]? = some (.cells #[.int .i64 H, .slice (some ⟨gx, 0, none⟩) l.length cx] 69 (0, 0)) := blk_put (cs := #[.int .i64 H, .slice none 0 0]) (blk_put (cs := #[.int .i64 0, .slice none 0 0]) BK9.out 0 _ rfl) 1 _ rfl
  have b2_ : ((w9.setCell ⟨gb9, 0, none⟩ (.int .i64 H)).setCell ⟨gb9, 1, none⟩ (.slice (some ⟨gx, 0, none⟩) l.length cx)).heap[gb2]? = some (.cells #[.int .i64 H, .slice A l.length c] 69 (0, 0)) := blk_far (blk_far BK2.out NB2_9.out _) NB2_9.out _
  have b3_ : ((w9.setCell ⟨gb9, 0, none⟩ (.int .i64 H)).setCell ⟨gb9, 1, none⟩ (.slice (some ⟨gx, 0, none⟩) l.length cx)).heap[gb3]? = some (.cells #[.int .i64 2, .int .i64 b, .int .i64 s] 76 (0, 0)) := blk_far (blk_far BK3.out NB3_9.out _) NB3_9.out _
  have b4_ : ((w9.setCell ⟨gb9, 0, none⟩ (.int .i64 H)).setCell ⟨gb9, 1, none⟩ (.slice (some ⟨gx, 0, none⟩) l.length cx)).heap[gb4]? = some (.cells #[.int .i64 0, .slice none 0 0] 69 (0, 0)) := blk_far (blk_far BK4.out NB4_9.out _) NB4_9.out _
  have b7_ : ((w9.setCell ⟨gb9, 0, none⟩ (.int .i64 H)).setCell ⟨gb9, 1, none⟩ (.slice (some ⟨gx, 0, none⟩) l.length cx)).heap[gb7]? = some (.cells #[.int .i64 H, .slice Aw l.length cw] 69 (0, 0)) := blk_far (blk_far BK7.out NB7_9.out _) NB7_9.out _
  have sHSW_ := Kd.S_mono (Kd.S_far (p := ⟨gb9, 1, none⟩) (Kd.S_far (p := ⟨gb9, 0, none⟩) (Kd.S_types HSW.out BK9.out (by decide)) (fun _ hk => hk.2) (.int .i64 H)) (fun _ hk => hk.2) (.slice (some ⟨gx, 0, none⟩) l.length cx)) (fun _ hk => hk.1)
  have sHSX_ := Kd.S_mono (Kd.S_far (p := ⟨gb9, 1, none⟩) (Kd.S_far (p := ⟨gb9, 0, none⟩) (Kd.S_types HSX.out BK9.out (by decide)) (fun _ hk => hk.2) (.int .i64 H)) (fun _ hk => hk.2) (.slice (some ⟨gx, 0, none⟩) l.length cx)) (fun _ hk => hk.1)
  have hb_ : Below w.heap.size w ((w9.setCell ⟨gb9, 0, none⟩ (.int .i64 H)).setCell ⟨gb9, 1, none⟩ (.slice (some ⟨gx, 0, none⟩) l.length cx)) := below_set (below_set HB.out GE9.out) GE9.out
  try clear hcz2_0 hfz2_0 hcz2_1 hfz2_1
  try clear hcz3_0 hfz3_0 hcz3_1 hfz3_1 hcz3_2 hfz3_2
  try clear hcz4_0 hfz4_0 hcz4_1 hfz4_1
  try clear hcz7_0 hfz7_0 hcz7_1 hfz7_1
  try clear hcz9_0 hfz9_0 hcz9_1 hfz9_1
  try clear hnb2_3 hnc2_3 hnb2_4 hnc2_4 hnb2_7 hnc2_7 hnb2_9 hnc2_9 hnb3_4 hnc3_4 hnb3_7 hnc3_7 hnb3_9 hnc3_9 hnb4_7 hnc4_7 hnb4_9 hnc4_9 hnb7_9 hnc7_9
  generalize (w9.setCell ⟨gb9, 0, none⟩ (.int .i64 H)).setCell ⟨gb9, 1, none⟩ (.slice (some ⟨gx, 0, none⟩) l.length cx) = w10 at b2_ b3_ b4_ b7_ b9_ sHSW_ sHSX_ hb_ ⊢
  clear HB BK2 BK3 BK4 BK7 BK9 HSW HSX
  have HB := Aside0.mk hb_
  clear hb_
  have BK2 := Aside0.mk b2_
  clear b2_
  have BK3 := Aside0.mk b3_
  clear b3_
  have BK4 := Aside0.mk b4_
  clear b4_
  have BK7 := Aside0.mk b7_
  clear b7_
  have BK9 := Aside0.mk b9_
  clear b9_
  have HSW := Aside0.mk sHSW_
  clear sHSW_
  have HSX := Aside0.mk sHSX_
  clear sHSX_
  obtain ⟨hcz2_0, hfz2_0, hcz2_1, hfz2_1⟩ := Yt.c2 BK2.out; obtain ⟨hcz3_0, hfz3_0, hcz3_1, hfz3_1, hcz3_2, hfz3_2⟩ := Yt.c3 BK3.out; obtain ⟨hcz4_0, hfz4_0, hcz4_1, hfz4_1⟩ := Yt.c2 BK4.out; obtain ⟨hcz7_0, hfz7_0, hcz7_1, hfz7_1⟩ := Yt.c2 BK7.out; obtain ⟨hcz9_0, hfz9_0, hcz9_1, hfz9_1⟩ := Yt.c2 BK9.out
  have hnb2_3 := NB2_3.out; have hnc2_3 := Ne.symm NB2_3.out
  have hnb2_4 := NB2_4.out; have hnc2_4 := Ne.symm NB2_4.out
  have hnb2_7 := NB2_7.out; have hnc2_7 := Ne.symm NB2_7.out
  have hnb2_9 := NB2_9.out; have hnc2_9 := Ne.symm NB2_9.out
  have hnb3_4 := NB3_4.out; have hnc3_4 := Ne.symm NB3_4.out
  have hnb3_7 := NB3_7.out; have hnc3_7 := Ne.symm NB3_7.out
  have hnb3_9 := NB3_9.out; have hnc3_9 := Ne.symm NB3_9.out
  have hnb4_7 := NB4_7.out; have hnc4_7 := Ne.symm NB4_7.out
  have hnb4_9 := NB4_9.out; have hnc4_9 := Ne.symm NB4_9.out
  have hnb7_9 := NB7_9.out; have hnc7_9 := Ne.symm NB7_9.out
  go_upto_region 7 with (first | ((with_reducible refine gate_callee (f := 30) rfl ?_); refine goesL_ (some 81) rfl rfl Try.func30 (by kernel_rfl) rfl #[.agg #[.int .i64 H, .slice A l.length c], .int .i64 b] rfl (by (try simp only [List.map_toArray, List.map_cons, List.map_nil]); first | done | rfl) ?_; (with_reducible refine (impl_FindBox.calls 50 H A c l b fa ft false _ ?side1 HC.out HFB.out).mono ?_); (case side1 => exact Kd.C_below HR.out (by exact bel_ HB.out)); rintro e w81 ⟨rfl, hb⟩; refine ⟨_, rfl, ?_⟩; have n0_ := Aside0.mk (below_step (by exact bel_ HB.out) hb); have m2_ := Aside0.mk (bb_ BK2.out hb); have m3_ := Aside0.mk (bb_ BK3.out hb); have m4_ := Aside0.mk (bb_ BK4.out hb); have m7_ := Aside0.mk (bb_ BK7.out hb); have m9_ := Aside0.mk (bb_ BK9.out hb); have mHSW_ := Aside0.mk (Yt.sb HSW.out hb); have mHSX_ := Aside0.mk (Yt.sb HSX.out hb); clear HB; have HB := n0_; clear n0_; clear BK2; have BK2 := m2_; clear m2_; clear BK3; have BK3 := m3_; clear m3_; clear BK4; have BK4 := m4_; clear m4_; clear BK7; have BK7 := m7_; clear m7_; clear BK9; have BK9 := m9_; clear m9_; clear HSW; have HSW := mHSW_; clear mHSW_; clear HSX; have HSX := mHSX_; clear mHSX_; clear hb; obtain ⟨hcz2_0, hfz2_0, hcz2_1, hfz2_1⟩ := Yt.c2 BK2.out; obtain ⟨hcz3_0, hfz3_0, hcz3_1, hfz3_1, hcz3_2, hfz3_2⟩ := Yt.c3 BK3.out; obtain ⟨hcz4_0, hfz4_0, hcz4_1, hfz4_1⟩ := Yt.c2 BK4.out; obtain ⟨hcz7_0, hfz7_0, hcz7_1, hfz7_1⟩ := Yt.c2 BK7.out; obtain ⟨hcz9_0, hfz9_0, hcz9_1, hfz9_1⟩ := Yt.c2 BK9.out))
  (try simp only [Act.put, List.setIfInBounds_toArray, List.set_cons_zero, List.set_cons_succ])
  go_wp2
  refine bodyPost_ret (results_ctt rfl _ _ gb4 69 #[.int .i64 H, .slice Aw l.length cw] (0, 0) _ rfl (by (with_reducible repeat (first | refine blk_drewN ?_ _ | refine blk_drew ?_ | refine blk_alloc ?_ _)); refine blk_put (cs := #[.int .i64 H, .slice none 0 0]) ?_ 1 _ rfl; (with_reducible repeat (first | refine blk_drewN ?_ _ | refine blk_drew ?_ | refine blk_alloc ?_ _)); refine blk_put (cs := #[.int .i64 0, .slice none 0 0]) ?_ 0 _ rfl; (with_reducible repeat (first | refine blk_drewN ?_ _ | refine blk_drew ?_ | refine blk_alloc ?_ _)); exact BK4.out) Try.underlying69 rfl (by kernel_rfl)) rfl ?_
  exact ⟨_, rfl, by (with_reducible repeat (first | apply Kd.S_alloc | apply Kd.S_drewN | apply Kd.S_drew)); exact Kd.S_mono (Kd.S_far (p := ⟨gb4, 1, none⟩) (Kd.S_far (p := ⟨gb4, 0, none⟩) (Kd.S_types HSW.out BK4.out (by decide)) (fun _ hk => hk.2) _) (fun _ hk => hk.2) _) (fun _ hk => trivial), by exact bel_ HB.out⟩
set_option maxHeartbeats 8000000 in
set_option maxRecDepth 100000 in
theorem impl_DoYard.out_done (H : Int) (A : Option Addr) (c : Nat) (l : List (List Int)) (b s : Int) (w : World) (hr0 : Kd.C (Kd.slice 3 (Kd.int .i64)) w A l.length l) (hc0 : l.length ≤ c) (hs1 : l.length ≤ 1000) (hs2 : ∀ x ∈ l, x.length ≤ 100) (hok : impl_YardOk.f H l = some true) (fa ft : Int) (hfb : impl_FindBox.f 50 H l b = some (fa, ft, true)) (hlen : 0 < l.length) (ha0 : 0 ≤ fa) (ha1 : fa < (l.length : Int)) (ht0 : 0 ≤ ft) (n0 : Nat) (hn0 : ((rd_L2 l fa).length : Int) = ft + 1 + n0) (hn1 : n0 ≤ 100) (hft : ft ≤ 100) (R : Option (List (List Int) × Int)) (hout : Yt.out H fa n0 l 0 = some R) (r2 : List (List Int)) (r3 r4 : Int) (hR : (R = none ∧ r2 = l ∧ r3 = 0 ∧ r4 = 4) ∨ (∃ Xf mf, R = some (Xf, mf) ∧ r2 = Xf.set fa.toNat ((rd_L2 Xf fa).take ft.toNat) ∧ r3 = mf ∧ r4 = 0)) :
    Calls Try.prog 31 #[.agg #[.int .i64 H, .slice A l.length c], .agg #[.int .i64 2, .int .i64 b, .int .i64 s]] w fun e w' => ∃ v0_ : Value, e = .returned (.tuple #[.agg #[.int .i64 H, v0_], .int .i64 r3, .int .i64 r4]) ∧ Kd.S (Kd.slice 3 (Kd.int .i64)) 28 w' w.heap.size (fun _ => True) v0_ r2 ∧ Below w.heap.size w w' := by
  have hu69 := Try.underlying69
  have hu76 := Try.underlying76
  have HR := Aside0.mk hr0
  have HC := Aside0.mk hc0
  have HS1 := Aside0.mk hs1
  have HS2 := Aside0.mk hs2
  have HF := Aside0.mk (show impl_Yard_own.f H l = some (H, l) from if_pos ⟨hs1, fun x hx => Nat.le_trans (hs2 x hx) (by omega)⟩)
  clear hr0 hc0 hs1 hs2
  obtain ⟨nn, hnn⟩ : ∃ nn : Int, nn = (l.length : Int) - 1 := ⟨_, rfl⟩
  have hwn : wrap64 ((l.length : Int) - 1) = nn := by rw [← hnn]; exact impl_YardOk.w64 (by omega) (by have := HS1.out; omega)
  have HNN := Aside0.mk hnn
  clear hnn
  have HOK := Aside0.mk hok
  clear hok
  have HFB := Aside0.mk hfb
  have HLEN := Aside0.mk hlen
  clear hfb hlen
  have AK := Aside0.mk (show impl_in.f 2 1 3 = some true from rfl)
  have HN0 := Aside0.mk hn0
  have HN1 := Aside0.mk hn1
  have HFT := Aside0.mk hft
  have HOUT := Aside0.mk hout
  have HRR := Aside0.mk hR
  clear hn0 hn1 hft hout hR
  have HB := Aside0.mk (Below.refl w.heap.size w)
  go_enter Try.func31, Try.ntmps31
  go_upto_region 2 with (first | ((with_reducible refine gate_dst (N := 2) rfl ?_); refine box_event ?hg (N := 2) ?hd (cs := #[.int .i64 H, .slice A l.length c]) (t := 69) ?hr ?_; (case hd => rfl); (case hg => rfl); (case hr => first | (go_simp; done) | (go_simp; rfl)); intro gb2 hg w2 hbox hb; have q1_ := Aside0.mk hbox; have q2_ := Aside0.mk ((by rw [hg]; exact (below_size (by exact bel_ HB.out))) : w.heap.size ≤ gb2); have n0_ := Aside0.mk (below_step (by exact bel_ HB.out) hb); clear HB; have HB := n0_; clear n0_; have BK2 := q1_; have GE2 := q2_; clear q1_ q2_; clear hb hbox hg; obtain ⟨hcz2_0, hfz2_0, hcz2_1, hfz2_1⟩ := Yt.c2 BK2.out) | ((with_reducible refine gate_dst (N := 3) rfl ?_); refine box_event ?hg (N := 3) ?hd (cs := #[.int .i64 2, .int .i64 b, .int .i64 s]) (t := 76) ?hr ?_; (case hd => rfl); (case hg => rfl); (case hr => first | (go_simp; done) | (go_simp; rfl)); intro gb3 hg w3 hbox hb; have q1_ := Aside0.mk hbox; have q2_ := Aside0.mk ((by rw [hg]; exact (below_size (by exact bel_ HB.out))) : w.heap.size ≤ gb3); have NB2_3 := Aside0.mk (nl_ BK2.out hg); have n0_ := Aside0.mk (below_step (by exact bel_ HB.out) hb); have m2_ := Aside0.mk (bb_ BK2.out hb); clear HB; have HB := n0_; clear n0_; clear BK2; have BK2 := m2_; clear m2_; have BK3 := q1_; have GE3 := q2_; clear q1_ q2_; clear hb hbox hg; obtain ⟨hcz2_0, hfz2_0, hcz2_1, hfz2_1⟩ := Yt.c2 BK2.out; obtain ⟨hcz3_0, hfz3_0, hcz3_1, hfz3_1, hcz3_2, hfz3_2⟩ := Yt.c3 BK3.out; have hnb2_3 := NB2_3.out; have hnc2_3 := Ne.symm NB2_3.out) | ((with_reducible refine gate_dst (N := 4) rfl ?_); refine box_event ?hg (N := 4) ?hd (cs := #[.int .i64 0, .slice none 0 0]) (t := 69) ?hr ?_; (case hd => rfl); (case hg => rfl); (case hr => first | (go_simp; done) | (go_simp; rfl)); intro gb4 hg w4 hbox hb; have q1_ := Aside0.mk hbox; have q2_ := Aside0.mk ((by rw [hg]; exact (below_size (by exact bel_ HB.out))) : w.heap.size ≤ gb4); have NB2_4 := Aside0.mk (nl_ BK2.out hg); have NB3_4 := Aside0.mk (nl_ BK3.out hg); have n0_ := Aside0.mk (below_step (by exact bel_ HB.out) hb); have m2_ := Aside0.mk (bb_ BK2.out hb); have m3_ := Aside0.mk (bb_ BK3.out hb); clear HB; have HB := n0_; clear n0_; clear BK2; have BK2 := m2_; clear m2_; clear BK3; have BK3 := m3_; clear m3_; have BK4 := q1_; have GE4 := q2_; clear q1_ q2_; clear hb hbox hg; obtain ⟨hcz2_0, hfz2_0, hcz2_1, hfz2_1⟩ := Yt.c2 BK2.out; obtain ⟨hcz3_0, hfz3_0, hcz3_1, hfz3_1, hcz3_2, hfz3_2⟩ := Yt.c3 BK3.out; obtain ⟨hcz4_0, hfz4_0, hcz4_1, hfz4_1⟩ := Yt.c2 BK4.out; have hnb2_4 := NB2_4.out; have hnc2_4 := Ne.symm NB2_4.out; have hnb3_4 := NB3_4.out; have hnc3_4 := Ne.symm NB3_4.out) | ((with_reducible refine gate_callee (f := 71) rfl ?_); refine goesL_ (some 18) rfl rfl Try.func71 (by kernel_rfl) rfl #[.agg #[.int .i64 H, .slice A l.length c]] rfl (by (try simp only [List.map_toArray, List.map_cons, List.map_nil]); first | done | rfl) ?_; (with_reducible refine (impl_Yard_own.calls H A c l H l _ ?side1 HC.out HF.out).mono ?_); (case side1 => exact Kd.C_below HR.out (by exact bel_ HB.out)); rintro e w18 ⟨v18, rfl, hS, hb⟩; refine ⟨_, rfl, ?_⟩; obtain ⟨Aw, cw, ew⟩ := Kd.S_slice hS; subst ew; have HSW := Aside0.mk (Kd.S_lower hS (below_size (by exact bel_ HB.out))); have n0_ := Aside0.mk (below_step (by exact bel_ HB.out) hb); have m2_ := Aside0.mk (bb_ BK2.out hb); have m3_ := Aside0.mk (bb_ BK3.out hb); have m4_ := Aside0.mk (bb_ BK4.out hb); clear HB; have HB := n0_; clear n0_; clear BK2; have BK2 := m2_; clear m2_; clear BK3; have BK3 := m3_; clear m3_; clear BK4; have BK4 := m4_; clear m4_; clear hb hS; obtain ⟨hcz2_0, hfz2_0, hcz2_1, hfz2_1⟩ := Yt.c2 BK2.out; obtain ⟨hcz3_0, hfz3_0, hcz3_1, hfz3_1, hcz3_2, hfz3_2⟩ := Yt.c3 BK3.out; obtain ⟨hcz4_0, hfz4_0, hcz4_1, hfz4_1⟩ := Yt.c2 BK4.out) | ((with_reducible refine gate_dst (N := 7) rfl ?_); refine box_event ?hg (N := 7) ?hd (cs := #[.int .i64 0, .slice none 0 0]) (t := 69) ?hr ?_; (case hd => rfl); (case hg => rfl); (case hr => first | (go_simp; done) | (go_simp; rfl)); intro gb7 hg w7 hbox hb; have q1_ := Aside0.mk hbox; have q2_ := Aside0.mk ((by rw [hg]; exact (below_size (by exact bel_ HB.out))) : w.heap.size ≤ gb7); have NB2_7 := Aside0.mk (nl_ BK2.out hg); have NB3_7 := Aside0.mk (nl_ BK3.out hg); have NB4_7 := Aside0.mk (nl_ BK4.out hg); have n0_ := Aside0.mk (below_step (by exact bel_ HB.out) hb); have m2_ := Aside0.mk (bb_ BK2.out hb); have m3_ := Aside0.mk (bb_ BK3.out hb); have m4_ := Aside0.mk (bb_ BK4.out hb); have mHSW_ := Aside0.mk (Yt.sb HSW.out hb); clear HB; have HB := n0_; clear n0_; clear BK2; have BK2 := m2_; clear m2_; clear BK3; have BK3 := m3_; clear m3_; clear BK4; have BK4 := m4_; clear m4_; clear HSW; have HSW := mHSW_; clear mHSW_; have BK7 := q1_; have GE7 := q2_; clear q1_ q2_; clear hb hbox hg; obtain ⟨hcz2_0, hfz2_0, hcz2_1, hfz2_1⟩ := Yt.c2 BK2.out; obtain ⟨hcz3_0, hfz3_0, hcz3_1, hfz3_1, hcz3_2, hfz3_2⟩ := Yt.c3 BK3.out; obtain ⟨hcz4_0, hfz4_0, hcz4_1, hfz4_1⟩ := Yt.c2 BK4.out; obtain ⟨hcz7_0, hfz7_0, hcz7_1, hfz7_1⟩ := Yt.c2 BK7.out; have hnb2_7 := NB2_7.out; have hnc2_7 := Ne.symm NB2_7.out; have hnb3_7 := NB3_7.out; have hnc3_7 := Ne.symm NB3_7.out; have hnb4_7 := NB4_7.out; have hnc4_7 := Ne.symm NB4_7.out))
  (try simp only [Act.put, List.setIfInBounds_toArray, List.set_cons_zero, List.set_cons_succ])
  have b7_ : ((w7.setCell ⟨gb7, 0, none⟩ (.int .i64 H)).setCell ⟨gb7, 1, none⟩ (.slice Aw l.length cw)).heap[gb7]? = some (.cells #[.int .i64 H, .slice Aw l.length cw] 69 (0, 0)) := blk_put (cs := #[.int .i64 H, .slice none 0 0]) (blk_put (cs := #[.int .i64 0, .slice none 0 0]) BK7.out 0 _ rfl) 1 _ rfl
  have b2_ : ((w7.setCell ⟨gb7, 0, none⟩ (.int .i64 H)).setCell ⟨gb7, 1, none⟩ (.slice Aw l.length cw)).heap[gb2]? = some (.cells #[.int .i64 H, .slice A l.length c] 69 (0, 0)) := blk_far (blk_far BK2.out NB2_7.out _) NB2_7.out _
  have b3_ : ((w7.setCell ⟨gb7, 0, none⟩ (.int .i64 H)).setCell ⟨gb7, 1, none⟩ (.slice Aw l.length cw)).heap[gb3]? = some (.cells #[.int .i64 2, .int .i64 b, .int .i64 s] 76 (0, 0)) := blk_far (blk_far BK3.out NB3_7.out _) NB3_7.out _
  have b4_ : ((w7.setCell ⟨gb7, 0, none⟩ (.int .i64 H)).setCell ⟨gb7, 1, none⟩ (.slice Aw l.length cw)).heap[gb4]? = some (.cells #[.int .i64 0, .slice none 0 0] 69 (0, 0)) := blk_far (blk_far BK4.out NB4_7.out _) NB4_7.out _
  have sHSW_ := Kd.S_mono (Kd.S_far (p := ⟨gb7, 1, none⟩) (Kd.S_far (p := ⟨gb7, 0, none⟩) (Kd.S_types HSW.out BK7.out (by decide)) (fun _ hk => hk.2) (.int .i64 H)) (fun _ hk => hk.2) (.slice Aw l.length cw)) (fun _ hk => hk.1)
  have hb_ : Below w.heap.size w ((w7.setCell ⟨gb7, 0, none⟩ (.int .i64 H)).setCell ⟨gb7, 1, none⟩ (.slice Aw l.length cw)) := below_set (below_set HB.out GE7.out) GE7.out
  try clear hcz2_0 hfz2_0 hcz2_1 hfz2_1
  try clear hcz3_0 hfz3_0 hcz3_1 hfz3_1 hcz3_2 hfz3_2
  try clear hcz4_0 hfz4_0 hcz4_1 hfz4_1
  try clear hcz7_0 hfz7_0 hcz7_1 hfz7_1
  try clear hnb2_3 hnc2_3 hnb2_4 hnc2_4 hnb2_7 hnc2_7 hnb3_4 hnc3_4 hnb3_7 hnc3_7 hnb4_7 hnc4_7
  generalize (w7.setCell ⟨gb7, 0, none⟩ (.int .i64 H)).setCell ⟨gb7, 1, none⟩ (.slice Aw l.length cw) = w8 at b2_ b3_ b4_ b7_ sHSW_ hb_ ⊢
  clear HB BK2 BK3 BK4 BK7 HSW
  have HB := Aside0.mk hb_
  clear hb_
  have BK2 := Aside0.mk b2_
  clear b2_
  have BK3 := Aside0.mk b3_
  clear b3_
  have BK4 := Aside0.mk b4_
  clear b4_
  have BK7 := Aside0.mk b7_
  clear b7_
  have HSW := Aside0.mk sHSW_
  clear sHSW_
  obtain ⟨hcz2_0, hfz2_0, hcz2_1, hfz2_1⟩ := Yt.c2 BK2.out; obtain ⟨hcz3_0, hfz3_0, hcz3_1, hfz3_1, hcz3_2, hfz3_2⟩ := Yt.c3 BK3.out; obtain ⟨hcz4_0, hfz4_0, hcz4_1, hfz4_1⟩ := Yt.c2 BK4.out; obtain ⟨hcz7_0, hfz7_0, hcz7_1, hfz7_1⟩ := Yt.c2 BK7.out
  have hnb2_3 := NB2_3.out; have hnc2_3 := Ne.symm NB2_3.out
  have hnb2_4 := NB2_4.out; have hnc2_4 := Ne.symm NB2_4.out
  have hnb2_7 := NB2_7.out; have hnc2_7 := Ne.symm NB2_7.out
  have hnb3_4 := NB3_4.out; have hnc3_4 := Ne.symm NB3_4.out
  have hnb3_7 := NB3_7.out; have hnc3_7 := Ne.symm NB3_7.out
  have hnb4_7 := NB4_7.out; have hnc4_7 := Ne.symm NB4_7.out
  go_upto_region 5 with (first | ((with_reducible refine gate_callee (f := 32) rfl ?_); refine goesL_ (some 24) rfl rfl Try.func32 (by kernel_rfl) rfl #[.agg #[.int .i64 H, .slice A l.length c]] rfl (by (try simp only [List.map_toArray, List.map_cons, List.map_nil]); first | done | rfl) ?_; (with_reducible refine (impl_YardOk.calls H A c l true _ ?side1 HC.out HOK.out).mono ?_); (case side1 => exact Kd.C_below HR.out (by exact bel_ HB.out)); rintro e w24 ⟨rfl, hb⟩; refine ⟨_, rfl, ?_⟩; have n0_ := Aside0.mk (below_step (by exact bel_ HB.out) hb); have m2_ := Aside0.mk (bb_ BK2.out hb); have m3_ := Aside0.mk (bb_ BK3.out hb); have m4_ := Aside0.mk (bb_ BK4.out hb); have m7_ := Aside0.mk (bb_ BK7.out hb); have mHSW_ := Aside0.mk (Yt.sb HSW.out hb); clear HB; have HB := n0_; clear n0_; clear BK2; have BK2 := m2_; clear m2_; clear BK3; have BK3 := m3_; clear m3_; clear BK4; have BK4 := m4_; clear m4_; clear BK7; have BK7 := m7_; clear m7_; clear HSW; have HSW := mHSW_; clear mHSW_; clear hb; obtain ⟨hcz2_0, hfz2_0, hcz2_1, hfz2_1⟩ := Yt.c2 BK2.out; obtain ⟨hcz3_0, hfz3_0, hcz3_1, hfz3_1, hcz3_2, hfz3_2⟩ := Yt.c3 BK3.out; obtain ⟨hcz4_0, hfz4_0, hcz4_1, hfz4_1⟩ := Yt.c2 BK4.out; obtain ⟨hcz7_0, hfz7_0, hcz7_1, hfz7_1⟩ := Yt.c2 BK7.out) | (go_at_call 48; (with_reducible refine (impl_in.calls 2 1 3 true _ AK.out).mono ?_); rintro e w' ⟨rfl, ⟨nd, rfl⟩⟩; (try first | exact ⟨rfl, _, World.drewN_drewN _ _ _⟩ | exact ⟨rfl, _, Eq.trans (World.drewN_drewN _ _ _) (congrArg (World.drewN _) (Nat.add_assoc _ _ _))⟩)))
  repeat (go_quiet (first | (go_at_call 48; (with_reducible refine (impl_in.calls 2 1 3 true _ AK.out).mono ?_); rintro e w' ⟨rfl, ⟨nd, rfl⟩⟩; (try first | exact ⟨rfl, _, World.drewN_drewN _ _ _⟩ | exact ⟨rfl, _, Eq.trans (World.drewN_drewN _ _ _) (congrArg (World.drewN _) (Nat.add_assoc _ _ _))⟩))); try go_upto_region 5 with (first | (go_at_call 48; (with_reducible refine (impl_in.calls 2 1 3 true _ AK.out).mono ?_); rintro e w' ⟨rfl, ⟨nd, rfl⟩⟩; (try first | exact ⟨rfl, _, World.drewN_drewN _ _ _⟩ | exact ⟨rfl, _, Eq.trans (World.drewN_drewN _ _ _) (congrArg (World.drewN _) (Nat.add_assoc _ _ _))⟩))))
  (try simp only [Act.put, List.setIfInBounds_toArray, List.set_cons_zero, List.set_cons_succ])
  obtain ⟨M, hM⟩ : ∃ M, M = w24.heap.size := ⟨_, rfl⟩
  have HM := Aside0.mk hM
  have HMW : Aside0 (w.heap.size ≤ M) := ⟨by rw [hM]; exact HB.out.size⟩
  clear hM
  go_upto_region 6 with (first | ((with_reducible refine gate_callee (f := 71) rfl ?_); refine goesL_ (some 76) rfl rfl Try.func71 (by kernel_rfl) rfl #[.agg #[.int .i64 H, .slice A l.length c]] rfl (by (try simp only [List.map_toArray, List.map_cons, List.map_nil]); first | done | rfl) ?_; (with_reducible refine (impl_Yard_own.calls H A c l H l _ ?side1 HC.out HF.out).mono ?_); (case side1 => exact Kd.C_below HR.out (by exact bel_ HB.out)); rintro e w76 ⟨v76, rfl, hS, hb⟩; refine ⟨_, rfl, ?_⟩; obtain ⟨gx, cx, ex, hgx, hgl, _⟩ := Kd.S_form hS HLEN.out; subst ex; have HGX : Aside0 (M ≤ gx) := ⟨by rw [HM.out]; exact hgx⟩; have mW_ := Aside0.mk (Kd.S_below (Kd.S_mono (ok' := fun k => k < M) (Kd.S_bound (Yt.sp HSW.out)) (fun k hk => by rw [HM.out]; exact hk.2.2.1)) hb); have HSX := Aside0.mk (Kd.S_lower (Kd.S_mono (ok' := fun k => M ≤ k) (Kd.S_bound hS) (fun k hk => by rw [HM.out]; exact hk.2.1)) (below_size (by exact bel_ HB.out))); have n0_ := Aside0.mk (below_step (by exact bel_ HB.out) hb); have m2_ := Aside0.mk (bb_ BK2.out hb); have m3_ := Aside0.mk (bb_ BK3.out hb); have m4_ := Aside0.mk (bb_ BK4.out hb); have m7_ := Aside0.mk (bb_ BK7.out hb); clear HB; have HB := n0_; clear n0_; clear BK2; have BK2 := m2_; clear m2_; clear BK3; have BK3 := m3_; clear m3_; clear BK4; have BK4 := m4_; clear m4_; clear BK7; have BK7 := m7_; clear m7_; clear HSW; have HSW := mW_; clear mW_; clear hb hS hgx hgl; obtain ⟨hcz2_0, hfz2_0, hcz2_1, hfz2_1⟩ := Yt.c2 BK2.out; obtain ⟨hcz3_0, hfz3_0, hcz3_1, hfz3_1, hcz3_2, hfz3_2⟩ := Yt.c3 BK3.out; obtain ⟨hcz4_0, hfz4_0, hcz4_1, hfz4_1⟩ := Yt.c2 BK4.out; obtain ⟨hcz7_0, hfz7_0, hcz7_1, hfz7_1⟩ := Yt.c2 BK7.out) | ((with_reducible refine gate_dst (N := 9) rfl ?_); refine box_event ?hg (N := 9) ?hd (cs := #[.int .i64 0, .slice none 0 0]) (t := 69) ?hr ?_; (case hd => rfl); (case hg => rfl); (case hr => first | (go_simp; done) | (go_simp; rfl)); intro gb9 hg w9 hbox hb; have q1_ := Aside0.mk hbox; have q2_ := Aside0.mk ((by rw [hg]; exact (below_size (by exact bel_ HB.out))) : w.heap.size ≤ gb9); have NB2_9 := Aside0.mk (nl_ BK2.out hg); have NB3_9 := Aside0.mk (nl_ BK3.out hg); have NB4_9 := Aside0.mk (nl_ BK4.out hg); have NB7_9 := Aside0.mk (nl_ BK7.out hg); have n0_ := Aside0.mk (below_step (by exact bel_ HB.out) hb); have m2_ := Aside0.mk (bb_ BK2.out hb); have m3_ := Aside0.mk (bb_ BK3.out hb); have m4_ := Aside0.mk (bb_ BK4.out hb); have m7_ := Aside0.mk (bb_ BK7.out hb); have mHSW_ := Aside0.mk (Yt.sb HSW.out hb); have mHSX_ := Aside0.mk (Yt.sb HSX.out hb); clear HB; have HB := n0_; clear n0_; clear BK2; have BK2 := m2_; clear m2_; clear BK3; have BK3 := m3_; clear m3_; clear BK4; have BK4 := m4_; clear m4_; clear BK7; have BK7 := m7_; clear m7_; clear HSW; have HSW := mHSW_; clear mHSW_; clear HSX; have HSX := mHSX_; clear mHSX_; have BK9 := q1_; have GE9 := q2_; clear q1_ q2_; clear hb hbox hg; obtain ⟨hcz2_0, hfz2_0, hcz2_1, hfz2_1⟩ := Yt.c2 BK2.out; obtain ⟨hcz3_0, hfz3_0, hcz3_1, hfz3_1, hcz3_2, hfz3_2⟩ := Yt.c3 BK3.out; obtain ⟨hcz4_0, hfz4_0, hcz4_1, hfz4_1⟩ := Yt.c2 BK4.out; obtain ⟨hcz7_0, hfz7_0, hcz7_1, hfz7_1⟩ := Yt.c2 BK7.out; obtain ⟨hcz9_0, hfz9_0, hcz9_1, hfz9_1⟩ := Yt.c2 BK9.out; have hnb2_9 := NB2_9.out; have hnc2_9 := Ne.symm NB2_9.out; have hnb3_9 := NB3_9.out; have hnc3_9 := Ne.symm NB3_9.out; have hnb4_9 := NB4_9.out; have hnc4_9 := Ne.symm NB4_9.out; have hnb7_9 := NB7_9.out; have hnc7_9 := Ne.symm NB7_9.out))
  (try simp only [Act.put, List.setIfInBounds_toArray, List.set_cons_zero, List.set_cons_succ])
  have b9_ : ((w9.setCell ⟨gb9, 0, none⟩ (.int .i64 H)).setCell ⟨gb9, 1, none⟩ (.slice (some ⟨gx, 0, none⟩) l.length cx)).heap[gb9]? = some (.cells #[.int .i64 H, .slice (some ⟨gx, 0, none⟩) l.length cx] 69 (0, 0)) := blk_put (cs := #[.int .i64 H, .slice none 0 0]) (blk_put (cs := #[.int .i64 0, .slice none 0 0]) BK9.out 0 _ rfl) 1 _ rfl
  have b2_ : ((w9.setCell ⟨gb9, 0, none⟩ (.int .i64 H)).setCell ⟨gb9, 1, none⟩ (.slice (some ⟨gx, 0, none⟩) l.length cx)).heap[gb2]? = some (.cells #[.int .i64 H, .slice A l.length c] 69 (0, 0)) := blk_far (blk_far BK2.out NB2_9.out _) NB2_9.out _
  have b3_ : ((w9.setCell ⟨gb9, 0, none⟩ (.int .i64 H)).setCell ⟨gb9, 1, none⟩ (.slice (some ⟨gx, 0, none⟩) l.length cx)).heap[gb3]? = some (.cells #[.int .i64 2, .int .i64 b, .int .i64 s] 76 (0, 0)) := blk_far (blk_far BK3.out NB3_9.out _) NB3_9.out _
  have b4_ : ((w9.setCell ⟨gb9, 0, none⟩ (.int .i64 H)).setCell ⟨gb9, 1, none⟩ (.slice (some ⟨gx, 0, none⟩) l.length cx)).heap[gb4]? = some (.cells #[.int .i64 0, .slice none 0 0] 69 (0, 0)) := blk_far (blk_far BK4.out NB4_9.out _) NB4_9.out _
  have b7_ : ((w9.setCell ⟨gb9, 0, none⟩ (.int .i64 H)).setCell ⟨gb9, 1, none⟩ (.slice (some ⟨gx, 0, none⟩) l.length cx)).heap[gb7]? = some (.cells #[.int .i64 H, .slice Aw l.length cw] 69 (0, 0)) := blk_far (blk_far BK7.out NB7_9.out _) NB7_9.out _
  have sHSW_ := Kd.S_mono (Kd.S_far (p := ⟨gb9, 1, none⟩) (Kd.S_far (p := ⟨gb9, 0, none⟩) (Kd.S_types HSW.out BK9.out (by decide)) (fun _ hk => hk.2) (.int .i64 H)) (fun _ hk => hk.2) (.slice (some ⟨gx, 0, none⟩) l.length cx)) (fun _ hk => hk.1)
  have sHSX_ := Kd.S_mono (Kd.S_far (p := ⟨gb9, 1, none⟩) (Kd.S_far (p := ⟨gb9, 0, none⟩) (Kd.S_types HSX.out BK9.out (by decide)) (fun _ hk => hk.2) (.int .i64 H)) (fun _ hk => hk.2) (.slice (some ⟨gx, 0, none⟩) l.length cx)) (fun _ hk => hk.1)
  have hb_ : Below w.heap.size w ((w9.setCell ⟨gb9, 0, none⟩ (.int .i64 H)).setCell ⟨gb9, 1, none⟩ (.slice (some ⟨gx, 0, none⟩) l.length cx)) := below_set (below_set HB.out GE9.out) GE9.out
  try clear hcz2_0 hfz2_0 hcz2_1 hfz2_1
  try clear hcz3_0 hfz3_0 hcz3_1 hfz3_1 hcz3_2 hfz3_2
  try clear hcz4_0 hfz4_0 hcz4_1 hfz4_1
  try clear hcz7_0 hfz7_0 hcz7_1 hfz7_1
  try clear hcz9_0 hfz9_0 hcz9_1 hfz9_1
  try clear hnb2_3 hnc2_3 hnb2_4 hnc2_4 hnb2_7 hnc2_7 hnb2_9 hnc2_9 hnb3_4 hnc3_4 hnb3_7 hnc3_7 hnb3_9 hnc3_9 hnb4_7 hnc4_7 hnb4_9 hnc4_9 hnb7_9 hnc7_9
  generalize (w9.setCell ⟨gb9, 0, none⟩ (.int .i64 H)).setCell ⟨gb9, 1, none⟩ (.slice (some ⟨gx, 0, none⟩) l.length cx) = w10 at b2_ b3_ b4_ b7_ b9_ sHSW_ sHSX_ hb_ ⊢
  clear HB BK2 BK3 BK4 BK7 BK9 HSW HSX
  have HB := Aside0.mk hb_
  clear hb_
  have BK2 := Aside0.mk b2_
  clear b2_
  have BK3 := Aside0.mk b3_
  clear b3_
  have BK4 := Aside0.mk b4_
  clear b4_
  have BK7 := Aside0.mk b7_
  clear b7_
  have BK9 := Aside0.mk b9_
  clear b9_
  have HSW := Aside0.mk sHSW_
  clear sHSW_
  have HSX := Aside0.mk sHSX_
  clear sHSX_
  obtain ⟨hcz2_0, hfz2_0, hcz2_1, hfz2_1⟩ := Yt.c2 BK2.out; obtain ⟨hcz3_0, hfz3_0, hcz3_1, hfz3_1, hcz3_2, hfz3_2⟩ := Yt.c3 BK3.out; obtain ⟨hcz4_0, hfz4_0, hcz4_1, hfz4_1⟩ := Yt.c2 BK4.out; obtain ⟨hcz7_0, hfz7_0, hcz7_1, hfz7_1⟩ := Yt.c2 BK7.out; obtain ⟨hcz9_0, hfz9_0, hcz9_1, hfz9_1⟩ := Yt.c2 BK9.out
  have hnb2_3 := NB2_3.out; have hnc2_3 := Ne.symm NB2_3.out
  have hnb2_4 := NB2_4.out; have hnc2_4 := Ne.symm NB2_4.out
  have hnb2_7 := NB2_7.out; have hnc2_7 := Ne.symm NB2_7.out
  have hnb2_9 := NB2_9.out; have hnc2_9 := Ne.symm NB2_9.out
  have hnb3_4 := NB3_4.out; have hnc3_4 := Ne.symm NB3_4.out
  have hnb3_7 := NB3_7.out; have hnc3_7 := Ne.symm NB3_7.out
  have hnb3_9 := NB3_9.out; have hnc3_9 := Ne.symm NB3_9.out
  have hnb4_7 := NB4_7.out; have hnc4_7 := Ne.symm NB4_7.out
  have hnb4_9 := NB4_9.out; have hnc4_9 := Ne.symm NB4_9.out
  have hnb7_9 := NB7_9.out; have hnc7_9 := Ne.symm NB7_9.out
  go_upto_region 7 with (first | ((with_reducible refine gate_callee (f := 30) rfl ?_); refine goesL_ (some 81) rfl rfl Try.func30 (by kernel_rfl) rfl #[.agg #[.int .i64 H, .slice A l.length c], .int .i64 b] rfl (by (try simp only [List.map_toArray, List.map_cons, List.map_nil]); first | done | rfl) ?_; (with_reducible refine (impl_FindBox.calls 50 H A c l b fa ft true _ ?side1 HC.out HFB.out).mono ?_); (case side1 => exact Kd.C_below HR.out (by exact bel_ HB.out)); rintro e w81 ⟨rfl, hb⟩; refine ⟨_, rfl, ?_⟩; have n0_ := Aside0.mk (below_step (by exact bel_ HB.out) hb); have m2_ := Aside0.mk (bb_ BK2.out hb); have m3_ := Aside0.mk (bb_ BK3.out hb); have m4_ := Aside0.mk (bb_ BK4.out hb); have m7_ := Aside0.mk (bb_ BK7.out hb); have m9_ := Aside0.mk (bb_ BK9.out hb); have mHSW_ := Aside0.mk (Yt.sb HSW.out hb); have mHSX_ := Aside0.mk (Yt.sb HSX.out hb); clear HB; have HB := n0_; clear n0_; clear BK2; have BK2 := m2_; clear m2_; clear BK3; have BK3 := m3_; clear m3_; clear BK4; have BK4 := m4_; clear m4_; clear BK7; have BK7 := m7_; clear m7_; clear BK9; have BK9 := m9_; clear m9_; clear HSW; have HSW := mHSW_; clear mHSW_; clear HSX; have HSX := mHSX_; clear mHSX_; clear hb; obtain ⟨hcz2_0, hfz2_0, hcz2_1, hfz2_1⟩ := Yt.c2 BK2.out; obtain ⟨hcz3_0, hfz3_0, hcz3_1, hfz3_1, hcz3_2, hfz3_2⟩ := Yt.c3 BK3.out; obtain ⟨hcz4_0, hfz4_0, hcz4_1, hfz4_1⟩ := Yt.c2 BK4.out; obtain ⟨hcz7_0, hfz7_0, hcz7_1, hfz7_1⟩ := Yt.c2 BK7.out; obtain ⟨hcz9_0, hfz9_0, hcz9_1, hfz9_1⟩ := Yt.c2 BK9.out))
  (try simp only [Act.put, List.setIfInBounds_toArray, List.set_cons_zero, List.set_cons_succ])
  have NX2 : Aside0 (gb2 ≠ gx) := ⟨by intro e_; exact Kd.R_ne (Kd.S_R HSX.out) BK2.out (by decide) (by rw [e_]; rfl)⟩
  have NX3 : Aside0 (gb3 ≠ gx) := ⟨by intro e_; exact Kd.R_ne (Kd.S_R HSX.out) BK3.out (by decide) (by rw [e_]; rfl)⟩
  have NX4 : Aside0 (gb4 ≠ gx) := ⟨by intro e_; exact Kd.R_ne (Kd.S_R HSX.out) BK4.out (by decide) (by rw [e_]; rfl)⟩
  have NX7 : Aside0 (gb7 ≠ gx) := ⟨by intro e_; exact Kd.R_ne (Kd.S_R HSX.out) BK7.out (by decide) (by rw [e_]; rfl)⟩
  have NX9 : Aside0 (gb9 ≠ gx) := ⟨by intro e_; exact Kd.R_ne (Kd.S_R HSX.out) BK9.out (by decide) (by rw [e_]; rfl)⟩
  go_wp2
  go_loopg [13] (n0 + 1) (fun kq v13 w' => ∃ (X : List (List Int)) (m : Int) (d : Nat), v13 = .int .i64 m ∧ Aside0 (X.length = l.length ∧ ((rd_L2 X fa).length : Int) = ft + 1 + d ∧ d < kq ∧ 0 ≤ m ∧ m + d ≤ 1000) ∧ Aside0 (Yt.out H fa d X m = some R) ∧ Aside0 (Kd.S (Kd.slice 3 (Kd.int .i64)) 28 w' w.heap.size (fun k => M ≤ k) (.slice (some ⟨gx, 0, none⟩) l.length cx) X) ∧ Aside0 (Kd.S (Kd.slice 3 (Kd.int .i64)) 28 w' w.heap.size (fun k => k < M) (.slice Aw l.length cw) l) ∧ Aside0 (w'.heap[gb2]? = some (.cells #[.int .i64 H, .slice A l.length c] 69 (0, 0))) ∧ Aside0 (w'.heap[gb3]? = some (.cells #[.int .i64 2, .int .i64 b, .int .i64 s] 76 (0, 0))) ∧ Aside0 (w'.heap[gb4]? = some (.cells #[.int .i64 0, .slice none 0 0] 69 (0, 0))) ∧ Aside0 (w'.heap[gb7]? = some (.cells #[.int .i64 H, .slice Aw l.length cw] 69 (0, 0))) ∧ Aside0 (w'.heap[gb9]? = some (.cells #[.int .i64 H, .slice (some ⟨gx, 0, none⟩) l.length cx] 69 (0, 0))) ∧ Aside0 (Below w.heap.size w w'))
  case atStart => exact ⟨l, 0, n0, rfl, ⟨rfl, HN0.out, by omega, by omega, by have := HN1.out; omega⟩, HOUT, ⟨Yt.sp HSX.out⟩, ⟨Yt.sp HSW.out⟩, ⟨fb_ BK2.out⟩, ⟨fb_ BK3.out⟩, ⟨fb_ BK4.out⟩, ⟨fb_ BK7.out⟩, ⟨fb_ BK9.out⟩, ⟨by exact bel_ HB.out⟩⟩
  case round =>
    clear HB HSX HSW BK2 BK3 BK4 BK7 BK9
    try clear hcz2_0 hfz2_0 hcz2_1 hfz2_1
    try clear hcz3_0 hfz3_0 hcz3_1 hfz3_1 hcz3_2 hfz3_2
    try clear hcz4_0 hfz4_0 hcz4_1 hfz4_1
    try clear hcz7_0 hfz7_0 hcz7_1 hfz7_1
    try clear hcz9_0 hfz9_0 hcz9_1 hfz9_1
    try clear hnb2_3 hnc2_3 hnb2_4 hnc2_4 hnb2_7 hnc2_7 hnb2_9 hnc2_9 hnb3_4 hnc3_4 hnb3_7 hnc3_7 hnb3_9 hnc3_9 hnb4_7 hnc4_7 hnb4_9 hnc4_9 hnb7_9 hnc7_9
    obtain ⟨X, m, d, rfl, HI, HO, HSX, HSW, BK2, BK3, BK4, BK7, BK9, HB⟩ := hrel
    have HXL : Aside0 (X.length = l.length) := ⟨HI.out.1⟩
    cases gk with
    | zero => exact absurd HI.out.2.2.1 (by omega)
    | succ k1 =>
      obtain ⟨hcz2_0, hfz2_0, hcz2_1, hfz2_1⟩ := Yt.c2 BK2.out; obtain ⟨hcz3_0, hfz3_0, hcz3_1, hfz3_1, hcz3_2, hfz3_2⟩ := Yt.c3 BK3.out; obtain ⟨hcz4_0, hfz4_0, hcz4_1, hfz4_1⟩ := Yt.c2 BK4.out; obtain ⟨hcz7_0, hfz7_0, hcz7_1, hfz7_1⟩ := Yt.c2 BK7.out; obtain ⟨hcz9_0, hfz9_0, hcz9_1, hfz9_1⟩ := Yt.c2 BK9.out
      have hnb2_3 := NB2_3.out; have hnc2_3 := Ne.symm NB2_3.out
      have hnb2_4 := NB2_4.out; have hnc2_4 := Ne.symm NB2_4.out
      have hnb2_7 := NB2_7.out; have hnc2_7 := Ne.symm NB2_7.out
      have hnb2_9 := NB2_9.out; have hnc2_9 := Ne.symm NB2_9.out
      have hnb3_4 := NB3_4.out; have hnc3_4 := Ne.symm NB3_4.out
      have hnb3_7 := NB3_7.out; have hnc3_7 := Ne.symm NB3_7.out
      have hnb3_9 := NB3_9.out; have hnc3_9 := Ne.symm NB3_9.out
      have hnb4_7 := NB4_7.out; have hnc4_7 := Ne.symm NB4_7.out
      have hnb4_9 := NB4_9.out; have hnc4_9 := Ne.symm NB4_9.out
      have hnb7_9 := NB7_9.out; have hnc7_9 := Ne.symm NB7_9.out
      obtain ⟨Aa, ca, hxa, hca, hCa⟩ := Yt.get HSX.out fa ha0 ha1
      obtain ⟨sa, hsa⟩ : ∃ q, q = rd_L2 X fa := ⟨_, rfl⟩
      rw [← hsa] at hxa hca hCa
      have HSA := Aside0.mk hsa
      have HCA := Aside0.mk hCa
      have Hca := Aside0.mk hca
      clear hca hCa
      have hle : (sa.length : Int) = ft + 1 + d := by rw [hsa]; exact HI.out.2.1
      clear hsa
      have HLE := Aside0.mk hle
      have q0a : (0 ≤ fa) = True := eq_true ha0
      have q1a : (fa < (l.length : Int)) = True := eq_true ha1
      obtain ⟨e, he⟩ : ∃ e : Int, e = (sa.length : Int) - 1 := ⟨_, rfl⟩
      have hwe : wrap64 ((sa.length : Int) - 1) = e := by rw [← he]; exact impl_YardOk.w64 (by omega) (by have := HI.out; have := HFT.out; omega)
      have HE := Aside0.mk he
      have hed : e = ft + d := by omega
      have HED := Aside0.mk hed
      clear he hle
      cases d with
      | zero =>
        have hc1 : decide (ft < e) = false := decide_eq_false (by omega)
        clear hed
        have hR0 : R = some (X, m) := by have h := HO.out; simp only [Yt.out] at h; exact (Option.some.inj h).symm
        have hrr : r2 = X.set fa.toNat ((rd_L2 X fa).take ft.toNat) ∧ r3 = m ∧ r4 = 0 := by
          rcases HRR.out with ⟨h, _⟩ | ⟨Xf, mf, h, h2, h3, h4⟩
          · rw [hR0] at h; cases h
          · rw [hR0] at h; cases h; exact ⟨h2, h3, h4⟩
        obtain ⟨hr2, rfl, rfl⟩ := hrr
        have HR2 := Aside0.mk hr2
        clear hr2 hR0
        have hftl : ft.toNat ≤ sa.length := by have := HLE.out; omega
        obtain ⟨hql, hCq⟩ := Yt.cutq HCA.out ft.toNat hftl
        have HQL := Aside0.mk hql
        have HCQ := Aside0.mk hCq
        have hcut := Yt.cutr Aa sa.length ca ft ht0 (by omega) Hca.out
        clear hql hCq hftl
        have hfa := Yt.frozen HSX.out fa ha0 ha1
        have HMR : Aside0 (M ≤ wr.heap.size) := ⟨Nat.le_trans HGX.out (Nat.le_of_lt (Kd.S_lt HSX.out gx rfl))⟩
        have HBM := Aside0.mk (Below.refl wr.heap.size wr)
        go_upto_region 37 with (fail)
        (try simp only [Act.put, List.setIfInBounds_toArray, List.set_cons_zero, List.set_cons_succ])
        refine start_ (n := 13) (S := fun w' => w'.cell? ⟨gb9, 1, none⟩ = some (.slice (some ⟨gx, 0, none⟩) l.length cx) ∧ w'.cell? ⟨gx, fa.toNat, none⟩ = some (.slice Aa sa.length ca)) (ds := [12]) #[false, false, false, false, false, false, false, false, false, false, false, false, false] (by kernel_rfl) rfl rfl ⟨hcz9_1, hxa⟩ (fun hHeld => ?_); refine with_tabW impl_DoYard.out_.tab37 impl_DoYard.out_.bits37 (fun HT_ HW_ => ?_)
        refine pu_ 0 208 HT_ #[true, false, false, false, false, false, false, false, false, false, false, false, false] rfl rfl ?_
        refine take_ (i := 1) (N := some 209) (v := ?_) (a' := ?_) #[true, true, false, false, false, false, false, false, false, false, false, false, false] rfl rfl (take_ofW HT_.out HW_.out (by kernel_rfl)) (fun _ _ _ h => h) (Or.inl ⟨by rfl, ?_⟩) hHeld ?_ ?_
        rotate_left
        · rintro w' ⟨s0, s1⟩
          go_simp
          with_reducible rfl
        rotate_left
        · simp only [Act.put, List.setIfInBounds_toArray, List.set_cons_zero, List.set_cons_succ, i64_w, i32_w]
          rfl
        refine pu_ 2 210 HT_ #[true, true, true, false, false, false, false, false, false, false, false, false, false] rfl rfl ?_
        refine pu_ 3 211 HT_ #[true, true, true, true, false, false, false, false, false, false, false, false, false] rfl rfl ?_
        refine take_ (i := 4) (N := some 212) (v := ?_) (a' := ?_) #[true, true, true, true, true, false, false, false, false, false, false, false, false] rfl rfl (take_ofW HT_.out HW_.out (by kernel_rfl)) (fun _ _ _ h => h) (Or.inl ⟨by rfl, ?_⟩) hHeld ?_ ?_
        rotate_left
        · rintro w' ⟨s0, s1⟩
          go_simp
          with_reducible rfl
        rotate_left
        · simp only [Act.put, List.setIfInBounds_toArray, List.set_cons_zero, List.set_cons_succ, i64_w, i32_w]
          rfl
        refine pu_ 5 213 HT_ #[true, true, true, true, true, true, false, false, false, false, false, false, false] rfl rfl ?_
        refine pu_ 6 214 HT_ #[true, true, true, true, true, true, true, false, false, false, false, false, false] rfl rfl ?_
        refine take_ (i := 7) (N := some 215) (v := ?_) (a' := ?_) #[true, true, true, true, true, true, true, true, false, false, false, false, false] rfl rfl (take_ofW HT_.out HW_.out (by kernel_rfl)) (fun _ _ _ h => h) (Or.inl ⟨by rfl, ?_⟩) hHeld ?_ ?_
        rotate_left
        · rintro w' ⟨s0, s1⟩
          go_simp
          with_reducible rfl
        rotate_left
        · simp only [Act.put, List.setIfInBounds_toArray, List.set_cons_zero, List.set_cons_succ, i64_w, i32_w]
          rfl
        refine pu_ 8 216 HT_ #[true, true, true, true, true, true, true, true, true, false, false, false, false] rfl rfl ?_
        refine pu_ 9 217 HT_ #[true, true, true, true, true, true, true, true, true, true, false, false, false] rfl rfl ?_
        refine one_ (i := 10) (N := some 218) #[true, true, true, true, true, true, true, true, true, true, true, false, false] rfl rfl (one_of HT_.out (by kernel_rfl)) (by decide) (fun K hK => ?_)
        refine goes_ Try.func46 (by kernel_rfl) rfl #[.slice Aa ft.toNat ca] (by rfl) rfl rfl (by (try simp only [List.map_toArray, List.map_cons, List.map_nil]); first | done | rfl) ?_
        with_reducible refine (Yt.own46 Aa ca ft.toNat (sa.take ft.toNat) _ HQL.out ?side1 (by have := Hca.out; have := HLE.out; omega) (by have := HFT.out; omega)).mono ?_
        (case side1 => exact Kd.C_below HCQ.out (by repeat (first | (with_reducible first | exact HBM.out | apply below_alloc | apply pw_below_drewN | apply below_drew1) | exact HBM.out)))
        rintro e w38 ⟨v38, rfl, hR, hb⟩
        refine ⟨_, rfl, ?_⟩
        have HV := Aside0.mk (Kd.R_lower hR (below_size (by repeat (first | (with_reducible first | exact HBM.out | apply below_alloc | apply pw_below_drewN | apply below_drew1) | exact HBM.out))))
        have n1m_ := Aside0.mk (below_step (by repeat (first | (with_reducible first | exact HBM.out | apply below_alloc | apply pw_below_drewN | apply below_drew1) | exact HBM.out)) hb)
        obtain ⟨Au, cu, eu⟩ := Kd.R_slice hR
        rw [HQL.out] at eu
        subst eu
        have n0_ := Aside0.mk (below_step (by exact bel_ HB.out) hb); have m2_ := Aside0.mk (bb_ BK2.out hb); have m3_ := Aside0.mk (bb_ BK3.out hb); have m4_ := Aside0.mk (bb_ BK4.out hb); have m7_ := Aside0.mk (bb_ BK7.out hb); have m9_ := Aside0.mk (bb_ BK9.out hb); have mHSW_ := Aside0.mk (Yt.sb HSW.out hb); clear HB; have HB := n0_; clear n0_; clear BK2; have BK2 := m2_; clear m2_; clear BK3; have BK3 := m3_; clear m3_; clear BK4; have BK4 := m4_; clear m4_; clear BK7; have BK7 := m7_; clear m7_; clear BK9; have BK9 := m9_; clear m9_; clear HSW; have HSW := mHSW_; clear mHSW_
        clear HBM hR hb
        have HBM := n1m_
        clear n1m_
        refine hK.out _ _ ⟨Yt.keep (by repeat (first | (with_reducible first | exact HBM.out | apply below_alloc | apply pw_below_drewN | apply below_drew1) | exact HBM.out)) hcz9_1, Yt.keep (by repeat (first | (with_reducible first | exact HBM.out | apply below_alloc | apply pw_below_drewN | apply below_drew1) | exact HBM.out)) hxa⟩ (fun hHeld => ?_)
        clear hK K
        refine norm_ (a' := ?_) ?_ ?_
        rotate_left
        · show Act.put _ (some 218) _ = _
          simp only [Act.put, List.setIfInBounds_toArray, List.set_cons_zero, List.set_cons_succ, i64_w, i32_w]
          rfl
        refine pu_ 11 219 HT_ #[true, true, true, true, true, true, true, true, true, true, true, true, false] rfl rfl ?_
        refine last_ (i := 12) (N := none) #[true, true, true, true, true, true, true, true, true, true, true, true, true] rfl rfl (one_of HT_.out (by kernel_rfl)) (by decide) (fun K hK => ?_)
        have hs38 := Yt.keep HBM.out hxa
        have hfs38 := Yt.keepf HBM.out hxa hfa
        refine skip_ (w1 := ?_) (by rfl) rfl ?_ ?_
        rotate_left
        · go_simp
          rfl
        refine hK.out _ _ ?_
        clear hK K
        refine done_ (done_of HT_.out (by kernel_rfl)) ?_
        have sX_ := (Yt.store HSX.out HBM.out (fun k hk => Nat.le_trans HMR.out hk) HV.out fa ha0 ha1 (Nat.le_trans HMW.out HMR.out)).1
        have b2_ : (w38.setCell ⟨gx, fa.toNat, none⟩ (.slice Au ft.toNat cu)).heap[gb2]? = some (.cells #[.int .i64 H, .slice A l.length c] 69 (0, 0)) := blk_far BK2.out NX2.out _
        have b3_ : (w38.setCell ⟨gx, fa.toNat, none⟩ (.slice Au ft.toNat cu)).heap[gb3]? = some (.cells #[.int .i64 2, .int .i64 b, .int .i64 s] 76 (0, 0)) := blk_far BK3.out NX3.out _
        have b4_ : (w38.setCell ⟨gx, fa.toNat, none⟩ (.slice Au ft.toNat cu)).heap[gb4]? = some (.cells #[.int .i64 0, .slice none 0 0] 69 (0, 0)) := blk_far BK4.out NX4.out _
        have b7_ : (w38.setCell ⟨gx, fa.toNat, none⟩ (.slice Au ft.toNat cu)).heap[gb7]? = some (.cells #[.int .i64 H, .slice Aw l.length cw] 69 (0, 0)) := blk_far BK7.out NX7.out _
        have b9_ : (w38.setCell ⟨gx, fa.toNat, none⟩ (.slice Au ft.toNat cu)).heap[gb9]? = some (.cells #[.int .i64 H, .slice (some ⟨gx, 0, none⟩) l.length cx] 69 (0, 0)) := blk_far BK9.out NX9.out _
        have sW_ : Kd.S (Kd.slice 3 (Kd.int .i64)) 28 (w38.setCell ⟨gx, fa.toNat, none⟩ (.slice Au ft.toNat cu)) w.heap.size (fun k => k < M) (.slice Aw l.length cw) l := Kd.S_far (p := ⟨gx, fa.toNat, none⟩) HSW.out (fun k hk => by intro e_; have h_ : k < M := hk; have h2_ := HGX.out; rw [e_] at h_; exact absurd h_ (Nat.not_lt.2 h2_)) _
        have hb_ : Below w.heap.size w (w38.setCell ⟨gx, fa.toNat, none⟩ (.slice Au ft.toNat cu)) := below_set HB.out (Nat.le_trans HMW.out HGX.out)
        try clear hcz2_0 hfz2_0 hcz2_1 hfz2_1
        try clear hcz3_0 hfz3_0 hcz3_1 hfz3_1 hcz3_2 hfz3_2
        try clear hcz4_0 hfz4_0 hcz4_1 hfz4_1
        try clear hcz7_0 hfz7_0 hcz7_1 hfz7_1
        try clear hcz9_0 hfz9_0 hcz9_1 hfz9_1
        try clear hnb2_3 hnc2_3 hnb2_4 hnc2_4 hnb2_7 hnc2_7 hnb2_9 hnc2_9 hnb3_4 hnc3_4 hnb3_7 hnc3_7 hnb3_9 hnc3_9 hnb4_7 hnc4_7 hnb4_9 hnc4_9 hnb7_9 hnc7_9
        generalize w38.setCell ⟨gx, fa.toNat, none⟩ (.slice Au ft.toNat cu) = w39 at sX_ sW_ hb_ b2_ b3_ b4_ b7_ b9_ ⊢
        try clear HSX
        clear HB HSW BK2 BK3 BK4 BK7 BK9
        have HB := Aside0.mk hb_
        have HSX := Aside0.mk sX_
        have HSW := Aside0.mk sW_
        clear hb_ sX_ sW_
        have BK2 := Aside0.mk b2_
        have BK3 := Aside0.mk b3_
        have BK4 := Aside0.mk b4_
        have BK7 := Aside0.mk b7_
        have BK9 := Aside0.mk b9_
        clear b2_ b3_ b4_ b7_ b9_
        obtain ⟨hcz2_0, hfz2_0, hcz2_1, hfz2_1⟩ := Yt.c2 BK2.out; obtain ⟨hcz3_0, hfz3_0, hcz3_1, hfz3_1, hcz3_2, hfz3_2⟩ := Yt.c3 BK3.out; obtain ⟨hcz4_0, hfz4_0, hcz4_1, hfz4_1⟩ := Yt.c2 BK4.out; obtain ⟨hcz7_0, hfz7_0, hcz7_1, hfz7_1⟩ := Yt.c2 BK7.out; obtain ⟨hcz9_0, hfz9_0, hcz9_1, hfz9_1⟩ := Yt.c2 BK9.out
        have hnb2_3 := NB2_3.out; have hnc2_3 := Ne.symm NB2_3.out
        have hnb2_4 := NB2_4.out; have hnc2_4 := Ne.symm NB2_4.out
        have hnb2_7 := NB2_7.out; have hnc2_7 := Ne.symm NB2_7.out
        have hnb2_9 := NB2_9.out; have hnc2_9 := Ne.symm NB2_9.out
        have hnb3_4 := NB3_4.out; have hnc3_4 := Ne.symm NB3_4.out
        have hnb3_7 := NB3_7.out; have hnc3_7 := Ne.symm NB3_7.out
        have hnb3_9 := NB3_9.out; have hnc3_9 := Ne.symm NB3_9.out
        have hnb4_7 := NB4_7.out; have hnc4_7 := Ne.symm NB4_7.out
        have hnb4_9 := NB4_9.out; have hnc4_9 := Ne.symm NB4_9.out
        have hnb7_9 := NB7_9.out; have hnc7_9 := Ne.symm NB7_9.out
        try go_wp2
        rw [HSA.out, ← HR2.out] at HSX
        refine bodyPost_ret (results_ctt rfl _ _ gb4 69 #[.int .i64 H, .slice (some ⟨gx, 0, none⟩) l.length cx] (0, 0) _ rfl (by (with_reducible repeat (first | refine blk_drewN ?_ _ | refine blk_drew ?_ | refine blk_alloc ?_ _)); refine blk_put (cs := #[.int .i64 H, .slice none 0 0]) ?_ 1 _ rfl; (with_reducible repeat (first | refine blk_drewN ?_ _ | refine blk_drew ?_ | refine blk_alloc ?_ _)); refine blk_put (cs := #[.int .i64 0, .slice none 0 0]) ?_ 0 _ rfl; (with_reducible repeat (first | refine blk_drewN ?_ _ | refine blk_drew ?_ | refine blk_alloc ?_ _)); exact BK4.out) Try.underlying69 rfl (by kernel_rfl)) rfl ?_
        exact ⟨_, rfl, by (with_reducible repeat (first | apply Kd.S_alloc | apply Kd.S_drewN | apply Kd.S_drew)); exact Kd.S_mono (Kd.S_far (p := ⟨gb4, 1, none⟩) (Kd.S_far (p := ⟨gb4, 0, none⟩) (Kd.S_types HSX.out BK4.out (by decide)) (fun _ hk => hk.2) _) (fun _ hk => hk.2) _) (fun _ hk => trivial), by exact bel_ HB.out⟩
      | succ d1 =>
        have hc1 : decide (ft < e) = true := decide_eq_true (by omega)
        clear hed
        have HOX : Aside0 ((∀ x ∈ X, x.length ≤ 100) ∧ (if Yt.to H fa X X 0 (-1) < 0 then some none else if Yt.to H fa X X 0 (-1) < (X.length : Int) ∧ Yt.to H fa X X 0 (-1) ≠ fa then Yt.out H fa d1 (Yt.lift X fa (Yt.to H fa X X 0 (-1))) (m + 1) else none) = some R) := ⟨by
          have h := HO.out
          unfold Yt.out at h
          by_cases hall : ∀ x ∈ X, x.length ≤ 100
          · rw [if_pos hall] at h; exact ⟨hall, h⟩
          · rw [if_neg hall] at h; cases h⟩
        clear HO
        go_wp2
        go_loopg [14, 169] (l.length + 1) (fun kq v14 v169 w' => ∃ (t i : Int), v14 = .int .i64 t ∧ v169 = .int .i64 i ∧ Aside0 (0 ≤ i ∧ i ≤ (l.length : Int) ∧ (l.length : Int) - i < (kq : Int) ∧ -1 ≤ t ∧ t < (l.length : Int)) ∧ Aside0 (Yt.to H fa X (X.drop i.toNat) i t = Yt.to H fa X X 0 (-1)) ∧ Aside0 (Kd.S (Kd.slice 3 (Kd.int .i64)) 28 w' w.heap.size (fun k => M ≤ k) (.slice (some ⟨gx, 0, none⟩) l.length cx) X) ∧ Aside0 (Kd.S (Kd.slice 3 (Kd.int .i64)) 28 w' w.heap.size (fun k => k < M) (.slice Aw l.length cw) l) ∧ Aside0 (w'.heap[gb2]? = some (.cells #[.int .i64 H, .slice A l.length c] 69 (0, 0))) ∧ Aside0 (w'.heap[gb3]? = some (.cells #[.int .i64 2, .int .i64 b, .int .i64 s] 76 (0, 0))) ∧ Aside0 (w'.heap[gb4]? = some (.cells #[.int .i64 0, .slice none 0 0] 69 (0, 0))) ∧ Aside0 (w'.heap[gb7]? = some (.cells #[.int .i64 H, .slice Aw l.length cw] 69 (0, 0))) ∧ Aside0 (w'.heap[gb9]? = some (.cells #[.int .i64 H, .slice (some ⟨gx, 0, none⟩) l.length cx] 69 (0, 0))) ∧ Aside0 (Below w.heap.size w w'))
        case atStart => exact ⟨-1, 0, rfl, rfl, ⟨by omega⟩, ⟨by rw [show (0 : Int).toNat = 0 from rfl, List.drop_zero]⟩, ⟨Yt.sp HSX.out⟩, ⟨Yt.sp HSW.out⟩, ⟨fb_ BK2.out⟩, ⟨fb_ BK3.out⟩, ⟨fb_ BK4.out⟩, ⟨fb_ BK7.out⟩, ⟨fb_ BK9.out⟩, ⟨by exact bel_ HB.out⟩⟩
        case round =>
          clear hxa
          clear HB HSX HSW BK2 BK3 BK4 BK7 BK9
          try clear hcz2_0 hfz2_0 hcz2_1 hfz2_1
          try clear hcz3_0 hfz3_0 hcz3_1 hfz3_1 hcz3_2 hfz3_2
          try clear hcz4_0 hfz4_0 hcz4_1 hfz4_1
          try clear hcz7_0 hfz7_0 hcz7_1 hfz7_1
          try clear hcz9_0 hfz9_0 hcz9_1 hfz9_1
          try clear hnb2_3 hnc2_3 hnb2_4 hnc2_4 hnb2_7 hnc2_7 hnb2_9 hnc2_9 hnb3_4 hnc3_4 hnb3_7 hnc3_7 hnb3_9 hnc3_9 hnb4_7 hnc4_7 hnb4_9 hnc4_9 hnb7_9 hnc7_9
          obtain ⟨t, i, rfl, rfl, HJ, HT, HSX, HSW, BK2, BK3, BK4, BK7, BK9, HB⟩ := hrel
          cases gk with
          | zero => exact absurd HJ.out.2.2.1 (by have := HJ.out; omega)
          | succ k2 =>
            obtain ⟨hcz2_0, hfz2_0, hcz2_1, hfz2_1⟩ := Yt.c2 BK2.out; obtain ⟨hcz3_0, hfz3_0, hcz3_1, hfz3_1, hcz3_2, hfz3_2⟩ := Yt.c3 BK3.out; obtain ⟨hcz4_0, hfz4_0, hcz4_1, hfz4_1⟩ := Yt.c2 BK4.out; obtain ⟨hcz7_0, hfz7_0, hcz7_1, hfz7_1⟩ := Yt.c2 BK7.out; obtain ⟨hcz9_0, hfz9_0, hcz9_1, hfz9_1⟩ := Yt.c2 BK9.out
            have hnb2_3 := NB2_3.out; have hnc2_3 := Ne.symm NB2_3.out
            have hnb2_4 := NB2_4.out; have hnc2_4 := Ne.symm NB2_4.out
            have hnb2_7 := NB2_7.out; have hnc2_7 := Ne.symm NB2_7.out
            have hnb2_9 := NB2_9.out; have hnc2_9 := Ne.symm NB2_9.out
            have hnb3_4 := NB3_4.out; have hnc3_4 := Ne.symm NB3_4.out
            have hnb3_7 := NB3_7.out; have hnc3_7 := Ne.symm NB3_7.out
            have hnb3_9 := NB3_9.out; have hnc3_9 := Ne.symm NB3_9.out
            have hnb4_7 := NB4_7.out; have hnc4_7 := Ne.symm NB4_7.out
            have hnb4_9 := NB4_9.out; have hnc4_9 := Ne.symm NB4_9.out
            have hnb7_9 := NB7_9.out; have hnc7_9 := Ne.symm NB7_9.out
            by_cases c3 : i < (l.length : Int)
            · have c3b : decide (i < (l.length : Int)) = true := decide_eq_true c3
              have h0i : 0 ≤ i := HJ.out.1
              obtain ⟨Ai, ci, hxi, hci, hCi⟩ := Yt.get HSX.out i h0i c3
              obtain ⟨si, hsi⟩ : ∃ q, q = rd_L2 X i := ⟨_, rfl⟩
              rw [← hsi] at hxi hci hCi
              clear hci hCi
              have HSI := Aside0.mk hsi
              have q0i : (0 ≤ i) = True := eq_true h0i
              have q1i : (i < (l.length : Int)) = True := eq_true c3
              have C3 := Aside0.mk c3
              have HWI : Aside0 (wrap64 (i + 1) = i + 1) := ⟨impl_YardOk.w64 (by omega) (by have := HS1.out; omega)⟩
              have HT2 : Aside0 (Yt.to H fa X (X.drop (i + 1).toNat) (i + 1) (if (i != fa && (decide ((si.length : Int) < H) && (decide (t < 0) || decide ((si.length : Int) < ((rd_L2 X t).length : Int))))) = true then i else t) = Yt.to H fa X X 0 (-1)) := ⟨by rw [← HT.out, impl_YardOk.drop_rd2 X i h0i (by rw [HXL.out]; exact c3), hsi]; rfl⟩
              clear HT c3 hsi
              obtain ⟨B1, b1⟩ : ∃ B, (i != fa) = B := ⟨_, rfl⟩
              obtain ⟨B2, b2⟩ : ∃ B, decide ((si.length : Int) < H) = B := ⟨_, rfl⟩
              obtain ⟨B3, b3⟩ : ∃ B, decide (t < 0) = B := ⟨_, rfl⟩
              rw [b1, b2, b3] at HT2
              cases B1 with
              | false =>
                go_wp2
                repeat (go_quiet (fail); try go_wp2)
                all_goals (go_roundg k2)
                case measure => have := HJ.out; have := C3.out; omega
                case rel => exact ⟨t, i + 1, rfl, by first | rfl | rw [HWI.out], ⟨by have := HJ.out; have := C3.out; omega⟩, ⟨HT2.out⟩, ⟨Yt.sp HSX.out⟩, ⟨Yt.sp HSW.out⟩, ⟨fb_ BK2.out⟩, ⟨fb_ BK3.out⟩, ⟨fb_ BK4.out⟩, ⟨fb_ BK7.out⟩, ⟨fb_ BK9.out⟩, ⟨by exact bel_ HB.out⟩⟩
              | true =>
                cases B2 with
                | false =>
                  go_wp2
                  repeat (go_quiet (fail); try go_wp2)
                  all_goals (go_roundg k2)
                  case measure => have := HJ.out; have := C3.out; omega
                  case rel => exact ⟨t, i + 1, rfl, by first | rfl | rw [HWI.out], ⟨by have := HJ.out; have := C3.out; omega⟩, ⟨HT2.out⟩, ⟨Yt.sp HSX.out⟩, ⟨Yt.sp HSW.out⟩, ⟨fb_ BK2.out⟩, ⟨fb_ BK3.out⟩, ⟨fb_ BK4.out⟩, ⟨fb_ BK7.out⟩, ⟨fb_ BK9.out⟩, ⟨by exact bel_ HB.out⟩⟩
                | true =>
                  cases B3 with
                  | true =>
                    go_wp2
                    repeat (go_quiet (fail); try go_wp2)
                    all_goals (go_roundg k2)
                    case measure => have := HJ.out; have := C3.out; omega
                    case rel => exact ⟨i, i + 1, rfl, by first | rfl | rw [HWI.out], ⟨by have := HJ.out; have := C3.out; omega⟩, ⟨HT2.out⟩, ⟨Yt.sp HSX.out⟩, ⟨Yt.sp HSW.out⟩, ⟨fb_ BK2.out⟩, ⟨fb_ BK3.out⟩, ⟨fb_ BK4.out⟩, ⟨fb_ BK7.out⟩, ⟨fb_ BK9.out⟩, ⟨by exact bel_ HB.out⟩⟩
                  | false =>
                    have h0t : 0 ≤ t := by have := of_decide_eq_false b3; omega
                    have h1t : t < (l.length : Int) := HJ.out.2.2.2.2
                    obtain ⟨At, ct, hxt, hct, hCt⟩ := Yt.get HSX.out t h0t h1t
                    obtain ⟨st, hst⟩ : ∃ q, q = rd_L2 X t := ⟨_, rfl⟩
                    rw [← hst] at hxt hct hCt HT2
                    clear hct hCt hst
                    have q0t : (0 ≤ t) = True := eq_true h0t
                    have q1t : (t < (l.length : Int)) = True := eq_true h1t
                    by_cases c4 : (si.length : Int) < (st.length : Int)
                    · have b4 : decide ((si.length : Int) < (st.length : Int)) = true := decide_eq_true c4
                      have b5 : decide (si.length < st.length) = true := decide_eq_true (by omega)
                      have c5 : (si.length < st.length) = True := eq_true (by omega)
                      rw [b4] at HT2
                      clear c4
                      go_wp2
                      repeat (go_quiet (fail); try go_wp2)
                      all_goals (go_roundg k2)
                      case measure => have := HJ.out; have := C3.out; omega
                      case rel => exact ⟨i, i + 1, rfl, by first | rfl | rw [HWI.out], ⟨by have := HJ.out; have := C3.out; omega⟩, ⟨HT2.out⟩, ⟨Yt.sp HSX.out⟩, ⟨Yt.sp HSW.out⟩, ⟨fb_ BK2.out⟩, ⟨fb_ BK3.out⟩, ⟨fb_ BK4.out⟩, ⟨fb_ BK7.out⟩, ⟨fb_ BK9.out⟩, ⟨by exact bel_ HB.out⟩⟩
                    · have b4 : decide ((si.length : Int) < (st.length : Int)) = false := decide_eq_false c4
                      have b5 : decide (si.length < st.length) = false := decide_eq_false (by omega)
                      have c5 : (si.length < st.length) = False := eq_false (by omega)
                      rw [b4] at HT2
                      clear c4
                      go_wp2
                      repeat (go_quiet (fail); try go_wp2)
                      all_goals (go_roundg k2)
                      case measure => have := HJ.out; have := C3.out; omega
                      case rel => exact ⟨t, i + 1, rfl, by first | rfl | rw [HWI.out], ⟨by have := HJ.out; have := C3.out; omega⟩, ⟨HT2.out⟩, ⟨Yt.sp HSX.out⟩, ⟨Yt.sp HSW.out⟩, ⟨fb_ BK2.out⟩, ⟨fb_ BK3.out⟩, ⟨fb_ BK4.out⟩, ⟨fb_ BK7.out⟩, ⟨fb_ BK9.out⟩, ⟨by exact bel_ HB.out⟩⟩
            · have c3b : decide (i < (l.length : Int)) = false := decide_eq_false c3
              have hT : Yt.to H fa X X 0 (-1) = t := by rw [← HT.out, List.drop_eq_nil_of_le (show X.length ≤ i.toNat by have := HXL.out; omega)]; rfl
              clear HT c3
              have hox := HOX.out.2
              rw [hT] at hox
              have HALL := Aside0.mk HOX.out.1
              clear HOX hT
              by_cases c6 : t < 0
              · have c6b : decide (t < 0) = true := decide_eq_true c6
                rw [if_pos c6] at hox
                have hrr : r2 = l ∧ r3 = 0 ∧ r4 = 4 := by
                    rcases HRR.out with ⟨h, h2⟩ | ⟨Xf, mf, h, _⟩
                    · exact h2
                    · rw [h] at hox; cases hox
                obtain ⟨hr2, rfl, rfl⟩ := hrr
                have hr2_ := hr2.symm
                clear hr2
                subst hr2_
                clear hox c6
                go_wp2
                refine bodyPost_ret (results_ctt rfl _ _ gb4 69 #[.int .i64 H, .slice Aw l.length cw] (0, 0) _ rfl (by (with_reducible repeat (first | refine blk_drewN ?_ _ | refine blk_drew ?_ | refine blk_alloc ?_ _)); refine blk_put (cs := #[.int .i64 H, .slice none 0 0]) ?_ 1 _ rfl; (with_reducible repeat (first | refine blk_drewN ?_ _ | refine blk_drew ?_ | refine blk_alloc ?_ _)); refine blk_put (cs := #[.int .i64 0, .slice none 0 0]) ?_ 0 _ rfl; (with_reducible repeat (first | refine blk_drewN ?_ _ | refine blk_drew ?_ | refine blk_alloc ?_ _)); exact BK4.out) Try.underlying69 rfl (by kernel_rfl)) rfl ?_
                exact ⟨_, rfl, by (with_reducible repeat (first | apply Kd.S_alloc | apply Kd.S_drewN | apply Kd.S_drew)); exact Kd.S_mono (Kd.S_far (p := ⟨gb4, 1, none⟩) (Kd.S_far (p := ⟨gb4, 0, none⟩) (Kd.S_types HSW.out BK4.out (by decide)) (fun _ hk => hk.2) _) (fun _ hk => hk.2) _) (fun _ hk => trivial), by exact bel_ HB.out⟩
              · have c6b : decide (t < 0) = false := decide_eq_false c6
                rw [if_neg c6] at hox
                have h0t : 0 ≤ t := by omega
                have h1t : t < (l.length : Int) := HJ.out.2.2.2.2
                by_cases c7 : t < (X.length : Int) ∧ t ≠ fa
                · rw [if_pos c7] at hox
                  have HOX2 := Aside0.mk hox
                  have HNE : Aside0 (fa ≠ t) := ⟨fun e_ => c7.2 e_.symm⟩
                  have HPOS : Aside0 (0 < (rd_L2 X fa).length) := ⟨by have h := HI.out.2.1; omega⟩
                  have HWM : Aside0 (wrap64 (m + 1) = m + 1) := ⟨impl_YardOk.w64 (by have := HI.out; omega) (by have := HI.out; omega)⟩
                  clear hox c7 c6
                  go_wp2_with (first | ((with_reducible refine gate_callee (f := 73) rfl ?_); refine goesL_ (some 207) rfl rfl Try.func73 (by kernel_rfl) rfl #[.agg #[.int .i64 H, .slice (some ⟨gx, 0, none⟩) l.length cx], .int .i64 fa, .int .i64 t] rfl (by (try simp only [List.map_toArray, List.map_cons, List.map_nil]); first | done | rfl) ?_; (with_reducible refine (Yt.lift_calls H gx l.length cx X fa t (fun k => M ≤ k) w.heap.size _ ?sA ?sB ?sC ha0 ha1 h0t h1t HNE.out HPOS.out HALL.out).mono ?_); (case sA => exact (below_size (by exact bel_ HB.out))); (case sB => (with_reducible repeat (first | apply Kd.S_alloc | apply Kd.S_drewN | apply Kd.S_drew)); exact HSX.out); (case sC => intro k hk; exact Nat.le_trans (Nat.le_trans HGX.out (Nat.le_of_lt (Kd.S_lt HSX.out gx rfl))) hk); rintro e w207 ⟨rfl, hS, hk, hbf⟩; refine ⟨_, rfl, ?_⟩; have n0_ := Aside0.mk (hbf w (by exact bel_ HB.out) (Nat.le_trans HMW.out HGX.out)); have m2_ := Aside0.mk (KeepBut.blk hk (g' := gb2) (o := .cells #[.int .i64 H, .slice A l.length c] 69 (0, 0)) (fb_ BK2.out) NX2.out (by simp)); have m3_ := Aside0.mk (KeepBut.blk hk (g' := gb3) (o := .cells #[.int .i64 2, .int .i64 b, .int .i64 s] 76 (0, 0)) (fb_ BK3.out) NX3.out (by simp)); have m4_ := Aside0.mk (KeepBut.blk hk (g' := gb4) (o := .cells #[.int .i64 0, .slice none 0 0] 69 (0, 0)) (fb_ BK4.out) NX4.out (by simp)); have m7_ := Aside0.mk (KeepBut.blk hk (g' := gb7) (o := .cells #[.int .i64 H, .slice Aw l.length cw] 69 (0, 0)) (fb_ BK7.out) NX7.out (by simp)); have m9_ := Aside0.mk (KeepBut.blk hk (g' := gb9) (o := .cells #[.int .i64 H, .slice (some ⟨gx, 0, none⟩) l.length cx] 69 (0, 0)) (fb_ BK9.out) NX9.out (by simp)); have sW_ := Aside0.mk (Kd.S_keep (Yt.sp HSW.out) hk (fun k hk_ e_ => by have h_ : k < M := hk_; have h2_ := HGX.out; rw [e_] at h_; exact absurd h_ (Nat.not_lt.2 h2_))); have sX_ := Aside0.mk hS; clear HB HSW HSX BK2 BK3 BK4 BK7 BK9; have HB := n0_; have HSW := sW_; have HSX := sX_; have BK2 := m2_; have BK3 := m3_; have BK4 := m4_; have BK7 := m7_; have BK9 := m9_; clear n0_ sW_ sX_ m2_ m3_ m4_ m7_ m9_; clear hS hk hbf; obtain ⟨hcz2_0, hfz2_0, hcz2_1, hfz2_1⟩ := Yt.c2 BK2.out; obtain ⟨hcz3_0, hfz3_0, hcz3_1, hfz3_1, hcz3_2, hfz3_2⟩ := Yt.c3 BK3.out; obtain ⟨hcz4_0, hfz4_0, hcz4_1, hfz4_1⟩ := Yt.c2 BK4.out; obtain ⟨hcz7_0, hfz7_0, hcz7_1, hfz7_1⟩ := Yt.c2 BK7.out; obtain ⟨hcz9_0, hfz9_0, hcz9_1, hfz9_1⟩ := Yt.c2 BK9.out))
                  repeat (go_quiet (first | ((with_reducible refine gate_callee (f := 73) rfl ?_); refine goesL_ (some 207) rfl rfl Try.func73 (by kernel_rfl) rfl #[.agg #[.int .i64 H, .slice (some ⟨gx, 0, none⟩) l.length cx], .int .i64 fa, .int .i64 t] rfl (by (try simp only [List.map_toArray, List.map_cons, List.map_nil]); first | done | rfl) ?_; (with_reducible refine (Yt.lift_calls H gx l.length cx X fa t (fun k => M ≤ k) w.heap.size _ ?sA ?sB ?sC ha0 ha1 h0t h1t HNE.out HPOS.out HALL.out).mono ?_); (case sA => exact (below_size (by exact bel_ HB.out))); (case sB => (with_reducible repeat (first | apply Kd.S_alloc | apply Kd.S_drewN | apply Kd.S_drew)); exact HSX.out); (case sC => intro k hk; exact Nat.le_trans (Nat.le_trans HGX.out (Nat.le_of_lt (Kd.S_lt HSX.out gx rfl))) hk); rintro e w207 ⟨rfl, hS, hk, hbf⟩; refine ⟨_, rfl, ?_⟩; have n0_ := Aside0.mk (hbf w (by exact bel_ HB.out) (Nat.le_trans HMW.out HGX.out)); have m2_ := Aside0.mk (KeepBut.blk hk (g' := gb2) (o := .cells #[.int .i64 H, .slice A l.length c] 69 (0, 0)) (fb_ BK2.out) NX2.out (by simp)); have m3_ := Aside0.mk (KeepBut.blk hk (g' := gb3) (o := .cells #[.int .i64 2, .int .i64 b, .int .i64 s] 76 (0, 0)) (fb_ BK3.out) NX3.out (by simp)); have m4_ := Aside0.mk (KeepBut.blk hk (g' := gb4) (o := .cells #[.int .i64 0, .slice none 0 0] 69 (0, 0)) (fb_ BK4.out) NX4.out (by simp)); have m7_ := Aside0.mk (KeepBut.blk hk (g' := gb7) (o := .cells #[.int .i64 H, .slice Aw l.length cw] 69 (0, 0)) (fb_ BK7.out) NX7.out (by simp)); have m9_ := Aside0.mk (KeepBut.blk hk (g' := gb9) (o := .cells #[.int .i64 H, .slice (some ⟨gx, 0, none⟩) l.length cx] 69 (0, 0)) (fb_ BK9.out) NX9.out (by simp)); have sW_ := Aside0.mk (Kd.S_keep (Yt.sp HSW.out) hk (fun k hk_ e_ => by have h_ : k < M := hk_; have h2_ := HGX.out; rw [e_] at h_; exact absurd h_ (Nat.not_lt.2 h2_))); have sX_ := Aside0.mk hS; clear HB HSW HSX BK2 BK3 BK4 BK7 BK9; have HB := n0_; have HSW := sW_; have HSX := sX_; have BK2 := m2_; have BK3 := m3_; have BK4 := m4_; have BK7 := m7_; have BK9 := m9_; clear n0_ sW_ sX_ m2_ m3_ m4_ m7_ m9_; clear hS hk hbf; obtain ⟨hcz2_0, hfz2_0, hcz2_1, hfz2_1⟩ := Yt.c2 BK2.out; obtain ⟨hcz3_0, hfz3_0, hcz3_1, hfz3_1, hcz3_2, hfz3_2⟩ := Yt.c3 BK3.out; obtain ⟨hcz4_0, hfz4_0, hcz4_1, hfz4_1⟩ := Yt.c2 BK4.out; obtain ⟨hcz7_0, hfz7_0, hcz7_1, hfz7_1⟩ := Yt.c2 BK7.out; obtain ⟨hcz9_0, hfz9_0, hcz9_1, hfz9_1⟩ := Yt.c2 BK9.out)); try go_wp2_with (first | ((with_reducible refine gate_callee (f := 73) rfl ?_); refine goesL_ (some 207) rfl rfl Try.func73 (by kernel_rfl) rfl #[.agg #[.int .i64 H, .slice (some ⟨gx, 0, none⟩) l.length cx], .int .i64 fa, .int .i64 t] rfl (by (try simp only [List.map_toArray, List.map_cons, List.map_nil]); first | done | rfl) ?_; (with_reducible refine (Yt.lift_calls H gx l.length cx X fa t (fun k => M ≤ k) w.heap.size _ ?sA ?sB ?sC ha0 ha1 h0t h1t HNE.out HPOS.out HALL.out).mono ?_); (case sA => exact (below_size (by exact bel_ HB.out))); (case sB => (with_reducible repeat (first | apply Kd.S_alloc | apply Kd.S_drewN | apply Kd.S_drew)); exact HSX.out); (case sC => intro k hk; exact Nat.le_trans (Nat.le_trans HGX.out (Nat.le_of_lt (Kd.S_lt HSX.out gx rfl))) hk); rintro e w207 ⟨rfl, hS, hk, hbf⟩; refine ⟨_, rfl, ?_⟩; have n0_ := Aside0.mk (hbf w (by exact bel_ HB.out) (Nat.le_trans HMW.out HGX.out)); have m2_ := Aside0.mk (KeepBut.blk hk (g' := gb2) (o := .cells #[.int .i64 H, .slice A l.length c] 69 (0, 0)) (fb_ BK2.out) NX2.out (by simp)); have m3_ := Aside0.mk (KeepBut.blk hk (g' := gb3) (o := .cells #[.int .i64 2, .int .i64 b, .int .i64 s] 76 (0, 0)) (fb_ BK3.out) NX3.out (by simp)); have m4_ := Aside0.mk (KeepBut.blk hk (g' := gb4) (o := .cells #[.int .i64 0, .slice none 0 0] 69 (0, 0)) (fb_ BK4.out) NX4.out (by simp)); have m7_ := Aside0.mk (KeepBut.blk hk (g' := gb7) (o := .cells #[.int .i64 H, .slice Aw l.length cw] 69 (0, 0)) (fb_ BK7.out) NX7.out (by simp)); have m9_ := Aside0.mk (KeepBut.blk hk (g' := gb9) (o := .cells #[.int .i64 H, .slice (some ⟨gx, 0, none⟩) l.length cx] 69 (0, 0)) (fb_ BK9.out) NX9.out (by simp)); have sW_ := Aside0.mk (Kd.S_keep (Yt.sp HSW.out) hk (fun k hk_ e_ => by have h_ : k < M := hk_; have h2_ := HGX.out; rw [e_] at h_; exact absurd h_ (Nat.not_lt.2 h2_))); have sX_ := Aside0.mk hS; clear HB HSW HSX BK2 BK3 BK4 BK7 BK9; have HB := n0_; have HSW := sW_; have HSX := sX_; have BK2 := m2_; have BK3 := m3_; have BK4 := m4_; have BK7 := m7_; have BK9 := m9_; clear n0_ sW_ sX_ m2_ m3_ m4_ m7_ m9_; clear hS hk hbf; obtain ⟨hcz2_0, hfz2_0, hcz2_1, hfz2_1⟩ := Yt.c2 BK2.out; obtain ⟨hcz3_0, hfz3_0, hcz3_1, hfz3_1, hcz3_2, hfz3_2⟩ := Yt.c3 BK3.out; obtain ⟨hcz4_0, hfz4_0, hcz4_1, hfz4_1⟩ := Yt.c2 BK4.out; obtain ⟨hcz7_0, hfz7_0, hcz7_1, hfz7_1⟩ := Yt.c2 BK7.out; obtain ⟨hcz9_0, hfz9_0, hcz9_1, hfz9_1⟩ := Yt.c2 BK9.out)))
                  go_roundg k1
                  case measure => have := HI.out; omega
                  case rel => exact ⟨Yt.lift X fa t, m + 1, d1, by first | rfl | rw [HWM.out], ⟨by have h := HI.out; have hp := HPOS.out; refine ⟨by rw [Yt.lift_length]; exact h.1, ?_, by omega, by omega, by omega⟩; rw [Yt.lift_from X fa t ha0 (by rw [h.1]; exact ha1), List.length_take]; omega⟩, HOX2, ⟨Yt.sp HSX.out⟩, ⟨Yt.sp HSW.out⟩, ⟨fb_ BK2.out⟩, ⟨fb_ BK3.out⟩, ⟨fb_ BK4.out⟩, ⟨fb_ BK7.out⟩, ⟨fb_ BK9.out⟩, ⟨by exact bel_ HB.out⟩⟩
                · rw [if_neg c7] at hox
                  cases hox
/-- what a yard's operation answers -/
def impl_DoYard.g (H : Int) (l : List (List Int)) (k b s : Int) (ok : Bool) : Option (Int × List (List Int) × Int × Int) :=
  if ok = false then some (H, l, 0, 1)
  else if ¬ (1 ≤ k ∧ k ≤ 3) then some (H, l, 0, 1)
  else if ¬ (0 < l.length) then none
  else if k = 2 then (impl_FindBox.f 50 H l b).bind fun p =>
    if p.2.2 = false then some (H, l, 0, 3)
    else if 0 ≤ p.1 ∧ p.1 < (l.length : Int) ∧ 0 ≤ p.2.1 ∧ p.2.1 < ((rd_L2 l p.1).length : Int) then
      (Yt.out H p.1 (((rd_L2 l p.1).length : Int) - 1 - p.2.1).toNat l 0).bind fun R => match R with
        | none => some (H, l, 0, 4)
        | some (X, m) => some (H, X.set p.1.toNat ((rd_L2 X p.1).take p.2.1.toNat), m, 0)
    else none
  else if ¬ (0 ≤ s ∧ s < (l.length : Int)) then some (H, l, 0, 1)
  else if k = 1 then
    (if impl_YardOk.idr b = false then some (H, l, 0, 1)
     else (impl_FindBox.f 50 H l b).bind fun p =>
      if p.2.2 = true then some (H, l, 0, 2)
      else if ((rd_L2 l s).length : Int) = H then some (H, l, 0, 4)
      else some (H, l.set s.toNat (rd_L2 l s ++ [b]), 0, 0))
  else if ¬ (0 ≤ b ∧ b < (l.length : Int)) then some (H, l, 0, 1)
  else if b = s then some (H, l, 0, 1)
  else (impl_FindBox.f 50 H l b).bind fun _ =>
    if (rd_L2 l b).length = 0 then some (H, l, 0, 3)
    else if ((rd_L2 l s).length : Int) = H then some (H, l, 0, 4)
    else some (H, Yt.lift l b s, 0, 0)
def impl_DoYard.f (a0_0 : Int) (l0_1 : List (List Int)) (a1_0 a1_1 a1_2 : Int) : Option (Int × List (List Int) × Int × Int) :=
  if l0_1.length ≤ 1000 ∧ (∀ x ∈ l0_1, x.length ≤ 100) then (impl_YardOk.f a0_0 l0_1).bind fun ok => impl_DoYard.g a0_0 l0_1 a1_0 a1_1 a1_2 ok else none
theorem impl_DoYard.calls (a0_0 : Int) (A0_1 : Option Addr) (c0_1 : Nat) (l0_1 : List (List Int)) (a1_0 a1_1 a1_2 : Int) (r1 : Int) (r2 : List (List Int)) (r3 r4 : Int) (w : World) (hr0_1 : Kd.C (Kd.slice 3 (Kd.int .i64)) w A0_1 l0_1.length l0_1) (hc0_1 : l0_1.length ≤ c0_1) (h : impl_DoYard.f a0_0 l0_1 a1_0 a1_1 a1_2 = some (r1, r2, r3, r4)) :
    Calls Try.prog 31 #[.agg #[.int .i64 a0_0, .slice A0_1 l0_1.length c0_1], .agg #[.int .i64 a1_0, .int .i64 a1_1, .int .i64 a1_2]] w fun e w' => ∃ v0_ : Value, e = .returned (.tuple #[.agg #[.int .i64 r1, v0_], .int .i64 r3, .int .i64 r4]) ∧ Kd.S (Kd.slice 3 (Kd.int .i64)) 28 w' w.heap.size (fun _ => True) v0_ r2 ∧ Below w.heap.size w w' := by
  unfold impl_DoYard.f at h
  by_cases hl : l0_1.length ≤ 1000 ∧ (∀ x ∈ l0_1, x.length ≤ 100)
  case neg => rw [if_neg hl] at h; cases h
  rw [if_pos hl] at h
  obtain ⟨hs1, hs2⟩ := hl
  obtain ⟨ok, hok, h'⟩ := Option.bind_eq_some_iff.1 h
  clear h
  have h := h'
  clear h'
  unfold impl_DoYard.g at h
  have rdl : ∀ i : Int, 0 ≤ i → i < (l0_1.length : Int) → (rd_L2 l0_1 i).length ≤ 100 := by
    intro i h0 h1
    refine hs2 _ ?_
    have hq : i.toNat < l0_1.length := by omega
    simp only [rd_L2, List.getD_eq_getElem?_getD, List.getElem?_eq_getElem hq]
    exact List.getElem_mem hq
  cases ok with
  | false =>
    rw [if_pos rfl] at h
    simp only [Option.some.injEq, Prod.mk.injEq] at h
    obtain ⟨rfl, rfl, rfl, rfl⟩ := h
    exact impl_DoYard.bad_ok _ _ _ _ _ _ _ w hr0_1 hc0_1 hs1 hs2 hok
  | true =>
    rw [if_neg (by decide)] at h
    by_cases hk : 1 ≤ a1_0 ∧ a1_0 ≤ 3
    case neg =>
      rw [if_pos hk] at h
      simp only [Option.some.injEq, Prod.mk.injEq] at h
      obtain ⟨rfl, rfl, rfl, rfl⟩ := h
      refine impl_DoYard.bad_kind _ _ _ _ _ _ _ w hr0_1 hc0_1 hs1 hs2 hok ?_
      rw [impl_YardOk.in_eq]
      congr 1
      rw [Bool.and_eq_false_iff, decide_eq_false_iff_not, decide_eq_false_iff_not]
      omega
    rw [if_neg (fun hn => hn hk)] at h
    by_cases hlen : 0 < l0_1.length
    case neg => rw [if_pos hlen] at h; cases h
    rw [if_neg (fun hn => hn hlen)] at h
    by_cases k2 : a1_0 = 2
    · subst k2
      rw [if_pos rfl] at h
      obtain ⟨⟨fa, ft, fth⟩, hfb, h⟩ := Option.bind_eq_some_iff.1 h
      dsimp only at h
      cases fth with
      | false =>
        rw [if_pos rfl] at h
        simp only [Option.some.injEq, Prod.mk.injEq] at h
        obtain ⟨rfl, rfl, rfl, rfl⟩ := h
        exact impl_DoYard.out_none _ _ _ _ _ _ w hr0_1 hc0_1 hs1 hs2 hok fa ft hfb hlen
      | true =>
        rw [if_neg (by decide)] at h
        by_cases hr : 0 ≤ fa ∧ fa < (l0_1.length : Int) ∧ 0 ≤ ft ∧ ft < ((rd_L2 l0_1 fa).length : Int)
        case neg => rw [if_neg hr] at h; cases h
        rw [if_pos hr] at h
        obtain ⟨ha0, ha1, ht0, ht1⟩ := hr
        obtain ⟨R, hout, h⟩ := Option.bind_eq_some_iff.1 h
        have hb := rdl fa ha0 ha1
        have hq : r1 = a0_0 ∧ ((R = none ∧ r2 = l0_1 ∧ r3 = 0 ∧ r4 = 4) ∨ (∃ Xf mf, R = some (Xf, mf) ∧ r2 = Xf.set fa.toNat ((rd_L2 Xf fa).take ft.toNat) ∧ r3 = mf ∧ r4 = 0)) := by
          cases R with
          | none =>
            simp only [Option.some.injEq, Prod.mk.injEq] at h
            obtain ⟨rfl, rfl, rfl, rfl⟩ := h
            exact ⟨rfl, .inl ⟨rfl, rfl, rfl, rfl⟩⟩
          | some p =>
            obtain ⟨X, m⟩ := p
            simp only [Option.some.injEq, Prod.mk.injEq] at h
            obtain ⟨rfl, rfl, rfl, rfl⟩ := h
            exact ⟨rfl, .inr ⟨X, m, rfl, rfl, rfl, rfl⟩⟩
        obtain ⟨rfl, hR⟩ := hq
        exact impl_DoYard.out_done _ _ _ _ _ _ w hr0_1 hc0_1 hs1 hs2 hok fa ft hfb hlen ha0 ha1 ht0 _ (by omega) (by omega) (by omega) R hout r2 r3 r4 hR
    rw [if_neg k2] at h
    by_cases hst : 0 ≤ a1_2 ∧ a1_2 < (l0_1.length : Int)
    case neg =>
      rw [if_pos hst] at h
      simp only [Option.some.injEq, Prod.mk.injEq] at h
      obtain ⟨rfl, rfl, rfl, rfl⟩ := h
      have hi : impl_in.f a1_2 0 ((l0_1.length : Int) - 1) = some false := by
        rw [impl_YardOk.in_eq]
        congr 1
        rw [Bool.and_eq_false_iff, decide_eq_false_iff_not, decide_eq_false_iff_not]
        omega
      by_cases k1 : a1_0 = 1
      · subst k1
        exact impl_DoYard.bad_stack1 _ _ _ _ _ _ w hr0_1 hc0_1 hs1 hs2 hok hi
      · obtain rfl : a1_0 = 3 := by omega
        exact impl_DoYard.bad_stack3 _ _ _ _ _ _ w hr0_1 hc0_1 hs1 hs2 hok hi
    rw [if_neg (fun hn => hn hst)] at h
    have hi : impl_in.f a1_2 0 ((l0_1.length : Int) - 1) = some true := by
      rw [impl_YardOk.in_eq, decide_eq_true hst.1, decide_eq_true (show a1_2 ≤ (l0_1.length : Int) - 1 by omega)]
      rfl
    by_cases k1 : a1_0 = 1
    · subst k1
      rw [if_pos rfl] at h
      by_cases hid : impl_YardOk.idr a1_1 = false
      · rw [if_pos hid] at h
        simp only [Option.some.injEq, Prod.mk.injEq] at h
        obtain ⟨rfl, rfl, rfl, rfl⟩ := h
        exact impl_DoYard.bad_id _ _ _ _ _ _ w hr0_1 hc0_1 hs1 hs2 hok hi (by rw [impl_YardOk.id_eq, hid])
      · rw [if_neg hid] at h
        have hid2 : impl_idRight.f a1_1 = some true := by rw [impl_YardOk.id_eq]; congr 1; simpa using hid
        obtain ⟨⟨fa, ft, fth⟩, hfb, h⟩ := Option.bind_eq_some_iff.1 h
        dsimp only at h
        cases fth with
        | true =>
          rw [if_pos rfl] at h
          simp only [Option.some.injEq, Prod.mk.injEq] at h
          obtain ⟨rfl, rfl, rfl, rfl⟩ := h
          exact impl_DoYard.in_has _ _ _ _ _ _ w hr0_1 hc0_1 hs1 hs2 hok hi hid2 fa ft hfb hlen
        | false =>
          rw [if_neg (by decide)] at h
          by_cases hf : ((rd_L2 l0_1 a1_2).length : Int) = a0_0
          · rw [if_pos hf] at h
            simp only [Option.some.injEq, Prod.mk.injEq] at h
            obtain ⟨rfl, rfl, rfl, rfl⟩ := h
            exact impl_DoYard.in_full _ _ _ _ _ _ w hr0_1 hc0_1 hs1 hs2 hok hi hid2 fa ft hfb hlen hst.1 hst.2 (beq_iff_eq.2 hf)
          · rw [if_neg hf] at h
            simp only [Option.some.injEq, Prod.mk.injEq] at h
            obtain ⟨rfl, rfl, rfl, rfl⟩ := h
            exact impl_DoYard.in_done _ _ _ _ _ _ w hr0_1 hc0_1 hs1 hs2 hok hi hid2 fa ft hfb hlen hst.1 hst.2 (beq_eq_false_iff_ne.2 hf)
    rw [if_neg k1] at h
    obtain rfl : a1_0 = 3 := by omega
    by_cases hbx : 0 ≤ a1_1 ∧ a1_1 < (l0_1.length : Int)
    case neg =>
      rw [if_pos hbx] at h
      simp only [Option.some.injEq, Prod.mk.injEq] at h
      obtain ⟨rfl, rfl, rfl, rfl⟩ := h
      refine impl_DoYard.bad_box _ _ _ _ _ _ w hr0_1 hc0_1 hs1 hs2 hok hi ?_
      rw [impl_YardOk.in_eq]
      congr 1
      rw [Bool.and_eq_false_iff, decide_eq_false_iff_not, decide_eq_false_iff_not]
      omega
    rw [if_neg (fun hn => hn hbx)] at h
    have hib : impl_in.f a1_1 0 ((l0_1.length : Int) - 1) = some true := by
      rw [impl_YardOk.in_eq, decide_eq_true hbx.1, decide_eq_true (show a1_1 ≤ (l0_1.length : Int) - 1 by omega)]
      rfl
    by_cases hbs : a1_1 = a1_2
    · rw [if_pos hbs] at h
      simp only [Option.some.injEq, Prod.mk.injEq] at h
      obtain ⟨rfl, rfl, rfl, rfl⟩ := h
      exact impl_DoYard.bad_same _ _ _ _ _ _ w hr0_1 hc0_1 hs1 hs2 hok hi hib (beq_iff_eq.2 hbs)
    rw [if_neg hbs] at h
    obtain ⟨⟨fa, ft, fth⟩, hfb, h⟩ := Option.bind_eq_some_iff.1 h
    by_cases hz : (rd_L2 l0_1 a1_1).length = 0
    · rw [if_pos hz] at h
      simp only [Option.some.injEq, Prod.mk.injEq] at h
      obtain ⟨rfl, rfl, rfl, rfl⟩ := h
      exact impl_DoYard.sh_none _ _ _ _ _ _ w hr0_1 hc0_1 hs1 hs2 hok hi hib (beq_eq_false_iff_ne.2 hbs) fa ft fth hfb hlen hst.1 hst.2 hbx.1 hbx.2 hz
    · rw [if_neg hz] at h
      by_cases hf : ((rd_L2 l0_1 a1_2).length : Int) = a0_0
      · rw [if_pos hf] at h
        simp only [Option.some.injEq, Prod.mk.injEq] at h
        obtain ⟨rfl, rfl, rfl, rfl⟩ := h
        exact impl_DoYard.sh_full _ _ _ _ _ _ w hr0_1 hc0_1 hs1 hs2 hok hi hib (beq_eq_false_iff_ne.2 hbs) fa ft fth hfb hlen hst.1 hst.2 hbx.1 hbx.2 (by omega) (beq_iff_eq.2 hf)
      · rw [if_neg hf] at h
        simp only [Option.some.injEq, Prod.mk.injEq] at h
        obtain ⟨rfl, rfl, rfl, rfl⟩ := h
        exact impl_DoYard.sh_done _ _ _ _ _ _ w hr0_1 hc0_1 hs1 hs2 hok hi hib (beq_eq_false_iff_ne.2 hbs) fa ft fth hfb hlen hst.1 hst.2 hbx.1 hbx.2 (by omega) (beq_eq_false_iff_ne.2 hf)

end Go.Proofs.Ytlphfhibnbhkfaa.PFnYard
