/- The Lean side of Go functions of this seat: what each answers, and that its run comes to that answer; written by a program of this work. -/
import Derived.Test.YtomkbmddhemioaaPFnExactWriteSegsx0
import Derived.Test.YtomkbmddhemioaaPFnExactWriteSegsx7
namespace Go.Proofs.Ytomkbmddhemioaa.PFnExactWriteSegs
open Go.RowKit Go.Proofs.YtomkbmddhemioaaW.PrintWords Go.Proofs.YtomkbmddhemioaaW.PrintLast Go.Proofs.YtomkbmddhemioaaW.PrintMore
attribute [local go_sem] max2_int min2_int max_two min_two max_three min_three max_four min_four   -- for this text's walks alone
set_option linter.unusedVariables false
set_option linter.unusedSimpArgs false

/-! ### impl_written: function 19 -/
theorem bldSize : (Try.prog.info? 53).map (·.size) = some 2 := by kernel_rfl
set_option maxHeartbeats 2000000 in
set_option maxRecDepth 100000 in
/-- Behind the check the builder holds its own address. -/
theorem bldCheck (B b : Nat) (bs : List Value) (w : World) (h : Lib.IsBuilder 53 5 B b bs w) :
    Calls Try.prog 40 #[.pointer (some ⟨b, 0, none⟩)] w fun e w' => e = .returned (.tuple #[]) ∧ Lib.BuilderAt 53 5 B b (.pointer (some ⟨b, 0, none⟩)) bs w' ∧ Below B w w' ∧ Lib.OthersKept 5 (some b) w w' := by
  obtain ⟨j, hj, hjs⟩ := Option.map_eq_some_iff.1 bldSize
  rcases h with h | h
  · have h0 := h.cell0
    have hs := h.shape
    have hf := h.frozen0
    go_enter Try.func40, Try.ntmps40
    go_wp2
    rw [Lib.run_to_unsafe w ⟨b, 0, none⟩ Try.underlying51 Try.underlying66 hj (by rw [hjs]; decide) hs (Nat.zero_lt_succ 1)]
    simp only [Result.andThen]
    rw [Oper.upon_value]
    go_wp2
    rw [run_callFunc_extern Try.func42 (by kernel_rfl) (by kernel_rfl) (by kernel_rfl) (e := Extern.AbiNoEscape.same) (by kernel_rfl)]
    rw [Lib.run_noEscape]
    simp only [Result.andThen]
    rw [Oper.upon_value]
    go_wp2
    rw [Lib.run_from_unsafe w ⟨b, 0, none⟩ Try.underlying66 Try.underlying51 hj hs (by kernel_rfl)]
    simp only [Result.andThen]
    rw [Oper.upon_value]
    go_wp2
    go_end0
    exact ⟨rfl, h.used _, (Below.refl B w).setCell (p := ⟨b, 0, none⟩) h.1 _, (Lib.OthersKept.refl _ _ w).setCell ⟨b, 0, none⟩ rfl _⟩
  · have h0 := h.cell0
    go_enter Try.func40, Try.ntmps40
    go_wp2
    rw [Lib.run_neq_ptr_same w _ Try.underlying51 hj]
    go_wp2
    go_end0
    exact ⟨rfl, h, Below.refl B _, Lib.OthersKept.refl _ _ _⟩

theorem bldInfo : (Try.prog.info? 5).map (fun i => (i.zero, i.size, i.bytes)) = some (some (Value.int IntKind.u8 0), 1, 1) := by kernel_rfl
theorem bld_lt {w : World} {b : Nat} {o : Obj} (h : w.heap[b]? = some o) : b < w.heap.size := (Array.getElem?_eq_some_iff.1 h).1
set_option maxHeartbeats 2000000 in
set_option maxRecDepth 100000 in
/-- One byte more. -/
theorem bldByte (B b : Nat) (bs : List Value) (c : Int) (w : World) (h : Lib.IsBuilder 53 5 B b bs w) (hlen : bs.length + 1 ≤ 140737488355328) (hBw : B ≤ w.heap.size) :
    Calls Try.prog 32 #[.pointer (some ⟨b, 0, none⟩), .int .u8 c] w fun e w' => e = .returned .nilIface ∧ Lib.BuilderAt 53 5 B b (.pointer (some ⟨b, 0, none⟩)) (bs ++ [.int .u8 c]) w' ∧ Below B w w' := by
  obtain ⟨i0, hi, hz⟩ := Option.map_eq_some_iff.1 bldInfo
  simp only [Prod.mk.injEq] at hz
  obtain ⟨hz0, hz1, hz2⟩ := hz
  go_enter Try.func32, Try.ntmps32
  go_wp2_with (go_at_call 40; refine (bldCheck B b bs _ h).mono ?_)
  rintro e w1 ⟨rfl, ⟨hB, v, hbk, hown, hne⟩, hb1, hk1⟩
  have hlt := bld_lt hbk
  have hsz := hb1.size
  have c0 : w1.cell? ⟨b, 0, none⟩ = some (.pointer (some ⟨b, 0, none⟩)) := by rw [Lib.cell_of_heap hbk]; rfl
  have c1 : w1.cell? ⟨b, 1, none⟩ = some v := by rw [Lib.cell_of_heap hbk]; rfl
  go_wp2_with (at_builtin; refine wpList_append_own _ rfl _ _ 37 rfl B 5 i0 (.int .u8 0) 1 1 Try.underlying37 hi hz0 hz1 hz2 rfl (by decide) _ _ _ rfl (hown.alloc _) ⟨w1.heap.size, 0, none⟩ 1 1 [.int .u8 c] rfl rfl ?c1 ?c2 ?c3 ?c4 ?c5 ?_)
  case c1 =>
    intro j u hj
    match j, hj with
    | 0, hj => simp at hj; subst hj; simp [Addr.add]
  case c2 => intro u hu; rw [List.mem_singleton] at hu; subst hu; rfl
  case c3 => unfold maxLen; omega
  case c4 => omega
  case c5 => simp; omega
  intro v' w2 hown' hgrow _
  have hb2 : w2.heap[b]? = some (.cells #[.pointer (some ⟨b, 0, none⟩), v] 53 (0, 0)) := by
    rw [hgrow.block b (by simp; omega) (fun e => hne e.symm), Lib.alloc_old w1 _ b hlt]
    exact hbk
  have d0 : w2.cell? ⟨b, 0, none⟩ = some (.pointer (some ⟨b, 0, none⟩)) := by rw [Lib.cell_of_heap hb2]; rfl
  have d1 : w2.cell? ⟨b, 1, none⟩ = some v := by rw [Lib.cell_of_heap hb2]; rfl
  have f1 : w2.frozen? ⟨b, 1, none⟩ = false := Lib.frozen_of_heap hb2 1
  obtain ⟨g, cap, hg2, rfl⟩ : ∃ g cap, True ∧ v' = .slice (some ⟨g, 0, none⟩) (bs.length + 1) cap := by
    rcases hown'.2 with ⟨_, h0⟩ | ⟨g, cap, cur, hv, _⟩
    · omega
    · exact ⟨g, cap, trivial, hv⟩
  go_wp2
  go_ret
  refine ⟨rfl, Lib.BuilderAt.put (T := 53) (e := 5) hB hb2 (bs' := bs ++ [.int .u8 c]) (by simpa using hown') (by decide), ?_⟩
  exact ((hb1.alloc (by omega) _).grown hgrow (by simp; omega) (fun k hk => (hown.lt k hk).1)).setCell (p := ⟨b, 1, none⟩) hB _
set_option maxHeartbeats 2000000 in
set_option maxRecDepth 100000 in
/-- A string more. -/
theorem bldStr (B b : Nat) (bs : List Value) (s : ByteArray) (w : World) (h : Lib.IsBuilder 53 5 B b bs w) (hlen : bs.length + s.size ≤ 140737488355328) (hBw : B ≤ w.heap.size) :
    Calls Try.prog 31 #[.pointer (some ⟨b, 0, none⟩), .string s] w fun e w' => e = .returned (.tuple #[.int .i64 s.size, .nilIface]) ∧ Lib.BuilderAt 53 5 B b (.pointer (some ⟨b, 0, none⟩)) (bs ++ Lib.strCells s) w' ∧ Below B w w' ∧ Lib.OthersKept 5 (some b) w w' := by
  obtain ⟨i0, hi, hz⟩ := Option.map_eq_some_iff.1 bldInfo
  simp only [Prod.mk.injEq] at hz
  obtain ⟨hz0, hz1, hz2⟩ := hz
  go_enter Try.func31, Try.ntmps31
  go_wp2_with (go_at_call 40; refine (bldCheck B b bs _ h).mono ?_)
  rintro e w1 ⟨rfl, ⟨hB, v, hbk, hown, hne⟩, hb1, hk1⟩
  have hlt := bld_lt hbk
  have hsz := hb1.size
  have c0 : w1.cell? ⟨b, 0, none⟩ = some (.pointer (some ⟨b, 0, none⟩)) := by rw [Lib.cell_of_heap hbk]; rfl
  have c1 : w1.cell? ⟨b, 1, none⟩ = some v := by rw [Lib.cell_of_heap hbk]; rfl
  go_wp2_with (at_builtin; refine Lib.wpList_append_own_string _ rfl _ _ 37 9 rfl B 5 i0 Try.underlying37 Try.underlying9 hi hz0 hz1 hz2 _ _ _ rfl hown s rfl ?c3 ?c4 ?c5 ?_)
  case c3 => unfold maxLen; omega
  case c4 => omega
  case c5 => omega
  intro v' w2 hown' hgrow _
  have hb2 : w2.heap[b]? = some (.cells #[.pointer (some ⟨b, 0, none⟩), v] 53 (0, 0)) := by
    rw [hgrow.block b hlt (fun e => hne e.symm)]
    exact hbk
  have d0 : w2.cell? ⟨b, 0, none⟩ = some (.pointer (some ⟨b, 0, none⟩)) := by rw [Lib.cell_of_heap hb2]; rfl
  have d1 : w2.cell? ⟨b, 1, none⟩ = some v := by rw [Lib.cell_of_heap hb2]; rfl
  have f1 : w2.frozen? ⟨b, 1, none⟩ = false := Lib.frozen_of_heap hb2 1
  obtain ⟨ao, n', cap, rfl⟩ : ∃ ao n' cap, v' = .slice ao n' cap := by
    rcases hown'.2 with ⟨hv, _⟩ | ⟨g, cap, cur, hv, _⟩
    · exact ⟨_, _, _, hv⟩
    · exact ⟨_, _, _, hv⟩
  go_wp2
  go_ret2
  refine ⟨rfl, Lib.BuilderAt.put (T := 53) (e := 5) hB hb2 (bs' := bs ++ Lib.strCells s) (by simpa [Lib.strCells_length] using hown') (by decide), ?_, (hk1.grown hgrow (Lib.ownsRowF_kind (World.ownsRowF_of hown))).setCell ⟨b, 1, none⟩ rfl _⟩
  exact (hb1.grown hgrow (by omega) (fun k hk => (hown.lt k hk).1)).setCell (p := ⟨b, 1, none⟩) hB _
open Go.Shelf in
shelf_lay Lays.n169 Nm 169 at Try as bldLays
theorem bldExtra : Builder.Extra Try.prog bldLays_ren where
  sizeBuilder := by kernel_rfl
  liesBuilder := by kernel_rfl
  t5 := Try.underlying5
  a5 := Try.isAgg5
  z5 := Try.sizeOf5
  v5 := Try.zeroValue5
  infoByte := by kernel_rfl
  cellsByte := by kernel_rfl
  sizeByte := by kernel_rfl
  neB5 := by decide
theorem bldDone (B b : Nat) (l : List UInt8) (w : World) (h : Lib.IsBuilder 53 5 B b (Lib.byteCells l) w) (hBw : B ≤ w.heap.size) :
    Calls Try.prog 34 #[.pointer (some ⟨b, 0, none⟩)] w fun e w' => e = .returned (.string ⟨l.toArray⟩) ∧ Below B w w' := Any.Builder_String_any bldLays bldExtra B b l w h hBw
/-- The byte of a string at a place. -/
def ub (s : ByteArray) (i : Int) : UInt8 := s.data.toList.getD i.toNat 0
mutual
def impl_written.l0 : Nat → List S36 → List UInt8 → Int → Option (List UInt8)
  | 0, _, _, _ => none
  | k + 1, x0, a, i => if i < (x0.length : Int) then (if 0 ≤ i then (if a.length + (rd_T36 x0 i).f0.size ≤ 140737488355328 then (impl_written.l1 k x0 (a ++ (rd_T36 x0 i).f0.data.toList) i 0) else (none)) else (none)) else (some a)
def impl_written.l1 : Nat → List S36 → List UInt8 → Int → Int → Option (List UInt8)
  | 0, _, _, _, _ => none
  | k + 1, x0, a, i, j => if j < ((rd_T36 x0 i).f1.length : Int) then (if 0 ≤ j then (impl_written.l2 k x0 a i j 0) else (none)) else (if a.length + 1 ≤ 140737488355328 then (impl_written.l0 k x0 (a ++ [39]) (wrap64 (i + 1))) else (none))
def impl_written.l2 : Nat → List S36 → List UInt8 → Int → Int → Int → Option (List UInt8)
  | 0, _, _, _, _, _ => none
  | k + 1, x0, a, i, j, m => if m < ((rd_L1 (rd_T36 x0 i).f1 j).length : Int) then (if 0 ≤ m then (if a.length + 1 ≤ 140737488355328 then (impl_written.l3 k x0 (a ++ [if m = 0 then 43 else 58]) i j m (rdOf ByteArray.empty (rd_L1 (rd_T36 x0 i).f1 j) m) 0) else (none)) else (none)) else (impl_written.l1 k x0 a i (wrap64 (j + 1)))
def impl_written.l3 : Nat → List S36 → List UInt8 → Int → Int → Int → ByteArray → Int → Option (List UInt8)
  | 0, _, _, _, _, _, _, _ => none
  | k + 1, x0, a, i, j, m, t, q => if q < (t.size : Int) then (if 0 ≤ q then (if a.length + 2 ≤ 140737488355328 then ((impl_marked.f (bt t q)).bind fun c => (if c = true then (impl_written.l3 k x0 ((a ++ [63]) ++ [ub t q]) i j m t (wrap64 (q + 1))) else (impl_written.l3 k x0 (a ++ [ub t q]) i j m t (wrap64 (q + 1))))) else (none)) else (none)) else (impl_written.l2 k x0 a i j (wrap64 (m + 1)))
end
def impl_written.f (k : Nat) (l0 : List S36) : Option ByteArray := (impl_written.l0 k l0 [] 0).bind fun a => (some (⟨a.toArray⟩ : ByteArray))
theorem impl_written.mono_l : ∀ k, (∀ y0 y1 y2, LeO (impl_written.l0 k y0 y1 y2) (impl_written.l0 (k + 1) y0 y1 y2)) ∧ (∀ y0 y1 y2 y3, LeO (impl_written.l1 k y0 y1 y2 y3) (impl_written.l1 (k + 1) y0 y1 y2 y3)) ∧ (∀ y0 y1 y2 y3 y4, LeO (impl_written.l2 k y0 y1 y2 y3 y4) (impl_written.l2 (k + 1) y0 y1 y2 y3 y4)) ∧ (∀ y0 y1 y2 y3 y4 y5 y6, LeO (impl_written.l3 k y0 y1 y2 y3 y4 y5 y6) (impl_written.l3 (k + 1) y0 y1 y2 y3 y4 y5 y6))
  | 0 => ⟨fun _ _ _ r h => by simp [impl_written.l0] at h, fun _ _ _ _ r h => by simp [impl_written.l1] at h, fun _ _ _ _ _ r h => by simp [impl_written.l2] at h, fun _ _ _ _ _ _ _ r h => by simp [impl_written.l3] at h⟩
  | k + 1 => by
    obtain ⟨ih0, ih1, ih2, ih3⟩ := impl_written.mono_l k
    refine ⟨?_, ?_, ?_, ?_⟩
    · intro y0 y1 y2
      unfold impl_written.l0
      repeat' first
      | (with_reducible exact ih0 _ _ _)
      | (with_reducible exact ih1 _ _ _ _)
      | (with_reducible exact ih2 _ _ _ _ _)
      | (with_reducible exact ih3 _ _ _ _ _ _ _)
      | (with_reducible exact LeO.refl _)
      | (with_reducible exact LeO.none _)
      | (with_reducible refine LeO.ite ?_ ?_)
      | (with_reducible refine LeO.bind ?_ (fun _ => ?_))
    · intro y0 y1 y2 y3
      unfold impl_written.l1
      repeat' first
      | (with_reducible exact ih0 _ _ _)
      | (with_reducible exact ih1 _ _ _ _)
      | (with_reducible exact ih2 _ _ _ _ _)
      | (with_reducible exact ih3 _ _ _ _ _ _ _)
      | (with_reducible exact LeO.refl _)
      | (with_reducible exact LeO.none _)
      | (with_reducible refine LeO.ite ?_ ?_)
      | (with_reducible refine LeO.bind ?_ (fun _ => ?_))
    · intro y0 y1 y2 y3 y4
      unfold impl_written.l2
      repeat' first
      | (with_reducible exact ih0 _ _ _)
      | (with_reducible exact ih1 _ _ _ _)
      | (with_reducible exact ih2 _ _ _ _ _)
      | (with_reducible exact ih3 _ _ _ _ _ _ _)
      | (with_reducible exact LeO.refl _)
      | (with_reducible exact LeO.none _)
      | (with_reducible refine LeO.ite ?_ ?_)
      | (with_reducible refine LeO.bind ?_ (fun _ => ?_))
    · intro y0 y1 y2 y3 y4 y5 y6
      unfold impl_written.l3
      repeat' first
      | (with_reducible exact ih0 _ _ _)
      | (with_reducible exact ih1 _ _ _ _)
      | (with_reducible exact ih2 _ _ _ _ _)
      | (with_reducible exact ih3 _ _ _ _ _ _ _)
      | (with_reducible exact LeO.refl _)
      | (with_reducible exact LeO.none _)
      | (with_reducible refine LeO.ite ?_ ?_)
      | (with_reducible refine LeO.bind ?_ (fun _ => ?_))
theorem impl_written.mono : ∀ a0 k, LeO (impl_written.f k a0) (impl_written.f (k + 1) a0) := by
  intro a0 k
  unfold impl_written.f
  exact LeO.bind ((impl_written.mono_l k).1 _ _ _) (fun _ => LeO.refl _)
/-- The builder of the call holds the bytes l. -/
def Bl (B : Nat) (W : World) (l : List UInt8) : Prop := Lib.IsBuilder 53 5 B B (Lib.byteCells l) W
theorem Bl_step {B : Nat} {W W1 : World} {l : List UInt8} (h : Bl B W l) (hb : Below W.heap.size W W1) : Bl B W1 l := by
  have key : ∀ p, Lib.BuilderAt 53 5 B B p (Lib.byteCells l) W → Lib.BuilderAt 53 5 B B p (Lib.byteCells l) W1 := fun p h => by
    obtain ⟨hB, v, hh, ho, hn⟩ := h
    exact ⟨hB, v, (hb.block B (Array.getElem?_eq_some_iff.1 hh).1).trans hh, own_move ho (fun k hk => hb.block k (own_lt ho k hk)), hn⟩
  exact h.elim (fun h => .inl (key _ h)) (fun h => .inr (key _ h))
set_option maxHeartbeats 8000000 in
set_option maxRecDepth 100000 in
theorem impl_written.calls (k : Nat) (A0 : Option Addr) (c0 : Nat) (l0 : List (S36)) (r : ByteArray) (w : World) (hr0 : Kd.C k36 w A0 l0.length l0) (hc0 : l0.length ≤ c0) (h : impl_written.f k l0 = some r) :
    Calls Try.prog 19 #[.slice A0 l0.length c0] w fun e w' => e = .returned (.string r) ∧ Below w.heap.size w w' := by
  have HR0 := Aside0.mk hr0
  clear hr0
  have HB := Aside0.mk (Below.refl w.heap.size w)
  unfold impl_written.f at h
  obtain ⟨fin, hfin, hr⟩ := Option.bind_eq_some_iff.1 h
  injection hr with hr
  subst hr
  have H' := Aside0.mk hfin
  clear h hfin
  have hu36 := Try.underlying36
  have hu53 := Try.underlying53
  go_enter Try.func19, Try.ntmps19
  go_wp2
  go_loopg [13] k (fun kq v13 w' => ∃ (a : List UInt8) (i : Int), v13 = .int .i64 i ∧ Aside0 (impl_written.l0 kq l0 a i = some fin) ∧ Aside0 (kq ≤ k) ∧ Aside0 (Bl w.heap.size w' a) ∧ Aside0 (Below w.heap.size w w'))
  case atStart =>
    exact ⟨[], 0, rfl, H', ⟨Nat.le_refl _⟩, ⟨Lib.fresh_isBuilder 53 5 w⟩, ⟨below_alloc HB.out _⟩⟩
  case round =>
    clear H' HB
    obtain ⟨a, i, rfl, HA, HK1, HL, HB⟩ := hrel
    cases gk with
    | zero => exact absurd HA.out (by simp [impl_written.l0])
    | succ k1 =>
      have H := HA.out
      clear HA
      simp only [impl_written.l0] at H
      by_cases c1 : i < (l0.length : Int)
      · rw [if_pos c1] at H
        have c1b : decide (i < (l0.length : Int)) = true := decide_eq_true c1
        by_cases c2 : 0 ≤ i
        · rw [if_pos c2] at H
          have c2b : decide (0 ≤ i) = true := decide_eq_true c2
          by_cases c3 : a.length + (rd_T36 l0 i).f0.size ≤ 140737488355328
          · rw [if_pos c3] at H
            have H' := Aside0.mk H
            have C3 := Aside0.mk c3
            clear H c3
            obtain ⟨ad, A1, c1', e1, hx0, hx1, hl1, hi1⟩ := at_T36 HR0.out i c2 c1
            cases e1
            replace hx0 := (HB.out.cell (World.block_lt_of_cell? w _ hx0)).trans hx0
            replace hx1 := (HB.out.cell (World.block_lt_of_cell? w _ hx1)).trans hx1
            have HR1 := Aside0.mk hi1
            have HC1 := Aside0.mk hl1
            clear hi1 hl1
            replace c1 := eq_true c1
            replace c2 := eq_true c2
            go_wp2_with (
              go_at_call 31
              refine (bldStr w.heap.size w.heap.size (Lib.byteCells a) (rd_T36 l0 i).f0 _ (Bl_step HL.out (below_alloc (Below.refl _ _) _)) (by rw [Lib.byteCells_length]; exact C3.out) (Nat.le_trans HB.out.size (below_alloc (Below.refl wr.heap.size wr) _).size)).mono ?_
              rintro e w2 ⟨rfl, h1, hb, hk⟩
              have hg := hk wr.heap.size _ (blk_new wr _) (by have := HL.out.elim (fun h => h.lt) (fun h => h.lt); intro e_; injection e_ with e_; omega) (by intro c_ f_ e_; injection e_ with _ e_ _; exact absurd e_ (by decide))
              have hs1 : w2.cell? ⟨wr.heap.size, 1, none⟩ = some (.slice A1 (rd_T36 l0 i).f1.length c1') := by rw [Lib.cell_of_heap hg]; rfl
              have n0 := Aside0.mk (show Bl w.heap.size w2 (a ++ (rd_T36 l0 i).f0.data.toList) from by unfold Bl; rw [Lib.byteCells_append]; exact Or.inr h1)
              have n1 := Aside0.mk ((below_alloc HB.out _).trans hb)
              clear HL HB h1 hb hk hg
              have HL := n0
              have HB := n1
              clear n0 n1)
            go_loopg [23] k1 (fun kq v23 w' => ∃ (a : List UInt8) (j : Int), v23 = .int .i64 j ∧ Aside0 (impl_written.l1 kq l0 a i j = some fin) ∧ Aside0 (kq ≤ k1) ∧ Aside0 (Bl w.heap.size w' a) ∧ Aside0 (Below w.heap.size w w'))
            case atStart => exact ⟨_, 0, rfl, H', ⟨Nat.le_refl _⟩, HL, HB⟩
            case round =>
              clear H' HB HL C3
              try clear hs1
              try clear hx0
              try clear hx1
              obtain ⟨a, j, rfl, HA, HK2, HL, HB⟩ := hrel
              cases gk with
              | zero => exact absurd HA.out (by simp [impl_written.l1])
              | succ k2 =>
                have H := HA.out
                clear HA
                simp only [impl_written.l1] at H
                by_cases d1 : j < ((rd_T36 l0 i).f1.length : Int)
                · rw [if_pos d1] at H
                  have d1b : decide (j < ((rd_T36 l0 i).f1.length : Int)) = true := decide_eq_true d1
                  by_cases d2 : 0 ≤ j
                  · rw [if_pos d2] at H
                    have d2b : decide (0 ≤ j) = true := decide_eq_true d2
                    have H' := Aside0.mk H
                    clear H
                    obtain ⟨ad2, A2, c2', e2, hy0, hl2, hi2⟩ := at_L1 HR1.out j d2 d1
                    cases e2
                    replace hy0 := (HB.out.cell (World.block_lt_of_cell? w _ hy0)).trans hy0
                    have HR2 := Aside0.mk hi2
                    have HC2 := Aside0.mk hl2
                    clear hi2 hl2
                    replace d1 := eq_true d1
                    replace d2 := eq_true d2
                    go_wp2
                    go_loopg [29] k2 (fun kq v29 w' => ∃ (a : List UInt8) (m : Int), v29 = .int .i64 m ∧ Aside0 (impl_written.l2 kq l0 a i j m = some fin) ∧ Aside0 (kq ≤ k2) ∧ Aside0 (Bl w.heap.size w' a) ∧ Aside0 (Below w.heap.size w w'))
                    case atStart => exact ⟨_, 0, rfl, H', ⟨Nat.le_refl _⟩, HL, HB⟩
                    case round =>
                      clear H' HB HL
                      try clear hy0
                      obtain ⟨a, m, rfl, HA, HK3, HL, HB⟩ := hrel
                      cases gk with
                      | zero => exact absurd HA.out (by simp [impl_written.l2])
                      | succ k3 =>
                        have H := HA.out
                        clear HA
                        simp only [impl_written.l2] at H
                        by_cases f1 : m < ((rd_L1 (rd_T36 l0 i).f1 j).length : Int)
                        · rw [if_pos f1] at H
                          have f1b : decide (m < ((rd_L1 (rd_T36 l0 i).f1 j).length : Int)) = true := decide_eq_true f1
                          by_cases f2 : 0 ≤ m
                          · rw [if_pos f2] at H
                            have f2b : decide (0 ≤ m) = true := decide_eq_true f2
                            by_cases f3 : a.length + 1 ≤ 140737488355328
                            · rw [if_pos f3] at H
                              have H' := Aside0.mk H
                              have F3 := Aside0.mk f3
                              clear H f3
                              obtain ⟨ad3, e3, hz0⟩ := Kd.at_string HR2.out m f2 f1
                              cases e3
                              replace hz0 := (HB.out.cell (World.block_lt_of_cell? w _ hz0)).trans hz0
                              replace f1 := eq_true f1
                              have F2 := Aside0.mk f2
                              replace f2 := eq_true f2
                              obtain ⟨y, hy⟩ : ∃ y : Int, y = if m = 0 then 0 else 1 := ⟨_, rfl⟩
                              obtain ⟨z, hz⟩ : ∃ z : Int, z = if m = 0 then 43 else 58 := ⟨_, rfl⟩
                              have hmin := Aside0.mk (show (if (1 : Int) < m then (1 : Int) else m) = y from by
                                have := F2.out
                                rw [hy]
                                split <;> split <;> omega)
                              have HY := Aside0.mk hy
                              have HZ := Aside0.mk hz
                              clear hy hz
                              go_wp2_with (first
                                | ((with_reducible refine gate_dst (N := 35) rfl ?_); refine Kd.event_run (w1 := wr) rfl (v := .int .i64 y) ?hr ?_; (case hr => rw [← hmin.out]; first | (go_simp; done) | (go_simp; rfl) | rfl))
                                | ((with_reducible refine gate_dst (N := 36) rfl ?_); refine Kd.event_run (w1 := wr) rfl (v := .int .u8 z) ?hr ?_; (case hr => (rw [HY.out, HZ.out]; by_cases hm0 : m = 0 <;> simp only [hm0, if_true, if_false] <;> rfl)))
                                | ((with_reducible refine gate_callee (f := 32) rfl ?_); refine goesL_ (some 37) rfl rfl Try.func32 (by kernel_rfl) rfl #[.pointer (some ⟨w.heap.size, 0, none⟩), .int .u8 z] rfl (by (try simp only [List.map_toArray, List.map_cons, List.map_nil]); first | done | rfl) ?_; (refine (bldByte w.heap.size w.heap.size _ z _ HL.out (by rw [Lib.byteCells_length]; exact F3.out) HB.out.size).mono ?_); rintro e w7 ⟨rfl, h1, hb⟩; refine ⟨_, rfl, ?_⟩; have n0 := Aside0.mk (show Bl w.heap.size w7 (a ++ [if m = 0 then 43 else 58]) from by unfold Bl; rw [Lib.byteCells_append]; rw [show Lib.byteCells [if m = 0 then (43 : UInt8) else 58] = [.int .u8 z] from by rw [HZ.out]; by_cases hm0 : m = 0 <;> simp only [hm0, if_true, if_false] <;> rfl]; exact Or.inr h1); have n1 := Aside0.mk (HB.out.trans hb); clear HL HB h1 hb; have HL := n0; have HB := n1; clear n0 n1))
                              go_loopg [40] k3 (fun kq v40 w' => ∃ (a : List UInt8) (q : Int), v40 = .int .i64 q ∧ Aside0 (impl_written.l3 kq l0 a i j m (rdOf ByteArray.empty (rd_L1 (rd_T36 l0 i).f1 j) m) q = some fin) ∧ Aside0 (kq ≤ k3) ∧ Aside0 (Bl w.heap.size w' a) ∧ Aside0 (Below w.heap.size w w'))
                              case atStart => exact ⟨_, 0, rfl, H', ⟨Nat.le_refl _⟩, HL, HB⟩
                              case round =>
                                clear H' HB HL F3
                                try clear hz0
                                obtain ⟨a, q, rfl, HA, HK4, HL, HB⟩ := hrel
                                cases gk with
                                | zero => exact absurd HA.out (by simp [impl_written.l3])
                                | succ k4 =>
                                  have H := HA.out
                                  clear HA
                                  simp only [impl_written.l3] at H
                                  by_cases g1 : q < (((rdOf ByteArray.empty (rd_L1 (rd_T36 l0 i).f1 j) m)).size : Int)
                                  · rw [if_pos g1] at H
                                    have g1b : decide (q < (((rdOf ByteArray.empty (rd_L1 (rd_T36 l0 i).f1 j) m)).size : Int)) = true := decide_eq_true g1
                                    by_cases g2 : 0 ≤ q
                                    · rw [if_pos g2] at H
                                      have g2b : decide (0 ≤ q) = true := decide_eq_true g2
                                      by_cases g3 : a.length + 2 ≤ 140737488355328
                                      · rw [if_pos g3] at H
                                        have G3 := Aside0.mk g3
                                        clear g3
                                        obtain ⟨c, hmk, H⟩ := Option.bind_eq_some_iff.1 H
                                        have HM := Aside0.mk hmk
                                        clear hmk
                                        have hub : (bt (rdOf ByteArray.empty (rd_L1 (rd_T36 l0 i).f1 j) m) q) = ((ub (rdOf ByteArray.empty (rd_L1 (rd_T36 l0 i).f1 j) m) q).toNat : Int) := by
                                          have hq : q.toNat < ((rdOf ByteArray.empty (rd_L1 (rd_T36 l0 i).f1 j) m)).size := by omega
                                          rw [← bt_at (rdOf ByteArray.empty (rd_L1 (rd_T36 l0 i).f1 j) m) q hq]
                                          unfold ub
                                          rw [List.getD_eq_getElem?_getD, List.getElem?_eq_getElem (by rw [data_length]; exact hq)]
                                          simp [ByteArray.getElem_eq_getElem_data]
                                        have HU := Aside0.mk hub
                                        clear hub
                                        have hxq := bt_at (rdOf ByteArray.empty (rd_L1 (rd_T36 l0 i).f1 j) m) q
                                        replace g1 := eq_true g1
                                        replace g2 := eq_true g2
                                        cases c with
                                        | true =>
                                          rw [if_pos rfl] at H
                                          have H' := Aside0.mk H
                                          clear H
                                          go_wp2_with (first
                                            | ((with_reducible refine gate_callee (f := 33) rfl ?_); refine goesL_ (some 46) rfl rfl Try.func33 (by kernel_rfl) rfl #[.int .u8 (bt (rdOf ByteArray.empty (rd_L1 (rd_T36 l0 i).f1 j) m) q)] rfl (by (try simp only [List.map_toArray, List.map_cons, List.map_nil]); first | done | rfl) ?_; (with_reducible refine (impl_marked.calls (bt (rdOf ByteArray.empty (rd_L1 (rd_T36 l0 i).f1 j) m) q) true _ HM.out).mono ?_); rintro e w' ⟨rfl, ⟨nd, rfl⟩⟩; refine ⟨_, rfl, ?_⟩; have n0 := Aside0.mk (show Bl w.heap.size (wr.drewN nd) a from Bl_step HL.out (pw_below_drewN (Below.refl _ _) nd)); have n1 := Aside0.mk (show Below w.heap.size w (wr.drewN nd) from pw_below_drewN HB.out nd); clear HL HB; have HL := n0; have HB := n1; clear n0 n1)
                                            | (go_at_call 32; (refine (bldByte w.heap.size w.heap.size _ 63 _ HL.out (by rw [Lib.byteCells_length]; have := G3.out; (try simp only [List.length_append, List.length_cons, List.length_nil]); omega) HB.out.size).mono ?_); rintro e w9 ⟨rfl, h1, hb⟩; have n0 := Aside0.mk (show Bl w.heap.size w9 (a ++ [63]) from by unfold Bl; rw [Lib.byteCells_append]; exact Or.inr h1); have n1 := Aside0.mk (HB.out.trans hb); clear HL HB h1 hb; have HL := n0; have HB := n1; clear n0 n1)
                                            | ((with_reducible refine gate_callee (f := 32) rfl ?_); refine goesL_ (some 51) rfl rfl Try.func32 (by kernel_rfl) rfl #[.pointer (some ⟨w.heap.size, 0, none⟩), .int .u8 (bt (rdOf ByteArray.empty (rd_L1 (rd_T36 l0 i).f1 j) m) q)] rfl (by (try simp only [List.map_toArray, List.map_cons, List.map_nil]); first | done | rfl) ?_; (refine (bldByte w.heap.size w.heap.size _ (bt (rdOf ByteArray.empty (rd_L1 (rd_T36 l0 i).f1 j) m) q) _ HL.out (by rw [Lib.byteCells_length]; have := G3.out; (try simp only [List.length_append, List.length_cons, List.length_nil]); omega) HB.out.size).mono ?_); rintro e w10 ⟨rfl, h1, hb⟩; refine ⟨_, rfl, ?_⟩; have n0 := Aside0.mk (show Bl w.heap.size w10 ((a ++ [63]) ++ [ub (rdOf ByteArray.empty (rd_L1 (rd_T36 l0 i).f1 j) m) q]) from by unfold Bl; rw [Lib.byteCells_append]; rw [show Lib.byteCells [ub (rdOf ByteArray.empty (rd_L1 (rd_T36 l0 i).f1 j) m) q] = [.int .u8 (bt (rdOf ByteArray.empty (rd_L1 (rd_T36 l0 i).f1 j) m) q)] from by rw [HU.out]; rfl]; exact Or.inr h1); have n1 := Aside0.mk (HB.out.trans hb); clear HL HB h1 hb; have HL := n0; have HB := n1; clear n0 n1))
                                          (first | go_roundg k4 | (refine Handed.intro k4 ?measure ?_; rotate_left; go_step; (repeat apply Exists.intro); simp only [add_plain]; refine ⟨?rel, rfl⟩))
                                          case measure => have := HK4.out; omega
                                          case rel => exact ⟨_, _, rfl, H', ⟨by have := HK4.out; omega⟩, HL, HB⟩
                                        | false =>
                                          rw [if_neg (by simp)] at H
                                          have H' := Aside0.mk H
                                          clear H
                                          go_wp2_with (first
                                            | ((with_reducible refine gate_callee (f := 33) rfl ?_); refine goesL_ (some 46) rfl rfl Try.func33 (by kernel_rfl) rfl #[.int .u8 (bt (rdOf ByteArray.empty (rd_L1 (rd_T36 l0 i).f1 j) m) q)] rfl (by (try simp only [List.map_toArray, List.map_cons, List.map_nil]); first | done | rfl) ?_; (with_reducible refine (impl_marked.calls (bt (rdOf ByteArray.empty (rd_L1 (rd_T36 l0 i).f1 j) m) q) false _ HM.out).mono ?_); rintro e w' ⟨rfl, ⟨nd, rfl⟩⟩; refine ⟨_, rfl, ?_⟩; have n0 := Aside0.mk (show Bl w.heap.size (wr.drewN nd) a from Bl_step HL.out (pw_below_drewN (Below.refl _ _) nd)); have n1 := Aside0.mk (show Below w.heap.size w (wr.drewN nd) from pw_below_drewN HB.out nd); clear HL HB; have HL := n0; have HB := n1; clear n0 n1)
                                            | ((with_reducible refine gate_callee (f := 32) rfl ?_); refine goesL_ (some 51) rfl rfl Try.func32 (by kernel_rfl) rfl #[.pointer (some ⟨w.heap.size, 0, none⟩), .int .u8 (bt (rdOf ByteArray.empty (rd_L1 (rd_T36 l0 i).f1 j) m) q)] rfl (by (try simp only [List.map_toArray, List.map_cons, List.map_nil]); first | done | rfl) ?_; (refine (bldByte w.heap.size w.heap.size _ (bt (rdOf ByteArray.empty (rd_L1 (rd_T36 l0 i).f1 j) m) q) _ HL.out (by rw [Lib.byteCells_length]; have := G3.out; (try simp only [List.length_append, List.length_cons, List.length_nil]); omega) HB.out.size).mono ?_); rintro e w10 ⟨rfl, h1, hb⟩; refine ⟨_, rfl, ?_⟩; have n0 := Aside0.mk (show Bl w.heap.size w10 (a ++ [ub (rdOf ByteArray.empty (rd_L1 (rd_T36 l0 i).f1 j) m) q]) from by unfold Bl; rw [Lib.byteCells_append]; rw [show Lib.byteCells [ub (rdOf ByteArray.empty (rd_L1 (rd_T36 l0 i).f1 j) m) q] = [.int .u8 (bt (rdOf ByteArray.empty (rd_L1 (rd_T36 l0 i).f1 j) m) q)] from by rw [HU.out]; rfl]; exact Or.inr h1); have n1 := Aside0.mk (HB.out.trans hb); clear HL HB h1 hb; have HL := n0; have HB := n1; clear n0 n1))
                                          (first | go_roundg k4 | (refine Handed.intro k4 ?measure ?_; rotate_left; go_step; (repeat apply Exists.intro); simp only [add_plain]; refine ⟨?rel, rfl⟩))
                                          case measure => have := HK4.out; omega
                                          case rel => exact ⟨_, _, rfl, H', ⟨by have := HK4.out; omega⟩, HL, HB⟩
                                      · rw [if_neg g3] at H
                                        exact absurd H (by simp)
                                    · rw [if_neg g2] at H
                                      exact absurd H (by simp)
                                  · rw [if_neg g1] at H
                                    have g1b : decide (q < (((rdOf ByteArray.empty (rd_L1 (rd_T36 l0 i).f1 j) m)).size : Int)) = false := decide_eq_false g1
                                    have H' := Aside0.mk H
                                    clear H g1
                                    go_wp2
                                    (first | go_roundg k4 | (refine Handed.intro k4 ?measure ?_; rotate_left; go_step; (repeat apply Exists.intro); simp only [add_plain]; refine ⟨?rel, rfl⟩))
                                    case measure => have := HK4.out; have := HK3.out; omega
                                    case rel => exact ⟨_, _, rfl, H', ⟨by have := HK4.out; have := HK3.out; omega⟩, HL, HB⟩
                            · rw [if_neg f3] at H
                              exact absurd H (by simp)
                          · rw [if_neg f2] at H
                            exact absurd H (by simp)
                        · rw [if_neg f1] at H
                          have f1b : decide (m < ((rd_L1 (rd_T36 l0 i).f1 j).length : Int)) = false := decide_eq_false f1
                          have H' := Aside0.mk H
                          clear H f1
                          go_wp2
                          (first | go_roundg k3 | (refine Handed.intro k3 ?measure ?_; rotate_left; go_step; (repeat apply Exists.intro); simp only [add_plain]; refine ⟨?rel, rfl⟩))
                          case measure => have := HK3.out; have := HK2.out; omega
                          case rel => exact ⟨_, _, rfl, H', ⟨by have := HK3.out; have := HK2.out; omega⟩, HL, HB⟩
                  · rw [if_neg d2] at H
                    exact absurd H (by simp)
                · rw [if_neg d1] at H
                  have d1b : decide (j < ((rd_T36 l0 i).f1.length : Int)) = false := decide_eq_false d1
                  clear d1
                  by_cases d3 : a.length + 1 ≤ 140737488355328
                  · rw [if_pos d3] at H
                    have H' := Aside0.mk H
                    have D3 := Aside0.mk d3
                    clear H d3
                    go_wp2_with (
                      go_at_call 32
                      refine (bldByte w.heap.size w.heap.size (Lib.byteCells a) 39 _ HL.out (by rw [Lib.byteCells_length]; exact D3.out) HB.out.size).mono ?_
                      rintro e w5 ⟨rfl, h1, hb⟩
                      have n0 := Aside0.mk (show Bl w.heap.size w5 (a ++ [39]) from by unfold Bl; rw [Lib.byteCells_append]; exact Or.inr h1)
                      have n1 := Aside0.mk (HB.out.trans hb)
                      clear HL HB h1 hb
                      have HL := n0
                      have HB := n1
                      clear n0 n1)
                    (first | go_roundg k2 | (refine Handed.intro k2 ?measure ?_; rotate_left; go_step; (repeat apply Exists.intro); simp only [add_plain]; refine ⟨?rel, rfl⟩))
                    case measure => have := HK2.out; have := HK1.out; omega
                    case rel => exact ⟨_, _, rfl, H', ⟨by have := HK2.out; have := HK1.out; omega⟩, HL, HB⟩
                  · rw [if_neg d3] at H
                    exact absurd H (by simp)
          · rw [if_neg c3] at H
            exact absurd H (by simp)
        · rw [if_neg c2] at H
          exact absurd H (by simp)
      · rw [if_neg c1] at H
        have c1b : decide (i < (l0.length : Int)) = false := decide_eq_false c1
        injection H with H
        subst H
        go_wp2_with (go_at_call 34; refine (bldDone w.heap.size w.heap.size a _ HL.out (HB.out.size)).mono ?_; rintro e w2 ⟨rfl, hb⟩)
        go_ret
        exact ⟨rfl, HB.out.trans hb⟩

/-! ### impl_Seg_at_impl_SegsOk_1_25: function 25 -/
def impl_Seg_at_impl_SegsOk_1_25.l0 : Nat → List (S36) → Int → Int → Option (Int)
  | 0, _, _, _ => none
  | k + 1, x0, x7, x8 => if x8 < x7 then (if 0 ≤ x8 then (if x8 < (x0.length : Int) then ((impl_SegsOk_1.f k ((rd_T36 x0 x8).f0) ((rd_T36 x0 x8).f1)).bind fun t208 => (if t208 = true then (some x8) else (impl_Seg_at_impl_SegsOk_1_25.l0 k x0 x7 (wrap64 (x8 + 1))))) else (none)) else (none)) else (some (-1))
def impl_Seg_at_impl_SegsOk_1_25.f (k : Nat) (l0 : List (S36))  : Option (Int) := impl_Seg_at_impl_SegsOk_1_25.l0 k l0 (l0.length : Int) 0
theorem impl_Seg_at_impl_SegsOk_1_25.mono_l : ∀ k, (∀ y0 y1 y2, LeO (impl_Seg_at_impl_SegsOk_1_25.l0 k y0 y1 y2) (impl_Seg_at_impl_SegsOk_1_25.l0 (k + 1) y0 y1 y2))
  | 0 => fun _ _ _ r h => by simp [impl_Seg_at_impl_SegsOk_1_25.l0] at h
  | k + 1 => by
    have ih0 := impl_Seg_at_impl_SegsOk_1_25.mono_l k
    · intro y0 y1 y2
      unfold impl_Seg_at_impl_SegsOk_1_25.l0
      repeat' first
      | (with_reducible exact ih0 _ _ _)
      | (with_reducible exact impl_SegsOk_1.mono _ _ _)
      | (with_reducible exact LeO.refl _)
      | (with_reducible exact LeO.none _)
      | (with_reducible refine LeO.ite ?_ ?_)
      | (with_reducible refine LeO.bind ?_ (fun _ => ?_))
      | exact ih0 _ _ _
      | exact impl_SegsOk_1.mono _ _ _
      | exact LeO.none _
      | refine LeO.ite ?_ ?_
      | refine LeO.bind ?_ (fun _ => ?_)
theorem impl_Seg_at_impl_SegsOk_1_25.mono : ∀ a0 k, LeO (impl_Seg_at_impl_SegsOk_1_25.f k a0) (impl_Seg_at_impl_SegsOk_1_25.f (k + 1) a0) := by
  intro a0 k
  have ih0 := impl_Seg_at_impl_SegsOk_1_25.mono_l k
  unfold impl_Seg_at_impl_SegsOk_1_25.f
  repeat' first
      | (with_reducible exact ih0 _ _ _)
      | (with_reducible exact impl_SegsOk_1.mono _ _ _)
      | (with_reducible exact LeO.refl _)
      | (with_reducible exact LeO.none _)
      | (with_reducible refine LeO.ite ?_ ?_)
      | (with_reducible refine LeO.bind ?_ (fun _ => ?_))
      | exact ih0 _ _ _
      | exact impl_SegsOk_1.mono _ _ _
      | exact LeO.none _
      | refine LeO.ite ?_ ?_
      | refine LeO.bind ?_ (fun _ => ?_)
set_option maxHeartbeats 8000000 in
set_option maxRecDepth 100000 in
theorem impl_Seg_at_impl_SegsOk_1_25.calls (k : Nat) (A0 : Option Addr) (c0 : Nat) (l0 : List (S36))  (r : Int) (w : World) (hr0 : Kd.C k36 w A0 l0.length l0) (hc0 : l0.length ≤ c0) (h : impl_Seg_at_impl_SegsOk_1_25.f k l0 = some r) :
    Calls Try.prog 25 #[.slice A0 l0.length c0, .func (.func 17) #[] #[]] w fun e w' => e = .returned (.int .i64 r) ∧ Below w.heap.size w w' := by
  have hu36 := Try.underlying36
  have HR0 := Aside0.mk hr0
  have HC0 := Aside0.mk hc0
  clear hr0 hc0
  have HB := Aside0.mk (Below.refl w.heap.size w)
  have H : (impl_Seg_at_impl_SegsOk_1_25.l0 k l0 (l0.length : Int) 0) = some r := h
  clear h
  have H' := Aside0.mk H
  clear H
  go_enter Try.func25, Try.ntmps25
  go_wp2
  go_loopg [8] k (fun kq v8 w' => ∃ (x8_1 : Int), v8 = .int .i64 x8_1 ∧ Aside0 (impl_Seg_at_impl_SegsOk_1_25.l0 kq l0 (l0.length : Int) x8_1 = some r) ∧ Aside0 (kq ≤ k) ∧ Aside0 (Below w.heap.size w w'))
  case atStart => exact ⟨(0), (by first | rfl | (simp; done) | (simp [*]; done) | (simp [wrap64]; done)), H', ⟨Nat.le_refl _⟩, ⟨by repeat (first | (with_reducible first | exact HB.out | apply below_alloc | apply pw_below_drewN | apply below_drew1) | exact HB.out)⟩⟩
  case round =>
    clear H'
    try clear c2
    try clear p2
    obtain ⟨x8_1, rfl, HA, HK1, HB⟩ := hrel
    cases gk with
    | zero => exact absurd HA.out (by simp [impl_Seg_at_impl_SegsOk_1_25.l0])
    | succ k1 =>
      have H := HA.out
      clear HA
      simp only [impl_Seg_at_impl_SegsOk_1_25.l0] at H
      by_cases c3 : x8_1 < (l0.length : Int)
      · rw [if_pos c3] at H
        have c3b0 : decide (x8_1 < (l0.length : Int)) = true := decide_eq_true c3
        clear c3
        by_cases c4 : 0 ≤ x8_1
        · rw [if_pos c4] at H
          have c4b0 : decide (0 ≤ x8_1) = true := decide_eq_true c4
          clear c4
          by_cases c5 : x8_1 < (l0.length : Int)
          · rw [if_pos c5] at H
            have c5b0 : decide (x8_1 < (l0.length : Int)) = true := decide_eq_true c5
            clear c5
            replace H := Option.bind_eq_some_iff.mp H
            obtain ⟨t208, A60, H⟩ := H
            replace H : (if t208 = true then (some x8_1) else (impl_Seg_at_impl_SegsOk_1_25.l0 k1 l0 (l0.length : Int) (wrap64 (x8_1 + 1)))) = some r := H
            have A6 := Aside0.mk A60
            clear A60
            by_cases c7 : t208 = true
            · subst c7
              have H1 : (some x8_1) = some r := by rw [if_pos rfl] at H; exact H
              clear H
              have H := H1
              clear H1
              obtain rfl := Option.some.inj H
              have p207 : 0 ≤ (x8_1 : Int) := of_decide_eq_true (by first | (with_reducible assumption) | assumption)
              have q207 : x8_1 < (l0.length : Int) := of_decide_eq_true (by first | (with_reducible assumption) | assumption)
              obtain ⟨ad207, A207_1, c207_1, e207, hx207_0, hx207_1, hl207_1, hi207_1⟩ := at_T36 HR0.out x8_1 p207 q207
              cases e207
              replace hx207_0 := (HB.out.cell (World.block_lt_of_cell? w _ hx207_0)).trans hx207_0
              replace hx207_1 := (HB.out.cell (World.block_lt_of_cell? w _ hx207_1)).trans hx207_1
              have HR207_1 := Aside0.mk hi207_1
              have HC207_1 := Aside0.mk hl207_1
              clear hi207_1 hl207_1
              replace p207 := eq_true p207
              replace q207 := eq_true q207
              go_wp2_with (first | ((with_reducible refine gate_calleev (n := 11) rfl ?_); refine goesL_v (by first | rfl | (go_simp; done)) (some 16) rfl rfl Try.func17 (by kernel_rfl) rfl #[.agg #[.string ((rd_T36 l0 x8_1).f0), .slice A207_1 ((rd_T36 l0 x8_1).f1).length c207_1]] rfl (by (try simp only [List.map_toArray, List.map_cons, List.map_nil]); first | done | rfl | (simp only [List.length_drop, List.length_take]; rfl)) ?_; (with_reducible refine (impl_SegsOk_1.calls k1 ((rd_T36 l0 x8_1).f0) _ _ ((rd_T36 l0 x8_1).f1) true _ ?side1 ?side2 A6.out).mono ?_); (case side1 => repeat (first | exact (Kd.C_below HR207_1.out HB.out) | (with_reducible refine Kd.C_alloc ?_ _) | (with_reducible refine Kd.C_drewN ?_ _) | (with_reducible refine Kd.C_drew ?_))); (case side2 => exact HC207_1.out); rintro e w8 ⟨rfl, hb⟩; refine ⟨_, rfl, ?_⟩; have n0_ := Aside0.mk (below_step (by repeat (first | (with_reducible first | exact HB.out | apply below_alloc | apply pw_below_drewN | apply below_drew1) | exact HB.out)) hb); clear HB; have HB := n0_; clear n0_; (try clear hb); (try clear hb2); (try clear hk); (try clear hi)))
              go_ret
              exact ⟨by first | rfl | (simp [errW_none, errW_some] <;> rfl) | (simp [*, errW_none, errW_some] <;> rfl), by repeat (first | (with_reducible first | exact HB.out | apply below_alloc | apply pw_below_drewN | apply below_drew1) | exact HB.out)⟩
            · replace c7 := Bool.eq_false_iff.mpr c7
              subst c7
              have H1 : (impl_Seg_at_impl_SegsOk_1_25.l0 k1 l0 (l0.length : Int) (wrap64 (x8_1 + 1))) = some r := by rw [if_neg (show ¬ (false = true) by decide)] at H; exact H
              clear H
              have H := H1
              clear H1
              have H' := Aside0.mk H
              clear H
              have p207 : 0 ≤ (x8_1 : Int) := of_decide_eq_true (by first | (with_reducible assumption) | assumption)
              have q207 : x8_1 < (l0.length : Int) := of_decide_eq_true (by first | (with_reducible assumption) | assumption)
              obtain ⟨ad207, A207_1, c207_1, e207, hx207_0, hx207_1, hl207_1, hi207_1⟩ := at_T36 HR0.out x8_1 p207 q207
              cases e207
              replace hx207_0 := (HB.out.cell (World.block_lt_of_cell? w _ hx207_0)).trans hx207_0
              replace hx207_1 := (HB.out.cell (World.block_lt_of_cell? w _ hx207_1)).trans hx207_1
              have HR207_1 := Aside0.mk hi207_1
              have HC207_1 := Aside0.mk hl207_1
              clear hi207_1 hl207_1
              replace p207 := eq_true p207
              replace q207 := eq_true q207
              go_wp2_with (first | ((with_reducible refine gate_calleev (n := 11) rfl ?_); refine goesL_v (by first | rfl | (go_simp; done)) (some 16) rfl rfl Try.func17 (by kernel_rfl) rfl #[.agg #[.string ((rd_T36 l0 x8_1).f0), .slice A207_1 ((rd_T36 l0 x8_1).f1).length c207_1]] rfl (by (try simp only [List.map_toArray, List.map_cons, List.map_nil]); first | done | rfl | (simp only [List.length_drop, List.length_take]; rfl)) ?_; (with_reducible refine (impl_SegsOk_1.calls k1 ((rd_T36 l0 x8_1).f0) _ _ ((rd_T36 l0 x8_1).f1) false _ ?side1 ?side2 A6.out).mono ?_); (case side1 => repeat (first | exact (Kd.C_below HR207_1.out HB.out) | (with_reducible refine Kd.C_alloc ?_ _) | (with_reducible refine Kd.C_drewN ?_ _) | (with_reducible refine Kd.C_drew ?_))); (case side2 => exact HC207_1.out); rintro e w9 ⟨rfl, hb⟩; refine ⟨_, rfl, ?_⟩; have n0_ := Aside0.mk (below_step (by repeat (first | (with_reducible first | exact HB.out | apply below_alloc | apply pw_below_drewN | apply below_drew1) | exact HB.out)) hb); clear HB; have HB := n0_; clear n0_; (try clear hb); (try clear hb2); (try clear hk); (try clear hi)))
              go_roundg k1
              case measure => have := HK1.out; omega
              case rel => exact ⟨(wrap64 (x8_1 + 1)), (by first | rfl | (simp; done) | (simp [*]; done) | (simp [wrap64]; done)), H', ⟨by have := HK1.out; omega⟩, ⟨by repeat (first | (with_reducible first | exact HB.out | apply below_alloc | apply pw_below_drewN | apply below_drew1) | exact HB.out)⟩⟩
          · rw [if_neg c5] at H
            exact absurd H (by simp)
        · rw [if_neg c4] at H
          exact absurd H (by simp)
      · rw [if_neg c3] at H
        have c3b0 : decide (x8_1 < (l0.length : Int)) = false := decide_eq_false c3
        clear c3
        obtain rfl := Option.some.inj H
        go_wp2
        go_ret
        exact ⟨by first | rfl | (simp [errW_none, errW_some] <;> rfl) | (simp [*, errW_none, errW_some] <;> rfl), by repeat (first | (with_reducible first | exact HB.out | apply below_alloc | apply pw_below_drewN | apply below_drew1) | exact HB.out)⟩

/-! ### impl_Seg_at_impl_SegsOk_1: function 16 -/
def impl_Seg_at_impl_SegsOk_1.f (k : Nat) (l0 : List (S36))  : Option (Bool) := (impl_Seg_at_impl_SegsOk_1_25.f k l0).bind fun t209 => (some (decide (t209 ≥ 0)))
theorem impl_Seg_at_impl_SegsOk_1.mono : ∀ a0 k, LeO (impl_Seg_at_impl_SegsOk_1.f k a0) (impl_Seg_at_impl_SegsOk_1.f (k + 1) a0) := by
  intro a0 k
  unfold impl_Seg_at_impl_SegsOk_1.f
  repeat' first
      | (with_reducible exact impl_Seg_at_impl_SegsOk_1_25.mono _ _)
      | (with_reducible exact LeO.refl _)
      | (with_reducible exact LeO.none _)
      | (with_reducible refine LeO.ite ?_ ?_)
      | (with_reducible refine LeO.bind ?_ (fun _ => ?_))
      | exact impl_Seg_at_impl_SegsOk_1_25.mono _ _
      | exact LeO.none _
      | refine LeO.ite ?_ ?_
      | refine LeO.bind ?_ (fun _ => ?_)
set_option maxHeartbeats 8000000 in
set_option maxRecDepth 100000 in
theorem impl_Seg_at_impl_SegsOk_1.calls (k : Nat) (A0 : Option Addr) (c0 : Nat) (l0 : List (S36))  (r : Bool) (w : World) (hr0 : Kd.C k36 w A0 l0.length l0) (hc0 : l0.length ≤ c0) (h : impl_Seg_at_impl_SegsOk_1.f k l0 = some r) :
    Calls Try.prog 16 #[.slice A0 l0.length c0, .func (.func 17) #[] #[]] w fun e w' => e = .returned (.bool r) ∧ Below w.heap.size w w' := by
  have HR0 := Aside0.mk hr0
  have HC0 := Aside0.mk hc0
  clear hr0 hc0
  have HB := Aside0.mk (Below.refl w.heap.size w)
  have H : ((impl_Seg_at_impl_SegsOk_1_25.f k l0).bind fun t209 => (some (decide (t209 ≥ 0)))) = some r := h
  clear h
  replace H := Option.bind_eq_some_iff.mp H
  obtain ⟨t209, A30, H⟩ := H
  replace H : (some (decide (t209 ≥ 0))) = some r := H
  have A3 := Aside0.mk A30
  clear A30
  obtain rfl := Option.some.inj H
  go_enter Try.func16, Try.ntmps16
  go_wp2_with (first | ((with_reducible refine gate_callee (f := 25) rfl ?_); refine goesL_ (some 7) rfl rfl Try.func25 (by kernel_rfl) rfl #[.slice A0 l0.length c0, .func (.func 17) #[] #[]] rfl (by (try simp only [List.map_toArray, List.map_cons, List.map_nil]); first | done | rfl | (simp only [List.length_drop, List.length_take]; rfl)) ?_; (with_reducible refine (impl_Seg_at_impl_SegsOk_1_25.calls k _ _ l0  t209 _ ?side1 ?side2 A3.out).mono ?_); (case side1 => repeat (first | exact HR0.out | (with_reducible refine Kd.C_alloc ?_ _) | (with_reducible refine Kd.C_drewN ?_ _) | (with_reducible refine Kd.C_drew ?_))); (case side2 => exact HC0.out); rintro e w4 ⟨rfl, hb⟩; refine ⟨_, rfl, ?_⟩; have n0_ := Aside0.mk (below_step (by repeat (first | (with_reducible first | exact HB.out | apply below_alloc | apply pw_below_drewN | apply below_drew1) | exact HB.out)) hb); clear HB; have HB := n0_; clear n0_; (try clear hb); (try clear hb2); (try clear hk); (try clear hi)))
  go_ret
  exact ⟨by first | rfl | (simp [errW_none, errW_some] <;> rfl) | (simp [*, errW_none, errW_some] <;> rfl), by repeat (first | (with_reducible first | exact HB.out | apply below_alloc | apply pw_below_drewN | apply below_drew1) | exact HB.out)⟩

/-! ### impl_SegsOk: function 8 -/
def impl_SegsOk.f (k : Nat) (l0 : List (S36)) : Option (Bool) := if (l0.length : Int) ≤ 60 then ((impl_Seg_at_impl_SegsOk_1.f k l0).bind fun t210 => (if t210 = true then (some false) else ((impl_written.f k l0).bind fun t211 => (some (decide ((t211.size : Int) ≤ 2000)))))) else (some false)
theorem impl_SegsOk.mono : ∀ a0 k, LeO (impl_SegsOk.f k a0) (impl_SegsOk.f (k + 1) a0) := by
  intro a0 k
  unfold impl_SegsOk.f
  repeat' first
      | (with_reducible exact impl_Seg_at_impl_SegsOk_1.mono _ _)
      | (with_reducible exact impl_written.mono _ _)
      | (with_reducible exact LeO.refl _)
      | (with_reducible exact LeO.none _)
      | (with_reducible refine LeO.ite ?_ ?_)
      | (with_reducible refine LeO.bind ?_ (fun _ => ?_))
      | exact impl_Seg_at_impl_SegsOk_1.mono _ _
      | exact impl_written.mono _ _
      | exact LeO.none _
      | refine LeO.ite ?_ ?_
      | refine LeO.bind ?_ (fun _ => ?_)
set_option maxHeartbeats 8000000 in
set_option maxRecDepth 100000 in
theorem impl_SegsOk.calls (k : Nat) (A0 : Option Addr) (c0 : Nat) (l0 : List (S36)) (r : Bool) (w : World) (hr0 : Kd.C k36 w A0 l0.length l0) (hc0 : l0.length ≤ c0) (h : impl_SegsOk.f k l0 = some r) :
    Calls Try.prog 8 #[.slice A0 l0.length c0] w fun e w' => e = .returned (.bool r) ∧ Below w.heap.size w w' := by
  have HR0 := Aside0.mk hr0
  have HC0 := Aside0.mk hc0
  clear hr0 hc0
  have HB := Aside0.mk (Below.refl w.heap.size w)
  have H : (if (l0.length : Int) ≤ 60 then ((impl_Seg_at_impl_SegsOk_1.f k l0).bind fun t210 => (if t210 = true then (some false) else ((impl_written.f k l0).bind fun t211 => (some (decide ((t211.size : Int) ≤ 2000)))))) else (some false)) = some r := h
  clear h
  by_cases c2 : (l0.length : Int) ≤ 60
  · rw [if_pos c2] at H
    have c2b0 : decide ((l0.length : Int) ≤ 60) = true := decide_eq_true c2
    have c2b1 : decide (l0.length ≤ 60) = true := decide_eq_true (by omega)
    clear c2
    replace H := Option.bind_eq_some_iff.mp H
    obtain ⟨t210, A30, H⟩ := H
    replace H : (if t210 = true then (some false) else ((impl_written.f k l0).bind fun t211 => (some (decide ((t211.size : Int) ≤ 2000))))) = some r := H
    have A3 := Aside0.mk A30
    clear A30
    by_cases c4 : t210 = true
    · subst c4
      have H1 : (some false) = some r := by rw [if_pos rfl] at H; exact H
      clear H
      have H := H1
      clear H1
      obtain rfl := Option.some.inj H
      go_enter Try.func8, Try.ntmps8
      go_wp2_with (first | (go_at_call 16; (with_reducible refine (impl_Seg_at_impl_SegsOk_1.calls k _ _ l0  true _ ?side1 ?side2 A3.out).mono ?_); (case side1 => repeat (first | exact HR0.out | (with_reducible refine Kd.C_alloc ?_ _) | (with_reducible refine Kd.C_drewN ?_ _) | (with_reducible refine Kd.C_drew ?_))); (case side2 => exact HC0.out); rintro e w5 ⟨rfl, hb⟩; have n0_ := Aside0.mk (below_step (by repeat (first | (with_reducible first | exact HB.out | apply below_alloc | apply pw_below_drewN | apply below_drew1) | exact HB.out)) hb); clear HB; have HB := n0_; clear n0_; (try clear hb); (try clear hb2); (try clear hk); (try clear hi)))
      go_ret
      exact ⟨by first | rfl | (simp [errW_none, errW_some] <;> rfl) | (simp [*, errW_none, errW_some] <;> rfl), by repeat (first | (with_reducible first | exact HB.out | apply below_alloc | apply pw_below_drewN | apply below_drew1) | exact HB.out)⟩
    · replace c4 := Bool.eq_false_iff.mpr c4
      subst c4
      have H1 : ((impl_written.f k l0).bind fun t211 => (some (decide ((t211.size : Int) ≤ 2000)))) = some r := by rw [if_neg (show ¬ (false = true) by decide)] at H; exact H
      clear H
      have H := H1
      clear H1
      replace H := Option.bind_eq_some_iff.mp H
      obtain ⟨t211, A60, H⟩ := H
      replace H : (some (decide ((t211.size : Int) ≤ 2000))) = some r := H
      have A6 := Aside0.mk A60
      clear A60
      obtain rfl := Option.some.inj H
      go_enter Try.func8, Try.ntmps8
      go_wp2_with (first | (go_at_call 16; (with_reducible refine (impl_Seg_at_impl_SegsOk_1.calls k _ _ l0  false _ ?side1 ?side2 A3.out).mono ?_); (case side1 => repeat (first | exact HR0.out | (with_reducible refine Kd.C_alloc ?_ _) | (with_reducible refine Kd.C_drewN ?_ _) | (with_reducible refine Kd.C_drew ?_))); (case side2 => exact HC0.out); rintro e w7 ⟨rfl, hb⟩; have n0_ := Aside0.mk (below_step (by repeat (first | (with_reducible first | exact HB.out | apply below_alloc | apply pw_below_drewN | apply below_drew1) | exact HB.out)) hb); clear HB; have HB := n0_; clear n0_; (try clear hb); (try clear hb2); (try clear hk); (try clear hi)) | (go_at_call 19; (with_reducible refine (impl_written.calls k _ _ l0 t211 _ ?side1 ?side2 A6.out).mono ?_); (case side1 => repeat (first | exact (Kd.C_below HR0.out HB.out) | (with_reducible refine Kd.C_alloc ?_ _) | (with_reducible refine Kd.C_drewN ?_ _) | (with_reducible refine Kd.C_drew ?_))); (case side2 => exact HC0.out); rintro e w8 ⟨rfl, hb⟩; have n0_ := Aside0.mk (below_step (by repeat (first | (with_reducible first | exact HB.out | apply below_alloc | apply pw_below_drewN | apply below_drew1) | exact HB.out)) hb); clear HB; have HB := n0_; clear n0_; (try clear hb); (try clear hb2); (try clear hk); (try clear hi)))
      go_ret
      exact ⟨by first | rfl | (simp [errW_none, errW_some] <;> rfl) | (simp [*, errW_none, errW_some] <;> rfl), by repeat (first | (with_reducible first | exact HB.out | apply below_alloc | apply pw_below_drewN | apply below_drew1) | exact HB.out)⟩
  · rw [if_neg c2] at H
    have c2b0 : decide ((l0.length : Int) ≤ 60) = false := decide_eq_false c2
    have c2b1 : decide (l0.length ≤ 60) = false := decide_eq_false (by omega)
    clear c2
    obtain rfl := Option.some.inj H
    go_enter Try.func8, Try.ntmps8
    go_wp2
    go_ret
    exact ⟨by first | rfl | (simp [errW_none, errW_some] <;> rfl) | (simp [*, errW_none, errW_some] <;> rfl), by repeat (first | (with_reducible first | exact HB.out | apply below_alloc | apply pw_below_drewN | apply below_drew1) | exact HB.out)⟩

/-! ### impl_WriteSegs: function 11 -/
def impl_WriteSegs.f (k : Nat) (l0 : List (S36)) : Option (ByteArray × Bool) := (impl_SegsOk.f k l0).bind fun t212 => (if t212 = true then ((impl_written.f k l0).bind fun t213 => (some (t213, true))) else (some ((⟨#[]⟩ : ByteArray), false)))
theorem impl_WriteSegs.mono : ∀ a0 k, LeO (impl_WriteSegs.f k a0) (impl_WriteSegs.f (k + 1) a0) := by
  intro a0 k
  unfold impl_WriteSegs.f
  repeat' first
      | (with_reducible exact impl_SegsOk.mono _ _)
      | (with_reducible exact impl_written.mono _ _)
      | (with_reducible exact LeO.refl _)
      | (with_reducible exact LeO.none _)
      | (with_reducible refine LeO.ite ?_ ?_)
      | (with_reducible refine LeO.bind ?_ (fun _ => ?_))
      | exact impl_SegsOk.mono _ _
      | exact impl_written.mono _ _
      | exact LeO.none _
      | refine LeO.ite ?_ ?_
      | refine LeO.bind ?_ (fun _ => ?_)
set_option maxHeartbeats 8000000 in
set_option maxRecDepth 100000 in
theorem impl_WriteSegs.calls (k : Nat) (A0 : Option Addr) (c0 : Nat) (l0 : List (S36)) (r1 : ByteArray) (r2 : Bool) (w : World) (hr0 : Kd.C k36 w A0 l0.length l0) (hc0 : l0.length ≤ c0) (h : impl_WriteSegs.f k l0 = some (r1, r2)) :
    Calls Try.prog 11 #[.slice A0 l0.length c0] w fun e w' => e = .returned (.tuple #[.string r1, .bool r2]) ∧ Below w.heap.size w w' := by
  have HR0 := Aside0.mk hr0
  have HC0 := Aside0.mk hc0
  clear hr0 hc0
  have HB := Aside0.mk (Below.refl w.heap.size w)
  have H : ((impl_SegsOk.f k l0).bind fun t212 => (if t212 = true then ((impl_written.f k l0).bind fun t213 => (some (t213, true))) else (some ((⟨#[]⟩ : ByteArray), false)))) = some (r1, r2) := h
  clear h
  replace H := Option.bind_eq_some_iff.mp H
  obtain ⟨t212, A20, H⟩ := H
  replace H : (if t212 = true then ((impl_written.f k l0).bind fun t213 => (some (t213, true))) else (some ((⟨#[]⟩ : ByteArray), false))) = some (r1, r2) := H
  have A2 := Aside0.mk A20
  clear A20
  by_cases c3 : t212 = true
  · subst c3
    have H1 : ((impl_written.f k l0).bind fun t213 => (some (t213, true))) = some (r1, r2) := by rw [if_pos rfl] at H; exact H
    clear H
    have H := H1
    clear H1
    replace H := Option.bind_eq_some_iff.mp H
    obtain ⟨t213, A40, H⟩ := H
    replace H : (some (t213, true)) = some (r1, r2) := H
    have A4 := Aside0.mk A40
    clear A40
    simp only [Option.some.injEq, Prod.mk.injEq] at H
    obtain ⟨rfl, rfl⟩ := H
    go_enter Try.func11, Try.ntmps11
    go_wp2_with (first | ((with_reducible refine gate_callee (f := 8) rfl ?_); refine goesL_ (some 5) rfl rfl Try.func8 (by kernel_rfl) rfl #[.slice A0 l0.length c0] rfl (by (try simp only [List.map_toArray, List.map_cons, List.map_nil]); first | done | rfl | (simp only [List.length_drop, List.length_take]; rfl)) ?_; (with_reducible refine (impl_SegsOk.calls k _ _ l0 true _ ?side1 ?side2 A2.out).mono ?_); (case side1 => repeat (first | exact HR0.out | (with_reducible refine Kd.C_alloc ?_ _) | (with_reducible refine Kd.C_drewN ?_ _) | (with_reducible refine Kd.C_drew ?_))); (case side2 => exact HC0.out); rintro e w5 ⟨rfl, hb⟩; refine ⟨_, rfl, ?_⟩; have n0_ := Aside0.mk (below_step (by repeat (first | (with_reducible first | exact HB.out | apply below_alloc | apply pw_below_drewN | apply below_drew1) | exact HB.out)) hb); clear HB; have HB := n0_; clear n0_; (try clear hb); (try clear hb2); (try clear hk); (try clear hi)) | ((with_reducible refine gate_callee (f := 19) rfl ?_); refine goesL_ (some 8) rfl rfl Try.func19 (by kernel_rfl) rfl #[.slice A0 l0.length c0] rfl (by (try simp only [List.map_toArray, List.map_cons, List.map_nil]); first | done | rfl | (simp only [List.length_drop, List.length_take]; rfl)) ?_; (with_reducible refine (impl_written.calls k _ _ l0 t213 _ ?side1 ?side2 A4.out).mono ?_); (case side1 => repeat (first | exact (Kd.C_below HR0.out HB.out) | (with_reducible refine Kd.C_alloc ?_ _) | (with_reducible refine Kd.C_drewN ?_ _) | (with_reducible refine Kd.C_drew ?_))); (case side2 => exact HC0.out); rintro e w6 ⟨rfl, hb⟩; refine ⟨_, rfl, ?_⟩; have n0_ := Aside0.mk (below_step (by repeat (first | (with_reducible first | exact HB.out | apply below_alloc | apply pw_below_drewN | apply below_drew1) | exact HB.out)) hb); clear HB; have HB := n0_; clear n0_; (try clear hb); (try clear hb2); (try clear hk); (try clear hi)))
    go_ret2
    exact ⟨by first | rfl | (simp [errW_none, errW_some] <;> rfl) | (simp [*, errW_none, errW_some] <;> rfl), by repeat (first | (with_reducible first | exact HB.out | apply below_alloc | apply pw_below_drewN | apply below_drew1) | exact HB.out)⟩
  · replace c3 := Bool.eq_false_iff.mpr c3
    subst c3
    have H1 : (some ((⟨#[]⟩ : ByteArray), false)) = some (r1, r2) := by rw [if_neg (show ¬ (false = true) by decide)] at H; exact H
    clear H
    have H := H1
    clear H1
    simp only [Option.some.injEq, Prod.mk.injEq] at H
    obtain ⟨rfl, rfl⟩ := H
    go_enter Try.func11, Try.ntmps11
    go_wp2_with (first | ((with_reducible refine gate_callee (f := 8) rfl ?_); refine goesL_ (some 5) rfl rfl Try.func8 (by kernel_rfl) rfl #[.slice A0 l0.length c0] rfl (by (try simp only [List.map_toArray, List.map_cons, List.map_nil]); first | done | rfl | (simp only [List.length_drop, List.length_take]; rfl)) ?_; (with_reducible refine (impl_SegsOk.calls k _ _ l0 false _ ?side1 ?side2 A2.out).mono ?_); (case side1 => repeat (first | exact HR0.out | (with_reducible refine Kd.C_alloc ?_ _) | (with_reducible refine Kd.C_drewN ?_ _) | (with_reducible refine Kd.C_drew ?_))); (case side2 => exact HC0.out); rintro e w7 ⟨rfl, hb⟩; refine ⟨_, rfl, ?_⟩; have n0_ := Aside0.mk (below_step (by repeat (first | (with_reducible first | exact HB.out | apply below_alloc | apply pw_below_drewN | apply below_drew1) | exact HB.out)) hb); clear HB; have HB := n0_; clear n0_; (try clear hb); (try clear hb2); (try clear hk); (try clear hi)))
    go_ret2
    exact ⟨by first | rfl | (simp [errW_none, errW_some] <;> rfl) | (simp [*, errW_none, errW_some] <;> rfl), by repeat (first | (with_reducible first | exact HB.out | apply below_alloc | apply pw_below_drewN | apply below_drew1) | exact HB.out)⟩

end Go.Proofs.Ytomkbmddhemioaa.PFnExactWriteSegs
