/- The Lean side of Go functions of this seat: what each answers, and that its run comes to that answer; written by a program of this work. -/
import Derived.Test.YtacekdgajpaomaaPFnExactEarliestx0
import Derived.Test.YtacekdgajpaomaaPFnExactEarliestx6
namespace Go.Proofs.Ytacekdgajpaomaa.PFnExactEarliest
open Go.RowKit Go.Proofs.YtacekdgajpaomaaW.PrintWords Go.Proofs.YtacekdgajpaomaaW.PrintLast Go.Proofs.YtacekdgajpaomaaW.PrintMore
attribute [local go_sem] max2_int min2_int max_two min_two max_three min_three max_four min_four   -- for this text's walks alone
set_option linter.unusedVariables false
set_option linter.unusedSimpArgs false

/-! ### impl_LegsOk: function 12 -/
def impl_LegsOk.in1 (a lo hi : Int) : Bool := decide (lo ≤ a) && decide (a ≤ hi)
theorem impl_LegsOk.in_eq (a lo hi : Int) : impl_in.f a lo hi = some (impl_LegsOk.in1 a lo hi) := by
  unfold impl_in.f impl_LegsOk.in1
  by_cases c : lo ≤ a
  · rw [if_pos c, decide_eq_true c, Bool.true_and]
  · rw [if_neg c, decide_eq_false c, Bool.false_and]
theorem impl_LegsOk.port_eq (a : Int) : impl_linePort.f a = some (impl_LegsOk.in1 a 0 19) := by
  unfold impl_linePort.f
  rw [impl_LegsOk.in_eq, Option.bind_some]
theorem impl_LegsOk.min_eq (a : Int) : impl_minuteOk.f a = some (impl_LegsOk.in1 a 0 100000000) := by
  unfold impl_minuteOk.f
  rw [impl_LegsOk.in_eq, Option.bind_some]
def impl_LegsOk.bad (x : S31) : Bool := !impl_LegsOk.in1 x.f0 1 100 || (!impl_LegsOk.in1 x.f1 0 19 || (!impl_LegsOk.in1 x.f2 0 19 || ((x.f1 == x.f2) || (!impl_LegsOk.in1 x.f3 0 100000000 || (!impl_LegsOk.in1 x.f4 0 100000000 || (decide (x.f4 ≤ x.f3) || !impl_LegsOk.in1 x.f5 0 1000000))))))
/-- the last one of a service -/
def impl_LegsOk.last : List S31 → Int → Option S31
  | [], _ => none
  | x :: r, s => match impl_LegsOk.last r s with
    | some y => some y
    | none => if x.f0 = s then some x else none
theorem impl_LegsOk.last_snoc (x : S31) (s : Int) : ∀ p : List S31, impl_LegsOk.last (p ++ [x]) s = if x.f0 = s then some x else impl_LegsOk.last p s
  | [] => rfl
  | y :: r => by
    show (match impl_LegsOk.last (r ++ [x]) s with | some y => some y | none => if y.f0 = s then some y else none) = _
    rw [impl_LegsOk.last_snoc x s r]
    by_cases c : x.f0 = s
    · rw [if_pos c, if_pos c]
    · rw [if_neg c, if_neg c]; rfl
def impl_LegsOk.clash (q x : S31) : Bool := (q.f2 != x.f1) || decide (x.f3 < q.f4)
def impl_LegsOk.g : Nat → List S31 → Int → Bool
  | 0, _, _ => true
  | n + 1, l, i => if i < (l.length : Int) then
      (if impl_LegsOk.bad (rd_T31 l i) = true then false
        else match impl_LegsOk.last (l.take i.toNat) (rd_T31 l i).f0 with
          | none => impl_LegsOk.g n l (i + 1)
          | some q => if impl_LegsOk.clash q (rd_T31 l i) = true then false else impl_LegsOk.g n l (i + 1))
      else true
theorem impl_LegsOk.letter {P : Program} {c : Code} {Q : Exit → Act → World → Prop} {a : Act} {W : World} {R : World → Prop} (hR : R W) (h : ∀ W', R W' → Code.wp P c Q a W') : Code.wp P c Q a W := h W hR
def impl_LegsOk.f (l0 : List S31) : Option Bool := some (if (l0.length : Int) > 60 then false else impl_LegsOk.g (l0.length + 1) l0 0)

def impl_LegsOk.agg (x : S31) : Value := .agg #[.int .i64 x.f0, .int .i64 x.f1, .int .i64 x.f2, .int .i64 x.f3, .int .i64 x.f4, .int .i64 x.f5]
def impl_LegsOk.held (v : Value) : Option (DataW Value × List MemPlace) := some (.held v, [])
theorem impl_LegsOk.keyed : Maps.Keyed Try.prog 3 := Maps.int_keyed Try.underlying3
theorem impl_LegsOk.zero (w : World) : (zeroValue 31).run Try.prog w = .ok (impl_LegsOk.agg z31) w := by kernel_rfl
/-- how the map reads behind the legs p -/
structure impl_LegsOk.Tab (p : List S31) (D : DataW Value) : Prop where
  none' : ∀ s : Int, impl_LegsOk.last p s = none → Maps.has D (.int .i64 s) = false ∧ D.atKey (.int .i64 s) (.held (impl_LegsOk.agg z31)) = .held (impl_LegsOk.agg z31)
  some' : ∀ (s : Int) (q : S31), impl_LegsOk.last p s = some q → Maps.has D (.int .i64 s) = true ∧ D.atKey (.int .i64 s) (.held (impl_LegsOk.agg z31)) = .held (impl_LegsOk.agg q)
theorem impl_LegsOk.tab_nil : impl_LegsOk.Tab [] (.map []) := ⟨fun _ _ => ⟨rfl, rfl⟩, fun _ _ h => by cases h⟩
theorem impl_LegsOk.tab_put {p : List S31} {D : DataW Value} (h : impl_LegsOk.Tab p D) (hD : Maps.IsMap D) (x : S31) : impl_LegsOk.Tab (p ++ [x]) (D.put (.int .i64 x.f0) (.held (impl_LegsOk.agg x))) := by
  have hk : WideAt.IsKeyLit (.int .i64 x.f0) := trivial
  refine ⟨fun s hs => ?_, fun s q hs => ?_⟩
  · rw [impl_LegsOk.last_snoc] at hs
    by_cases c : x.f0 = s
    · rw [if_pos c] at hs; cases hs
    · rw [if_neg c] at hs
      have hne : (Lit.int .i64 s) ≠ (Lit.int .i64 x.f0) := fun e => c (Lit.int.inj e).2.symm
      rw [Maps.has_put_other hne, Maps.atKey_put_other hne]
      exact h.none' s hs
  · rw [impl_LegsOk.last_snoc] at hs
    by_cases c : x.f0 = s
    · rw [if_pos c] at hs
      cases hs
      subst c
      rw [Maps.has_put_same hD hk, Maps.atKey_put_same hD hk]
      exact ⟨rfl, rfl⟩
    · rw [if_neg c] at hs
      have hne : (Lit.int .i64 s) ≠ (Lit.int .i64 x.f0) := fun e => c (Lit.int.inj e).2.symm
      rw [Maps.has_put_other hne, Maps.atKey_put_other hne]
      exact h.some' s q hs
theorem impl_LegsOk.own_drewN {w : World} {b n : Nat} {D : DataW Value} (h : w.ownsMap Try.prog 3 impl_LegsOk.held b n D) (m : Nat) : (w.drewN m).ownsMap Try.prog 3 impl_LegsOk.held b n D := h
theorem impl_LegsOk.own_below {w w' : World} {b n : Nat} {D : DataW Value} (h : w.ownsMap Try.prog 3 impl_LegsOk.held b n D) (k : Below w.heap.size w w') : w'.ownsMap Try.prog 3 impl_LegsOk.held b n D := by
  have hlt := h.lt
  obtain ⟨es, clock, hb, r⟩ := h
  exact ⟨es, clock, (k.block b hlt).trans hb, r⟩
theorem impl_LegsOk.look {w : World} {ops : Array Oper} {rest : List Oper} {o : Oper} {a : Act} {Q : Exit → Act → World → Prop} (hg : o.guard = none) (m x : Operand) (hop : o.op = Op.lookup 53 m x true) {b n : Nat} {D : DataW Value}
    (hm : a.eval m = .map (some b)) (hown : w.ownsMap Try.prog 3 impl_LegsOk.held b n D) (key : Value) (kl : Lit) (hx : a.eval x = key) (hkey : keyOf Try.prog 3 key = some kl) {V : Value} {c : Bool}
    (hh : Maps.has D kl = c ∧ D.atKey kl (.held (impl_LegsOk.agg z31)) = .held V)
    (hK : wpList Try.prog ops Q rest (a.put o.dst (.tuple #[V, .bool c])) w) : wpList Try.prog ops Q (o :: rest) a w :=
  wpList_lookup_own_ok w hg m x 53 hop 3 31 impl_LegsOk.keyed Try.underlying53 impl_LegsOk.held (impl_LegsOk.zero w) (.held (impl_LegsOk.agg z31)) [] rfl b n D hm hown key kl hx hkey (fun v ps hv => by
    obtain ⟨h1, h2⟩ := hh
    rw [h2] at hv
    have hv1 : v = V := by
      have h3 : DataW.held v = DataW.held V := congrArg Prod.fst (Option.some.inj hv)
      exact DataW.held.inj h3
    rw [h1, hv1]
    exact hK)
theorem impl_LegsOk.take_snoc (l : List S31) (i : Int) (h0 : 0 ≤ i) (h1 : i < l.length) : l.take (i + 1).toNat = l.take i.toNat ++ [rd_T31 l i] := by
  have h2 : i.toNat < l.length := by omega
  rw [show (i + 1).toNat = i.toNat + 1 by omega, List.take_add_one]
  simp [rd_T31, List.getD_eq_getElem?_getD, List.getElem?_eq_getElem h2]

set_option maxHeartbeats 8000000 in
set_option maxRecDepth 100000 in
theorem impl_LegsOk.calls (A0 : Option Addr) (c0 : Nat) (l0 : List S31) (r : Bool) (w : World) (hr0 : Kd.C k31 w A0 l0.length l0) (hc0 : l0.length ≤ c0) (h : impl_LegsOk.f l0 = some r) :
    Calls Try.prog 12 #[.slice A0 l0.length c0] w fun e w' => e = .returned (.bool r) ∧ Below w.heap.size w w' := by
  have hu31 := Try.underlying31
  have hmm := @run_makeMap Try.prog
  have HR0 := Aside0.mk hr0
  have HC0 := Aside0.mk hc0
  clear hr0 hc0
  have HB := Aside0.mk (Below.refl w.heap.size w)
  have H := Option.some.inj h
  clear h
  by_cases c1 : (l0.length : Int) > 60
  · rw [if_pos c1] at H
    subst H
    have c1b0 : decide (60 < (l0.length : Int)) = true := decide_eq_true c1
    clear c1
    go_enter Try.func12, Try.ntmps12
    go_wp2
    repeat (go_quiet (fail); try go_wp2)
    go_ret
    exact ⟨rfl, by repeat (first | (with_reducible first | exact HB.out | apply below_alloc | apply pw_below_drewN | apply below_drew1 | refine below_set ?_ GE1.out | refine below_set ?_ GE2.out) | exact HB.out)⟩
  rw [if_neg c1] at H
  have c1b0 : decide (60 < (l0.length : Int)) = false := decide_eq_false c1
  have HL : Aside0 (l0.length ≤ 60) := ⟨by omega⟩
  clear c1
  have H' := Aside0.mk H
  clear H
  have HO : Aside0 ((w.alloc (.map #[] 0)).ownsMap Try.prog 3 impl_LegsOk.held w.heap.size 0 (.map [])) := ⟨World.ownsMap_made _ _ _ _⟩
  go_enter Try.func12, Try.ntmps12
  go_wp2
  repeat (go_quiet (fail); try go_wp2)
  go_loopg [14] (l0.length + 1) (fun kq v14 w' => ∃ (x14 : Int) (D : DataW Value), v14 = .int .i64 x14 ∧ Aside0 (0 ≤ x14) ∧ Aside0 (x14 ≤ l0.length) ∧ Aside0 ((l0.length : Int) - x14 < kq) ∧ Aside0 (impl_LegsOk.g kq l0 x14 = r) ∧ Aside0 (impl_LegsOk.Tab (l0.take x14.toNat) D) ∧ Aside0 (w'.ownsMap Try.prog 3 impl_LegsOk.held w.heap.size x14.toNat D) ∧ Aside0 (Below w.heap.size w w'))
  case atStart => exact ⟨0, .map [], rfl, ⟨by omega⟩, ⟨by omega⟩, ⟨by omega⟩, H', ⟨impl_LegsOk.tab_nil⟩, ⟨by repeat (first | (with_reducible first | exact HO.out | apply impl_LegsOk.own_drewN | refine World.ownsMap.setCell ?_ NB1.out _ | refine World.ownsMap.setCell ?_ NB2.out _) | exact HO.out)⟩, ⟨by repeat (first | (with_reducible first | exact HB.out | apply below_alloc | apply pw_below_drewN | apply below_drew1 | refine below_set ?_ GE1.out | refine below_set ?_ GE2.out) | exact HB.out)⟩⟩
  case round =>
    clear H' HO HB
    obtain ⟨x14, D, rfl, G0, G1, HK, HG, HT, HO, HB⟩ := hrel
    cases gk with
    | zero => exact absurd HK.out (by have := G1.out; omega)
    | succ k1 =>
      have H := HG.out
      clear HG
      unfold impl_LegsOk.g at H
      by_cases c2 : x14 < (l0.length : Int)
      · rw [if_pos c2] at H
        have c2b0 : decide (x14 < (l0.length : Int)) = true := decide_eq_true c2
        have HLT := Aside0.mk c2
        clear c2
        have HC4 := Aside0.mk H
        clear H
        have p104 : 0 ≤ (x14 : Int) := G0.out
        have q104 : x14 < (l0.length : Int) := HLT.out
        have c3b0 : decide (0 ≤ x14) = true := decide_eq_true G0.out
        obtain ⟨ad104, e104, hx104_0, hx104_1, hx104_2, hx104_3, hx104_4, hx104_5⟩ := at_T31 HR0.out x14 p104 q104
        cases e104
        replace hx104_0 := (HB.out.cell (World.block_lt_of_cell? w _ hx104_0)).trans hx104_0
        replace hx104_1 := (HB.out.cell (World.block_lt_of_cell? w _ hx104_1)).trans hx104_1
        replace hx104_2 := (HB.out.cell (World.block_lt_of_cell? w _ hx104_2)).trans hx104_2
        replace hx104_3 := (HB.out.cell (World.block_lt_of_cell? w _ hx104_3)).trans hx104_3
        replace hx104_4 := (HB.out.cell (World.block_lt_of_cell? w _ hx104_4)).trans hx104_4
        replace hx104_5 := (HB.out.cell (World.block_lt_of_cell? w _ hx104_5)).trans hx104_5
        replace p104 := eq_true p104
        replace q104 := eq_true q104
        go_upto_region 7 with (first | ((with_reducible refine gate_dst (N := 5) rfl ?_); refine box_event ?hg (N := 5) ?hd (cs := #[.int .i64 0, .int .i64 0, .int .i64 0, .int .i64 0, .int .i64 0, .int .i64 0]) (t := 31) ?hr ?_; (case hd => rfl); (case hg => rfl); (case hr => first | (go_simp; done) | (go_simp; rfl)); intro gb1 hg w5 hbox hb; have n0_ := Aside0.mk (below_step (by repeat (first | (with_reducible first | exact HB.out | apply below_alloc | apply pw_below_drewN | apply below_drew1 | refine below_set ?_ GE1.out | refine below_set ?_ GE2.out) | exact HB.out)) hb); have n1_ := Aside0.mk (hbox); have n2_ := Aside0.mk ((by rw [hg]; exact (below_size (by repeat (first | (with_reducible first | exact HB.out | apply below_alloc | apply pw_below_drewN | apply below_drew1 | refine below_set ?_ GE1.out | refine below_set ?_ GE2.out) | exact HB.out)))) : w.heap.size ≤ gb1); have n3_ := Aside0.mk (impl_LegsOk.own_below (show World.ownsMap _ Try.prog 3 impl_LegsOk.held w.heap.size _ _ from (by repeat (first | (with_reducible first | exact HO.out | apply impl_LegsOk.own_drewN | refine World.ownsMap.setCell ?_ NB1.out _ | refine World.ownsMap.setCell ?_ NB2.out _) | exact HO.out))) hb); have n4_ := Aside0.mk ((by have h5 := World.ownsMap.lt (show World.ownsMap _ Try.prog 3 impl_LegsOk.held w.heap.size _ _ from (by repeat (first | (with_reducible first | exact HO.out | apply impl_LegsOk.own_drewN | refine World.ownsMap.setCell ?_ NB1.out _ | refine World.ownsMap.setCell ?_ NB2.out _) | exact HO.out))); rw [hg]; exact Nat.ne_of_lt h5) : w.heap.size ≠ gb1); clear HB HO; have HB := n0_; have BK1 := n1_; have GE1 := n2_; have HO := n3_; have NB1 := n4_; clear n0_ n1_ n2_ n3_ n4_; clear hb hbox hg; have hcz1_0 : w5.cell? ⟨gb1, 0, none⟩ = some (.int .i64 0) := (blk_cell BK1.out 0).trans rfl; have hcz1_1 : w5.cell? ⟨gb1, 1, none⟩ = some (.int .i64 0) := (blk_cell BK1.out 1).trans rfl; have hcz1_2 : w5.cell? ⟨gb1, 2, none⟩ = some (.int .i64 0) := (blk_cell BK1.out 2).trans rfl; have hcz1_3 : w5.cell? ⟨gb1, 3, none⟩ = some (.int .i64 0) := (blk_cell BK1.out 3).trans rfl; have hcz1_4 : w5.cell? ⟨gb1, 4, none⟩ = some (.int .i64 0) := (blk_cell BK1.out 4).trans rfl; have hcz1_5 : w5.cell? ⟨gb1, 5, none⟩ = some (.int .i64 0) := (blk_cell BK1.out 5).trans rfl; have hfz1_0 := blk_frozen BK1.out 0; have hfz1_1 := blk_frozen BK1.out 1; have hfz1_2 := blk_frozen BK1.out 2; have hfz1_3 := blk_frozen BK1.out 3; have hfz1_4 := blk_frozen BK1.out 4; have hfz1_5 := blk_frozen BK1.out 5))
        repeat (go_quiet (first | ((with_reducible refine gate_dst (N := 5) rfl ?_); refine box_event ?hg (N := 5) ?hd (cs := #[.int .i64 0, .int .i64 0, .int .i64 0, .int .i64 0, .int .i64 0, .int .i64 0]) (t := 31) ?hr ?_; (case hd => rfl); (case hg => rfl); (case hr => first | (go_simp; done) | (go_simp; rfl)); intro gb1 hg w5 hbox hb; have n0_ := Aside0.mk (below_step (by repeat (first | (with_reducible first | exact HB.out | apply below_alloc | apply pw_below_drewN | apply below_drew1 | refine below_set ?_ GE1.out | refine below_set ?_ GE2.out) | exact HB.out)) hb); have n1_ := Aside0.mk (hbox); have n2_ := Aside0.mk ((by rw [hg]; exact (below_size (by repeat (first | (with_reducible first | exact HB.out | apply below_alloc | apply pw_below_drewN | apply below_drew1 | refine below_set ?_ GE1.out | refine below_set ?_ GE2.out) | exact HB.out)))) : w.heap.size ≤ gb1); have n3_ := Aside0.mk (impl_LegsOk.own_below (show World.ownsMap _ Try.prog 3 impl_LegsOk.held w.heap.size _ _ from (by repeat (first | (with_reducible first | exact HO.out | apply impl_LegsOk.own_drewN | refine World.ownsMap.setCell ?_ NB1.out _ | refine World.ownsMap.setCell ?_ NB2.out _) | exact HO.out))) hb); have n4_ := Aside0.mk ((by have h5 := World.ownsMap.lt (show World.ownsMap _ Try.prog 3 impl_LegsOk.held w.heap.size _ _ from (by repeat (first | (with_reducible first | exact HO.out | apply impl_LegsOk.own_drewN | refine World.ownsMap.setCell ?_ NB1.out _ | refine World.ownsMap.setCell ?_ NB2.out _) | exact HO.out))); rw [hg]; exact Nat.ne_of_lt h5) : w.heap.size ≠ gb1); clear HB HO; have HB := n0_; have BK1 := n1_; have GE1 := n2_; have HO := n3_; have NB1 := n4_; clear n0_ n1_ n2_ n3_ n4_; clear hb hbox hg; have hcz1_0 : w5.cell? ⟨gb1, 0, none⟩ = some (.int .i64 0) := (blk_cell BK1.out 0).trans rfl; have hcz1_1 : w5.cell? ⟨gb1, 1, none⟩ = some (.int .i64 0) := (blk_cell BK1.out 1).trans rfl; have hcz1_2 : w5.cell? ⟨gb1, 2, none⟩ = some (.int .i64 0) := (blk_cell BK1.out 2).trans rfl; have hcz1_3 : w5.cell? ⟨gb1, 3, none⟩ = some (.int .i64 0) := (blk_cell BK1.out 3).trans rfl; have hcz1_4 : w5.cell? ⟨gb1, 4, none⟩ = some (.int .i64 0) := (blk_cell BK1.out 4).trans rfl; have hcz1_5 : w5.cell? ⟨gb1, 5, none⟩ = some (.int .i64 0) := (blk_cell BK1.out 5).trans rfl; have hfz1_0 := blk_frozen BK1.out 0; have hfz1_1 := blk_frozen BK1.out 1; have hfz1_2 := blk_frozen BK1.out 2; have hfz1_3 := blk_frozen BK1.out 3; have hfz1_4 := blk_frozen BK1.out 4; have hfz1_5 := blk_frozen BK1.out 5)); try go_upto_region 7 with (first | ((with_reducible refine gate_dst (N := 5) rfl ?_); refine box_event ?hg (N := 5) ?hd (cs := #[.int .i64 0, .int .i64 0, .int .i64 0, .int .i64 0, .int .i64 0, .int .i64 0]) (t := 31) ?hr ?_; (case hd => rfl); (case hg => rfl); (case hr => first | (go_simp; done) | (go_simp; rfl)); intro gb1 hg w5 hbox hb; have n0_ := Aside0.mk (below_step (by repeat (first | (with_reducible first | exact HB.out | apply below_alloc | apply pw_below_drewN | apply below_drew1 | refine below_set ?_ GE1.out | refine below_set ?_ GE2.out) | exact HB.out)) hb); have n1_ := Aside0.mk (hbox); have n2_ := Aside0.mk ((by rw [hg]; exact (below_size (by repeat (first | (with_reducible first | exact HB.out | apply below_alloc | apply pw_below_drewN | apply below_drew1 | refine below_set ?_ GE1.out | refine below_set ?_ GE2.out) | exact HB.out)))) : w.heap.size ≤ gb1); have n3_ := Aside0.mk (impl_LegsOk.own_below (show World.ownsMap _ Try.prog 3 impl_LegsOk.held w.heap.size _ _ from (by repeat (first | (with_reducible first | exact HO.out | apply impl_LegsOk.own_drewN | refine World.ownsMap.setCell ?_ NB1.out _ | refine World.ownsMap.setCell ?_ NB2.out _) | exact HO.out))) hb); have n4_ := Aside0.mk ((by have h5 := World.ownsMap.lt (show World.ownsMap _ Try.prog 3 impl_LegsOk.held w.heap.size _ _ from (by repeat (first | (with_reducible first | exact HO.out | apply impl_LegsOk.own_drewN | refine World.ownsMap.setCell ?_ NB1.out _ | refine World.ownsMap.setCell ?_ NB2.out _) | exact HO.out))); rw [hg]; exact Nat.ne_of_lt h5) : w.heap.size ≠ gb1); clear HB HO; have HB := n0_; have BK1 := n1_; have GE1 := n2_; have HO := n3_; have NB1 := n4_; clear n0_ n1_ n2_ n3_ n4_; clear hb hbox hg; have hcz1_0 : w5.cell? ⟨gb1, 0, none⟩ = some (.int .i64 0) := (blk_cell BK1.out 0).trans rfl; have hcz1_1 : w5.cell? ⟨gb1, 1, none⟩ = some (.int .i64 0) := (blk_cell BK1.out 1).trans rfl; have hcz1_2 : w5.cell? ⟨gb1, 2, none⟩ = some (.int .i64 0) := (blk_cell BK1.out 2).trans rfl; have hcz1_3 : w5.cell? ⟨gb1, 3, none⟩ = some (.int .i64 0) := (blk_cell BK1.out 3).trans rfl; have hcz1_4 : w5.cell? ⟨gb1, 4, none⟩ = some (.int .i64 0) := (blk_cell BK1.out 4).trans rfl; have hcz1_5 : w5.cell? ⟨gb1, 5, none⟩ = some (.int .i64 0) := (blk_cell BK1.out 5).trans rfl; have hfz1_0 := blk_frozen BK1.out 0; have hfz1_1 := blk_frozen BK1.out 1; have hfz1_2 := blk_frozen BK1.out 2; have hfz1_3 := blk_frozen BK1.out 3; have hfz1_4 := blk_frozen BK1.out 4; have hfz1_5 := blk_frozen BK1.out 5)))
        (try simp only [Act.put, List.setIfInBounds_toArray, List.set_cons_zero, List.set_cons_succ])
        go_cut [65] (fun v65 wc => v65 = .bool (impl_LegsOk.bad (rd_T31 l0 x14)) ∧ Aside0 (wc.heap[gb1]? = some (.cells #[.int .i64 (rd_T31 l0 x14).f0, .int .i64 (rd_T31 l0 x14).f1, .int .i64 (rd_T31 l0 x14).f2, .int .i64 (rd_T31 l0 x14).f3, .int .i64 (rd_T31 l0 x14).f4, .int .i64 (rd_T31 l0 x14).f5] 31 (0, 0))) ∧ Aside0 (wc.ownsMap Try.prog 3 impl_LegsOk.held w.heap.size x14.toNat D) ∧ Aside0 (Below w.heap.size w wc))
        case first =>
          clear HC4
          obtain ⟨B0, A0_, e0⟩ : ∃ B, impl_in.f (rd_T31 l0 x14).f0 1 100 = some B ∧ impl_LegsOk.in1 (rd_T31 l0 x14).f0 1 100 = B := ⟨_, impl_LegsOk.in_eq _ _ _, rfl⟩
          obtain ⟨B1, A1_, e1⟩ : ∃ B, impl_linePort.f (rd_T31 l0 x14).f1 = some B ∧ impl_LegsOk.in1 (rd_T31 l0 x14).f1 0 19 = B := ⟨_, impl_LegsOk.port_eq _, rfl⟩
          obtain ⟨B2, A2_, e2⟩ : ∃ B, impl_linePort.f (rd_T31 l0 x14).f2 = some B ∧ impl_LegsOk.in1 (rd_T31 l0 x14).f2 0 19 = B := ⟨_, impl_LegsOk.port_eq _, rfl⟩
          obtain ⟨B4, A4_, e4⟩ : ∃ B, impl_minuteOk.f (rd_T31 l0 x14).f3 = some B ∧ impl_LegsOk.in1 (rd_T31 l0 x14).f3 0 100000000 = B := ⟨_, impl_LegsOk.min_eq _, rfl⟩
          obtain ⟨B5, A5_, e5⟩ : ∃ B, impl_minuteOk.f (rd_T31 l0 x14).f4 = some B ∧ impl_LegsOk.in1 (rd_T31 l0 x14).f4 0 100000000 = B := ⟨_, impl_LegsOk.min_eq _, rfl⟩
          obtain ⟨B7, A7_, e7⟩ : ∃ B, impl_in.f (rd_T31 l0 x14).f5 0 1000000 = some B ∧ impl_LegsOk.in1 (rd_T31 l0 x14).f5 0 1000000 = B := ⟨_, impl_LegsOk.in_eq _ _ _, rfl⟩
          obtain ⟨B3, e3⟩ : ∃ B, ((rd_T31 l0 x14).f1 == (rd_T31 l0 x14).f2) = B := ⟨_, rfl⟩
          obtain ⟨B6, e6⟩ : ∃ B, decide ((rd_T31 l0 x14).f4 ≤ (rd_T31 l0 x14).f3) = B := ⟨_, rfl⟩
          have HBAD : Aside0 (impl_LegsOk.bad (rd_T31 l0 x14) = (!B0 || (!B1 || (!B2 || (B3 || (!B4 || (!B5 || (B6 || !B7)))))))) := ⟨by unfold impl_LegsOk.bad; rw [e0, e1, e2, e3, e4, e5, e6, e7]⟩
          clear e0 e1 e2 e4 e5 e7
          have A0 := Aside0.mk A0_
          have A1 := Aside0.mk A1_
          have A2 := Aside0.mk A2_
          have A4 := Aside0.mk A4_
          have A5 := Aside0.mk A5_
          have A7 := Aside0.mk A7_
          clear A0_ A1_ A2_ A4_ A5_ A7_
          cases B0 with
          | false =>
            go_wp2_with (first | (go_at_call 30; (with_reducible refine (impl_in.calls ((rd_T31 l0 x14).f0) 1 100 false _ A0.out).mono ?_); rintro e w' ⟨rfl, ⟨nd, rfl⟩⟩; (try first | exact ⟨rfl, _, World.drewN_drewN _ _ _⟩ | exact ⟨rfl, _, Eq.trans (World.drewN_drewN _ _ _) (congrArg (World.drewN _) (Nat.add_assoc _ _ _))⟩)))
            repeat (go_quiet (first | (go_at_call 30; (with_reducible refine (impl_in.calls ((rd_T31 l0 x14).f0) 1 100 false _ A0.out).mono ?_); rintro e w' ⟨rfl, ⟨nd, rfl⟩⟩; (try first | exact ⟨rfl, _, World.drewN_drewN _ _ _⟩ | exact ⟨rfl, _, Eq.trans (World.drewN_drewN _ _ _) (congrArg (World.drewN _) (Nat.add_assoc _ _ _))⟩))); try go_wp2_with (first | (go_at_call 30; (with_reducible refine (impl_in.calls ((rd_T31 l0 x14).f0) 1 100 false _ A0.out).mono ?_); rintro e w' ⟨rfl, ⟨nd, rfl⟩⟩; (try first | exact ⟨rfl, _, World.drewN_drewN _ _ _⟩ | exact ⟨rfl, _, Eq.trans (World.drewN_drewN _ _ _) (congrArg (World.drewN _) (Nat.add_assoc _ _ _))⟩))))
            go_meet
            case rel => exact ⟨by rw [HBAD.out]; rfl, ⟨by (with_reducible repeat (first | refine blk_drewN ?_ _ | refine blk_drew ?_ | refine blk_alloc ?_ _)); refine blk_put (cs := #[.int .i64 (rd_T31 l0 x14).f0, .int .i64 (rd_T31 l0 x14).f1, .int .i64 (rd_T31 l0 x14).f2, .int .i64 (rd_T31 l0 x14).f3, .int .i64 (rd_T31 l0 x14).f4, .int .i64 0]) ?_ 5 _ rfl; (with_reducible repeat (first | refine blk_drewN ?_ _ | refine blk_drew ?_ | refine blk_alloc ?_ _)); refine blk_put (cs := #[.int .i64 (rd_T31 l0 x14).f0, .int .i64 (rd_T31 l0 x14).f1, .int .i64 (rd_T31 l0 x14).f2, .int .i64 (rd_T31 l0 x14).f3, .int .i64 0, .int .i64 0]) ?_ 4 _ rfl; (with_reducible repeat (first | refine blk_drewN ?_ _ | refine blk_drew ?_ | refine blk_alloc ?_ _)); refine blk_put (cs := #[.int .i64 (rd_T31 l0 x14).f0, .int .i64 (rd_T31 l0 x14).f1, .int .i64 (rd_T31 l0 x14).f2, .int .i64 0, .int .i64 0, .int .i64 0]) ?_ 3 _ rfl; (with_reducible repeat (first | refine blk_drewN ?_ _ | refine blk_drew ?_ | refine blk_alloc ?_ _)); refine blk_put (cs := #[.int .i64 (rd_T31 l0 x14).f0, .int .i64 (rd_T31 l0 x14).f1, .int .i64 0, .int .i64 0, .int .i64 0, .int .i64 0]) ?_ 2 _ rfl; (with_reducible repeat (first | refine blk_drewN ?_ _ | refine blk_drew ?_ | refine blk_alloc ?_ _)); refine blk_put (cs := #[.int .i64 (rd_T31 l0 x14).f0, .int .i64 0, .int .i64 0, .int .i64 0, .int .i64 0, .int .i64 0]) ?_ 1 _ rfl; (with_reducible repeat (first | refine blk_drewN ?_ _ | refine blk_drew ?_ | refine blk_alloc ?_ _)); refine blk_put (cs := #[.int .i64 0, .int .i64 0, .int .i64 0, .int .i64 0, .int .i64 0, .int .i64 0]) ?_ 0 _ rfl; (with_reducible repeat (first | refine blk_drewN ?_ _ | refine blk_drew ?_ | refine blk_alloc ?_ _)); exact BK1.out⟩, ⟨by repeat (first | (with_reducible first | exact HO.out | apply impl_LegsOk.own_drewN | refine World.ownsMap.setCell ?_ NB1.out _ | refine World.ownsMap.setCell ?_ NB2.out _) | exact HO.out)⟩, ⟨by repeat (first | (with_reducible first | exact HB.out | apply below_alloc | apply pw_below_drewN | apply below_drew1 | refine below_set ?_ GE1.out | refine below_set ?_ GE2.out) | exact HB.out)⟩⟩
          | true =>
            cases B1 with
            | false =>
              go_wp2_with (first | (go_at_call 30; (with_reducible refine (impl_in.calls ((rd_T31 l0 x14).f0) 1 100 true _ A0.out).mono ?_); rintro e w' ⟨rfl, ⟨nd, rfl⟩⟩; (try first | exact ⟨rfl, _, World.drewN_drewN _ _ _⟩ | exact ⟨rfl, _, Eq.trans (World.drewN_drewN _ _ _) (congrArg (World.drewN _) (Nat.add_assoc _ _ _))⟩)) | (go_at_call 32; (with_reducible refine (impl_linePort.calls ((rd_T31 l0 x14).f1) false _ A1.out).mono ?_); rintro e w' ⟨rfl, ⟨nd, rfl⟩⟩; (try first | exact ⟨rfl, _, World.drewN_drewN _ _ _⟩ | exact ⟨rfl, _, Eq.trans (World.drewN_drewN _ _ _) (congrArg (World.drewN _) (Nat.add_assoc _ _ _))⟩)))
              repeat (go_quiet (first | (go_at_call 30; (with_reducible refine (impl_in.calls ((rd_T31 l0 x14).f0) 1 100 true _ A0.out).mono ?_); rintro e w' ⟨rfl, ⟨nd, rfl⟩⟩; (try first | exact ⟨rfl, _, World.drewN_drewN _ _ _⟩ | exact ⟨rfl, _, Eq.trans (World.drewN_drewN _ _ _) (congrArg (World.drewN _) (Nat.add_assoc _ _ _))⟩)) | (go_at_call 32; (with_reducible refine (impl_linePort.calls ((rd_T31 l0 x14).f1) false _ A1.out).mono ?_); rintro e w' ⟨rfl, ⟨nd, rfl⟩⟩; (try first | exact ⟨rfl, _, World.drewN_drewN _ _ _⟩ | exact ⟨rfl, _, Eq.trans (World.drewN_drewN _ _ _) (congrArg (World.drewN _) (Nat.add_assoc _ _ _))⟩))); try go_wp2_with (first | (go_at_call 30; (with_reducible refine (impl_in.calls ((rd_T31 l0 x14).f0) 1 100 true _ A0.out).mono ?_); rintro e w' ⟨rfl, ⟨nd, rfl⟩⟩; (try first | exact ⟨rfl, _, World.drewN_drewN _ _ _⟩ | exact ⟨rfl, _, Eq.trans (World.drewN_drewN _ _ _) (congrArg (World.drewN _) (Nat.add_assoc _ _ _))⟩)) | (go_at_call 32; (with_reducible refine (impl_linePort.calls ((rd_T31 l0 x14).f1) false _ A1.out).mono ?_); rintro e w' ⟨rfl, ⟨nd, rfl⟩⟩; (try first | exact ⟨rfl, _, World.drewN_drewN _ _ _⟩ | exact ⟨rfl, _, Eq.trans (World.drewN_drewN _ _ _) (congrArg (World.drewN _) (Nat.add_assoc _ _ _))⟩))))
              go_meet
              case rel => exact ⟨by rw [HBAD.out]; rfl, ⟨by (with_reducible repeat (first | refine blk_drewN ?_ _ | refine blk_drew ?_ | refine blk_alloc ?_ _)); refine blk_put (cs := #[.int .i64 (rd_T31 l0 x14).f0, .int .i64 (rd_T31 l0 x14).f1, .int .i64 (rd_T31 l0 x14).f2, .int .i64 (rd_T31 l0 x14).f3, .int .i64 (rd_T31 l0 x14).f4, .int .i64 0]) ?_ 5 _ rfl; (with_reducible repeat (first | refine blk_drewN ?_ _ | refine blk_drew ?_ | refine blk_alloc ?_ _)); refine blk_put (cs := #[.int .i64 (rd_T31 l0 x14).f0, .int .i64 (rd_T31 l0 x14).f1, .int .i64 (rd_T31 l0 x14).f2, .int .i64 (rd_T31 l0 x14).f3, .int .i64 0, .int .i64 0]) ?_ 4 _ rfl; (with_reducible repeat (first | refine blk_drewN ?_ _ | refine blk_drew ?_ | refine blk_alloc ?_ _)); refine blk_put (cs := #[.int .i64 (rd_T31 l0 x14).f0, .int .i64 (rd_T31 l0 x14).f1, .int .i64 (rd_T31 l0 x14).f2, .int .i64 0, .int .i64 0, .int .i64 0]) ?_ 3 _ rfl; (with_reducible repeat (first | refine blk_drewN ?_ _ | refine blk_drew ?_ | refine blk_alloc ?_ _)); refine blk_put (cs := #[.int .i64 (rd_T31 l0 x14).f0, .int .i64 (rd_T31 l0 x14).f1, .int .i64 0, .int .i64 0, .int .i64 0, .int .i64 0]) ?_ 2 _ rfl; (with_reducible repeat (first | refine blk_drewN ?_ _ | refine blk_drew ?_ | refine blk_alloc ?_ _)); refine blk_put (cs := #[.int .i64 (rd_T31 l0 x14).f0, .int .i64 0, .int .i64 0, .int .i64 0, .int .i64 0, .int .i64 0]) ?_ 1 _ rfl; (with_reducible repeat (first | refine blk_drewN ?_ _ | refine blk_drew ?_ | refine blk_alloc ?_ _)); refine blk_put (cs := #[.int .i64 0, .int .i64 0, .int .i64 0, .int .i64 0, .int .i64 0, .int .i64 0]) ?_ 0 _ rfl; (with_reducible repeat (first | refine blk_drewN ?_ _ | refine blk_drew ?_ | refine blk_alloc ?_ _)); exact BK1.out⟩, ⟨by repeat (first | (with_reducible first | exact HO.out | apply impl_LegsOk.own_drewN | refine World.ownsMap.setCell ?_ NB1.out _ | refine World.ownsMap.setCell ?_ NB2.out _) | exact HO.out)⟩, ⟨by repeat (first | (with_reducible first | exact HB.out | apply below_alloc | apply pw_below_drewN | apply below_drew1 | refine below_set ?_ GE1.out | refine below_set ?_ GE2.out) | exact HB.out)⟩⟩
            | true =>
              cases B2 with
              | false =>
                go_wp2_with (first | (go_at_call 30; (with_reducible refine (impl_in.calls ((rd_T31 l0 x14).f0) 1 100 true _ A0.out).mono ?_); rintro e w' ⟨rfl, ⟨nd, rfl⟩⟩; (try first | exact ⟨rfl, _, World.drewN_drewN _ _ _⟩ | exact ⟨rfl, _, Eq.trans (World.drewN_drewN _ _ _) (congrArg (World.drewN _) (Nat.add_assoc _ _ _))⟩)) | (go_at_call 32; (with_reducible refine (impl_linePort.calls ((rd_T31 l0 x14).f1) true _ A1.out).mono ?_); rintro e w' ⟨rfl, ⟨nd, rfl⟩⟩; (try first | exact ⟨rfl, _, World.drewN_drewN _ _ _⟩ | exact ⟨rfl, _, Eq.trans (World.drewN_drewN _ _ _) (congrArg (World.drewN _) (Nat.add_assoc _ _ _))⟩)) | (go_at_call 32; (with_reducible refine (impl_linePort.calls ((rd_T31 l0 x14).f2) false _ A2.out).mono ?_); rintro e w' ⟨rfl, ⟨nd, rfl⟩⟩; (try first | exact ⟨rfl, _, World.drewN_drewN _ _ _⟩ | exact ⟨rfl, _, Eq.trans (World.drewN_drewN _ _ _) (congrArg (World.drewN _) (Nat.add_assoc _ _ _))⟩)))
                repeat (go_quiet (first | (go_at_call 30; (with_reducible refine (impl_in.calls ((rd_T31 l0 x14).f0) 1 100 true _ A0.out).mono ?_); rintro e w' ⟨rfl, ⟨nd, rfl⟩⟩; (try first | exact ⟨rfl, _, World.drewN_drewN _ _ _⟩ | exact ⟨rfl, _, Eq.trans (World.drewN_drewN _ _ _) (congrArg (World.drewN _) (Nat.add_assoc _ _ _))⟩)) | (go_at_call 32; (with_reducible refine (impl_linePort.calls ((rd_T31 l0 x14).f1) true _ A1.out).mono ?_); rintro e w' ⟨rfl, ⟨nd, rfl⟩⟩; (try first | exact ⟨rfl, _, World.drewN_drewN _ _ _⟩ | exact ⟨rfl, _, Eq.trans (World.drewN_drewN _ _ _) (congrArg (World.drewN _) (Nat.add_assoc _ _ _))⟩)) | (go_at_call 32; (with_reducible refine (impl_linePort.calls ((rd_T31 l0 x14).f2) false _ A2.out).mono ?_); rintro e w' ⟨rfl, ⟨nd, rfl⟩⟩; (try first | exact ⟨rfl, _, World.drewN_drewN _ _ _⟩ | exact ⟨rfl, _, Eq.trans (World.drewN_drewN _ _ _) (congrArg (World.drewN _) (Nat.add_assoc _ _ _))⟩))); try go_wp2_with (first | (go_at_call 30; (with_reducible refine (impl_in.calls ((rd_T31 l0 x14).f0) 1 100 true _ A0.out).mono ?_); rintro e w' ⟨rfl, ⟨nd, rfl⟩⟩; (try first | exact ⟨rfl, _, World.drewN_drewN _ _ _⟩ | exact ⟨rfl, _, Eq.trans (World.drewN_drewN _ _ _) (congrArg (World.drewN _) (Nat.add_assoc _ _ _))⟩)) | (go_at_call 32; (with_reducible refine (impl_linePort.calls ((rd_T31 l0 x14).f1) true _ A1.out).mono ?_); rintro e w' ⟨rfl, ⟨nd, rfl⟩⟩; (try first | exact ⟨rfl, _, World.drewN_drewN _ _ _⟩ | exact ⟨rfl, _, Eq.trans (World.drewN_drewN _ _ _) (congrArg (World.drewN _) (Nat.add_assoc _ _ _))⟩)) | (go_at_call 32; (with_reducible refine (impl_linePort.calls ((rd_T31 l0 x14).f2) false _ A2.out).mono ?_); rintro e w' ⟨rfl, ⟨nd, rfl⟩⟩; (try first | exact ⟨rfl, _, World.drewN_drewN _ _ _⟩ | exact ⟨rfl, _, Eq.trans (World.drewN_drewN _ _ _) (congrArg (World.drewN _) (Nat.add_assoc _ _ _))⟩))))
                go_meet
                case rel => exact ⟨by rw [HBAD.out]; rfl, ⟨by (with_reducible repeat (first | refine blk_drewN ?_ _ | refine blk_drew ?_ | refine blk_alloc ?_ _)); refine blk_put (cs := #[.int .i64 (rd_T31 l0 x14).f0, .int .i64 (rd_T31 l0 x14).f1, .int .i64 (rd_T31 l0 x14).f2, .int .i64 (rd_T31 l0 x14).f3, .int .i64 (rd_T31 l0 x14).f4, .int .i64 0]) ?_ 5 _ rfl; (with_reducible repeat (first | refine blk_drewN ?_ _ | refine blk_drew ?_ | refine blk_alloc ?_ _)); refine blk_put (cs := #[.int .i64 (rd_T31 l0 x14).f0, .int .i64 (rd_T31 l0 x14).f1, .int .i64 (rd_T31 l0 x14).f2, .int .i64 (rd_T31 l0 x14).f3, .int .i64 0, .int .i64 0]) ?_ 4 _ rfl; (with_reducible repeat (first | refine blk_drewN ?_ _ | refine blk_drew ?_ | refine blk_alloc ?_ _)); refine blk_put (cs := #[.int .i64 (rd_T31 l0 x14).f0, .int .i64 (rd_T31 l0 x14).f1, .int .i64 (rd_T31 l0 x14).f2, .int .i64 0, .int .i64 0, .int .i64 0]) ?_ 3 _ rfl; (with_reducible repeat (first | refine blk_drewN ?_ _ | refine blk_drew ?_ | refine blk_alloc ?_ _)); refine blk_put (cs := #[.int .i64 (rd_T31 l0 x14).f0, .int .i64 (rd_T31 l0 x14).f1, .int .i64 0, .int .i64 0, .int .i64 0, .int .i64 0]) ?_ 2 _ rfl; (with_reducible repeat (first | refine blk_drewN ?_ _ | refine blk_drew ?_ | refine blk_alloc ?_ _)); refine blk_put (cs := #[.int .i64 (rd_T31 l0 x14).f0, .int .i64 0, .int .i64 0, .int .i64 0, .int .i64 0, .int .i64 0]) ?_ 1 _ rfl; (with_reducible repeat (first | refine blk_drewN ?_ _ | refine blk_drew ?_ | refine blk_alloc ?_ _)); refine blk_put (cs := #[.int .i64 0, .int .i64 0, .int .i64 0, .int .i64 0, .int .i64 0, .int .i64 0]) ?_ 0 _ rfl; (with_reducible repeat (first | refine blk_drewN ?_ _ | refine blk_drew ?_ | refine blk_alloc ?_ _)); exact BK1.out⟩, ⟨by repeat (first | (with_reducible first | exact HO.out | apply impl_LegsOk.own_drewN | refine World.ownsMap.setCell ?_ NB1.out _ | refine World.ownsMap.setCell ?_ NB2.out _) | exact HO.out)⟩, ⟨by repeat (first | (with_reducible first | exact HB.out | apply below_alloc | apply pw_below_drewN | apply below_drew1 | refine below_set ?_ GE1.out | refine below_set ?_ GE2.out) | exact HB.out)⟩⟩
              | true =>
                cases B3 with
                | true =>
                  go_wp2_with (first | (go_at_call 30; (with_reducible refine (impl_in.calls ((rd_T31 l0 x14).f0) 1 100 true _ A0.out).mono ?_); rintro e w' ⟨rfl, ⟨nd, rfl⟩⟩; (try first | exact ⟨rfl, _, World.drewN_drewN _ _ _⟩ | exact ⟨rfl, _, Eq.trans (World.drewN_drewN _ _ _) (congrArg (World.drewN _) (Nat.add_assoc _ _ _))⟩)) | (go_at_call 32; (with_reducible refine (impl_linePort.calls ((rd_T31 l0 x14).f1) true _ A1.out).mono ?_); rintro e w' ⟨rfl, ⟨nd, rfl⟩⟩; (try first | exact ⟨rfl, _, World.drewN_drewN _ _ _⟩ | exact ⟨rfl, _, Eq.trans (World.drewN_drewN _ _ _) (congrArg (World.drewN _) (Nat.add_assoc _ _ _))⟩)) | (go_at_call 32; (with_reducible refine (impl_linePort.calls ((rd_T31 l0 x14).f2) true _ A2.out).mono ?_); rintro e w' ⟨rfl, ⟨nd, rfl⟩⟩; (try first | exact ⟨rfl, _, World.drewN_drewN _ _ _⟩ | exact ⟨rfl, _, Eq.trans (World.drewN_drewN _ _ _) (congrArg (World.drewN _) (Nat.add_assoc _ _ _))⟩)))
                  repeat (go_quiet (first | (go_at_call 30; (with_reducible refine (impl_in.calls ((rd_T31 l0 x14).f0) 1 100 true _ A0.out).mono ?_); rintro e w' ⟨rfl, ⟨nd, rfl⟩⟩; (try first | exact ⟨rfl, _, World.drewN_drewN _ _ _⟩ | exact ⟨rfl, _, Eq.trans (World.drewN_drewN _ _ _) (congrArg (World.drewN _) (Nat.add_assoc _ _ _))⟩)) | (go_at_call 32; (with_reducible refine (impl_linePort.calls ((rd_T31 l0 x14).f1) true _ A1.out).mono ?_); rintro e w' ⟨rfl, ⟨nd, rfl⟩⟩; (try first | exact ⟨rfl, _, World.drewN_drewN _ _ _⟩ | exact ⟨rfl, _, Eq.trans (World.drewN_drewN _ _ _) (congrArg (World.drewN _) (Nat.add_assoc _ _ _))⟩)) | (go_at_call 32; (with_reducible refine (impl_linePort.calls ((rd_T31 l0 x14).f2) true _ A2.out).mono ?_); rintro e w' ⟨rfl, ⟨nd, rfl⟩⟩; (try first | exact ⟨rfl, _, World.drewN_drewN _ _ _⟩ | exact ⟨rfl, _, Eq.trans (World.drewN_drewN _ _ _) (congrArg (World.drewN _) (Nat.add_assoc _ _ _))⟩))); try go_wp2_with (first | (go_at_call 30; (with_reducible refine (impl_in.calls ((rd_T31 l0 x14).f0) 1 100 true _ A0.out).mono ?_); rintro e w' ⟨rfl, ⟨nd, rfl⟩⟩; (try first | exact ⟨rfl, _, World.drewN_drewN _ _ _⟩ | exact ⟨rfl, _, Eq.trans (World.drewN_drewN _ _ _) (congrArg (World.drewN _) (Nat.add_assoc _ _ _))⟩)) | (go_at_call 32; (with_reducible refine (impl_linePort.calls ((rd_T31 l0 x14).f1) true _ A1.out).mono ?_); rintro e w' ⟨rfl, ⟨nd, rfl⟩⟩; (try first | exact ⟨rfl, _, World.drewN_drewN _ _ _⟩ | exact ⟨rfl, _, Eq.trans (World.drewN_drewN _ _ _) (congrArg (World.drewN _) (Nat.add_assoc _ _ _))⟩)) | (go_at_call 32; (with_reducible refine (impl_linePort.calls ((rd_T31 l0 x14).f2) true _ A2.out).mono ?_); rintro e w' ⟨rfl, ⟨nd, rfl⟩⟩; (try first | exact ⟨rfl, _, World.drewN_drewN _ _ _⟩ | exact ⟨rfl, _, Eq.trans (World.drewN_drewN _ _ _) (congrArg (World.drewN _) (Nat.add_assoc _ _ _))⟩))))
                  go_meet
                  case rel => exact ⟨by rw [HBAD.out]; rfl, ⟨by (with_reducible repeat (first | refine blk_drewN ?_ _ | refine blk_drew ?_ | refine blk_alloc ?_ _)); refine blk_put (cs := #[.int .i64 (rd_T31 l0 x14).f0, .int .i64 (rd_T31 l0 x14).f1, .int .i64 (rd_T31 l0 x14).f2, .int .i64 (rd_T31 l0 x14).f3, .int .i64 (rd_T31 l0 x14).f4, .int .i64 0]) ?_ 5 _ rfl; (with_reducible repeat (first | refine blk_drewN ?_ _ | refine blk_drew ?_ | refine blk_alloc ?_ _)); refine blk_put (cs := #[.int .i64 (rd_T31 l0 x14).f0, .int .i64 (rd_T31 l0 x14).f1, .int .i64 (rd_T31 l0 x14).f2, .int .i64 (rd_T31 l0 x14).f3, .int .i64 0, .int .i64 0]) ?_ 4 _ rfl; (with_reducible repeat (first | refine blk_drewN ?_ _ | refine blk_drew ?_ | refine blk_alloc ?_ _)); refine blk_put (cs := #[.int .i64 (rd_T31 l0 x14).f0, .int .i64 (rd_T31 l0 x14).f1, .int .i64 (rd_T31 l0 x14).f2, .int .i64 0, .int .i64 0, .int .i64 0]) ?_ 3 _ rfl; (with_reducible repeat (first | refine blk_drewN ?_ _ | refine blk_drew ?_ | refine blk_alloc ?_ _)); refine blk_put (cs := #[.int .i64 (rd_T31 l0 x14).f0, .int .i64 (rd_T31 l0 x14).f1, .int .i64 0, .int .i64 0, .int .i64 0, .int .i64 0]) ?_ 2 _ rfl; (with_reducible repeat (first | refine blk_drewN ?_ _ | refine blk_drew ?_ | refine blk_alloc ?_ _)); refine blk_put (cs := #[.int .i64 (rd_T31 l0 x14).f0, .int .i64 0, .int .i64 0, .int .i64 0, .int .i64 0, .int .i64 0]) ?_ 1 _ rfl; (with_reducible repeat (first | refine blk_drewN ?_ _ | refine blk_drew ?_ | refine blk_alloc ?_ _)); refine blk_put (cs := #[.int .i64 0, .int .i64 0, .int .i64 0, .int .i64 0, .int .i64 0, .int .i64 0]) ?_ 0 _ rfl; (with_reducible repeat (first | refine blk_drewN ?_ _ | refine blk_drew ?_ | refine blk_alloc ?_ _)); exact BK1.out⟩, ⟨by repeat (first | (with_reducible first | exact HO.out | apply impl_LegsOk.own_drewN | refine World.ownsMap.setCell ?_ NB1.out _ | refine World.ownsMap.setCell ?_ NB2.out _) | exact HO.out)⟩, ⟨by repeat (first | (with_reducible first | exact HB.out | apply below_alloc | apply pw_below_drewN | apply below_drew1 | refine below_set ?_ GE1.out | refine below_set ?_ GE2.out) | exact HB.out)⟩⟩
                | false =>
                  cases B4 with
                  | false =>
                    go_wp2_with (first | (go_at_call 30; (with_reducible refine (impl_in.calls ((rd_T31 l0 x14).f0) 1 100 true _ A0.out).mono ?_); rintro e w' ⟨rfl, ⟨nd, rfl⟩⟩; (try first | exact ⟨rfl, _, World.drewN_drewN _ _ _⟩ | exact ⟨rfl, _, Eq.trans (World.drewN_drewN _ _ _) (congrArg (World.drewN _) (Nat.add_assoc _ _ _))⟩)) | (go_at_call 32; (with_reducible refine (impl_linePort.calls ((rd_T31 l0 x14).f1) true _ A1.out).mono ?_); rintro e w' ⟨rfl, ⟨nd, rfl⟩⟩; (try first | exact ⟨rfl, _, World.drewN_drewN _ _ _⟩ | exact ⟨rfl, _, Eq.trans (World.drewN_drewN _ _ _) (congrArg (World.drewN _) (Nat.add_assoc _ _ _))⟩)) | (go_at_call 32; (with_reducible refine (impl_linePort.calls ((rd_T31 l0 x14).f2) true _ A2.out).mono ?_); rintro e w' ⟨rfl, ⟨nd, rfl⟩⟩; (try first | exact ⟨rfl, _, World.drewN_drewN _ _ _⟩ | exact ⟨rfl, _, Eq.trans (World.drewN_drewN _ _ _) (congrArg (World.drewN _) (Nat.add_assoc _ _ _))⟩)) | (go_at_call 33; (with_reducible refine (impl_minuteOk.calls ((rd_T31 l0 x14).f3) false _ A4.out).mono ?_); rintro e w' ⟨rfl, ⟨nd, rfl⟩⟩; (try first | exact ⟨rfl, _, World.drewN_drewN _ _ _⟩ | exact ⟨rfl, _, Eq.trans (World.drewN_drewN _ _ _) (congrArg (World.drewN _) (Nat.add_assoc _ _ _))⟩)))
                    repeat (go_quiet (first | (go_at_call 30; (with_reducible refine (impl_in.calls ((rd_T31 l0 x14).f0) 1 100 true _ A0.out).mono ?_); rintro e w' ⟨rfl, ⟨nd, rfl⟩⟩; (try first | exact ⟨rfl, _, World.drewN_drewN _ _ _⟩ | exact ⟨rfl, _, Eq.trans (World.drewN_drewN _ _ _) (congrArg (World.drewN _) (Nat.add_assoc _ _ _))⟩)) | (go_at_call 32; (with_reducible refine (impl_linePort.calls ((rd_T31 l0 x14).f1) true _ A1.out).mono ?_); rintro e w' ⟨rfl, ⟨nd, rfl⟩⟩; (try first | exact ⟨rfl, _, World.drewN_drewN _ _ _⟩ | exact ⟨rfl, _, Eq.trans (World.drewN_drewN _ _ _) (congrArg (World.drewN _) (Nat.add_assoc _ _ _))⟩)) | (go_at_call 32; (with_reducible refine (impl_linePort.calls ((rd_T31 l0 x14).f2) true _ A2.out).mono ?_); rintro e w' ⟨rfl, ⟨nd, rfl⟩⟩; (try first | exact ⟨rfl, _, World.drewN_drewN _ _ _⟩ | exact ⟨rfl, _, Eq.trans (World.drewN_drewN _ _ _) (congrArg (World.drewN _) (Nat.add_assoc _ _ _))⟩)) | (go_at_call 33; (with_reducible refine (impl_minuteOk.calls ((rd_T31 l0 x14).f3) false _ A4.out).mono ?_); rintro e w' ⟨rfl, ⟨nd, rfl⟩⟩; (try first | exact ⟨rfl, _, World.drewN_drewN _ _ _⟩ | exact ⟨rfl, _, Eq.trans (World.drewN_drewN _ _ _) (congrArg (World.drewN _) (Nat.add_assoc _ _ _))⟩))); try go_wp2_with (first | (go_at_call 30; (with_reducible refine (impl_in.calls ((rd_T31 l0 x14).f0) 1 100 true _ A0.out).mono ?_); rintro e w' ⟨rfl, ⟨nd, rfl⟩⟩; (try first | exact ⟨rfl, _, World.drewN_drewN _ _ _⟩ | exact ⟨rfl, _, Eq.trans (World.drewN_drewN _ _ _) (congrArg (World.drewN _) (Nat.add_assoc _ _ _))⟩)) | (go_at_call 32; (with_reducible refine (impl_linePort.calls ((rd_T31 l0 x14).f1) true _ A1.out).mono ?_); rintro e w' ⟨rfl, ⟨nd, rfl⟩⟩; (try first | exact ⟨rfl, _, World.drewN_drewN _ _ _⟩ | exact ⟨rfl, _, Eq.trans (World.drewN_drewN _ _ _) (congrArg (World.drewN _) (Nat.add_assoc _ _ _))⟩)) | (go_at_call 32; (with_reducible refine (impl_linePort.calls ((rd_T31 l0 x14).f2) true _ A2.out).mono ?_); rintro e w' ⟨rfl, ⟨nd, rfl⟩⟩; (try first | exact ⟨rfl, _, World.drewN_drewN _ _ _⟩ | exact ⟨rfl, _, Eq.trans (World.drewN_drewN _ _ _) (congrArg (World.drewN _) (Nat.add_assoc _ _ _))⟩)) | (go_at_call 33; (with_reducible refine (impl_minuteOk.calls ((rd_T31 l0 x14).f3) false _ A4.out).mono ?_); rintro e w' ⟨rfl, ⟨nd, rfl⟩⟩; (try first | exact ⟨rfl, _, World.drewN_drewN _ _ _⟩ | exact ⟨rfl, _, Eq.trans (World.drewN_drewN _ _ _) (congrArg (World.drewN _) (Nat.add_assoc _ _ _))⟩))))
                    go_meet
                    case rel => exact ⟨by rw [HBAD.out]; rfl, ⟨by (with_reducible repeat (first | refine blk_drewN ?_ _ | refine blk_drew ?_ | refine blk_alloc ?_ _)); refine blk_put (cs := #[.int .i64 (rd_T31 l0 x14).f0, .int .i64 (rd_T31 l0 x14).f1, .int .i64 (rd_T31 l0 x14).f2, .int .i64 (rd_T31 l0 x14).f3, .int .i64 (rd_T31 l0 x14).f4, .int .i64 0]) ?_ 5 _ rfl; (with_reducible repeat (first | refine blk_drewN ?_ _ | refine blk_drew ?_ | refine blk_alloc ?_ _)); refine blk_put (cs := #[.int .i64 (rd_T31 l0 x14).f0, .int .i64 (rd_T31 l0 x14).f1, .int .i64 (rd_T31 l0 x14).f2, .int .i64 (rd_T31 l0 x14).f3, .int .i64 0, .int .i64 0]) ?_ 4 _ rfl; (with_reducible repeat (first | refine blk_drewN ?_ _ | refine blk_drew ?_ | refine blk_alloc ?_ _)); refine blk_put (cs := #[.int .i64 (rd_T31 l0 x14).f0, .int .i64 (rd_T31 l0 x14).f1, .int .i64 (rd_T31 l0 x14).f2, .int .i64 0, .int .i64 0, .int .i64 0]) ?_ 3 _ rfl; (with_reducible repeat (first | refine blk_drewN ?_ _ | refine blk_drew ?_ | refine blk_alloc ?_ _)); refine blk_put (cs := #[.int .i64 (rd_T31 l0 x14).f0, .int .i64 (rd_T31 l0 x14).f1, .int .i64 0, .int .i64 0, .int .i64 0, .int .i64 0]) ?_ 2 _ rfl; (with_reducible repeat (first | refine blk_drewN ?_ _ | refine blk_drew ?_ | refine blk_alloc ?_ _)); refine blk_put (cs := #[.int .i64 (rd_T31 l0 x14).f0, .int .i64 0, .int .i64 0, .int .i64 0, .int .i64 0, .int .i64 0]) ?_ 1 _ rfl; (with_reducible repeat (first | refine blk_drewN ?_ _ | refine blk_drew ?_ | refine blk_alloc ?_ _)); refine blk_put (cs := #[.int .i64 0, .int .i64 0, .int .i64 0, .int .i64 0, .int .i64 0, .int .i64 0]) ?_ 0 _ rfl; (with_reducible repeat (first | refine blk_drewN ?_ _ | refine blk_drew ?_ | refine blk_alloc ?_ _)); exact BK1.out⟩, ⟨by repeat (first | (with_reducible first | exact HO.out | apply impl_LegsOk.own_drewN | refine World.ownsMap.setCell ?_ NB1.out _ | refine World.ownsMap.setCell ?_ NB2.out _) | exact HO.out)⟩, ⟨by repeat (first | (with_reducible first | exact HB.out | apply below_alloc | apply pw_below_drewN | apply below_drew1 | refine below_set ?_ GE1.out | refine below_set ?_ GE2.out) | exact HB.out)⟩⟩
                  | true =>
                    cases B5 with
                    | false =>
                      go_wp2_with (first | (go_at_call 30; (with_reducible refine (impl_in.calls ((rd_T31 l0 x14).f0) 1 100 true _ A0.out).mono ?_); rintro e w' ⟨rfl, ⟨nd, rfl⟩⟩; (try first | exact ⟨rfl, _, World.drewN_drewN _ _ _⟩ | exact ⟨rfl, _, Eq.trans (World.drewN_drewN _ _ _) (congrArg (World.drewN _) (Nat.add_assoc _ _ _))⟩)) | (go_at_call 32; (with_reducible refine (impl_linePort.calls ((rd_T31 l0 x14).f1) true _ A1.out).mono ?_); rintro e w' ⟨rfl, ⟨nd, rfl⟩⟩; (try first | exact ⟨rfl, _, World.drewN_drewN _ _ _⟩ | exact ⟨rfl, _, Eq.trans (World.drewN_drewN _ _ _) (congrArg (World.drewN _) (Nat.add_assoc _ _ _))⟩)) | (go_at_call 32; (with_reducible refine (impl_linePort.calls ((rd_T31 l0 x14).f2) true _ A2.out).mono ?_); rintro e w' ⟨rfl, ⟨nd, rfl⟩⟩; (try first | exact ⟨rfl, _, World.drewN_drewN _ _ _⟩ | exact ⟨rfl, _, Eq.trans (World.drewN_drewN _ _ _) (congrArg (World.drewN _) (Nat.add_assoc _ _ _))⟩)) | (go_at_call 33; (with_reducible refine (impl_minuteOk.calls ((rd_T31 l0 x14).f3) true _ A4.out).mono ?_); rintro e w' ⟨rfl, ⟨nd, rfl⟩⟩; (try first | exact ⟨rfl, _, World.drewN_drewN _ _ _⟩ | exact ⟨rfl, _, Eq.trans (World.drewN_drewN _ _ _) (congrArg (World.drewN _) (Nat.add_assoc _ _ _))⟩)) | (go_at_call 33; (with_reducible refine (impl_minuteOk.calls ((rd_T31 l0 x14).f4) false _ A5.out).mono ?_); rintro e w' ⟨rfl, ⟨nd, rfl⟩⟩; (try first | exact ⟨rfl, _, World.drewN_drewN _ _ _⟩ | exact ⟨rfl, _, Eq.trans (World.drewN_drewN _ _ _) (congrArg (World.drewN _) (Nat.add_assoc _ _ _))⟩)))
                      repeat (go_quiet (first | (go_at_call 30; (with_reducible refine (impl_in.calls ((rd_T31 l0 x14).f0) 1 100 true _ A0.out).mono ?_); rintro e w' ⟨rfl, ⟨nd, rfl⟩⟩; (try first | exact ⟨rfl, _, World.drewN_drewN _ _ _⟩ | exact ⟨rfl, _, Eq.trans (World.drewN_drewN _ _ _) (congrArg (World.drewN _) (Nat.add_assoc _ _ _))⟩)) | (go_at_call 32; (with_reducible refine (impl_linePort.calls ((rd_T31 l0 x14).f1) true _ A1.out).mono ?_); rintro e w' ⟨rfl, ⟨nd, rfl⟩⟩; (try first | exact ⟨rfl, _, World.drewN_drewN _ _ _⟩ | exact ⟨rfl, _, Eq.trans (World.drewN_drewN _ _ _) (congrArg (World.drewN _) (Nat.add_assoc _ _ _))⟩)) | (go_at_call 32; (with_reducible refine (impl_linePort.calls ((rd_T31 l0 x14).f2) true _ A2.out).mono ?_); rintro e w' ⟨rfl, ⟨nd, rfl⟩⟩; (try first | exact ⟨rfl, _, World.drewN_drewN _ _ _⟩ | exact ⟨rfl, _, Eq.trans (World.drewN_drewN _ _ _) (congrArg (World.drewN _) (Nat.add_assoc _ _ _))⟩)) | (go_at_call 33; (with_reducible refine (impl_minuteOk.calls ((rd_T31 l0 x14).f3) true _ A4.out).mono ?_); rintro e w' ⟨rfl, ⟨nd, rfl⟩⟩; (try first | exact ⟨rfl, _, World.drewN_drewN _ _ _⟩ | exact ⟨rfl, _, Eq.trans (World.drewN_drewN _ _ _) (congrArg (World.drewN _) (Nat.add_assoc _ _ _))⟩)) | (go_at_call 33; (with_reducible refine (impl_minuteOk.calls ((rd_T31 l0 x14).f4) false _ A5.out).mono ?_); rintro e w' ⟨rfl, ⟨nd, rfl⟩⟩; (try first | exact ⟨rfl, _, World.drewN_drewN _ _ _⟩ | exact ⟨rfl, _, Eq.trans (World.drewN_drewN _ _ _) (congrArg (World.drewN _) (Nat.add_assoc _ _ _))⟩))); try go_wp2_with (first | (go_at_call 30; (with_reducible refine (impl_in.calls ((rd_T31 l0 x14).f0) 1 100 true _ A0.out).mono ?_); rintro e w' ⟨rfl, ⟨nd, rfl⟩⟩; (try first | exact ⟨rfl, _, World.drewN_drewN _ _ _⟩ | exact ⟨rfl, _, Eq.trans (World.drewN_drewN _ _ _) (congrArg (World.drewN _) (Nat.add_assoc _ _ _))⟩)) | (go_at_call 32; (with_reducible refine (impl_linePort.calls ((rd_T31 l0 x14).f1) true _ A1.out).mono ?_); rintro e w' ⟨rfl, ⟨nd, rfl⟩⟩; (try first | exact ⟨rfl, _, World.drewN_drewN _ _ _⟩ | exact ⟨rfl, _, Eq.trans (World.drewN_drewN _ _ _) (congrArg (World.drewN _) (Nat.add_assoc _ _ _))⟩)) | (go_at_call 32; (with_reducible refine (impl_linePort.calls ((rd_T31 l0 x14).f2) true _ A2.out).mono ?_); rintro e w' ⟨rfl, ⟨nd, rfl⟩⟩; (try first | exact ⟨rfl, _, World.drewN_drewN _ _ _⟩ | exact ⟨rfl, _, Eq.trans (World.drewN_drewN _ _ _) (congrArg (World.drewN _) (Nat.add_assoc _ _ _))⟩)) | (go_at_call 33; (with_reducible refine (impl_minuteOk.calls ((rd_T31 l0 x14).f3) true _ A4.out).mono ?_); rintro e w' ⟨rfl, ⟨nd, rfl⟩⟩; (try first | exact ⟨rfl, _, World.drewN_drewN _ _ _⟩ | exact ⟨rfl, _, Eq.trans (World.drewN_drewN _ _ _) (congrArg (World.drewN _) (Nat.add_assoc _ _ _))⟩)) | (go_at_call 33; (with_reducible refine (impl_minuteOk.calls ((rd_T31 l0 x14).f4) false _ A5.out).mono ?_); rintro e w' ⟨rfl, ⟨nd, rfl⟩⟩; (try first | exact ⟨rfl, _, World.drewN_drewN _ _ _⟩ | exact ⟨rfl, _, Eq.trans (World.drewN_drewN _ _ _) (congrArg (World.drewN _) (Nat.add_assoc _ _ _))⟩))))
                      go_meet
                      case rel => exact ⟨by rw [HBAD.out]; rfl, ⟨by (with_reducible repeat (first | refine blk_drewN ?_ _ | refine blk_drew ?_ | refine blk_alloc ?_ _)); refine blk_put (cs := #[.int .i64 (rd_T31 l0 x14).f0, .int .i64 (rd_T31 l0 x14).f1, .int .i64 (rd_T31 l0 x14).f2, .int .i64 (rd_T31 l0 x14).f3, .int .i64 (rd_T31 l0 x14).f4, .int .i64 0]) ?_ 5 _ rfl; (with_reducible repeat (first | refine blk_drewN ?_ _ | refine blk_drew ?_ | refine blk_alloc ?_ _)); refine blk_put (cs := #[.int .i64 (rd_T31 l0 x14).f0, .int .i64 (rd_T31 l0 x14).f1, .int .i64 (rd_T31 l0 x14).f2, .int .i64 (rd_T31 l0 x14).f3, .int .i64 0, .int .i64 0]) ?_ 4 _ rfl; (with_reducible repeat (first | refine blk_drewN ?_ _ | refine blk_drew ?_ | refine blk_alloc ?_ _)); refine blk_put (cs := #[.int .i64 (rd_T31 l0 x14).f0, .int .i64 (rd_T31 l0 x14).f1, .int .i64 (rd_T31 l0 x14).f2, .int .i64 0, .int .i64 0, .int .i64 0]) ?_ 3 _ rfl; (with_reducible repeat (first | refine blk_drewN ?_ _ | refine blk_drew ?_ | refine blk_alloc ?_ _)); refine blk_put (cs := #[.int .i64 (rd_T31 l0 x14).f0, .int .i64 (rd_T31 l0 x14).f1, .int .i64 0, .int .i64 0, .int .i64 0, .int .i64 0]) ?_ 2 _ rfl; (with_reducible repeat (first | refine blk_drewN ?_ _ | refine blk_drew ?_ | refine blk_alloc ?_ _)); refine blk_put (cs := #[.int .i64 (rd_T31 l0 x14).f0, .int .i64 0, .int .i64 0, .int .i64 0, .int .i64 0, .int .i64 0]) ?_ 1 _ rfl; (with_reducible repeat (first | refine blk_drewN ?_ _ | refine blk_drew ?_ | refine blk_alloc ?_ _)); refine blk_put (cs := #[.int .i64 0, .int .i64 0, .int .i64 0, .int .i64 0, .int .i64 0, .int .i64 0]) ?_ 0 _ rfl; (with_reducible repeat (first | refine blk_drewN ?_ _ | refine blk_drew ?_ | refine blk_alloc ?_ _)); exact BK1.out⟩, ⟨by repeat (first | (with_reducible first | exact HO.out | apply impl_LegsOk.own_drewN | refine World.ownsMap.setCell ?_ NB1.out _ | refine World.ownsMap.setCell ?_ NB2.out _) | exact HO.out)⟩, ⟨by repeat (first | (with_reducible first | exact HB.out | apply below_alloc | apply pw_below_drewN | apply below_drew1 | refine below_set ?_ GE1.out | refine below_set ?_ GE2.out) | exact HB.out)⟩⟩
                    | true =>
                      cases B6 with
                      | true =>
                        go_wp2_with (first | (go_at_call 30; (with_reducible refine (impl_in.calls ((rd_T31 l0 x14).f0) 1 100 true _ A0.out).mono ?_); rintro e w' ⟨rfl, ⟨nd, rfl⟩⟩; (try first | exact ⟨rfl, _, World.drewN_drewN _ _ _⟩ | exact ⟨rfl, _, Eq.trans (World.drewN_drewN _ _ _) (congrArg (World.drewN _) (Nat.add_assoc _ _ _))⟩)) | (go_at_call 32; (with_reducible refine (impl_linePort.calls ((rd_T31 l0 x14).f1) true _ A1.out).mono ?_); rintro e w' ⟨rfl, ⟨nd, rfl⟩⟩; (try first | exact ⟨rfl, _, World.drewN_drewN _ _ _⟩ | exact ⟨rfl, _, Eq.trans (World.drewN_drewN _ _ _) (congrArg (World.drewN _) (Nat.add_assoc _ _ _))⟩)) | (go_at_call 32; (with_reducible refine (impl_linePort.calls ((rd_T31 l0 x14).f2) true _ A2.out).mono ?_); rintro e w' ⟨rfl, ⟨nd, rfl⟩⟩; (try first | exact ⟨rfl, _, World.drewN_drewN _ _ _⟩ | exact ⟨rfl, _, Eq.trans (World.drewN_drewN _ _ _) (congrArg (World.drewN _) (Nat.add_assoc _ _ _))⟩)) | (go_at_call 33; (with_reducible refine (impl_minuteOk.calls ((rd_T31 l0 x14).f3) true _ A4.out).mono ?_); rintro e w' ⟨rfl, ⟨nd, rfl⟩⟩; (try first | exact ⟨rfl, _, World.drewN_drewN _ _ _⟩ | exact ⟨rfl, _, Eq.trans (World.drewN_drewN _ _ _) (congrArg (World.drewN _) (Nat.add_assoc _ _ _))⟩)) | (go_at_call 33; (with_reducible refine (impl_minuteOk.calls ((rd_T31 l0 x14).f4) true _ A5.out).mono ?_); rintro e w' ⟨rfl, ⟨nd, rfl⟩⟩; (try first | exact ⟨rfl, _, World.drewN_drewN _ _ _⟩ | exact ⟨rfl, _, Eq.trans (World.drewN_drewN _ _ _) (congrArg (World.drewN _) (Nat.add_assoc _ _ _))⟩)))
                        repeat (go_quiet (first | (go_at_call 30; (with_reducible refine (impl_in.calls ((rd_T31 l0 x14).f0) 1 100 true _ A0.out).mono ?_); rintro e w' ⟨rfl, ⟨nd, rfl⟩⟩; (try first | exact ⟨rfl, _, World.drewN_drewN _ _ _⟩ | exact ⟨rfl, _, Eq.trans (World.drewN_drewN _ _ _) (congrArg (World.drewN _) (Nat.add_assoc _ _ _))⟩)) | (go_at_call 32; (with_reducible refine (impl_linePort.calls ((rd_T31 l0 x14).f1) true _ A1.out).mono ?_); rintro e w' ⟨rfl, ⟨nd, rfl⟩⟩; (try first | exact ⟨rfl, _, World.drewN_drewN _ _ _⟩ | exact ⟨rfl, _, Eq.trans (World.drewN_drewN _ _ _) (congrArg (World.drewN _) (Nat.add_assoc _ _ _))⟩)) | (go_at_call 32; (with_reducible refine (impl_linePort.calls ((rd_T31 l0 x14).f2) true _ A2.out).mono ?_); rintro e w' ⟨rfl, ⟨nd, rfl⟩⟩; (try first | exact ⟨rfl, _, World.drewN_drewN _ _ _⟩ | exact ⟨rfl, _, Eq.trans (World.drewN_drewN _ _ _) (congrArg (World.drewN _) (Nat.add_assoc _ _ _))⟩)) | (go_at_call 33; (with_reducible refine (impl_minuteOk.calls ((rd_T31 l0 x14).f3) true _ A4.out).mono ?_); rintro e w' ⟨rfl, ⟨nd, rfl⟩⟩; (try first | exact ⟨rfl, _, World.drewN_drewN _ _ _⟩ | exact ⟨rfl, _, Eq.trans (World.drewN_drewN _ _ _) (congrArg (World.drewN _) (Nat.add_assoc _ _ _))⟩)) | (go_at_call 33; (with_reducible refine (impl_minuteOk.calls ((rd_T31 l0 x14).f4) true _ A5.out).mono ?_); rintro e w' ⟨rfl, ⟨nd, rfl⟩⟩; (try first | exact ⟨rfl, _, World.drewN_drewN _ _ _⟩ | exact ⟨rfl, _, Eq.trans (World.drewN_drewN _ _ _) (congrArg (World.drewN _) (Nat.add_assoc _ _ _))⟩))); try go_wp2_with (first | (go_at_call 30; (with_reducible refine (impl_in.calls ((rd_T31 l0 x14).f0) 1 100 true _ A0.out).mono ?_); rintro e w' ⟨rfl, ⟨nd, rfl⟩⟩; (try first | exact ⟨rfl, _, World.drewN_drewN _ _ _⟩ | exact ⟨rfl, _, Eq.trans (World.drewN_drewN _ _ _) (congrArg (World.drewN _) (Nat.add_assoc _ _ _))⟩)) | (go_at_call 32; (with_reducible refine (impl_linePort.calls ((rd_T31 l0 x14).f1) true _ A1.out).mono ?_); rintro e w' ⟨rfl, ⟨nd, rfl⟩⟩; (try first | exact ⟨rfl, _, World.drewN_drewN _ _ _⟩ | exact ⟨rfl, _, Eq.trans (World.drewN_drewN _ _ _) (congrArg (World.drewN _) (Nat.add_assoc _ _ _))⟩)) | (go_at_call 32; (with_reducible refine (impl_linePort.calls ((rd_T31 l0 x14).f2) true _ A2.out).mono ?_); rintro e w' ⟨rfl, ⟨nd, rfl⟩⟩; (try first | exact ⟨rfl, _, World.drewN_drewN _ _ _⟩ | exact ⟨rfl, _, Eq.trans (World.drewN_drewN _ _ _) (congrArg (World.drewN _) (Nat.add_assoc _ _ _))⟩)) | (go_at_call 33; (with_reducible refine (impl_minuteOk.calls ((rd_T31 l0 x14).f3) true _ A4.out).mono ?_); rintro e w' ⟨rfl, ⟨nd, rfl⟩⟩; (try first | exact ⟨rfl, _, World.drewN_drewN _ _ _⟩ | exact ⟨rfl, _, Eq.trans (World.drewN_drewN _ _ _) (congrArg (World.drewN _) (Nat.add_assoc _ _ _))⟩)) | (go_at_call 33; (with_reducible refine (impl_minuteOk.calls ((rd_T31 l0 x14).f4) true _ A5.out).mono ?_); rintro e w' ⟨rfl, ⟨nd, rfl⟩⟩; (try first | exact ⟨rfl, _, World.drewN_drewN _ _ _⟩ | exact ⟨rfl, _, Eq.trans (World.drewN_drewN _ _ _) (congrArg (World.drewN _) (Nat.add_assoc _ _ _))⟩))))
                        go_meet
                        case rel => exact ⟨by rw [HBAD.out]; rfl, ⟨by (with_reducible repeat (first | refine blk_drewN ?_ _ | refine blk_drew ?_ | refine blk_alloc ?_ _)); refine blk_put (cs := #[.int .i64 (rd_T31 l0 x14).f0, .int .i64 (rd_T31 l0 x14).f1, .int .i64 (rd_T31 l0 x14).f2, .int .i64 (rd_T31 l0 x14).f3, .int .i64 (rd_T31 l0 x14).f4, .int .i64 0]) ?_ 5 _ rfl; (with_reducible repeat (first | refine blk_drewN ?_ _ | refine blk_drew ?_ | refine blk_alloc ?_ _)); refine blk_put (cs := #[.int .i64 (rd_T31 l0 x14).f0, .int .i64 (rd_T31 l0 x14).f1, .int .i64 (rd_T31 l0 x14).f2, .int .i64 (rd_T31 l0 x14).f3, .int .i64 0, .int .i64 0]) ?_ 4 _ rfl; (with_reducible repeat (first | refine blk_drewN ?_ _ | refine blk_drew ?_ | refine blk_alloc ?_ _)); refine blk_put (cs := #[.int .i64 (rd_T31 l0 x14).f0, .int .i64 (rd_T31 l0 x14).f1, .int .i64 (rd_T31 l0 x14).f2, .int .i64 0, .int .i64 0, .int .i64 0]) ?_ 3 _ rfl; (with_reducible repeat (first | refine blk_drewN ?_ _ | refine blk_drew ?_ | refine blk_alloc ?_ _)); refine blk_put (cs := #[.int .i64 (rd_T31 l0 x14).f0, .int .i64 (rd_T31 l0 x14).f1, .int .i64 0, .int .i64 0, .int .i64 0, .int .i64 0]) ?_ 2 _ rfl; (with_reducible repeat (first | refine blk_drewN ?_ _ | refine blk_drew ?_ | refine blk_alloc ?_ _)); refine blk_put (cs := #[.int .i64 (rd_T31 l0 x14).f0, .int .i64 0, .int .i64 0, .int .i64 0, .int .i64 0, .int .i64 0]) ?_ 1 _ rfl; (with_reducible repeat (first | refine blk_drewN ?_ _ | refine blk_drew ?_ | refine blk_alloc ?_ _)); refine blk_put (cs := #[.int .i64 0, .int .i64 0, .int .i64 0, .int .i64 0, .int .i64 0, .int .i64 0]) ?_ 0 _ rfl; (with_reducible repeat (first | refine blk_drewN ?_ _ | refine blk_drew ?_ | refine blk_alloc ?_ _)); exact BK1.out⟩, ⟨by repeat (first | (with_reducible first | exact HO.out | apply impl_LegsOk.own_drewN | refine World.ownsMap.setCell ?_ NB1.out _ | refine World.ownsMap.setCell ?_ NB2.out _) | exact HO.out)⟩, ⟨by repeat (first | (with_reducible first | exact HB.out | apply below_alloc | apply pw_below_drewN | apply below_drew1 | refine below_set ?_ GE1.out | refine below_set ?_ GE2.out) | exact HB.out)⟩⟩
                      | false =>
                        cases B7 with
                        | false =>
                          go_wp2_with (first | (go_at_call 30; (with_reducible refine (impl_in.calls ((rd_T31 l0 x14).f0) 1 100 true _ A0.out).mono ?_); rintro e w' ⟨rfl, ⟨nd, rfl⟩⟩; (try first | exact ⟨rfl, _, World.drewN_drewN _ _ _⟩ | exact ⟨rfl, _, Eq.trans (World.drewN_drewN _ _ _) (congrArg (World.drewN _) (Nat.add_assoc _ _ _))⟩)) | (go_at_call 32; (with_reducible refine (impl_linePort.calls ((rd_T31 l0 x14).f1) true _ A1.out).mono ?_); rintro e w' ⟨rfl, ⟨nd, rfl⟩⟩; (try first | exact ⟨rfl, _, World.drewN_drewN _ _ _⟩ | exact ⟨rfl, _, Eq.trans (World.drewN_drewN _ _ _) (congrArg (World.drewN _) (Nat.add_assoc _ _ _))⟩)) | (go_at_call 32; (with_reducible refine (impl_linePort.calls ((rd_T31 l0 x14).f2) true _ A2.out).mono ?_); rintro e w' ⟨rfl, ⟨nd, rfl⟩⟩; (try first | exact ⟨rfl, _, World.drewN_drewN _ _ _⟩ | exact ⟨rfl, _, Eq.trans (World.drewN_drewN _ _ _) (congrArg (World.drewN _) (Nat.add_assoc _ _ _))⟩)) | (go_at_call 33; (with_reducible refine (impl_minuteOk.calls ((rd_T31 l0 x14).f3) true _ A4.out).mono ?_); rintro e w' ⟨rfl, ⟨nd, rfl⟩⟩; (try first | exact ⟨rfl, _, World.drewN_drewN _ _ _⟩ | exact ⟨rfl, _, Eq.trans (World.drewN_drewN _ _ _) (congrArg (World.drewN _) (Nat.add_assoc _ _ _))⟩)) | (go_at_call 33; (with_reducible refine (impl_minuteOk.calls ((rd_T31 l0 x14).f4) true _ A5.out).mono ?_); rintro e w' ⟨rfl, ⟨nd, rfl⟩⟩; (try first | exact ⟨rfl, _, World.drewN_drewN _ _ _⟩ | exact ⟨rfl, _, Eq.trans (World.drewN_drewN _ _ _) (congrArg (World.drewN _) (Nat.add_assoc _ _ _))⟩)) | (go_at_call 30; (with_reducible refine (impl_in.calls ((rd_T31 l0 x14).f5) 0 1000000 false _ A7.out).mono ?_); rintro e w' ⟨rfl, ⟨nd, rfl⟩⟩; (try first | exact ⟨rfl, _, World.drewN_drewN _ _ _⟩ | exact ⟨rfl, _, Eq.trans (World.drewN_drewN _ _ _) (congrArg (World.drewN _) (Nat.add_assoc _ _ _))⟩)))
                          repeat (go_quiet (first | (go_at_call 30; (with_reducible refine (impl_in.calls ((rd_T31 l0 x14).f0) 1 100 true _ A0.out).mono ?_); rintro e w' ⟨rfl, ⟨nd, rfl⟩⟩; (try first | exact ⟨rfl, _, World.drewN_drewN _ _ _⟩ | exact ⟨rfl, _, Eq.trans (World.drewN_drewN _ _ _) (congrArg (World.drewN _) (Nat.add_assoc _ _ _))⟩)) | (go_at_call 32; (with_reducible refine (impl_linePort.calls ((rd_T31 l0 x14).f1) true _ A1.out).mono ?_); rintro e w' ⟨rfl, ⟨nd, rfl⟩⟩; (try first | exact ⟨rfl, _, World.drewN_drewN _ _ _⟩ | exact ⟨rfl, _, Eq.trans (World.drewN_drewN _ _ _) (congrArg (World.drewN _) (Nat.add_assoc _ _ _))⟩)) | (go_at_call 32; (with_reducible refine (impl_linePort.calls ((rd_T31 l0 x14).f2) true _ A2.out).mono ?_); rintro e w' ⟨rfl, ⟨nd, rfl⟩⟩; (try first | exact ⟨rfl, _, World.drewN_drewN _ _ _⟩ | exact ⟨rfl, _, Eq.trans (World.drewN_drewN _ _ _) (congrArg (World.drewN _) (Nat.add_assoc _ _ _))⟩)) | (go_at_call 33; (with_reducible refine (impl_minuteOk.calls ((rd_T31 l0 x14).f3) true _ A4.out).mono ?_); rintro e w' ⟨rfl, ⟨nd, rfl⟩⟩; (try first | exact ⟨rfl, _, World.drewN_drewN _ _ _⟩ | exact ⟨rfl, _, Eq.trans (World.drewN_drewN _ _ _) (congrArg (World.drewN _) (Nat.add_assoc _ _ _))⟩)) | (go_at_call 33; (with_reducible refine (impl_minuteOk.calls ((rd_T31 l0 x14).f4) true _ A5.out).mono ?_); rintro e w' ⟨rfl, ⟨nd, rfl⟩⟩; (try first | exact ⟨rfl, _, World.drewN_drewN _ _ _⟩ | exact ⟨rfl, _, Eq.trans (World.drewN_drewN _ _ _) (congrArg (World.drewN _) (Nat.add_assoc _ _ _))⟩)) | (go_at_call 30; (with_reducible refine (impl_in.calls ((rd_T31 l0 x14).f5) 0 1000000 false _ A7.out).mono ?_); rintro e w' ⟨rfl, ⟨nd, rfl⟩⟩; (try first | exact ⟨rfl, _, World.drewN_drewN _ _ _⟩ | exact ⟨rfl, _, Eq.trans (World.drewN_drewN _ _ _) (congrArg (World.drewN _) (Nat.add_assoc _ _ _))⟩))); try go_wp2_with (first | (go_at_call 30; (with_reducible refine (impl_in.calls ((rd_T31 l0 x14).f0) 1 100 true _ A0.out).mono ?_); rintro e w' ⟨rfl, ⟨nd, rfl⟩⟩; (try first | exact ⟨rfl, _, World.drewN_drewN _ _ _⟩ | exact ⟨rfl, _, Eq.trans (World.drewN_drewN _ _ _) (congrArg (World.drewN _) (Nat.add_assoc _ _ _))⟩)) | (go_at_call 32; (with_reducible refine (impl_linePort.calls ((rd_T31 l0 x14).f1) true _ A1.out).mono ?_); rintro e w' ⟨rfl, ⟨nd, rfl⟩⟩; (try first | exact ⟨rfl, _, World.drewN_drewN _ _ _⟩ | exact ⟨rfl, _, Eq.trans (World.drewN_drewN _ _ _) (congrArg (World.drewN _) (Nat.add_assoc _ _ _))⟩)) | (go_at_call 32; (with_reducible refine (impl_linePort.calls ((rd_T31 l0 x14).f2) true _ A2.out).mono ?_); rintro e w' ⟨rfl, ⟨nd, rfl⟩⟩; (try first | exact ⟨rfl, _, World.drewN_drewN _ _ _⟩ | exact ⟨rfl, _, Eq.trans (World.drewN_drewN _ _ _) (congrArg (World.drewN _) (Nat.add_assoc _ _ _))⟩)) | (go_at_call 33; (with_reducible refine (impl_minuteOk.calls ((rd_T31 l0 x14).f3) true _ A4.out).mono ?_); rintro e w' ⟨rfl, ⟨nd, rfl⟩⟩; (try first | exact ⟨rfl, _, World.drewN_drewN _ _ _⟩ | exact ⟨rfl, _, Eq.trans (World.drewN_drewN _ _ _) (congrArg (World.drewN _) (Nat.add_assoc _ _ _))⟩)) | (go_at_call 33; (with_reducible refine (impl_minuteOk.calls ((rd_T31 l0 x14).f4) true _ A5.out).mono ?_); rintro e w' ⟨rfl, ⟨nd, rfl⟩⟩; (try first | exact ⟨rfl, _, World.drewN_drewN _ _ _⟩ | exact ⟨rfl, _, Eq.trans (World.drewN_drewN _ _ _) (congrArg (World.drewN _) (Nat.add_assoc _ _ _))⟩)) | (go_at_call 30; (with_reducible refine (impl_in.calls ((rd_T31 l0 x14).f5) 0 1000000 false _ A7.out).mono ?_); rintro e w' ⟨rfl, ⟨nd, rfl⟩⟩; (try first | exact ⟨rfl, _, World.drewN_drewN _ _ _⟩ | exact ⟨rfl, _, Eq.trans (World.drewN_drewN _ _ _) (congrArg (World.drewN _) (Nat.add_assoc _ _ _))⟩))))
                          go_meet
                          case rel => exact ⟨by rw [HBAD.out]; rfl, ⟨by (with_reducible repeat (first | refine blk_drewN ?_ _ | refine blk_drew ?_ | refine blk_alloc ?_ _)); refine blk_put (cs := #[.int .i64 (rd_T31 l0 x14).f0, .int .i64 (rd_T31 l0 x14).f1, .int .i64 (rd_T31 l0 x14).f2, .int .i64 (rd_T31 l0 x14).f3, .int .i64 (rd_T31 l0 x14).f4, .int .i64 0]) ?_ 5 _ rfl; (with_reducible repeat (first | refine blk_drewN ?_ _ | refine blk_drew ?_ | refine blk_alloc ?_ _)); refine blk_put (cs := #[.int .i64 (rd_T31 l0 x14).f0, .int .i64 (rd_T31 l0 x14).f1, .int .i64 (rd_T31 l0 x14).f2, .int .i64 (rd_T31 l0 x14).f3, .int .i64 0, .int .i64 0]) ?_ 4 _ rfl; (with_reducible repeat (first | refine blk_drewN ?_ _ | refine blk_drew ?_ | refine blk_alloc ?_ _)); refine blk_put (cs := #[.int .i64 (rd_T31 l0 x14).f0, .int .i64 (rd_T31 l0 x14).f1, .int .i64 (rd_T31 l0 x14).f2, .int .i64 0, .int .i64 0, .int .i64 0]) ?_ 3 _ rfl; (with_reducible repeat (first | refine blk_drewN ?_ _ | refine blk_drew ?_ | refine blk_alloc ?_ _)); refine blk_put (cs := #[.int .i64 (rd_T31 l0 x14).f0, .int .i64 (rd_T31 l0 x14).f1, .int .i64 0, .int .i64 0, .int .i64 0, .int .i64 0]) ?_ 2 _ rfl; (with_reducible repeat (first | refine blk_drewN ?_ _ | refine blk_drew ?_ | refine blk_alloc ?_ _)); refine blk_put (cs := #[.int .i64 (rd_T31 l0 x14).f0, .int .i64 0, .int .i64 0, .int .i64 0, .int .i64 0, .int .i64 0]) ?_ 1 _ rfl; (with_reducible repeat (first | refine blk_drewN ?_ _ | refine blk_drew ?_ | refine blk_alloc ?_ _)); refine blk_put (cs := #[.int .i64 0, .int .i64 0, .int .i64 0, .int .i64 0, .int .i64 0, .int .i64 0]) ?_ 0 _ rfl; (with_reducible repeat (first | refine blk_drewN ?_ _ | refine blk_drew ?_ | refine blk_alloc ?_ _)); exact BK1.out⟩, ⟨by repeat (first | (with_reducible first | exact HO.out | apply impl_LegsOk.own_drewN | refine World.ownsMap.setCell ?_ NB1.out _ | refine World.ownsMap.setCell ?_ NB2.out _) | exact HO.out)⟩, ⟨by repeat (first | (with_reducible first | exact HB.out | apply below_alloc | apply pw_below_drewN | apply below_drew1 | refine below_set ?_ GE1.out | refine below_set ?_ GE2.out) | exact HB.out)⟩⟩
                        | true =>
                          go_wp2_with (first | (go_at_call 30; (with_reducible refine (impl_in.calls ((rd_T31 l0 x14).f0) 1 100 true _ A0.out).mono ?_); rintro e w' ⟨rfl, ⟨nd, rfl⟩⟩; (try first | exact ⟨rfl, _, World.drewN_drewN _ _ _⟩ | exact ⟨rfl, _, Eq.trans (World.drewN_drewN _ _ _) (congrArg (World.drewN _) (Nat.add_assoc _ _ _))⟩)) | (go_at_call 32; (with_reducible refine (impl_linePort.calls ((rd_T31 l0 x14).f1) true _ A1.out).mono ?_); rintro e w' ⟨rfl, ⟨nd, rfl⟩⟩; (try first | exact ⟨rfl, _, World.drewN_drewN _ _ _⟩ | exact ⟨rfl, _, Eq.trans (World.drewN_drewN _ _ _) (congrArg (World.drewN _) (Nat.add_assoc _ _ _))⟩)) | (go_at_call 32; (with_reducible refine (impl_linePort.calls ((rd_T31 l0 x14).f2) true _ A2.out).mono ?_); rintro e w' ⟨rfl, ⟨nd, rfl⟩⟩; (try first | exact ⟨rfl, _, World.drewN_drewN _ _ _⟩ | exact ⟨rfl, _, Eq.trans (World.drewN_drewN _ _ _) (congrArg (World.drewN _) (Nat.add_assoc _ _ _))⟩)) | (go_at_call 33; (with_reducible refine (impl_minuteOk.calls ((rd_T31 l0 x14).f3) true _ A4.out).mono ?_); rintro e w' ⟨rfl, ⟨nd, rfl⟩⟩; (try first | exact ⟨rfl, _, World.drewN_drewN _ _ _⟩ | exact ⟨rfl, _, Eq.trans (World.drewN_drewN _ _ _) (congrArg (World.drewN _) (Nat.add_assoc _ _ _))⟩)) | (go_at_call 33; (with_reducible refine (impl_minuteOk.calls ((rd_T31 l0 x14).f4) true _ A5.out).mono ?_); rintro e w' ⟨rfl, ⟨nd, rfl⟩⟩; (try first | exact ⟨rfl, _, World.drewN_drewN _ _ _⟩ | exact ⟨rfl, _, Eq.trans (World.drewN_drewN _ _ _) (congrArg (World.drewN _) (Nat.add_assoc _ _ _))⟩)) | (go_at_call 30; (with_reducible refine (impl_in.calls ((rd_T31 l0 x14).f5) 0 1000000 true _ A7.out).mono ?_); rintro e w' ⟨rfl, ⟨nd, rfl⟩⟩; (try first | exact ⟨rfl, _, World.drewN_drewN _ _ _⟩ | exact ⟨rfl, _, Eq.trans (World.drewN_drewN _ _ _) (congrArg (World.drewN _) (Nat.add_assoc _ _ _))⟩)))
                          repeat (go_quiet (first | (go_at_call 30; (with_reducible refine (impl_in.calls ((rd_T31 l0 x14).f0) 1 100 true _ A0.out).mono ?_); rintro e w' ⟨rfl, ⟨nd, rfl⟩⟩; (try first | exact ⟨rfl, _, World.drewN_drewN _ _ _⟩ | exact ⟨rfl, _, Eq.trans (World.drewN_drewN _ _ _) (congrArg (World.drewN _) (Nat.add_assoc _ _ _))⟩)) | (go_at_call 32; (with_reducible refine (impl_linePort.calls ((rd_T31 l0 x14).f1) true _ A1.out).mono ?_); rintro e w' ⟨rfl, ⟨nd, rfl⟩⟩; (try first | exact ⟨rfl, _, World.drewN_drewN _ _ _⟩ | exact ⟨rfl, _, Eq.trans (World.drewN_drewN _ _ _) (congrArg (World.drewN _) (Nat.add_assoc _ _ _))⟩)) | (go_at_call 32; (with_reducible refine (impl_linePort.calls ((rd_T31 l0 x14).f2) true _ A2.out).mono ?_); rintro e w' ⟨rfl, ⟨nd, rfl⟩⟩; (try first | exact ⟨rfl, _, World.drewN_drewN _ _ _⟩ | exact ⟨rfl, _, Eq.trans (World.drewN_drewN _ _ _) (congrArg (World.drewN _) (Nat.add_assoc _ _ _))⟩)) | (go_at_call 33; (with_reducible refine (impl_minuteOk.calls ((rd_T31 l0 x14).f3) true _ A4.out).mono ?_); rintro e w' ⟨rfl, ⟨nd, rfl⟩⟩; (try first | exact ⟨rfl, _, World.drewN_drewN _ _ _⟩ | exact ⟨rfl, _, Eq.trans (World.drewN_drewN _ _ _) (congrArg (World.drewN _) (Nat.add_assoc _ _ _))⟩)) | (go_at_call 33; (with_reducible refine (impl_minuteOk.calls ((rd_T31 l0 x14).f4) true _ A5.out).mono ?_); rintro e w' ⟨rfl, ⟨nd, rfl⟩⟩; (try first | exact ⟨rfl, _, World.drewN_drewN _ _ _⟩ | exact ⟨rfl, _, Eq.trans (World.drewN_drewN _ _ _) (congrArg (World.drewN _) (Nat.add_assoc _ _ _))⟩)) | (go_at_call 30; (with_reducible refine (impl_in.calls ((rd_T31 l0 x14).f5) 0 1000000 true _ A7.out).mono ?_); rintro e w' ⟨rfl, ⟨nd, rfl⟩⟩; (try first | exact ⟨rfl, _, World.drewN_drewN _ _ _⟩ | exact ⟨rfl, _, Eq.trans (World.drewN_drewN _ _ _) (congrArg (World.drewN _) (Nat.add_assoc _ _ _))⟩))); try go_wp2_with (first | (go_at_call 30; (with_reducible refine (impl_in.calls ((rd_T31 l0 x14).f0) 1 100 true _ A0.out).mono ?_); rintro e w' ⟨rfl, ⟨nd, rfl⟩⟩; (try first | exact ⟨rfl, _, World.drewN_drewN _ _ _⟩ | exact ⟨rfl, _, Eq.trans (World.drewN_drewN _ _ _) (congrArg (World.drewN _) (Nat.add_assoc _ _ _))⟩)) | (go_at_call 32; (with_reducible refine (impl_linePort.calls ((rd_T31 l0 x14).f1) true _ A1.out).mono ?_); rintro e w' ⟨rfl, ⟨nd, rfl⟩⟩; (try first | exact ⟨rfl, _, World.drewN_drewN _ _ _⟩ | exact ⟨rfl, _, Eq.trans (World.drewN_drewN _ _ _) (congrArg (World.drewN _) (Nat.add_assoc _ _ _))⟩)) | (go_at_call 32; (with_reducible refine (impl_linePort.calls ((rd_T31 l0 x14).f2) true _ A2.out).mono ?_); rintro e w' ⟨rfl, ⟨nd, rfl⟩⟩; (try first | exact ⟨rfl, _, World.drewN_drewN _ _ _⟩ | exact ⟨rfl, _, Eq.trans (World.drewN_drewN _ _ _) (congrArg (World.drewN _) (Nat.add_assoc _ _ _))⟩)) | (go_at_call 33; (with_reducible refine (impl_minuteOk.calls ((rd_T31 l0 x14).f3) true _ A4.out).mono ?_); rintro e w' ⟨rfl, ⟨nd, rfl⟩⟩; (try first | exact ⟨rfl, _, World.drewN_drewN _ _ _⟩ | exact ⟨rfl, _, Eq.trans (World.drewN_drewN _ _ _) (congrArg (World.drewN _) (Nat.add_assoc _ _ _))⟩)) | (go_at_call 33; (with_reducible refine (impl_minuteOk.calls ((rd_T31 l0 x14).f4) true _ A5.out).mono ?_); rintro e w' ⟨rfl, ⟨nd, rfl⟩⟩; (try first | exact ⟨rfl, _, World.drewN_drewN _ _ _⟩ | exact ⟨rfl, _, Eq.trans (World.drewN_drewN _ _ _) (congrArg (World.drewN _) (Nat.add_assoc _ _ _))⟩)) | (go_at_call 30; (with_reducible refine (impl_in.calls ((rd_T31 l0 x14).f5) 0 1000000 true _ A7.out).mono ?_); rintro e w' ⟨rfl, ⟨nd, rfl⟩⟩; (try first | exact ⟨rfl, _, World.drewN_drewN _ _ _⟩ | exact ⟨rfl, _, Eq.trans (World.drewN_drewN _ _ _) (congrArg (World.drewN _) (Nat.add_assoc _ _ _))⟩))))
                          go_meet
                          case rel => exact ⟨by rw [HBAD.out]; rfl, ⟨by (with_reducible repeat (first | refine blk_drewN ?_ _ | refine blk_drew ?_ | refine blk_alloc ?_ _)); refine blk_put (cs := #[.int .i64 (rd_T31 l0 x14).f0, .int .i64 (rd_T31 l0 x14).f1, .int .i64 (rd_T31 l0 x14).f2, .int .i64 (rd_T31 l0 x14).f3, .int .i64 (rd_T31 l0 x14).f4, .int .i64 0]) ?_ 5 _ rfl; (with_reducible repeat (first | refine blk_drewN ?_ _ | refine blk_drew ?_ | refine blk_alloc ?_ _)); refine blk_put (cs := #[.int .i64 (rd_T31 l0 x14).f0, .int .i64 (rd_T31 l0 x14).f1, .int .i64 (rd_T31 l0 x14).f2, .int .i64 (rd_T31 l0 x14).f3, .int .i64 0, .int .i64 0]) ?_ 4 _ rfl; (with_reducible repeat (first | refine blk_drewN ?_ _ | refine blk_drew ?_ | refine blk_alloc ?_ _)); refine blk_put (cs := #[.int .i64 (rd_T31 l0 x14).f0, .int .i64 (rd_T31 l0 x14).f1, .int .i64 (rd_T31 l0 x14).f2, .int .i64 0, .int .i64 0, .int .i64 0]) ?_ 3 _ rfl; (with_reducible repeat (first | refine blk_drewN ?_ _ | refine blk_drew ?_ | refine blk_alloc ?_ _)); refine blk_put (cs := #[.int .i64 (rd_T31 l0 x14).f0, .int .i64 (rd_T31 l0 x14).f1, .int .i64 0, .int .i64 0, .int .i64 0, .int .i64 0]) ?_ 2 _ rfl; (with_reducible repeat (first | refine blk_drewN ?_ _ | refine blk_drew ?_ | refine blk_alloc ?_ _)); refine blk_put (cs := #[.int .i64 (rd_T31 l0 x14).f0, .int .i64 0, .int .i64 0, .int .i64 0, .int .i64 0, .int .i64 0]) ?_ 1 _ rfl; (with_reducible repeat (first | refine blk_drewN ?_ _ | refine blk_drew ?_ | refine blk_alloc ?_ _)); refine blk_put (cs := #[.int .i64 0, .int .i64 0, .int .i64 0, .int .i64 0, .int .i64 0, .int .i64 0]) ?_ 0 _ rfl; (with_reducible repeat (first | refine blk_drewN ?_ _ | refine blk_drew ?_ | refine blk_alloc ?_ _)); exact BK1.out⟩, ⟨by repeat (first | (with_reducible first | exact HO.out | apply impl_LegsOk.own_drewN | refine World.ownsMap.setCell ?_ NB1.out _ | refine World.ownsMap.setCell ?_ NB2.out _) | exact HO.out)⟩, ⟨by repeat (first | (with_reducible first | exact HB.out | apply below_alloc | apply pw_below_drewN | apply below_drew1 | refine below_set ?_ GE1.out | refine below_set ?_ GE2.out) | exact HB.out)⟩⟩
        case rest =>
          try clear hx104_0
          try clear hx104_1
          try clear hx104_2
          try clear hx104_3
          try clear hx104_4
          try clear hx104_5
          try clear p104
          try clear q104
          clear HO HB BK1
          try clear hcz1_0
          try clear hfz1_0
          try clear hcz1_1
          try clear hfz1_1
          try clear hcz1_2
          try clear hfz1_2
          try clear hcz1_3
          try clear hfz1_3
          try clear hcz1_4
          try clear hfz1_4
          try clear hcz1_5
          try clear hfz1_5
          obtain ⟨rfl, BK1, HO, HB⟩ := hcut
          have H := HC4.out
          clear HC4
          obtain ⟨bd, ebd⟩ : ∃ b, impl_LegsOk.bad (rd_T31 l0 x14) = b := ⟨_, rfl⟩
          rw [ebd] at H
          rw [ebd]
          have HBD := Aside0.mk ebd
          clear ebd
          cases bd with
          | true =>
            rw [if_pos rfl] at H
            subst H
            go_wp2
            repeat (go_quiet (fail); try go_wp2)
            go_ret
            exact ⟨rfl, by repeat (first | (with_reducible first | exact HB.out | apply below_alloc | apply pw_below_drewN | apply below_drew1 | refine below_set ?_ GE1.out | refine below_set ?_ GE2.out) | exact HB.out)⟩
          | false =>
            rw [if_neg (show ¬ (false = true) by decide)] at H

            have hcx1_0 : _ = some (Value.int IntKind.i64 ((rd_T31 l0 x14).f0)) := (blk_cell BK1.out 0).trans rfl
            have hfz1_0 := blk_frozen BK1.out 0
            have hcx1_1 : _ = some (Value.int IntKind.i64 ((rd_T31 l0 x14).f1)) := (blk_cell BK1.out 1).trans rfl
            have hfz1_1 := blk_frozen BK1.out 1
            have hcx1_2 : _ = some (Value.int IntKind.i64 ((rd_T31 l0 x14).f2)) := (blk_cell BK1.out 2).trans rfl
            have hfz1_2 := blk_frozen BK1.out 2
            have hcx1_3 : _ = some (Value.int IntKind.i64 ((rd_T31 l0 x14).f3)) := (blk_cell BK1.out 3).trans rfl
            have hfz1_3 := blk_frozen BK1.out 3
            have hcx1_4 : _ = some (Value.int IntKind.i64 ((rd_T31 l0 x14).f4)) := (blk_cell BK1.out 4).trans rfl
            have hfz1_4 := blk_frozen BK1.out 4
            have hcx1_5 : _ = some (Value.int IntKind.i64 ((rd_T31 l0 x14).f5)) := (blk_cell BK1.out 5).trans rfl
            have hfz1_5 := blk_frozen BK1.out 5
            have HKEY : Aside0 (keyOf Try.prog 3 (.int .i64 (rd_T31 l0 x14).f0) = some (.int .i64 (rd_T31 l0 x14).f0)) := ⟨Maps.keyOf_int_mk Try.underlying3 (by
              have h5 := HBD.out
              unfold impl_LegsOk.bad at h5
              have h6 : impl_LegsOk.in1 (rd_T31 l0 x14).f0 1 100 = true := by
                cases h7 : impl_LegsOk.in1 (rd_T31 l0 x14).f0 1 100
                · rw [h7] at h5; simp at h5
                · rfl
              simp [impl_LegsOk.in1] at h6
              exact WalkArith.wf_i64 (by omega))⟩
            cases hl : impl_LegsOk.last (l0.take x14.toNat) (rd_T31 l0 x14).f0 with
            | none =>
              rw [hl] at H
              have HLK := Aside0.mk (HT.out.none' _ hl)
              clear hl
              have HI := Aside0.mk H
              have HW : Aside0 (wrap64 (x14 + 1) = x14 + 1) := ⟨by have := HLT.out; have := HL.out; have := G0.out; unfold wrap64; omega⟩
              clear H
              go_upto_region 12 with (first | (at_lookup; refine impl_LegsOk.look rfl _ _ rfl rfl (show World.ownsMap _ Try.prog 3 impl_LegsOk.held w.heap.size _ _ from (by repeat (first | (with_reducible first | exact HO.out | apply impl_LegsOk.own_drewN | refine World.ownsMap.setCell ?_ NB1.out _ | refine World.ownsMap.setCell ?_ NB2.out _) | exact HO.out))) _ _ rfl HKEY.out (V := .agg #[.int .i64 0, .int .i64 0, .int .i64 0, .int .i64 0, .int .i64 0, .int .i64 0]) (c := false) HLK.out ?_) | ((with_reducible refine gate_dst (N := 6) rfl ?_); refine box_event ?hg (N := 6) ?hd (cs := #[.int .i64 0, .int .i64 0, .int .i64 0, .int .i64 0, .int .i64 0, .int .i64 0]) (t := 31) ?hr ?_; (case hd => rfl); (case hg => rfl); (case hr => first | (go_simp; done) | (go_simp; rfl)); intro gb2 hg w6 hbox hb; have n0_ := Aside0.mk (below_step (by repeat (first | (with_reducible first | exact HB.out | apply below_alloc | apply pw_below_drewN | apply below_drew1 | refine below_set ?_ GE1.out | refine below_set ?_ GE2.out) | exact HB.out)) hb); have n1_ := Aside0.mk (hbox); have n2_ := Aside0.mk ((by rw [hg]; exact (below_size (by repeat (first | (with_reducible first | exact HB.out | apply below_alloc | apply pw_below_drewN | apply below_drew1 | refine below_set ?_ GE1.out | refine below_set ?_ GE2.out) | exact HB.out)))) : w.heap.size ≤ gb2); have n3_ := Aside0.mk (impl_LegsOk.own_below (show World.ownsMap _ Try.prog 3 impl_LegsOk.held w.heap.size _ _ from (by repeat (first | (with_reducible first | exact HO.out | apply impl_LegsOk.own_drewN | refine World.ownsMap.setCell ?_ NB1.out _ | refine World.ownsMap.setCell ?_ NB2.out _) | exact HO.out))) hb); have n4_ := Aside0.mk ((by have h5 := World.ownsMap.lt (show World.ownsMap _ Try.prog 3 impl_LegsOk.held w.heap.size _ _ from (by repeat (first | (with_reducible first | exact HO.out | apply impl_LegsOk.own_drewN | refine World.ownsMap.setCell ?_ NB1.out _ | refine World.ownsMap.setCell ?_ NB2.out _) | exact HO.out))); rw [hg]; exact Nat.ne_of_lt h5) : w.heap.size ≠ gb2); have n6_ := Aside0.mk (blk_below (g := gb1) (o := .cells #[.int .i64 (rd_T31 l0 x14).f0, .int .i64 (rd_T31 l0 x14).f1, .int .i64 (rd_T31 l0 x14).f2, .int .i64 (rd_T31 l0 x14).f3, .int .i64 (rd_T31 l0 x14).f4, .int .i64 (rd_T31 l0 x14).f5] 31 (0, 0)) (by (with_reducible repeat (first | refine blk_drewN ?_ _ | refine blk_drew ?_ | refine blk_alloc ?_ _)); exact BK1.out) hb); have n7_ := Aside0.mk ((by rw [hg]; exact Nat.ne_of_lt (blk_lt (g := gb1) (o := .cells #[.int .i64 (rd_T31 l0 x14).f0, .int .i64 (rd_T31 l0 x14).f1, .int .i64 (rd_T31 l0 x14).f2, .int .i64 (rd_T31 l0 x14).f3, .int .i64 (rd_T31 l0 x14).f4, .int .i64 (rd_T31 l0 x14).f5] 31 (0, 0)) (by (with_reducible repeat (first | refine blk_drewN ?_ _ | refine blk_drew ?_ | refine blk_alloc ?_ _)); exact BK1.out)) : gb1 ≠ gb2)); have n8_ := Aside0.mk ((by rw [hg]; exact Nat.ne_of_gt (blk_lt (g := gb1) (o := .cells #[.int .i64 (rd_T31 l0 x14).f0, .int .i64 (rd_T31 l0 x14).f1, .int .i64 (rd_T31 l0 x14).f2, .int .i64 (rd_T31 l0 x14).f3, .int .i64 (rd_T31 l0 x14).f4, .int .i64 (rd_T31 l0 x14).f5] 31 (0, 0)) (by (with_reducible repeat (first | refine blk_drewN ?_ _ | refine blk_drew ?_ | refine blk_alloc ?_ _)); exact BK1.out)) : gb2 ≠ gb1)); clear BK1; have BK1 := n6_; have NB12 := n7_; have NB21 := n8_; clear n6_ n7_ n8_; clear HB HO; have HB := n0_; have BK2 := n1_; have GE2 := n2_; have HO := n3_; have NB2 := n4_; clear n0_ n1_ n2_ n3_ n4_; clear hb hbox hg; have hcz2_0 : w6.cell? ⟨gb2, 0, none⟩ = some (.int .i64 0) := (blk_cell BK2.out 0).trans rfl; have hcz2_1 : w6.cell? ⟨gb2, 1, none⟩ = some (.int .i64 0) := (blk_cell BK2.out 1).trans rfl; have hcz2_2 : w6.cell? ⟨gb2, 2, none⟩ = some (.int .i64 0) := (blk_cell BK2.out 2).trans rfl; have hcz2_3 : w6.cell? ⟨gb2, 3, none⟩ = some (.int .i64 0) := (blk_cell BK2.out 3).trans rfl; have hcz2_4 : w6.cell? ⟨gb2, 4, none⟩ = some (.int .i64 0) := (blk_cell BK2.out 4).trans rfl; have hcz2_5 : w6.cell? ⟨gb2, 5, none⟩ = some (.int .i64 0) := (blk_cell BK2.out 5).trans rfl; have hfz2_0 := blk_frozen BK2.out 0; have hfz2_1 := blk_frozen BK2.out 1; have hfz2_2 := blk_frozen BK2.out 2; have hfz2_3 := blk_frozen BK2.out 3; have hfz2_4 := blk_frozen BK2.out 4; have hfz2_5 := blk_frozen BK2.out 5; have hnb1 := NB12.out; have hnb2 := NB21.out; have hcy1_0 : w6.cell? ⟨gb1, 0, none⟩ = some (.int .i64 ((rd_T31 l0 x14).f0)) := (blk_cell BK1.out 0).trans rfl; have hfy1_0 := blk_frozen BK1.out 0; have hcy1_1 : w6.cell? ⟨gb1, 1, none⟩ = some (.int .i64 ((rd_T31 l0 x14).f1)) := (blk_cell BK1.out 1).trans rfl; have hfy1_1 := blk_frozen BK1.out 1; have hcy1_2 : w6.cell? ⟨gb1, 2, none⟩ = some (.int .i64 ((rd_T31 l0 x14).f2)) := (blk_cell BK1.out 2).trans rfl; have hfy1_2 := blk_frozen BK1.out 2; have hcy1_3 : w6.cell? ⟨gb1, 3, none⟩ = some (.int .i64 ((rd_T31 l0 x14).f3)) := (blk_cell BK1.out 3).trans rfl; have hfy1_3 := blk_frozen BK1.out 3; have hcy1_4 : w6.cell? ⟨gb1, 4, none⟩ = some (.int .i64 ((rd_T31 l0 x14).f4)) := (blk_cell BK1.out 4).trans rfl; have hfy1_4 := blk_frozen BK1.out 4; have hcy1_5 : w6.cell? ⟨gb1, 5, none⟩ = some (.int .i64 ((rd_T31 l0 x14).f5)) := (blk_cell BK1.out 5).trans rfl; have hfy1_5 := blk_frozen BK1.out 5))
              refine impl_LegsOk.letter (R := fun W => Below w.heap.size w W ∧ W.heap[gb1]? = some (.cells #[.int .i64 (rd_T31 l0 x14).f0, .int .i64 (rd_T31 l0 x14).f1, .int .i64 (rd_T31 l0 x14).f2, .int .i64 (rd_T31 l0 x14).f3, .int .i64 (rd_T31 l0 x14).f4, .int .i64 (rd_T31 l0 x14).f5] 31 (0, 0)) ∧ W.ownsMap Try.prog 3 impl_LegsOk.held w.heap.size x14.toNat D) ⟨by repeat (first | (with_reducible first | exact HB.out | apply below_alloc | apply pw_below_drewN | apply below_drew1 | refine below_set ?_ GE1.out | refine below_set ?_ GE2.out) | exact HB.out), by (repeat (first | (with_reducible first | refine blk_drewN ?_ _ | refine blk_drew ?_ | refine blk_alloc ?_ _) | refine blk_far ?_ NB12.out _)); exact BK1.out, by repeat (first | (with_reducible first | exact HO.out | apply impl_LegsOk.own_drewN | refine World.ownsMap.setCell ?_ NB1.out _ | refine World.ownsMap.setCell ?_ NB2.out _) | exact HO.out)⟩ ?_
              clear HB HO BK1 BK2 hnb1 hnb2
              clear hcz2_0 hfz2_0 hcy1_0 hfy1_0; try clear hcx1_0 hfz1_0
              clear hcz2_1 hfz2_1 hcy1_1 hfy1_1; try clear hcx1_1 hfz1_1
              clear hcz2_2 hfz2_2 hcy1_2 hfy1_2; try clear hcx1_2 hfz1_2
              clear hcz2_3 hfz2_3 hcy1_3 hfy1_3; try clear hcx1_3 hfz1_3
              clear hcz2_4 hfz2_4 hcy1_4 hfy1_4; try clear hcx1_4 hfz1_4
              clear hcz2_5 hfz2_5 hcy1_5 hfy1_5; try clear hcx1_5 hfz1_5
              rintro w8 ⟨hB8, hK8, hO8⟩
              have HB := Aside0.mk hB8; have BK1 := Aside0.mk hK8; have HO := Aside0.mk hO8; have HOLD := Aside0.mk hO8
              clear hB8 hK8 hO8
              have hcx1_0 : w8.cell? ⟨gb1, 0, none⟩ = some (Value.int IntKind.i64 ((rd_T31 l0 x14).f0)) := (blk_cell BK1.out 0).trans rfl
              have hcx1_1 : w8.cell? ⟨gb1, 1, none⟩ = some (Value.int IntKind.i64 ((rd_T31 l0 x14).f1)) := (blk_cell BK1.out 1).trans rfl
              have hcx1_2 : w8.cell? ⟨gb1, 2, none⟩ = some (Value.int IntKind.i64 ((rd_T31 l0 x14).f2)) := (blk_cell BK1.out 2).trans rfl
              have hcx1_3 : w8.cell? ⟨gb1, 3, none⟩ = some (Value.int IntKind.i64 ((rd_T31 l0 x14).f3)) := (blk_cell BK1.out 3).trans rfl
              have hcx1_4 : w8.cell? ⟨gb1, 4, none⟩ = some (Value.int IntKind.i64 ((rd_T31 l0 x14).f4)) := (blk_cell BK1.out 4).trans rfl
              have hcx1_5 : w8.cell? ⟨gb1, 5, none⟩ = some (Value.int IntKind.i64 ((rd_T31 l0 x14).f5)) := (blk_cell BK1.out 5).trans rfl
              go_wp2_with (at_mapUpdate; refine wpList_mapUpdate_own _ rfl _ _ _ 53 rfl 3 31 impl_LegsOk.keyed Try.underlying53 impl_LegsOk.held w.heap.size x14.toNat D rfl (by repeat (first | (with_reducible first | exact HO.out | apply impl_LegsOk.own_drewN | refine World.ownsMap.setCell ?_ NB1.out _ | refine World.ownsMap.setCell ?_ NB2.out _) | exact HO.out)) (by have := HL.out; have := HLT.out; have := G0.out; unfold maxLen; omega) _ _ _ rfl rfl HKEY.out (.held (impl_LegsOk.agg (rd_T31 l0 x14))) [] rfl ?_; intro w9 hown1 hgrow1; have n0_ := Aside0.mk (Below.grown (show Below w.heap.size w _ from (by repeat (first | (with_reducible first | exact HB.out | apply below_alloc | apply pw_below_drewN | apply below_drew1 | refine below_set ?_ GE1.out | refine below_set ?_ GE2.out) | exact HB.out))) hgrow1 (below_size (show Below w.heap.size w _ from (by repeat (first | (with_reducible first | exact HB.out | apply below_alloc | apply pw_below_drewN | apply below_drew1 | refine below_set ?_ GE1.out | refine below_set ?_ GE2.out) | exact HB.out)))) (fun j hj => by cases hj; exact Nat.le_refl _)); have n1_ := Aside0.mk hown1; clear HB HO; have HB := n0_; have HO := n1_; clear n0_ n1_ hown1 hgrow1)
              go_roundg k1
              case measure => have := HK.out; omega
              case rel => exact ⟨x14 + 1, _, by first | rfl | rw [HW.out], ⟨by have := G0.out; omega⟩, ⟨by have := HLT.out; omega⟩, ⟨by have := HK.out; omega⟩, HI, ⟨(impl_LegsOk.take_snoc l0 x14 G0.out HLT.out).symm ▸ impl_LegsOk.tab_put HT.out (World.ownsMap.isMap HOLD.out) (rd_T31 l0 x14)⟩, ⟨by (rw [show (x14 + 1).toNat = x14.toNat + 1 from (by have := G0.out; omega)]; repeat (first | (with_reducible first | exact HO.out | apply impl_LegsOk.own_drewN | refine World.ownsMap.setCell ?_ NB1.out _ | refine World.ownsMap.setCell ?_ NB2.out _) | exact HO.out))⟩, ⟨by repeat (first | (with_reducible first | exact HB.out | apply below_alloc | apply pw_below_drewN | apply below_drew1 | refine below_set ?_ GE1.out | refine below_set ?_ GE2.out) | exact HB.out)⟩⟩
            | some q =>
              rw [hl] at H
              have HLK := Aside0.mk (HT.out.some' _ q hl)
              clear hl
              replace H : (if impl_LegsOk.clash q (rd_T31 l0 x14) = true then false else impl_LegsOk.g k1 l0 (x14 + 1)) = r := H
              obtain ⟨d1, ed1⟩ : ∃ b, (q.f2 != (rd_T31 l0 x14).f1) = b := ⟨_, rfl⟩
              obtain ⟨d2, ed2⟩ : ∃ b, decide ((rd_T31 l0 x14).f3 < q.f4) = b := ⟨_, rfl⟩
              unfold impl_LegsOk.clash at H
              rw [ed1, ed2] at H
              have HI := Aside0.mk H
              have HW : Aside0 (wrap64 (x14 + 1) = x14 + 1) := ⟨by have := HLT.out; have := HL.out; have := G0.out; unfold wrap64; omega⟩
              clear H
              cases d1 with
              | true =>
                obtain rfl := HI.out
                go_wp2_with (first | (at_lookup; refine impl_LegsOk.look rfl _ _ rfl rfl (show World.ownsMap _ Try.prog 3 impl_LegsOk.held w.heap.size _ _ from (by repeat (first | (with_reducible first | exact HO.out | apply impl_LegsOk.own_drewN | refine World.ownsMap.setCell ?_ NB1.out _ | refine World.ownsMap.setCell ?_ NB2.out _) | exact HO.out))) _ _ rfl HKEY.out (V := .agg #[.int .i64 q.f0, .int .i64 q.f1, .int .i64 q.f2, .int .i64 q.f3, .int .i64 q.f4, .int .i64 q.f5]) (c := true) HLK.out ?_) | ((with_reducible refine gate_dst (N := 6) rfl ?_); refine box_event ?hg (N := 6) ?hd (cs := #[.int .i64 0, .int .i64 0, .int .i64 0, .int .i64 0, .int .i64 0, .int .i64 0]) (t := 31) ?hr ?_; (case hd => rfl); (case hg => rfl); (case hr => first | (go_simp; done) | (go_simp; rfl)); intro gb2 hg w6 hbox hb; have n0_ := Aside0.mk (below_step (by repeat (first | (with_reducible first | exact HB.out | apply below_alloc | apply pw_below_drewN | apply below_drew1 | refine below_set ?_ GE1.out | refine below_set ?_ GE2.out) | exact HB.out)) hb); have n1_ := Aside0.mk (hbox); have n2_ := Aside0.mk ((by rw [hg]; exact (below_size (by repeat (first | (with_reducible first | exact HB.out | apply below_alloc | apply pw_below_drewN | apply below_drew1 | refine below_set ?_ GE1.out | refine below_set ?_ GE2.out) | exact HB.out)))) : w.heap.size ≤ gb2); have n3_ := Aside0.mk (impl_LegsOk.own_below (show World.ownsMap _ Try.prog 3 impl_LegsOk.held w.heap.size _ _ from (by repeat (first | (with_reducible first | exact HO.out | apply impl_LegsOk.own_drewN | refine World.ownsMap.setCell ?_ NB1.out _ | refine World.ownsMap.setCell ?_ NB2.out _) | exact HO.out))) hb); have n4_ := Aside0.mk ((by have h5 := World.ownsMap.lt (show World.ownsMap _ Try.prog 3 impl_LegsOk.held w.heap.size _ _ from (by repeat (first | (with_reducible first | exact HO.out | apply impl_LegsOk.own_drewN | refine World.ownsMap.setCell ?_ NB1.out _ | refine World.ownsMap.setCell ?_ NB2.out _) | exact HO.out))); rw [hg]; exact Nat.ne_of_lt h5) : w.heap.size ≠ gb2); have n6_ := Aside0.mk (blk_below (g := gb1) (o := .cells #[.int .i64 (rd_T31 l0 x14).f0, .int .i64 (rd_T31 l0 x14).f1, .int .i64 (rd_T31 l0 x14).f2, .int .i64 (rd_T31 l0 x14).f3, .int .i64 (rd_T31 l0 x14).f4, .int .i64 (rd_T31 l0 x14).f5] 31 (0, 0)) (by (with_reducible repeat (first | refine blk_drewN ?_ _ | refine blk_drew ?_ | refine blk_alloc ?_ _)); exact BK1.out) hb); have n7_ := Aside0.mk ((by rw [hg]; exact Nat.ne_of_lt (blk_lt (g := gb1) (o := .cells #[.int .i64 (rd_T31 l0 x14).f0, .int .i64 (rd_T31 l0 x14).f1, .int .i64 (rd_T31 l0 x14).f2, .int .i64 (rd_T31 l0 x14).f3, .int .i64 (rd_T31 l0 x14).f4, .int .i64 (rd_T31 l0 x14).f5] 31 (0, 0)) (by (with_reducible repeat (first | refine blk_drewN ?_ _ | refine blk_drew ?_ | refine blk_alloc ?_ _)); exact BK1.out)) : gb1 ≠ gb2)); have n8_ := Aside0.mk ((by rw [hg]; exact Nat.ne_of_gt (blk_lt (g := gb1) (o := .cells #[.int .i64 (rd_T31 l0 x14).f0, .int .i64 (rd_T31 l0 x14).f1, .int .i64 (rd_T31 l0 x14).f2, .int .i64 (rd_T31 l0 x14).f3, .int .i64 (rd_T31 l0 x14).f4, .int .i64 (rd_T31 l0 x14).f5] 31 (0, 0)) (by (with_reducible repeat (first | refine blk_drewN ?_ _ | refine blk_drew ?_ | refine blk_alloc ?_ _)); exact BK1.out)) : gb2 ≠ gb1)); clear BK1; have BK1 := n6_; have NB12 := n7_; have NB21 := n8_; clear n6_ n7_ n8_; clear HB HO; have HB := n0_; have BK2 := n1_; have GE2 := n2_; have HO := n3_; have NB2 := n4_; clear n0_ n1_ n2_ n3_ n4_; clear hb hbox hg; have hcz2_0 : w6.cell? ⟨gb2, 0, none⟩ = some (.int .i64 0) := (blk_cell BK2.out 0).trans rfl; have hcz2_1 : w6.cell? ⟨gb2, 1, none⟩ = some (.int .i64 0) := (blk_cell BK2.out 1).trans rfl; have hcz2_2 : w6.cell? ⟨gb2, 2, none⟩ = some (.int .i64 0) := (blk_cell BK2.out 2).trans rfl; have hcz2_3 : w6.cell? ⟨gb2, 3, none⟩ = some (.int .i64 0) := (blk_cell BK2.out 3).trans rfl; have hcz2_4 : w6.cell? ⟨gb2, 4, none⟩ = some (.int .i64 0) := (blk_cell BK2.out 4).trans rfl; have hcz2_5 : w6.cell? ⟨gb2, 5, none⟩ = some (.int .i64 0) := (blk_cell BK2.out 5).trans rfl; have hfz2_0 := blk_frozen BK2.out 0; have hfz2_1 := blk_frozen BK2.out 1; have hfz2_2 := blk_frozen BK2.out 2; have hfz2_3 := blk_frozen BK2.out 3; have hfz2_4 := blk_frozen BK2.out 4; have hfz2_5 := blk_frozen BK2.out 5; have hnb1 := NB12.out; have hnb2 := NB21.out; have hcy1_0 : w6.cell? ⟨gb1, 0, none⟩ = some (.int .i64 ((rd_T31 l0 x14).f0)) := (blk_cell BK1.out 0).trans rfl; have hfy1_0 := blk_frozen BK1.out 0; have hcy1_1 : w6.cell? ⟨gb1, 1, none⟩ = some (.int .i64 ((rd_T31 l0 x14).f1)) := (blk_cell BK1.out 1).trans rfl; have hfy1_1 := blk_frozen BK1.out 1; have hcy1_2 : w6.cell? ⟨gb1, 2, none⟩ = some (.int .i64 ((rd_T31 l0 x14).f2)) := (blk_cell BK1.out 2).trans rfl; have hfy1_2 := blk_frozen BK1.out 2; have hcy1_3 : w6.cell? ⟨gb1, 3, none⟩ = some (.int .i64 ((rd_T31 l0 x14).f3)) := (blk_cell BK1.out 3).trans rfl; have hfy1_3 := blk_frozen BK1.out 3; have hcy1_4 : w6.cell? ⟨gb1, 4, none⟩ = some (.int .i64 ((rd_T31 l0 x14).f4)) := (blk_cell BK1.out 4).trans rfl; have hfy1_4 := blk_frozen BK1.out 4; have hcy1_5 : w6.cell? ⟨gb1, 5, none⟩ = some (.int .i64 ((rd_T31 l0 x14).f5)) := (blk_cell BK1.out 5).trans rfl; have hfy1_5 := blk_frozen BK1.out 5) | (at_mapUpdate; refine wpList_mapUpdate_own _ rfl _ _ _ 53 rfl 3 31 impl_LegsOk.keyed Try.underlying53 impl_LegsOk.held w.heap.size x14.toNat D rfl (by repeat (first | (with_reducible first | exact HO.out | apply impl_LegsOk.own_drewN | refine World.ownsMap.setCell ?_ NB1.out _ | refine World.ownsMap.setCell ?_ NB2.out _) | exact HO.out)) (by have := HL.out; have := HLT.out; have := G0.out; unfold maxLen; omega) _ _ _ rfl rfl HKEY.out (.held (impl_LegsOk.agg (rd_T31 l0 x14))) [] rfl ?_; intro w9 hown1 hgrow1; have n0_ := Aside0.mk (Below.grown (show Below w.heap.size w _ from (by repeat (first | (with_reducible first | exact HB.out | apply below_alloc | apply pw_below_drewN | apply below_drew1 | refine below_set ?_ GE1.out | refine below_set ?_ GE2.out) | exact HB.out))) hgrow1 (below_size (show Below w.heap.size w _ from (by repeat (first | (with_reducible first | exact HB.out | apply below_alloc | apply pw_below_drewN | apply below_drew1 | refine below_set ?_ GE1.out | refine below_set ?_ GE2.out) | exact HB.out)))) (fun j hj => by cases hj; exact Nat.le_refl _)); have n1_ := Aside0.mk hown1; clear HB HO; have HB := n0_; have HO := n1_; clear n0_ n1_ hown1 hgrow1))
                repeat (go_quiet (first | (at_lookup; refine impl_LegsOk.look rfl _ _ rfl rfl (show World.ownsMap _ Try.prog 3 impl_LegsOk.held w.heap.size _ _ from (by repeat (first | (with_reducible first | exact HO.out | apply impl_LegsOk.own_drewN | refine World.ownsMap.setCell ?_ NB1.out _ | refine World.ownsMap.setCell ?_ NB2.out _) | exact HO.out))) _ _ rfl HKEY.out (V := .agg #[.int .i64 q.f0, .int .i64 q.f1, .int .i64 q.f2, .int .i64 q.f3, .int .i64 q.f4, .int .i64 q.f5]) (c := true) HLK.out ?_) | ((with_reducible refine gate_dst (N := 6) rfl ?_); refine box_event ?hg (N := 6) ?hd (cs := #[.int .i64 0, .int .i64 0, .int .i64 0, .int .i64 0, .int .i64 0, .int .i64 0]) (t := 31) ?hr ?_; (case hd => rfl); (case hg => rfl); (case hr => first | (go_simp; done) | (go_simp; rfl)); intro gb2 hg w6 hbox hb; have n0_ := Aside0.mk (below_step (by repeat (first | (with_reducible first | exact HB.out | apply below_alloc | apply pw_below_drewN | apply below_drew1 | refine below_set ?_ GE1.out | refine below_set ?_ GE2.out) | exact HB.out)) hb); have n1_ := Aside0.mk (hbox); have n2_ := Aside0.mk ((by rw [hg]; exact (below_size (by repeat (first | (with_reducible first | exact HB.out | apply below_alloc | apply pw_below_drewN | apply below_drew1 | refine below_set ?_ GE1.out | refine below_set ?_ GE2.out) | exact HB.out)))) : w.heap.size ≤ gb2); have n3_ := Aside0.mk (impl_LegsOk.own_below (show World.ownsMap _ Try.prog 3 impl_LegsOk.held w.heap.size _ _ from (by repeat (first | (with_reducible first | exact HO.out | apply impl_LegsOk.own_drewN | refine World.ownsMap.setCell ?_ NB1.out _ | refine World.ownsMap.setCell ?_ NB2.out _) | exact HO.out))) hb); have n4_ := Aside0.mk ((by have h5 := World.ownsMap.lt (show World.ownsMap _ Try.prog 3 impl_LegsOk.held w.heap.size _ _ from (by repeat (first | (with_reducible first | exact HO.out | apply impl_LegsOk.own_drewN | refine World.ownsMap.setCell ?_ NB1.out _ | refine World.ownsMap.setCell ?_ NB2.out _) | exact HO.out))); rw [hg]; exact Nat.ne_of_lt h5) : w.heap.size ≠ gb2); have n6_ := Aside0.mk (blk_below (g := gb1) (o := .cells #[.int .i64 (rd_T31 l0 x14).f0, .int .i64 (rd_T31 l0 x14).f1, .int .i64 (rd_T31 l0 x14).f2, .int .i64 (rd_T31 l0 x14).f3, .int .i64 (rd_T31 l0 x14).f4, .int .i64 (rd_T31 l0 x14).f5] 31 (0, 0)) (by (with_reducible repeat (first | refine blk_drewN ?_ _ | refine blk_drew ?_ | refine blk_alloc ?_ _)); exact BK1.out) hb); have n7_ := Aside0.mk ((by rw [hg]; exact Nat.ne_of_lt (blk_lt (g := gb1) (o := .cells #[.int .i64 (rd_T31 l0 x14).f0, .int .i64 (rd_T31 l0 x14).f1, .int .i64 (rd_T31 l0 x14).f2, .int .i64 (rd_T31 l0 x14).f3, .int .i64 (rd_T31 l0 x14).f4, .int .i64 (rd_T31 l0 x14).f5] 31 (0, 0)) (by (with_reducible repeat (first | refine blk_drewN ?_ _ | refine blk_drew ?_ | refine blk_alloc ?_ _)); exact BK1.out)) : gb1 ≠ gb2)); have n8_ := Aside0.mk ((by rw [hg]; exact Nat.ne_of_gt (blk_lt (g := gb1) (o := .cells #[.int .i64 (rd_T31 l0 x14).f0, .int .i64 (rd_T31 l0 x14).f1, .int .i64 (rd_T31 l0 x14).f2, .int .i64 (rd_T31 l0 x14).f3, .int .i64 (rd_T31 l0 x14).f4, .int .i64 (rd_T31 l0 x14).f5] 31 (0, 0)) (by (with_reducible repeat (first | refine blk_drewN ?_ _ | refine blk_drew ?_ | refine blk_alloc ?_ _)); exact BK1.out)) : gb2 ≠ gb1)); clear BK1; have BK1 := n6_; have NB12 := n7_; have NB21 := n8_; clear n6_ n7_ n8_; clear HB HO; have HB := n0_; have BK2 := n1_; have GE2 := n2_; have HO := n3_; have NB2 := n4_; clear n0_ n1_ n2_ n3_ n4_; clear hb hbox hg; have hcz2_0 : w6.cell? ⟨gb2, 0, none⟩ = some (.int .i64 0) := (blk_cell BK2.out 0).trans rfl; have hcz2_1 : w6.cell? ⟨gb2, 1, none⟩ = some (.int .i64 0) := (blk_cell BK2.out 1).trans rfl; have hcz2_2 : w6.cell? ⟨gb2, 2, none⟩ = some (.int .i64 0) := (blk_cell BK2.out 2).trans rfl; have hcz2_3 : w6.cell? ⟨gb2, 3, none⟩ = some (.int .i64 0) := (blk_cell BK2.out 3).trans rfl; have hcz2_4 : w6.cell? ⟨gb2, 4, none⟩ = some (.int .i64 0) := (blk_cell BK2.out 4).trans rfl; have hcz2_5 : w6.cell? ⟨gb2, 5, none⟩ = some (.int .i64 0) := (blk_cell BK2.out 5).trans rfl; have hfz2_0 := blk_frozen BK2.out 0; have hfz2_1 := blk_frozen BK2.out 1; have hfz2_2 := blk_frozen BK2.out 2; have hfz2_3 := blk_frozen BK2.out 3; have hfz2_4 := blk_frozen BK2.out 4; have hfz2_5 := blk_frozen BK2.out 5; have hnb1 := NB12.out; have hnb2 := NB21.out; have hcy1_0 : w6.cell? ⟨gb1, 0, none⟩ = some (.int .i64 ((rd_T31 l0 x14).f0)) := (blk_cell BK1.out 0).trans rfl; have hfy1_0 := blk_frozen BK1.out 0; have hcy1_1 : w6.cell? ⟨gb1, 1, none⟩ = some (.int .i64 ((rd_T31 l0 x14).f1)) := (blk_cell BK1.out 1).trans rfl; have hfy1_1 := blk_frozen BK1.out 1; have hcy1_2 : w6.cell? ⟨gb1, 2, none⟩ = some (.int .i64 ((rd_T31 l0 x14).f2)) := (blk_cell BK1.out 2).trans rfl; have hfy1_2 := blk_frozen BK1.out 2; have hcy1_3 : w6.cell? ⟨gb1, 3, none⟩ = some (.int .i64 ((rd_T31 l0 x14).f3)) := (blk_cell BK1.out 3).trans rfl; have hfy1_3 := blk_frozen BK1.out 3; have hcy1_4 : w6.cell? ⟨gb1, 4, none⟩ = some (.int .i64 ((rd_T31 l0 x14).f4)) := (blk_cell BK1.out 4).trans rfl; have hfy1_4 := blk_frozen BK1.out 4; have hcy1_5 : w6.cell? ⟨gb1, 5, none⟩ = some (.int .i64 ((rd_T31 l0 x14).f5)) := (blk_cell BK1.out 5).trans rfl; have hfy1_5 := blk_frozen BK1.out 5) | (at_mapUpdate; refine wpList_mapUpdate_own _ rfl _ _ _ 53 rfl 3 31 impl_LegsOk.keyed Try.underlying53 impl_LegsOk.held w.heap.size x14.toNat D rfl (by repeat (first | (with_reducible first | exact HO.out | apply impl_LegsOk.own_drewN | refine World.ownsMap.setCell ?_ NB1.out _ | refine World.ownsMap.setCell ?_ NB2.out _) | exact HO.out)) (by have := HL.out; have := HLT.out; have := G0.out; unfold maxLen; omega) _ _ _ rfl rfl HKEY.out (.held (impl_LegsOk.agg (rd_T31 l0 x14))) [] rfl ?_; intro w9 hown1 hgrow1; have n0_ := Aside0.mk (Below.grown (show Below w.heap.size w _ from (by repeat (first | (with_reducible first | exact HB.out | apply below_alloc | apply pw_below_drewN | apply below_drew1 | refine below_set ?_ GE1.out | refine below_set ?_ GE2.out) | exact HB.out))) hgrow1 (below_size (show Below w.heap.size w _ from (by repeat (first | (with_reducible first | exact HB.out | apply below_alloc | apply pw_below_drewN | apply below_drew1 | refine below_set ?_ GE1.out | refine below_set ?_ GE2.out) | exact HB.out)))) (fun j hj => by cases hj; exact Nat.le_refl _)); have n1_ := Aside0.mk hown1; clear HB HO; have HB := n0_; have HO := n1_; clear n0_ n1_ hown1 hgrow1)); try go_wp2_with (first | (at_lookup; refine impl_LegsOk.look rfl _ _ rfl rfl (show World.ownsMap _ Try.prog 3 impl_LegsOk.held w.heap.size _ _ from (by repeat (first | (with_reducible first | exact HO.out | apply impl_LegsOk.own_drewN | refine World.ownsMap.setCell ?_ NB1.out _ | refine World.ownsMap.setCell ?_ NB2.out _) | exact HO.out))) _ _ rfl HKEY.out (V := .agg #[.int .i64 q.f0, .int .i64 q.f1, .int .i64 q.f2, .int .i64 q.f3, .int .i64 q.f4, .int .i64 q.f5]) (c := true) HLK.out ?_) | ((with_reducible refine gate_dst (N := 6) rfl ?_); refine box_event ?hg (N := 6) ?hd (cs := #[.int .i64 0, .int .i64 0, .int .i64 0, .int .i64 0, .int .i64 0, .int .i64 0]) (t := 31) ?hr ?_; (case hd => rfl); (case hg => rfl); (case hr => first | (go_simp; done) | (go_simp; rfl)); intro gb2 hg w6 hbox hb; have n0_ := Aside0.mk (below_step (by repeat (first | (with_reducible first | exact HB.out | apply below_alloc | apply pw_below_drewN | apply below_drew1 | refine below_set ?_ GE1.out | refine below_set ?_ GE2.out) | exact HB.out)) hb); have n1_ := Aside0.mk (hbox); have n2_ := Aside0.mk ((by rw [hg]; exact (below_size (by repeat (first | (with_reducible first | exact HB.out | apply below_alloc | apply pw_below_drewN | apply below_drew1 | refine below_set ?_ GE1.out | refine below_set ?_ GE2.out) | exact HB.out)))) : w.heap.size ≤ gb2); have n3_ := Aside0.mk (impl_LegsOk.own_below (show World.ownsMap _ Try.prog 3 impl_LegsOk.held w.heap.size _ _ from (by repeat (first | (with_reducible first | exact HO.out | apply impl_LegsOk.own_drewN | refine World.ownsMap.setCell ?_ NB1.out _ | refine World.ownsMap.setCell ?_ NB2.out _) | exact HO.out))) hb); have n4_ := Aside0.mk ((by have h5 := World.ownsMap.lt (show World.ownsMap _ Try.prog 3 impl_LegsOk.held w.heap.size _ _ from (by repeat (first | (with_reducible first | exact HO.out | apply impl_LegsOk.own_drewN | refine World.ownsMap.setCell ?_ NB1.out _ | refine World.ownsMap.setCell ?_ NB2.out _) | exact HO.out))); rw [hg]; exact Nat.ne_of_lt h5) : w.heap.size ≠ gb2); have n6_ := Aside0.mk (blk_below (g := gb1) (o := .cells #[.int .i64 (rd_T31 l0 x14).f0, .int .i64 (rd_T31 l0 x14).f1, .int .i64 (rd_T31 l0 x14).f2, .int .i64 (rd_T31 l0 x14).f3, .int .i64 (rd_T31 l0 x14).f4, .int .i64 (rd_T31 l0 x14).f5] 31 (0, 0)) (by (with_reducible repeat (first | refine blk_drewN ?_ _ | refine blk_drew ?_ | refine blk_alloc ?_ _)); exact BK1.out) hb); have n7_ := Aside0.mk ((by rw [hg]; exact Nat.ne_of_lt (blk_lt (g := gb1) (o := .cells #[.int .i64 (rd_T31 l0 x14).f0, .int .i64 (rd_T31 l0 x14).f1, .int .i64 (rd_T31 l0 x14).f2, .int .i64 (rd_T31 l0 x14).f3, .int .i64 (rd_T31 l0 x14).f4, .int .i64 (rd_T31 l0 x14).f5] 31 (0, 0)) (by (with_reducible repeat (first | refine blk_drewN ?_ _ | refine blk_drew ?_ | refine blk_alloc ?_ _)); exact BK1.out)) : gb1 ≠ gb2)); have n8_ := Aside0.mk ((by rw [hg]; exact Nat.ne_of_gt (blk_lt (g := gb1) (o := .cells #[.int .i64 (rd_T31 l0 x14).f0, .int .i64 (rd_T31 l0 x14).f1, .int .i64 (rd_T31 l0 x14).f2, .int .i64 (rd_T31 l0 x14).f3, .int .i64 (rd_T31 l0 x14).f4, .int .i64 (rd_T31 l0 x14).f5] 31 (0, 0)) (by (with_reducible repeat (first | refine blk_drewN ?_ _ | refine blk_drew ?_ | refine blk_alloc ?_ _)); exact BK1.out)) : gb2 ≠ gb1)); clear BK1; have BK1 := n6_; have NB12 := n7_; have NB21 := n8_; clear n6_ n7_ n8_; clear HB HO; have HB := n0_; have BK2 := n1_; have GE2 := n2_; have HO := n3_; have NB2 := n4_; clear n0_ n1_ n2_ n3_ n4_; clear hb hbox hg; have hcz2_0 : w6.cell? ⟨gb2, 0, none⟩ = some (.int .i64 0) := (blk_cell BK2.out 0).trans rfl; have hcz2_1 : w6.cell? ⟨gb2, 1, none⟩ = some (.int .i64 0) := (blk_cell BK2.out 1).trans rfl; have hcz2_2 : w6.cell? ⟨gb2, 2, none⟩ = some (.int .i64 0) := (blk_cell BK2.out 2).trans rfl; have hcz2_3 : w6.cell? ⟨gb2, 3, none⟩ = some (.int .i64 0) := (blk_cell BK2.out 3).trans rfl; have hcz2_4 : w6.cell? ⟨gb2, 4, none⟩ = some (.int .i64 0) := (blk_cell BK2.out 4).trans rfl; have hcz2_5 : w6.cell? ⟨gb2, 5, none⟩ = some (.int .i64 0) := (blk_cell BK2.out 5).trans rfl; have hfz2_0 := blk_frozen BK2.out 0; have hfz2_1 := blk_frozen BK2.out 1; have hfz2_2 := blk_frozen BK2.out 2; have hfz2_3 := blk_frozen BK2.out 3; have hfz2_4 := blk_frozen BK2.out 4; have hfz2_5 := blk_frozen BK2.out 5; have hnb1 := NB12.out; have hnb2 := NB21.out; have hcy1_0 : w6.cell? ⟨gb1, 0, none⟩ = some (.int .i64 ((rd_T31 l0 x14).f0)) := (blk_cell BK1.out 0).trans rfl; have hfy1_0 := blk_frozen BK1.out 0; have hcy1_1 : w6.cell? ⟨gb1, 1, none⟩ = some (.int .i64 ((rd_T31 l0 x14).f1)) := (blk_cell BK1.out 1).trans rfl; have hfy1_1 := blk_frozen BK1.out 1; have hcy1_2 : w6.cell? ⟨gb1, 2, none⟩ = some (.int .i64 ((rd_T31 l0 x14).f2)) := (blk_cell BK1.out 2).trans rfl; have hfy1_2 := blk_frozen BK1.out 2; have hcy1_3 : w6.cell? ⟨gb1, 3, none⟩ = some (.int .i64 ((rd_T31 l0 x14).f3)) := (blk_cell BK1.out 3).trans rfl; have hfy1_3 := blk_frozen BK1.out 3; have hcy1_4 : w6.cell? ⟨gb1, 4, none⟩ = some (.int .i64 ((rd_T31 l0 x14).f4)) := (blk_cell BK1.out 4).trans rfl; have hfy1_4 := blk_frozen BK1.out 4; have hcy1_5 : w6.cell? ⟨gb1, 5, none⟩ = some (.int .i64 ((rd_T31 l0 x14).f5)) := (blk_cell BK1.out 5).trans rfl; have hfy1_5 := blk_frozen BK1.out 5) | (at_mapUpdate; refine wpList_mapUpdate_own _ rfl _ _ _ 53 rfl 3 31 impl_LegsOk.keyed Try.underlying53 impl_LegsOk.held w.heap.size x14.toNat D rfl (by repeat (first | (with_reducible first | exact HO.out | apply impl_LegsOk.own_drewN | refine World.ownsMap.setCell ?_ NB1.out _ | refine World.ownsMap.setCell ?_ NB2.out _) | exact HO.out)) (by have := HL.out; have := HLT.out; have := G0.out; unfold maxLen; omega) _ _ _ rfl rfl HKEY.out (.held (impl_LegsOk.agg (rd_T31 l0 x14))) [] rfl ?_; intro w9 hown1 hgrow1; have n0_ := Aside0.mk (Below.grown (show Below w.heap.size w _ from (by repeat (first | (with_reducible first | exact HB.out | apply below_alloc | apply pw_below_drewN | apply below_drew1 | refine below_set ?_ GE1.out | refine below_set ?_ GE2.out) | exact HB.out))) hgrow1 (below_size (show Below w.heap.size w _ from (by repeat (first | (with_reducible first | exact HB.out | apply below_alloc | apply pw_below_drewN | apply below_drew1 | refine below_set ?_ GE1.out | refine below_set ?_ GE2.out) | exact HB.out)))) (fun j hj => by cases hj; exact Nat.le_refl _)); have n1_ := Aside0.mk hown1; clear HB HO; have HB := n0_; have HO := n1_; clear n0_ n1_ hown1 hgrow1)))
                go_ret
                exact ⟨rfl, by repeat (first | (with_reducible first | exact HB.out | apply below_alloc | apply pw_below_drewN | apply below_drew1 | refine below_set ?_ GE1.out | refine below_set ?_ GE2.out) | exact HB.out)⟩
              | false =>
                cases d2 with
                | true =>
                  obtain rfl := HI.out
                  go_wp2_with (first | (at_lookup; refine impl_LegsOk.look rfl _ _ rfl rfl (show World.ownsMap _ Try.prog 3 impl_LegsOk.held w.heap.size _ _ from (by repeat (first | (with_reducible first | exact HO.out | apply impl_LegsOk.own_drewN | refine World.ownsMap.setCell ?_ NB1.out _ | refine World.ownsMap.setCell ?_ NB2.out _) | exact HO.out))) _ _ rfl HKEY.out (V := .agg #[.int .i64 q.f0, .int .i64 q.f1, .int .i64 q.f2, .int .i64 q.f3, .int .i64 q.f4, .int .i64 q.f5]) (c := true) HLK.out ?_) | ((with_reducible refine gate_dst (N := 6) rfl ?_); refine box_event ?hg (N := 6) ?hd (cs := #[.int .i64 0, .int .i64 0, .int .i64 0, .int .i64 0, .int .i64 0, .int .i64 0]) (t := 31) ?hr ?_; (case hd => rfl); (case hg => rfl); (case hr => first | (go_simp; done) | (go_simp; rfl)); intro gb2 hg w6 hbox hb; have n0_ := Aside0.mk (below_step (by repeat (first | (with_reducible first | exact HB.out | apply below_alloc | apply pw_below_drewN | apply below_drew1 | refine below_set ?_ GE1.out | refine below_set ?_ GE2.out) | exact HB.out)) hb); have n1_ := Aside0.mk (hbox); have n2_ := Aside0.mk ((by rw [hg]; exact (below_size (by repeat (first | (with_reducible first | exact HB.out | apply below_alloc | apply pw_below_drewN | apply below_drew1 | refine below_set ?_ GE1.out | refine below_set ?_ GE2.out) | exact HB.out)))) : w.heap.size ≤ gb2); have n3_ := Aside0.mk (impl_LegsOk.own_below (show World.ownsMap _ Try.prog 3 impl_LegsOk.held w.heap.size _ _ from (by repeat (first | (with_reducible first | exact HO.out | apply impl_LegsOk.own_drewN | refine World.ownsMap.setCell ?_ NB1.out _ | refine World.ownsMap.setCell ?_ NB2.out _) | exact HO.out))) hb); have n4_ := Aside0.mk ((by have h5 := World.ownsMap.lt (show World.ownsMap _ Try.prog 3 impl_LegsOk.held w.heap.size _ _ from (by repeat (first | (with_reducible first | exact HO.out | apply impl_LegsOk.own_drewN | refine World.ownsMap.setCell ?_ NB1.out _ | refine World.ownsMap.setCell ?_ NB2.out _) | exact HO.out))); rw [hg]; exact Nat.ne_of_lt h5) : w.heap.size ≠ gb2); have n6_ := Aside0.mk (blk_below (g := gb1) (o := .cells #[.int .i64 (rd_T31 l0 x14).f0, .int .i64 (rd_T31 l0 x14).f1, .int .i64 (rd_T31 l0 x14).f2, .int .i64 (rd_T31 l0 x14).f3, .int .i64 (rd_T31 l0 x14).f4, .int .i64 (rd_T31 l0 x14).f5] 31 (0, 0)) (by (with_reducible repeat (first | refine blk_drewN ?_ _ | refine blk_drew ?_ | refine blk_alloc ?_ _)); exact BK1.out) hb); have n7_ := Aside0.mk ((by rw [hg]; exact Nat.ne_of_lt (blk_lt (g := gb1) (o := .cells #[.int .i64 (rd_T31 l0 x14).f0, .int .i64 (rd_T31 l0 x14).f1, .int .i64 (rd_T31 l0 x14).f2, .int .i64 (rd_T31 l0 x14).f3, .int .i64 (rd_T31 l0 x14).f4, .int .i64 (rd_T31 l0 x14).f5] 31 (0, 0)) (by (with_reducible repeat (first | refine blk_drewN ?_ _ | refine blk_drew ?_ | refine blk_alloc ?_ _)); exact BK1.out)) : gb1 ≠ gb2)); have n8_ := Aside0.mk ((by rw [hg]; exact Nat.ne_of_gt (blk_lt (g := gb1) (o := .cells #[.int .i64 (rd_T31 l0 x14).f0, .int .i64 (rd_T31 l0 x14).f1, .int .i64 (rd_T31 l0 x14).f2, .int .i64 (rd_T31 l0 x14).f3, .int .i64 (rd_T31 l0 x14).f4, .int .i64 (rd_T31 l0 x14).f5] 31 (0, 0)) (by (with_reducible repeat (first | refine blk_drewN ?_ _ | refine blk_drew ?_ | refine blk_alloc ?_ _)); exact BK1.out)) : gb2 ≠ gb1)); clear BK1; have BK1 := n6_; have NB12 := n7_; have NB21 := n8_; clear n6_ n7_ n8_; clear HB HO; have HB := n0_; have BK2 := n1_; have GE2 := n2_; have HO := n3_; have NB2 := n4_; clear n0_ n1_ n2_ n3_ n4_; clear hb hbox hg; have hcz2_0 : w6.cell? ⟨gb2, 0, none⟩ = some (.int .i64 0) := (blk_cell BK2.out 0).trans rfl; have hcz2_1 : w6.cell? ⟨gb2, 1, none⟩ = some (.int .i64 0) := (blk_cell BK2.out 1).trans rfl; have hcz2_2 : w6.cell? ⟨gb2, 2, none⟩ = some (.int .i64 0) := (blk_cell BK2.out 2).trans rfl; have hcz2_3 : w6.cell? ⟨gb2, 3, none⟩ = some (.int .i64 0) := (blk_cell BK2.out 3).trans rfl; have hcz2_4 : w6.cell? ⟨gb2, 4, none⟩ = some (.int .i64 0) := (blk_cell BK2.out 4).trans rfl; have hcz2_5 : w6.cell? ⟨gb2, 5, none⟩ = some (.int .i64 0) := (blk_cell BK2.out 5).trans rfl; have hfz2_0 := blk_frozen BK2.out 0; have hfz2_1 := blk_frozen BK2.out 1; have hfz2_2 := blk_frozen BK2.out 2; have hfz2_3 := blk_frozen BK2.out 3; have hfz2_4 := blk_frozen BK2.out 4; have hfz2_5 := blk_frozen BK2.out 5; have hnb1 := NB12.out; have hnb2 := NB21.out; have hcy1_0 : w6.cell? ⟨gb1, 0, none⟩ = some (.int .i64 ((rd_T31 l0 x14).f0)) := (blk_cell BK1.out 0).trans rfl; have hfy1_0 := blk_frozen BK1.out 0; have hcy1_1 : w6.cell? ⟨gb1, 1, none⟩ = some (.int .i64 ((rd_T31 l0 x14).f1)) := (blk_cell BK1.out 1).trans rfl; have hfy1_1 := blk_frozen BK1.out 1; have hcy1_2 : w6.cell? ⟨gb1, 2, none⟩ = some (.int .i64 ((rd_T31 l0 x14).f2)) := (blk_cell BK1.out 2).trans rfl; have hfy1_2 := blk_frozen BK1.out 2; have hcy1_3 : w6.cell? ⟨gb1, 3, none⟩ = some (.int .i64 ((rd_T31 l0 x14).f3)) := (blk_cell BK1.out 3).trans rfl; have hfy1_3 := blk_frozen BK1.out 3; have hcy1_4 : w6.cell? ⟨gb1, 4, none⟩ = some (.int .i64 ((rd_T31 l0 x14).f4)) := (blk_cell BK1.out 4).trans rfl; have hfy1_4 := blk_frozen BK1.out 4; have hcy1_5 : w6.cell? ⟨gb1, 5, none⟩ = some (.int .i64 ((rd_T31 l0 x14).f5)) := (blk_cell BK1.out 5).trans rfl; have hfy1_5 := blk_frozen BK1.out 5) | (at_mapUpdate; refine wpList_mapUpdate_own _ rfl _ _ _ 53 rfl 3 31 impl_LegsOk.keyed Try.underlying53 impl_LegsOk.held w.heap.size x14.toNat D rfl (by repeat (first | (with_reducible first | exact HO.out | apply impl_LegsOk.own_drewN | refine World.ownsMap.setCell ?_ NB1.out _ | refine World.ownsMap.setCell ?_ NB2.out _) | exact HO.out)) (by have := HL.out; have := HLT.out; have := G0.out; unfold maxLen; omega) _ _ _ rfl rfl HKEY.out (.held (impl_LegsOk.agg (rd_T31 l0 x14))) [] rfl ?_; intro w9 hown1 hgrow1; have n0_ := Aside0.mk (Below.grown (show Below w.heap.size w _ from (by repeat (first | (with_reducible first | exact HB.out | apply below_alloc | apply pw_below_drewN | apply below_drew1 | refine below_set ?_ GE1.out | refine below_set ?_ GE2.out) | exact HB.out))) hgrow1 (below_size (show Below w.heap.size w _ from (by repeat (first | (with_reducible first | exact HB.out | apply below_alloc | apply pw_below_drewN | apply below_drew1 | refine below_set ?_ GE1.out | refine below_set ?_ GE2.out) | exact HB.out)))) (fun j hj => by cases hj; exact Nat.le_refl _)); have n1_ := Aside0.mk hown1; clear HB HO; have HB := n0_; have HO := n1_; clear n0_ n1_ hown1 hgrow1))
                  repeat (go_quiet (first | (at_lookup; refine impl_LegsOk.look rfl _ _ rfl rfl (show World.ownsMap _ Try.prog 3 impl_LegsOk.held w.heap.size _ _ from (by repeat (first | (with_reducible first | exact HO.out | apply impl_LegsOk.own_drewN | refine World.ownsMap.setCell ?_ NB1.out _ | refine World.ownsMap.setCell ?_ NB2.out _) | exact HO.out))) _ _ rfl HKEY.out (V := .agg #[.int .i64 q.f0, .int .i64 q.f1, .int .i64 q.f2, .int .i64 q.f3, .int .i64 q.f4, .int .i64 q.f5]) (c := true) HLK.out ?_) | ((with_reducible refine gate_dst (N := 6) rfl ?_); refine box_event ?hg (N := 6) ?hd (cs := #[.int .i64 0, .int .i64 0, .int .i64 0, .int .i64 0, .int .i64 0, .int .i64 0]) (t := 31) ?hr ?_; (case hd => rfl); (case hg => rfl); (case hr => first | (go_simp; done) | (go_simp; rfl)); intro gb2 hg w6 hbox hb; have n0_ := Aside0.mk (below_step (by repeat (first | (with_reducible first | exact HB.out | apply below_alloc | apply pw_below_drewN | apply below_drew1 | refine below_set ?_ GE1.out | refine below_set ?_ GE2.out) | exact HB.out)) hb); have n1_ := Aside0.mk (hbox); have n2_ := Aside0.mk ((by rw [hg]; exact (below_size (by repeat (first | (with_reducible first | exact HB.out | apply below_alloc | apply pw_below_drewN | apply below_drew1 | refine below_set ?_ GE1.out | refine below_set ?_ GE2.out) | exact HB.out)))) : w.heap.size ≤ gb2); have n3_ := Aside0.mk (impl_LegsOk.own_below (show World.ownsMap _ Try.prog 3 impl_LegsOk.held w.heap.size _ _ from (by repeat (first | (with_reducible first | exact HO.out | apply impl_LegsOk.own_drewN | refine World.ownsMap.setCell ?_ NB1.out _ | refine World.ownsMap.setCell ?_ NB2.out _) | exact HO.out))) hb); have n4_ := Aside0.mk ((by have h5 := World.ownsMap.lt (show World.ownsMap _ Try.prog 3 impl_LegsOk.held w.heap.size _ _ from (by repeat (first | (with_reducible first | exact HO.out | apply impl_LegsOk.own_drewN | refine World.ownsMap.setCell ?_ NB1.out _ | refine World.ownsMap.setCell ?_ NB2.out _) | exact HO.out))); rw [hg]; exact Nat.ne_of_lt h5) : w.heap.size ≠ gb2); have n6_ := Aside0.mk (blk_below (g := gb1) (o := .cells #[.int .i64 (rd_T31 l0 x14).f0, .int .i64 (rd_T31 l0 x14).f1, .int .i64 (rd_T31 l0 x14).f2, .int .i64 (rd_T31 l0 x14).f3, .int .i64 (rd_T31 l0 x14).f4, .int .i64 (rd_T31 l0 x14).f5] 31 (0, 0)) (by (with_reducible repeat (first | refine blk_drewN ?_ _ | refine blk_drew ?_ | refine blk_alloc ?_ _)); exact BK1.out) hb); have n7_ := Aside0.mk ((by rw [hg]; exact Nat.ne_of_lt (blk_lt (g := gb1) (o := .cells #[.int .i64 (rd_T31 l0 x14).f0, .int .i64 (rd_T31 l0 x14).f1, .int .i64 (rd_T31 l0 x14).f2, .int .i64 (rd_T31 l0 x14).f3, .int .i64 (rd_T31 l0 x14).f4, .int .i64 (rd_T31 l0 x14).f5] 31 (0, 0)) (by (with_reducible repeat (first | refine blk_drewN ?_ _ | refine blk_drew ?_ | refine blk_alloc ?_ _)); exact BK1.out)) : gb1 ≠ gb2)); have n8_ := Aside0.mk ((by rw [hg]; exact Nat.ne_of_gt (blk_lt (g := gb1) (o := .cells #[.int .i64 (rd_T31 l0 x14).f0, .int .i64 (rd_T31 l0 x14).f1, .int .i64 (rd_T31 l0 x14).f2, .int .i64 (rd_T31 l0 x14).f3, .int .i64 (rd_T31 l0 x14).f4, .int .i64 (rd_T31 l0 x14).f5] 31 (0, 0)) (by (with_reducible repeat (first | refine blk_drewN ?_ _ | refine blk_drew ?_ | refine blk_alloc ?_ _)); exact BK1.out)) : gb2 ≠ gb1)); clear BK1; have BK1 := n6_; have NB12 := n7_; have NB21 := n8_; clear n6_ n7_ n8_; clear HB HO; have HB := n0_; have BK2 := n1_; have GE2 := n2_; have HO := n3_; have NB2 := n4_; clear n0_ n1_ n2_ n3_ n4_; clear hb hbox hg; have hcz2_0 : w6.cell? ⟨gb2, 0, none⟩ = some (.int .i64 0) := (blk_cell BK2.out 0).trans rfl; have hcz2_1 : w6.cell? ⟨gb2, 1, none⟩ = some (.int .i64 0) := (blk_cell BK2.out 1).trans rfl; have hcz2_2 : w6.cell? ⟨gb2, 2, none⟩ = some (.int .i64 0) := (blk_cell BK2.out 2).trans rfl; have hcz2_3 : w6.cell? ⟨gb2, 3, none⟩ = some (.int .i64 0) := (blk_cell BK2.out 3).trans rfl; have hcz2_4 : w6.cell? ⟨gb2, 4, none⟩ = some (.int .i64 0) := (blk_cell BK2.out 4).trans rfl; have hcz2_5 : w6.cell? ⟨gb2, 5, none⟩ = some (.int .i64 0) := (blk_cell BK2.out 5).trans rfl; have hfz2_0 := blk_frozen BK2.out 0; have hfz2_1 := blk_frozen BK2.out 1; have hfz2_2 := blk_frozen BK2.out 2; have hfz2_3 := blk_frozen BK2.out 3; have hfz2_4 := blk_frozen BK2.out 4; have hfz2_5 := blk_frozen BK2.out 5; have hnb1 := NB12.out; have hnb2 := NB21.out; have hcy1_0 : w6.cell? ⟨gb1, 0, none⟩ = some (.int .i64 ((rd_T31 l0 x14).f0)) := (blk_cell BK1.out 0).trans rfl; have hfy1_0 := blk_frozen BK1.out 0; have hcy1_1 : w6.cell? ⟨gb1, 1, none⟩ = some (.int .i64 ((rd_T31 l0 x14).f1)) := (blk_cell BK1.out 1).trans rfl; have hfy1_1 := blk_frozen BK1.out 1; have hcy1_2 : w6.cell? ⟨gb1, 2, none⟩ = some (.int .i64 ((rd_T31 l0 x14).f2)) := (blk_cell BK1.out 2).trans rfl; have hfy1_2 := blk_frozen BK1.out 2; have hcy1_3 : w6.cell? ⟨gb1, 3, none⟩ = some (.int .i64 ((rd_T31 l0 x14).f3)) := (blk_cell BK1.out 3).trans rfl; have hfy1_3 := blk_frozen BK1.out 3; have hcy1_4 : w6.cell? ⟨gb1, 4, none⟩ = some (.int .i64 ((rd_T31 l0 x14).f4)) := (blk_cell BK1.out 4).trans rfl; have hfy1_4 := blk_frozen BK1.out 4; have hcy1_5 : w6.cell? ⟨gb1, 5, none⟩ = some (.int .i64 ((rd_T31 l0 x14).f5)) := (blk_cell BK1.out 5).trans rfl; have hfy1_5 := blk_frozen BK1.out 5) | (at_mapUpdate; refine wpList_mapUpdate_own _ rfl _ _ _ 53 rfl 3 31 impl_LegsOk.keyed Try.underlying53 impl_LegsOk.held w.heap.size x14.toNat D rfl (by repeat (first | (with_reducible first | exact HO.out | apply impl_LegsOk.own_drewN | refine World.ownsMap.setCell ?_ NB1.out _ | refine World.ownsMap.setCell ?_ NB2.out _) | exact HO.out)) (by have := HL.out; have := HLT.out; have := G0.out; unfold maxLen; omega) _ _ _ rfl rfl HKEY.out (.held (impl_LegsOk.agg (rd_T31 l0 x14))) [] rfl ?_; intro w9 hown1 hgrow1; have n0_ := Aside0.mk (Below.grown (show Below w.heap.size w _ from (by repeat (first | (with_reducible first | exact HB.out | apply below_alloc | apply pw_below_drewN | apply below_drew1 | refine below_set ?_ GE1.out | refine below_set ?_ GE2.out) | exact HB.out))) hgrow1 (below_size (show Below w.heap.size w _ from (by repeat (first | (with_reducible first | exact HB.out | apply below_alloc | apply pw_below_drewN | apply below_drew1 | refine below_set ?_ GE1.out | refine below_set ?_ GE2.out) | exact HB.out)))) (fun j hj => by cases hj; exact Nat.le_refl _)); have n1_ := Aside0.mk hown1; clear HB HO; have HB := n0_; have HO := n1_; clear n0_ n1_ hown1 hgrow1)); try go_wp2_with (first | (at_lookup; refine impl_LegsOk.look rfl _ _ rfl rfl (show World.ownsMap _ Try.prog 3 impl_LegsOk.held w.heap.size _ _ from (by repeat (first | (with_reducible first | exact HO.out | apply impl_LegsOk.own_drewN | refine World.ownsMap.setCell ?_ NB1.out _ | refine World.ownsMap.setCell ?_ NB2.out _) | exact HO.out))) _ _ rfl HKEY.out (V := .agg #[.int .i64 q.f0, .int .i64 q.f1, .int .i64 q.f2, .int .i64 q.f3, .int .i64 q.f4, .int .i64 q.f5]) (c := true) HLK.out ?_) | ((with_reducible refine gate_dst (N := 6) rfl ?_); refine box_event ?hg (N := 6) ?hd (cs := #[.int .i64 0, .int .i64 0, .int .i64 0, .int .i64 0, .int .i64 0, .int .i64 0]) (t := 31) ?hr ?_; (case hd => rfl); (case hg => rfl); (case hr => first | (go_simp; done) | (go_simp; rfl)); intro gb2 hg w6 hbox hb; have n0_ := Aside0.mk (below_step (by repeat (first | (with_reducible first | exact HB.out | apply below_alloc | apply pw_below_drewN | apply below_drew1 | refine below_set ?_ GE1.out | refine below_set ?_ GE2.out) | exact HB.out)) hb); have n1_ := Aside0.mk (hbox); have n2_ := Aside0.mk ((by rw [hg]; exact (below_size (by repeat (first | (with_reducible first | exact HB.out | apply below_alloc | apply pw_below_drewN | apply below_drew1 | refine below_set ?_ GE1.out | refine below_set ?_ GE2.out) | exact HB.out)))) : w.heap.size ≤ gb2); have n3_ := Aside0.mk (impl_LegsOk.own_below (show World.ownsMap _ Try.prog 3 impl_LegsOk.held w.heap.size _ _ from (by repeat (first | (with_reducible first | exact HO.out | apply impl_LegsOk.own_drewN | refine World.ownsMap.setCell ?_ NB1.out _ | refine World.ownsMap.setCell ?_ NB2.out _) | exact HO.out))) hb); have n4_ := Aside0.mk ((by have h5 := World.ownsMap.lt (show World.ownsMap _ Try.prog 3 impl_LegsOk.held w.heap.size _ _ from (by repeat (first | (with_reducible first | exact HO.out | apply impl_LegsOk.own_drewN | refine World.ownsMap.setCell ?_ NB1.out _ | refine World.ownsMap.setCell ?_ NB2.out _) | exact HO.out))); rw [hg]; exact Nat.ne_of_lt h5) : w.heap.size ≠ gb2); have n6_ := Aside0.mk (blk_below (g := gb1) (o := .cells #[.int .i64 (rd_T31 l0 x14).f0, .int .i64 (rd_T31 l0 x14).f1, .int .i64 (rd_T31 l0 x14).f2, .int .i64 (rd_T31 l0 x14).f3, .int .i64 (rd_T31 l0 x14).f4, .int .i64 (rd_T31 l0 x14).f5] 31 (0, 0)) (by (with_reducible repeat (first | refine blk_drewN ?_ _ | refine blk_drew ?_ | refine blk_alloc ?_ _)); exact BK1.out) hb); have n7_ := Aside0.mk ((by rw [hg]; exact Nat.ne_of_lt (blk_lt (g := gb1) (o := .cells #[.int .i64 (rd_T31 l0 x14).f0, .int .i64 (rd_T31 l0 x14).f1, .int .i64 (rd_T31 l0 x14).f2, .int .i64 (rd_T31 l0 x14).f3, .int .i64 (rd_T31 l0 x14).f4, .int .i64 (rd_T31 l0 x14).f5] 31 (0, 0)) (by (with_reducible repeat (first | refine blk_drewN ?_ _ | refine blk_drew ?_ | refine blk_alloc ?_ _)); exact BK1.out)) : gb1 ≠ gb2)); have n8_ := Aside0.mk ((by rw [hg]; exact Nat.ne_of_gt (blk_lt (g := gb1) (o := .cells #[.int .i64 (rd_T31 l0 x14).f0, .int .i64 (rd_T31 l0 x14).f1, .int .i64 (rd_T31 l0 x14).f2, .int .i64 (rd_T31 l0 x14).f3, .int .i64 (rd_T31 l0 x14).f4, .int .i64 (rd_T31 l0 x14).f5] 31 (0, 0)) (by (with_reducible repeat (first | refine blk_drewN ?_ _ | refine blk_drew ?_ | refine blk_alloc ?_ _)); exact BK1.out)) : gb2 ≠ gb1)); clear BK1; have BK1 := n6_; have NB12 := n7_; have NB21 := n8_; clear n6_ n7_ n8_; clear HB HO; have HB := n0_; have BK2 := n1_; have GE2 := n2_; have HO := n3_; have NB2 := n4_; clear n0_ n1_ n2_ n3_ n4_; clear hb hbox hg; have hcz2_0 : w6.cell? ⟨gb2, 0, none⟩ = some (.int .i64 0) := (blk_cell BK2.out 0).trans rfl; have hcz2_1 : w6.cell? ⟨gb2, 1, none⟩ = some (.int .i64 0) := (blk_cell BK2.out 1).trans rfl; have hcz2_2 : w6.cell? ⟨gb2, 2, none⟩ = some (.int .i64 0) := (blk_cell BK2.out 2).trans rfl; have hcz2_3 : w6.cell? ⟨gb2, 3, none⟩ = some (.int .i64 0) := (blk_cell BK2.out 3).trans rfl; have hcz2_4 : w6.cell? ⟨gb2, 4, none⟩ = some (.int .i64 0) := (blk_cell BK2.out 4).trans rfl; have hcz2_5 : w6.cell? ⟨gb2, 5, none⟩ = some (.int .i64 0) := (blk_cell BK2.out 5).trans rfl; have hfz2_0 := blk_frozen BK2.out 0; have hfz2_1 := blk_frozen BK2.out 1; have hfz2_2 := blk_frozen BK2.out 2; have hfz2_3 := blk_frozen BK2.out 3; have hfz2_4 := blk_frozen BK2.out 4; have hfz2_5 := blk_frozen BK2.out 5; have hnb1 := NB12.out; have hnb2 := NB21.out; have hcy1_0 : w6.cell? ⟨gb1, 0, none⟩ = some (.int .i64 ((rd_T31 l0 x14).f0)) := (blk_cell BK1.out 0).trans rfl; have hfy1_0 := blk_frozen BK1.out 0; have hcy1_1 : w6.cell? ⟨gb1, 1, none⟩ = some (.int .i64 ((rd_T31 l0 x14).f1)) := (blk_cell BK1.out 1).trans rfl; have hfy1_1 := blk_frozen BK1.out 1; have hcy1_2 : w6.cell? ⟨gb1, 2, none⟩ = some (.int .i64 ((rd_T31 l0 x14).f2)) := (blk_cell BK1.out 2).trans rfl; have hfy1_2 := blk_frozen BK1.out 2; have hcy1_3 : w6.cell? ⟨gb1, 3, none⟩ = some (.int .i64 ((rd_T31 l0 x14).f3)) := (blk_cell BK1.out 3).trans rfl; have hfy1_3 := blk_frozen BK1.out 3; have hcy1_4 : w6.cell? ⟨gb1, 4, none⟩ = some (.int .i64 ((rd_T31 l0 x14).f4)) := (blk_cell BK1.out 4).trans rfl; have hfy1_4 := blk_frozen BK1.out 4; have hcy1_5 : w6.cell? ⟨gb1, 5, none⟩ = some (.int .i64 ((rd_T31 l0 x14).f5)) := (blk_cell BK1.out 5).trans rfl; have hfy1_5 := blk_frozen BK1.out 5) | (at_mapUpdate; refine wpList_mapUpdate_own _ rfl _ _ _ 53 rfl 3 31 impl_LegsOk.keyed Try.underlying53 impl_LegsOk.held w.heap.size x14.toNat D rfl (by repeat (first | (with_reducible first | exact HO.out | apply impl_LegsOk.own_drewN | refine World.ownsMap.setCell ?_ NB1.out _ | refine World.ownsMap.setCell ?_ NB2.out _) | exact HO.out)) (by have := HL.out; have := HLT.out; have := G0.out; unfold maxLen; omega) _ _ _ rfl rfl HKEY.out (.held (impl_LegsOk.agg (rd_T31 l0 x14))) [] rfl ?_; intro w9 hown1 hgrow1; have n0_ := Aside0.mk (Below.grown (show Below w.heap.size w _ from (by repeat (first | (with_reducible first | exact HB.out | apply below_alloc | apply pw_below_drewN | apply below_drew1 | refine below_set ?_ GE1.out | refine below_set ?_ GE2.out) | exact HB.out))) hgrow1 (below_size (show Below w.heap.size w _ from (by repeat (first | (with_reducible first | exact HB.out | apply below_alloc | apply pw_below_drewN | apply below_drew1 | refine below_set ?_ GE1.out | refine below_set ?_ GE2.out) | exact HB.out)))) (fun j hj => by cases hj; exact Nat.le_refl _)); have n1_ := Aside0.mk hown1; clear HB HO; have HB := n0_; have HO := n1_; clear n0_ n1_ hown1 hgrow1)))
                  go_ret
                  exact ⟨rfl, by repeat (first | (with_reducible first | exact HB.out | apply below_alloc | apply pw_below_drewN | apply below_drew1 | refine below_set ?_ GE1.out | refine below_set ?_ GE2.out) | exact HB.out)⟩
                | false =>
                  replace HI : Aside0 (impl_LegsOk.g k1 l0 (x14 + 1) = r) := HI
                  go_upto_region 12 with (first | (at_lookup; refine impl_LegsOk.look rfl _ _ rfl rfl (show World.ownsMap _ Try.prog 3 impl_LegsOk.held w.heap.size _ _ from (by repeat (first | (with_reducible first | exact HO.out | apply impl_LegsOk.own_drewN | refine World.ownsMap.setCell ?_ NB1.out _ | refine World.ownsMap.setCell ?_ NB2.out _) | exact HO.out))) _ _ rfl HKEY.out (V := .agg #[.int .i64 q.f0, .int .i64 q.f1, .int .i64 q.f2, .int .i64 q.f3, .int .i64 q.f4, .int .i64 q.f5]) (c := true) HLK.out ?_) | ((with_reducible refine gate_dst (N := 6) rfl ?_); refine box_event ?hg (N := 6) ?hd (cs := #[.int .i64 0, .int .i64 0, .int .i64 0, .int .i64 0, .int .i64 0, .int .i64 0]) (t := 31) ?hr ?_; (case hd => rfl); (case hg => rfl); (case hr => first | (go_simp; done) | (go_simp; rfl)); intro gb2 hg w6 hbox hb; have n0_ := Aside0.mk (below_step (by repeat (first | (with_reducible first | exact HB.out | apply below_alloc | apply pw_below_drewN | apply below_drew1 | refine below_set ?_ GE1.out | refine below_set ?_ GE2.out) | exact HB.out)) hb); have n1_ := Aside0.mk (hbox); have n2_ := Aside0.mk ((by rw [hg]; exact (below_size (by repeat (first | (with_reducible first | exact HB.out | apply below_alloc | apply pw_below_drewN | apply below_drew1 | refine below_set ?_ GE1.out | refine below_set ?_ GE2.out) | exact HB.out)))) : w.heap.size ≤ gb2); have n3_ := Aside0.mk (impl_LegsOk.own_below (show World.ownsMap _ Try.prog 3 impl_LegsOk.held w.heap.size _ _ from (by repeat (first | (with_reducible first | exact HO.out | apply impl_LegsOk.own_drewN | refine World.ownsMap.setCell ?_ NB1.out _ | refine World.ownsMap.setCell ?_ NB2.out _) | exact HO.out))) hb); have n4_ := Aside0.mk ((by have h5 := World.ownsMap.lt (show World.ownsMap _ Try.prog 3 impl_LegsOk.held w.heap.size _ _ from (by repeat (first | (with_reducible first | exact HO.out | apply impl_LegsOk.own_drewN | refine World.ownsMap.setCell ?_ NB1.out _ | refine World.ownsMap.setCell ?_ NB2.out _) | exact HO.out))); rw [hg]; exact Nat.ne_of_lt h5) : w.heap.size ≠ gb2); have n6_ := Aside0.mk (blk_below (g := gb1) (o := .cells #[.int .i64 (rd_T31 l0 x14).f0, .int .i64 (rd_T31 l0 x14).f1, .int .i64 (rd_T31 l0 x14).f2, .int .i64 (rd_T31 l0 x14).f3, .int .i64 (rd_T31 l0 x14).f4, .int .i64 (rd_T31 l0 x14).f5] 31 (0, 0)) (by (with_reducible repeat (first | refine blk_drewN ?_ _ | refine blk_drew ?_ | refine blk_alloc ?_ _)); exact BK1.out) hb); have n7_ := Aside0.mk ((by rw [hg]; exact Nat.ne_of_lt (blk_lt (g := gb1) (o := .cells #[.int .i64 (rd_T31 l0 x14).f0, .int .i64 (rd_T31 l0 x14).f1, .int .i64 (rd_T31 l0 x14).f2, .int .i64 (rd_T31 l0 x14).f3, .int .i64 (rd_T31 l0 x14).f4, .int .i64 (rd_T31 l0 x14).f5] 31 (0, 0)) (by (with_reducible repeat (first | refine blk_drewN ?_ _ | refine blk_drew ?_ | refine blk_alloc ?_ _)); exact BK1.out)) : gb1 ≠ gb2)); have n8_ := Aside0.mk ((by rw [hg]; exact Nat.ne_of_gt (blk_lt (g := gb1) (o := .cells #[.int .i64 (rd_T31 l0 x14).f0, .int .i64 (rd_T31 l0 x14).f1, .int .i64 (rd_T31 l0 x14).f2, .int .i64 (rd_T31 l0 x14).f3, .int .i64 (rd_T31 l0 x14).f4, .int .i64 (rd_T31 l0 x14).f5] 31 (0, 0)) (by (with_reducible repeat (first | refine blk_drewN ?_ _ | refine blk_drew ?_ | refine blk_alloc ?_ _)); exact BK1.out)) : gb2 ≠ gb1)); clear BK1; have BK1 := n6_; have NB12 := n7_; have NB21 := n8_; clear n6_ n7_ n8_; clear HB HO; have HB := n0_; have BK2 := n1_; have GE2 := n2_; have HO := n3_; have NB2 := n4_; clear n0_ n1_ n2_ n3_ n4_; clear hb hbox hg; have hcz2_0 : w6.cell? ⟨gb2, 0, none⟩ = some (.int .i64 0) := (blk_cell BK2.out 0).trans rfl; have hcz2_1 : w6.cell? ⟨gb2, 1, none⟩ = some (.int .i64 0) := (blk_cell BK2.out 1).trans rfl; have hcz2_2 : w6.cell? ⟨gb2, 2, none⟩ = some (.int .i64 0) := (blk_cell BK2.out 2).trans rfl; have hcz2_3 : w6.cell? ⟨gb2, 3, none⟩ = some (.int .i64 0) := (blk_cell BK2.out 3).trans rfl; have hcz2_4 : w6.cell? ⟨gb2, 4, none⟩ = some (.int .i64 0) := (blk_cell BK2.out 4).trans rfl; have hcz2_5 : w6.cell? ⟨gb2, 5, none⟩ = some (.int .i64 0) := (blk_cell BK2.out 5).trans rfl; have hfz2_0 := blk_frozen BK2.out 0; have hfz2_1 := blk_frozen BK2.out 1; have hfz2_2 := blk_frozen BK2.out 2; have hfz2_3 := blk_frozen BK2.out 3; have hfz2_4 := blk_frozen BK2.out 4; have hfz2_5 := blk_frozen BK2.out 5; have hnb1 := NB12.out; have hnb2 := NB21.out; have hcy1_0 : w6.cell? ⟨gb1, 0, none⟩ = some (.int .i64 ((rd_T31 l0 x14).f0)) := (blk_cell BK1.out 0).trans rfl; have hfy1_0 := blk_frozen BK1.out 0; have hcy1_1 : w6.cell? ⟨gb1, 1, none⟩ = some (.int .i64 ((rd_T31 l0 x14).f1)) := (blk_cell BK1.out 1).trans rfl; have hfy1_1 := blk_frozen BK1.out 1; have hcy1_2 : w6.cell? ⟨gb1, 2, none⟩ = some (.int .i64 ((rd_T31 l0 x14).f2)) := (blk_cell BK1.out 2).trans rfl; have hfy1_2 := blk_frozen BK1.out 2; have hcy1_3 : w6.cell? ⟨gb1, 3, none⟩ = some (.int .i64 ((rd_T31 l0 x14).f3)) := (blk_cell BK1.out 3).trans rfl; have hfy1_3 := blk_frozen BK1.out 3; have hcy1_4 : w6.cell? ⟨gb1, 4, none⟩ = some (.int .i64 ((rd_T31 l0 x14).f4)) := (blk_cell BK1.out 4).trans rfl; have hfy1_4 := blk_frozen BK1.out 4; have hcy1_5 : w6.cell? ⟨gb1, 5, none⟩ = some (.int .i64 ((rd_T31 l0 x14).f5)) := (blk_cell BK1.out 5).trans rfl; have hfy1_5 := blk_frozen BK1.out 5))
                  refine impl_LegsOk.letter (R := fun W => Below w.heap.size w W ∧ W.heap[gb1]? = some (.cells #[.int .i64 (rd_T31 l0 x14).f0, .int .i64 (rd_T31 l0 x14).f1, .int .i64 (rd_T31 l0 x14).f2, .int .i64 (rd_T31 l0 x14).f3, .int .i64 (rd_T31 l0 x14).f4, .int .i64 (rd_T31 l0 x14).f5] 31 (0, 0)) ∧ W.ownsMap Try.prog 3 impl_LegsOk.held w.heap.size x14.toNat D) ⟨by repeat (first | (with_reducible first | exact HB.out | apply below_alloc | apply pw_below_drewN | apply below_drew1 | refine below_set ?_ GE1.out | refine below_set ?_ GE2.out) | exact HB.out), by (repeat (first | (with_reducible first | refine blk_drewN ?_ _ | refine blk_drew ?_ | refine blk_alloc ?_ _) | refine blk_far ?_ NB12.out _)); exact BK1.out, by repeat (first | (with_reducible first | exact HO.out | apply impl_LegsOk.own_drewN | refine World.ownsMap.setCell ?_ NB1.out _ | refine World.ownsMap.setCell ?_ NB2.out _) | exact HO.out)⟩ ?_
                  clear HB HO BK1 BK2 hnb1 hnb2
                  clear hcz2_0 hfz2_0 hcy1_0 hfy1_0; try clear hcx1_0 hfz1_0
                  clear hcz2_1 hfz2_1 hcy1_1 hfy1_1; try clear hcx1_1 hfz1_1
                  clear hcz2_2 hfz2_2 hcy1_2 hfy1_2; try clear hcx1_2 hfz1_2
                  clear hcz2_3 hfz2_3 hcy1_3 hfy1_3; try clear hcx1_3 hfz1_3
                  clear hcz2_4 hfz2_4 hcy1_4 hfy1_4; try clear hcx1_4 hfz1_4
                  clear hcz2_5 hfz2_5 hcy1_5 hfy1_5; try clear hcx1_5 hfz1_5
                  rintro w8 ⟨hB8, hK8, hO8⟩
                  have HB := Aside0.mk hB8; have BK1 := Aside0.mk hK8; have HO := Aside0.mk hO8; have HOLD := Aside0.mk hO8
                  clear hB8 hK8 hO8
                  have hcx1_0 : w8.cell? ⟨gb1, 0, none⟩ = some (Value.int IntKind.i64 ((rd_T31 l0 x14).f0)) := (blk_cell BK1.out 0).trans rfl
                  have hcx1_1 : w8.cell? ⟨gb1, 1, none⟩ = some (Value.int IntKind.i64 ((rd_T31 l0 x14).f1)) := (blk_cell BK1.out 1).trans rfl
                  have hcx1_2 : w8.cell? ⟨gb1, 2, none⟩ = some (Value.int IntKind.i64 ((rd_T31 l0 x14).f2)) := (blk_cell BK1.out 2).trans rfl
                  have hcx1_3 : w8.cell? ⟨gb1, 3, none⟩ = some (Value.int IntKind.i64 ((rd_T31 l0 x14).f3)) := (blk_cell BK1.out 3).trans rfl
                  have hcx1_4 : w8.cell? ⟨gb1, 4, none⟩ = some (Value.int IntKind.i64 ((rd_T31 l0 x14).f4)) := (blk_cell BK1.out 4).trans rfl
                  have hcx1_5 : w8.cell? ⟨gb1, 5, none⟩ = some (Value.int IntKind.i64 ((rd_T31 l0 x14).f5)) := (blk_cell BK1.out 5).trans rfl
                  go_wp2_with (at_mapUpdate; refine wpList_mapUpdate_own _ rfl _ _ _ 53 rfl 3 31 impl_LegsOk.keyed Try.underlying53 impl_LegsOk.held w.heap.size x14.toNat D rfl (by repeat (first | (with_reducible first | exact HO.out | apply impl_LegsOk.own_drewN | refine World.ownsMap.setCell ?_ NB1.out _ | refine World.ownsMap.setCell ?_ NB2.out _) | exact HO.out)) (by have := HL.out; have := HLT.out; have := G0.out; unfold maxLen; omega) _ _ _ rfl rfl HKEY.out (.held (impl_LegsOk.agg (rd_T31 l0 x14))) [] rfl ?_; intro w9 hown1 hgrow1; have n0_ := Aside0.mk (Below.grown (show Below w.heap.size w _ from (by repeat (first | (with_reducible first | exact HB.out | apply below_alloc | apply pw_below_drewN | apply below_drew1 | refine below_set ?_ GE1.out | refine below_set ?_ GE2.out) | exact HB.out))) hgrow1 (below_size (show Below w.heap.size w _ from (by repeat (first | (with_reducible first | exact HB.out | apply below_alloc | apply pw_below_drewN | apply below_drew1 | refine below_set ?_ GE1.out | refine below_set ?_ GE2.out) | exact HB.out)))) (fun j hj => by cases hj; exact Nat.le_refl _)); have n1_ := Aside0.mk hown1; clear HB HO; have HB := n0_; have HO := n1_; clear n0_ n1_ hown1 hgrow1)
                  go_roundg k1
                  case measure => have := HK.out; omega
                  case rel => exact ⟨x14 + 1, _, by first | rfl | rw [HW.out], ⟨by have := G0.out; omega⟩, ⟨by have := HLT.out; omega⟩, ⟨by have := HK.out; omega⟩, HI, ⟨(impl_LegsOk.take_snoc l0 x14 G0.out HLT.out).symm ▸ impl_LegsOk.tab_put HT.out (World.ownsMap.isMap HOLD.out) (rd_T31 l0 x14)⟩, ⟨by (rw [show (x14 + 1).toNat = x14.toNat + 1 from (by have := G0.out; omega)]; repeat (first | (with_reducible first | exact HO.out | apply impl_LegsOk.own_drewN | refine World.ownsMap.setCell ?_ NB1.out _ | refine World.ownsMap.setCell ?_ NB2.out _) | exact HO.out))⟩, ⟨by repeat (first | (with_reducible first | exact HB.out | apply below_alloc | apply pw_below_drewN | apply below_drew1 | refine below_set ?_ GE1.out | refine below_set ?_ GE2.out) | exact HB.out)⟩⟩
      · rw [if_neg c2] at H
        have c2b0 : decide (x14 < (l0.length : Int)) = false := decide_eq_false c2
        clear c2
        subst H
        go_wp2
        repeat (go_quiet (fail); try go_wp2)
        go_ret
        exact ⟨rfl, by repeat (first | (with_reducible first | exact HB.out | apply below_alloc | apply pw_below_drewN | apply below_drew1 | refine below_set ?_ GE1.out | refine below_set ?_ GE2.out) | exact HB.out)⟩

/-! ### impl_lineRight: function 42 -/
def impl_lineRight.f (l0 : List (S31)) (a1 : Int) (a2 : Int) (a3 : Int) : Option (Bool) := (impl_LegsOk.f l0).bind fun t187 => (if t187 = true then ((impl_linePort.f a1).bind fun t188 => (if t188 = true then ((impl_minuteOk.f a2).bind fun t189 => (if t189 = true then ((impl_in.f a3 0 10000).bind fun t190 => (some t190)) else (some false))) else (some false))) else (some false))
set_option maxHeartbeats 8000000 in
set_option maxRecDepth 100000 in
theorem impl_lineRight.calls (A0 : Option Addr) (c0 : Nat) (l0 : List (S31)) (a1 : Int) (a2 : Int) (a3 : Int) (r : Bool) (w : World) (hr0 : Kd.C k31 w A0 l0.length l0) (hc0 : l0.length ≤ c0) (h : impl_lineRight.f l0 a1 a2 a3 = some r) :
    Calls Try.prog 42 #[.slice A0 l0.length c0, .int .i64 a1, .int .i64 a2, .int .i64 a3] w fun e w' => e = .returned (.bool r) ∧ Below w.heap.size w w' := by
  have HR0 := Aside0.mk hr0
  have HC0 := Aside0.mk hc0
  clear hr0 hc0
  have HB := Aside0.mk (Below.refl w.heap.size w)
  have H : ((impl_LegsOk.f l0).bind fun t187 => (if t187 = true then ((impl_linePort.f a1).bind fun t188 => (if t188 = true then ((impl_minuteOk.f a2).bind fun t189 => (if t189 = true then ((impl_in.f a3 0 10000).bind fun t190 => (some t190)) else (some false))) else (some false))) else (some false))) = some r := h
  clear h
  replace H := Option.bind_eq_some_iff.mp H
  obtain ⟨t187, A50, H⟩ := H
  replace H : (if t187 = true then ((impl_linePort.f a1).bind fun t188 => (if t188 = true then ((impl_minuteOk.f a2).bind fun t189 => (if t189 = true then ((impl_in.f a3 0 10000).bind fun t190 => (some t190)) else (some false))) else (some false))) else (some false)) = some r := H
  have A5 := Aside0.mk A50
  clear A50
  by_cases c6 : t187 = true
  · subst c6
    have H1 : ((impl_linePort.f a1).bind fun t188 => (if t188 = true then ((impl_minuteOk.f a2).bind fun t189 => (if t189 = true then ((impl_in.f a3 0 10000).bind fun t190 => (some t190)) else (some false))) else (some false))) = some r := by rw [if_pos rfl] at H; exact H
    clear H
    have H := H1
    clear H1
    replace H := Option.bind_eq_some_iff.mp H
    obtain ⟨t188, A70, H⟩ := H
    replace H : (if t188 = true then ((impl_minuteOk.f a2).bind fun t189 => (if t189 = true then ((impl_in.f a3 0 10000).bind fun t190 => (some t190)) else (some false))) else (some false)) = some r := H
    have A7 := Aside0.mk A70
    clear A70
    by_cases c8 : t188 = true
    · subst c8
      have H1 : ((impl_minuteOk.f a2).bind fun t189 => (if t189 = true then ((impl_in.f a3 0 10000).bind fun t190 => (some t190)) else (some false))) = some r := by rw [if_pos rfl] at H; exact H
      clear H
      have H := H1
      clear H1
      replace H := Option.bind_eq_some_iff.mp H
      obtain ⟨t189, A90, H⟩ := H
      replace H : (if t189 = true then ((impl_in.f a3 0 10000).bind fun t190 => (some t190)) else (some false)) = some r := H
      have A9 := Aside0.mk A90
      clear A90
      by_cases c10 : t189 = true
      · subst c10
        have H1 : ((impl_in.f a3 0 10000).bind fun t190 => (some t190)) = some r := by rw [if_pos rfl] at H; exact H
        clear H
        have H := H1
        clear H1
        replace H := Option.bind_eq_some_iff.mp H
        obtain ⟨t190, A110, H⟩ := H
        replace H : (some t190) = some r := H
        have A11 := Aside0.mk A110
        clear A110
        obtain rfl := Option.some.inj H
        go_enter Try.func42, Try.ntmps42
        go_wp2_with (first | ((with_reducible refine gate_callee (f := 12) rfl ?_); refine goesL_ (some 10) rfl rfl Try.func12 (by kernel_rfl) rfl #[.slice A0 l0.length c0] rfl (by (try simp only [List.map_toArray, List.map_cons, List.map_nil]); first | done | rfl | (simp only [List.length_drop, List.length_take]; rfl)) ?_; (with_reducible refine (impl_LegsOk.calls _ _ l0 true _ ?side1 ?side2 A5.out).mono ?_); (case side1 => repeat (first | exact HR0.out | (with_reducible refine Kd.C_alloc ?_ _) | (with_reducible refine Kd.C_drewN ?_ _) | (with_reducible refine Kd.C_drew ?_))); (case side2 => exact HC0.out); rintro e w12 ⟨rfl, hb⟩; refine ⟨_, rfl, ?_⟩; have n0_ := Aside0.mk (below_step (by repeat (first | (with_reducible first | exact HB.out | apply below_alloc | apply pw_below_drewN | apply below_drew1) | exact HB.out)) hb); clear HB; have HB := n0_; clear n0_; (try clear hb); (try clear hb2); (try clear hk); (try clear hi)) | (go_at_call 32; (with_reducible refine (impl_linePort.calls a1 true _ A7.out).mono ?_); rintro e w' ⟨rfl, ⟨nd, rfl⟩⟩) | (go_at_call 33; (with_reducible refine (impl_minuteOk.calls a2 true _ A9.out).mono ?_); rintro e w' ⟨rfl, ⟨nd, rfl⟩⟩) | (go_at_call 30; (with_reducible refine (impl_in.calls a3 0 10000 t190 _ A11.out).mono ?_); rintro e w' ⟨rfl, ⟨nd, rfl⟩⟩))
        go_ret
        exact ⟨by first | rfl | (simp [errW_none, errW_some] <;> rfl) | (simp [*, errW_none, errW_some] <;> rfl), by repeat (first | (with_reducible first | exact HB.out | apply below_alloc | apply pw_below_drewN | apply below_drew1) | exact HB.out)⟩
      · replace c10 := Bool.eq_false_iff.mpr c10
        subst c10
        have H1 : (some false) = some r := by rw [if_neg (show ¬ (false = true) by decide)] at H; exact H
        clear H
        have H := H1
        clear H1
        obtain rfl := Option.some.inj H
        go_enter Try.func42, Try.ntmps42
        go_wp2_with (first | ((with_reducible refine gate_callee (f := 12) rfl ?_); refine goesL_ (some 10) rfl rfl Try.func12 (by kernel_rfl) rfl #[.slice A0 l0.length c0] rfl (by (try simp only [List.map_toArray, List.map_cons, List.map_nil]); first | done | rfl | (simp only [List.length_drop, List.length_take]; rfl)) ?_; (with_reducible refine (impl_LegsOk.calls _ _ l0 true _ ?side1 ?side2 A5.out).mono ?_); (case side1 => repeat (first | exact HR0.out | (with_reducible refine Kd.C_alloc ?_ _) | (with_reducible refine Kd.C_drewN ?_ _) | (with_reducible refine Kd.C_drew ?_))); (case side2 => exact HC0.out); rintro e w13 ⟨rfl, hb⟩; refine ⟨_, rfl, ?_⟩; have n0_ := Aside0.mk (below_step (by repeat (first | (with_reducible first | exact HB.out | apply below_alloc | apply pw_below_drewN | apply below_drew1) | exact HB.out)) hb); clear HB; have HB := n0_; clear n0_; (try clear hb); (try clear hb2); (try clear hk); (try clear hi)) | (go_at_call 32; (with_reducible refine (impl_linePort.calls a1 true _ A7.out).mono ?_); rintro e w' ⟨rfl, ⟨nd, rfl⟩⟩) | (go_at_call 33; (with_reducible refine (impl_minuteOk.calls a2 false _ A9.out).mono ?_); rintro e w' ⟨rfl, ⟨nd, rfl⟩⟩))
        go_ret
        exact ⟨by first | rfl | (simp [errW_none, errW_some] <;> rfl) | (simp [*, errW_none, errW_some] <;> rfl), by repeat (first | (with_reducible first | exact HB.out | apply below_alloc | apply pw_below_drewN | apply below_drew1) | exact HB.out)⟩
    · replace c8 := Bool.eq_false_iff.mpr c8
      subst c8
      have H1 : (some false) = some r := by rw [if_neg (show ¬ (false = true) by decide)] at H; exact H
      clear H
      have H := H1
      clear H1
      obtain rfl := Option.some.inj H
      go_enter Try.func42, Try.ntmps42
      go_wp2_with (first | ((with_reducible refine gate_callee (f := 12) rfl ?_); refine goesL_ (some 10) rfl rfl Try.func12 (by kernel_rfl) rfl #[.slice A0 l0.length c0] rfl (by (try simp only [List.map_toArray, List.map_cons, List.map_nil]); first | done | rfl | (simp only [List.length_drop, List.length_take]; rfl)) ?_; (with_reducible refine (impl_LegsOk.calls _ _ l0 true _ ?side1 ?side2 A5.out).mono ?_); (case side1 => repeat (first | exact HR0.out | (with_reducible refine Kd.C_alloc ?_ _) | (with_reducible refine Kd.C_drewN ?_ _) | (with_reducible refine Kd.C_drew ?_))); (case side2 => exact HC0.out); rintro e w14 ⟨rfl, hb⟩; refine ⟨_, rfl, ?_⟩; have n0_ := Aside0.mk (below_step (by repeat (first | (with_reducible first | exact HB.out | apply below_alloc | apply pw_below_drewN | apply below_drew1) | exact HB.out)) hb); clear HB; have HB := n0_; clear n0_; (try clear hb); (try clear hb2); (try clear hk); (try clear hi)) | (go_at_call 32; (with_reducible refine (impl_linePort.calls a1 false _ A7.out).mono ?_); rintro e w' ⟨rfl, ⟨nd, rfl⟩⟩))
      go_ret
      exact ⟨by first | rfl | (simp [errW_none, errW_some] <;> rfl) | (simp [*, errW_none, errW_some] <;> rfl), by repeat (first | (with_reducible first | exact HB.out | apply below_alloc | apply pw_below_drewN | apply below_drew1) | exact HB.out)⟩
  · replace c6 := Bool.eq_false_iff.mpr c6
    subst c6
    have H1 : (some false) = some r := by rw [if_neg (show ¬ (false = true) by decide)] at H; exact H
    clear H
    have H := H1
    clear H1
    obtain rfl := Option.some.inj H
    go_enter Try.func42, Try.ntmps42
    go_wp2_with (first | ((with_reducible refine gate_callee (f := 12) rfl ?_); refine goesL_ (some 10) rfl rfl Try.func12 (by kernel_rfl) rfl #[.slice A0 l0.length c0] rfl (by (try simp only [List.map_toArray, List.map_cons, List.map_nil]); first | done | rfl | (simp only [List.length_drop, List.length_take]; rfl)) ?_; (with_reducible refine (impl_LegsOk.calls _ _ l0 false _ ?side1 ?side2 A5.out).mono ?_); (case side1 => repeat (first | exact HR0.out | (with_reducible refine Kd.C_alloc ?_ _) | (with_reducible refine Kd.C_drewN ?_ _) | (with_reducible refine Kd.C_drew ?_))); (case side2 => exact HC0.out); rintro e w15 ⟨rfl, hb⟩; refine ⟨_, rfl, ?_⟩; have n0_ := Aside0.mk (below_step (by repeat (first | (with_reducible first | exact HB.out | apply below_alloc | apply pw_below_drewN | apply below_drew1) | exact HB.out)) hb); clear HB; have HB := n0_; clear n0_; (try clear hb); (try clear hb2); (try clear hk); (try clear hi)))
    go_ret
    exact ⟨by first | rfl | (simp [errW_none, errW_some] <;> rfl) | (simp [*, errW_none, errW_some] <;> rfl), by repeat (first | (with_reducible first | exact HB.out | apply below_alloc | apply pw_below_drewN | apply below_drew1) | exact HB.out)⟩

-- NOT PRINTED: function 53 (slices_insertionSortCmpFunc_int)

-- NOT PRINTED: function 63 (slices_siftDownCmpFunc_int)

-- NOT PRINTED: function 54 (slices_heapSortCmpFunc_int)

-- NOT PRINTED: function 61 (bits_Len32)

-- NOT PRINTED: function 62 (bits_Len64)

-- NOT PRINTED: function 50 (bits_Len)

-- NOT PRINTED: function 64 (slices_nextPowerOfTwo)

-- NOT PRINTED: function 65 (slices_xorshift_Next)

-- NOT PRINTED: function 55 (slices_breakPatternsCmpFunc_int)

-- NOT PRINTED: function 68 (slices_order2CmpFunc_int)

-- NOT PRINTED: function 67 (slices_medianCmpFunc_int)

-- NOT PRINTED: function 66 (slices_medianAdjacentCmpFunc_int)

-- NOT PRINTED: function 56 (slices_choosePivotCmpFunc_int)

-- NOT PRINTED: function 57 (slices_reverseRangeCmpFunc_int)

-- NOT PRINTED: function 58 (slices_partialInsertionSortCmpFunc_int)

-- NOT PRINTED: function 59 (slices_partitionEqualCmpFunc_int)

-- NOT PRINTED: function 60 (slices_partitionCmpFunc_int)

-- NOT PRINTED: function 49 (slices_pdqsortCmpFunc_int)

-- NOT PRINTED: function 43 (slices_SortFunc_int_int)

/-! ### cmp_isNaN_int: function 51 -/
def cmp_isNaN_int.f (a0 : Int) : Option (Bool) := some (a0 != a0)
set_option maxHeartbeats 8000000 in
set_option maxRecDepth 100000 in
theorem cmp_isNaN_int.calls (a0 : Int) (r : Bool) (w : World) (h : cmp_isNaN_int.f a0 = some r) :
    Calls Try.prog 51 #[.int .i64 a0] w fun e w' => e = .returned (.bool r) ∧ Drawn0 w w' := by
  have H : (some (a0 != a0)) = some r := h
  clear h
  obtain rfl := Option.some.inj H
  go_enter Try.func51, Try.ntmps51
  go_wp2
  go_ret
  exact ⟨by first | rfl | (simp; done) | (simp [*]; done) | (simp [wrap64]; done), by repeat (first | exact Drawn0.refl _ | apply Drawn0.step)⟩

/-! ### cmp_Compare_int: function 45 -/
def cmp_Compare_int.f (a0 : Int) (a1 : Int) : Option (Int) := (cmp_isNaN_int.f a0).bind fun t191 => ((cmp_isNaN_int.f a1).bind fun t192 => (if t191 = true then (if t192 = true then (some 0) else (some (-1))) else (if t192 = true then (some 1) else (if a0 < a1 then (some (-1)) else (if a0 > a1 then (some 1) else (some 0))))))
set_option maxHeartbeats 8000000 in
set_option maxRecDepth 100000 in
theorem cmp_Compare_int.calls (a0 : Int) (a1 : Int) (r : Int) (w : World) (h : cmp_Compare_int.f a0 a1 = some r) :
    Calls Try.prog 45 #[.int .i64 a0, .int .i64 a1] w fun e w' => e = .returned (.int .i64 r) ∧ Drawn0 w w' := by
  have H : ((cmp_isNaN_int.f a0).bind fun t191 => ((cmp_isNaN_int.f a1).bind fun t192 => (if t191 = true then (if t192 = true then (some 0) else (some (-1))) else (if t192 = true then (some 1) else (if a0 < a1 then (some (-1)) else (if a0 > a1 then (some 1) else (some 0))))))) = some r := h
  clear h
  replace H := Option.bind_eq_some_iff.mp H
  obtain ⟨t191, A30, H⟩ := H
  replace H : ((cmp_isNaN_int.f a1).bind fun t192 => (if t191 = true then (if t192 = true then (some 0) else (some (-1))) else (if t192 = true then (some 1) else (if a0 < a1 then (some (-1)) else (if a0 > a1 then (some 1) else (some 0)))))) = some r := H
  have A3 := Aside0.mk A30
  clear A30
  replace H := Option.bind_eq_some_iff.mp H
  obtain ⟨t192, A40, H⟩ := H
  replace H : (if t191 = true then (if t192 = true then (some 0) else (some (-1))) else (if t192 = true then (some 1) else (if a0 < a1 then (some (-1)) else (if a0 > a1 then (some 1) else (some 0))))) = some r := H
  have A4 := Aside0.mk A40
  clear A40
  by_cases c5 : t191 = true
  · subst c5
    have H1 : (if t192 = true then (some 0) else (some (-1))) = some r := by rw [if_pos rfl] at H; exact H
    clear H
    have H := H1
    clear H1
    by_cases c6 : t192 = true
    · subst c6
      have H1 : (some 0) = some r := by rw [if_pos rfl] at H; exact H
      clear H
      have H := H1
      clear H1
      obtain rfl := Option.some.inj H
      go_enter Try.func45, Try.ntmps45
      go_wp2_with (first | ((with_reducible refine gate_callee (f := 51) rfl ?_); refine goesL_ (some 8) rfl rfl Try.func51 (by kernel_rfl) rfl #[.int .i64 a0] rfl (by (try simp only [List.map_toArray, List.map_cons, List.map_nil]); first | done | rfl | (simp only [List.length_drop, List.length_take]; rfl)) ?_; (with_reducible refine (cmp_isNaN_int.calls a0 true _ A3.out).mono ?_); rintro e w' ⟨rfl, ⟨nd, rfl⟩⟩; refine ⟨_, rfl, ?_⟩) | ((with_reducible refine gate_callee (f := 51) rfl ?_); refine goesL_ (some 10) rfl rfl Try.func51 (by kernel_rfl) rfl #[.int .i64 a1] rfl (by (try simp only [List.map_toArray, List.map_cons, List.map_nil]); first | done | rfl | (simp only [List.length_drop, List.length_take]; rfl)) ?_; (with_reducible refine (cmp_isNaN_int.calls a1 true _ A4.out).mono ?_); rintro e w' ⟨rfl, ⟨nd, rfl⟩⟩; refine ⟨_, rfl, ?_⟩))
      go_ret
      exact ⟨by first | rfl | (simp; done) | (simp [*]; done) | (simp [wrap64]; done), by repeat (first | exact Drawn0.refl _ | apply Drawn0.step)⟩
    · replace c6 := Bool.eq_false_iff.mpr c6
      subst c6
      have H1 : (some (-1)) = some r := by rw [if_neg (show ¬ (false = true) by decide)] at H; exact H
      clear H
      have H := H1
      clear H1
      obtain rfl := Option.some.inj H
      go_enter Try.func45, Try.ntmps45
      go_wp2_with (first | ((with_reducible refine gate_callee (f := 51) rfl ?_); refine goesL_ (some 8) rfl rfl Try.func51 (by kernel_rfl) rfl #[.int .i64 a0] rfl (by (try simp only [List.map_toArray, List.map_cons, List.map_nil]); first | done | rfl | (simp only [List.length_drop, List.length_take]; rfl)) ?_; (with_reducible refine (cmp_isNaN_int.calls a0 true _ A3.out).mono ?_); rintro e w' ⟨rfl, ⟨nd, rfl⟩⟩; refine ⟨_, rfl, ?_⟩) | ((with_reducible refine gate_callee (f := 51) rfl ?_); refine goesL_ (some 10) rfl rfl Try.func51 (by kernel_rfl) rfl #[.int .i64 a1] rfl (by (try simp only [List.map_toArray, List.map_cons, List.map_nil]); first | done | rfl | (simp only [List.length_drop, List.length_take]; rfl)) ?_; (with_reducible refine (cmp_isNaN_int.calls a1 false _ A4.out).mono ?_); rintro e w' ⟨rfl, ⟨nd, rfl⟩⟩; refine ⟨_, rfl, ?_⟩))
      go_ret
      exact ⟨by first | rfl | (simp; done) | (simp [*]; done) | (simp [wrap64]; done), by repeat (first | exact Drawn0.refl _ | apply Drawn0.step)⟩
  · replace c5 := Bool.eq_false_iff.mpr c5
    subst c5
    have H1 : (if t192 = true then (some 1) else (if a0 < a1 then (some (-1)) else (if a0 > a1 then (some 1) else (some 0)))) = some r := by rw [if_neg (show ¬ (false = true) by decide)] at H; exact H
    clear H
    have H := H1
    clear H1
    by_cases c7 : t192 = true
    · subst c7
      have H1 : (some 1) = some r := by rw [if_pos rfl] at H; exact H
      clear H
      have H := H1
      clear H1
      obtain rfl := Option.some.inj H
      go_enter Try.func45, Try.ntmps45
      go_wp2_with (first | ((with_reducible refine gate_callee (f := 51) rfl ?_); refine goesL_ (some 8) rfl rfl Try.func51 (by kernel_rfl) rfl #[.int .i64 a0] rfl (by (try simp only [List.map_toArray, List.map_cons, List.map_nil]); first | done | rfl | (simp only [List.length_drop, List.length_take]; rfl)) ?_; (with_reducible refine (cmp_isNaN_int.calls a0 false _ A3.out).mono ?_); rintro e w' ⟨rfl, ⟨nd, rfl⟩⟩; refine ⟨_, rfl, ?_⟩) | ((with_reducible refine gate_callee (f := 51) rfl ?_); refine goesL_ (some 10) rfl rfl Try.func51 (by kernel_rfl) rfl #[.int .i64 a1] rfl (by (try simp only [List.map_toArray, List.map_cons, List.map_nil]); first | done | rfl | (simp only [List.length_drop, List.length_take]; rfl)) ?_; (with_reducible refine (cmp_isNaN_int.calls a1 true _ A4.out).mono ?_); rintro e w' ⟨rfl, ⟨nd, rfl⟩⟩; refine ⟨_, rfl, ?_⟩))
      go_ret
      exact ⟨by first | rfl | (simp; done) | (simp [*]; done) | (simp [wrap64]; done), by repeat (first | exact Drawn0.refl _ | apply Drawn0.step)⟩
    · replace c7 := Bool.eq_false_iff.mpr c7
      subst c7
      have H1 : (if a0 < a1 then (some (-1)) else (if a0 > a1 then (some 1) else (some 0))) = some r := by rw [if_neg (show ¬ (false = true) by decide)] at H; exact H
      clear H
      have H := H1
      clear H1
      by_cases c8 : a0 < a1
      · rw [if_pos c8] at H
        have c8b0 : decide (a0 < a1) = true := decide_eq_true c8
        clear c8
        obtain rfl := Option.some.inj H
        go_enter Try.func45, Try.ntmps45
        go_wp2_with (first | ((with_reducible refine gate_callee (f := 51) rfl ?_); refine goesL_ (some 8) rfl rfl Try.func51 (by kernel_rfl) rfl #[.int .i64 a0] rfl (by (try simp only [List.map_toArray, List.map_cons, List.map_nil]); first | done | rfl | (simp only [List.length_drop, List.length_take]; rfl)) ?_; (with_reducible refine (cmp_isNaN_int.calls a0 false _ A3.out).mono ?_); rintro e w' ⟨rfl, ⟨nd, rfl⟩⟩; refine ⟨_, rfl, ?_⟩) | ((with_reducible refine gate_callee (f := 51) rfl ?_); refine goesL_ (some 10) rfl rfl Try.func51 (by kernel_rfl) rfl #[.int .i64 a1] rfl (by (try simp only [List.map_toArray, List.map_cons, List.map_nil]); first | done | rfl | (simp only [List.length_drop, List.length_take]; rfl)) ?_; (with_reducible refine (cmp_isNaN_int.calls a1 false _ A4.out).mono ?_); rintro e w' ⟨rfl, ⟨nd, rfl⟩⟩; refine ⟨_, rfl, ?_⟩))
        go_ret
        exact ⟨by first | rfl | (simp; done) | (simp [*]; done) | (simp [wrap64]; done), by repeat (first | exact Drawn0.refl _ | apply Drawn0.step)⟩
      · rw [if_neg c8] at H
        have c8b0 : decide (a0 < a1) = false := decide_eq_false c8
        clear c8
        by_cases c9 : a0 > a1
        · rw [if_pos c9] at H
          have c9b0 : decide (a1 < a0) = true := decide_eq_true c9
          clear c9
          obtain rfl := Option.some.inj H
          go_enter Try.func45, Try.ntmps45
          go_wp2_with (first | ((with_reducible refine gate_callee (f := 51) rfl ?_); refine goesL_ (some 8) rfl rfl Try.func51 (by kernel_rfl) rfl #[.int .i64 a0] rfl (by (try simp only [List.map_toArray, List.map_cons, List.map_nil]); first | done | rfl | (simp only [List.length_drop, List.length_take]; rfl)) ?_; (with_reducible refine (cmp_isNaN_int.calls a0 false _ A3.out).mono ?_); rintro e w' ⟨rfl, ⟨nd, rfl⟩⟩; refine ⟨_, rfl, ?_⟩) | ((with_reducible refine gate_callee (f := 51) rfl ?_); refine goesL_ (some 10) rfl rfl Try.func51 (by kernel_rfl) rfl #[.int .i64 a1] rfl (by (try simp only [List.map_toArray, List.map_cons, List.map_nil]); first | done | rfl | (simp only [List.length_drop, List.length_take]; rfl)) ?_; (with_reducible refine (cmp_isNaN_int.calls a1 false _ A4.out).mono ?_); rintro e w' ⟨rfl, ⟨nd, rfl⟩⟩; refine ⟨_, rfl, ?_⟩))
          go_ret
          exact ⟨by first | rfl | (simp; done) | (simp [*]; done) | (simp [wrap64]; done), by repeat (first | exact Drawn0.refl _ | apply Drawn0.step)⟩
        · rw [if_neg c9] at H
          have c9b0 : decide (a1 < a0) = false := decide_eq_false c9
          clear c9
          obtain rfl := Option.some.inj H
          go_enter Try.func45, Try.ntmps45
          go_wp2_with (first | ((with_reducible refine gate_callee (f := 51) rfl ?_); refine goesL_ (some 8) rfl rfl Try.func51 (by kernel_rfl) rfl #[.int .i64 a0] rfl (by (try simp only [List.map_toArray, List.map_cons, List.map_nil]); first | done | rfl | (simp only [List.length_drop, List.length_take]; rfl)) ?_; (with_reducible refine (cmp_isNaN_int.calls a0 false _ A3.out).mono ?_); rintro e w' ⟨rfl, ⟨nd, rfl⟩⟩; refine ⟨_, rfl, ?_⟩) | ((with_reducible refine gate_callee (f := 51) rfl ?_); refine goesL_ (some 10) rfl rfl Try.func51 (by kernel_rfl) rfl #[.int .i64 a1] rfl (by (try simp only [List.map_toArray, List.map_cons, List.map_nil]); first | done | rfl | (simp only [List.length_drop, List.length_take]; rfl)) ?_; (with_reducible refine (cmp_isNaN_int.calls a1 false _ A4.out).mono ?_); rintro e w' ⟨rfl, ⟨nd, rfl⟩⟩; refine ⟨_, rfl, ?_⟩))
          go_ret
          exact ⟨by first | rfl | (simp; done) | (simp [*]; done) | (simp [wrap64]; done), by repeat (first | exact Drawn0.refl _ | apply Drawn0.step)⟩

-- NOT PRINTED: function 44 (impl_Earliest_1)

/-! ### impl_Earliest_1_c: function 44 -/
def impl_Earliest_1_c.f (a0 : Int) (a1 : Int) (l2 : List (List (S31))) : Option (Int) := if 0 < (l2.length : Int) then (if 0 ≤ a0 then (if a0 < ((rd_L4 l2 0).length : Int) then (if 0 ≤ a1 then (if a1 < ((rd_L4 l2 0).length : Int) then ((cmp_Compare_int.f ((rd_T31 (rd_L4 l2 0) a0).f3) ((rd_T31 (rd_L4 l2 0) a1).f3)).bind fun t196 => (some t196)) else (none)) else (none)) else (none)) else (none)) else (none)
set_option maxHeartbeats 8000000 in
set_option maxRecDepth 100000 in
theorem impl_Earliest_1_c.calls (a0 : Int) (a1 : Int) (A2 : Option Addr) (c2 : Nat) (l2 : List (List (S31))) (r : Int) (w : World) (hr2 : Kd.C (Kd.slice 31 k31) w A2 l2.length l2) (hc2 : l2.length ≤ c2) (h : impl_Earliest_1_c.f a0 a1 l2 = some r) :
    Calls Try.prog 44 #[.int .i64 a0, .int .i64 a1, .pointer A2] w fun e w' => e = .returned (.int .i64 r) ∧ Drawn0 w w' := by
  have HR2 := Aside0.mk hr2
  have HC2 := Aside0.mk hc2
  clear hr2 hc2
  have H : (if 0 < (l2.length : Int) then (if 0 ≤ a0 then (if a0 < ((rd_L4 l2 0).length : Int) then (if 0 ≤ a1 then (if a1 < ((rd_L4 l2 0).length : Int) then ((cmp_Compare_int.f ((rd_T31 (rd_L4 l2 0) a0).f3) ((rd_T31 (rd_L4 l2 0) a1).f3)).bind fun t196 => (some t196)) else (none)) else (none)) else (none)) else (none)) else (none)) = some r := h
  clear h
  by_cases c4 : 0 < (l2.length : Int)
  · rw [if_pos c4] at H
    have c4b0 : decide (0 < (l2.length : Int)) = true := decide_eq_true c4
    have c4b1 : decide (0 < l2.length) = true := decide_eq_true (by omega)
    clear c4
    by_cases c5 : 0 ≤ a0
    · rw [if_pos c5] at H
      have c5b0 : decide (0 ≤ a0) = true := decide_eq_true c5
      clear c5
      by_cases c6 : a0 < ((rd_L4 l2 0).length : Int)
      · rw [if_pos c6] at H
        have c6b0 : decide (a0 < ((rd_L4 l2 0).length : Int)) = true := decide_eq_true c6
        clear c6
        by_cases c7 : 0 ≤ a1
        · rw [if_pos c7] at H
          have c7b0 : decide (0 ≤ a1) = true := decide_eq_true c7
          clear c7
          by_cases c8 : a1 < ((rd_L4 l2 0).length : Int)
          · rw [if_pos c8] at H
            have c8b0 : decide (a1 < ((rd_L4 l2 0).length : Int)) = true := decide_eq_true c8
            clear c8
            replace H := Option.bind_eq_some_iff.mp H
            obtain ⟨t196, A90, H⟩ := H
            replace H : (some t196) = some r := H
            have A9 := Aside0.mk A90
            clear A90
            obtain rfl := Option.some.inj H
            have p193 : 0 ≤ (0 : Int) := (by omega)
            have q193 : 0 < (l2.length : Int) := of_decide_eq_true (by first | (with_reducible assumption) | assumption)
            obtain ⟨ad193, A193_0, c193_0, e193, hx193_0, hl193_0, hi193_0⟩ := at_L4 HR2.out 0 p193 q193
            cases e193
            have qi193 : (0 < l2.length) = True := eq_true (by omega)
            (try rw [show ((0 : Int)).toNat = 0 from rfl] at hx193_0)
            (try rw [Addr.add_zero'] at hx193_0)
            have HR193_0 := Aside0.mk hi193_0
            have HC193_0 := Aside0.mk hl193_0
            clear hi193_0 hl193_0
            replace p193 := eq_true p193
            replace q193 := eq_true q193
            have p194 : 0 ≤ (a0 : Int) := of_decide_eq_true (by first | (with_reducible assumption) | assumption)
            have q194 : a0 < ((rd_L4 l2 0).length : Int) := of_decide_eq_true (by first | (with_reducible assumption) | assumption)
            obtain ⟨ad194, e194, hx194_0, hx194_1, hx194_2, hx194_3, hx194_4, hx194_5⟩ := at_T31 HR193_0.out a0 p194 q194
            cases e194
            replace p194 := eq_true p194
            replace q194 := eq_true q194
            have p195 : 0 ≤ (a1 : Int) := of_decide_eq_true (by first | (with_reducible assumption) | assumption)
            have q195 : a1 < ((rd_L4 l2 0).length : Int) := of_decide_eq_true (by first | (with_reducible assumption) | assumption)
            obtain ⟨ad195, e195, hx195_0, hx195_1, hx195_2, hx195_3, hx195_4, hx195_5⟩ := at_T31 HR193_0.out a1 p195 q195
            obtain rfl : ad194 = ad195 := (by injection e195)
            replace p195 := eq_true p195
            replace q195 := eq_true q195
            go_enter Try.func44, Try.ntmps44
            go_wp2_with (first | (go_at_call 45; (with_reducible refine (cmp_Compare_int.calls ((rd_T31 (rd_L4 l2 0) a0).f3) ((rd_T31 (rd_L4 l2 0) a1).f3) t196 _ A9.out).mono ?_); rintro e w' ⟨rfl, ⟨nd, rfl⟩⟩; (try first | exact ⟨rfl, _, World.drewN_drewN _ _ _⟩ | exact ⟨rfl, _, Eq.trans (World.drewN_drewN _ _ _) (congrArg (World.drewN _) (Nat.add_assoc _ _ _))⟩)))
            repeat (go_quiet (first | (go_at_call 45; (with_reducible refine (cmp_Compare_int.calls ((rd_T31 (rd_L4 l2 0) a0).f3) ((rd_T31 (rd_L4 l2 0) a1).f3) t196 _ A9.out).mono ?_); rintro e w' ⟨rfl, ⟨nd, rfl⟩⟩; (try first | exact ⟨rfl, _, World.drewN_drewN _ _ _⟩ | exact ⟨rfl, _, Eq.trans (World.drewN_drewN _ _ _) (congrArg (World.drewN _) (Nat.add_assoc _ _ _))⟩))); try go_wp2_with (first | (go_at_call 45; (with_reducible refine (cmp_Compare_int.calls ((rd_T31 (rd_L4 l2 0) a0).f3) ((rd_T31 (rd_L4 l2 0) a1).f3) t196 _ A9.out).mono ?_); rintro e w' ⟨rfl, ⟨nd, rfl⟩⟩; (try first | exact ⟨rfl, _, World.drewN_drewN _ _ _⟩ | exact ⟨rfl, _, Eq.trans (World.drewN_drewN _ _ _) (congrArg (World.drewN _) (Nat.add_assoc _ _ _))⟩))))
            go_ret
            exact ⟨by first | rfl | (simp; done) | (simp [*]; done) | (simp [wrap64]; done), by repeat (first | exact Drawn0.refl _ | apply Drawn0.step)⟩
          · rw [if_neg c8] at H
            exact absurd H (by simp)
        · rw [if_neg c7] at H
          exact absurd H (by simp)
      · rw [if_neg c6] at H
        exact absurd H (by simp)
    · rw [if_neg c5] at H
      exact absurd H (by simp)
  · rw [if_neg c4] at H
    exact absurd H (by simp)

/-! ### slices_SortFunc_int_int_at_impl_Earliest_1: function 43 (slices.SortFunc by the library's own contract), at the closure 44 -/
open Go.Shelf in
shelf_lay_g SlLaysF.n6 Slsf 6 at Try 43 as sortLay
def sortKey (l2 : List (List (S31))) (x : Int) : Int := (rd_T31 (rd_L4 l2 0) x).f3
def sortCf (m : Nat) (l2 : List (List (S31))) (x y : Fin (m + 1)) : Int := Go.Lib.compareInt (sortKey l2 (x.val : Int)) (sortKey l2 (y.val : Int))
def sortTo (m : Nat) (x : Int) : Fin (m + 1) := Fin.ofNat (m + 1) x.toNat
def sortEnc (m : Nat) (x : Fin (m + 1)) : Value := .int .i64 (x.val : Int)
def sortRun (m : Nat) (l0 : List Int) (l2 : List (List (S31))) : Array (Fin (m + 1)) := Go.Sort.pdq (Go.Proofs.ltOf (sortCf m l2)) (l0.map (sortTo m)).toArray 0 l0.length (Go.Lib.bitLen l0.length) true true
def slices_SortFunc_int_int_at_impl_Earliest_1.f (l0 : List Int)  (l2 : List (List (S31))) : Option (List Int) :=
  if l0 = [] then some [] else if 0 < l2.length ∧ (l0.length < 1000000000 ∧ (0 < (rd_L4 l2 0).length ∧ l0.all (fun x => decide (0 ≤ x) && decide (x < ((rd_L4 l2 0).length : Int))) = true)) then some ((sortRun ((rd_L4 l2 0).length - 1) l0 l2).toList.map fun x => (x.val : Int)) else none
theorem sort_swo (m : Nat) (l2 : List (List (S31))) : Go.Sort.SWO (Go.Proofs.ltOf (sortCf m l2)) := by
  have e : ∀ x y, Go.Proofs.ltOf (sortCf m l2) x y = decide (sortKey l2 (x.val : Int) < sortKey l2 (y.val : Int)) := by
    intro x y
    unfold Go.Proofs.ltOf sortCf Go.Lib.compareInt
    by_cases h1 : sortKey l2 (x.val : Int) < sortKey l2 (y.val : Int)
    · simp [h1]
    · by_cases h2 : sortKey l2 (x.val : Int) > sortKey l2 (y.val : Int) <;> simp [h1, h2]
  refine ⟨fun x => ?_, fun x y z h1 h2 => ?_, fun x y z h1 h2 => ?_⟩
  · rw [e]; simp
  · rw [e] at *; simp at *; omega
  · rw [e] at *; simp at *; omega
theorem sort_cmp (m : Nat) (l2 : List (List (S31))) (h0 : 0 < l2.length) (h1 : (rd_L4 l2 0).length = m + 1) (x y : Fin (m + 1)) : impl_Earliest_1_c.f (x.val : Int) (y.val : Int) l2 = some (sortCf m l2 x y) := by
  have hx := x.isLt
  have hy := y.isLt
  have hc : ∀ a b : Int, cmp_Compare_int.f a b = some (Go.Lib.compareInt a b) := by
    intro a b
    simp only [cmp_Compare_int.f, cmp_isNaN_int.f, Go.Lib.compareInt, Option.bind_some, bne_self_eq_false, Bool.false_eq_true, if_false, gt_iff_lt]
    by_cases c1 : a < b
    · rw [if_pos c1, if_pos c1]
    · rw [if_neg c1, if_neg c1]
      by_cases c2 : b < a
      · rw [if_pos c2, if_pos c2]
      · rw [if_neg c2, if_neg c2]
  unfold impl_Earliest_1_c.f
  rw [if_pos (by omega), if_pos (by omega), if_pos (by omega), if_pos (by omega), if_pos (by omega), hc, Option.bind_some]
  rfl
theorem sw_heap {α : Type} [Inhabited α] (enc : α → Value) (w : World) (blk off m : Nat) (dk : Array α) (os : Array Obj) (k : Nat) (hk : k < w.heap.size) :
    (Go.Proofs.sortWorld enc w blk off m dk os).heap[k]? = if blk = k then (w.heap[k]?).map (Go.Sort.onCells (Go.Sort.putCells enc off dk)) else w.heap[k]? := by
  show ((w.heap.modify blk _) ++ os)[k]? = _
  rw [Array.getElem?_append_left (by simpa using hk), Array.getElem?_modify]
theorem sw_size {α : Type} [Inhabited α] (enc : α → Value) (w : World) (blk off m : Nat) (dk : Array α) (os : Array Obj) : w.heap.size ≤ (Go.Proofs.sortWorld enc w blk off m dk os).heap.size := by
  show _ ≤ ((w.heap.modify blk _) ++ os).size
  rw [Array.size_append, Array.size_modify]; omega
theorem sw_kept {α : Type} [Inhabited α] (enc : α → Value) (w : World) (blk off m : Nat) (dk : Array α) (os : Array Obj) (P : Nat → Prop) (hP : P blk) : Kept w (Go.Proofs.sortWorld enc w blk off m dk os) P :=
  ⟨sw_size enc w blk off m dk os, fun i hi hn => by rw [sw_heap enc w blk off m dk os i hi, if_neg (fun e => hn (by rw [← e]; exact hP))]⟩
theorem sw_below {α : Type} [Inhabited α] (enc : α → Value) (w0 w : World) (blk off m : Nat) (dk : Array α) (os : Array Obj) (hB : Below w0.heap.size w0 w) (hb : w0.heap.size ≤ blk) : Below w0.heap.size w0 (Go.Proofs.sortWorld enc w blk off m dk os) :=
  ⟨hB.os, hB.tape, hB.output, Nat.le_trans hB.size (sw_size enc w blk off m dk os), fun k hk => by
    have := hB.size
    rw [sw_heap enc w blk off m dk os k (by omega), if_neg (by omega)]
    exact hB.block k hk⟩
theorem sort_list (m : Nat) (l0 : List Int) (h : ∀ x ∈ l0, 0 ≤ x ∧ x < ((m + 1 : Nat) : Int)) (j : Nat) (hj : j < l0.length) : (((l0.map (sortTo m)).toArray[j]!).val : Int) = l0[j] := by
  have hx := h _ (List.getElem_mem hj)
  rw [getElem!_pos (l0.map (sortTo m)).toArray j (by simpa using hj)]
  simp only [List.getElem_toArray, List.getElem_map, sortTo, Fin.ofNat]
  show ((l0[j].toNat % (m + 1) : Nat) : Int) = _
  rw [Nat.mod_eq_of_lt (by omega)]
  omega
theorem sort_row {m : Nat} {w : World} {base n cap g k : Nat} {ok : Nat → Prop} {l0 : List Int} (h : Kd.R (Kd.int .i64) 3 w base ok (.slice (some ⟨g, 0, none⟩) n cap) l0) (dk : Array (Fin (m + 1))) (os : Array Obj) (hs : dk.size = l0.length) (hg : g < w.heap.size) :
    Kd.R (Kd.int .i64) 3 (Go.Proofs.sortWorld (sortEnc m) w g 0 k dk os) base ok (.slice (some ⟨g, 0, none⟩) n cap) (dk.toList.map fun x => (x.val : Int)) := by
  obtain ⟨h0, inner, ho, hr⟩ := h
  obtain ⟨h1, h2⟩ := ho
  have hl : (dk.toList.map fun x => ((x.val : Nat) : Int)).length = l0.length := by simpa using hs
  rcases h2 with ⟨hv, _⟩ | ⟨g', cap', cur, hv, hb, hh, hn, hc, hz, ht⟩
  · cases hv
  · injection hv with e1 e2 e3
    injection e1 with e1
    injection e1 with e1 _ _
    subst e1; subst e3
    simp only [show (Kd.int IntKind.i64).sz = 1 from rfl, Nat.mul_one] at h1 hz ht
    refine ⟨h0, dk.toList.map (fun x => sortEnc m x), ⟨by simp only [show (Kd.int IntKind.i64).sz = 1 from rfl, Nat.mul_one, List.length_map], .inr ⟨g, cap, Go.Sort.putCells (sortEnc m) 0 dk cur, by rw [hl]; exact congrArg (fun z => Value.slice (some ⟨g, 0, none⟩) z cap) e2, hb, ?_, by rw [hl]; exact hn, hc, ?_, ?_⟩⟩, ⟨by simp only [show (Kd.int IntKind.i64).sz = 1 from rfl, Nat.mul_one, List.length_map], fun j p hj => ?_⟩⟩
    · rw [sw_heap _ _ _ _ _ _ _ _ hg, if_pos rfl, hh]; rfl
    · simp only [show (Kd.int IntKind.i64).sz = 1 from rfl, Nat.mul_one, Go.Sort.putCells, Array.size_mapIdx]; exact hz
    · have hlen : l0.length ≤ cur.size := by rw [hz]; exact hn
      simp only [show (Kd.int IntKind.i64).sz = 1 from rfl, Nat.mul_one]
      apply List.ext_getElem
      · simp [Go.Sort.putCells, hs]; omega
      · intro i hi1 hi2
        have hi : i < dk.size := by simpa using hi2
        simp only [List.getElem_take, List.getElem_map, Array.getElem_toList, Go.Sort.putCells, Array.getElem_mapIdx, Nat.sub_zero, Nat.zero_le, true_and, Nat.zero_add]
        rw [if_pos hi, getElem!_pos dk i hi]
    · have hj' : j < dk.size := by have := (List.getElem?_eq_some_iff.1 hj).1; simpa using this
      rw [List.getElem?_map, Array.getElem?_toList, Array.getElem?_eq_getElem hj'] at hj
      simp only [Option.map_some, Option.some.injEq] at hj
      subst hj
      show ((dk.toList.map (fun x => sortEnc m x)).drop (j * 1)).take 1 = [Value.int .i64 _]
      rw [Nat.mul_one, List.drop_eq_getElem_cons (by simpa using hj')]
      simp [sortEnc]
set_option maxHeartbeats 8000000 in
set_option maxRecDepth 100000 in
theorem slices_SortFunc_int_int_at_impl_Earliest_1.calls (P0_ : Nat → Prop) (u9000_ : Value) (l0 : List Int)  (A2 : Option Addr) (c2 : Nat) (l2 : List (List (S31))) (r : List Int) (w0 w : World) (hB : Below w0.heap.size w0 w) (ho0 : Kd.R (Kd.int .i64) 3 w w0.heap.size P0_ u9000_ l0) (hr2 : ∀ W_, Kept w W_ (fun k_ => P0_ k_) → Kd.C (Kd.slice 31 k31) W_ A2 l2.length l2) (hc2 : l2.length ≤ c2) (h : slices_SortFunc_int_int_at_impl_Earliest_1.f l0 l2 = some r) :
    Calls Try.prog 43 #[u9000_, .func (.func 44) #[] #[.pointer A2]] w fun e w' => e = .returned (.tuple #[]) ∧ Kd.R (Kd.int .i64) 3 w' w0.heap.size (fun k_ => (P0_ k_ ∨ w.heap.size ≤ k_)) u9000_ r ∧ Below w0.heap.size w0 w' ∧ Kept w w' (fun k_ => P0_ k_) := by
  unfold slices_SortFunc_int_int_at_impl_Earliest_1.f at h
  by_cases c : l0 = []
  · rw [if_pos c] at h
    injection h with h
    subst h
    subst c
    obtain ⟨A, cap, rfl⟩ := Kd.R_slice ho0
    have hcon := Go.Proofs.AnyF.slices_SortFunc_none (P := Try.prog) (ρ := sortLay_ren) { sortLay with } A cap (.func (.func 44) #[] #[.pointer A2]) w
    change Calls Try.prog 43 _ _ _ at hcon
    refine hcon.mono ?_
    rintro e w' ⟨rfl, rfl⟩
    exact ⟨rfl, Kd.R_mono ho0 (fun k hk => .inl hk), hB, Kept.refl _ _⟩
  · rw [if_neg c] at h
    split at h
    · rename_i hp
      injection h with h
      subst h
      obtain ⟨p0, p1, p2, p3⟩ := hp
      obtain ⟨m, hm⟩ : ∃ m, (rd_L4 l2 0).length = m + 1 := ⟨(rd_L4 l2 0).length - 1, by omega⟩
      rw [hm] at p3 ⊢
      rw [Nat.add_sub_cancel]
      have hall : ∀ x ∈ l0, 0 ≤ x ∧ x < ((m + 1 : Nat) : Int) := by
        intro x hx
        have := List.all_eq_true.1 p3 x hx
        simpa using this
      have hpos : 0 < l0.length := List.length_pos_iff.2 c
      obtain ⟨g, cap, hv, hb, hg, _⟩ := Kd.R_form ho0 hpos
      subst hv
      have hH : Go.Sort.Holds (sortEnc m) w g 0 (l0.map (sortTo m)).toArray := by
        intro j hj
        have hj' : j < l0.length := by simpa using hj
        obtain ⟨cs, hcl, hM, hcc, hfr⟩ := Kd.R_elem ho0 (0 : Int) (j : Int) (by omega) (by omega)
        have e : cs = [Value.int .i64 (l0.getD j 0)] := hM
        subst e
        have hc0 := hcc 0 _ rfl
        have hf0 := hfr 0
        rw [show (Kd.int .i64).sz = 1 from rfl, Nat.mul_one, Nat.add_zero, Int.toNat_natCast] at hc0 hf0
        rw [Nat.zero_add]
        refine ⟨?_, hf0⟩
        rw [hc0]
        unfold sortEnc
        rw [sort_list m l0 hall j hj', List.getD_eq_getElem?_getD, List.getElem?_eq_getElem hj']
        rfl
      have hPg : P0_ g := ho0.1 g (by simp [Value.ownBlock])
      have hcmp : Go.Proofs.CmpLays1 Try.prog 44 #[.pointer A2] (sortEnc m) (sortCf m l2) g 0 (l0.map (sortTo m)).toArray.size w := by
        intro k os dk _ x y
        refine (impl_Earliest_1_c.calls (x.val : Int) (y.val : Int) A2 c2 l2 (sortCf m l2 x y) _ (hr2 _ (sw_kept (sortEnc m) w g 0 k dk os _ hPg)) hc2 (sort_cmp m l2 p0 hm x y)).mono ?_
        rintro e w' ⟨rfl, nd, rfl⟩
        exact ⟨rfl, nd, #[], by rw [Go.Sort.grow_empty]⟩
      have eg : ∀ args w, (callFunc 44 args).run Try.prog w = .ok (.enter 44 args) w := Go.Proofs.enters_of Try.func44 (by kernel_rfl) rfl
      have hcon := Go.Proofs.Any.slices_SortFunc_eq sortLay (sortEnc m) (fun _ => rfl) (sortCf m l2) (sort_swo m l2) 44 #[.pointer A2] g 0 cap (l0.map (sortTo m)).toArray w eg hcmp hH hg (by simpa using (show l0.length < 4611686018427387904 by omega))
      change Calls Try.prog 43 _ _ _ at hcon
      have hsz : (l0.map (sortTo m)).toArray.size = l0.length := by simp
      rw [hsz] at hcon
      have hd : (sortRun m l0 l2).size = l0.length := by
        have := (Go.Sort.pdq_sorts (Go.Proofs.ltOf (sortCf m l2)) (sort_swo m l2) (l0.map (sortTo m)).toArray 0 l0.length (Go.Lib.bitLen l0.length) true true (Nat.zero_le _) (by rw [hsz]; exact Nat.le_refl _) (Or.inl rfl)).1.1
        rw [hsz] at this
        exact this
      refine hcon.mono ?_
      rintro e w' ⟨rfl, k, os, rfl⟩
      exact ⟨rfl, Kd.R_mono (sort_row ho0 (sortRun m l0 l2) os hd hg) (fun k hk => .inl hk), sw_below (sortEnc m) w0 w g 0 k _ os hB hb, sw_kept (sortEnc m) w g 0 k _ os _ hPg⟩
    · exact absurd h (by simp)

end Go.Proofs.Ytacekdgajpaomaa.PFnExactEarliest
