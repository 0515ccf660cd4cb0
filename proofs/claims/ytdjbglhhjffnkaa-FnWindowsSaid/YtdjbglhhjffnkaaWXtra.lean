/- Words of this work's own beside the print's: a make with a capacity; a call through a variable that holds a function. -/
import Derived.Test.YtdjbglhhjffnkaaWWords
import Derived.Test.YtdjbglhhjffnkaaWLast
import Derived.Test.YtdjbglhhjffnkaaWApart
import Derived.Test.YtdjbglhhjffnkaaWNEv
import Derived.Test.YtdjbglhhjffnkaaWMore
import Derived.Test.YtdjbglhhjffnkaaWTab
set_option linter.unusedVariables false
namespace Go.Proofs.YtdjbglhhjffnkaaW.PrintWords
open Go.RowKit
namespace Kd
section
variable {P : Program} {ops : Array Oper} {rest : List Oper} {o : Oper} {a : Act} {Q : Exit → Act → World → Prop} {α : Type} {md : Region.Mode} {Kc : Act → World → Prop}
/-- make([]T, 0, n): what the run gives. -/
theorem run_make0 {w : World} (base : Nat) (t e : TypeId) (size bytes : Nat) (z : Value) (n : Int) (hinfo : (P.info? e).map (fun i => (i.zero, i.size, i.bytes)) = some (some z, size, bytes))
    (ht : P.underlying t = some (.slice e)) (hb0 : 0 < bytes) (h0 : 0 ≤ n) (hl : n.toNat * bytes ≤ 281474976710656) (hbase : base ≤ w.heap.size) :
    (Instr.makeSlice t (.int .i64 0) (.int .i64 n)).run P w = .ok (.slice (some ⟨w.heap.size, 0, none⟩) 0 n.toNat) (w.alloc (.cells (madeCells z.cells (n.toNat * size)) e)) ∧
      (w.alloc (.cells (madeCells z.cells (n.toNat * size)) e)).ownsRow base e size (.slice (some ⟨w.heap.size, 0, none⟩) 0 n.toNat) 0 [] ∧ w.grownBy (w.alloc (.cells (madeCells z.cells (n.toNat * size)) e)) none := by
  obtain ⟨m, rfl⟩ := Int.eq_ofNat_of_zero_le h0
  simp only [Int.toNat_natCast] at hl ⊢
  obtain ⟨i0, hi, hzz⟩ := Option.map_eq_some_iff.1 hinfo
  simp only [Prod.mk.injEq] at hzz
  obtain ⟨hz0, hz1, hz2⟩ := hzz
  have hm : m ≤ 281474976710656 := Nat.le_trans (Nat.le_mul_of_pos_right _ hb0) hl
  have hr := run_make (P := P) w t e i0 z ht hi hz0 .i64 .i64 0 (m : Int) (Int.le_refl _) (by omega)
    (by
      have h3 : ((i0.bytes * m : Nat) : Int) ≤ 281474976710656 := by rw [hz2, Nat.mul_comm]; omega
      rwa [Int.natCast_mul] at h3) (by omega)
  simp only [Int.toNat_natCast, Int.toNat_zero] at hr
  rw [hz1] at hr
  exact ⟨hr, World.ownsRow_made w _ m hbase (by simp only [maxLen]; omega) (size_madeCells _ _), World.grownBy_alloc w _ none⟩
theorem R_of_made0 (d : Kd α) {W w1 : World} {base e cap g : Nat} {ok : Nat → Prop} (hown : w1.ownsRow base e d.sz (.slice (some ⟨g, 0, none⟩) 0 cap) 0 []) (hok : ok g) : d.R e w1 base ok (.slice (some ⟨g, 0, none⟩) 0 cap) [] := by
  refine ⟨fun k hk => ?_, [], hown, ⟨by simp, fun j p h => by simp at h⟩⟩
  have : g = k := by simpa [Value.ownBlock] using hk
  subst this
  exact hok
theorem R_make0 (d : Kd α) {w0 W : World} (base e : Nat) (hgd : o.guard = none) {N : Tmp} (hd : o.dst = some N) (t : TypeId) (x y : Operand) (ho : o.op = .makeSlice t x y) (n : Int) (hx : a.eval x = .int .i64 0) (hy : a.eval y = .int .i64 n)
    (ht : P.underlying t = some (.slice e)) (z : Value) (bytes : Nat) (hinfo : (P.info? e).map (fun i => (i.zero, i.size, i.bytes)) = some (some z, d.sz, bytes)) (hz : z.cells.size = d.sz) (hs0 : 0 < d.sz) (hb0 : 0 < bytes)
    (z0 : α) {ok okp : Nat → Prop} (hzero : d.M W base okp z0 z.cells.toList) (hok : ∀ k, okp k → ok k) (hfresh : ok W.heap.size) (h0 : 0 ≤ n) (hl : n.toNat * bytes ≤ 281474976710656) (HB : Below base w0 W) (hbase : base ≤ W.heap.size)
    (h : ∀ v1 w1, d.R e w1 base ok v1 [] → Below base w0 w1 → W.grownBy w1 none → (∃ b, v1.ownBlock = some b ∧ W.heap.size ≤ b) → wpList P ops Q rest (a.put o.dst v1) w1) : wpList P ops Q (o :: rest) a W := by
  obtain ⟨hr, hown, hg⟩ := run_make0 (P := P) base t e d.sz bytes z n hinfo ht hb0 h0 hl hbase
  refine event_run hgd (v := .slice (some ⟨W.heap.size, 0, none⟩) 0 n.toNat) (w1 := W.alloc (.cells (madeCells z.cells (n.toNat * d.sz)) e)) ?_ (h _ _ (R_of_made0 (W := W) d hown hfresh) (HB.alloc hbase _) hg ⟨W.heap.size, by simp [Value.ownBlock], Nat.le_refl _⟩)
  simp [execOp, ho, hx, hy, hr]
theorem S_make0 (d : Kd α) {w0 W : World} (base e : Nat) (hgd : o.guard = none) {N : Tmp} (hd : o.dst = some N) (t : TypeId) (x y : Operand) (ho : o.op = .makeSlice t x y) (n : Int) (hx : a.eval x = .int .i64 0) (hy : a.eval y = .int .i64 n)
    (ht : P.underlying t = some (.slice e)) (z : Value) (bytes : Nat) (hinfo : (P.info? e).map (fun i => (i.zero, i.size, i.bytes)) = some (some z, d.sz, bytes)) (hz : z.cells.size = d.sz) (hs0 : 0 < d.sz) (hb0 : 0 < bytes)
    (z0 : α) {ok okp : Nat → Prop} (hzero : d.M W base (fun _ => False) z0 z.cells.toList) (_hok : ∀ k, okp k → ok k) (hfresh : ok W.heap.size) (h0 : 0 ≤ n) (hl : n.toNat * bytes ≤ 281474976710656) (HB : Below base w0 W) (hbase : base ≤ W.heap.size)
    (h : ∀ v1 w1, S d e w1 base ok v1 [] → Below base w0 w1 → W.grownBy w1 none → (∃ b, v1.ownBlock = some b ∧ W.heap.size ≤ b) → wpList P ops Q rest (a.put o.dst v1) w1) : wpList P ops Q (o :: rest) a W :=
  R_make0 (bare d) base e hgd hd t x y ho n hx hy ht z bytes hinfo hz hs0 hb0 z0 (ok := ok) (okp := ok) hzero (fun _ hk => hk) hfresh h0 hl HB hbase (fun v1 w1 hr => h v1 w1 (S_bare hr))
theorem N_make0 (d : Kd α) {w0 W : World} (base e : Nat) (hgd : o.guard = none) {N' : Tmp} (hd : o.dst = some N') (t : TypeId) (x y : Operand) (ho : o.op = .makeSlice t x y) (n : Int) (hx : a.eval x = .int .i64 0) (hy : a.eval y = .int .i64 n)
    (ht : P.underlying t = some (.slice e)) (z : Value) (bytes : Nat) (hinfo : (P.info? e).map (fun i => (i.zero, i.size, i.bytes)) = some (some z, d.sz, bytes)) (hz : z.cells.size = d.sz) (hs0 : 0 < d.sz) (hb0 : 0 < bytes)
    (z0 : α) {ok okp : Nat → Prop} (hzero : FK d W okp z0 z.cells.toList) (hok : ∀ k, okp k → ok k) (hfresh : ok W.heap.size) (h0 : 0 ≤ n) (hl : n.toNat * bytes ≤ 281474976710656) (HB : Below base w0 W) (hbase : base ≤ W.heap.size)
    (h : ∀ v1 w1, N d e w1 base ok v1 [] → Below base w0 w1 → W.grownBy w1 none → (∃ b, v1.ownBlock = some b ∧ W.heap.size ≤ b) → wpList P ops Q rest (a.put o.dst v1) w1) :
    wpList P ops Q (o :: rest) a W := by
  refine R_make0 (raw d.sz) base e hgd hd t x y ho n hx hy ht z bytes hinfo hz hs0 hb0 z.cells.toList (ok := fun k => k = W.heap.size) (okp := fun _ => False) (FK_raw hzero) (fun _ hk => hk.elim) rfl h0 hl HB hbase ?_
  intro v1 w1 hr hb hg hat
  exact h v1 w1 (N_made (xs := []) hr hg hat rfl (fun j y c hy hc => by simp at hy) hok hfresh) hb hg hat
end
/-- A variable in memory, told as a row of one element. -/
theorem C_one {α : Type} {d : Kd α} {W : World} {g t : Nat} {cs : Array Value} {x : α} (hb : W.heap[g]? = some (.cells cs t (0, 0))) (hk : d.K W x cs.toList) (hs : cs.size = d.sz) : d.C W (some ⟨g, 0, none⟩) 1 [x] :=
  ⟨rfl, by omega, fun _ => ⟨_, rfl, fun j p hj => by
    cases j with
    | succ j => simp at hj
    | zero =>
      simp only [List.getElem?_cons_zero, Option.some.injEq] at hj
      subst hj
      refine ⟨cs.toList, by rw [Array.length_toList, hs], hk, fun i u hu => ?_⟩
      rw [Nat.zero_mul, Nat.zero_add, add_plain, blk_cell hb, ← Array.getElem?_toList]
      exact hu⟩⟩
end Kd
section
variable {P : Program} {ops : Array Oper} {rest : List Oper} {o : Oper} {a : Act} {Q : Exit → Act → World → Prop} {W : World}
/-- The operation is a call through the variable n. -/
theorem gate_calleev {n : Tmp} {as : Array Operand} {ts : Array TypeId} (_ho : o.op = .call { callee := .value (.tmp n), args := as, argTypes := ts }) (h : wpList P ops Q (o :: rest) a W) : wpList P ops Q (o :: rest) a W := h
end
end Go.Proofs.YtdjbglhhjffnkaaW.PrintWords
namespace Go.Proofs.YtdjbglhhjffnkaaW.PrintLast
open Go.RowKit
section
variable {P : Program} {md : Region.Mode} {ops : Array Oper} {Q : Exit → Act → World → Prop}
/-- A call through a variable that holds the function f, nothing captured, in a plain region. -/
theorem goesL_v {rest : List Oper} {oi : Oper} {a : Act} {w : World} {co : Operand} {f : FuncId} (hv : a.eval co = .func (.func f) #[] #[]) (N : Option Tmp) (hd : oi.dst = N) (hg : oi.guard = none) {fn : Func} {as : Array Operand} {ts : Array TypeId} (hf : P.funcs[f]? = some fn) (hname : (fn.name == "runtime.NumGoroutine") = false) (hb : fn.body.isSome = true) (args : Array Value)
    (hop : oi.op = .call { callee := .value co, args := as, argTypes := ts }) (hargs : as.map a.eval = args)
    (h : Calls P f args w fun e w' => ∃ v, e = .returned v ∧ wpList P ops Q rest (a.put N v) w') : wpList P ops Q (oi :: rest) a w := by
  refine wpList_plain hg fun K hK => ?_
  have he := enters_ hf hname hb args w
  have hrun : (execOp a.eval oi).run P w = .ok (.enter f args) w := by
    unfold execOp
    simp [hop, resolve, Deferred.ofValue, invoke, hv, hargs, he]
  unfold Oper.wp
  rw [hrun, Oper.upon_enter]
  refine h.mono fun e w'' hh => ?_
  obtain ⟨v, rfl, hk⟩ := hh
  subst hd
  exact hK _ _ hk
/-- A call through a variable that holds the function f, nothing captured, in a region that draws. -/
theorem goes_v {oi : Oper} {N : Option Tmp} {a : Act} {w : World} {K : Act → World → Prop} {co : Operand} {f : FuncId} (hv : a.eval co = .func (.func f) #[] #[]) {fn : Func} {as : Array Operand} {ts : Array TypeId} (hf : P.funcs[f]? = some fn) (hname : (fn.name == "runtime.NumGoroutine") = false) (hb : fn.body.isSome = true) (args : Array Value)
    (hw : Region.wanted oi (yielded ops a.tmps) = true) (hN : oi.dst = N) (hop : oi.op = .call { callee := .value co, args := as, argTypes := ts }) (hargs : as.map a.eval = args)
    (h : Calls P f args w fun e w' => ∃ v, e = .returned v ∧ K (a.put N v) w') : if Region.wanted oi (yielded ops a.tmps) = true then Oper.wp P oi a w K Q else K (a.put N undef) w := by
  refine call_ f args hw hN ?_ h
  have he := enters_ hf hname hb args w
  unfold execOp
  simp [hop, resolve, Deferred.ofValue, invoke, hv, hargs, he]
/-- In a region that draws, where the function value captured. -/
theorem goes_vc {oi : Oper} {N : Option Tmp} {a : Act} {w : World} {K : Act → World → Prop} {co : Operand} {f : FuncId} {lb : Array Value} (hv : a.eval co = .func (.func f) #[] lb) {fn : Func} {as : Array Operand} {ts : Array TypeId} (hf : P.funcs[f]? = some fn) (hname : (fn.name == "runtime.NumGoroutine") = false) (hb : fn.body.isSome = true) (args : Array Value)
    (hw : Region.wanted oi (yielded ops a.tmps) = true) (hN : oi.dst = N) (hop : oi.op = .call { callee := .value co, args := as, argTypes := ts }) (hargs : as.map a.eval ++ lb = args)
    (h : Calls P f args w fun e w' => ∃ v, e = .returned v ∧ K (a.put N v) w') : if Region.wanted oi (yielded ops a.tmps) = true then Oper.wp P oi a w K Q else K (a.put N undef) w := by
  refine call_ f args hw hN ?_ h
  have he := enters_ hf hname hb args w
  unfold execOp
  simp [hop, resolve, Deferred.ofValue, invoke, hv, hargs, he]
/-- The same where the function value captured: what it captured comes behind the arguments. -/
theorem goesL_vc {rest : List Oper} {oi : Oper} {a : Act} {w : World} {co : Operand} {f : FuncId} {lb : Array Value} (hv : a.eval co = .func (.func f) #[] lb) (N : Option Tmp) (hd : oi.dst = N) (hg : oi.guard = none) {fn : Func} {as : Array Operand} {ts : Array TypeId} (hf : P.funcs[f]? = some fn) (hname : (fn.name == "runtime.NumGoroutine") = false) (hb : fn.body.isSome = true) (args : Array Value)
    (hop : oi.op = .call { callee := .value co, args := as, argTypes := ts }) (hargs : as.map a.eval ++ lb = args)
    (h : Calls P f args w fun e w' => ∃ v, e = .returned v ∧ wpList P ops Q rest (a.put N v) w') : wpList P ops Q (oi :: rest) a w := by
  refine wpList_plain hg fun K hK => ?_
  have he := enters_ hf hname hb args w
  have hrun : (execOp a.eval oi).run P w = .ok (.enter f args) w := by
    unfold execOp
    simp [hop, resolve, Deferred.ofValue, invoke, hv, hargs, he]
  unfold Oper.wp
  rw [hrun, Oper.upon_enter]
  refine h.mono fun e w'' hh => ?_
  obtain ⟨v, rfl, hk⟩ := hh
  subst hd
  exact hK _ _ hk
end
end Go.Proofs.YtdjbglhhjffnkaaW.PrintLast
namespace Go.Proofs.YtdjbglhhjffnkaaW.PrintWords
open Go.RowKit
/-! ### short words for what the printed texts say often -/
theorem first_cell_ {W w1 : World} {A : Option Addr} {n c : Nat} {a : Addr} {v : Value} (hg : W.grownBy w1 (Value.slice none n c).ownBlock) (h : W.cell? a = some v) : w1.cell? a = some v := by
  have := hg.block a.block (World.block_lt_of_cell? W a h) (by simp [Value.ownBlock])
  simpa [World.cell?, this] using h
theorem own_len_ (A : Option Addr) (n m c : Nat) : (Value.slice A n c).ownBlock = (Value.slice A m c).ownBlock := by cases A <;> rfl
def bsL : Nat → Nat → List Bool
  | 0, _ => []
  | n + 1, m => (m % 2 == 1) :: bsL n (m / 2)
/-- n Bools, told by a number. -/
def bs (n m : Nat) : Array Bool := ⟨bsL n m⟩
theorem sA_ {α : Type} (l : List α) (i : Nat) (a : α) : l.toArray.setIfInBounds i a = (l.set i a).toArray := List.setIfInBounds_toArray l i a
theorem sZ_ {α : Type} (a b : α) (l : List α) : (a :: l).set 0 b = b :: l := rfl
theorem sS_ {α : Type} (a b : α) (l : List α) (n : Nat) : (a :: l).set (n + 1) b = a :: l.set n b := rfl
theorem fb_ {a p : Prop} (h : a) (k : a → p := by intro h_; (with_reducible repeat (first | refine blk_drewN ?_ _ | refine blk_drew ?_ | refine blk_alloc ?_ _)); exact h_) : p := k h
theorem fr_ {a p : Prop} (h : a) (k : a → p := by intro h_; (with_reducible repeat (first | apply Kd.R_alloc | apply Kd.R_drewN | apply Kd.R_drew)); exact h_) : p := k h
theorem bel_ {a p : Prop} (h : a) (k : a → p := by intro h_; repeat (first | (with_reducible first | exact h_ | apply below_alloc | apply pw_below_drewN | apply below_drew1 | refine below_set ?_ (Aside0.out (by assumption))) | exact h_)) : p := k h
theorem nf_ {w : World} {a : Addr} {v : Value} {b : Nat} (h : w.cell? a = some v) (g : w.heap.size ≤ b) {p : Prop} (k : a.block ≠ b → p := by intro h_; first | exact h_ | (rw [add_block]; exact h_) | (rw [add_block] at h_; exact h_) | (show (Addr.add _ _).block ≠ _; rw [add_block]; exact h_) | (dsimp only; exact h_)) : p := k (Nat.ne_of_lt (Nat.lt_of_lt_of_le (World.block_lt_of_cell? _ _ h) g))
theorem fne_ {a b : Nat} (h : a ≠ b) {p : Prop} (k : a ≠ b → p := by intro h_; first | exact h_ | (rw [add_block]; exact h_) | (show (Addr.add _ _).block ≠ _; rw [add_block]; exact h_) | (dsimp only; exact h_)) : p := k h
section
open Go.Proofs.YtdjbglhhjffnkaaW.PrintLast
variable {P : Program} {ops : Array Oper} {Q : Exit → Act → World → Prop} {md : Region.Mode} {S : World → Prop} {ds : List Nat} {T : Bool × List (List Nat × List Nat)}
theorem pu_ (i n : Nat) {oi : Oper} {v : Value} {fuel : Nat} {l : Array Bool} {a : Act} {w : World} (hT : Aside0 (rtab md ops = T)) (l' : Array Bool) (hi : ops[i]? = some oi) (hN : oi.dst = some n) {a' : Act}
    (h : wpAnyLast P md ops Q S ds fuel l' a' w) (hc : anyT T l.toList l'.toList i = true := by kernel_rfl) (hQ : ∀ c a w, Q (.panic c) (a.put oi.dst v) w → Q (.panic c) a w := by exact fun _ _ _ h => h)
    (hy : Yields P ops oi v a := by refine Or.inl ⟨by rfl, ?_⟩; intro w'; go_simp; with_reducible rfl) (ha : a.put (some n) v = a' := by simp only [Act.put, sA_, sZ_, sS_, i64_w, i32_w]; rfl) : wpAnyLast P md ops Q S ds (fuel + 1) l a w :=
  pure_ (i := i) (N := some n) l' hi hN (any_of hT.out hc) hQ hy ha h
theorem pn_ (i n : Nat) {oi : Oper} {fuel : Nat} {l : Array Bool} {a : Act} {w : World} (hT : Aside0 (rtab md ops = T)) (l' : Array Bool) (hi : ops[i]? = some oi) (hN : oi.dst = some n) {a' : Act}
    (h : wpAnyLast P md ops Q S ds fuel l' a' w) (hc : anyT T l.toList l'.toList i = true := by kernel_rfl) (hQ : ∀ c a w, Q (.panic c) (a.put oi.dst undef) w → Q (.panic c) a w := by exact fun _ _ _ h => h)
    (hy : Yields P ops oi undef a := by exact Or.inr ⟨by rfl, rfl⟩) (ha : a.put (some n) undef = a' := by simp only [Act.put, sA_, sZ_, sS_, i64_w, i32_w]; rfl) : wpAnyLast P md ops Q S ds (fuel + 1) l a w :=
  pure_ (i := i) (N := some n) l' hi hN (any_of hT.out hc) hQ hy ha h
end
section
variable {α : Type} {d : Kd α} {e : Nat} {w0 W : World} {base : Nat} {ok : Nat → Prop} {v : Value} {xs : List α} {g1 g2 g3 : Nat}
theorem rf1_ (h : d.R e w0 base (fun k => ok k ∧ k ≠ g1) v xs) (k : d.R e w0 base (fun k => ok k ∧ k ≠ g1) v xs → d.R e W base (fun k => ok k ∧ k ≠ g1) v xs := by intro h_; repeat (first | (with_reducible first | exact h_ | apply Kd.R_alloc | apply Kd.R_drewN | apply Kd.R_drew) | refine Kd.R_far ?_ (by intro _ hk; first | exact hk.2 | exact hk.1.2 | exact hk.1.1.2) _)) : d.R e W base ok v xs := Kd.R_mono (k h) (fun _ h => h.1)
theorem rf2_ (h : d.R e w0 base (fun k => (ok k ∧ k ≠ g1) ∧ k ≠ g2) v xs) (k : d.R e w0 base (fun k => (ok k ∧ k ≠ g1) ∧ k ≠ g2) v xs → d.R e W base (fun k => (ok k ∧ k ≠ g1) ∧ k ≠ g2) v xs := by intro h_; repeat (first | (with_reducible first | exact h_ | apply Kd.R_alloc | apply Kd.R_drewN | apply Kd.R_drew) | refine Kd.R_far ?_ (by intro _ hk; first | exact hk.2 | exact hk.1.2 | exact hk.1.1.2) _)) : d.R e W base ok v xs := Kd.R_mono (k h) (fun _ h => h.1.1)
theorem rf3_ (h : d.R e w0 base (fun k => ((ok k ∧ k ≠ g1) ∧ k ≠ g2) ∧ k ≠ g3) v xs) (k : d.R e w0 base (fun k => ((ok k ∧ k ≠ g1) ∧ k ≠ g2) ∧ k ≠ g3) v xs → d.R e W base (fun k => ((ok k ∧ k ≠ g1) ∧ k ≠ g2) ∧ k ≠ g3) v xs := by intro h_; repeat (first | (with_reducible first | exact h_ | apply Kd.R_alloc | apply Kd.R_drewN | apply Kd.R_drew) | refine Kd.R_far ?_ (by intro _ hk; first | exact hk.2 | exact hk.1.2 | exact hk.1.1.2) _)) : d.R e W base ok v xs := Kd.R_mono (k h) (fun _ h => h.1.1.1)
theorem rt_ {g t : Nat} {cells : Array Value} (h : d.R e w0 base ok v xs) (hb : w0.heap[g]? = some (.cells cells t (0, 0))) (ht : ∀ q, q ∈ e :: d.E → q ≠ t := by decide) : d.R e w0 base (fun k => ok k ∧ k ≠ g) v xs := Kd.R_types h hb ht
end
section
variable {w0 W W2 : World} {g gb : Nat} {o : Obj}
theorem fa_ {a p : Prop} (h : a) (k : a → p := by intro h_; repeat (first | (with_reducible first | exact h_ | refine blk_drewN ?_ _ | refine blk_drew ?_ | refine blk_alloc ?_ _) | refine blk_far ?_ (Aside0.out (by assumption)) _)) : p := k h
theorem bb_ (h : w0.heap[g]? = some o) (hb : Below W.heap.size W W2) (k : w0.heap[g]? = some o → W.heap[g]? = some o := by intro h_; (with_reducible repeat (first | refine blk_drewN ?_ _ | refine blk_drew ?_ | refine blk_alloc ?_ _)); exact h_) : W2.heap[g]? = some o := blk_below (k h) hb
theorem ba_ (h : w0.heap[g]? = some o) (hb : Below W.heap.size W W2) (k : w0.heap[g]? = some o → W.heap[g]? = some o := by intro h_; repeat (first | (with_reducible first | exact h_ | refine blk_drewN ?_ _ | refine blk_drew ?_ | refine blk_alloc ?_ _) | refine blk_far ?_ (Aside0.out (by assumption)) _)) : W2.heap[g]? = some o := blk_below (k h) hb
theorem nl_ (h : w0.heap[g]? = some o) (hg : gb = W.heap.size) (k : w0.heap[g]? = some o → W.heap[g]? = some o := by intro h_; (with_reducible repeat (first | refine blk_drewN ?_ _ | refine blk_drew ?_ | refine blk_alloc ?_ _)); exact h_) : g ≠ gb := by
  rw [hg]; exact Nat.ne_of_lt (blk_lt (k h))
theorem ng_ (h : w0.heap[g]? = some o) (hg : gb = W.heap.size) (k : w0.heap[g]? = some o → W.heap[g]? = some o := by intro h_; (with_reducible repeat (first | refine blk_drewN ?_ _ | refine blk_drew ?_ | refine blk_alloc ?_ _)); exact h_) : gb ≠ g := by
  rw [hg]; exact Nat.ne_of_gt (blk_lt (k h))
theorem rp_ {a p : Prop} (h : a) (k : a → p := by intro h_; (with_reducible repeat (first | refine blk_drewN ?_ _ | refine blk_drew ?_ | refine blk_alloc ?_ _)); exact h_) : p := k h
theorem ml_ {p : Prop} (k : True → p := by intro _; (try simp only [List.map_toArray, List.map_cons, List.map_nil]); first | done | rfl | (simp only [List.length_drop, List.length_take]; rfl)) : p := k trivial
theorem rc_ {a p : Prop} (h : a) (k : a → p := by intro h_; repeat (first | exact h_ | (with_reducible refine Kd.C_alloc ?_ _) | (with_reducible refine Kd.C_drewN ?_ _) | (with_reducible refine Kd.C_drew ?_))) : p := k h
end
section
variable {α : Type} {d : Kd α} {e : Nat} {w0 W : World} {base : Nat} {ok ok' : Nat → Prop} {v : Value} {xs : List α}
abbrev nB_ (v : Value) (k : Nat) : Prop := some k ≠ v.ownBlock
theorem rn_ (h : d.R e w0 base ok v xs) (hm : ∀ k, ok k → ok' k) (k : d.R e w0 base ok v xs → d.R e W base ok v xs := by intro h_; (with_reducible repeat (first | apply Kd.R_alloc | apply Kd.R_drewN | apply Kd.R_drew)); exact h_) : d.R e W base ok' v xs := Kd.R_mono (k h) hm
theorem bc_ {w : World} {g : Nat} {t : TypeId} {cs : Array Value} (h : w.heap[g]? = some (.cells cs t (0, 0))) (i : Nat) {u : Value} (e : cs[i]? = some u := by rfl) : w.cell? ⟨g, i, none⟩ = some u := (blk_cell h i).trans e
theorem rl_ {p : Prop} (k : True → p := by intro _; first | rfl | (simp; done) | (simp [*]; done) | (simp [wrap64]; done)) : p := k trivial
end
/-! ### an append whose old row stays in use -/
theorem append_keeps {P : Program} (w : World) {w' : World} {base : Nat} {t ty e : TypeId} {i : TypeInfo} {z : Value} (ht : P.underlying t = some (.slice e)) (hi : P.info? e = some i) (hz : i.zero = some z) {v v' : Value} {n : Nat} {xs : List Value} (hown : w.ownsRow base e i.size v n xs)
    (a : Addr) (m c : Nat) (news : List Value) (hl : news.length = m * i.size) (hnews : ∀ j u, news[j]? = some u → w.cell? (a.add j) = some u) (h1 : ∀ u ∈ news, u.oneCell' = true)
    (h63 : n + m ≤ maxLen) (hbytes : (n + m) * i.bytes ≤ 140737488355328)
    (hr : (Builtin.append_ #[t, t] ty #[v, .slice (some a) m c]).run P w = .ok v' w') : w'.ownsRow base e i.size v n xs := by
  obtain ⟨hlen, hcase⟩ := hown
  rcases hcase with hnil | ⟨g, cap, cur, rfl, hbg, hg, hnc, hcm, hcs, htake⟩
  · exact ⟨hlen, .inl hnil⟩
  · have hold : ∀ j u, xs[j]? = some u → w.cell? ((⟨g, 0, none⟩ : Addr).add j) = some u := World.ownsRow.cells (g := g) ⟨hlen, .inr ⟨g, cap, cur, rfl, hbg, hg, hnc, hcm, hcs, htake⟩⟩ rfl
    by_cases hroom : n + m ≤ cap
    · have hfit : n * i.size + news.length ≤ cur.size := by rw [hl, hcs, ← Nat.add_mul]; exact Nat.mul_le_mul_right _ hroom
      have he := hr.symm.trans (run_append_room (P := P) w t ty e i ht hi g n cap cur hg a m c news hl hnews h1 hroom hfit)
      injection he with _ hw
      subst hw
      refine ⟨hlen, .inr ⟨g, cap, _, rfl, hbg, setRow_heap w g cur _ e _ hg, hnc, hcm, ?_, ?_⟩⟩
      · simp only [List.size_toArray, List.length_append, List.length_take, List.length_drop, Array.length_toList]
        omega
      · rw [List.append_assoc, List.take_append_of_le_length (by rw [List.length_take, Array.length_toList]; omega), List.take_take, Nat.min_self, htake]
    · have he := hr.symm.trans (run_append_grow (P := P) w t ty e i z ht hi hz ⟨g, 0, none⟩ n cap xs hlen hold a m c news hl hnews (by omega) (by simp only [maxLen] at h63; omega) (growslice_fits (by omega) hbytes))
      injection he with _ hw
      subst hw
      exact ⟨hlen, .inr ⟨g, cap, cur, rfl, hbg, (heap_alloc_old w.drew _ (Array.getElem?_eq_some_iff.1 hg).1).trans hg, hnc, hcm, hcs, htake⟩⟩
section
variable {P : Program} {ops : Array Oper} {rest : List Oper} {o : Oper} {a : Act} {Q : Exit → Act → World → Prop} {α : Type}
theorem Kd.R_append2 (d : Kd α) {w0 W : World} (base : Nat) (hgd : o.guard = none) (s x : Operand) (t e : TypeId) (z : Value) (bytes : Nat)
    (ho : o.op = .call { callee := .builtin .append, args := #[s, x], argTypes := #[t, t] })
    (ht : P.underlying t = some (.slice e)) (hinfo : (P.info? e).map (fun i => (i.zero, i.size, i.bytes)) = some (some z, d.sz, bytes)) (hz : z.cells.size = d.sz) (hs0 : 0 < d.sz) (hb0 : 0 < bytes)
    (v : Value) (xs : List α) (p : α) (cs : List Value) (ok okp : Nat → Prop) (hs : a.eval s = v) (hx : a.eval x = .slice (some ⟨W.heap.size, 0, none⟩) 1 1) (hp : d.M W base okp p cs) (hokp : ∀ k, okp k → ok k ∧ some k ≠ v.ownBlock) (hfresh : ∀ k, W.heap.size ≤ k → ok k)
    (HO : d.R e W base ok v xs) (HB : Below base w0 W) (hbase : base ≤ W.heap.size) (hl : (xs.length + 1) * bytes ≤ 140737488355328)
    (h : ∀ v1 w1, d.R e w1 base ok v1 (xs ++ [p]) → d.R e w1 base ok v xs → Below base w0 w1 → W.grownBy w1 v.ownBlock → (v1.ownBlock = v.ownBlock ∨ ∃ b, v1.ownBlock = some b ∧ W.heap.size ≤ b) → wpList P ops Q rest (a.put o.dst v1) w1) :
    wpList P ops Q (o :: rest) a (W.alloc (.cells cs.toArray e)) := by
  obtain ⟨h0, inner, hown, hr⟩ := HO
  have hys : cs.length = d.sz := d.K_len (d.K_of_M hp)
  have hone := d.K_one (d.K_of_M hp)
  obtain ⟨i0, hi, hzz⟩ := Option.map_eq_some_iff.1 hinfo
  simp only [Prod.mk.injEq] at hzz
  obtain ⟨hz0, hz1, hz2⟩ := hzz
  have hlen : xs.length + 1 ≤ 140737488355328 := Nat.le_trans (Nat.le_mul_of_pos_right _ hb0) hl
  have hnew : ∀ j u, cs[j]? = some u → (W.alloc (.cells cs.toArray e)).cell? ((⟨W.heap.size, 0, none⟩ : Addr).add j) = some u := by simpa using World.news_of_block (cs := cs.toArray) (t := e) (fr := (0, 0)) (heap_alloc_new W (.cells cs.toArray e))
  have h63 : xs.length + 1 ≤ maxLen := by simp only [maxLen]; omega
  obtain ⟨v1, w1, hrun, own1, hg, _, hat⟩ := run_append_own_at (P := P) (W.alloc (.cells cs.toArray e)) base t o.type e i0 z d.sz bytes ht hi hz0 hz1 hz2 hz hs0 v xs.length inner (hown.alloc _) ⟨W.heap.size, 0, none⟩ 1 1 cs (by rw [hys]; simp) hnew hone h63 hl (by simp; omega)
  have own2 := append_keeps (P := P) (W.alloc (.cells cs.toArray e)) (base := base) ht hi hz0 (n := xs.length) (xs := inner) (by rw [hz1]; exact hown.alloc _) ⟨W.heap.size, 0, none⟩ 1 1 cs (by rw [hz1, hys]; simp) hnew hone h63 (by rw [hz2]; exact hl) hrun
  rw [hz1] at own2
  have hgW : W.grownBy w1 v.ownBlock := World.grownBy.trans (World.grownBy_alloc W _ _) hg
  have hat' : v1.ownBlock = v.ownBlock ∨ ∃ b, v1.ownBlock = some b ∧ W.heap.size ≤ b := by
    rcases hat with hat | hat
    · exact .inl hat
    · exact .inr ⟨_, hat, by simp⟩
  have hb1 : Below base w0 w1 := (HB.alloc hbase _).grown hg (by simp; omega) (own_base hown)
  have old : d.R e w1 base ok v xs := ⟨h0, inner, own2, hr.imp_ (fun _ _ hq => d.M_mono (fun k hk => hk.1) (d.M_move (w1 := w1) (fun k hk => hgW.block k hk.2.2.1 hk.1.2) (d.M_bound hq)))⟩
  refine wpList_plain hgd fun K hK => ?_
  unfold Oper.wp execOp
  simp only [ho, resolve, invoke, builtin, Sem.run_bind, Sem.run_pure, Result.andThen_ok, List.map_toArray, List.map_cons, List.map_nil, hs, hx, hrun]
  exact hK _ _ (h v1 w1 (R_appended h0 hr hp hokp hfresh own1 hgW hat') old hb1 hgW hat')
end
section
variable {P : Program} {ops : Array Oper} {o : Oper} {a : Act} {Q : Exit → Act → World → Prop} {Kc : Act → World → Prop} {α : Type}
theorem Kd.R_append2_step (d : Kd α) {w0 W : World} (base : Nat) (hw : Region.wanted o (yielded ops a.tmps) = true) (s x : Operand) (t e : TypeId) (z : Value) (bytes : Nat)
    (ho : o.op = .call { callee := .builtin .append, args := #[s, x], argTypes := #[t, t] })
    (ht : P.underlying t = some (.slice e)) (hinfo : (P.info? e).map (fun i => (i.zero, i.size, i.bytes)) = some (some z, d.sz, bytes)) (hz : z.cells.size = d.sz) (hs0 : 0 < d.sz) (hb0 : 0 < bytes)
    (v : Value) (xs : List α) (p : α) (cs : List Value) (ok okp : Nat → Prop) (hs : a.eval s = v) (hx : a.eval x = .slice (some ⟨W.heap.size, 0, none⟩) 1 1) (hp : d.M W base okp p cs) (hokp : ∀ k, okp k → ok k ∧ some k ≠ v.ownBlock) (hfresh : ∀ k, W.heap.size ≤ k → ok k)
    (HO : d.R e W base ok v xs) (HB : Below base w0 W) (hbase : base ≤ W.heap.size) (hl : (xs.length + 1) * bytes ≤ 140737488355328)
    (h : ∀ v1 w1, d.R e w1 base ok v1 (xs ++ [p]) → d.R e w1 base ok v xs → Below base w0 w1 → W.grownBy w1 v.ownBlock → (v1.ownBlock = v.ownBlock ∨ ∃ b, v1.ownBlock = some b ∧ W.heap.size ≤ b) → Kc (a.put o.dst v1) w1) :
    if Region.wanted o (yielded ops a.tmps) = true then Oper.wp P o a (W.alloc (.cells cs.toArray e)) Kc Q else Kc (a.put o.dst undef) (W.alloc (.cells cs.toArray e)) := by
  obtain ⟨h0, inner, hown, hr⟩ := HO
  have hys : cs.length = d.sz := d.K_len (d.K_of_M hp)
  have hone := d.K_one (d.K_of_M hp)
  obtain ⟨i0, hi, hzz⟩ := Option.map_eq_some_iff.1 hinfo
  simp only [Prod.mk.injEq] at hzz
  obtain ⟨hz0, hz1, hz2⟩ := hzz
  have hlen : xs.length + 1 ≤ 140737488355328 := Nat.le_trans (Nat.le_mul_of_pos_right _ hb0) hl
  have hnew : ∀ j u, cs[j]? = some u → (W.alloc (.cells cs.toArray e)).cell? ((⟨W.heap.size, 0, none⟩ : Addr).add j) = some u := by simpa using World.news_of_block (cs := cs.toArray) (t := e) (fr := (0, 0)) (heap_alloc_new W (.cells cs.toArray e))
  have h63 : xs.length + 1 ≤ maxLen := by simp only [maxLen]; omega
  obtain ⟨v1, w1, hrun, own1, hg, _, hat⟩ := run_append_own_at (P := P) (W.alloc (.cells cs.toArray e)) base t o.type e i0 z d.sz bytes ht hi hz0 hz1 hz2 hz hs0 v xs.length inner (hown.alloc _) ⟨W.heap.size, 0, none⟩ 1 1 cs (by rw [hys]; simp) hnew hone h63 hl (by simp; omega)
  have own2 := append_keeps (P := P) (W.alloc (.cells cs.toArray e)) (base := base) ht hi hz0 (n := xs.length) (xs := inner) (by rw [hz1]; exact hown.alloc _) ⟨W.heap.size, 0, none⟩ 1 1 cs (by rw [hz1, hys]; simp) hnew hone h63 (by rw [hz2]; exact hl) hrun
  rw [hz1] at own2
  have hgW : W.grownBy w1 v.ownBlock := World.grownBy.trans (World.grownBy_alloc W _ _) hg
  have hat' : v1.ownBlock = v.ownBlock ∨ ∃ b, v1.ownBlock = some b ∧ W.heap.size ≤ b := by
    rcases hat with hat | hat
    · exact .inl hat
    · exact .inr ⟨_, hat, by simp⟩
  have hb1 : Below base w0 w1 := (HB.alloc hbase _).grown hg (by simp; omega) (own_base hown)
  have old : d.R e w1 base ok v xs := ⟨h0, inner, own2, hr.imp_ (fun _ _ hq => d.M_mono (fun k hk => hk.1) (d.M_move (w1 := w1) (fun k hk => hgW.block k hk.2.2.1 hk.1.2) (d.M_bound hq)))⟩
  rw [if_pos hw]
  unfold Oper.wp execOp
  simp only [ho, resolve, invoke, builtin, Sem.run_bind, Sem.run_pure, Result.andThen_ok, List.map_toArray, List.map_cons, List.map_nil, hs, hx, hrun]
  exact h v1 w1 (R_appended h0 hr hp hokp hfresh own1 hgW hat') old hb1 hgW hat'
end
/-! ### floats, as bit patterns -/
namespace Kd
def flt : Kd Nat := scalar (Value.float .f64) (fun _ => rfl)
theorem heap_flt : Heap Kd.flt := ⟨fun _ h => h⟩
theorem at_flt {w : World} {A : Option Addr} {n : Nat} {xs : List Nat} (h : Kd.flt.C w A n xs) (i : Int) (h0 : 0 ≤ i) (h1 : i < n) : ∃ ad, A = some ad ∧ w.cell? (ad.add i.toNat) = some (.float .f64 (rdOf (0 : Nat) xs i)) :=
  ReadsOf.at_ (reads_of_C (enc := Value.float .f64) (d := (0 : Nat)) (h1 := fun _ => rfl) h) i h0 h1
theorem foot_flt {w : World} {ad : Addr} {n : Nat} {l : List Nat} (h : Kd.flt.C w (some ad) n l) (i : Int) (h0 : 0 ≤ i) (h1 : i < n) : w.cell? (ad.add i.toNat) = some (.float .f64 (rdOf (0 : Nat) l i)) := by
  obtain ⟨ad', he, hc⟩ := at_flt h i h0 h1
  injection he with he
  subst he
  exact hc
end Kd
theorem opt_getD_ {α : Type} {x : Option α} {d : α} (h : x.isSome = true) : x = some (x.getD d) := by cases x <;> simp at h ⊢
theorem run_store_float (P : Program) (w : World) (a : Addr) (m : Mode) (k : FloatKind) (b : Nat) : (store a (.float k b) m).run P w = stored P w a (.float k b) m := run_store P w a _ m rfl
namespace Kd
variable {α β : Type} {d : Kd α} {d' : Kd β} {w : World} {e e' base base' : Nat} {ok ok' : Nat → Prop} {v : Value} {xs : List α} {ys : List β}
/-- By types alone, where what is written is told as a row. -/
theorem R_types2 (h : d.R e w base ok v xs) {g n c : Nat} (h2 : d'.R e' w base' ok' (.slice (some ⟨g, 0, none⟩) n c) ys) (ht : ∀ q, q ∈ e :: d.E → q ≠ e') : d.R e w base (fun k => ok k ∧ k ≠ g) v xs := by
  obtain ⟨cells, hc⟩ := R_typed h2 g rfl
  exact R_types h hc ht
end Kd
theorem un_neg_float_ (k : FloatKind) (b : Nat) : Op.unary .neg (.float k b) = pure (.float k (Op.negFloat k b)) := rfl
/-! ### xs[:n:n], and an append to it -/
section
variable {P : Program}
theorem cut3_to (t e : TypeId) (kh km : IntKind) {i : TypeInfo} (ht : P.underlying t = some (.slice e)) (hi : P.info? e = some i) (A : Option Addr) (n c : Nat) (j : Int) (h0 : 0 ≤ j) (hm : j ≤ n) (hc : n ≤ c) :
    ∀ W : World, (Instr.slice t (.slice A n c) none (some (.int kh j)) (some (.int km j))).run P W = .ok (.slice A j.toNat j.toNat) W := by
  intro W
  have hel : P.elem t = e := by simp [Program.elem, ht]
  have hu : P.underlying t = some (.slice (P.elem t)) := by rw [hel]; exact ht
  have ha : (A.map fun x => x.add 0) = A := by cases A <;> simp [Addr.add]
  have hcap : j ≤ (c : Int) := by omega
  have ej : (j.toNat : Int) = j := Int.toNat_of_nonneg h0
  simp [Instr.slice, run_underlying hu, Instr.sliceBounds, run_sliceBound, *, sizeOf, typeInfo, Result.andThen]
end
section
variable {P : Program} {ops : Array Oper} {rest : List Oper} {o : Oper} {a : Act} {Q : Exit → Act → World → Prop} {Kc : Act → World → Prop}
theorem app3_run (k : IntKind) {W : World} {base : Nat} {t ty e : TypeId} {z : Value} {bytes : Nat} {A : Option Addr} {xs : List Int} {m : Nat} {p : Int} {ok : Nat → Prop} (ht : P.underlying t = some (.slice e)) (hinfo : (P.info? e).map (fun i => (i.zero, i.size, i.bytes)) = some (some z, 1, bytes)) (hz : z.cells.size = 1) (hb0 : 0 < bytes)
    (hfresh : ∀ k, W.heap.size ≤ k → ok k) (hC : Kd.C (Kd.int k) W A xs.length xs) (hm0 : 0 < m) (hm : m ≤ xs.length) (hbase : base ≤ W.heap.size) (hl : (m + 1) * bytes ≤ 140737488355328) :
    ∃ v1 w1, (Builtin.append_ #[t, t] ty #[.slice A m m, .slice (some ⟨W.heap.size, 0, none⟩) 1 1]).run P (W.alloc (.cells #[Value.int k p] e)) = .ok v1 w1 ∧ Kd.R (Kd.int k) e w1 base ok v1 (xs.take m ++ [p]) ∧ W.grownBy w1 none ∧ (∃ b, v1.ownBlock = some b ∧ W.heap.size ≤ b) := by
  obtain ⟨i0, hi, hzz⟩ := Option.map_eq_some_iff.1 hinfo
  simp only [Prod.mk.injEq] at hzz
  obtain ⟨hz0, hz1, hz2⟩ := hzz
  have hlen : m + 1 ≤ 140737488355328 := Nat.le_trans (Nat.le_mul_of_pos_right _ hb0) hl
  obtain ⟨ad, rfl, _⟩ := Kd.at_int hC 0 (by omega) (by omega)
  have hC' := Kd.C_alloc hC (.cells #[Value.int k p] e)
  have hold : ∀ j u, ((xs.take m).map (Value.int k))[j]? = some u → (W.alloc (.cells #[Value.int k p] e)).cell? (ad.add j) = some u := by
    intro j u hj
    obtain ⟨hj1, hj2⟩ := List.getElem?_eq_some_iff.1 hj
    have hjm : j < m := by simp only [List.length_map, List.length_take] at hj1; omega
    obtain ⟨ad', he, hc⟩ := Kd.at_int hC' (j : Int) (by omega) (by omega)
    injection he with he
    subst he
    rw [show ((j : Int)).toNat = j by omega] at hc
    rw [hc, ← hj2]
    simp [rd, List.getD_eq_getElem?_getD, show j < xs.length by omega]
  have hnew : ∀ j u, [Value.int k p][j]? = some u → (W.alloc (.cells #[Value.int k p] e)).cell? ((⟨W.heap.size, 0, none⟩ : Addr).add j) = some u := by simpa using World.news_of_block (cs := #[Value.int k p]) (t := e) (fr := (0, 0)) (heap_alloc_new W (.cells #[Value.int k p] e))
  have hlt : ((xs.take m).map (Value.int k)).length = m := by simp only [List.length_map, List.length_take]; omega
  have he := run_append_grow (P := P) (W.alloc (.cells #[Value.int k p] e)) t ty e i0 z ht hi hz0 ad m m ((xs.take m).map (Value.int k)) (by rw [hz1, hlt]; simp) hold ⟨W.heap.size, 0, none⟩ 1 1 [Value.int k p] (by rw [hz1]; rfl) hnew (by omega) (by omega) (growslice_fits (by omega) (by rw [hz2]; exact hl))
  have hsz : (W.alloc (.cells #[Value.int k p] e)).heap.size = W.heap.size + 1 := Array.size_push ..
  refine ⟨_, _, he, ?_, ?_, ?_⟩
  · have hge := grownCap_ge (W.alloc (.cells #[Value.int k p] e)) (m + 1) m e
    have hcm : grownCap (W.alloc (.cells #[Value.int k p] e)) (m + 1) m e ≤ maxLen := grownCap_le_maxLen (W.alloc (.cells #[Value.int k p] e)) (m + 1) m e (by simp only [maxLen]; omega)
    have hn : (xs.take m ++ [p]).length = m + 1 := by rw [List.length_append, List.length_take]; simp only [List.length_cons, List.length_nil]; omega
    refine Kd.R_of_own ?_ (fun j hj => ?_)
    · refine ⟨by simp [encs], .inr ⟨_, _, _, by rw [hn]; rfl, (by show base ≤ (W.alloc (.cells #[Value.int k p] e)).heap.size; rw [hsz]; omega), heap_alloc_new _ _, by rw [hn]; exact hge, hcm, ?_, ?_⟩⟩
      · simp only [Array.size_append, List.size_toArray, hlt, size_zeroCells, hz, List.length_cons, List.length_nil]
        omega
      · simp only [Array.toList_append, encs, List.map_append, List.map_cons, List.map_nil, Nat.mul_one]
        refine List.take_left' ?_
        rw [hn, List.length_append, hlt]
        rfl
    · have : (W.alloc (.cells #[Value.int k p] e)).heap.size = j := by simpa [Value.ownBlock] using hj
      exact hfresh j (by omega)
  · refine World.grownBy.trans (World.grownBy_alloc W _ _) ⟨rfl, rfl, rfl, (by show _ ≤ (Array.push _ _).size; rw [Array.size_push]; exact Nat.le_succ _), fun j hj _ => heap_alloc_old _ _ hj⟩
  · exact ⟨_, rfl, (by show W.heap.size ≤ (Array.push _ _).size; rw [Array.size_push]; exact Nat.le_succ _)⟩
theorem R_app3 (k : IntKind) {w0 W : World} (base e : Nat) (hgd : o.guard = none) (s x : Operand) (t : TypeId) (z : Value) (bytes : Nat)
    (ho : o.op = .call { callee := .builtin .append, args := #[s, x], argTypes := #[t, t] })
    (ht : P.underlying t = some (.slice e)) (hinfo : (P.info? e).map (fun i => (i.zero, i.size, i.bytes)) = some (some z, 1, bytes)) (hz : z.cells.size = 1) (hb0 : 0 < bytes)
    (A : Option Addr) (xs : List Int) (m : Nat) (p : Int) {ok : Nat → Prop} (hs : a.eval s = .slice A m m) (hx : a.eval x = .slice (some ⟨W.heap.size, 0, none⟩) 1 1) (hC : Kd.C (Kd.int k) W A xs.length xs) (hm0 : 0 < m) (hm : m ≤ xs.length) (hfresh : ∀ k, W.heap.size ≤ k → ok k)
    (HB : Below base w0 W) (hbase : base ≤ W.heap.size) (hl : (m + 1) * bytes ≤ 140737488355328)
    (h : ∀ v1 w1, Kd.R (Kd.int k) e w1 base ok v1 (xs.take m ++ [p]) → Below base w0 w1 → W.grownBy w1 none → (∃ b, v1.ownBlock = some b ∧ W.heap.size ≤ b) → wpList P ops Q rest (a.put o.dst v1) w1) :
    wpList P ops Q (o :: rest) a (W.alloc (.cells [Value.int k p].toArray e)) := by
  obtain ⟨v1, w1, hrun, r1, hg, hat⟩ := app3_run (P := P) (ty := o.type) (p := p) k ht hinfo hz hb0 hfresh hC hm0 hm hbase hl
  refine wpList_plain hgd fun K hK => ?_
  unfold Oper.wp execOp
  simp only [ho, resolve, invoke, builtin, Sem.run_bind, Sem.run_pure, Result.andThen_ok, List.map_toArray, List.map_cons, List.map_nil, hs, hx, hrun]
  exact hK _ _ (h v1 w1 r1 (HB.grown hg hbase (fun _ h => by cases h)) hg hat)
theorem R_app3_step (k : IntKind) {w0 W : World} (base e : Nat) (hw : Region.wanted o (yielded ops a.tmps) = true) (s x : Operand) (t : TypeId) (z : Value) (bytes : Nat)
    (ho : o.op = .call { callee := .builtin .append, args := #[s, x], argTypes := #[t, t] })
    (ht : P.underlying t = some (.slice e)) (hinfo : (P.info? e).map (fun i => (i.zero, i.size, i.bytes)) = some (some z, 1, bytes)) (hz : z.cells.size = 1) (hb0 : 0 < bytes)
    (A : Option Addr) (xs : List Int) (m : Nat) (p : Int) {ok : Nat → Prop} (hs : a.eval s = .slice A m m) (hx : a.eval x = .slice (some ⟨W.heap.size, 0, none⟩) 1 1) (hC : Kd.C (Kd.int k) W A xs.length xs) (hm0 : 0 < m) (hm : m ≤ xs.length) (hfresh : ∀ k, W.heap.size ≤ k → ok k)
    (HB : Below base w0 W) (hbase : base ≤ W.heap.size) (hl : (m + 1) * bytes ≤ 140737488355328)
    (h : ∀ v1 w1, Kd.R (Kd.int k) e w1 base ok v1 (xs.take m ++ [p]) → Below base w0 w1 → W.grownBy w1 none → (∃ b, v1.ownBlock = some b ∧ W.heap.size ≤ b) → Kc (a.put o.dst v1) w1) :
    if Region.wanted o (yielded ops a.tmps) = true then Oper.wp P o a (W.alloc (.cells [Value.int k p].toArray e)) Kc Q else Kc (a.put o.dst undef) (W.alloc (.cells [Value.int k p].toArray e)) := by
  obtain ⟨v1, w1, hrun, r1, hg, hat⟩ := app3_run (P := P) (ty := o.type) (p := p) k ht hinfo hz hb0 hfresh hC hm0 hm hbase hl
  rw [if_pos hw]
  unfold Oper.wp execOp
  simp only [ho, resolve, invoke, builtin, Sem.run_bind, Sem.run_pure, Result.andThen_ok, List.map_toArray, List.map_cons, List.map_nil, hs, hx, hrun]
  exact h v1 w1 r1 (HB.grown hg hbase (fun _ h => by cases h)) hg hat
end
/-! ### a row of rows, laid open: the outer row's cells, and the inner rows, apart -/
namespace Kd
section
variable {α : Type} {d : Kd α} {e e' base : Nat} {f : Nat → Nat} {P S ok : Nat → Prop} {w W W2 w1 : World} {u v : Value} {rows : List (List Value)} {l : List (List α)} {x y : List α}
def El (d : Kd α) (e : Nat) (f : Nat → Nat) (P : Nat → Prop) (base : Nat) (u : Value) (W : World) (rows : List (List Value)) (l : List (List α)) : Prop :=
  rows.length = l.length ∧ ∀ (j : Nat) (x : List α), l[j]? = some x → ∃ v, rows[j]? = some [v] ∧ d.R e W base (fun k => P k ∧ f k = j ∧ some k ≠ u.ownBlock) v x
theorem El_start (h : Kd.S (Kd.slice e d) e' w base P u l) : ∃ (f : Nat → Nat) (rows : List (List Value)), (∀ k, u.ownBlock = some k → P k) ∧ Kd.R (Kd.raw 1) e' w base (fun k => some k = u.ownBlock) u rows ∧ El d e f P base u w rows l := by
  obtain ⟨f, h0, inner, ho, hr⟩ := h
  refine ⟨f, Kd.chunks 1 l.zipIdx.length inner, h0, ⟨fun k hk => hk.symm, inner, by rw [Kd.chunks_length]; exact ho, Kd.reps_raw hr (fun x c hp => ⟨(Kd.slice e d).K_len ((Kd.slice e d).K_of_M hp), (Kd.slice e d).K_one ((Kd.slice e d).K_of_M hp)⟩)⟩, by rw [Kd.chunks_length, List.length_zipIdx], fun j x hx => ?_⟩
  obtain ⟨v, hcs, g2⟩ := hr.2 j (x, j) (Kd.zip_at hx)
  have hj : j < l.zipIdx.length := by rw [List.length_zipIdx]; exact (List.getElem?_eq_some_iff.1 hx).1
  refine ⟨v, ?_, Kd.R_mono g2 (fun k hk => ⟨hk.1.1, hk.2, hk.1.2⟩)⟩
  rw [Kd.chunks_at hj]
  exact congrArg some hcs
theorem El_stop (hP : ∀ k, u.ownBlock = some k → P k) (hR : Kd.R (Kd.raw 1) e' w base ok u rows) (h : El d e f P base u w rows l) : Kd.S (Kd.slice e d) e' w base P u l := by
  obtain ⟨_, inner, ho, hr⟩ := hR
  refine ⟨f, hP, inner, by rw [List.length_zipIdx, ← h.1]; exact ho, ⟨by rw [List.length_zipIdx, ← h.1]; exact hr.1, fun j p hj => ?_⟩⟩
  obtain ⟨x, j'⟩ := p
  obtain ⟨rfl, hx⟩ : j' = j ∧ l[j]? = some x := by
    rw [List.getElem?_zipIdx, Option.map_eq_some_iff] at hj
    obtain ⟨a, ha, he⟩ := hj
    injection he with h1 h2
    exact ⟨by omega, by rw [ha, h1]⟩
  obtain ⟨v, hv, hR⟩ := h.2 _ _ hx
  exact ⟨v, (hr.2 _ _ hv).1, Kd.R_mono hR (fun k hk => ⟨⟨hk.1, hk.2.2⟩, hk.2.1⟩)⟩
theorem El_below (h : El d e f P base u W rows l) (hb : Below W.heap.size W W2) : El d e f P base u W2 rows l :=
  ⟨h.1, fun j x hx => by obtain ⟨v, hv, hR⟩ := h.2 j x hx; exact ⟨v, hv, Kd.R_step hR (fun k _ hlt => hb.block k hlt)⟩⟩
theorem El_new (h : El d e f P base u W rows l) (hb : Below W.heap.size W W2) (hv : ∀ k, v.ownBlock = some k → W.heap.size ≤ k) : El d e f (fun k => P k ∨ W.heap.size ≤ k) base v W2 rows l :=
  ⟨h.1, fun j x hx => by
    obtain ⟨v', hv', hR⟩ := h.2 j x hx
    exact ⟨v', hv', Kd.R_mono (Kd.R_step (Kd.R_bound hR) (fun k _ hlt => hb.block k hlt)) (fun k hk => ⟨.inl hk.1.1, hk.1.2.1, fun he => by have := hv k he.symm; have := hk.2.2.1; omega⟩)⟩⟩
theorem El_get (h : El d e f P base u W rows l) (i : Int) (h0 : 0 ≤ i) (hi : i < l.length) : ∃ v, rows[i.toNat]? = some [v] ∧ d.R e W base (fun k => P k ∧ f k = i.toNat ∧ some k ≠ u.ownBlock) v (l.getD i.toNat []) := by
  have hn : i.toNat < l.length := by omega
  exact h.2 i.toNat _ (by rw [List.getElem?_eq_getElem hn, List.getD_eq_getElem?_getD, List.getElem?_eq_getElem hn]; rfl)
theorem El_put (h : El d e f P base u W rows l) (i : Nat) (hk : Kept W W2 (fun k => P k ∧ f k = i ∧ some k ≠ u.ownBlock)) (hv : rows[i]? = some [v]) (hR : d.R e W2 base (fun k => P k ∧ f k = i ∧ some k ≠ u.ownBlock) v y) : El d e f P base u W2 rows (l.set i y) := by
  refine ⟨by rw [List.length_set]; exact h.1, fun j x hx => ?_⟩
  by_cases c : j = i
  · subst c
    have hl : j < (l.set j y).length := (List.getElem?_eq_some_iff.1 hx).1
    rw [List.getElem?_set_self (by simpa using hl)] at hx
    injection hx with hx
    subst hx
    exact ⟨v, hv, hR⟩
  · rw [List.getElem?_set_ne (Ne.symm c)] at hx
    obtain ⟨v', hv', hR'⟩ := h.2 j x hx
    exact ⟨v', hv', Kd.R_kept hR' hk (fun k hk1 hk2 => c (hk1.2.1.symm.trans hk2.2.1))⟩
end
end Kd
namespace Kd
section
variable {α : Type} {d : Kd α} {e base N : Nat} {ok S : Nat → Prop} {w W W2 w1 : World} {u v : Value} {xs : List α}
def szof {n : Nat} {w w1 : World} (_ : Below n w w1) : Nat := n
theorem S_reN {M : Nat} (h : Kd.S d e W base (fun k => ok k ∧ k < M) u xs) (hN : N = M) : Kd.S d e W base (fun k => ok k ∧ k < N) u xs := by subst hN; exact h
theorem S_ltN (h : Kd.S d e W base ok u xs) (hb : Below W.heap.size W w1) (hN : N = W.heap.size) : Kd.S d e w1 base (fun k => ok k ∧ k < N) u xs := by subst hN; exact S_old h hb
theorem S_geN (h : Kd.S d e w1 W.heap.size ok v xs) (hN : N = W.heap.size) : Kd.S d e w1 W.heap.size (fun k => ok k ∧ N ≤ k) v xs := by subst hN; exact S_mono (S_bound h) (fun _ hk => ⟨hk.1, hk.2.1⟩)
end
end Kd
namespace Kd
theorem V_of_mine {α : Type} {d : Kd α} {e base base' : Nat} {P Q R : Nat → Prop} {W : World} {v : Value} {xs : List α} (h : d.R e W base (fun k => Q k ∧ R k) v xs) : V d e W base' (fun k => (P k ∨ Q k) ∧ R k) v xs := V_mono (R_V h) (fun k hk => ⟨.inr hk.1, hk.2⟩)
theorem V_farG {α : Type} {d : Kd α} {e base n c g : Nat} {ok : Nat → Prop} {W : World} {A : Option Addr} {xs : List α} (h : V d e W base ok (.slice A n c) xs) (hs : 0 < d.sz) (hok : ∀ k, ok k → k ≠ g) : ∀ ad, A = some ad → 0 < n → ad.block ≠ g := by
  rintro ad rfl hn
  obtain ⟨h1, _, hF⟩ := V_at h
  have hp : 0 < xs.length := by omega
  obtain ⟨ad', c', he, _, _, _, hb⟩ := F_get hF (xs[0]) 0 (by omega) (by omega)
  injection he with he
  subst he
  exact hok _ (hb hs)
end Kd
end Go.Proofs.YtdjbglhhjffnkaaW.PrintWords
namespace Go.Proofs.YtdjbglhhjffnkaaW.PrintWords
/-! ### chapters: where many ways meet behind several statements -/
section
variable {P : Program} {Q : Exit → Act → World → Prop} {a : Act} {w : World}
theorem chap_in {R : (Nat → Value) → Prop} {F : (Nat → Value) → Array Value} {l : List Value} (hF : F (fun n => l.getD n undef) = l.toArray) (hr : R (fun n => l.getD n undef)) : ∃ u, R u ∧ (⟨l.toArray, []⟩ : Act) = ⟨F u, []⟩ := ⟨_, hr, by rw [hF]⟩
theorem wp_chap1 {s1 d : Code} (R : Act → World → Prop) (rest : ∀ a' w', R a' w' → d.wp P Q a' w') (first : ∀ (D : Code) (J : Act → World → Prop), (∀ a' w', R a' w' → J a' w') → (∀ a' w', Met J a' w' → D.wp P Q a' w') → (Code.seq s1 D).wp P Q a w) : (Code.seq s1 d).wp P Q a w := first d R (fun _ _ h => h) (fun _ _ h => rest _ _ h)
theorem wp_chap2 {s1 s2 d : Code} (R : Act → World → Prop) (rest : ∀ a' w', R a' w' → d.wp P Q a' w') (first : ∀ (D : Code) (J : Act → World → Prop), (∀ a' w', R a' w' → J a' w') → (∀ a' w', Met J a' w' → D.wp P Q a' w') → (Code.seq s1 (Code.seq s2 D)).wp P Q a w) : (Code.seq s1 (Code.seq s2 d)).wp P Q a w := first d R (fun _ _ h => h) (fun _ _ h => rest _ _ h)
theorem wp_chap3 {s1 s2 s3 d : Code} (R : Act → World → Prop) (rest : ∀ a' w', R a' w' → d.wp P Q a' w') (first : ∀ (D : Code) (J : Act → World → Prop), (∀ a' w', R a' w' → J a' w') → (∀ a' w', Met J a' w' → D.wp P Q a' w') → (Code.seq s1 (Code.seq s2 (Code.seq s3 D))).wp P Q a w) : (Code.seq s1 (Code.seq s2 (Code.seq s3 d))).wp P Q a w := first d R (fun _ _ h => h) (fun _ _ h => rest _ _ h)
theorem wp_chap4 {s1 s2 s3 s4 d : Code} (R : Act → World → Prop) (rest : ∀ a' w', R a' w' → d.wp P Q a' w') (first : ∀ (D : Code) (J : Act → World → Prop), (∀ a' w', R a' w' → J a' w') → (∀ a' w', Met J a' w' → D.wp P Q a' w') → (Code.seq s1 (Code.seq s2 (Code.seq s3 (Code.seq s4 D)))).wp P Q a w) : (Code.seq s1 (Code.seq s2 (Code.seq s3 (Code.seq s4 d)))).wp P Q a w := first d R (fun _ _ h => h) (fun _ _ h => rest _ _ h)
theorem wp_chap5 {s1 s2 s3 s4 s5 d : Code} (R : Act → World → Prop) (rest : ∀ a' w', R a' w' → d.wp P Q a' w') (first : ∀ (D : Code) (J : Act → World → Prop), (∀ a' w', R a' w' → J a' w') → (∀ a' w', Met J a' w' → D.wp P Q a' w') → (Code.seq s1 (Code.seq s2 (Code.seq s3 (Code.seq s4 (Code.seq s5 D))))).wp P Q a w) : (Code.seq s1 (Code.seq s2 (Code.seq s3 (Code.seq s4 (Code.seq s5 d))))).wp P Q a w := first d R (fun _ _ h => h) (fun _ _ h => rest _ _ h)
theorem wp_chap6 {s1 s2 s3 s4 s5 s6 d : Code} (R : Act → World → Prop) (rest : ∀ a' w', R a' w' → d.wp P Q a' w') (first : ∀ (D : Code) (J : Act → World → Prop), (∀ a' w', R a' w' → J a' w') → (∀ a' w', Met J a' w' → D.wp P Q a' w') → (Code.seq s1 (Code.seq s2 (Code.seq s3 (Code.seq s4 (Code.seq s5 (Code.seq s6 D)))))).wp P Q a w) : (Code.seq s1 (Code.seq s2 (Code.seq s3 (Code.seq s4 (Code.seq s5 (Code.seq s6 d)))))).wp P Q a w := first d R (fun _ _ h => h) (fun _ _ h => rest _ _ h)
theorem wp_chap7 {s1 s2 s3 s4 s5 s6 s7 d : Code} (R : Act → World → Prop) (rest : ∀ a' w', R a' w' → d.wp P Q a' w') (first : ∀ (D : Code) (J : Act → World → Prop), (∀ a' w', R a' w' → J a' w') → (∀ a' w', Met J a' w' → D.wp P Q a' w') → (Code.seq s1 (Code.seq s2 (Code.seq s3 (Code.seq s4 (Code.seq s5 (Code.seq s6 (Code.seq s7 D))))))).wp P Q a w) : (Code.seq s1 (Code.seq s2 (Code.seq s3 (Code.seq s4 (Code.seq s5 (Code.seq s6 (Code.seq s7 d))))))).wp P Q a w := first d R (fun _ _ h => h) (fun _ _ h => rest _ _ h)
theorem wp_chap8 {s1 s2 s3 s4 s5 s6 s7 s8 d : Code} (R : Act → World → Prop) (rest : ∀ a' w', R a' w' → d.wp P Q a' w') (first : ∀ (D : Code) (J : Act → World → Prop), (∀ a' w', R a' w' → J a' w') → (∀ a' w', Met J a' w' → D.wp P Q a' w') → (Code.seq s1 (Code.seq s2 (Code.seq s3 (Code.seq s4 (Code.seq s5 (Code.seq s6 (Code.seq s7 (Code.seq s8 D)))))))).wp P Q a w) : (Code.seq s1 (Code.seq s2 (Code.seq s3 (Code.seq s4 (Code.seq s5 (Code.seq s6 (Code.seq s7 (Code.seq s8 d)))))))).wp P Q a w := first d R (fun _ _ h => h) (fun _ _ h => rest _ _ h)
theorem wp_chap9 {s1 s2 s3 s4 s5 s6 s7 s8 s9 d : Code} (R : Act → World → Prop) (rest : ∀ a' w', R a' w' → d.wp P Q a' w') (first : ∀ (D : Code) (J : Act → World → Prop), (∀ a' w', R a' w' → J a' w') → (∀ a' w', Met J a' w' → D.wp P Q a' w') → (Code.seq s1 (Code.seq s2 (Code.seq s3 (Code.seq s4 (Code.seq s5 (Code.seq s6 (Code.seq s7 (Code.seq s8 (Code.seq s9 D))))))))).wp P Q a w) : (Code.seq s1 (Code.seq s2 (Code.seq s3 (Code.seq s4 (Code.seq s5 (Code.seq s6 (Code.seq s7 (Code.seq s8 (Code.seq s9 d))))))))).wp P Q a w := first d R (fun _ _ h => h) (fun _ _ h => rest _ _ h)
theorem wp_chap10 {s1 s2 s3 s4 s5 s6 s7 s8 s9 s10 d : Code} (R : Act → World → Prop) (rest : ∀ a' w', R a' w' → d.wp P Q a' w') (first : ∀ (D : Code) (J : Act → World → Prop), (∀ a' w', R a' w' → J a' w') → (∀ a' w', Met J a' w' → D.wp P Q a' w') → (Code.seq s1 (Code.seq s2 (Code.seq s3 (Code.seq s4 (Code.seq s5 (Code.seq s6 (Code.seq s7 (Code.seq s8 (Code.seq s9 (Code.seq s10 D)))))))))).wp P Q a w) : (Code.seq s1 (Code.seq s2 (Code.seq s3 (Code.seq s4 (Code.seq s5 (Code.seq s6 (Code.seq s7 (Code.seq s8 (Code.seq s9 (Code.seq s10 d)))))))))).wp P Q a w := first d R (fun _ _ h => h) (fun _ _ h => rest _ _ h)
theorem wp_chap11 {s1 s2 s3 s4 s5 s6 s7 s8 s9 s10 s11 d : Code} (R : Act → World → Prop) (rest : ∀ a' w', R a' w' → d.wp P Q a' w') (first : ∀ (D : Code) (J : Act → World → Prop), (∀ a' w', R a' w' → J a' w') → (∀ a' w', Met J a' w' → D.wp P Q a' w') → (Code.seq s1 (Code.seq s2 (Code.seq s3 (Code.seq s4 (Code.seq s5 (Code.seq s6 (Code.seq s7 (Code.seq s8 (Code.seq s9 (Code.seq s10 (Code.seq s11 D))))))))))).wp P Q a w) : (Code.seq s1 (Code.seq s2 (Code.seq s3 (Code.seq s4 (Code.seq s5 (Code.seq s6 (Code.seq s7 (Code.seq s8 (Code.seq s9 (Code.seq s10 (Code.seq s11 d))))))))))).wp P Q a w := first d R (fun _ _ h => h) (fun _ _ h => rest _ _ h)
theorem wp_chap12 {s1 s2 s3 s4 s5 s6 s7 s8 s9 s10 s11 s12 d : Code} (R : Act → World → Prop) (rest : ∀ a' w', R a' w' → d.wp P Q a' w') (first : ∀ (D : Code) (J : Act → World → Prop), (∀ a' w', R a' w' → J a' w') → (∀ a' w', Met J a' w' → D.wp P Q a' w') → (Code.seq s1 (Code.seq s2 (Code.seq s3 (Code.seq s4 (Code.seq s5 (Code.seq s6 (Code.seq s7 (Code.seq s8 (Code.seq s9 (Code.seq s10 (Code.seq s11 (Code.seq s12 D)))))))))))).wp P Q a w) : (Code.seq s1 (Code.seq s2 (Code.seq s3 (Code.seq s4 (Code.seq s5 (Code.seq s6 (Code.seq s7 (Code.seq s8 (Code.seq s9 (Code.seq s10 (Code.seq s11 (Code.seq s12 d)))))))))))).wp P Q a w := first d R (fun _ _ h => h) (fun _ _ h => rest _ _ h)
end
end Go.Proofs.YtdjbglhhjffnkaaW.PrintWords
