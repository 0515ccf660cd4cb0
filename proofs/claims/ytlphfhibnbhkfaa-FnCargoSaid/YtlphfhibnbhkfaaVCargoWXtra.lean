import Derived.Test.YtlphfhibnbhkfaaVCargoWWords
import Derived.Test.YtlphfhibnbhkfaaVCargoWLast
import Derived.Test.YtlphfhibnbhkfaaVCargoWApart
import Derived.Test.YtlphfhibnbhkfaaVCargoWNEv
import Derived.Test.YtlphfhibnbhkfaaVCargoWMore
import Derived.Test.YtlphfhibnbhkfaaVCargoWTab
set_option linter.unusedVariables false
namespace Go.Proofs.YtlphfhibnbhkfaaW.PrintWords
open Go.RowKit
namespace Kd
section
variable {P : Program} {ops : Array Oper} {rest : List Oper} {o : Oper} {a : Act} {Q : Exit → Act → World → Prop} {α : Type} {md : Region.Mode} {Kc : Act → World → Prop}
theorem run_make0 {w : World} (base : Nat) (t e : TypeId) (size bytes : Nat) (z : Value) (n : Int) (hinfo : (P.info? e).map (fun i => (i.zero, i.size, i.bytes)) = some (some z, size, bytes))
    (ht : P.underlying t = some (.slice e)) (hb0 : 0 < bytes) (h0 : 0 ≤ n) (hl : n.toNat * bytes ≤ 281474976710656) (hbase : base ≤ w.heap.size) :
    (Instr.makeSlice t (.int .i64 0) (.int .i64 n)).run P w = .ok (.slice (some ⟨w.heap.size, 0, none⟩) 0 n.toNat) (w.alloc (.cells (madeCells z.cells (n.toNat * size)) e)) ∧
      (w.alloc (.cells (madeCells z.cells (n.toNat * size)) e)).ownsRow base e size (.slice (some ⟨w.heap.size, 0, none⟩) 0 n.toNat) 0 [] ∧ w.grownBy (w.alloc (.cells (madeCells z.cells (n.toNat * size)) e)) none := by
  obtain ⟨m, rfl⟩ := Int.eq_ofNat_of_zero_le h0
  simp only [Int.toNat_natCast] at hl ⊢
  obtain ⟨i0, hi, hzz⟩ := Option.map_eq_some_iff.1 hinfo
  simp only [Prod.mk.injEq] at hzz
  obtain ⟨hz0, hz1, hz2⟩ := hzz
  have hm : m ≤ 281474976710656 := Nat.le_trans (Nat.le_mul_of_pos_right _ hb0) hl
  have hr := run_make (P := P) w t e i0 z ht hi hz0 .i64 .i64 0 (m : Int) (Int.le_refl _) (by omega)
    (by
      have h3 : ((i0.bytes * m : Nat) : Int) ≤ 281474976710656 := by rw [hz2, Nat.mul_comm]; omega
      rwa [Int.natCast_mul] at h3) (by omega)
  simp only [Int.toNat_natCast, Int.toNat_zero] at hr
  rw [hz1] at hr
  exact ⟨hr, World.ownsRow_made w _ m hbase (by simp only [maxLen]; omega) (size_madeCells _ _), World.grownBy_alloc w _ none⟩
theorem R_of_made0 (d : Kd α) {W w1 : World} {base e cap g : Nat} {ok : Nat → Prop} (hown : w1.ownsRow base e d.sz (.slice (some ⟨g, 0, none⟩) 0 cap) 0 []) (hok : ok g) : d.R e w1 base ok (.slice (some ⟨g, 0, none⟩) 0 cap) [] := by
  refine ⟨fun k hk => ?_, [], hown, ⟨by simp, fun j p h => by simp at h⟩⟩
  have : g = k := by simpa [Value.ownBlock] using hk
  subst this
  exact hok
theorem R_make0 (d : Kd α) {w0 W : World} (base e : Nat) (hgd : o.guard = none) {N : Tmp} (hd : o.dst = some N) (t : TypeId) (x y : Operand) (ho : o.op = .makeSlice t x y) (n : Int) (hx : a.eval x = .int .i64 0) (hy : a.eval y = .int .i64 n)
    (ht : P.underlying t = some (.slice e)) (z : Value) (bytes : Nat) (hinfo : (P.info? e).map (fun i => (i.zero, i.size, i.bytes)) = some (some z, d.sz, bytes)) (hz : z.cells.size = d.sz) (hs0 : 0 < d.sz) (hb0 : 0 < bytes)
    (z0 : α) {ok okp : Nat → Prop} (hzero : d.M W base okp z0 z.cells.toList) (hok : ∀ k, okp k → ok k) (hfresh : ok W.heap.size) (h0 : 0 ≤ n) (hl : n.toNat * bytes ≤ 281474976710656) (HB : Below base w0 W) (hbase : base ≤ W.heap.size)
    (h : ∀ v1 w1, d.R e w1 base ok v1 [] → Below base w0 w1 → W.grownBy w1 none → (∃ b, v1.ownBlock = some b ∧ W.heap.size ≤ b) → wpList P ops Q rest (a.put o.dst v1) w1) : wpList P ops Q (o :: rest) a W := by
  obtain ⟨hr, hown, hg⟩ := run_make0 (P := P) base t e d.sz bytes z n hinfo ht hb0 h0 hl hbase
  refine event_run hgd (v := .slice (some ⟨W.heap.size, 0, none⟩) 0 n.toNat) (w1 := W.alloc (.cells (madeCells z.cells (n.toNat * d.sz)) e)) ?_ (h _ _ (R_of_made0 (W := W) d hown hfresh) (HB.alloc hbase _) hg ⟨W.heap.size, by simp [Value.ownBlock], Nat.le_refl _⟩)
  simp [execOp, ho, hx, hy, hr]
end
end Kd
section
variable {P : Program} {ops : Array Oper} {rest : List Oper} {o : Oper} {a : Act} {Q : Exit → Act → World → Prop} {W : World}
theorem gate_calleev {n : Tmp} {as : Array Operand} {ts : Array TypeId} (_ho : o.op = .call { callee := .value (.tmp n), args := as, argTypes := ts }) (h : wpList P ops Q (o :: rest) a W) : wpList P ops Q (o :: rest) a W := h
end
end Go.Proofs.YtlphfhibnbhkfaaW.PrintWords
namespace Go.Proofs.YtlphfhibnbhkfaaW.PrintLast
open Go.RowKit
section
variable {P : Program} {md : Region.Mode} {ops : Array Oper} {Q : Exit → Act → World → Prop}
theorem goesL_v {rest : List Oper} {oi : Oper} {a : Act} {w : World} {co : Operand} {f : FuncId} (hv : a.eval co = .func (.func f) #[] #[]) (N : Option Tmp) (hd : oi.dst = N) (hg : oi.guard = none) {fn : Func} {as : Array Operand} {ts : Array TypeId} (hf : P.funcs[f]? = some fn) (hname : (fn.name == "runtime.NumGoroutine") = false) (hb : fn.body.isSome = true) (args : Array Value)
    (hop : oi.op = .call { callee := .value co, args := as, argTypes := ts }) (hargs : as.map a.eval = args)
    (h : Calls P f args w fun e w' => ∃ v, e = .returned v ∧ wpList P ops Q rest (a.put N v) w') : wpList P ops Q (oi :: rest) a w := by
  refine wpList_plain hg fun K hK => ?_
  have he := enters_ hf hname hb args w
  have hrun : (execOp a.eval oi).run P w = .ok (.enter f args) w := by
    unfold execOp
    simp [hop, resolve, Deferred.ofValue, invoke, hv, hargs, he]
  unfold Oper.wp
  rw [hrun, Oper.upon_enter]
  refine h.mono fun e w'' hh => ?_
  obtain ⟨v, rfl, hk⟩ := hh
  subst hd
  exact hK _ _ hk
end
end Go.Proofs.YtlphfhibnbhkfaaW.PrintLast
namespace Go.Proofs.YtlphfhibnbhkfaaW.PrintWords
open Go.RowKit
def bsL : Nat → Nat → List Bool
  | 0, _ => []
  | n + 1, m => (m % 2 == 1) :: bsL n (m / 2)
def bs (n m : Nat) : Array Bool := ⟨bsL n m⟩
theorem sA_ {α : Type} (l : List α) (i : Nat) (a : α) : l.toArray.setIfInBounds i a = (l.set i a).toArray := List.setIfInBounds_toArray l i a
theorem sZ_ {α : Type} (a b : α) (l : List α) : (a :: l).set 0 b = b :: l := rfl
theorem sS_ {α : Type} (a b : α) (l : List α) (n : Nat) : (a :: l).set (n + 1) b = a :: l.set n b := rfl
theorem fb_ {a p : Prop} (h : a) (k : a → p := by intro h_; (with_reducible repeat (first | refine blk_drewN ?_ _ | refine blk_drew ?_ | refine blk_alloc ?_ _)); exact h_) : p := k h
theorem fr_ {a p : Prop} (h : a) (k : a → p := by intro h_; (with_reducible repeat (first | apply Kd.R_alloc | apply Kd.R_drewN | apply Kd.R_drew)); exact h_) : p := k h
theorem bel_ {a p : Prop} (h : a) (k : a → p := by intro h_; repeat (first | (with_reducible first | exact h_ | apply below_alloc | apply pw_below_drewN | apply below_drew1 | refine below_set ?_ (Aside0.out (by assumption))) | exact h_)) : p := k h
section
open Go.Proofs.YtlphfhibnbhkfaaW.PrintLast
variable {P : Program} {ops : Array Oper} {Q : Exit → Act → World → Prop} {md : Region.Mode} {S : World → Prop} {ds : List Nat} {T : Bool × List (List Nat × List Nat)}
theorem pu_ (i n : Nat) {oi : Oper} {v : Value} {fuel : Nat} {l : Array Bool} {a : Act} {w : World} (hT : Aside0 (rtab md ops = T)) (l' : Array Bool) (hi : ops[i]? = some oi) (hN : oi.dst = some n) {a' : Act}
    (h : wpAnyLast P md ops Q S ds fuel l' a' w) (hc : anyT T l.toList l'.toList i = true := by kernel_rfl) (hQ : ∀ c a w, Q (.panic c) (a.put oi.dst v) w → Q (.panic c) a w := by exact fun _ _ _ h => h)
    (hy : Yields P ops oi v a := by refine Or.inl ⟨by rfl, ?_⟩; intro w'; go_simp; with_reducible rfl) (ha : a.put (some n) v = a' := by simp only [Act.put, sA_, sZ_, sS_, i64_w, i32_w]; rfl) : wpAnyLast P md ops Q S ds (fuel + 1) l a w :=
  pure_ (i := i) (N := some n) l' hi hN (any_of hT.out hc) hQ hy ha h
theorem pn_ (i n : Nat) {oi : Oper} {fuel : Nat} {l : Array Bool} {a : Act} {w : World} (hT : Aside0 (rtab md ops = T)) (l' : Array Bool) (hi : ops[i]? = some oi) (hN : oi.dst = some n) {a' : Act}
    (h : wpAnyLast P md ops Q S ds fuel l' a' w) (hc : anyT T l.toList l'.toList i = true := by kernel_rfl) (hQ : ∀ c a w, Q (.panic c) (a.put oi.dst undef) w → Q (.panic c) a w := by exact fun _ _ _ h => h)
    (hy : Yields P ops oi undef a := by exact Or.inr ⟨by rfl, rfl⟩) (ha : a.put (some n) undef = a' := by simp only [Act.put, sA_, sZ_, sS_, i64_w, i32_w]; rfl) : wpAnyLast P md ops Q S ds (fuel + 1) l a w :=
  pure_ (i := i) (N := some n) l' hi hN (any_of hT.out hc) hQ hy ha h
end
section
variable {α : Type} {d : Kd α} {e : Nat} {w0 W : World} {base : Nat} {ok : Nat → Prop} {v : Value} {xs : List α} {g1 g2 g3 : Nat}
end
section
variable {w0 W W2 : World} {g gb : Nat} {o : Obj}
theorem bb_ (h : w0.heap[g]? = some o) (hb : Below W.heap.size W W2) (k : w0.heap[g]? = some o → W.heap[g]? = some o := by intro h_; (with_reducible repeat (first | refine blk_drewN ?_ _ | refine blk_drew ?_ | refine blk_alloc ?_ _)); exact h_) : W2.heap[g]? = some o := blk_below (k h) hb
theorem rp_ {a p : Prop} (h : a) (k : a → p := by intro h_; (with_reducible repeat (first | refine blk_drewN ?_ _ | refine blk_drew ?_ | refine blk_alloc ?_ _)); exact h_) : p := k h
theorem ml_ {p : Prop} (k : True → p := by intro _; (try simp only [List.map_toArray, List.map_cons, List.map_nil]); first | done | rfl | (simp only [List.length_drop, List.length_take]; rfl)) : p := k trivial
theorem rc_ {a p : Prop} (h : a) (k : a → p := by intro h_; repeat (first | exact h_ | (with_reducible refine Kd.C_alloc ?_ _) | (with_reducible refine Kd.C_drewN ?_ _) | (with_reducible refine Kd.C_drew ?_))) : p := k h
end
section
variable {α : Type} {d : Kd α} {e : Nat} {w0 W : World} {base : Nat} {ok ok' : Nat → Prop} {v : Value} {xs : List α}
abbrev nB_ (v : Value) (k : Nat) : Prop := some k ≠ v.ownBlock
theorem rn_ (h : d.R e w0 base ok v xs) (hm : ∀ k, ok k → ok' k) (k : d.R e w0 base ok v xs → d.R e W base ok v xs := by intro h_; (with_reducible repeat (first | apply Kd.R_alloc | apply Kd.R_drewN | apply Kd.R_drew)); exact h_) : d.R e W base ok' v xs := Kd.R_mono (k h) hm
theorem bc_ {w : World} {g : Nat} {t : TypeId} {cs : Array Value} (h : w.heap[g]? = some (.cells cs t (0, 0))) (i : Nat) {u : Value} (e : cs[i]? = some u := by rfl) : w.cell? ⟨g, i, none⟩ = some u := (blk_cell h i).trans e
theorem rl_ {p : Prop} (k : True → p := by intro _; first | rfl | (simp; done) | (simp [*]; done) | (simp [wrap64]; done)) : p := k trivial
end
section
variable {P : Program} {ops : Array Oper} {rest : List Oper} {o : Oper} {a : Act} {Q : Exit → Act → World → Prop} {α : Type}
end
section
variable {P : Program} {ops : Array Oper} {o : Oper} {a : Act} {Q : Exit → Act → World → Prop} {Kc : Act → World → Prop} {α : Type}
end
namespace Kd
def flt : Kd Nat := scalar (Value.float .f64) (fun _ => rfl)
end Kd
namespace Kd
variable {α β : Type} {d : Kd α} {d' : Kd β} {w : World} {e e' base base' : Nat} {ok ok' : Nat → Prop} {v : Value} {xs : List α} {ys : List β}
end Kd
section
variable {P : Program}
end
section
variable {P : Program} {ops : Array Oper} {rest : List Oper} {o : Oper} {a : Act} {Q : Exit → Act → World → Prop} {Kc : Act → World → Prop}
end
namespace Kd
section
variable {α : Type} {d : Kd α} {e e' base : Nat} {f : Nat → Nat} {P S ok : Nat → Prop} {w W W2 w1 : World} {u v : Value} {rows : List (List Value)} {l : List (List α)} {x y : List α}
def El (d : Kd α) (e : Nat) (f : Nat → Nat) (P : Nat → Prop) (base : Nat) (u : Value) (W : World) (rows : List (List Value)) (l : List (List α)) : Prop :=
  rows.length = l.length ∧ ∀ (j : Nat) (x : List α), l[j]? = some x → ∃ v, rows[j]? = some [v] ∧ d.R e W base (fun k => P k ∧ f k = j ∧ some k ≠ u.ownBlock) v x
end
end Kd
namespace Kd
section
variable {α : Type} {d : Kd α} {e base N : Nat} {ok S : Nat → Prop} {w W W2 w1 : World} {u v : Value} {xs : List α}
def szof {n : Nat} {w w1 : World} (_ : Below n w w1) : Nat := n
end
end Kd
namespace Kd
end Kd
end Go.Proofs.YtlphfhibnbhkfaaW.PrintWords
namespace Go.Proofs.YtlphfhibnbhkfaaW.PrintWords
section
variable {P : Program} {Q : Exit → Act → World → Prop} {a : Act} {w : World}
theorem chap_in {R : (Nat → Value) → Prop} {F : (Nat → Value) → Array Value} {l : List Value} (hF : F (fun n => l.getD n undef) = l.toArray) (hr : R (fun n => l.getD n undef)) : ∃ u, R u ∧ (⟨l.toArray, []⟩ : Act) = ⟨F u, []⟩ := ⟨_, hr, by rw [hF]⟩
theorem wp_chap6 {s1 s2 s3 s4 s5 s6 d : Code} (R : Act → World → Prop) (rest : ∀ a' w', R a' w' → d.wp P Q a' w') (first : ∀ (D : Code) (J : Act → World → Prop), (∀ a' w', R a' w' → J a' w') → (∀ a' w', Met J a' w' → D.wp P Q a' w') → (Code.seq s1 (Code.seq s2 (Code.seq s3 (Code.seq s4 (Code.seq s5 (Code.seq s6 D)))))).wp P Q a w) : (Code.seq s1 (Code.seq s2 (Code.seq s3 (Code.seq s4 (Code.seq s5 (Code.seq s6 d)))))).wp P Q a w := first d R (fun _ _ h => h) (fun _ _ h => rest _ _ h)
theorem wp_chap8 {s1 s2 s3 s4 s5 s6 s7 s8 d : Code} (R : Act → World → Prop) (rest : ∀ a' w', R a' w' → d.wp P Q a' w') (first : ∀ (D : Code) (J : Act → World → Prop), (∀ a' w', R a' w' → J a' w') → (∀ a' w', Met J a' w' → D.wp P Q a' w') → (Code.seq s1 (Code.seq s2 (Code.seq s3 (Code.seq s4 (Code.seq s5 (Code.seq s6 (Code.seq s7 (Code.seq s8 D)))))))).wp P Q a w) : (Code.seq s1 (Code.seq s2 (Code.seq s3 (Code.seq s4 (Code.seq s5 (Code.seq s6 (Code.seq s7 (Code.seq s8 d)))))))).wp P Q a w := first d R (fun _ _ h => h) (fun _ _ h => rest _ _ h)
end
end Go.Proofs.YtlphfhibnbhkfaaW.PrintWords
