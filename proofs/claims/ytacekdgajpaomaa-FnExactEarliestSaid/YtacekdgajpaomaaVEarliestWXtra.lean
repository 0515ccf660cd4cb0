import Derived.Test.YtacekdgajpaomaaVEarliestWWords
import Derived.Test.YtacekdgajpaomaaVEarliestWLast
import Derived.Test.YtacekdgajpaomaaVEarliestWApart
import Derived.Test.YtacekdgajpaomaaVEarliestWNEv
import Derived.Test.YtacekdgajpaomaaVEarliestWMore
import Derived.Test.YtacekdgajpaomaaVEarliestWTab
set_option linter.unusedVariables false
namespace Go.Proofs.YtacekdgajpaomaaW.PrintWords
open Go.RowKit
namespace Kd
section
variable {P : Program} {ops : Array Oper} {rest : List Oper} {o : Oper} {a : Act} {Q : Exit → Act → World → Prop} {α : Type} {md : Region.Mode} {Kc : Act → World → Prop}
end
theorem C_one {α : Type} {d : Kd α} {W : World} {g t : Nat} {cs : Array Value} {x : α} (hb : W.heap[g]? = some (.cells cs t (0, 0))) (hk : d.K W x cs.toList) (hs : cs.size = d.sz) : d.C W (some ⟨g, 0, none⟩) 1 [x] :=
  ⟨rfl, by omega, fun _ => ⟨_, rfl, fun j p hj => by
    cases j with
    | succ j => simp at hj
    | zero =>
      simp only [List.getElem?_cons_zero, Option.some.injEq] at hj
      subst hj
      refine ⟨cs.toList, by rw [Array.length_toList, hs], hk, fun i u hu => ?_⟩
      rw [Nat.zero_mul, Nat.zero_add, add_plain, blk_cell hb, ← Array.getElem?_toList]
      exact hu⟩⟩
end Kd
section
variable {P : Program} {ops : Array Oper} {rest : List Oper} {o : Oper} {a : Act} {Q : Exit → Act → World → Prop} {W : World}
end
end Go.Proofs.YtacekdgajpaomaaW.PrintWords
namespace Go.Proofs.YtacekdgajpaomaaW.PrintLast
open Go.RowKit
section
variable {P : Program} {md : Region.Mode} {ops : Array Oper} {Q : Exit → Act → World → Prop}
end
end Go.Proofs.YtacekdgajpaomaaW.PrintLast
namespace Go.Proofs.YtacekdgajpaomaaW.PrintWords
open Go.RowKit
def bsL : Nat → Nat → List Bool
  | 0, _ => []
  | n + 1, m => (m % 2 == 1) :: bsL n (m / 2)
def bs (n m : Nat) : Array Bool := ⟨bsL n m⟩
theorem sA_ {α : Type} (l : List α) (i : Nat) (a : α) : l.toArray.setIfInBounds i a = (l.set i a).toArray := List.setIfInBounds_toArray l i a
theorem sZ_ {α : Type} (a b : α) (l : List α) : (a :: l).set 0 b = b :: l := rfl
theorem sS_ {α : Type} (a b : α) (l : List α) (n : Nat) : (a :: l).set (n + 1) b = a :: l.set n b := rfl
theorem fb_ {a p : Prop} (h : a) (k : a → p := by intro h_; (with_reducible repeat (first | refine blk_drewN ?_ _ | refine blk_drew ?_ | refine blk_alloc ?_ _)); exact h_) : p := k h
theorem fr_ {a p : Prop} (h : a) (k : a → p := by intro h_; (with_reducible repeat (first | apply Kd.R_alloc | apply Kd.R_drewN | apply Kd.R_drew)); exact h_) : p := k h
theorem bel_ {a p : Prop} (h : a) (k : a → p := by intro h_; repeat (first | (with_reducible first | exact h_ | apply below_alloc | apply pw_below_drewN | apply below_drew1 | refine below_set ?_ (Aside0.out (by assumption))) | exact h_)) : p := k h
section
open Go.Proofs.YtacekdgajpaomaaW.PrintLast
variable {P : Program} {ops : Array Oper} {Q : Exit → Act → World → Prop} {md : Region.Mode} {S : World → Prop} {ds : List Nat} {T : Bool × List (List Nat × List Nat)}
theorem pu_ (i n : Nat) {oi : Oper} {v : Value} {fuel : Nat} {l : Array Bool} {a : Act} {w : World} (hT : Aside0 (rtab md ops = T)) (l' : Array Bool) (hi : ops[i]? = some oi) (hN : oi.dst = some n) {a' : Act}
    (h : wpAnyLast P md ops Q S ds fuel l' a' w) (hc : anyT T l.toList l'.toList i = true := by kernel_rfl) (hQ : ∀ c a w, Q (.panic c) (a.put oi.dst v) w → Q (.panic c) a w := by exact fun _ _ _ h => h)
    (hy : Yields P ops oi v a := by refine Or.inl ⟨by rfl, ?_⟩; intro w'; go_simp; with_reducible rfl) (ha : a.put (some n) v = a' := by simp only [Act.put, sA_, sZ_, sS_, i64_w, i32_w]; rfl) : wpAnyLast P md ops Q S ds (fuel + 1) l a w :=
  pure_ (i := i) (N := some n) l' hi hN (any_of hT.out hc) hQ hy ha h
theorem pn_ (i n : Nat) {oi : Oper} {fuel : Nat} {l : Array Bool} {a : Act} {w : World} (hT : Aside0 (rtab md ops = T)) (l' : Array Bool) (hi : ops[i]? = some oi) (hN : oi.dst = some n) {a' : Act}
    (h : wpAnyLast P md ops Q S ds fuel l' a' w) (hc : anyT T l.toList l'.toList i = true := by kernel_rfl) (hQ : ∀ c a w, Q (.panic c) (a.put oi.dst undef) w → Q (.panic c) a w := by exact fun _ _ _ h => h)
    (hy : Yields P ops oi undef a := by exact Or.inr ⟨by rfl, rfl⟩) (ha : a.put (some n) undef = a' := by simp only [Act.put, sA_, sZ_, sS_, i64_w, i32_w]; rfl) : wpAnyLast P md ops Q S ds (fuel + 1) l a w :=
  pure_ (i := i) (N := some n) l' hi hN (any_of hT.out hc) hQ hy ha h
end
section
variable {α : Type} {d : Kd α} {e : Nat} {w0 W : World} {base : Nat} {ok : Nat → Prop} {v : Value} {xs : List α} {g1 g2 g3 : Nat}
theorem rt_ {g t : Nat} {cells : Array Value} (h : d.R e w0 base ok v xs) (hb : w0.heap[g]? = some (.cells cells t (0, 0))) (ht : ∀ q, q ∈ e :: d.E → q ≠ t := by decide) : d.R e w0 base (fun k => ok k ∧ k ≠ g) v xs := Kd.R_types h hb ht
end
section
variable {w0 W W2 : World} {g gb : Nat} {o : Obj}
theorem fa_ {a p : Prop} (h : a) (k : a → p := by intro h_; repeat (first | (with_reducible first | exact h_ | refine blk_drewN ?_ _ | refine blk_drew ?_ | refine blk_alloc ?_ _) | refine blk_far ?_ (Aside0.out (by assumption)) _)) : p := k h
theorem bb_ (h : w0.heap[g]? = some o) (hb : Below W.heap.size W W2) (k : w0.heap[g]? = some o → W.heap[g]? = some o := by intro h_; (with_reducible repeat (first | refine blk_drewN ?_ _ | refine blk_drew ?_ | refine blk_alloc ?_ _)); exact h_) : W2.heap[g]? = some o := blk_below (k h) hb
theorem nl_ (h : w0.heap[g]? = some o) (hg : gb = W.heap.size) (k : w0.heap[g]? = some o → W.heap[g]? = some o := by intro h_; (with_reducible repeat (first | refine blk_drewN ?_ _ | refine blk_drew ?_ | refine blk_alloc ?_ _)); exact h_) : g ≠ gb := by
  rw [hg]; exact Nat.ne_of_lt (blk_lt (k h))
theorem ng_ (h : w0.heap[g]? = some o) (hg : gb = W.heap.size) (k : w0.heap[g]? = some o → W.heap[g]? = some o := by intro h_; (with_reducible repeat (first | refine blk_drewN ?_ _ | refine blk_drew ?_ | refine blk_alloc ?_ _)); exact h_) : gb ≠ g := by
  rw [hg]; exact Nat.ne_of_gt (blk_lt (k h))
theorem rp_ {a p : Prop} (h : a) (k : a → p := by intro h_; (with_reducible repeat (first | refine blk_drewN ?_ _ | refine blk_drew ?_ | refine blk_alloc ?_ _)); exact h_) : p := k h
theorem ml_ {p : Prop} (k : True → p := by intro _; (try simp only [List.map_toArray, List.map_cons, List.map_nil]); first | done | rfl | (simp only [List.length_drop, List.length_take]; rfl)) : p := k trivial
end
section
variable {α : Type} {d : Kd α} {e : Nat} {w0 W : World} {base : Nat} {ok ok' : Nat → Prop} {v : Value} {xs : List α}
abbrev nB_ (v : Value) (k : Nat) : Prop := some k ≠ v.ownBlock
end
section
variable {P : Program} {ops : Array Oper} {rest : List Oper} {o : Oper} {a : Act} {Q : Exit → Act → World → Prop} {α : Type}
end
section
variable {P : Program} {ops : Array Oper} {o : Oper} {a : Act} {Q : Exit → Act → World → Prop} {Kc : Act → World → Prop} {α : Type}
end
namespace Kd
def flt : Kd Nat := scalar (Value.float .f64) (fun _ => rfl)
end Kd
namespace Kd
variable {α β : Type} {d : Kd α} {d' : Kd β} {w : World} {e e' base base' : Nat} {ok ok' : Nat → Prop} {v : Value} {xs : List α} {ys : List β}
end Kd
section
variable {P : Program}
end
section
variable {P : Program} {ops : Array Oper} {rest : List Oper} {o : Oper} {a : Act} {Q : Exit → Act → World → Prop} {Kc : Act → World → Prop}
end
namespace Kd
section
variable {α : Type} {d : Kd α} {e e' base : Nat} {f : Nat → Nat} {P S ok : Nat → Prop} {w W W2 w1 : World} {u v : Value} {rows : List (List Value)} {l : List (List α)} {x y : List α}
def El (d : Kd α) (e : Nat) (f : Nat → Nat) (P : Nat → Prop) (base : Nat) (u : Value) (W : World) (rows : List (List Value)) (l : List (List α)) : Prop :=
  rows.length = l.length ∧ ∀ (j : Nat) (x : List α), l[j]? = some x → ∃ v, rows[j]? = some [v] ∧ d.R e W base (fun k => P k ∧ f k = j ∧ some k ≠ u.ownBlock) v x
end
end Kd
namespace Kd
section
variable {α : Type} {d : Kd α} {e base N : Nat} {ok S : Nat → Prop} {w W W2 w1 : World} {u v : Value} {xs : List α}
def szof {n : Nat} {w w1 : World} (_ : Below n w w1) : Nat := n
end
end Kd
end Go.Proofs.YtacekdgajpaomaaW.PrintWords
