import Derived.Test.YtlphfhibnbhkfaaVYardWWords
import Derived.Test.YtlphfhibnbhkfaaVYardWLast
import Derived.Test.YtlphfhibnbhkfaaVYardWApart
import Derived.Test.YtlphfhibnbhkfaaVYardWNEv
import Derived.Test.YtlphfhibnbhkfaaVYardWMore
import Derived.Test.YtlphfhibnbhkfaaVYardWTab
set_option linter.unusedVariables false
namespace Go.Proofs.YtlphfhibnbhkfaaW.PrintWords
open Go.RowKit
namespace Kd
section
variable {P : Program} {ops : Array Oper} {rest : List Oper} {o : Oper} {a : Act} {Q : Exit → Act → World → Prop} {α : Type} {md : Region.Mode} {Kc : Act → World → Prop}
theorem run_make0 {w : World} (base : Nat) (t e : TypeId) (size bytes : Nat) (z : Value) (n : Int) (hinfo : (P.info? e).map (fun i => (i.zero, i.size, i.bytes)) = some (some z, size, bytes))
    (ht : P.underlying t = some (.slice e)) (hb0 : 0 < bytes) (h0 : 0 ≤ n) (hl : n.toNat * bytes ≤ 281474976710656) (hbase : base ≤ w.heap.size) :
    (Instr.makeSlice t (.int .i64 0) (.int .i64 n)).run P w = .ok (.slice (some ⟨w.heap.size, 0, none⟩) 0 n.toNat) (w.alloc (.cells (madeCells z.cells (n.toNat * size)) e)) ∧
      (w.alloc (.cells (madeCells z.cells (n.toNat * size)) e)).ownsRow base e size (.slice (some ⟨w.heap.size, 0, none⟩) 0 n.toNat) 0 [] ∧ w.grownBy (w.alloc (.cells (madeCells z.cells (n.toNat * size)) e)) none := by
  obtain ⟨m, rfl⟩ := Int.eq_ofNat_of_zero_le h0
  simp only [Int.toNat_natCast] at hl ⊢
  obtain ⟨i0, hi, hzz⟩ := Option.map_eq_some_iff.1 hinfo
  simp only [Prod.mk.injEq] at hzz
  obtain ⟨hz0, hz1, hz2⟩ := hzz
  have hm : m ≤ 281474976710656 := Nat.le_trans (Nat.le_mul_of_pos_right _ hb0) hl
  have hr := run_make (P := P) w t e i0 z ht hi hz0 .i64 .i64 0 (m : Int) (Int.le_refl _) (by omega)
    (by
      have h3 : ((i0.bytes * m : Nat) : Int) ≤ 281474976710656 := by rw [hz2, Nat.mul_comm]; omega
      rwa [Int.natCast_mul] at h3) (by omega)
  simp only [Int.toNat_natCast, Int.toNat_zero] at hr
  rw [hz1] at hr
  exact ⟨hr, World.ownsRow_made w _ m hbase (by simp only [maxLen]; omega) (size_madeCells _ _), World.grownBy_alloc w _ none⟩
theorem R_of_made0 (d : Kd α) {W w1 : World} {base e cap g : Nat} {ok : Nat → Prop} (hown : w1.ownsRow base e d.sz (.slice (some ⟨g, 0, none⟩) 0 cap) 0 []) (hok : ok g) : d.R e w1 base ok (.slice (some ⟨g, 0, none⟩) 0 cap) [] := by
  refine ⟨fun k hk => ?_, [], hown, ⟨by simp, fun j p h => by simp at h⟩⟩
  have : g = k := by simpa [Value.ownBlock] using hk
  subst this
  exact hok
theorem R_make0 (d : Kd α) {w0 W : World} (base e : Nat) (hgd : o.guard = none) {N : Tmp} (hd : o.dst = some N) (t : TypeId) (x y : Operand) (ho : o.op = .makeSlice t x y) (n : Int) (hx : a.eval x = .int .i64 0) (hy : a.eval y = .int .i64 n)
    (ht : P.underlying t = some (.slice e)) (z : Value) (bytes : Nat) (hinfo : (P.info? e).map (fun i => (i.zero, i.size, i.bytes)) = some (some z, d.sz, bytes)) (hz : z.cells.size = d.sz) (hs0 : 0 < d.sz) (hb0 : 0 < bytes)
    (z0 : α) {ok okp : Nat → Prop} (hzero : d.M W base okp z0 z.cells.toList) (hok : ∀ k, okp k → ok k) (hfresh : ok W.heap.size) (h0 : 0 ≤ n) (hl : n.toNat * bytes ≤ 281474976710656) (HB : Below base w0 W) (hbase : base ≤ W.heap.size)
    (h : ∀ v1 w1, d.R e w1 base ok v1 [] → Below base w0 w1 → W.grownBy w1 none → (∃ b, v1.ownBlock = some b ∧ W.heap.size ≤ b) → wpList P ops Q rest (a.put o.dst v1) w1) : wpList P ops Q (o :: rest) a W := by
  obtain ⟨hr, hown, hg⟩ := run_make0 (P := P) base t e d.sz bytes z n hinfo ht hb0 h0 hl hbase
  refine event_run hgd (v := .slice (some ⟨W.heap.size, 0, none⟩) 0 n.toNat) (w1 := W.alloc (.cells (madeCells z.cells (n.toNat * d.sz)) e)) ?_ (h _ _ (R_of_made0 (W := W) d hown hfresh) (HB.alloc hbase _) hg ⟨W.heap.size, by simp [Value.ownBlock], Nat.le_refl _⟩)
  simp [execOp, ho, hx, hy, hr]
theorem N_make0 (d : Kd α) {w0 W : World} (base e : Nat) (hgd : o.guard = none) {N' : Tmp} (hd : o.dst = some N') (t : TypeId) (x y : Operand) (ho : o.op = .makeSlice t x y) (n : Int) (hx : a.eval x = .int .i64 0) (hy : a.eval y = .int .i64 n)
    (ht : P.underlying t = some (.slice e)) (z : Value) (bytes : Nat) (hinfo : (P.info? e).map (fun i => (i.zero, i.size, i.bytes)) = some (some z, d.sz, bytes)) (hz : z.cells.size = d.sz) (hs0 : 0 < d.sz) (hb0 : 0 < bytes)
    (z0 : α) {ok okp : Nat → Prop} (hzero : FK d W okp z0 z.cells.toList) (hok : ∀ k, okp k → ok k) (hfresh : ok W.heap.size) (h0 : 0 ≤ n) (hl : n.toNat * bytes ≤ 281474976710656) (HB : Below base w0 W) (hbase : base ≤ W.heap.size)
    (h : ∀ v1 w1, N d e w1 base ok v1 [] → Below base w0 w1 → W.grownBy w1 none → (∃ b, v1.ownBlock = some b ∧ W.heap.size ≤ b) → wpList P ops Q rest (a.put o.dst v1) w1) :
    wpList P ops Q (o :: rest) a W := by
  refine R_make0 (raw d.sz) base e hgd hd t x y ho n hx hy ht z bytes hinfo hz hs0 hb0 z.cells.toList (ok := fun k => k = W.heap.size) (okp := fun _ => False) (FK_raw hzero) (fun _ hk => hk.elim) rfl h0 hl HB hbase ?_
  intro v1 w1 hr hb hg hat
  exact h v1 w1 (N_made (xs := []) hr hg hat rfl (fun j y c hy hc => by simp at hy) hok hfresh) hb hg hat
end
theorem C_one {α : Type} {d : Kd α} {W : World} {g t : Nat} {cs : Array Value} {x : α} (hb : W.heap[g]? = some (.cells cs t (0, 0))) (hk : d.K W x cs.toList) (hs : cs.size = d.sz) : d.C W (some ⟨g, 0, none⟩) 1 [x] :=
  ⟨rfl, by omega, fun _ => ⟨_, rfl, fun j p hj => by
    cases j with
    | succ j => simp at hj
    | zero =>
      simp only [List.getElem?_cons_zero, Option.some.injEq] at hj
      subst hj
      refine ⟨cs.toList, by rw [Array.length_toList, hs], hk, fun i u hu => ?_⟩
      rw [Nat.zero_mul, Nat.zero_add, add_plain, blk_cell hb, ← Array.getElem?_toList]
      exact hu⟩⟩
end Kd
section
variable {P : Program} {ops : Array Oper} {rest : List Oper} {o : Oper} {a : Act} {Q : Exit → Act → World → Prop} {W : World}
end
end Go.Proofs.YtlphfhibnbhkfaaW.PrintWords
namespace Go.Proofs.YtlphfhibnbhkfaaW.PrintLast
open Go.RowKit
section
variable {P : Program} {md : Region.Mode} {ops : Array Oper} {Q : Exit → Act → World → Prop}
end
end Go.Proofs.YtlphfhibnbhkfaaW.PrintLast
namespace Go.Proofs.YtlphfhibnbhkfaaW.PrintWords
open Go.RowKit
def bsL : Nat → Nat → List Bool
  | 0, _ => []
  | n + 1, m => (m % 2 == 1) :: bsL n (m / 2)
def bs (n m : Nat) : Array Bool := ⟨bsL n m⟩
theorem sA_ {α : Type} (l : List α) (i : Nat) (a : α) : l.toArray.setIfInBounds i a = (l.set i a).toArray := List.setIfInBounds_toArray l i a
theorem sZ_ {α : Type} (a b : α) (l : List α) : (a :: l).set 0 b = b :: l := rfl
theorem sS_ {α : Type} (a b : α) (l : List α) (n : Nat) : (a :: l).set (n + 1) b = a :: l.set n b := rfl
theorem fb_ {a p : Prop} (h : a) (k : a → p := by intro h_; (with_reducible repeat (first | refine blk_drewN ?_ _ | refine blk_drew ?_ | refine blk_alloc ?_ _)); exact h_) : p := k h
theorem fr_ {a p : Prop} (h : a) (k : a → p := by intro h_; (with_reducible repeat (first | apply Kd.R_alloc | apply Kd.R_drewN | apply Kd.R_drew)); exact h_) : p := k h
theorem bel_ {a p : Prop} (h : a) (k : a → p := by intro h_; repeat (first | (with_reducible first | exact h_ | apply below_alloc | apply pw_below_drewN | apply below_drew1 | refine below_set ?_ (Aside0.out (by assumption))) | exact h_)) : p := k h
section
open Go.Proofs.YtlphfhibnbhkfaaW.PrintLast
variable {P : Program} {ops : Array Oper} {Q : Exit → Act → World → Prop} {md : Region.Mode} {S : World → Prop} {ds : List Nat} {T : Bool × List (List Nat × List Nat)}
theorem pu_ (i n : Nat) {oi : Oper} {v : Value} {fuel : Nat} {l : Array Bool} {a : Act} {w : World} (hT : Aside0 (rtab md ops = T)) (l' : Array Bool) (hi : ops[i]? = some oi) (hN : oi.dst = some n) {a' : Act}
    (h : wpAnyLast P md ops Q S ds fuel l' a' w) (hc : anyT T l.toList l'.toList i = true := by kernel_rfl) (hQ : ∀ c a w, Q (.panic c) (a.put oi.dst v) w → Q (.panic c) a w := by exact fun _ _ _ h => h)
    (hy : Yields P ops oi v a := by refine Or.inl ⟨by rfl, ?_⟩; intro w'; go_simp; with_reducible rfl) (ha : a.put (some n) v = a' := by simp only [Act.put, sA_, sZ_, sS_, i64_w, i32_w]; rfl) : wpAnyLast P md ops Q S ds (fuel + 1) l a w :=
  pure_ (i := i) (N := some n) l' hi hN (any_of hT.out hc) hQ hy ha h
theorem pn_ (i n : Nat) {oi : Oper} {fuel : Nat} {l : Array Bool} {a : Act} {w : World} (hT : Aside0 (rtab md ops = T)) (l' : Array Bool) (hi : ops[i]? = some oi) (hN : oi.dst = some n) {a' : Act}
    (h : wpAnyLast P md ops Q S ds fuel l' a' w) (hc : anyT T l.toList l'.toList i = true := by kernel_rfl) (hQ : ∀ c a w, Q (.panic c) (a.put oi.dst undef) w → Q (.panic c) a w := by exact fun _ _ _ h => h)
    (hy : Yields P ops oi undef a := by exact Or.inr ⟨by rfl, rfl⟩) (ha : a.put (some n) undef = a' := by simp only [Act.put, sA_, sZ_, sS_, i64_w, i32_w]; rfl) : wpAnyLast P md ops Q S ds (fuel + 1) l a w :=
  pure_ (i := i) (N := some n) l' hi hN (any_of hT.out hc) hQ hy ha h
end
section
variable {α : Type} {d : Kd α} {e : Nat} {w0 W : World} {base : Nat} {ok : Nat → Prop} {v : Value} {xs : List α} {g1 g2 g3 : Nat}
theorem rf1_ (h : d.R e w0 base (fun k => ok k ∧ k ≠ g1) v xs) (k : d.R e w0 base (fun k => ok k ∧ k ≠ g1) v xs → d.R e W base (fun k => ok k ∧ k ≠ g1) v xs := by intro h_; repeat (first | (with_reducible first | exact h_ | apply Kd.R_alloc | apply Kd.R_drewN | apply Kd.R_drew) | refine Kd.R_far ?_ (by intro _ hk; first | exact hk.2 | exact hk.1.2 | exact hk.1.1.2) _)) : d.R e W base ok v xs := Kd.R_mono (k h) (fun _ h => h.1)
theorem rt_ {g t : Nat} {cells : Array Value} (h : d.R e w0 base ok v xs) (hb : w0.heap[g]? = some (.cells cells t (0, 0))) (ht : ∀ q, q ∈ e :: d.E → q ≠ t := by decide) : d.R e w0 base (fun k => ok k ∧ k ≠ g) v xs := Kd.R_types h hb ht
end
section
variable {w0 W W2 : World} {g gb : Nat} {o : Obj}
theorem bb_ (h : w0.heap[g]? = some o) (hb : Below W.heap.size W W2) (k : w0.heap[g]? = some o → W.heap[g]? = some o := by intro h_; (with_reducible repeat (first | refine blk_drewN ?_ _ | refine blk_drew ?_ | refine blk_alloc ?_ _)); exact h_) : W2.heap[g]? = some o := blk_below (k h) hb
theorem ba_ (h : w0.heap[g]? = some o) (hb : Below W.heap.size W W2) (k : w0.heap[g]? = some o → W.heap[g]? = some o := by intro h_; repeat (first | (with_reducible first | exact h_ | refine blk_drewN ?_ _ | refine blk_drew ?_ | refine blk_alloc ?_ _) | refine blk_far ?_ (Aside0.out (by assumption)) _)) : W2.heap[g]? = some o := blk_below (k h) hb
theorem nl_ (h : w0.heap[g]? = some o) (hg : gb = W.heap.size) (k : w0.heap[g]? = some o → W.heap[g]? = some o := by intro h_; (with_reducible repeat (first | refine blk_drewN ?_ _ | refine blk_drew ?_ | refine blk_alloc ?_ _)); exact h_) : g ≠ gb := by
  rw [hg]; exact Nat.ne_of_lt (blk_lt (k h))
theorem ng_ (h : w0.heap[g]? = some o) (hg : gb = W.heap.size) (k : w0.heap[g]? = some o → W.heap[g]? = some o := by intro h_; (with_reducible repeat (first | refine blk_drewN ?_ _ | refine blk_drew ?_ | refine blk_alloc ?_ _)); exact h_) : gb ≠ g := by
  rw [hg]; exact Nat.ne_of_gt (blk_lt (k h))
theorem rp_ {a p : Prop} (h : a) (k : a → p := by intro h_; (with_reducible repeat (first | refine blk_drewN ?_ _ | refine blk_drew ?_ | refine blk_alloc ?_ _)); exact h_) : p := k h
theorem ml_ {p : Prop} (k : True → p := by intro _; (try simp only [List.map_toArray, List.map_cons, List.map_nil]); first | done | rfl | (simp only [List.length_drop, List.length_take]; rfl)) : p := k trivial
theorem rc_ {a p : Prop} (h : a) (k : a → p := by intro h_; repeat (first | exact h_ | (with_reducible refine Kd.C_alloc ?_ _) | (with_reducible refine Kd.C_drewN ?_ _) | (with_reducible refine Kd.C_drew ?_))) : p := k h
end
section
variable {α : Type} {d : Kd α} {e : Nat} {w0 W : World} {base : Nat} {ok ok' : Nat → Prop} {v : Value} {xs : List α}
abbrev nB_ (v : Value) (k : Nat) : Prop := some k ≠ v.ownBlock
end
section
variable {P : Program} {ops : Array Oper} {rest : List Oper} {o : Oper} {a : Act} {Q : Exit → Act → World → Prop} {α : Type}
end
section
variable {P : Program} {ops : Array Oper} {o : Oper} {a : Act} {Q : Exit → Act → World → Prop} {Kc : Act → World → Prop} {α : Type}
end
namespace Kd
def flt : Kd Nat := scalar (Value.float .f64) (fun _ => rfl)
end Kd
namespace Kd
variable {α β : Type} {d : Kd α} {d' : Kd β} {w : World} {e e' base base' : Nat} {ok ok' : Nat → Prop} {v : Value} {xs : List α} {ys : List β}
end Kd
section
variable {P : Program}
end
section
variable {P : Program} {ops : Array Oper} {rest : List Oper} {o : Oper} {a : Act} {Q : Exit → Act → World → Prop} {Kc : Act → World → Prop}
end
namespace Kd
section
variable {α : Type} {d : Kd α} {e e' base : Nat} {f : Nat → Nat} {P S ok : Nat → Prop} {w W W2 w1 : World} {u v : Value} {rows : List (List Value)} {l : List (List α)} {x y : List α}
def El (d : Kd α) (e : Nat) (f : Nat → Nat) (P : Nat → Prop) (base : Nat) (u : Value) (W : World) (rows : List (List Value)) (l : List (List α)) : Prop :=
  rows.length = l.length ∧ ∀ (j : Nat) (x : List α), l[j]? = some x → ∃ v, rows[j]? = some [v] ∧ d.R e W base (fun k => P k ∧ f k = j ∧ some k ≠ u.ownBlock) v x
theorem El_start (h : Kd.S (Kd.slice e d) e' w base P u l) : ∃ (f : Nat → Nat) (rows : List (List Value)), (∀ k, u.ownBlock = some k → P k) ∧ Kd.R (Kd.raw 1) e' w base (fun k => some k = u.ownBlock) u rows ∧ El d e f P base u w rows l := by
  obtain ⟨f, h0, inner, ho, hr⟩ := h
  refine ⟨f, Kd.chunks 1 l.zipIdx.length inner, h0, ⟨fun k hk => hk.symm, inner, by rw [Kd.chunks_length]; exact ho, Kd.reps_raw hr (fun x c hp => ⟨(Kd.slice e d).K_len ((Kd.slice e d).K_of_M hp), (Kd.slice e d).K_one ((Kd.slice e d).K_of_M hp)⟩)⟩, by rw [Kd.chunks_length, List.length_zipIdx], fun j x hx => ?_⟩
  obtain ⟨v, hcs, g2⟩ := hr.2 j (x, j) (Kd.zip_at hx)
  have hj : j < l.zipIdx.length := by rw [List.length_zipIdx]; exact (List.getElem?_eq_some_iff.1 hx).1
  refine ⟨v, ?_, Kd.R_mono g2 (fun k hk => ⟨hk.1.1, hk.2, hk.1.2⟩)⟩
  rw [Kd.chunks_at hj]
  exact congrArg some hcs
theorem El_stop (hP : ∀ k, u.ownBlock = some k → P k) (hR : Kd.R (Kd.raw 1) e' w base ok u rows) (h : El d e f P base u w rows l) : Kd.S (Kd.slice e d) e' w base P u l := by
  obtain ⟨_, inner, ho, hr⟩ := hR
  refine ⟨f, hP, inner, by rw [List.length_zipIdx, ← h.1]; exact ho, ⟨by rw [List.length_zipIdx, ← h.1]; exact hr.1, fun j p hj => ?_⟩⟩
  obtain ⟨x, j'⟩ := p
  obtain ⟨rfl, hx⟩ : j' = j ∧ l[j]? = some x := by
    rw [List.getElem?_zipIdx, Option.map_eq_some_iff] at hj
    obtain ⟨a, ha, he⟩ := hj
    injection he with h1 h2
    exact ⟨by omega, by rw [ha, h1]⟩
  obtain ⟨v, hv, hR⟩ := h.2 _ _ hx
  exact ⟨v, (hr.2 _ _ hv).1, Kd.R_mono hR (fun k hk => ⟨⟨hk.1, hk.2.2⟩, hk.2.1⟩)⟩
end
end Kd
namespace Kd
section
variable {α : Type} {d : Kd α} {e base N : Nat} {ok S : Nat → Prop} {w W W2 w1 : World} {u v : Value} {xs : List α}
def szof {n : Nat} {w w1 : World} (_ : Below n w w1) : Nat := n
end
end Kd
namespace Kd
end Kd
end Go.Proofs.YtlphfhibnbhkfaaW.PrintWords
namespace Go.Proofs.YtlphfhibnbhkfaaW.PrintWords
section
variable {P : Program} {Q : Exit → Act → World → Prop} {a : Act} {w : World}
end
end Go.Proofs.YtlphfhibnbhkfaaW.PrintWords
