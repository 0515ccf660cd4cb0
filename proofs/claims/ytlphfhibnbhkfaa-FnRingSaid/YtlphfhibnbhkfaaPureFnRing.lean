/- On a floor of rings of one way a drawn number of carts on the edge with goals there never stand for ever, unless a goal is where one rests: for each byte list as code. -/
import Derived.Test.YtlphfhibnbhkfaaPFnRingx9
import Derived.Test.YtlphfhibnbhkfaaVRingKit
set_option linter.unusedVariables false
set_option linter.unusedSimpArgs false
namespace Go.Proofs.Ytlphfhibnbhkfaa.Pure
open Go.RowKit Go.Proofs.Ytlphfhibnbhkfaa.PFnRing Go.Proofs.YtlphfhibnbhkfaaW.PrintWords Go.Proofs.YtlphfhibnbhkfaaW.PrintLast Go.Proofs.YtlphfhibnbhkfaaW.PrintMore Go.Proofs.YtlphfhibnbhkfaaW.Kit

theorem rd92_lt {l : List S92} {i : Int} (h0 : 0 ≤ i) (h1 : i < l.length) : ∃ h : i.toNat < l.length, rd_T92 l i = l[i.toNat]'h := by
  have h : i.toNat < l.length := by omega
  exact ⟨h, by simp [rd_T92, List.getD_eq_getElem?_getD, List.getElem?_eq_getElem h]⟩
theorem rd92_mem {l : List S92} {i : Int} (h0 : 0 ≤ i) (h1 : i < l.length) : rd_T92 l i ∈ l := by
  obtain ⟨h, e⟩ := rd92_lt h0 h1
  rw [e]; exact List.getElem_mem h
theorem rd92_drop {l : List S92} {i : Int} (h0 : 0 ≤ i) (h1 : i < l.length) : l.drop i.toNat = rd_T92 l i :: l.drop (i + 1).toNat := by
  obtain ⟨h, e⟩ := rd92_lt h0 h1
  rw [e, show (i + 1).toNat = i.toNat + 1 by omega, List.drop_eq_getElem_cons h]
theorem rd92_take {l : List S92} {i : Int} (h0 : 0 ≤ i) (h1 : i < l.length) : l.take (i + 1).toNat = l.take i.toNat ++ [rd_T92 l i] := by
  obtain ⟨h, e⟩ := rd92_lt h0 h1
  rw [e, show (i + 1).toNat = i.toNat + 1 by omega, List.take_succ_eq_append_getElem h]
theorem rd92_set_eq {l : List S92} {i : Int} {x : S92} (h0 : 0 ≤ i) (h1 : i < l.length) : rd_T92 (l.set i.toNat x) i = x := by
  simp [rd_T92, List.getD_eq_getElem?_getD, List.getElem?_set, show i.toNat < l.length by omega]
theorem rd92_set_ne {l : List S92} {i j : Int} {x : S92} (h0 : 0 ≤ i) (hj : 0 ≤ j) (h : i ≠ j) : rd_T92 (l.set i.toNat x) j = rd_T92 l j := by
  simp [rd_T92, List.getD_eq_getElem?_getD, List.getElem?_set, show ¬ i.toNat = j.toNat by omega]
theorem rd92_append_left {l m : List S92} {i : Int} (h0 : 0 ≤ i) (h1 : i < l.length) : rd_T92 (l ++ m) i = rd_T92 l i := by
  simp [rd_T92, List.getD_eq_getElem?_getD, List.getElem?_append_left (show i.toNat < l.length by omega)]
theorem rd92_last {l : List S92} {x : S92} : rd_T92 (l ++ [x]) (l.length : Int) = x := by
  simp [rd_T92, List.getD_eq_getElem?_getD]
theorem ext92 {l m : List S92} (h : l.length = m.length) (hr : ∀ i : Int, 0 ≤ i → i < l.length → rd_T92 l i = rd_T92 m i) : l = m := by
  apply List.ext_getElem h
  intro i h1 h2
  have := hr i (by omega) (by omega)
  simpa [rd_T92, List.getD_eq_getElem?_getD, List.getElem?_eq_getElem h1, List.getElem?_eq_getElem h2] using this
/-! ### what is answered from some round on -/
def Ev {α : Type} (f : Nat → Option α) (v : α) : Prop := ∃ M, ∀ k, M < k → f k = some v
theorem Ev.of {α : Type} {f : Nat → Option α} {v : α} (h : ∀ k, f k = some v) : Ev f v := ⟨0, fun k _ => h k⟩
theorem Ev.succ {α : Type} {f : Nat → Option α} {v : α} (h : Ev (fun k => f (k + 1)) v) : Ev f v := by
  obtain ⟨M, h⟩ := h
  refine ⟨M + 1, fun k hk => ?_⟩
  obtain ⟨k, rfl⟩ := pos_round (show 0 < k by omega)
  exact h k (by omega)
theorem Ev.bind {α β : Type} {f : Nat → Option α} {g : Nat → α → Option β} {v : α} {w : β} (h1 : Ev f v) (h2 : Ev (fun k => g k v) w) : Ev (fun k => (f k).bind (g k)) w := by
  obtain ⟨M, h1⟩ := h1
  obtain ⟨N, h2⟩ := h2
  refine ⟨M + N, fun k hk => ?_⟩
  show (f k).bind (g k) = some w
  rw [h1 k (by omega)]
  exact h2 k (by omega)
theorem Ev.to {α : Type} {f g : Nat → Option α} {v : α} (h : Ev g v) (e : ∀ k, f k = g k) : Ev f v := by
  obtain ⟨M, h⟩ := h
  exact ⟨M, fun k hk => by rw [e k]; exact h k hk⟩
theorem Ev.get {α : Type} {f : Nat → Option α} {v : α} (h : Ev f v) : ∃ k, f k = some v := by
  obtain ⟨M, h⟩ := h
  exact ⟨M + 1, h _ (by omega)⟩
theorem wn {i : Nat} (h : i < 9223372036854775807) : wrap64 ((i : Int) + 1) = ((i + 1 : Nat) : Int) := w64 (by omega) (by omega)
theorem R_nat {l : List Int} {i : Nat} (h : i < l.length) : rd l (i : Int) = l[i] := by simp [rd, List.getD_eq_getElem?_getD, List.getElem?_eq_getElem h]
theorem rs_eq {l : List Int} {i : Nat} {x : Int} (h : i < l.length) : rd (l.set i x) (i : Int) = x := by simp [rd, List.getD_eq_getElem?_getD, List.getElem?_set, h]
theorem rs_ne {l : List Int} {i j : Nat} {x : Int} (h : i ≠ j) : rd (l.set i x) (j : Int) = rd l (j : Int) := by simp [rd, List.getD_eq_getElem?_getD, List.getElem?_set, h]
theorem C_nat {l : List S92} {i : Nat} (h : i < l.length) : rd_T92 l (i : Int) = l[i] := by simp [rd_T92, List.getD_eq_getElem?_getD, List.getElem?_eq_getElem h]
theorem in_is (a b c : Int) : impl_in.f a b c = some (decide (b ≤ a ∧ a ≤ c)) := by
  unfold impl_in.f
  by_cases h : a ≥ b
  · rw [if_pos h]; simp [show b ≤ a from h]
  · rw [if_neg h]; simp; omega
theorem in_yes (a b c : Int) (h0 : b ≤ a) (h1 : a ≤ c) : impl_in.f a b c = some true := by rw [in_is, decide_eq_true ⟨h0, h1⟩]
/-- Whether one is found, told from its end. -/
theorem idx_gen {α : Type} (l : List α) (p : α → Bool) (F : Nat → Int → Option Int)
    (hs : ∀ (i : Nat) (hi : i < l.length) (k : Nat), F (k + 1) (i : Int) = if p l[i] = true then some (i : Int) else F k ((i + 1 : Nat) : Int))
    (he : ∀ k : Nat, F (k + 1) (l.length : Int) = some (-1)) (d : Nat) : ∀ i : Nat, i ≤ l.length → l.length - i = d → Ev (fun k => (F k (i : Int)).bind fun t => some (decide (t ≥ 0))) ((l.drop i).any p) := by
  induction d with
  | zero =>
    intro i hi hd
    obtain rfl : i = l.length := by omega
    rw [List.drop_eq_nil_of_le (Nat.le_refl _)]
    exact Ev.succ (Ev.of fun k => by rw [he]; rfl)
  | succ d ih =>
    intro i hi hd
    have hil : i < l.length := by omega
    rw [List.drop_eq_getElem_cons hil, List.any_cons]
    by_cases c : p l[i] = true
    · rw [c, Bool.true_or]
      exact Ev.succ (Ev.of fun k => by rw [hs i hil, if_pos c, Option.bind_some, decide_eq_true (by omega)])
    · rw [eq_false_of_ne_true c, Bool.false_or]
      exact Ev.succ ((ih (i + 1) (by omega) (by omega)).to fun k => by rw [hs i hil, if_neg c])
theorem idx_gen0 {α : Type} (l : List α) (p : α → Bool) (F : Nat → Int → Option Int)
    (hs : ∀ (i : Nat) (hi : i < l.length) (k : Nat), F (k + 1) (i : Int) = if p l[i] = true then some (i : Int) else F k ((i + 1 : Nat) : Int))
    (he : ∀ k : Nat, F (k + 1) (l.length : Int) = some (-1)) : Ev (fun k => (F k 0).bind fun t => some (decide (t ≥ 0))) (l.any p) := by
  have := idx_gen l p F hs he l.length 0 (by omega) (by omega)
  simpa using this
/-! ### the ring -/
def wayAt (w h p : Nat) : Int := if p / w = 0 ∧ p % w + 1 < w then 1 else if p % w + 1 = w ∧ p / w + 1 < h then 2 else if p / w + 1 = h ∧ 0 < p % w then 4 else if p % w = 0 ∧ 0 < p / w then 8 else 15
def ways (w h : Nat) : List Int := (List.range (w * h)).map (wayAt w h)
def nextAt (w h p : Nat) : Nat := if wayAt w h p = 1 then p + 1 else if wayAt w h p = 2 then p + w else if wayAt w h p = 4 then p - 1 else p - w
def ringT : List (List (List Nat)) := [[[0, 1, 3, 2], [0, 1, 3, 5, 4, 2], [0, 1, 3, 5, 7, 6, 4, 2], [0, 1, 3, 5, 7, 9, 8, 6, 4, 2], [0, 1, 3, 5, 7, 9, 11, 10, 8, 6, 4, 2]], [[0, 1, 2, 5, 4, 3], [0, 1, 2, 5, 8, 7, 6, 3], [0, 1, 2, 5, 8, 11, 10, 9, 6, 3], [0, 1, 2, 5, 8, 11, 14, 13, 12, 9, 6, 3], [0, 1, 2, 5, 8, 11, 14, 17, 16, 15, 12, 9, 6, 3]], [[0, 1, 2, 3, 7, 6, 5, 4], [0, 1, 2, 3, 7, 11, 10, 9, 8, 4], [0, 1, 2, 3, 7, 11, 15, 14, 13, 12, 8, 4], [0, 1, 2, 3, 7, 11, 15, 19, 18, 17, 16, 12, 8, 4], [0, 1, 2, 3, 7, 11, 15, 19, 23, 22, 21, 20, 16, 12, 8, 4]], [[0, 1, 2, 3, 4, 9, 8, 7, 6, 5], [0, 1, 2, 3, 4, 9, 14, 13, 12, 11, 10, 5], [0, 1, 2, 3, 4, 9, 14, 19, 18, 17, 16, 15, 10, 5], [0, 1, 2, 3, 4, 9, 14, 19, 24, 23, 22, 21, 20, 15, 10, 5], [0, 1, 2, 3, 4, 9, 14, 19, 24, 29, 28, 27, 26, 25, 20, 15, 10, 5]], [[0, 1, 2, 3, 4, 5, 11, 10, 9, 8, 7, 6], [0, 1, 2, 3, 4, 5, 11, 17, 16, 15, 14, 13, 12, 6], [0, 1, 2, 3, 4, 5, 11, 17, 23, 22, 21, 20, 19, 18, 12, 6], [0, 1, 2, 3, 4, 5, 11, 17, 23, 29, 28, 27, 26, 25, 24, 18, 12, 6], [0, 1, 2, 3, 4, 5, 11, 17, 23, 29, 35, 34, 33, 32, 31, 30, 24, 18, 12, 6]]]
def ring (w h : Nat) : List Nat := (ringT.getD (w - 2) []).getD (h - 2) []
def sc (M i : Nat) : Nat := if i + 1 < M then i + 1 else 0
def chk (w h : Nat) (l : List Nat) : Bool := (List.range l.length).all fun i => decide (l.getD i 0 < w * h) && (!decide (wayAt w h (l.getD i 0) = 15) && (decide (nextAt w h (l.getD i 0) = l.getD (sc l.length i) 0) && (List.range l.length).all fun j => decide (l.getD i 0 = l.getD j 0 → i = j)))
def chk2 (a b : Nat) : Bool := decide ((ring (a + 2) (b + 2)).length = 2 * (a + 2 + (b + 2)) - 4) && (chk (a + 2) (b + 2) (ring (a + 2) (b + 2)) && decide ((ring (a + 2) (b + 2)).getD 0 0 = 0))
theorem chk_all : ((List.range 5).all fun a => (List.range 5).all fun b => chk2 a b) = true := by decide +kernel
structure Rg (w h M : Nat) (E : Nat → Nat) : Prop where
  w0 : 2 ≤ w
  w1 : w ≤ 6
  h0 : 2 ≤ h
  h1 : h ≤ 6
  len : M = 2 * (w + h) - 4
  lt : ∀ i, i < M → E i < w * h
  way : ∀ i, i < M → wayAt w h (E i) ≠ 15
  nxt : ∀ i, i < M → nextAt w h (E i) = E (sc M i)
  inj : ∀ i j, i < M → j < M → E i = E j → i = j
  zero : E 0 = 0
theorem rg {w h : Nat} (w0 : 2 ≤ w) (w1 : w ≤ 6) (h0 : 2 ≤ h) (h1 : h ≤ 6) : Rg w h (2 * (w + h) - 4) (fun i => (ring w h).getD i 0) := by
  have h2 := chk_all
  rw [List.all_eq_true] at h2
  have h3 := h2 (w - 2) (List.mem_range.2 (by omega))
  rw [List.all_eq_true] at h3
  have h4 := h3 (h - 2) (List.mem_range.2 (by omega))
  unfold chk2 at h4
  rw [show w - 2 + 2 = w by omega, show h - 2 + 2 = h by omega, Bool.and_eq_true, Bool.and_eq_true] at h4
  obtain ⟨g1, g2, g3⟩ := h4
  have g1 := of_decide_eq_true g1
  have g3 := of_decide_eq_true g3
  unfold chk at g2
  rw [List.all_eq_true, g1] at g2
  refine ⟨w0, w1, h0, h1, rfl, fun i hi => ?_, fun i hi => ?_, fun i hi => ?_, fun i j hi hj he => ?_, g3⟩
  · have := g2 i (List.mem_range.2 hi)
    rw [Bool.and_eq_true] at this
    exact of_decide_eq_true this.1
  · have := g2 i (List.mem_range.2 hi)
    rw [Bool.and_eq_true, Bool.and_eq_true] at this
    have := this.2.1
    simpa using this
  · have := g2 i (List.mem_range.2 hi)
    rw [Bool.and_eq_true, Bool.and_eq_true, Bool.and_eq_true] at this
    exact of_decide_eq_true this.2.2.1
  · have := g2 i (List.mem_range.2 hi)
    rw [Bool.and_eq_true, Bool.and_eq_true, Bool.and_eq_true, List.all_eq_true] at this
    exact of_decide_eq_true (this.2.2.2 j (List.mem_range.2 hj)) he
theorem ways_len (w h : Nat) : (ways w h).length = w * h := by simp [ways]
theorem ways_at {w h p : Nat} (hp : p < w * h) : rd (ways w h) (p : Int) = wayAt w h p := by
  rw [R_nat (by rw [ways_len]; exact hp)]
  simp [ways]
theorem way_le (w h p : Nat) : 0 ≤ wayAt w h p ∧ wayAt w h p ≤ 15 := by
  unfold wayAt
  split
  · omega
  · split
    · omega
    · split
      · omega
      · split <;> omega
theorem size_le {w h : Nat} (w1 : w ≤ 6) (h1 : h ≤ 6) : w * h ≤ 36 := Nat.mul_le_mul w1 h1
theorem row_ok {w h i x y : Nat} {v N : Int} {r : Int × Int × List Int × Bool} (w0 : 2 ≤ w) (w1 : w ≤ 6) (h0 : 2 ≤ h) (h1 : h ≤ 6) (hx : x < w) (hy : y < h) (hwy : v = if y = 0 ∧ x + 1 < w then 1 else if x + 1 = w ∧ y + 1 < h then 2 else if y + 1 = h ∧ 0 < x then 4 else if x = 0 ∧ 0 < y then 8 else 15) (o : List Int)
    (hset : ∀ v', v = v' → Ev (fun k => if 0 ≤ (i : Int) then (if (i : Int) < (o.length : Int) then (impl_OneWay.l0 k (w : Int) (h : Int) N (wrap64 ((i : Int) + 1)) (w : Int) (h : Int) (o.set (i : Int).toNat v')) else none) else none) r) : Ev (fun k => impl_OneWay.j2 k (w : Int) (h : Int) (i : Int) (x : Int) (y : Int) N (i : Int) (decide (y = 0 ∧ x + 1 < w)) (w : Int) (h : Int) o) r := by
  have e4 : wrap64 ((w : Int) - 1) = (w : Int) - 1 := w64 (by omega) (by omega)
  have e5 : wrap64 ((h : Int) - 1) = (h : Int) - 1 := w64 (by omega) (by omega)
  have hj4 : ¬ (y = 0 ∧ x + 1 < w) → ¬ (x + 1 = w ∧ y + 1 < h) → ∀ b : Bool, b = decide (y + 1 = h ∧ 0 < x) → Ev (fun k => impl_OneWay.j4 k (w : Int) (h : Int) (i : Int) (x : Int) (y : Int) N (i : Int) b (w : Int) (h : Int) o) r := fun n1 n2 b hb => by
    rw [if_neg n1, if_neg n2] at hwy
    cases b with
    | true =>
      refine Ev.succ ((hset 4 (by rw [hwy, if_pos (of_decide_eq_true hb.symm)])).to fun k => ?_)
      simp only [impl_OneWay.j4]
      rw [if_pos trivial]
    | false =>
      rw [if_neg (of_decide_eq_false hb.symm)] at hwy
      by_cases c : x = 0
      · by_cases c2 : 0 < y
        · refine Ev.succ ((hset 8 (by rw [hwy, if_pos ⟨c, c2⟩])).to fun k => ?_)
          simp only [impl_OneWay.j4]
          rw [if_neg (by decide), if_pos (by omega), if_pos (by omega)]
        · refine Ev.succ ((hset 15 (by rw [hwy, if_neg (by omega)])).to fun k => ?_)
          simp only [impl_OneWay.j4]
          rw [if_neg (by decide), if_pos (by omega), if_neg (by omega)]
      · refine Ev.succ ((hset 15 (by rw [hwy, if_neg (by omega)])).to fun k => ?_)
        simp only [impl_OneWay.j4]
        rw [if_neg (by decide), if_neg (by omega)]
  have hj3 : ¬ (y = 0 ∧ x + 1 < w) → ∀ b : Bool, b = decide (x + 1 = w ∧ y + 1 < h) → Ev (fun k => impl_OneWay.j3 k (w : Int) (h : Int) (i : Int) (x : Int) (y : Int) N (i : Int) b (w : Int) (h : Int) o) r := fun n1 b hb => by
    cases b with
    | true =>
      refine Ev.succ ((hset 2 (by rw [hwy, if_neg n1, if_pos (of_decide_eq_true hb.symm)])).to fun k => ?_)
      simp only [impl_OneWay.j3]
      rw [if_pos trivial]
    | false =>
      refine Ev.succ ((hj4 n1 (of_decide_eq_false hb.symm) (decide (y + 1 = h ∧ 0 < x)) rfl).to fun k => ?_)
      simp only [impl_OneWay.j3]
      rw [if_neg (by decide), e5]
      by_cases c : y + 1 = h
      · rw [if_pos (by omega)]
        by_cases c2 : 0 < x
        · rw [decide_eq_true (show (x : Int) > 0 by omega), decide_eq_true ⟨c, c2⟩]
        · rw [decide_eq_false (show ¬ (x : Int) > 0 by omega), decide_eq_false (fun h => c2 h.2)]
      · rw [if_neg (by omega), decide_eq_false (fun h => c h.1)]
  have hj2 : ∀ b : Bool, b = decide (y = 0 ∧ x + 1 < w) → Ev (fun k => impl_OneWay.j2 k (w : Int) (h : Int) (i : Int) (x : Int) (y : Int) N (i : Int) b (w : Int) (h : Int) o) r := fun b hb => by
    cases b with
    | true =>
      refine Ev.succ ((hset 1 (by rw [hwy, if_pos (of_decide_eq_true hb.symm)])).to fun k => ?_)
      simp only [impl_OneWay.j2]
      rw [if_pos trivial]
    | false =>
      refine Ev.succ ((hj3 (of_decide_eq_false hb.symm) (decide (x + 1 = w ∧ y + 1 < h)) rfl).to fun k => ?_)
      simp only [impl_OneWay.j2]
      rw [if_neg (by decide), e4]
      by_cases c : x + 1 = w
      · rw [if_pos (by omega), e5]
        by_cases c2 : y + 1 < h
        · rw [decide_eq_true (show (y : Int) < (h : Int) - 1 by omega), decide_eq_true ⟨c, c2⟩]
        · rw [decide_eq_false (show ¬ (y : Int) < (h : Int) - 1 by omega), decide_eq_false (fun h => c2 h.2)]
      · rw [if_neg (by omega), decide_eq_false (fun h => c h.1)]
  exact hj2 _ rfl
theorem oneway {w h : Nat} (w0 : 2 ≤ w) (w1 : w ≤ 6) (h0 : 2 ≤ h) (h1 : h ≤ 6) : Ev (fun k => impl_OneWay.f k (w : Int) (h : Int)) ((w : Int), (h : Int), ways w h, true) := by
  have hN := size_le w1 h1
  have hpos : 4 ≤ w * h := Nat.mul_le_mul w0 h0
  have hwh : wrap64 ((w : Int) * (h : Int)) = ((w * h : Nat) : Int) := by rw [Int.natCast_mul]; exact w64 (by rw [← Int.natCast_mul]; omega) (by rw [← Int.natCast_mul]; omega)
  have loop : ∀ (d i : Nat) (o : List Int), i ≤ w * h → w * h - i = d → o.length = w * h → o.take i = (ways w h).take i → Ev (fun k => impl_OneWay.l0 k (w : Int) (h : Int) ((w * h : Nat) : Int) (i : Int) (w : Int) (h : Int) o) ((w : Int), (h : Int), ways w h, true) := by
    intro d
    induction d with
    | zero =>
      intro i o hi hd ho ht
      obtain rfl : i = w * h := by omega
      rw [List.take_of_length_le (by omega), List.take_of_length_le (by rw [ways_len]; omega)] at ht
      rw [ht]
      refine Ev.succ (Ev.of fun k => ?_)
      simp only [impl_OneWay.l0]
      rw [if_neg (by omega)]
    | succ d ih =>
      intro i o hi hd ho ht
      have hil : i < w * h := by omega
      have hy : i / w < h := by rw [Nat.div_lt_iff_lt_mul (by omega), Nat.mul_comm]; exact hil
      have hx : i % w < w := Nat.mod_lt _ (by omega)
      have hset : ∀ v, wayAt w h i = v → Ev (fun k => if 0 ≤ (i : Int) then (if (i : Int) < (o.length : Int) then (impl_OneWay.l0 k (w : Int) (h : Int) ((w * h : Nat) : Int) (wrap64 ((i : Int) + 1)) (w : Int) (h : Int) (o.set (i : Int).toNat v)) else none) else none) ((w : Int), (h : Int), ways w h, true) := fun v hv => by
        refine (ih (i + 1) (o.set i v) (by omega) (by omega) (by rw [List.length_set]; exact ho) ?_).to fun k => ?_
        · rw [List.take_succ_eq_append_getElem (by rw [List.length_set]; omega), List.take_succ_eq_append_getElem (by rw [ways_len]; exact hil), List.take_set_of_le (Nat.le_refl _), ht, List.getElem_set_self]
          simp [ways, hv]
        · rw [if_pos (by omega), if_pos (by omega), wn (by omega)]; rfl
      have e1 : Int.tdiv (i : Int) (w : Int) = ((i / w : Nat) : Int) := by rw [Int.tdiv_eq_ediv_of_nonneg (by omega), Int.natCast_ediv]
      have e2 : Int.tmod (i : Int) (w : Int) = ((i % w : Nat) : Int) := by rw [Int.tmod_eq_emod_of_nonneg (by omega), Int.natCast_emod]
      have e4 : wrap64 ((w : Int) - 1) = (w : Int) - 1 := w64 (by omega) (by omega)
      have hwy : wayAt w h i = if i / w = 0 ∧ i % w + 1 < w then 1 else if i % w + 1 = w ∧ i / w + 1 < h then 2 else if i / w + 1 = h ∧ 0 < i % w then 4 else if i % w = 0 ∧ 0 < i / w then 8 else 15 := rfl
      obtain ⟨x, hxx⟩ : ∃ x, x = i % w := ⟨_, rfl⟩
      obtain ⟨y, hyy⟩ : ∃ y, y = i / w := ⟨_, rfl⟩
      rw [← hxx, ← hyy] at hwy
      rw [← hyy] at hy e1
      rw [← hxx] at hx e2
      have e3 : wrap64 (y : Int) = (y : Int) := w64 (by omega) (by omega)
      have hj2 := row_ok (N := ((w * h : Nat) : Int)) w0 w1 h0 h1 hx hy hwy o hset
      refine Ev.succ (hj2.to fun k => ?_)
      simp only [impl_OneWay.l0]
      clear hwy hset hj2 ih ht
      rw [e1, e2, e3, e4]
      clear e1 e2 hxx hyy
      rw [if_pos (by omega), if_neg (by omega)]
      have hy0 : y = 0 → (y : Int) = 0 := fun h => by rw [h]; rfl
      have hy1 : ¬ y = 0 → ¬ (y : Int) = 0 := fun h h2 => h (Int.natCast_inj.1 h2)
      by_cases c : y = 0
      · rw [if_pos (hy0 c)]
        by_cases c2 : x + 1 < w
        · rw [decide_eq_true (show (x : Int) < (w : Int) - 1 by omega), decide_eq_true ⟨c, c2⟩]
        · rw [decide_eq_false (show ¬ (x : Int) < (w : Int) - 1 by omega), decide_eq_false (fun h => c2 h.2)]
      · rw [if_neg (hy1 c), decide_eq_false (fun h => c h.1)]
  refine (Ev.succ (f := fun k => impl_OneWay.j0 k (w : Int) (h : Int) false) ((loop (w * h) 0 (List.replicate (w * h) 0) (by omega) (by omega) (by simp) (by simp)).to fun k => ?_)).to fun k => ?_
  · simp only [impl_OneWay.j0]
    rw [if_neg (by decide), hwh, if_pos (by omega), if_pos (by omega), Option.bind_some, Int.toNat_natCast, List.length_replicate]; rfl
  · unfold impl_OneWay.f
    rw [in_yes _ _ _ (by omega) (by omega), Option.bind_some, if_pos rfl, in_yes _ _ _ (by omega) (by omega), Option.bind_some]; rfl
/-! ### where the ways lead to -/
def dx : Nat → Int
  | 0 => 1
  | 2 => -1
  | _ => 0
def dy : Nat → Int
  | 1 => 1
  | 3 => -1
  | _ => 0
def DL : List S148 := [⟨1, 0⟩, ⟨0, 1⟩, ⟨(-1), 0⟩, ⟨0, (-1)⟩]
theorem DL_at {i : Nat} (h : i < 4) : (rd_T148 DL (i : Int)).f0 = dx i ∧ (rd_T148 DL (i : Int)).f1 = dy i := by
  match i, h with
  | 0, _ => exact ⟨rfl, rfl⟩
  | 1, _ => exact ⟨rfl, rfl⟩
  | 2, _ => exact ⟨rfl, rfl⟩
  | 3, _ => exact ⟨rfl, rfl⟩
theorem d_le (i : Nat) : -1 ≤ dx i ∧ dx i ≤ 1 ∧ -1 ≤ dy i ∧ dy i ≤ 1 := by
  match i with
  | 0 => decide
  | 1 => decide
  | 2 => decide
  | 3 => decide
  | n + 4 => exact ⟨by show -1 ≤ (0 : Int); decide, by show (0 : Int) ≤ 1; decide, by show -1 ≤ (0 : Int); decide, by show (0 : Int) ≤ 1; decide⟩
def bt (v : Int) (i : Nat) : Bool := decide (Go.bits .and .i64 (shr .i64 v (i : Int)) 1 = 1)
def ok1 (w h : Nat) (v x y : Int) (i : Nat) : Bool := bt v i && (decide (0 ≤ x + dx i ∧ x + dx i ≤ (w : Int) - 1) && decide (0 ≤ y + dy i ∧ y + dy i ≤ (h : Int) - 1))
def ld (w h : Nat) (v x y : Int) : Nat → Nat → List Int
  | 0, _ => []
  | d + 1, i => (if ok1 w h v x y i = true then [(y + dy i) * (w : Int) + (x + dx i)] else []) ++ ld w h v x y d (i + 1)
theorem ld_len (w h : Nat) (v x y : Int) (d : Nat) : ∀ i, (ld w h v x y d i).length ≤ d := by
  induction d with
  | zero => intro i; exact Nat.le_refl _
  | succ d ih =>
    intro i
    have := ih (i + 1)
    simp only [ld]
    rw [List.length_append]
    by_cases c : ok1 w h v x y i = true
    · rw [if_pos c]; simp only [List.length_singleton]; omega
    · rw [if_neg c]; simp only [List.length_nil]; omega
theorem ld_in (w h : Nat) (v x y : Int) (d : Nat) : ∀ i, ∀ q ∈ ld w h v x y d i, 0 ≤ q ∧ q < ((w * h : Nat) : Int) := by
  induction d with
  | zero => intro i q hq; cases hq
  | succ d ih =>
    intro i q hq
    simp only [ld] at hq
    rcases List.mem_append.1 hq with hq | hq
    · by_cases c : ok1 w h v x y i = true
      · rw [if_pos c, List.mem_singleton] at hq
        unfold ok1 at c
        rw [Bool.and_eq_true, Bool.and_eq_true] at c
        obtain ⟨_, c1, c2⟩ := c
        have c1 := of_decide_eq_true c1
        have c2 := of_decide_eq_true c2
        rw [hq]
        have m0 : 0 ≤ (y + dy i) * (w : Int) := Int.mul_nonneg c2.1 (by omega)
        have m1 : (y + dy i) * (w : Int) ≤ ((h : Int) - 1) * (w : Int) := Int.mul_le_mul_of_nonneg_right c2.2 (by omega)
        rw [Int.sub_mul, Int.one_mul] at m1
        rw [Int.natCast_mul, Int.mul_comm (w : Int) (h : Int)]
        omega
      · rw [if_neg c] at hq; cases hq
    · exact ih (i + 1) q hq
theorem leads_loop {w h : Nat} (w1 : w ≤ 6) (h1 : h ≤ 6) (w0 : 2 ≤ w) (h0 : 2 ≤ h) (W : List Int) (p : Nat) (hp : p < W.length) (x y : Int) (x0 : 0 ≤ x) (x1 : x ≤ 5) (y0 : 0 ≤ y) (y1 : y ≤ 5) (d : Nat) : ∀ (i : Nat) (acc : List Int), i + d = 4 → acc.length ≤ 4 → acc.length ≤ i →
    Ev (fun k => impl_Floor_leads.l0 k (p : Int) acc x y DL 4 (i : Int) (w : Int) (h : Int) W) (acc ++ ld w h W[p] x y d i) := by
  induction d with
  | zero =>
    intro i acc hi _ _
    refine Ev.succ (Ev.of fun k => ?_)
    simp only [impl_Floor_leads.l0]
    rw [if_neg (by omega)]
    simp [ld]
  | succ d ih =>
    intro i acc hi ha hai
    obtain ⟨e1, e2⟩ := DL_at (show i < 4 by omega)
    obtain ⟨b1, b2, b3, b4⟩ := d_le i
    have hDL : (DL.length : Int) = 4 := rfl
    have f1 : wrap64 (x + dx i) = x + dx i := w64 (by omega) (by omega)
    have f2 : wrap64 (y + dy i) = y + dy i := w64 (by omega) (by omega)
    have f3 : wrap64 ((w : Int) - 1) = (w : Int) - 1 := w64 (by omega) (by omega)
    have f4 : wrap64 ((h : Int) - 1) = (h : Int) - 1 := w64 (by omega) (by omega)
    have step : ∀ k, impl_Floor_leads.l0 (k + 1) (p : Int) acc x y DL 4 (i : Int) (w : Int) (h : Int) W = if ok1 w h W[p] x y i = true then impl_Floor_leads.l0 k (p : Int) (acc ++ [(y + dy i) * (w : Int) + (x + dx i)]) x y DL 4 ((i + 1 : Nat) : Int) (w : Int) (h : Int) W else impl_Floor_leads.l0 k (p : Int) acc x y DL 4 ((i + 1 : Nat) : Int) (w : Int) (h : Int) W := fun k => by
      simp only [impl_Floor_leads.l0]
      rw [if_pos (by omega), if_pos (by omega), if_pos (by omega), if_pos (by omega), if_pos (by omega), R_nat hp, wn (by omega), e1, e2, f1, f2, f3, f4]
      unfold ok1 bt
      by_cases c1 : Go.bits .and .i64 (shr .i64 W[p] (i : Int)) 1 = 1
      · rw [if_pos c1, decide_eq_true c1, Bool.true_and, in_is, Option.bind_some]
        by_cases c2 : 0 ≤ x + dx i ∧ x + dx i ≤ (w : Int) - 1
        · rw [decide_eq_true c2, if_pos rfl, in_is, Option.bind_some, Bool.true_and]
          by_cases c3 : 0 ≤ y + dy i ∧ y + dy i ≤ (h : Int) - 1
          · have m0 : 0 ≤ (y + dy i) * (w : Int) := Int.mul_nonneg c3.1 (by omega)
            have m1 : (y + dy i) * (w : Int) ≤ 6 * 6 := Int.mul_le_mul (by omega) (by omega) (by omega) (by omega)
            have hal : acc.length < 17592186044416 := by omega
            rw [decide_eq_true c3, if_pos rfl, if_pos rfl, if_pos hal, w64 (x := (y + dy i) * (w : Int)) (by omega) (by omega), w64 (by omega) (by omega)]
          · rw [decide_eq_false c3, if_neg (by decide), if_neg (by decide)]
        · rw [decide_eq_false c2, if_neg (by decide), Bool.false_and, if_neg (by decide)]
      · rw [if_neg c1, decide_eq_false c1, Bool.false_and, if_neg (by decide)]
    simp only [ld]
    by_cases c : ok1 w h W[p] x y i = true
    · rw [if_pos c, ← List.append_assoc]
      exact Ev.succ ((ih (i + 1) (acc ++ [(y + dy i) * (w : Int) + (x + dx i)]) (by omega) (by simp only [List.length_append, List.length_singleton]; omega) (by simp only [List.length_append, List.length_singleton]; omega)).to fun k => by rw [step, if_pos c])
    · rw [if_neg c, List.nil_append]
      exact Ev.succ ((ih (i + 1) acc (by omega) (by omega) (by omega)).to fun k => by rw [step, if_neg c])
theorem leads_ok {w h : Nat} (w0 : 2 ≤ w) (w1 : w ≤ 6) (h0 : 2 ≤ h) (h1 : h ≤ 6) (p : Nat) (hp : p < w * h) : Ev (fun k => impl_Floor_leads.f k (w : Int) (h : Int) (ways w h) (p : Int)) (ld w h (wayAt w h p) ((p % w : Nat) : Int) ((p / w : Nat) : Int) 4 0) := by
  have hN := size_le w1 h1
  have hy : p / w < h := by rw [Nat.div_lt_iff_lt_mul (by omega), Nat.mul_comm]; exact hp
  have hx : p % w < w := Nat.mod_lt _ (by omega)
  have e1 : Int.tdiv (p : Int) (w : Int) = ((p / w : Nat) : Int) := by rw [Int.tdiv_eq_ediv_of_nonneg (by omega), Int.natCast_ediv]
  have e2 : Int.tmod (p : Int) (w : Int) = ((p % w : Nat) : Int) := by rw [Int.tmod_eq_emod_of_nonneg (by omega), Int.natCast_emod]
  obtain ⟨x, hxx⟩ : ∃ x, x = p % w := ⟨_, rfl⟩
  obtain ⟨y, hyy⟩ : ∃ y, y = p / w := ⟨_, rfl⟩
  rw [← hyy] at hy e1 ⊢
  rw [← hxx] at hx e2 ⊢
  have e3 : wrap64 (y : Int) = (y : Int) := w64 (by omega) (by omega)
  have hpl : p < (ways w h).length := by rw [ways_len]; exact hp
  have hw : (ways w h)[p] = wayAt w h p := by rw [← R_nat hpl, ways_at hp]
  have := leads_loop w1 h1 w0 h0 (ways w h) p hpl (x : Int) (y : Int) (Int.natCast_nonneg x) (Int.ofNat_le.2 (Nat.le_of_lt_succ (Nat.lt_of_lt_of_le hx w1))) (Int.natCast_nonneg y) (Int.ofNat_le.2 (Nat.le_of_lt_succ (Nat.lt_of_lt_of_le hy h1))) 4 0 [] (by omega) (by simp) (by simp)
  rw [hw, List.nil_append] at this
  refine this.to fun k => ?_
  unfold impl_Floor_leads.f
  rw [if_neg (by omega), Option.bind_some, e1, e2, e3]; rfl
theorem ld_ring {w h : Nat} (w0 : 2 ≤ w) (h0 : 2 ≤ h) (p : Nat) (hp : p < w * h) (hv : wayAt w h p ≠ 15) : ld w h (wayAt w h p) ((p % w : Nat) : Int) ((p / w : Nat) : Int) 4 0 = [((nextAt w h p : Nat) : Int)] := by
  have hy : p / w < h := by rw [Nat.div_lt_iff_lt_mul (by omega), Nat.mul_comm]; exact hp
  have hx : p % w < w := Nat.mod_lt _ (by omega)
  have hdm : ((p / w : Nat) : Int) * (w : Int) + ((p % w : Nat) : Int) = (p : Int) := by
    rw [← Int.natCast_mul, Nat.mul_comm]
    have := Nat.div_add_mod p w
    omega
  have hwy : wayAt w h p = if p / w = 0 ∧ p % w + 1 < w then 1 else if p % w + 1 = w ∧ p / w + 1 < h then 2 else if p / w + 1 = h ∧ 0 < p % w then 4 else if p % w = 0 ∧ 0 < p / w then 8 else 15 := rfl
  obtain ⟨x, hxx⟩ : ∃ x, x = p % w := ⟨_, rfl⟩
  obtain ⟨y, hyy⟩ : ∃ y, y = p / w := ⟨_, rfl⟩
  rw [← hxx, ← hyy] at hwy hdm ⊢
  rw [← hyy] at hy
  rw [← hxx] at hx
  have z : ∀ (v : Int) (i : Nat), bt v i = false → ok1 w h v (x : Int) (y : Int) i = false := fun v i hb => by unfold ok1; rw [hb]; rfl
  have o : ∀ (v : Int) (i : Nat), bt v i = true → 0 ≤ (x : Int) + dx i → (x : Int) + dx i ≤ (w : Int) - 1 → 0 ≤ (y : Int) + dy i → (y : Int) + dy i ≤ (h : Int) - 1 → ok1 w h v (x : Int) (y : Int) i = true := fun v i hb a1 a2 a3 a4 => by unfold ok1; rw [hb, decide_eq_true ⟨a1, a2⟩, decide_eq_true ⟨a3, a4⟩]; rfl
  unfold nextAt
  by_cases c1 : y = 0 ∧ x + 1 < w
  · rw [if_pos c1] at hwy
    rw [hwy, if_pos rfl]
    simp only [ld]
    rw [if_pos (o 1 0 (by decide +kernel) (by show 0 ≤ (x : Int) + 1; omega) (by show (x : Int) + 1 ≤ _; omega) (by show 0 ≤ (y : Int) + 0; omega) (by show (y : Int) + 0 ≤ _; omega)), if_neg (by rw [z 1 1 (by decide +kernel)]; decide), if_neg (by rw [z 1 2 (by decide +kernel)]; decide), if_neg (by rw [z 1 3 (by decide +kernel)]; decide)]
    show [((y : Int) + 0) * (w : Int) + ((x : Int) + 1)] = _
    rw [Int.add_zero]
    congr 1
    omega
  · rw [if_neg c1] at hwy
    by_cases c2 : x + 1 = w ∧ y + 1 < h
    · rw [if_pos c2] at hwy
      rw [hwy, if_neg (by decide), if_pos rfl]
      simp only [ld]
      rw [if_neg (by rw [z 2 0 (by decide +kernel)]; decide), if_pos (o 2 1 (by decide +kernel) (by show 0 ≤ (x : Int) + 0; omega) (by show (x : Int) + 0 ≤ _; omega) (by show 0 ≤ (y : Int) + 1; omega) (by show (y : Int) + 1 ≤ _; omega)), if_neg (by rw [z 2 2 (by decide +kernel)]; decide), if_neg (by rw [z 2 3 (by decide +kernel)]; decide)]
      show [((y : Int) + 1) * (w : Int) + ((x : Int) + 0)] = _
      rw [Int.add_zero, Int.add_mul, Int.one_mul]
      congr 1
      omega
    · rw [if_neg c2] at hwy
      by_cases c3 : y + 1 = h ∧ 0 < x
      · rw [if_pos c3] at hwy
        rw [hwy, if_neg (by decide), if_neg (by decide), if_pos rfl]
        simp only [ld]
        rw [if_neg (by rw [z 4 0 (by decide +kernel)]; decide), if_neg (by rw [z 4 1 (by decide +kernel)]; decide), if_pos (o 4 2 (by decide +kernel) (by show 0 ≤ (x : Int) + -1; omega) (by show (x : Int) + -1 ≤ _; omega) (by show 0 ≤ (y : Int) + 0; omega) (by show (y : Int) + 0 ≤ _; omega)), if_neg (by rw [z 4 3 (by decide +kernel)]; decide)]
        show [((y : Int) + 0) * (w : Int) + ((x : Int) + -1)] = _
        rw [Int.add_zero]
        have m0 : 0 ≤ (y : Int) * (w : Int) := Int.mul_nonneg (by omega) (by omega)
        congr 1
        omega
      · rw [if_neg c3] at hwy
        by_cases c4 : x = 0 ∧ 0 < y
        · rw [if_pos c4] at hwy
          rw [hwy, if_neg (by decide), if_neg (by decide), if_neg (by decide)]
          simp only [ld]
          rw [if_neg (by rw [z 8 0 (by decide +kernel)]; decide), if_neg (by rw [z 8 1 (by decide +kernel)]; decide), if_neg (by rw [z 8 2 (by decide +kernel)]; decide), if_pos (o 8 3 (by decide +kernel) (by show 0 ≤ (x : Int) + 0; omega) (by show (x : Int) + 0 ≤ _; omega) (by show 0 ≤ (y : Int) + -1; omega) (by show (y : Int) + -1 ≤ _; omega))]
          show [((y : Int) + -1) * (w : Int) + ((x : Int) + 0)] = _
          have m0 : 1 * (w : Int) ≤ (y : Int) * (w : Int) := Int.mul_le_mul_of_nonneg_right (by omega) (by omega)
          rw [Int.add_zero, Int.add_mul]
          congr 1
          omega
        · rw [if_neg c4] at hwy
          exact absurd hwy hv
/-! ### how many hops -/
def dist (g M i : Nat) : Nat := if i ≤ g then g - i else g + M - i
theorem dist_sc {g M i : Nat} (hg : g < M) (hi : i < M) (hd : 0 < dist g M i) : dist g M (sc M i) + 1 = dist g M i := by
  by_cases c : i + 1 < M
  · have e : sc M i = i + 1 := if_pos c
    rw [e]
    unfold dist at *
    by_cases c2 : i ≤ g
    · rw [if_pos c2] at *
      rw [if_pos (by omega)]; omega
    · rw [if_neg c2] at *
      rw [if_neg (by omega)]; omega
  · have e : sc M i = 0 := if_neg c
    rw [e]
    unfold dist at *
    rw [if_pos (Nat.zero_le _)]
    by_cases c2 : i ≤ g
    · rw [if_pos c2] at *
      omega
    · rw [if_neg c2] at *
      omega
theorem sc_lt {M i : Nat} (hi : i < M) : sc M i < M := by
  unfold sc; split <;> omega
theorem dist_lt {g M i : Nat} (hg : g < M) (hi : i < M) : dist g M i < M := by
  unfold dist; split <;> omega
theorem dist_zero {g M i : Nat} (hg : g < M) (hi : i < M) : dist g M i = 0 ↔ i = g := by
  unfold dist; split <;> omega
theorem dist_onto {g M n : Nat} (hg : g < M) (hn : n < M) : ∃ i, i < M ∧ dist g M i = n := by
  by_cases c : n ≤ g
  · exact ⟨g - n, by omega, by unfold dist; rw [if_pos (by omega)]; omega⟩
  · exact ⟨g + M - n, by omega, by unfold dist; rw [if_neg (by omega)]; omega⟩
def neg : List Int → Nat
  | [] => 0
  | x :: l => (if x < 0 then 1 else 0) + neg l
theorem neg_set (L : List Int) (x : Int) (hx : 0 ≤ x) : ∀ i : Nat, (h : i < L.length) → L[i] < 0 → neg (L.set i x) + 1 = neg L := by
  induction L with
  | nil => intro i h; cases h
  | cons y l ih =>
    intro i h hn
    cases i with
    | zero =>
      simp only [List.getElem_cons_zero] at hn
      simp only [List.set_cons_zero, neg]
      rw [if_neg (by omega), if_pos hn]; omega
    | succ i =>
      simp only [List.getElem_cons_succ] at hn
      simp only [List.set_cons_succ, neg]
      have := ih i (by simpa using h) hn
      omega
theorem neg_le (L : List Int) : neg L ≤ L.length := by
  induction L with
  | nil => exact Nat.le_refl _
  | cons y l ih => simp only [neg, List.length_cons]; split <;> omega
theorem hop1 (q : Int) (H : List Int) (n : Int) (h0 : 0 ≤ q) (h1 : q < H.length) : impl_Hops_1_c.f q [H] [n] = some (rd H q == n) := by
  unfold impl_Hops_1_c.f
  have e1 : rd_L2 [H] 0 = H := rfl
  have e2 : rd [n] 0 = n := rfl
  rw [if_pos (by simp), e1, if_pos h0, if_pos h1, if_pos (by simp), e2]
theorem cont_ok (l : List Int) (H : List Int) (n : Int) (hl : l.length ≤ 100) (hq : ∀ q ∈ l, 0 ≤ q ∧ q < (H.length : Int)) : Ev (fun k => slices_ContainsFunc_int_int_at_impl_Hops_1.f k l [H] [n]) (l.any fun q => rd H q == n) := by
  refine (idx_gen0 l (fun q => rd H q == n) (fun k i => slices_IndexFunc_int_int_at_impl_Hops_1.l0 k l (l.length : Int) i [H] [n]) (fun i hi k => ?_) (fun k => ?_)).to fun k => ?_
  · obtain ⟨q0, q1⟩ := hq _ (List.getElem_mem hi)
    simp only [slices_IndexFunc_int_int_at_impl_Hops_1.l0]
    rw [if_pos (by omega), if_pos (by omega), if_pos (by omega), R_nat hi, hop1 _ H n q0 q1, Option.bind_some, wn (by omega)]
  · simp only [slices_IndexFunc_int_int_at_impl_Hops_1.l0]
    rw [if_neg (by omega)]
  · rfl
/-- Behind the places before p, in the round n. -/
def InvP (M : Nat) (E : Nat → Nat) (g n p : Nat) (H : List Int) : Prop :=
  ∀ i, i < M → (dist g M i ≤ n → rd H (E i : Int) = (dist g M i : Int)) ∧ (dist g M i = n + 1 → (E i < p → rd H (E i : Int) = ((n + 1 : Nat) : Int)) ∧ (¬ E i < p → rd H (E i : Int) < 0)) ∧ (n + 1 < dist g M i → rd H (E i : Int) < 0)
theorem inv_skip {M : Nat} {E : Nat → Nat} {g n p : Nat} {H : List Int} (h : InvP M E g n p H) (hp : ∀ i, i < M → E i = p → dist g M i ≠ n + 1) : InvP M E g n (p + 1) H := by
  intro i hi
  obtain ⟨a, b, c⟩ := h i hi
  refine ⟨a, fun hd => ⟨fun hlt => ?_, fun hlt => (b hd).2 (by omega)⟩, c⟩
  by_cases e : E i = p
  · exact absurd hd (hp i hi e)
  · exact (b hd).1 (by omega)
theorem inv_set {M : Nat} {E : Nat → Nat} {g n p : Nat} {H : List Int} (h : InvP M E g n p H) (hpl : p < H.length) (hp : ∀ i, i < M → E i = p → dist g M i = n + 1) : InvP M E g n (p + 1) (H.set p ((n + 1 : Nat) : Int)) := by
  intro i hi
  obtain ⟨a, b, c⟩ := h i hi
  by_cases e : E i = p
  · have hd := hp i hi e
    rw [e, rs_eq hpl]
    exact ⟨fun h => by omega, fun _ => ⟨fun _ => rfl, fun h => by omega⟩, fun h => by omega⟩
  · rw [rs_ne (fun h => e h.symm)]
    exact ⟨a, fun hd => ⟨fun hlt => (b hd).1 (by omega), fun hlt => (b hd).2 (by omega)⟩, c⟩
theorem pass {w h M : Nat} {E : Nat → Nat} (hR : Rg w h M E) (g : Nat) (hg : g < M) (n : Nat) (hn : n ≤ 100) (d : Nat) : ∀ (p : Nat) (H : List Int) (x9 : Bool), p ≤ w * h → w * h - p = d → H.length = w * h → InvP M E g n p H →
    ∃ (H' : List Int) (x9' : Bool), H'.length = w * h ∧ InvP M E g n (w * h) H' ∧ neg H' ≤ neg H ∧ (x9' = true → x9 = true ∨ neg H' < neg H) ∧ (x9' = false → x9 = false ∧ H' = H) ∧ ∀ r, Ev (fun k => impl_Hops.l1 k x9' (w : Int) (h : Int) (ways w h) H' ((n + 1 : Nat) : Int)) r → Ev (fun k => impl_Hops.l2 k x9 ((w * h : Nat) : Int) (p : Int) (w : Int) (h : Int) (ways w h) H (n : Int)) r := by
  have hN := size_le hR.w1 hR.h1
  induction d with
  | zero =>
    intro p H x9 hp hd hl hI
    obtain rfl : p = w * h := by omega
    refine ⟨H, x9, hl, hI, Nat.le_refl _, fun h => .inl h, fun h => ⟨h, rfl⟩, fun r hr => Ev.succ (hr.to fun k => ?_)⟩
    simp only [impl_Hops.l2]
    rw [if_neg (by omega), wn (by omega)]
  | succ d ih =>
    intro p H x9 hp hd hl hI
    have hpl : p < H.length := by omega
    have hskip : (∀ i, i < M → E i = p → dist g M i ≠ n + 1) → (∀ k, impl_Hops.l2 (k + 1) x9 ((w * h : Nat) : Int) (p : Int) (w : Int) (h : Int) (ways w h) H (n : Int) = impl_Hops.l2 k x9 ((w * h : Nat) : Int) ((p + 1 : Nat) : Int) (w : Int) (h : Int) (ways w h) H (n : Int)) → ∃ (H' : List Int) (x9' : Bool), H'.length = w * h ∧ InvP M E g n (w * h) H' ∧ neg H' ≤ neg H ∧ (x9' = true → x9 = true ∨ neg H' < neg H) ∧ (x9' = false → x9 = false ∧ H' = H) ∧ ∀ r, Ev (fun k => impl_Hops.l1 k x9' (w : Int) (h : Int) (ways w h) H' ((n + 1 : Nat) : Int)) r → Ev (fun k => impl_Hops.l2 k x9 ((w * h : Nat) : Int) (p : Int) (w : Int) (h : Int) (ways w h) H (n : Int)) r := fun h1 h2 => by
      obtain ⟨H', x9', a1, a2, a3, a4, a5, a6⟩ := ih (p + 1) H x9 (by omega) (by omega) hl (inv_skip hI h1)
      exact ⟨H', x9', a1, a2, a3, a4, a5, fun r hr => Ev.succ ((a6 r hr).to fun k => h2 k)⟩
    by_cases c : rd H (p : Int) < 0
    · -- the ways that lead on
      have hL := leads_ok hR.w0 hR.w1 hR.h0 hR.h1 p (show p < w * h by omega)
      obtain ⟨l, hl'⟩ : ∃ l, l = ld w h (wayAt w h p) ((p % w : Nat) : Int) ((p / w : Nat) : Int) 4 0 := ⟨_, rfl⟩
      rw [← hl'] at hL
      have hin : ∀ q ∈ l, 0 ≤ q ∧ q < (H.length : Int) := fun q hq => by
        rw [hl'] at hq
        rw [hl]
        exact ld_in w h _ _ _ 4 0 q hq
      have hll : l.length ≤ 100 := by
        have := ld_len w h (wayAt w h p) ((p % w : Nat) : Int) ((p / w : Nat) : Int) 4 0
        rw [← hl'] at this
        exact Nat.le_trans this (by decide)
      have hC := cont_ok l H (n : Int) hll hin
      have hring : ∀ i, i < M → E i = p → l = [((E (sc M i) : Nat) : Int)] ∧ n < dist g M i := fun i hi he => by
        refine ⟨?_, ?_⟩
        · rw [hl', ld_ring hR.w0 hR.h0 p (by rw [← he]; exact hR.lt i hi) (by rw [← he]; exact hR.way i hi), ← he, hR.nxt i hi]
        · have := (hI i hi).1
          rw [he] at this
          have h2 := Nat.lt_of_not_le (fun hle => by have := this hle; omega : ¬ dist g M i ≤ n)
          exact h2
      clear hl'
      have hstep : ∀ r, Ev (fun k => if (l.any fun q => rd H q == (n : Int)) = true then impl_Hops.l2 k true ((w * h : Nat) : Int) ((p + 1 : Nat) : Int) (w : Int) (h : Int) (ways w h) (H.set p ((n + 1 : Nat) : Int)) (n : Int) else impl_Hops.l2 k x9 ((w * h : Nat) : Int) ((p + 1 : Nat) : Int) (w : Int) (h : Int) (ways w h) H (n : Int)) r → Ev (fun k => impl_Hops.l2 k x9 ((w * h : Nat) : Int) (p : Int) (w : Int) (h : Int) (ways w h) H (n : Int)) r := fun r hr => by
        refine Ev.succ ((Ev.bind (g := fun k (t : List Int) => (slices_ContainsFunc_int_int_at_impl_Hops_1.f k t [H] [(n : Int)]).bind fun (b : Bool) => if b = true then impl_Hops.l2 k true ((w * h : Nat) : Int) ((p + 1 : Nat) : Int) (w : Int) (h : Int) (ways w h) (H.set p ((n + 1 : Nat) : Int)) (n : Int) else impl_Hops.l2 k x9 ((w * h : Nat) : Int) ((p + 1 : Nat) : Int) (w : Int) (h : Int) (ways w h) H (n : Int)) hL (Ev.bind (g := fun k (b : Bool) => if b = true then impl_Hops.l2 k true ((w * h : Nat) : Int) ((p + 1 : Nat) : Int) (w : Int) (h : Int) (ways w h) (H.set p ((n + 1 : Nat) : Int)) (n : Int) else impl_Hops.l2 k x9 ((w * h : Nat) : Int) ((p + 1 : Nat) : Int) (w : Int) (h : Int) (ways w h) H (n : Int)) hC hr)).to fun k => ?_)
        simp only [impl_Hops.l2]
        rw [if_pos (by omega), if_pos (by omega), if_pos (by omega), if_pos c, wn (by omega), wn (by omega)]; rfl
      by_cases cb : (l.any fun q => rd H q == (n : Int)) = true
      · obtain ⟨H', x9', a1, a2, a3, a4, a5, a6⟩ := ih (p + 1) (H.set p ((n + 1 : Nat) : Int)) true (by omega) (by omega) (by rw [List.length_set]; exact hl) (inv_set hI hpl fun i hi he => by
          obtain ⟨e1, e2⟩ := hring i hi he
          rw [e1] at cb
          simp only [List.any_cons, List.any_nil, Bool.or_false, beq_iff_eq] at cb
          have hds := dist_sc hg hi (by omega)
          obtain ⟨_, s2, s3⟩ := hI (sc M i) (sc_lt hi)
          by_cases q1 : dist g M i = n + 1
          · exact q1
          · exfalso
            by_cases q2 : dist g M (sc M i) = n + 1
            · by_cases q3 : E (sc M i) < p
              · have := (s2 q2).1 q3; omega
              · have := (s2 q2).2 q3; omega
            · have := s3 (by omega); omega)
        have hneg := neg_set H ((n + 1 : Nat) : Int) (by omega) p hpl (by rw [← R_nat hpl]; exact c)
        refine ⟨H', x9', a1, a2, by omega, fun _ => .inr (by omega), fun h => ?_, fun r hr => hstep r ((a6 r hr).to fun k => if_pos cb)⟩
        have := (a5 h).1
        cases this
      · obtain ⟨H', x9', a1, a2, a3, a4, a5, a6⟩ := ih (p + 1) H x9 (by omega) (by omega) hl (inv_skip hI fun i hi he hd => by
          obtain ⟨e1, e2⟩ := hring i hi he
          apply cb
          rw [e1]
          simp only [List.any_cons, List.any_nil, Bool.or_false, beq_iff_eq]
          have hds := dist_sc hg hi (by omega)
          rw [(hI (sc M i) (sc_lt hi)).1 (by omega)]
          omega)
        exact ⟨H', x9', a1, a2, a3, a4, a5, fun r hr => hstep r ((a6 r hr).to fun k => if_neg cb)⟩
    · refine hskip (fun i hi he hd => ?_) fun k => ?_
      · have := ((hI i hi).2.1 hd).2 (by omega)
        rw [he] at this
        exact c this
      · simp only [impl_Hops.l2]
        rw [if_pos (by omega), if_pos (by omega), if_pos (by omega), if_neg c, wn (by omega)]
theorem rounds {w h M : Nat} {E : Nat → Nat} (hR : Rg w h M E) (g : Nat) (hg : g < M) (m : Nat) : ∀ (n : Nat) (H : List Int), neg H ≤ m → n + m ≤ 90 → H.length = w * h → InvP M E g n 0 H →
    ∃ H' : List Int, H'.length = w * h ∧ (∀ i, i < M → rd H' (E i : Int) = (dist g M i : Int)) ∧ Ev (fun k => impl_Hops.l1 k true (w : Int) (h : Int) (ways w h) H (n : Int)) (H', true) := by
  induction m with
  | zero =>
    intro n H hm hn hl hI
    obtain ⟨H', x9', a1, a2, a3, a4, a5, a6⟩ := pass hR g hg n (by omega) (w * h) 0 H false (by omega) (by omega) hl hI
    cases x9' with
    | true =>
      rcases a4 rfl with h | h
      · cases h
      · omega
    | false =>
      obtain ⟨_, rfl⟩ := a5 rfl
      refine ⟨H', a1, fun i hi => ?_, Ev.succ ((a6 (H', true) (Ev.succ (Ev.of fun k => by simp only [impl_Hops.l1]; rw [if_neg (by decide)]))).to fun k => by simp only [impl_Hops.l1]; rw [if_pos trivial, hl]; rfl)⟩
      refine (hI i hi).1 (Nat.le_of_not_lt fun hlt => ?_)
      obtain ⟨j, hj, hd⟩ := dist_onto (n := n + 1) hg (by have := dist_lt hg hi; omega)
      have q1 := ((a2 j hj).2.1 hd).1 (hR.lt j hj)
      have q2 := ((hI j hj).2.1 hd).2 (by omega)
      omega
  | succ m ih =>
    intro n H hm hn hl hI
    obtain ⟨H', x9', a1, a2, a3, a4, a5, a6⟩ := pass hR g hg n (by omega) (w * h) 0 H false (by omega) (by omega) hl hI
    cases x9' with
    | true =>
      have hlt : neg H' < neg H := by
        rcases a4 rfl with h | h
        · cases h
        · exact h
      obtain ⟨H2, b1, b2, b3⟩ := ih (n + 1) H' (by omega) (by omega) a1 (fun i hi => by
        obtain ⟨q1, q2, q3⟩ := a2 i hi
        refine ⟨fun hd => ?_, fun hd => ⟨fun h => by omega, fun _ => q3 (by omega)⟩, fun hd => q3 (by omega)⟩
        by_cases c : dist g M i ≤ n
        · exact q1 c
        · have : dist g M i = n + 1 := by omega
          rw [(q2 this).1 (hR.lt i hi), this])
      exact ⟨H2, b1, b2, Ev.succ ((a6 _ b3).to fun k => by simp only [impl_Hops.l1]; rw [if_pos trivial, hl]; rfl)⟩
    | false =>
      obtain ⟨_, rfl⟩ := a5 rfl
      refine ⟨H', a1, fun i hi => ?_, Ev.succ ((a6 (H', true) (Ev.succ (Ev.of fun k => by simp only [impl_Hops.l1]; rw [if_neg (by decide)]))).to fun k => by simp only [impl_Hops.l1]; rw [if_pos trivial, hl]; rfl)⟩
      refine (hI i hi).1 (Nat.le_of_not_lt fun hlt => ?_)
      obtain ⟨j, hj, hd⟩ := dist_onto (n := n + 1) hg (by have := dist_lt hg hi; omega)
      have q1 := ((a2 j hj).2.1 hd).1 (hR.lt j hj)
      have q2 := ((hI j hj).2.1 hd).2 (by omega)
      omega
theorem floor_ok {w h : Nat} (w0 : 2 ≤ w) (w1 : w ≤ 6) (h0 : 2 ≤ h) (h1 : h ≤ 6) : impl_FloorOk.f (w : Int) (h : Int) (ways w h) = some true := by
  have hN := size_le w1 h1
  have hwh : wrap64 ((w : Int) * (h : Int)) = ((w * h : Nat) : Int) := by rw [Int.natCast_mul]; exact w64 (by rw [← Int.natCast_mul]; omega) (by rw [← Int.natCast_mul]; omega)
  unfold impl_FloorOk.f
  rw [in_yes _ _ _ (by omega) (by omega), Option.bind_some, if_pos rfl, in_yes _ _ _ (by omega) (by omega), Option.bind_some, if_pos rfl, hwh, ways_len, if_pos rfl]
  unfold impl_all.f
  rw [Option.bind_some, List.all_eq_true.2]
  intro x hx
  unfold ways at hx
  obtain ⟨p, _, rfl⟩ := List.mem_map.1 hx
  obtain ⟨q0, q1⟩ := way_le w h p
  rw [decide_eq_true q0, decide_eq_true q1]; rfl
theorem place_ok {w h : Nat} (w1 : w ≤ 6) (h1 : h ≤ 6) (W : List Int) (p : Nat) (hp : p < w * h) : impl_Floor_place.f (w : Int) (h : Int) W (p : Int) = some true := by
  have hN := size_le w1 h1
  have hwh : wrap64 ((w : Int) * (h : Int)) = ((w * h : Nat) : Int) := by rw [Int.natCast_mul]; exact w64 (by rw [← Int.natCast_mul]; omega) (by rw [← Int.natCast_mul]; omega)
  unfold impl_Floor_place.f
  rw [hwh, w64 (x := ((w * h : Nat) : Int) - 1) (by omega) (by omega), in_yes _ _ _ (by omega) (by omega), Option.bind_some]
theorem fill {w h : Nat} (W : List Int) (N : Nat) (hN : N ≤ 100) (g : Int) (r : List Int × Bool) (hr : Ev (fun k => if 0 ≤ g then (if g < (N : Int) then impl_Hops.l1 k true (w : Int) (h : Int) W ((List.replicate N (-1)).set g.toNat 0) 0 else none) else none) r) (d : Nat) : ∀ (i : Nat) (o : List Int), i ≤ N → N - i = d → o.length = N → o.take i = List.replicate i (-1) → Ev (fun k => impl_Hops.l0 k g (N : Int) (i : Int) (w : Int) (h : Int) W o) r := by
  induction d with
  | zero =>
    intro i o hi hd ho ht
    obtain rfl : i = N := by omega
    rw [List.take_of_length_le (by omega)] at ht
    refine Ev.succ (hr.to fun k => ?_)
    simp only [impl_Hops.l0]
    rw [if_neg (by omega), ht, List.length_replicate]
  | succ d ih =>
    intro i o hi hd ho ht
    refine Ev.succ ((ih (i + 1) (o.set i (-1)) (by omega) (by omega) (by rw [List.length_set]; exact ho) ?_).to fun k => ?_)
    · rw [List.take_succ_eq_append_getElem (by rw [List.length_set]; omega), List.take_set_of_le (Nat.le_refl _), ht, List.getElem_set_self, List.replicate_succ']
    · simp only [impl_Hops.l0]
      rw [if_pos (by omega), if_pos (by omega), if_pos (by omega), wn (by omega)]; rfl
theorem hops_ok {w h M : Nat} {E : Nat → Nat} (hR : Rg w h M E) (g : Nat) (hg : g < M) : ∃ H : List Int, H.length = w * h ∧ (∀ i, i < M → rd H (E i : Int) = (dist g M i : Int)) ∧ Ev (fun k => impl_Hops.f k (w : Int) (h : Int) (ways w h) (E g : Int)) (H, true) := by
  have hN := size_le hR.w1 hR.h1
  have hgl := hR.lt g hg
  have hI : InvP M E g 0 0 ((List.replicate (w * h) (-1)).set (E g) 0) := fun i hi => by
    have hil := hR.lt i hi
    by_cases c : i = g
    · subst c
      have hd := (dist_zero hg hi).2 rfl
      rw [rs_eq (by rw [List.length_replicate]; exact hil), hd]
      exact ⟨fun _ => rfl, fun h => by omega, fun h => by omega⟩
    · have hd : dist g M i ≠ 0 := fun h => c ((dist_zero hg hi).1 h)
      have hne : E g ≠ E i := fun h => c (hR.inj g i hg hi h).symm
      have hval : rd ((List.replicate (w * h) (-1)).set (E g) 0) (E i : Int) = -1 := by
        rw [rs_ne hne, rd_replicate (by omega) (by omega)]
      rw [hval]
      exact ⟨fun h => by omega, fun h => ⟨fun h => by omega, fun _ => by decide⟩, fun h => by decide⟩
  obtain ⟨H, h1, h2, h3⟩ := rounds hR g hg 40 0 ((List.replicate (w * h) (-1)).set (E g) 0) (by have := neg_le ((List.replicate (w * h) (-1)).set (E g) 0); rw [List.length_set, List.length_replicate] at this; omega) (by omega) (by rw [List.length_set, List.length_replicate]) hI
  refine ⟨H, h1, h2, ?_⟩
  have hf := fill (w := w) (h := h) (ways w h) (w * h) (by omega) (E g : Int) (H, true) (h3.to fun k => by rw [if_pos (by omega), if_pos (by omega)]; rfl) (w * h) 0 (List.replicate (w * h) 0) (by omega) (by omega) (by rw [List.length_replicate]) (by simp)
  refine (Ev.succ (f := fun k => impl_Hops.j0 k (E g : Int) false (w : Int) (h : Int) (ways w h)) (hf.to fun k => ?_)).to fun k => ?_
  · simp only [impl_Hops.j0]
    rw [if_neg (by decide), ways_len, if_pos (by omega), if_pos (by omega), Option.bind_some, Int.toNat_natCast, List.length_replicate]; rfl
  · unfold impl_Hops.f
    rw [floor_ok hR.w0 hR.w1 hR.h0 hR.h1, Option.bind_some, if_pos rfl, place_ok hR.w1 hR.h1 (ways w h) (E g) hgl, Option.bind_some]; rfl
theorem want_ok {w h M : Nat} {E : Nat → Nat} (hR : Rg w h M E) (i g : Nat) (hi : i < M) (hg : g < M) : Ev (fun k => impl_Floor_want.f k (w : Int) (h : Int) (ways w h) (E i : Int) (E g : Int)) (if i = g then -1 else (E (sc M i) : Int)) := by
  obtain ⟨H, h1, h2, h3⟩ := hops_ok hR g hg
  have hil := hR.lt i hi
  have hd := h2 i hi
  refine Ev.bind h3 (Ev.to (g := fun k => impl_Floor_want.j0 k H (decide (dist g M i = 0)) (w : Int) (h : Int) (ways w h) (E i : Int) (E g : Int)) ?_ fun k => ?_)
  · by_cases c : i = g
    · rw [if_pos c, decide_eq_true ((dist_zero hg hi).2 c)]
      exact Ev.succ (Ev.of fun k => by simp only [impl_Floor_want.j0]; rw [if_pos trivial])
    · have hpos : 0 < dist g M i := Nat.pos_of_ne_zero fun h => c ((dist_zero hg hi).1 h)
      rw [if_neg c, decide_eq_false (by omega)]
      have hL := leads_ok hR.w0 hR.w1 hR.h0 hR.h1 (E i) hil
      rw [ld_ring hR.w0 hR.h0 (E i) hil (hR.way i hi), hR.nxt i hi] at hL
      have hs := sc_lt hi
      have hsl := hR.lt _ hs
      have hds := dist_sc hg hi hpos
      have hd2 := h2 _ hs
      have e0 : rd [((E (sc M i) : Nat) : Int)] 0 = (E (sc M i) : Int) := rfl
      refine Ev.succ ((Ev.bind (g := fun k (t : List Int) => impl_Floor_want.l0 k H t (t.length : Int) 0 (E i : Int) (E g : Int)) hL (Ev.succ (Ev.of fun k => ?_))).to fun k => ?_)
      · simp only [impl_Floor_want.l0]
        rw [if_pos (by simp), if_pos (by decide), if_pos (by simp), e0, if_pos (by omega), if_pos (by omega), hd2, if_pos (by omega), if_pos (by omega), if_pos (by omega), hd, if_pos (by omega)]
      · simp only [impl_Floor_want.j0]
        rw [if_neg (by decide)]
  · dsimp only
    rw [if_pos rfl, if_pos (by omega), if_pos (by omega), hd]
    by_cases c : dist g M i = 0
    · rw [decide_eq_true c, decide_eq_true (by omega)]
    · rw [decide_eq_false c, decide_eq_false (by omega)]
/-! ### carts that all have as far to go -/
def pos (M i t : Nat) : Nat := if i + t < M then i + t else i + t - M
theorem pos_lt {M i t : Nat} (hi : i < M) (ht : t < M) : pos M i t < M := by unfold pos; split <;> omega
theorem pos_sc {M i t : Nat} (hi : i < M) (ht : t + 1 < M) : sc M (pos M i t) = pos M i (t + 1) := by
  unfold sc pos
  by_cases c : i + t < M
  · rw [if_pos c]
    by_cases c2 : i + t + 1 < M
    · rw [if_pos c2, if_pos (show i + (t + 1) < M by omega)]; omega
    · rw [if_neg c2, if_neg (show ¬ i + (t + 1) < M by omega)]; omega
  · rw [if_neg c, if_neg (show ¬ i + (t + 1) < M by omega), if_pos (show i + t - M + 1 < M by omega)]; omega
theorem pos_inj {M i j t : Nat} (hi : i < M) (hj : j < M) (ht : t < M) (h : pos M i t = pos M j t) : i = j := by
  unfold pos at h
  by_cases c : i + t < M
  · rw [if_pos c] at h
    by_cases c2 : j + t < M
    · rw [if_pos c2] at h; omega
    · rw [if_neg c2] at h; omega
  · rw [if_neg c] at h
    by_cases c2 : j + t < M
    · rw [if_pos c2] at h; omega
    · rw [if_neg c2] at h; omega
theorem pos_eq {M i f t : Nat} (hi : i < M) (ht : t ≤ f) (hf : f < M) : pos M i t = pos M i f ↔ t = f := by
  constructor
  · intro h
    unfold pos at h
    by_cases c : i + t < M
    · rw [if_pos c] at h
      by_cases c2 : i + f < M
      · rw [if_pos c2] at h; omega
      · rw [if_neg c2] at h; omega
    · rw [if_neg c, if_neg (show ¬ i + f < M by omega)] at h; omega
  · intro h; rw [h]
theorem sc_sc {M x : Nat} (hM : 4 ≤ M) (hx : x < M) : sc M (sc M x) ≠ x := by
  unfold sc
  by_cases c : x + 1 < M
  · rw [if_pos c]
    by_cases c2 : x + 1 + 1 < M
    · rw [if_pos c2]; omega
    · rw [if_neg c2]; omega
  · rw [if_neg c, if_pos (show 0 + 1 < M by omega)]; omega
/-- The carts behind t rounds. -/
def carts (M : Nat) (E : Nat → Nat) (I : List Nat) (f t : Nat) : List S92 := I.map fun i => ⟨(E (pos M i t) : Int), (E (pos M i f) : Int)⟩
def Idx (M : Nat) (I : List Nat) : Prop := (∀ i ∈ I, i < M) ∧ I.Pairwise (fun a b => a ≠ b) ∧ I.length ≤ 12
theorem carts_len (M : Nat) (E : Nat → Nat) (I : List Nat) (f t : Nat) : (carts M E I f t).length = I.length := by simp [carts]
theorem carts_at {M : Nat} {E : Nat → Nat} {I : List Nat} {f t a : Nat} (ha : a < I.length) : rd_T92 (carts M E I f t) (a : Int) = ⟨(E (pos M I[a] t) : Int), (E (pos M I[a] f) : Int)⟩ := by
  rw [C_nat (by rw [carts_len]; exact ha)]; simp [carts]
theorem idx_ne {M : Nat} {I : List Nat} (hI : Idx M I) {a b : Nat} (ha : a < I.length) (hb : b < I.length) (h : I[a] = I[b]) : a = b := by
  rcases Nat.lt_trichotomy a b with c | c | c
  · exact absurd h (List.pairwise_iff_getElem.1 hI.2.1 a b ha hb c)
  · exact c
  · exact absurd h.symm (List.pairwise_iff_getElem.1 hI.2.1 b a hb ha c)
theorem idx_lt {M : Nat} {I : List Nat} (hI : Idx M I) {a : Nat} (ha : a < I.length) : I[a] < M := hI.1 _ (List.getElem_mem ha)
theorem at_ne {w h M : Nat} {E : Nat → Nat} (hR : Rg w h M E) {I : List Nat} (hI : Idx M I) {a b t : Nat} (ht : t < M) (ha : a < I.length) (hb : b < I.length) (hab : E (pos M I[a] t) = E (pos M I[b] t)) : a = b :=
  idx_ne hI ha hb (pos_inj (idx_lt hI ha) (idx_lt hI hb) ht (hR.inj _ _ (pos_lt (idx_lt hI ha) ht) (pos_lt (idx_lt hI hb) ht) hab))
theorem same_ok (l : List S92) (c : S92) (hl : l.length ≤ 100) : Ev (fun k => impl_Cart_at_impl_CartsOk_1.f k l [c]) (l.any fun x => x.f0 == c.f0) := by
  have e0 : rd_T92 [c] 0 = c := rfl
  refine (idx_gen0 l (fun x => x.f0 == c.f0) (fun k i => impl_Cart_at_impl_CartsOk_1_95.l0 k l (l.length : Int) i [c]) (fun i hi k => ?_) (fun k => ?_)).to fun k => ?_
  · simp only [impl_Cart_at_impl_CartsOk_1_95.l0]
    unfold impl_CartsOk_1_c.f
    rw [if_pos (by omega), if_pos (by omega), if_pos (by omega), C_nat hi, if_pos (by simp), e0, Option.bind_some, wn (by omega)]
  · simp only [impl_Cart_at_impl_CartsOk_1_95.l0]
    rw [if_neg (by omega)]
  · rfl
theorem carts_ok {w h M : Nat} {E : Nat → Nat} (hR : Rg w h M E) {I : List Nat} (hI : Idx M I) (f t : Nat) (hf : f < M) (ht : t < M) : Ev (fun k => impl_CartsOk.f k (w : Int) (h : Int) (ways w h) (carts M E I f t)) true := by
  have hlen := carts_len M E I f t
  have hIl := hI.2.2
  have loop : ∀ (d a : Nat), a ≤ I.length → I.length - a = d → Ev (fun k => impl_CartsOk.l0 k (carts M E I f t) (carts M E I f t) ((carts M E I f t).length : Int) (a : Int) (w : Int) (h : Int) (ways w h)) true := by
    intro d
    induction d with
    | zero =>
      intro a ha hd
      refine Ev.succ (Ev.of fun k => ?_)
      simp only [impl_CartsOk.l0]
      rw [if_neg (by omega)]
    | succ d ih =>
      intro a ha hd
      have hal : a < I.length := by omega
      have hat := carts_at (M := M) (E := E) (f := f) (t := t) hal
      have hp1 := hR.lt _ (pos_lt (idx_lt hI hal) ht)
      have hp2 := hR.lt _ (pos_lt (idx_lt hI hal) hf)
      have hsame := same_ok ((carts M E I f t).take a) ⟨(E (pos M I[a] t) : Int), (E (pos M I[a] f) : Int)⟩ (by rw [List.length_take]; omega)
      have hno : (((carts M E I f t).take a).any fun x => x.f0 == (E (pos M I[a] t) : Int)) = false := by
        rw [List.any_eq_false]
        intro x hx hc
        obtain ⟨b, hb, rfl⟩ := List.getElem_of_mem hx
        rw [List.length_take] at hb
        rw [List.getElem_take, ← C_nat (show b < (carts M E I f t).length by omega), carts_at (show b < I.length by omega)] at hc
        have hc := Int.natCast_inj.1 (beq_iff_eq.1 hc)
        have := at_ne hR hI ht (show b < I.length by omega) hal hc
        omega
      dsimp only at hsame
      rw [hno] at hsame
      refine Ev.succ ((Ev.bind (g := fun k (b : Bool) => if b = true then some false else impl_CartsOk.l0 k (carts M E I f t) (carts M E I f t) ((carts M E I f t).length : Int) ((a + 1 : Nat) : Int) (w : Int) (h : Int) (ways w h)) hsame ((ih (a + 1) (by omega) (by omega)).to fun k => if_neg (by decide))).to fun k => ?_)
      simp only [impl_CartsOk.l0]
      rw [if_pos (by omega), if_pos (by omega), if_pos (by omega), hat]
      dsimp only
      rw [place_ok hR.w1 hR.h1 (ways w h) _ hp1, Option.bind_some, if_pos rfl, if_neg (by omega), place_ok hR.w1 hR.h1 (ways w h) _ hp2, Option.bind_some, if_pos rfl, if_pos (by omega), wn (by omega)]
      rfl
  refine (Ev.succ (f := fun k => impl_CartsOk.j0 k (carts M E I f t) false (w : Int) (h : Int) (ways w h)) ((loop I.length 0 (by omega) (by omega)).to fun k => ?_)).to fun k => ?_
  · simp only [impl_CartsOk.j0]
    rw [if_neg (by decide)]; rfl
  · unfold impl_CartsOk.f
    rw [floor_ok hR.w0 hR.w1 hR.h0 hR.h1, Option.bind_some, if_pos rfl, decide_eq_false (by omega)]
/-- What they want in the round t. -/
def wv (M : Nat) (E : Nat → Nat) (f t i : Nat) : Int := if t < f then (E (pos M i (t + 1)) : Int) else -1
def wants (M : Nat) (E : Nat → Nat) (I : List Nat) (f t : Nat) : List Int := I.map (wv M E f t)
theorem wants_len (M : Nat) (E : Nat → Nat) (I : List Nat) (f t : Nat) : (wants M E I f t).length = I.length := by simp [wants]
theorem wants_at {M : Nat} {E : Nat → Nat} {I : List Nat} {f t a : Nat} (ha : a < I.length) : rd (wants M E I f t) (a : Int) = wv M E f t I[a] := by
  rw [R_nat (by rw [wants_len]; exact ha)]; simp [wants]
theorem strikes_no {w h M : Nat} {E : Nat → Nat} (hR : Rg w h M E) (hM : 4 ≤ M) {I : List Nat} (hI : Idx M I) (f t : Nat) (hf : f < M) (ht : t ≤ f) (a : Nat) (ha : a < I.length) :
    Ev (fun k => impl_Round_1_c.f k (a : Int) [wants M E I f t] [carts M E I f t]) false := by
  have hIl := hI.2.2
  have hwl := wants_len M E I f t
  have hcl := carts_len M E I f t
  have e1 : rd_L2 [wants M E I f t] 0 = wants M E I f t := rfl
  have e2 : rd_L5 [carts M E I f t] 0 = carts M E I f t := rfl
  have hwa := wants_at (M := M) (E := E) (f := f) (t := t) ha
  by_cases c : t < f
  · have hta : t < M := by omega
    have hwa' : wv M E f t I[a] = (E (pos M I[a] (t + 1)) : Int) := if_pos c
    have loop : ∀ (d b : Nat), b ≤ I.length → I.length - b = d → Ev (fun k => impl_Round_1_c.l0 k (a : Int) (E (pos M I[a] (t + 1)) : Int) (carts M E I f t) ((carts M E I f t).length : Int) (b : Int) [wants M E I f t] [carts M E I f t]) false := by
      intro d
      induction d with
      | zero =>
        intro b hb hd
        refine Ev.succ (Ev.of fun k => ?_)
        simp only [impl_Round_1_c.l0]
        rw [if_neg (by omega)]
      | succ d ih =>
        intro b hb hd
        have hbl : b < I.length := by omega
        have hwb := wants_at (M := M) (E := E) (f := f) (t := t) hbl
        have hwb' : wv M E f t I[b] = (E (pos M I[b] (t + 1)) : Int) := if_pos c
        rw [hwb'] at hwb
        have hcb := carts_at (M := M) (E := E) (f := f) (t := t) hbl
        have hca := carts_at (M := M) (E := E) (f := f) (t := t) ha
        have f1 : ((E (pos M I[b] (t + 1)) : Nat) : Int) = ((E (pos M I[a] (t + 1)) : Nat) : Int) → b = a := fun h => at_ne hR hI (by omega) hbl ha (Int.natCast_inj.1 h)
        have f2 : ((E (pos M I[b] t) : Nat) : Int) = ((E (pos M I[a] (t + 1)) : Nat) : Int) → ¬ ((E (pos M I[b] (t + 1)) : Nat) : Int) = ((E (pos M I[a] t) : Nat) : Int) := fun h1 h2 => by
          have g1 := hR.inj _ _ (pos_lt (idx_lt hI hbl) hta) (pos_lt (idx_lt hI ha) (by omega)) (Int.natCast_inj.1 h1)
          have g2 := hR.inj _ _ (pos_lt (idx_lt hI hbl) (by omega)) (pos_lt (idx_lt hI ha) hta) (Int.natCast_inj.1 h2)
          rw [← pos_sc (idx_lt hI ha) (by omega)] at g1
          rw [← pos_sc (idx_lt hI hbl) (by omega), g1] at g2
          exact sc_sc hM (pos_lt (idx_lt hI ha) hta) g2
        refine Ev.succ ((ih (b + 1) (by omega) (by omega)).to fun k => ?_)
        simp only [impl_Round_1_c.l0, e1, e2, hwb, hcb, hca]
        rw [if_pos (by omega), if_pos (by omega), if_pos (by omega), wn (by omega)]
        by_cases c1 : b = a
        · rw [if_neg (by omega), if_pos (by omega)]
        · have n1 : ¬ ((E (pos M I[b] (t + 1)) : Nat) : Int) = ((E (pos M I[a] (t + 1)) : Nat) : Int) := fun h => c1 (f1 h)
          have hrest : (if ((E (pos M I[b] t) : Nat) : Int) = ((E (pos M I[a] (t + 1)) : Nat) : Int) then (if ((E (pos M I[b] (t + 1)) : Nat) : Int) < 0 then (some true) else (if 0 < ([carts M E I f t].length : Int) then (if 0 ≤ (a : Int) then (if (a : Int) < ((carts M E I f t).length : Int) then (if ((E (pos M I[b] (t + 1)) : Nat) : Int) = ((E (pos M I[a] t) : Nat) : Int) then (some true) else (impl_Round_1_c.l0 k (a : Int) (E (pos M I[a] (t + 1)) : Int) (carts M E I f t) ((carts M E I f t).length : Int) ((b + 1 : Nat) : Int) [wants M E I f t] [carts M E I f t])) else (none)) else (none)) else (none))) else (impl_Round_1_c.l0 k (a : Int) (E (pos M I[a] (t + 1)) : Int) (carts M E I f t) ((carts M E I f t).length : Int) ((b + 1 : Nat) : Int) [wants M E I f t] [carts M E I f t])) = impl_Round_1_c.l0 k (a : Int) (E (pos M I[a] (t + 1)) : Int) (carts M E I f t) ((carts M E I f t).length : Int) ((b + 1 : Nat) : Int) [wants M E I f t] [carts M E I f t] := by
            by_cases c2 : ((E (pos M I[b] t) : Nat) : Int) = ((E (pos M I[a] (t + 1)) : Nat) : Int)
            · rw [if_pos c2, if_neg (by omega), if_pos (by simp), if_pos (by omega), if_pos (by omega), if_neg (f2 c2)]
            · rw [if_neg c2]
          by_cases c3 : (b : Int) < (a : Int)
          · rw [if_pos c3, if_pos (by simp), if_pos (by omega), if_neg n1, if_neg (by omega)]
            exact hrest
          · rw [if_neg c3, if_neg (by omega)]
            by_cases c2 : ((E (pos M I[b] t) : Nat) : Int) = ((E (pos M I[a] (t + 1)) : Nat) : Int)
            · rw [if_pos c2] at hrest ⊢
              rw [if_pos (by simp), if_pos (by omega)]
              exact hrest
            · rw [if_neg c2]
    refine (loop I.length 0 (by omega) (by omega)).to fun k => ?_
    unfold impl_Round_1_c.f
    rw [if_pos (by simp), if_pos (by omega), e1, if_pos (by omega), hwa, hwa', if_neg (by omega), if_pos (by simp), e2]; rfl
  · have hwa' : wv M E f t I[a] = -1 := if_neg c
    refine Ev.of fun k => ?_
    unfold impl_Round_1_c.f
    rw [if_pos (by simp), if_pos (by omega), e1, if_pos (by omega), hwa, hwa', if_pos (by decide)]
theorem own_int (l : List Int) (hl : l.length ≤ 100) : impl_own_int.f l = some l := by
  unfold impl_own_int.f
  rw [if_pos (by omega), if_pos (by omega), Option.bind_some, if_pos (by simp; omega), List.nil_append]
theorem own_cart (l : List S92) (hl : l.length ≤ 100) : impl_Cart_80.f l = some l := by
  unfold impl_Cart_80.f
  rw [if_pos (by omega), if_pos (by omega), Option.bind_some, if_pos (by simp; omega), List.nil_append]
/-- The carts behind a round. -/
theorem round_ok {w h M : Nat} {E : Nat → Nat} (hR : Rg w h M E) (hM : 4 ≤ M) {I : List Nat} (hI : Idx M I) (f t : Nat) (hf : f < M) (ht : t ≤ f) :
    ∃ mv : List Int, (t < f → mv.length = I.length) ∧ (t = f → mv.length = 0) ∧ Ev (fun k => impl_Round.f k (w : Int) (h : Int) (ways w h) (carts M E I f t)) (carts M E I f (if t < f then t + 1 else t), mv, true) := by
  have hIl := hI.2.2
  have hwl := wants_len M E I f t
  have hcl := carts_len M E I f t
  obtain ⟨C, hC⟩ : ∃ C, C = carts M E I f t := ⟨_, rfl⟩
  obtain ⟨W, hW⟩ : ∃ W, W = wants M E I f t := ⟨_, rfl⟩
  obtain ⟨D, hD⟩ : ∃ D, D = carts M E I f (if t < f then t + 1 else t) := ⟨_, rfl⟩
  have hDl : D.length = I.length := by rw [hD]; exact carts_len _ _ _ _ _
  have hok := carts_ok hR hI f t hf (by omega)
  have hstr := fun a (ha : a < I.length) => strikes_no hR hM hI f t hf ht a ha
  have hcat := fun a (ha : a < I.length) => carts_at (M := M) (E := E) (f := f) (t := t) ha
  have hwat := fun a (ha : a < I.length) => wants_at (M := M) (E := E) (f := f) (t := t) ha
  have hdat := fun a (ha : a < I.length) => carts_at (M := M) (E := E) (f := f) (t := if t < f then t + 1 else t) ha
  rw [← hC] at hok hcl hstr hcat
  rw [← hW] at hwl hstr hwat
  rw [← hD] at hdat
  rw [← hC, ← hD]
  -- the moves
  have move : ∀ (d a : Nat) (l : List S92) (mv : List Int), a ≤ I.length → I.length - a = d → l.length = I.length → l.take a = D.take a → l.drop a = C.drop a → mv.length = (if t < f then a else 0) →
      ∃ mv' : List Int, mv'.length = (if t < f then I.length else 0) ∧ Ev (fun k => impl_Round.l3 k l mv W (W.length : Int) (a : Int)) (D, mv', true) := by
    intro d
    induction d with
    | zero =>
      intro a l mv ha hd hl h1 h2 h3
      obtain rfl : a = I.length := by omega
      rw [List.take_of_length_le (by omega), List.take_of_length_le (by omega)] at h1
      refine ⟨mv, h3, Ev.succ (Ev.of fun k => ?_)⟩
      have hmv : mv.length ≤ 100 := by rw [h3]; split <;> omega
      simp only [impl_Round.l3]
      rw [if_neg (by omega), own_int mv hmv, Option.bind_some, h1]
    | succ d ih =>
      intro a l mv ha hd hl h1 h2 h3
      have hal : a < I.length := by omega
      have hla : rd_T92 l (a : Int) = rd_T92 C (a : Int) := by
        rw [C_nat (by omega), C_nat (by omega)]
        rw [List.drop_eq_getElem_cons (by omega), List.drop_eq_getElem_cons (show a < C.length by omega)] at h2
        exact (List.cons.inj h2).1
      have hdr : l.drop (a + 1) = C.drop (a + 1) := by
        have := congrArg (List.drop 1) h2
        rwa [List.drop_drop, List.drop_drop] at this
      have hwa := hwat a hal
      have hmv : mv.length < 17592186044416 := by rw [h3]; split <;> omega
      by_cases c : t < f
      · have hv : wv M E f t I[a] = (E (pos M I[a] (t + 1)) : Int) := if_pos c
        have hDa : (⟨(E (pos M I[a] (t + 1)) : Int), (rd_T92 l (a : Int)).f1⟩ : S92) = D[a]'(by omega) := by
          rw [hla, hcat a hal, ← C_nat (show a < D.length by omega), hdat a hal, if_pos c]
        obtain ⟨mv', g1, g2⟩ := ih (a + 1) (l.set a ⟨(E (pos M I[a] (t + 1)) : Int), (rd_T92 l (a : Int)).f1⟩) (mv ++ [(a : Int)]) (by omega) (by omega) (by rw [List.length_set]; exact hl)
          (by rw [List.take_succ_eq_append_getElem (by rw [List.length_set]; omega), List.take_succ_eq_append_getElem (show a < D.length by omega), List.take_set_of_le (Nat.le_refl _), h1, List.getElem_set_self, hDa])
          (by rw [List.drop_set_of_lt (by omega)]; exact hdr) (by rw [if_pos c] at h3 ⊢; simp [h3])
        refine ⟨mv', g1, Ev.succ (g2.to fun k => ?_)⟩
        simp only [impl_Round.l3]
        rw [if_pos (by omega), if_pos (by omega), if_pos (by omega), hwa, hv, if_pos (by omega), if_pos (by omega), if_pos hmv, wn (by omega)]; rfl
      · have hv : wv M E f t I[a] = -1 := if_neg c
        have hDa : l[a]'(by omega) = D[a]'(by omega) := by
          rw [← C_nat (show a < D.length by omega), hdat a hal, if_neg c, ← C_nat (show a < l.length by omega), hla, hcat a hal]
        obtain ⟨mv', g1, g2⟩ := ih (a + 1) l mv (by omega) (by omega) hl
          (by rw [List.take_succ_eq_append_getElem (show a < l.length by omega), List.take_succ_eq_append_getElem (show a < D.length by omega), h1, hDa]) hdr (by rw [if_neg c] at h3 ⊢; exact h3)
        refine ⟨mv', g1, Ev.succ (g2.to fun k => ?_)⟩
        simp only [impl_Round.l3]
        rw [if_pos (by omega), if_pos (by omega), if_pos (by omega), hwa, hv, if_neg (by decide), wn (by omega)]
  obtain ⟨mv, m1, m2⟩ := move I.length 0 C [] (by omega) (by omega) hcl rfl rfl (by split <;> rfl)
  refine ⟨mv, fun h => by rw [m1, if_pos h], fun h => by rw [m1, if_neg (by omega)], ?_⟩
  -- none strikes
  have none' : ∀ (d a : Nat), a ≤ I.length → I.length - a = d → Ev (fun k => impl_Round.l2 k (a : Int) C W) (D, mv, true) := by
    intro d
    induction d with
    | zero =>
      intro a ha hd
      refine Ev.succ ((Ev.succ (f := fun k => impl_Round.j3 k C W) (m2.to fun k => ?_)).to fun k => ?_)
      · simp only [impl_Round.j3]
        rw [own_cart C (by omega), Option.bind_some]; rfl
      · simp only [impl_Round.l2]
        rw [if_neg (by omega), if_pos (by omega)]
    | succ d ih =>
      intro a ha hd
      have hlt : (a : Int) < (C.length : Int) := by omega
      refine Ev.succ ?_
      simp only [impl_Round.l2, if_pos hlt]
      refine Ev.bind (hstr a (by omega)) ((ih (a + 1) (by omega) (by omega)).to fun k => ?_)
      rw [if_neg (by decide), wn (by omega)]
  -- what they want
  have want : ∀ (d a : Nat) (o : List Int), a ≤ I.length → I.length - a = d → o.length = I.length → o.take a = W.take a → Ev (fun k => impl_Round.l0 k C (C.length : Int) (a : Int) (w : Int) (h : Int) (ways w h) C o) (D, mv, true) := by
    intro d
    induction d with
    | zero =>
      intro a o ha hd ho ht'
      obtain rfl : a = I.length := by omega
      rw [List.take_of_length_le (by omega), List.take_of_length_le (by omega)] at ht'
      refine Ev.succ ((Ev.succ (f := fun k => impl_Round.l1 k C W) ((none' I.length 0 (by omega) (by omega)).to fun k => ?_)).to fun k => ?_)
      · simp only [impl_Round.l1]; rfl
      · simp only [impl_Round.l0]
        rw [if_neg (by omega), ht']
    | succ d ih =>
      intro a o ha hd ho ht'
      have hal : a < I.length := by omega
      have hil := idx_lt hI hal
      have hwo := want_ok hR (pos M I[a] t) (pos M I[a] f) (pos_lt hil (by omega)) (pos_lt hil hf)
      have hval : (if pos M I[a] t = pos M I[a] f then -1 else ((E (sc M (pos M I[a] t)) : Nat) : Int)) = wv M E f t I[a] := by
        unfold wv
        by_cases c : t < f
        · rw [if_pos c, if_neg (fun h => by have := (pos_eq hil ht hf).1 h; omega), pos_sc hil (by omega)]
        · rw [if_neg c, if_pos ((pos_eq hil ht hf).2 (by omega))]
      rw [hval] at hwo
      refine Ev.succ ((Ev.bind (g := fun k (v : Int) => if (a : Int) < (o.length : Int) then impl_Round.l0 k C (C.length : Int) ((a + 1 : Nat) : Int) (w : Int) (h : Int) (ways w h) C (o.set a v) else none) hwo ((ih (a + 1) (o.set a (wv M E f t I[a])) (by omega) (by omega) (by rw [List.length_set]; exact ho) ?_).to fun k => if_pos (by omega))).to fun k => ?_)
      · rw [List.take_succ_eq_append_getElem (by rw [List.length_set]; omega), List.take_succ_eq_append_getElem (show a < W.length by omega), List.take_set_of_le (Nat.le_refl _), ht', List.getElem_set_self, ← R_nat (show a < W.length by omega), hwat a hal]
      · simp only [impl_Round.l0]
        rw [if_pos (by omega), if_pos (by omega), if_pos (by omega), hcat a hal, wn (by omega)]; rfl
  refine Ev.bind hok ?_
  refine (want I.length 0 (List.replicate C.length 0) (by omega) (by omega) (by rw [List.length_replicate]; exact hcl) (by simp)).to fun k => ?_
  rw [if_pos rfl, if_pos (by omega), if_pos (by omega), Int.toNat_natCast]; rfl
theorem rest_ok {w h M : Nat} {E : Nat → Nat} {I : List Nat} (hI : Idx M I) (f : Nat) : Ev (fun k => impl_Cart_at_impl_Settle19_1.f k (carts M E I f f)) false := by
  have hIl := hI.2.2
  have hcl := carts_len M E I f f
  have h0 := idx_gen0 (carts M E I f f) (fun x => decide (x.f1 ≥ 0) && (x.f0 != x.f1)) (fun k i => impl_Cart_at_impl_Settle19_1_95.l0 k (carts M E I f f) ((carts M E I f f).length : Int) i) (fun i hi k => ?_) (fun k => ?_)
  · have hno : ((carts M E I f f).any fun x => decide (x.f1 ≥ 0) && (x.f0 != x.f1)) = false := by
      rw [List.any_eq_false]
      intro x hx hc
      unfold carts at hx
      obtain ⟨i, _, rfl⟩ := List.mem_map.1 hx
      simp at hc
    rw [hno] at h0
    exact h0.to fun k => rfl
  · simp only [impl_Cart_at_impl_Settle19_1_95.l0]
    unfold impl_Settle19_1.f
    rw [if_pos (by omega), if_pos (by omega), if_pos (by omega), C_nat hi, wn (by omega)]
    by_cases c : (carts M E I f f)[i].f1 ≥ 0
    · rw [if_pos c, decide_eq_true c, Bool.true_and, Option.bind_some]
    · rw [if_neg c, decide_eq_false c, Bool.false_and, Option.bind_some]
  · simp only [impl_Cart_at_impl_Settle19_1_95.l0]
    rw [if_neg (by omega)]
theorem settle_ok {w h M : Nat} {E : Nat → Nat} (hR : Rg w h M E) (hM : 4 ≤ M) (hM1 : M ≤ 20) {I : List Nat} (hI : Idx M I) (f : Nat) (hf : f < M) :
    ∃ v : List S92 × Int × Bool, v.1.length = I.length ∧ (I = [] ∨ v.2.2 = true ∧ v.2.1 = (f : Int)) ∧ (I = [] → v.2.2 = true) ∧ Ev (fun k => impl_Settle19.f k (w : Int) (h : Int) (ways w h) (carts M E I f 0) 200) v := by
  have hIl := hI.2.2
  have key : ∃ v : List S92 × Int × Bool, v.1.length = I.length ∧ (I = [] ∨ v.2.2 = true ∧ v.2.1 = (f : Int)) ∧ (I = [] → v.2.2 = true) ∧ Ev (fun k => impl_Settle19.l0 k (carts M E I f 0) 0 200 0 (w : Int) (h : Int) (ways w h)) v := by
    by_cases hnil : I = []
    · obtain ⟨mv, m1, m2, m3⟩ := round_ok hR hM hI f 0 hf (by omega)
      have hmv : mv.length = 0 := by
        by_cases c : 0 < f
        · rw [m1 c, hnil]; rfl
        · exact m2 (by omega)
      have hr := rest_ok (w := w) (h := h) (E := E) hI f
      have hc0 : carts M E I f 0 = [] := by rw [hnil]; rfl
      have hcf : carts M E I f f = [] := by rw [hnil]; rfl
      refine ⟨([], 0, true), by rw [hnil]; rfl, .inl hnil, fun _ => rfl, Ev.succ ?_⟩
      simp only [impl_Settle19.l0, if_pos (show (0 : Int) < 200 by decide)]
      refine Ev.bind m3 ?_
      simp only [if_pos (show (mv.length : Int) = 0 by omega)]
      rw [hc0]
      rw [hcf] at hr
      exact Ev.bind hr (Ev.of fun k => rfl)
    · have hpos : 0 < I.length := List.length_pos_iff.2 hnil
      have loop : ∀ (d t : Nat), t ≤ f → f - t = d → Ev (fun k => impl_Settle19.l0 k (carts M E I f t) (t : Int) 200 (t : Int) (w : Int) (h : Int) (ways w h)) (carts M E I f f, (f : Int), true) := by
        intro d
        induction d with
        | zero =>
          intro t ht hd
          obtain rfl : t = f := by omega
          obtain ⟨mv, m1, m2, m3⟩ := round_ok hR hM hI t t hf (Nat.le_refl _)
          have hmv := m2 rfl
          have hr := rest_ok (w := w) (h := h) (E := E) hI t
          refine Ev.succ ?_
          simp only [impl_Settle19.l0, if_pos (show (t : Int) < 200 by omega)]
          refine Ev.bind m3 ?_
          simp only [if_pos (show (mv.length : Int) = 0 by omega)]
          exact Ev.bind hr (Ev.of fun k => rfl)
        | succ d ih =>
          intro t ht hd
          have hlt : t < f := by omega
          obtain ⟨mv, m1, m2, m3⟩ := round_ok hR hM hI f t hf ht
          have hmv := m1 hlt
          rw [if_pos hlt] at m3
          refine Ev.succ ?_
          simp only [impl_Settle19.l0, if_pos (show (t : Int) < 200 by omega)]
          refine Ev.bind m3 ?_
          simp only [if_neg (show ¬ (mv.length : Int) = 0 by omega)]
          rw [wn (by omega)]
          exact ih (t + 1) (by omega) (by omega)
      exact ⟨_, carts_len _ _ _ _ _, .inr ⟨rfl, rfl⟩, fun h => absurd h hnil, loop f 0 (by omega) (by omega)⟩
  obtain ⟨v, v1, v2, v3, v4⟩ := key
  have hok := carts_ok hR hI f 0 hf (by omega)
  refine ⟨v, v1, v2, v3, Ev.bind hok ?_⟩
  simp only [if_true, in_yes 200 0 200 (by omega) (by omega), Option.bind_some]
  refine Ev.succ (v4.to fun k => ?_)
  simp only [impl_Settle19.j0]
  rw [if_neg (by decide), own_cart _ (by rw [carts_len]; omega), Option.bind_some]
/-! ### the law -/
theorem bytes_of' {l : List Int} (h : ∀ x ∈ l, (Lit.int .u8 x).wf = true) : ∀ x ∈ l, 0 ≤ x ∧ x ≤ 255 := bytes_of h
theorem at_ok (c : List Int) (hc : c.length ≤ 1048576) (hb : ∀ x ∈ c, 0 ≤ x ∧ x ≤ 255) (i : Nat) (hi : i ≤ 100) : ∃ v : Nat, v ≤ 255 ∧ laws_at.f c (i : Int) = some (v : Int) := by
  unfold laws_at.f
  by_cases h : i < c.length
  · rw [if_pos (by omega), if_pos (by omega), R_nat h]
    have := hb _ (List.getElem_mem h)
    rw [w64 (by omega) (by omega)]
    exact ⟨c[i].toNat, by omega, by rw [Int.toNat_of_nonneg this.1]⟩
  · rw [if_neg (by omega), w64 (x := (i : Int) * 7) (by omega) (by omega), w64 (by omega) (by omega)]
    have h1 := Int.tmod_nonneg 256 (show (0 : Int) ≤ (i : Int) * 7 + (c.length : Int) by omega)
    have h2 := Int.tmod_lt_of_pos ((i : Int) * 7 + (c.length : Int)) (show (0 : Int) < 256 by decide)
    exact ⟨(Int.tmod ((i : Int) * 7 + (c.length : Int)) 256).toNat, by omega, by rw [Int.toNat_of_nonneg h1]⟩
def edge (E : Nat → Nat) (n : Nat) : List Int := (List.range n).map fun i => (E i : Int)
theorem edge_len (E : Nat → Nat) (n : Nat) : (edge E n).length = n := by simp [edge]
theorem edge_at {E : Nat → Nat} {n i : Nat} (h : i < n) : rd (edge E n) (i : Int) = (E i : Int) := by
  rw [R_nat (by rw [edge_len]; exact h)]; simp [edge]
theorem edge_succ (E : Nat → Nat) (n : Nat) : edge E (n + 1) = edge E n ++ [(E n : Int)] := by
  simp [edge, List.range_succ]
theorem place_mod {M i f : Nat} (hi : i < M) (hf : f < M) (hM : M ≤ 20) : Int.tmod (wrap64 ((i : Int) + (f : Int))) (M : Int) = ((pos M i f : Nat) : Int) := by
  rw [w64 (by omega) (by omega), Int.tmod_eq_emod_of_nonneg (by omega), ← Int.natCast_add, ← Int.natCast_emod]
  congr 1
  unfold pos
  by_cases c : i + f < M
  · rw [if_pos c, Nat.mod_eq_of_lt c]
  · rw [if_neg c, Nat.mod_eq_sub_mod (by omega), Nat.mod_eq_of_lt (by omega)]
theorem law_carts {w h M : Nat} {E : Nat → Nat} (hR : Rg w h M E) (hM : 4 ≤ M) (hM1 : M ≤ 20) (c : List Int) (hc : c.length ≤ 1048576) (hb : ∀ x ∈ c, 0 ≤ x ∧ x ≤ 255) (f : Nat) (hf : f < M) (d : Nat) : ∀ (i : Nat) (I : List Nat), i ≤ M → M - i = d → (∀ a ∈ I, a < i) → I.Pairwise (fun a b => a ≠ b) → I.length ≤ 12 →
    Ev (fun k => laws_FnRing.l1 k c (edge E M) (carts M E I f 0) (f : Int) (i : Int) (w : Int) (h : Int) (ways w h)) true := by
  have fin : ∀ (i : Nat) (I : List Nat), (∀ a ∈ I, a < i) → i ≤ M → I.Pairwise (fun a b => a ≠ b) → I.length ≤ 12 → Ev (fun k => laws_FnRing.j4 k c (edge E M) (carts M E I f 0) (f : Int) (i : Int) false (w : Int) (h : Int) (ways w h)) true := fun i I h1 h2 h3 h4 => by
    obtain ⟨v, v1, v2, v3, v4⟩ := settle_ok hR hM hM1 (I := I) ⟨fun a ha => by have := h1 a ha; omega, h3, h4⟩ f hf
    refine Ev.succ ?_
    simp only [laws_FnRing.j4, Bool.false_eq_true, if_false]
    refine Ev.bind v4 (Ev.of fun k => ?_)
    have hcl := carts_len M E I f 0
    rw [if_pos (by omega)]
    rcases v2 with rfl | ⟨g1, g2⟩
    · rw [if_pos (v3 rfl), if_pos (by rw [hcl]; rfl)]
    · rw [if_pos g1]
      by_cases hz : (((carts M E I f 0).length : Nat) : Int) = 0
      · rw [if_pos hz]
      · rw [if_neg hz, g2, beq_self_eq_true]
  induction d with
  | zero =>
    intro i I hi hd h1 h2 h3
    refine Ev.succ ((fin i I h1 hi h2 h3).to fun k => ?_)
    simp only [laws_FnRing.l1]
    rw [if_neg (by rw [edge_len]; omega)]
  | succ d ih =>
    intro i I hi hd h1 h2 h3
    have him : i < M := by omega
    have hcl := carts_len M E I f 0
    by_cases c1 : I.length < 12
    · obtain ⟨v, hv, e⟩ := at_ok c hc hb (i + 3) (by omega)
      have hi3 : wrap64 ((i : Int) + 3) = ((i + 3 : Nat) : Int) := w64 (by omega) (by omega)
      refine Ev.succ ((Ev.succ (f := fun k => laws_FnRing.j4 k c (edge E M) (carts M E I f 0) (f : Int) (i : Int) true (w : Int) (h : Int) (ways w h)) ?_).to fun k => ?_)
      · by_cases c2 : Int.tmod (v : Int) 3 > 0
        · have hnew : carts M E (I ++ [i]) f 0 = carts M E I f 0 ++ [⟨(E i : Int), (E (pos M i f) : Int)⟩] := by
            unfold carts
            rw [List.map_append]
            have : pos M i 0 = i := by unfold pos; rw [if_pos (by omega)]; rfl
            simp [this]
          have hih := ih (i + 1) (I ++ [i]) (by omega) (by omega) (fun a ha => by
            rcases List.mem_append.1 ha with ha | ha
            · have := h1 a ha; omega
            · rw [List.mem_singleton.1 ha]; omega) (List.pairwise_append.2 ⟨h2, List.pairwise_singleton _ _, fun a ha b hb' => by rw [List.mem_singleton.1 hb']; have := h1 a ha; omega⟩) (by simp; omega)
          rw [hnew] at hih
          refine hih.to fun k => ?_
          have hpl := pos_lt him hf
          simp only [laws_FnRing.j4]
          rw [if_pos trivial, hi3, e, Option.bind_some, if_pos c2, if_pos (by omega), if_pos (by rw [edge_len]; omega), edge_len, if_neg (by omega), place_mod him hf hM1, if_pos (by omega), if_pos (by omega), if_pos (by rw [hcl]; omega), edge_at him, edge_at hpl, wn (by omega)]
        · refine (ih (i + 1) I (by omega) (by omega) (fun a ha => by have := h1 a ha; omega) h2 h3).to fun k => ?_
          simp only [laws_FnRing.j4]
          rw [if_pos trivial, hi3, e, Option.bind_some, if_neg c2, wn (by omega)]
      · simp only [laws_FnRing.l1]
        rw [if_pos (by rw [edge_len]; omega), decide_eq_true (by rw [hcl]; omega)]
    · refine Ev.succ ((fin i I h1 (by omega) h2 h3).to fun k => ?_)
      simp only [laws_FnRing.l1]
      rw [if_pos (by rw [edge_len]; omega), decide_eq_false (by rw [hcl]; omega)]
theorem law_edge {w h M : Nat} {E : Nat → Nat} (hR : Rg w h M E) (hM : 4 ≤ M) (hM1 : M ≤ 20) (c : List Int) (hc : c.length ≤ 1048576) (hb : ∀ x ∈ c, 0 ≤ x ∧ x ≤ 255) (d : Nat) : ∀ i : Nat, i ≤ M → M - i = d →
    Ev (fun k => laws_FnRing.l0 k c (w : Int) (h : Int) (edge E i) (if i < M then (E i : Int) else 0) (i : Int) (w : Int) (h : Int) (ways w h)) true := by
  have hN := size_le hR.w1 hR.h1
  have hw0 := hR.w0
  have hw1 := hR.w1
  have hh0 := hR.h0
  have hh1 := hR.h1
  have hlen := hR.len
  have hbound : wrap64 ((wrap64 (2 * (wrap64 ((w : Int) + (h : Int))))) - 4) = (M : Int) := by
    rw [w64 (x := (w : Int) + (h : Int)) (by omega) (by omega), w64 (x := 2 * ((w : Int) + (h : Int))) (by omega) (by omega), w64 (by omega) (by omega)]
    omega
  induction d with
  | zero =>
    intro i hi hd
    obtain rfl : i = M := by omega
    rw [if_neg (Nat.lt_irrefl _)]
    obtain ⟨H, h1, h2, h3⟩ := hops_ok hR 0 (by omega)
    have d0 := h2 0 (by omega)
    have d1 := h2 1 (by omega)
    rw [hR.zero] at h3 d0
    have q0 : dist 0 i 0 = 0 := rfl
    have q1 : dist 0 i 1 = i - 1 := by unfold dist; rw [if_neg (by omega)]; omega
    rw [q0] at d0
    rw [q1] at d1
    have hE1 := hR.lt 1 (by omega)
    have e0 := edge_at (E := E) (show 1 < i by omega)
    have hl := edge_len E i
    have hwl : (ways w h).length = w * h := ways_len w h
    have hpos : 0 < w * h := Nat.mul_pos (by omega) (by omega)
    obtain ⟨v, hv, e⟩ := at_ok c hc hb 2 (by omega)
    have hfar : ∃ f : Nat, f < i ∧ wrap64 (1 + (Int.tmod (v : Int) ((i : Int) - 1))) = (f : Int) := by
      have t0 := Int.tmod_nonneg ((i : Int) - 1) (show (0 : Int) ≤ (v : Int) by omega)
      have t1 := Int.tmod_lt_of_pos (v : Int) (show (0 : Int) < (i : Int) - 1 by omega)
      refine ⟨(1 + Int.tmod (v : Int) ((i : Int) - 1)).toNat, by omega, ?_⟩
      rw [w64 (by omega) (by omega)]; omega
    obtain ⟨f, hf, ef⟩ := hfar
    have hcarts := law_carts hR hM hM1 c hc hb f hf i 0 [] (by omega) (by omega) (fun a ha => by cases ha) List.Pairwise.nil (by simp)
    have hj2 : Ev (fun k => laws_FnRing.j2 k c (edge E i) false (w : Int) (h : Int) (ways w h)) true := by
      refine Ev.succ (hcarts.to fun k => ?_)
      simp only [laws_FnRing.j2]
      rw [if_neg (by decide), show laws_at.f c 2 = some (v : Int) from e, Option.bind_some, hl, w64 (x := (i : Int) - 1) (by omega) (by omega), if_neg (by omega), ef]; rfl
    refine Ev.succ ?_
    simp only [laws_FnRing.l0, hbound, if_neg (show ¬ (i : Int) < (i : Int) by omega)]
    refine Ev.bind h3 (hj2.to fun k => ?_)
    have hone : rd (edge E i) 1 = (E 1 : Int) := e0
    dsimp only
    rw [if_pos trivial, if_pos rfl, if_pos (by omega), if_pos (by omega), show rd H 0 = 0 from d0, if_pos rfl, if_pos (by omega), hone, if_pos (by omega), if_pos (by omega), d1, hl, w64 (x := (i : Int) - 1) (by omega) (by omega)]
    congr 1
    rw [bne_eq_false_iff_eq]
    omega
  | succ d ih =>
    intro i hi hd
    have him : i < M := by omega
    have hEl := hR.lt i him
    have hway := hR.way i him
    have hnx := hR.nxt i him
    have hsl := hR.lt _ (sc_lt him)
    have hih := ih (i + 1) (by omega) (by omega)
    have hval : (if i + 1 < M then ((E (i + 1) : Nat) : Int) else 0) = ((E (sc M i) : Nat) : Int) := by
      unfold sc
      by_cases c : i + 1 < M
      · rw [if_pos c, if_pos c]
      · rw [if_neg c, if_neg c, hR.zero]; rfl
    rw [hval, edge_succ] at hih
    rw [if_pos him]
    have hwl := ways_len w h
    have hwa := ways_at hEl
    have hl := edge_len E i
    obtain ⟨x, hx⟩ : ∃ x, x = E i := ⟨_, rfl⟩
    obtain ⟨y, hy⟩ : ∃ y, y = E (sc M i) := ⟨_, rfl⟩
    obtain ⟨v, hv⟩ : ∃ v, v = wayAt w h x := ⟨_, rfl⟩
    have hvv : v = 1 ∨ v = 2 ∨ v = 4 ∨ v = 8 := by
      rw [← hx, ← hv] at hway
      rw [hv]
      rw [hv] at hway
      unfold wayAt at hway ⊢
      split
      · exact .inl rfl
      · split
        · exact .inr (.inl rfl)
        · split
          · exact .inr (.inr (.inl rfl))
          · split
            · exact .inr (.inr (.inr rfl))
            · rename_i c1 c2 c3 c4
              rw [if_neg c1, if_neg c2, if_neg c3, if_neg c4] at hway
              exact absurd rfl hway
    have hnv : (if v = 1 then x + 1 else if v = 2 then x + w else if v = 4 then x - 1 else x - w) = y := by
      rw [hv, hy, ← hnx, ← hx]; rfl
    have hx4 : v = 4 → 0 < x := fun h4 => by
      apply Nat.pos_of_ne_zero
      intro h0
      rw [hv, h0] at h4
      unfold wayAt at h4
      rw [Nat.zero_div, Nat.zero_mod] at h4
      rw [if_pos (by omega)] at h4
      cases h4
    have hx8 : v = 8 → w ≤ x := fun h8 => by
      apply Nat.le_of_not_lt
      intro h0
      rw [hv] at h8
      unfold wayAt at h8
      rw [Nat.div_eq_of_lt h0, Nat.mod_eq_of_lt h0] at h8
      by_cases c1 : x + 1 < w
      · rw [if_pos ⟨rfl, c1⟩] at h8; cases h8
      · rw [if_neg (fun h => c1 h.2), if_pos ⟨by omega, by omega⟩] at h8; cases h8
    rw [← hx] at hwa hEl hih ⊢
    rw [← hv] at hwa
    rw [← hy] at hsl hih
    clear hx hy hway hnx hval hv
    have hel : (edge E i).length < 17592186044416 := by omega
    refine Ev.succ (hih.to fun k => ?_)
    simp only [laws_FnRing.l0]
    rw [hbound, if_pos (by omega), if_pos hel, Option.bind_some, if_pos (by omega), if_pos (by omega), hwa, hwl, wn (i := i) (by omega)]
    clear hbound
    rcases hvv with rfl | rfl | rfl | rfl
    · rw [if_pos rfl] at hnv
      have e : wrap64 ((x : Int) + 1) = (y : Int) := by rw [w64 (by omega) (by omega)]; omega
      clear hnv hx4 hx8
      rw [if_pos rfl, e]
      clear e
      rw [if_neg (by omega), if_neg (by omega)]
    · rw [if_neg (by decide), if_pos rfl] at hnv
      have e : wrap64 ((x : Int) + (w : Int)) = (y : Int) := by rw [w64 (by omega) (by omega)]; omega
      clear hnv hx4 hx8
      rw [if_neg (by decide), if_pos rfl, e]
      clear e
      rw [if_neg (by omega), if_neg (by omega)]
    · rw [if_neg (by decide), if_neg (by decide), if_pos rfl] at hnv
      have := hx4 rfl
      have e : wrap64 ((x : Int) - 1) = (y : Int) := by rw [w64 (by omega) (by omega)]; omega
      clear hnv hx4 hx8
      rw [if_neg (by decide), if_neg (by decide), if_pos rfl, e]
      clear e
      rw [if_neg (by omega), if_neg (by omega)]
    · rw [if_neg (by decide), if_neg (by decide), if_neg (by decide)] at hnv
      have := hx8 rfl
      have e : wrap64 ((x : Int) - (w : Int)) = (y : Int) := by rw [w64 (by omega) (by omega)]; omega
      clear hnv hx4 hx8
      rw [if_neg (by decide), if_neg (by decide), if_neg (by decide), if_pos rfl, e]
      clear e
      rw [if_neg (by omega), if_neg (by omega)]
theorem FnRing : laws_FnRing.Pure := by
  intro l0 _ _ hwf
  have hb := bytes_of' hwf
  by_cases hbig : (l0.length : Int) > 1048576
  · refine ⟨0, ?_⟩
    unfold laws_FnRing.f laws_big.f
    rw [decide_eq_true hbig, Option.bind_some, if_pos rfl]
  · obtain ⟨a, ha, ea⟩ := at_ok l0 (by omega) hb 0 (by omega)
    obtain ⟨b, hb', eb⟩ := at_ok l0 (by omega) hb 1 (by omega)
    obtain ⟨w, hw⟩ : ∃ w, w = 2 + a % 5 := ⟨_, rfl⟩
    obtain ⟨h, hh⟩ : ∃ h, h = 2 + b % 5 := ⟨_, rfl⟩
    have e1 : wrap64 (2 + (Int.tmod (a : Int) 5)) = (w : Int) := by rw [Int.tmod_eq_emod_of_nonneg (by omega), w64 (by omega) (by omega)]; omega
    have e2 : wrap64 (2 + (Int.tmod (b : Int) 5)) = (h : Int) := by rw [Int.tmod_eq_emod_of_nonneg (by omega), w64 (by omega) (by omega)]; omega
    have w0 : 2 ≤ w := by omega
    have w1 : w ≤ 6 := by omega
    have h0 : 2 ≤ h := by omega
    have h1 : h ≤ 6 := by omega
    have hR := rg w0 w1 h0 h1
    have hN := size_le w1 h1
    have hwh : wrap64 ((w : Int) * (h : Int)) = ((w * h : Nat) : Int) := by rw [Int.natCast_mul]; exact w64 (by rw [← Int.natCast_mul]; omega) (by rw [← Int.natCast_mul]; omega)
    have hl := law_edge hR (by omega) (by omega) l0 (by omega) hb (2 * (w + h) - 4) 0 (by omega) (by omega)
    rw [if_pos (by omega), hR.zero] at hl
    have hj : Ev (fun k => laws_FnRing.j0 k l0 (w : Int) (h : Int) false (w : Int) (h : Int) (ways w h)) true := by
      refine Ev.succ (hl.to fun k => ?_)
      simp only [laws_FnRing.j0]
      rw [if_neg (by decide)]; rfl
    obtain ⟨k, hk⟩ := (Ev.bind (g := fun k (bt267 : Int × Int × List Int × Bool) => (if bt267.2.2.2 = true then ((impl_FloorOk.f bt267.1 bt267.2.1 bt267.2.2.1).bind fun t274 => (if t274 = true then (laws_FnRing.j0 k l0 (w : Int) (h : Int) ((bt267.2.2.1.length : Int) != (wrap64 ((w : Int) * (h : Int)))) bt267.1 bt267.2.1 bt267.2.2.1) else (laws_FnRing.j0 k l0 (w : Int) (h : Int) true bt267.1 bt267.2.1 bt267.2.2.1))) else (laws_FnRing.j0 k l0 (w : Int) (h : Int) true bt267.1 bt267.2.1 bt267.2.2.1))) (oneway w0 w1 h0 h1) (hj.to fun k => by
      dsimp only
      rw [if_pos rfl, floor_ok w0 w1 h0 h1, Option.bind_some, if_pos rfl, hwh, ways_len, bne_self_eq_false])).get
    refine ⟨k, ?_⟩
    unfold laws_FnRing.f laws_big.f
    rw [decide_eq_false hbig, Option.bind_some, if_neg (by decide), show laws_at.f l0 0 = some (a : Int) from ea, Option.bind_some, show laws_at.f l0 1 = some (b : Int) from eb, Option.bind_some, e1, e2]
    exact hk

end Go.Proofs.Ytlphfhibnbhkfaa.Pure
