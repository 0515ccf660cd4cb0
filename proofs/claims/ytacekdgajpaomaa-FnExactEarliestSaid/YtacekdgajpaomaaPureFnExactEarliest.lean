/- The program's Earliest returns what the reference's returns, for all arguments; it changes none of them and shares no memory with them. -/
import Derived.Test.YtacekdgajpaomaaPFnExactEarliestx9
import Derived.Test.YtacekdgajpaomaaVEarliestKit
set_option linter.unusedVariables false
set_option linter.unusedSimpArgs false
namespace Go.Proofs.Ytacekdgajpaomaa.Pure
open Go.RowKit Go.Proofs.Ytacekdgajpaomaa.PFnExactEarliest Go.Proofs.YtacekdgajpaomaaW.PrintWords Go.Proofs.YtacekdgajpaomaaW.PrintLast Go.Proofs.YtacekdgajpaomaaW.PrintMore Go.Proofs.YtacekdgajpaomaaW.Kit

/-! ### what is answered from some round on -/
def Ev {α : Type} (f : Nat → Option α) (v : α) : Prop := ∃ M, ∀ k, M < k → f k = some v
theorem Ev.of {α : Type} {f : Nat → Option α} {v : α} (h : ∀ k, f k = some v) : Ev f v := ⟨0, fun k _ => h k⟩
theorem Ev.succ {α : Type} {f : Nat → Option α} {v : α} (h : Ev (fun k => f (k + 1)) v) : Ev f v := by
  obtain ⟨M, h⟩ := h
  refine ⟨M + 1, fun k hk => ?_⟩
  obtain ⟨k, rfl⟩ := pos_round (show 0 < k by omega)
  exact h k (by omega)
theorem Ev.bind {α β : Type} {f : Nat → Option α} {g : Nat → α → Option β} {v : α} {w : β} (h1 : Ev f v) (h2 : Ev (fun k => g k v) w) : Ev (fun k => (f k).bind (g k)) w := by
  obtain ⟨M, h1⟩ := h1
  obtain ⟨N, h2⟩ := h2
  refine ⟨M + N, fun k hk => ?_⟩
  show (f k).bind (g k) = some w
  rw [h1 k (by omega)]
  exact h2 k (by omega)
theorem Ev.to {α : Type} {f g : Nat → Option α} {v : α} (h : Ev g v) (e : ∀ k, f k = g k) : Ev f v := by
  obtain ⟨M, h⟩ := h
  exact ⟨M, fun k hk => by rw [e k]; exact h k hk⟩
theorem Ev.get {α : Type} {f : Nat → Option α} {v : α} (h : Ev f v) : ∃ k, f k = some v := by
  obtain ⟨M, h⟩ := h
  exact ⟨M + 1, h _ (by omega)⟩
theorem getD_at {α : Type} {z : α} {l : List α} {i : Nat} (h : i < l.length) : l.getD i z = l[i] := by
  simp [List.getD_eq_getElem?_getD, List.getElem?_eq_getElem h]
/-- All of a list are right, told from its end. -/
theorem all_down {α : Type} (l : List α) (p : α → Bool) (L : Nat → Int → Option Bool) (b0 : Bool)
    (h : ∀ (i : Nat) (hi : i < l.length) (b : Bool), (p l[i] = true → Ev (fun k => L k ((i + 1 : Nat) : Int)) b) → Ev (fun k => L k (i : Int)) (p l[i] && b)) (d : Nat) :
    ∀ i : Nat, i ≤ l.length → l.length - i = d → ((l.drop i).all p = true → Ev (fun k => L k (l.length : Int)) b0) → Ev (fun k => L k (i : Int)) ((l.drop i).all p && b0) := by
  induction d with
  | zero =>
    intro i h1 hd hE
    obtain rfl : i = l.length := by omega
    rw [List.drop_eq_nil_of_le (Nat.le_refl _)] at hE ⊢
    exact hE rfl
  | succ d ih =>
    intro i h1 hd hE
    have hi : i < l.length := by omega
    rw [List.drop_eq_getElem_cons hi, List.all_cons, Bool.and_assoc]
    refine h i hi _ fun hp => ih (i + 1) (by omega) (by omega) fun ha => hE ?_
    rw [List.drop_eq_getElem_cons hi, List.all_cons, hp, ha]; rfl
theorem all_down0 {α : Type} (l : List α) (p : α → Bool) (L : Nat → Int → Option Bool) (b0 : Bool)
    (h : ∀ (i : Nat) (hi : i < l.length) (b : Bool), (p l[i] = true → Ev (fun k => L k ((i + 1 : Nat) : Int)) b) → Ev (fun k => L k (i : Int)) (p l[i] && b))
    (hE : l.all p = true → Ev (fun k => L k (l.length : Int)) b0) : Ev (fun k => L k 0) (l.all p && b0) := by
  have := all_down l p L b0 h l.length 0 (by omega) (by omega) (by simpa using hE)
  simpa using this
/-- A list is found whole, element by element. -/
theorem copy_up {α β : Type} (l : List α) (g : α → β) (L : Nat → List β → Int → Option (List β))
    (h : ∀ (i : Nat) (hi : i < l.length) (o : List β) (r : List β), o.length = l.length → Ev (fun k => L k (o.set i (g l[i])) ((i + 1 : Nat) : Int)) r → Ev (fun k => L k o (i : Int)) r)
    (hE : ∀ o, Ev (fun k => L k o (l.length : Int)) o) (d : Nat) :
    ∀ (i : Nat) (o : List β), i ≤ l.length → l.length - i = d → o.length = l.length → o.take i = (l.map g).take i → Ev (fun k => L k o (i : Int)) (l.map g) := by
  induction d with
  | zero =>
    intro i o h1 hd ho ht
    obtain rfl : i = l.length := by omega
    rw [List.take_of_length_le (by omega), List.take_of_length_le (by simp)] at ht
    rw [← ht]; exact hE o
  | succ d ih =>
    intro i o h1 hd ho ht
    have hi : i < l.length := by omega
    refine h i hi o _ ho (ih (i + 1) _ (by omega) (by omega) (by simpa using ho) ?_)
    rw [List.take_succ_eq_append_getElem (by simp; omega), List.take_succ_eq_append_getElem (by simp; omega), List.take_set_of_le (Nat.le_refl _), ht]
    simp
theorem copy_up0 {α β : Type} (l : List α) (g : α → β) (z : β) (L : Nat → List β → Int → Option (List β))
    (h : ∀ (i : Nat) (hi : i < l.length) (o : List β) (r : List β), o.length = l.length → Ev (fun k => L k (o.set i (g l[i])) ((i + 1 : Nat) : Int)) r → Ev (fun k => L k o (i : Int)) r)
    (hE : ∀ o, Ev (fun k => L k o (l.length : Int)) o) : Ev (fun k => L k (List.replicate l.length z) 0) (l.map g) := by
  have := copy_up l g L h hE l.length 0 (List.replicate l.length z) (by omega) (by omega) (by simp) (by simp)
  simpa using this
/-- Sizes that are taken off one after another. -/
theorem size_up {α : Type} (l : List α) (P : α → Int → Prop) (hP : ∀ x a b, a ≤ b → P x a → P x b) (L : Nat → Int → Int → Option Int)
    (h : ∀ (i : Nat) (hi : i < l.length) (a : Int), 0 ≤ a → a ≤ 1048576 → ∃ t, -1 ≤ t ∧ t ≤ a ∧ (0 ≤ t → P l[i] a) ∧ ∀ r, Ev (fun k => if t < 0 then some (-1) else L k t ((i + 1 : Nat) : Int)) r → Ev (fun k => L k a (i : Int)) r)
    (hE : ∀ a, Ev (fun k => L k a (l.length : Int)) a) (d : Nat) :
    ∀ (i : Nat) (a : Int), i ≤ l.length → l.length - i = d → 0 ≤ a → a ≤ 1048576 → ∃ t, -1 ≤ t ∧ t ≤ a ∧ (0 ≤ t → ∀ x ∈ l.drop i, P x a) ∧ Ev (fun k => L k a (i : Int)) t := by
  induction d with
  | zero =>
    intro i a h1 hd ha ha1
    obtain rfl : i = l.length := by omega
    exact ⟨a, by omega, by omega, fun _ x hx => (by rw [List.drop_eq_nil_of_le (Nat.le_refl _)] at hx; cases hx), hE a⟩
  | succ d ih =>
    intro i a h1 hd ha ha1
    have hi : i < l.length := by omega
    obtain ⟨t, t0, t1, t2, t3⟩ := h i hi a ha ha1
    by_cases c : t < 0
    · exact ⟨-1, by omega, by omega, fun h => by omega, t3 _ (by simp only [if_pos c]; exact Ev.of fun _ => rfl)⟩
    · obtain ⟨u, u0, u1, u2, u3⟩ := ih (i + 1) t (by omega) (by omega) (by omega) (by omega)
      refine ⟨u, u0, by omega, fun hu x hx => ?_, t3 _ (by simp only [if_neg c]; exact u3)⟩
      rw [List.drop_eq_getElem_cons hi] at hx
      rcases List.mem_cons.1 hx with rfl | hx
      · exact t2 (by omega)
      · exact hP _ _ _ t1 (u2 hu x hx)
/-- What is written, part by part. -/
def wl {α γ : Type} (w : Nat → α → List γ) : Nat → List α → List γ
  | _, [] => []
  | i, x :: l => w i x ++ wl w (i + 1) l
theorem wl_map {α γ δ : Type} (f : γ → δ) (w : Nat → α → List γ) (l : List α) : ∀ i, (wl w i l).map f = wl (fun i x => (w i x).map f) i l := by
  induction l with
  | nil => intro i; rfl
  | cons x l ih => intro i; simp only [wl, List.map_append, ih]
theorem wl_le {α γ : Type} (w : Nat → α → List γ) (c : Nat) (l : List α) (h : ∀ i, ∀ x ∈ l, (w i x).length ≤ c) : ∀ i, (wl w i l).length ≤ c * l.length := by
  induction l with
  | nil => intro i; simp [wl]
  | cons x l ih =>
    intro i
    have h1 := h i x (by simp)
    have h2 := ih (fun i y hy => h i y (by simp [hy])) (i + 1)
    simp only [wl, List.length_append, List.length_cons, Nat.mul_add, Nat.mul_one]
    omega
theorem cont {α γ β : Type} (l : List α) (w : Nat → α → List γ) (L : Nat → List γ → Int → Option β)
    (h : ∀ (i : Nat) (hi : i < l.length) (a : List γ) (r : β), (a ++ w i l[i]).length ≤ 1000000000 → Ev (fun k => L k (a ++ w i l[i]) ((i + 1 : Nat) : Int)) r → Ev (fun k => L k a (i : Int)) r) (d : Nat) :
    ∀ (i : Nat) (a : List γ) (r : β), i ≤ l.length → l.length - i = d → (a ++ wl w i (l.drop i)).length ≤ 1000000000 → Ev (fun k => L k (a ++ wl w i (l.drop i)) (l.length : Int)) r → Ev (fun k => L k a (i : Int)) r := by
  induction d with
  | zero =>
    intro i a r h1 hd hn hr
    obtain rfl : i = l.length := by omega
    rw [List.drop_eq_nil_of_le (Nat.le_refl _)] at hr
    simpa [wl] using hr
  | succ d ih =>
    intro i a r h1 hd hn hr
    have hi : i < l.length := by omega
    rw [List.drop_eq_getElem_cons hi] at hr hn
    simp only [wl, ← List.append_assoc] at hr hn
    exact h i hi a r (by rw [List.length_append] at hn; omega) (ih (i + 1) _ r (by omega) (by omega) hn hr)
theorem cont0 {α γ β : Type} (l : List α) (w : Nat → α → List γ) (L : Nat → List γ → Int → Option β) (a : List γ) (r : β)
    (h : ∀ (i : Nat) (hi : i < l.length) (a : List γ) (r : β), (a ++ w i l[i]).length ≤ 1000000000 → Ev (fun k => L k (a ++ w i l[i]) ((i + 1 : Nat) : Int)) r → Ev (fun k => L k a (i : Int)) r)
    (hn : (a ++ wl w 0 l).length ≤ 1000000000) (hr : Ev (fun k => L k (a ++ wl w 0 l) (l.length : Int)) r) : Ev (fun k => L k a 0) r := by
  have := cont l w L h l.length 0 a r (by omega) (by omega) (by simpa using hn) (by simpa using hr)
  simpa using this
theorem rd60_lt {l : List S60} {i : Int} (h0 : 0 ≤ i) (h1 : i < l.length) : ∃ h : i.toNat < l.length, rd_T60 l i = l[i.toNat]'h := by
  have h : i.toNat < l.length := by omega
  exact ⟨h, by simp [rd_T60, List.getD_eq_getElem?_getD, List.getElem?_eq_getElem h]⟩
theorem rd60_mem {l : List S60} {i : Int} (h0 : 0 ≤ i) (h1 : i < l.length) : rd_T60 l i ∈ l := by
  obtain ⟨h, e⟩ := rd60_lt h0 h1
  rw [e]; exact List.getElem_mem h
theorem rd60_drop {l : List S60} {i : Int} (h0 : 0 ≤ i) (h1 : i < l.length) : l.drop i.toNat = rd_T60 l i :: l.drop (i + 1).toNat := by
  obtain ⟨h, e⟩ := rd60_lt h0 h1
  rw [e, show (i + 1).toNat = i.toNat + 1 by omega, List.drop_eq_getElem_cons h]
theorem rd60_take {l : List S60} {i : Int} (h0 : 0 ≤ i) (h1 : i < l.length) : l.take (i + 1).toNat = l.take i.toNat ++ [rd_T60 l i] := by
  obtain ⟨h, e⟩ := rd60_lt h0 h1
  rw [e, show (i + 1).toNat = i.toNat + 1 by omega, List.take_succ_eq_append_getElem h]
theorem rd60_set_eq {l : List S60} {i : Int} {x : S60} (h0 : 0 ≤ i) (h1 : i < l.length) : rd_T60 (l.set i.toNat x) i = x := by
  simp [rd_T60, List.getD_eq_getElem?_getD, List.getElem?_set, show i.toNat < l.length by omega]
theorem rd60_set_ne {l : List S60} {i j : Int} {x : S60} (h0 : 0 ≤ i) (hj : 0 ≤ j) (h : i ≠ j) : rd_T60 (l.set i.toNat x) j = rd_T60 l j := by
  simp [rd_T60, List.getD_eq_getElem?_getD, List.getElem?_set, show ¬ i.toNat = j.toNat by omega]
theorem rd60_append_left {l m : List S60} {i : Int} (h0 : 0 ≤ i) (h1 : i < l.length) : rd_T60 (l ++ m) i = rd_T60 l i := by
  simp [rd_T60, List.getD_eq_getElem?_getD, List.getElem?_append_left (show i.toNat < l.length by omega)]
theorem rd60_last {l : List S60} {x : S60} : rd_T60 (l ++ [x]) (l.length : Int) = x := by
  simp [rd_T60, List.getD_eq_getElem?_getD]
theorem ext60 {l m : List S60} (h : l.length = m.length) (hr : ∀ i : Int, 0 ≤ i → i < l.length → rd_T60 l i = rd_T60 m i) : l = m := by
  apply List.ext_getElem h
  intro i h1 h2
  have := hr i (by omega) (by omega)
  simpa [rd_T60, List.getD_eq_getElem?_getD, List.getElem?_eq_getElem h1, List.getElem?_eq_getElem h2] using this
theorem rd31_lt {l : List S31} {i : Int} (h0 : 0 ≤ i) (h1 : i < l.length) : ∃ h : i.toNat < l.length, rd_T31 l i = l[i.toNat]'h := by
  have h : i.toNat < l.length := by omega
  exact ⟨h, by simp [rd_T31, List.getD_eq_getElem?_getD, List.getElem?_eq_getElem h]⟩
theorem rd31_mem {l : List S31} {i : Int} (h0 : 0 ≤ i) (h1 : i < l.length) : rd_T31 l i ∈ l := by
  obtain ⟨h, e⟩ := rd31_lt h0 h1
  rw [e]; exact List.getElem_mem h
theorem rd31_drop {l : List S31} {i : Int} (h0 : 0 ≤ i) (h1 : i < l.length) : l.drop i.toNat = rd_T31 l i :: l.drop (i + 1).toNat := by
  obtain ⟨h, e⟩ := rd31_lt h0 h1
  rw [e, show (i + 1).toNat = i.toNat + 1 by omega, List.drop_eq_getElem_cons h]
theorem rd31_take {l : List S31} {i : Int} (h0 : 0 ≤ i) (h1 : i < l.length) : l.take (i + 1).toNat = l.take i.toNat ++ [rd_T31 l i] := by
  obtain ⟨h, e⟩ := rd31_lt h0 h1
  rw [e, show (i + 1).toNat = i.toNat + 1 by omega, List.take_succ_eq_append_getElem h]
theorem rd31_set_eq {l : List S31} {i : Int} {x : S31} (h0 : 0 ≤ i) (h1 : i < l.length) : rd_T31 (l.set i.toNat x) i = x := by
  simp [rd_T31, List.getD_eq_getElem?_getD, List.getElem?_set, show i.toNat < l.length by omega]
theorem rd31_set_ne {l : List S31} {i j : Int} {x : S31} (h0 : 0 ≤ i) (hj : 0 ≤ j) (h : i ≠ j) : rd_T31 (l.set i.toNat x) j = rd_T31 l j := by
  simp [rd_T31, List.getD_eq_getElem?_getD, List.getElem?_set, show ¬ i.toNat = j.toNat by omega]
theorem rd31_append_left {l m : List S31} {i : Int} (h0 : 0 ≤ i) (h1 : i < l.length) : rd_T31 (l ++ m) i = rd_T31 l i := by
  simp [rd_T31, List.getD_eq_getElem?_getD, List.getElem?_append_left (show i.toNat < l.length by omega)]
theorem rd31_last {l : List S31} {x : S31} : rd_T31 (l ++ [x]) (l.length : Int) = x := by
  simp [rd_T31, List.getD_eq_getElem?_getD]
theorem ext31 {l m : List S31} (h : l.length = m.length) (hr : ∀ i : Int, 0 ≤ i → i < l.length → rd_T31 l i = rd_T31 m i) : l = m := by
  apply List.ext_getElem h
  intro i h1 h2
  have := hr i (by omega) (by omega)
  simpa [rd_T31, List.getD_eq_getElem?_getD, List.getElem?_eq_getElem h1, List.getElem?_eq_getElem h2] using this
/-- What the law's list is as the program's. -/
def toLeg (l : List S60) : List S31 := l.map fun x => ⟨x.f0, x.f1, x.f2, x.f3, x.f4, x.f5⟩
theorem toLeg_loop (l : List S60) (hn : l.length ≤ 1048576) (d : Nat) : ∀ (k : Nat) (o : List S31) (i : Int), 0 ≤ i → i ≤ l.length → (l.length : Int) - i = d → d < k → o.length = l.length → o.take i.toNat = (toLeg l).take i.toNat → laws_toLegS.l0 k l o i = some (toLeg l) := by
  induction d with
  | zero =>
    intro k o i h0 h1 hd hk ho ht
    obtain ⟨k, rfl⟩ := pos_round (show 0 < k by omega)
    simp only [laws_toLegS.l0]
    rw [if_neg (by omega)]
    rw [List.take_of_length_le (by omega), List.take_of_length_le (by simp [toLeg]; omega)] at ht
    rw [ht]
  | succ d ih =>
    intro k o i h0 h1 hd hk ho ht
    obtain ⟨k, rfl⟩ := pos_round (show 0 < k by omega)
    obtain ⟨hl, e⟩ := rd60_lt h0 (show i < (l.length : Int) by omega)
    simp only [laws_toLegS.l0]
    rw [if_pos (by omega), if_pos h0]
    simp only [laws_toLeg.f, Option.bind_some]
    rw [if_pos (by omega), w64 (x := i + 1) (by omega) (by omega)]
    refine ih k _ (i + 1) (by omega) (by omega) (by omega) (by omega) (by simpa using ho) ?_
    rw [show (i + 1).toNat = i.toNat + 1 by omega, List.take_succ_eq_append_getElem (by simp; omega), List.take_succ_eq_append_getElem (by simp [toLeg]; omega), List.take_set_of_le (Nat.le_refl _), ht]
    simp [toLeg, e]
theorem toLeg_ok (l : List S60) (hn : l.length ≤ 1048576) (k : Nat) (hk : l.length < k) : laws_toLegS.f k l = some (toLeg l) := by
  unfold laws_toLegS.f
  rw [if_pos (by omega), if_pos (by omega)]
  exact toLeg_loop l hn l.length k _ 0 (by omega) (by omega) (by omega) hk (by simp) (by simp)
theorem toLeg_length (l : List S60) : (toLeg l).length = l.length := by simp [toLeg]
theorem eqLeg_loop (l : List S31) (hn : l.length ≤ 1000000000) (d : Nat) : ∀ (k : Nat) (i : Int), 0 ≤ i → i ≤ l.length → (l.length : Int) - i = d → d < k → laws_eqLegS.l0 k l l i = some true := by
  induction d with
  | zero =>
    intro k i h0 h1 hd hk
    obtain ⟨k, rfl⟩ := pos_round (show 0 < k by omega)
    simp only [laws_eqLegS.l0]
    rw [if_neg (by omega)]
  | succ d ih =>
    intro k i h0 h1 hd hk
    obtain ⟨k, rfl⟩ := pos_round (show 0 < k by omega)
    simp only [laws_eqLegS.l0]
    rw [if_pos (by omega), if_pos h0, if_pos (by omega), w64 (x := i + 1) (by omega) (by omega)]
    simp only [laws_eqLeg.f, if_true, Option.bind_some]
    exact ih k (i + 1) (by omega) (by omega) (by omega) (by omega)
theorem eqLeg_ok (l : List S31) (hn : l.length ≤ 1000000000) (k : Nat) (hk : l.length < k) : laws_eqLegS.f k l l = some true := by
  unfold laws_eqLegS.f
  rw [if_pos rfl]
  exact eqLeg_loop l hn l.length k 0 (by omega) (by omega) (by omega) hk
/-! ### LegsOk: the last one of a service, found by a map or by looking back -/
theorem l1in_eq (a lo hi : Int) : spec_l1In.f a lo hi = some (impl_LegsOk.in1 a lo hi) := by
  unfold spec_l1In.f impl_LegsOk.in1
  by_cases c : lo ≤ a
  · rw [if_pos c, decide_eq_true c, Bool.true_and]
  · rw [if_neg c, decide_eq_false c, Bool.false_and]
theorem l1min_eq (a : Int) : spec_l1Minute.f a = some (impl_LegsOk.in1 a 0 100000000) := by
  unfold spec_l1Minute.f
  rw [l1in_eq, Option.bind_some]
theorem last_snoc (x : S31) (s : Int) : ∀ p : List S31, impl_LegsOk.last (p ++ [x]) s = if x.f0 = s then some x else impl_LegsOk.last p s
  | [] => rfl
  | y :: r => by
    show (match impl_LegsOk.last (r ++ [x]) s with | some y => some y | none => if y.f0 = s then some y else none) = _
    rw [last_snoc x s r]
    by_cases c : x.f0 = s
    · rw [if_pos c, if_pos c]
    · rw [if_neg c, if_neg c]; rfl
theorem legs_chain (x : S31) (J : Bool → Option Bool) : ((spec_l1In.f x.f0 1 100).bind fun t106 => (if t106 = true then ((spec_l1In.f x.f1 0 19).bind fun t107 => (if t107 = true then ((spec_l1In.f x.f2 0 19).bind fun t108 => (if t108 = true then (if x.f1 = x.f2 then J true else ((spec_l1Minute.f x.f3).bind fun t109 => (if t109 = true then ((spec_l1Minute.f x.f4).bind fun t110 => (if t110 = true then (if x.f3 ≥ x.f4 then J true else ((spec_l1In.f x.f5 0 1000000).bind fun t111 => J (!t111))) else J true)) else J true))) else J true)) else J true)) else J true)) = J (impl_LegsOk.bad x) := by
  unfold impl_LegsOk.bad
  simp only [l1in_eq, l1min_eq, Option.bind_some]
  generalize impl_LegsOk.in1 x.f0 1 100 = b0
  generalize impl_LegsOk.in1 x.f1 0 19 = b1
  generalize impl_LegsOk.in1 x.f2 0 19 = b2
  generalize impl_LegsOk.in1 x.f3 0 100000000 = b3
  generalize impl_LegsOk.in1 x.f4 0 100000000 = b4
  generalize impl_LegsOk.in1 x.f5 0 1000000 = b5
  cases b0
  · rfl
  cases b1
  · rfl
  cases b2
  · rfl
  by_cases c : x.f1 = x.f2
  · rw [if_pos rfl, if_pos rfl, if_pos rfl, if_pos c, beq_iff_eq.mpr c]; rfl
  · rw [if_pos rfl, if_pos rfl, if_pos rfl, if_neg c, beq_eq_false_iff_ne.mpr c]
    cases b3
    · rfl
    cases b4
    · rfl
    by_cases d : x.f3 ≥ x.f4
    · rw [if_pos rfl, if_pos rfl, if_pos d, decide_eq_true d]; rfl
    · rw [if_pos rfl, if_pos rfl, if_neg d, decide_eq_false d]; rfl
/-- what looking back from j comes to -/
def backV (l : List S31) (j : Nat) (x : S31) (R : Bool) : Bool := match impl_LegsOk.last (l.take j) x.f0 with
  | none => R
  | some q => if impl_LegsOk.clash q x = true then false else R
theorem legs_back (l : List S31) (hn : l.length ≤ 1048576) (i : Int) (h0 : 0 ≤ i) (h1 : i < l.length) (W : Nat) (R : Bool) (hR : ∀ k, W < k → spec_LegsOk.l0 k l (i + 1) = some R) : ∀ (j : Nat) (x5 : Int), x5 = (j : Int) - 1 → (j : Int) ≤ i → ∀ k, W + j + 1 < k →
    spec_LegsOk.l1 k l i x5 (rd_T31 l i).f0 (rd_T31 l i).f1 (rd_T31 l i).f2 (rd_T31 l i).f3 (rd_T31 l i).f4 (rd_T31 l i).f5 = some (backV l j (rd_T31 l i) R) := by
  intro j
  induction j with
  | zero =>
    intro x5 e hj k hk
    obtain ⟨k, rfl⟩ := pos_round (show 0 < k by omega)
    simp only [spec_LegsOk.l1]
    rw [if_neg (by omega), w64 (x := i + 1) (by omega) (by omega), hR k (by omega)]
    rfl
  | succ j ih =>
    intro x5 e hj k hk
    have e5 : x5 = (j : Int) := by omega
    subst e5
    obtain ⟨k, rfl⟩ := pos_round (show 0 < k by omega)
    simp only [spec_LegsOk.l1]
    rw [if_pos (by omega), if_pos (by omega), if_pos (by omega), w64 (x := i + 1) (by omega) (by omega), w64 (x := (j : Int) - 1) (by omega) (by omega)]
    have hb : backV l (j + 1) (rd_T31 l i) R = if (rd_T31 l (j : Int)).f0 = (rd_T31 l i).f0 then (if impl_LegsOk.clash (rd_T31 l (j : Int)) (rd_T31 l i) = true then false else R) else backV l j (rd_T31 l i) R := by
      unfold backV
      have ht := rd31_take (l := l) (i := (j : Int)) (by omega) (by omega)
      rw [show ((j : Int) + 1).toNat = j + 1 by omega, show ((j : Int)).toNat = j by omega] at ht
      rw [ht, last_snoc]
      by_cases c : (rd_T31 l (j : Int)).f0 = (rd_T31 l i).f0
      · rw [if_pos c, if_pos c]
      · rw [if_neg c, if_neg c]
    rw [hb]
    by_cases c : (rd_T31 l (j : Int)).f0 = (rd_T31 l i).f0
    · rw [if_pos c, if_pos c, hR k (by omega)]
      unfold impl_LegsOk.clash
      by_cases c2 : (rd_T31 l (j : Int)).f2 = (rd_T31 l i).f1
      · rw [if_pos c2, bne_eq_false_iff_eq.mpr c2, Bool.false_or]
        by_cases c3 : (rd_T31 l (j : Int)).f4 > (rd_T31 l i).f3
        · rw [if_pos c3, decide_eq_true (show (rd_T31 l i).f3 < (rd_T31 l (j : Int)).f4 from c3), if_pos rfl]
        · rw [if_neg c3, decide_eq_false (show ¬ (rd_T31 l i).f3 < (rd_T31 l (j : Int)).f4 from c3), if_neg (by decide)]
      · rw [if_neg c2, bne_iff_ne.mpr c2, Bool.true_or, if_pos rfl]
    · rw [if_neg c, if_neg c]
      exact ih _ rfl (by omega) k (by omega)
theorem legs_loop (l : List S31) (hn : l.length ≤ 1048576) : ∀ (d : Nat) (i : Int), 0 ≤ i → i ≤ l.length → (l.length : Int) - i = d → ∀ k, d * (l.length + 4) < k → spec_LegsOk.l0 k l i = some (impl_LegsOk.g (d + 1) l i && decide ((l.length : Int) ≤ 60)) := by
  intro d
  induction d with
  | zero =>
    intro i h0 h1 hd k hk
    obtain ⟨k, rfl⟩ := pos_round (show 0 < k by omega)
    simp only [spec_LegsOk.l0]
    unfold impl_LegsOk.g
    rw [if_neg (by omega), if_neg (by omega), Bool.true_and]
  | succ d ih =>
    intro i h0 h1 hd k hk
    rw [Nat.succ_mul] at hk
    have ih' := ih (i + 1) (by omega) (by omega) (by omega)
    generalize d * (l.length + 4) = W at hk ih'
    obtain ⟨k, rfl⟩ := pos_round (show 0 < k by omega)
    simp only [spec_LegsOk.l0]
    rw [if_pos (by omega), if_pos h0]
    refine (legs_chain (rd_T31 l i) (fun b => spec_LegsOk.j1 k l i b (rd_T31 l i).f0 (rd_T31 l i).f1 (rd_T31 l i).f2 (rd_T31 l i).f3 (rd_T31 l i).f4 (rd_T31 l i).f5)).trans ?_
    show spec_LegsOk.j1 k l i (impl_LegsOk.bad (rd_T31 l i)) _ _ _ _ _ _ = _
    obtain ⟨k, rfl⟩ := pos_round (show 0 < k by omega)
    simp only [spec_LegsOk.j1]
    rw [show impl_LegsOk.g (d + 1 + 1) l i = (if i < (l.length : Int) then (if impl_LegsOk.bad (rd_T31 l i) = true then false else match impl_LegsOk.last (l.take i.toNat) (rd_T31 l i).f0 with | none => impl_LegsOk.g (d + 1) l (i + 1) | some q => if impl_LegsOk.clash q (rd_T31 l i) = true then false else impl_LegsOk.g (d + 1) l (i + 1)) else true) from rfl, if_pos (show i < (l.length : Int) by omega)]
    by_cases cb : impl_LegsOk.bad (rd_T31 l i) = true
    · rw [if_pos cb, if_pos cb]; rfl
    · rw [if_neg cb, if_neg cb, w64 (x := i - 1) (by omega) (by omega), legs_back l hn i h0 (by omega) W _ (fun k hk => ih' k hk) i.toNat (i - 1) (by omega) (by omega) k (by omega)]
      unfold backV
      cases impl_LegsOk.last (l.take i.toNat) (rd_T31 l i).f0 with
      | none => rfl
      | some q =>
        dsimp only
        by_cases c : impl_LegsOk.clash q (rd_T31 l i) = true
        · rw [if_pos c, if_pos c, Bool.false_and]
        · rw [if_neg c, if_neg c]
theorem legs_same (l : List S31) (hn : l.length ≤ 1048576) : ∃ b, impl_LegsOk.f l = some b ∧ ∀ k, l.length * (l.length + 4) < k → spec_LegsOk.f k l = some b := by
  refine ⟨_, rfl, fun k hk => ?_⟩
  unfold spec_LegsOk.f
  rw [legs_loop l hn l.length 0 (by omega) (by omega) (by omega) k hk]
  by_cases c : (l.length : Int) > 60
  · rw [if_pos c, decide_eq_false (by omega), Bool.and_false]
  · rw [if_neg c, decide_eq_true (by omega), Bool.and_true]
theorem markLeg_loop (d : Nat) : ∀ (k : Nat) (l : List S31) (c i : Int), l.length ≤ 100000000 → 0 ≤ i → i ≤ l.length → (l.length : Int) - i = d → d < k → c = 1 + 6 * i → (∀ j : Int, 0 ≤ j → j < i → rd_T31 l j = ((⟨1 + 6 * j, 1 + 6 * j + 1, 1 + 6 * j + 2, 1 + 6 * j + 3, 1 + 6 * j + 4, 1 + 6 * j + 5⟩) : S31)) →
    ∃ r, laws_markLegS.l0 k l c i = some (1 + 6 * (l.length : Int), r) ∧ r.length = l.length ∧ ∀ j : Int, 0 ≤ j → j < l.length → rd_T31 r j = ((⟨1 + 6 * j, 1 + 6 * j + 1, 1 + 6 * j + 2, 1 + 6 * j + 3, 1 + 6 * j + 4, 1 + 6 * j + 5⟩) : S31) := by
  induction d with
  | zero =>
    intro k l c i hn h0 h1 hd hk hc hj
    obtain ⟨k, rfl⟩ := pos_round (show 0 < k by omega)
    simp only [laws_markLegS.l0]
    rw [if_neg (by omega)]
    exact ⟨l, by rw [hc, show i = (l.length : Int) by omega], rfl, fun j h2 h3 => hj j h2 (by omega)⟩
  | succ d ih =>
    intro k l c i hn h0 h1 hd hk hc hj
    obtain ⟨k, rfl⟩ := pos_round (show 0 < k by omega)
    have hlt : i < (l.length : Int) := by omega
    obtain ⟨r, hr, hl, hrj⟩ := ih k (l.set i.toNat (⟨c, c + 1, c + 1 + 1, c + 1 + 1 + 1, c + 1 + 1 + 1 + 1, c + 1 + 1 + 1 + 1 + 1⟩ : S31)) (c + 1 + 1 + 1 + 1 + 1 + 1) (i + 1) (by simpa using hn) (by omega) (by simp; omega) (by simp; omega) (by omega) (by omega) (fun j h2 h3 => by
      by_cases e : j = i
      · subst e
        rw [rd31_set_eq h2 hlt]
        congr 1 <;> omega
      · rw [rd31_set_ne h0 h2 (Ne.symm e)]
        exact hj j h2 (by omega))
    rw [List.length_set] at hr hl hrj
    refine ⟨r, ?_, hl, hrj⟩
    simp only [laws_markLegS.l0]
    rw [if_pos hlt, if_pos h0]
    simp only [Option.bind_some]
    rw [w64 (x := c + 1) (by omega) (by omega), w64 (x := c + 1 + 1) (by omega) (by omega), w64 (x := c + 1 + 1 + 1) (by omega) (by omega), w64 (x := c + 1 + 1 + 1 + 1) (by omega) (by omega), w64 (x := c + 1 + 1 + 1 + 1 + 1) (by omega) (by omega), w64 (x := c + 1 + 1 + 1 + 1 + 1 + 1) (by omega) (by omega), w64 (x := i + 1) (by omega) (by omega)]
    have hset : ∀ x y : S31, (l.set i.toNat x).set i.toNat y = l.set i.toNat y := fun x y => List.set_set ..
    simp only [rd31_set_eq h0 hlt, hset]
    exact hr
theorem markLeg_ok (l : List S31) (hn : l.length ≤ 100000000) (k : Nat) (hk : l.length < k) :
    ∃ r, laws_markLegS.f k l 1 = some (1 + 6 * (l.length : Int), r) ∧ r.length = l.length ∧ ∀ j : Int, 0 ≤ j → j < l.length → rd_T31 r j = ((⟨1 + 6 * j, 1 + 6 * j + 1, 1 + 6 * j + 2, 1 + 6 * j + 3, 1 + 6 * j + 4, 1 + 6 * j + 5⟩) : S31) :=
  markLeg_loop l.length k l 1 0 hn (by omega) (by omega) (by omega) hk (by omega) (fun j h2 h3 => by omega)
/-! ### laws.eqIntS, markIntS, heldIntS -/
theorem eqI_loop (l : List Int) (hn : l.length ≤ 1000000000) (d : Nat) : ∀ (k : Nat) (i : Int), 0 ≤ i → i ≤ l.length → (l.length : Int) - i = d → d < k → laws_eqIntS.l0 k l l i = some true := by
  induction d with
  | zero =>
    intro k i h0 h1 hd hk
    obtain ⟨k, rfl⟩ := pos_round (show 0 < k by omega)
    simp only [laws_eqIntS.l0]
    rw [if_neg (by omega)]
  | succ d ih =>
    intro k i h0 h1 hd hk
    obtain ⟨k, rfl⟩ := pos_round (show 0 < k by omega)
    simp only [laws_eqIntS.l0]
    rw [if_pos (by omega), if_pos h0, if_pos (by omega), w64 (x := i + 1) (by omega) (by omega)]
    simp only [if_true]
    exact ih k (i + 1) (by omega) (by omega) (by omega) (by omega)
theorem eqI (l : List Int) (hn : l.length ≤ 1000000000) (k : Nat) (hk : l.length < k) : laws_eqIntS.f k l l = some true := by
  unfold laws_eqIntS.f
  rw [if_pos rfl]
  exact eqI_loop l hn l.length k 0 (by omega) (by omega) (by omega) hk
theorem wn {i : Nat} (h : i < 9223372036854775807) : wrap64 ((i : Int) + 1) = ((i + 1 : Nat) : Int) := w64 (by omega) (by omega)
theorem rd_set_eq {l : List Int} {i : Nat} {x : Int} (h : i < l.length) : rd (l.set i x) (i : Int) = x := by simp [rd, List.getD_eq_getElem?_getD, List.getElem?_set, h]
theorem rd_set_ne {l : List Int} {i j : Nat} {x : Int} (h : i ≠ j) : rd (l.set i x) (j : Int) = rd l (j : Int) := by simp [rd, List.getD_eq_getElem?_getD, List.getElem?_set, h]
def cb (l : List Bool) (i : Nat) : Bool := l.getD i false
theorem cb_rd (l : List Bool) (i : Nat) : rdOf false l (i : Int) = cb l i := by simp [rdOf, cb]
theorem cb_set_eq {l : List Bool} {i : Nat} {x : Bool} (h : i < l.length) : cb (l.set i x) i = x := by simp [cb, List.getD_eq_getElem?_getD, List.getElem?_set, h]
theorem cb_set_ne {l : List Bool} {i j : Nat} {x : Bool} (h : i ≠ j) : cb (l.set i x) j = cb l j := by simp [cb, List.getD_eq_getElem?_getD, List.getElem?_set, h]
theorem copyK {α β γ : Type} (l : List α) (g : α → β) (L : Nat → List β → Int → Option γ)
    (h : ∀ (i : Nat) (hi : i < l.length) (o : List β) (r : γ), o.length = l.length → Ev (fun k => L k (o.set i (g l[i])) ((i + 1 : Nat) : Int)) r → Ev (fun k => L k o (i : Int)) r) (r : γ)
    (hr : Ev (fun k => L k (l.map g) (l.length : Int)) r) (d : Nat) : ∀ (i : Nat) (o : List β), i ≤ l.length → l.length - i = d → o.length = l.length → o.take i = (l.map g).take i → Ev (fun k => L k o (i : Int)) r := by
  induction d with
  | zero =>
    intro i o h1 hd ho ht
    obtain rfl : i = l.length := by omega
    rw [List.take_of_length_le (by omega), List.take_of_length_le (by simp)] at ht
    rw [ht]; exact hr
  | succ d ih =>
    intro i o h1 hd ho ht
    have hi : i < l.length := by omega
    refine h i hi o _ ho (ih (i + 1) _ (by omega) (by omega) (by simpa using ho) ?_)
    rw [List.take_succ_eq_append_getElem (by simp; omega), List.take_succ_eq_append_getElem (by simp; omega), List.take_set_of_le (Nat.le_refl _), ht]
    simp
/-! ### what can be reached -/
def lg (L : List S31) (j : Nat) : S31 := rd_T31 L (j : Int)
def st (L : List S31) (F A : Int) (j : Nat) : Bool := decide ((lg L j).f1 = F) && decide (A ≤ (lg L j).f3)
def ch (L : List S31) (C : Int) (i j : Nat) : Bool := decide ((lg L i).f2 = (lg L j).f1) && decide ((lg L i).f4 + (if (lg L i).f0 = (lg L j).f0 then 0 else C) ≤ (lg L j).f3)
inductive Rch (L : List S31) (F A C : Int) : Nat → Prop
  | st {j : Nat} : j < L.length → st L F A j = true → Rch L F A C j
  | go {i j : Nat} : Rch L F A C i → j < L.length → ch L C i j = true → Rch L F A C j
def Good (L : List S31) : Prop := L.length ≤ 60 ∧ ∀ j, j < L.length → 1 ≤ (lg L j).f0 ∧ 0 ≤ (lg L j).f1 ∧ (lg L j).f1 ≤ 19 ∧ 0 ≤ (lg L j).f2 ∧ (lg L j).f2 ≤ 19 ∧ 0 ≤ (lg L j).f3 ∧ (lg L j).f3 < (lg L j).f4 ∧ (lg L j).f4 ≤ 100000000
theorem Rch.lt {L : List S31} {F A C : Int} {j : Nat} (h : Rch L F A C j) : j < L.length := by cases h <;> assumption
theorem ch_lt {L : List S31} {C : Int} {i j : Nat} (hG : Good L) (hC : 0 ≤ C) (hi : i < L.length) (h : ch L C i j = true) : (lg L i).f3 < (lg L j).f3 := by
  have := hG.2 i hi
  simp only [ch, Bool.and_eq_true, decide_eq_true_eq] at h
  have h2 := h.2
  split at h2 <;> omega
theorem Rch.late {L : List S31} {F A C : Int} {j : Nat} (hG : Good L) (hC : 0 ≤ C) (h : Rch L F A C j) : A ≤ (lg L j).f3 := by
  induction h with
  | st hj hs => simp only [Good, Pure.st, Bool.and_eq_true, decide_eq_true_eq] at hs; exact hs.2
  | go hi hj hc ih => have := ch_lt hG hC hi.lt hc; omega
theorem may0 (x : S31) (A C : Int) : spec_l22May.f x.f0 x.f1 x.f2 x.f3 x.f4 x.f5 A 0 C = some (decide (A ≤ x.f3)) := by
  unfold spec_l22May.f; rw [if_pos rfl]
theorem may1 (x y : S31) (C : Int) (h0 : 1 ≤ y.f0) (h1 : 0 ≤ y.f4) (h2 : y.f4 ≤ 100000000) (hC : 0 ≤ C) (hC1 : C ≤ 10000) : spec_l22May.f x.f0 x.f1 x.f2 x.f3 x.f4 x.f5 y.f4 y.f0 C = some (decide (y.f4 + (if y.f0 = x.f0 then 0 else C) ≤ x.f3)) := by
  unfold spec_l22May.f
  rw [if_neg (by omega)]
  by_cases c : y.f0 = x.f0
  · rw [if_pos c, if_pos c, Int.add_zero]
  · rw [if_neg c, if_neg c, w64 (by omega) (by omega)]
theorem changes_ok (L : List S31) (hG : Good L) (C : Int) (hC : 0 ≤ C) (hC1 : C ≤ 10000) (i j : Nat) (hi : i < L.length) : impl_changes.f (lg L i).f0 (lg L i).f1 (lg L i).f2 (lg L i).f3 (lg L i).f4 (lg L i).f5 (lg L j).f0 (lg L j).f1 (lg L j).f2 (lg L j).f3 (lg L j).f4 (lg L j).f5 C = some (ch L C i j) := by
  have := hG.2 i hi
  unfold impl_changes.f ch
  by_cases c1 : (lg L i).f0 = (lg L j).f0
  · rw [if_pos c1, if_pos c1]
    by_cases c2 : (lg L i).f2 = (lg L j).f1
    · rw [if_pos c2, decide_eq_true c2, Bool.true_and, w64 (by omega) (by omega)]
    · rw [if_neg c2, decide_eq_false c2, Bool.false_and]
  · rw [if_neg c1, if_neg c1]
    by_cases c2 : (lg L i).f2 = (lg L j).f1
    · rw [if_pos c2, decide_eq_true c2, Bool.true_and, w64 (by omega) (by omega)]
    · rw [if_neg c2, decide_eq_false c2, Bool.false_and]
def Der (L : List S31) (F A C : Int) (can : List Bool) (j : Nat) : Prop := st L F A j = true ∨ ∃ k, k < L.length ∧ cb can k = true ∧ ch L C k j = true
def Sound (L : List S31) (F A C : Int) (can : List Bool) : Prop := ∀ j, j < L.length → cb can j = true → Rch L F A C j
section
variable {L : List S31} {F A C : Int}
theorem der_rch {can : List Bool} (hS : Sound L F A C can) {j : Nat} (hj : j < L.length) (h : Der L F A C can j) : Rch L F A C j := by
  rcases h with h | ⟨k, hk, h1, h2⟩
  · exact Rch.st hj h
  · exact Rch.go (hS k hk h1) hj h2
theorem r2 (hG : Good L) (hC : 0 ≤ C) (hC1 : C ≤ 10000) (can : List Bool) (hc : can.length = L.length) (again : Bool) (j : Nat) (hj : j < L.length) (d : Nat) : ∀ (k : Nat) (ok : Bool), k ≤ L.length → L.length - k = d →
    ∃ ok' : Bool, (ok' = true ↔ (ok = true ∨ ∃ k', k ≤ k' ∧ k' < L.length ∧ cb can k' = true ∧ ch L C k' j = true)) ∧ ∀ r, Ev (fun K => if ok' = true then spec_l22Reach.l1 K L F A C (can.set j true) true ((j + 1 : Nat) : Int) else spec_l22Reach.l1 K L F A C can again ((j + 1 : Nat) : Int)) r → Ev (fun K => spec_l22Reach.l2 K L F A C can again (j : Int) ok (k : Int)) r := by
  have hn := hG.1
  have stop : ∀ (k : Nat) (r : List Bool), Ev (fun K => spec_l22Reach.l1 K L F A C (can.set j true) true ((j + 1 : Nat) : Int)) r → Ev (fun K => spec_l22Reach.l2 K L F A C can again (j : Int) true (k : Int)) r := by
    intro k r hr
    refine Ev.succ (hr.to fun K => ?_)
    simp only [spec_l22Reach.l2, if_true, Int.toNat_natCast]
    rw [if_pos (show (0 : Int) ≤ (j : Int) by omega), if_pos (show (j : Int) < (can.length : Int) by omega), wn (by omega)]
    split <;> rfl
  induction d with
  | zero =>
    intro k ok hk hd
    obtain rfl : k = L.length := by omega
    refine ⟨ok, ⟨fun h => .inl h, fun h => h.elim id fun ⟨k', h1, h2, _⟩ => absurd h2 (by omega)⟩, fun r hr => ?_⟩
    cases ok with
    | true => exact stop _ _ (by simpa using hr)
    | false =>
      refine Ev.succ ((show Ev (fun K => spec_l22Reach.l1 K L F A C can again ((j + 1 : Nat) : Int)) r by simpa using hr).to fun K => ?_)
      simp only [spec_l22Reach.l2]
      rw [if_neg (by omega), if_neg (by decide), wn (by omega)]
  | succ d ih =>
    intro k ok hk hd
    cases ok with
    | true => exact ⟨true, ⟨fun _ => .inl rfl, fun _ => rfl⟩, fun r hr => stop _ _ (by simpa using hr)⟩
    | false =>
      have hkl : k < L.length := by omega
      obtain ⟨ok', h1, h2⟩ := ih (k + 1) (cb can k && ch L C k j) (by omega) (by omega)
      refine ⟨ok', h1.trans ⟨fun h => ?_, fun h => ?_⟩, fun r hr => Ev.succ ((h2 r hr).to fun K => ?_)⟩
      · rcases h with h | ⟨k', a, b⟩
        · rw [Bool.and_eq_true] at h
          exact .inr ⟨k, Nat.le_refl _, hkl, h.1, h.2⟩
        · exact .inr ⟨k', by omega, b⟩
      · rcases h with h | ⟨k', a, b, c⟩
        · cases h
        · by_cases e : k' = k
          · subst e
            exact .inl (by rw [c.1, c.2]; rfl)
          · exact .inr ⟨k', by omega, b, c⟩
      · have hg := hG.2 k hkl
        simp only [spec_l22Reach.l2]
        rw [if_pos (by omega), if_neg (by decide), if_pos (by omega), if_pos (by omega), cb_rd, wn (by omega)]
        cases hcb : cb can k with
        | false => rw [if_neg (by decide), Bool.false_and]
        | true =>
          rw [if_pos rfl, if_pos (by omega), if_pos (by omega), Bool.true_and]
          show (if (lg L k).f2 = (lg L j).f1 then _ else _) = _
          by_cases c : (lg L k).f2 = (lg L j).f1
          · rw [if_pos c, may1 (rd_T31 L (j : Int)) (rd_T31 L (k : Int)) C hg.1 (by have := hg.2; show 0 ≤ (lg L k).f4; omega) hg.2.2.2.2.2.2.2 hC hC1, Option.bind_some]
            unfold ch
            rw [decide_eq_true c, Bool.true_and]
            rfl
          · rw [if_neg c]
            unfold ch
            rw [decide_eq_false c, Bool.false_and]
def cnt : List Bool → Nat
  | [] => 0
  | b :: l => (if b = true then 0 else 1) + cnt l
theorem cnt_set : ∀ (l : List Bool) (i : Nat), i < l.length → cb l i = false → cnt (l.set i true) + 1 = cnt l
  | [], _, h, _ => absurd h (by simp)
  | b :: l, 0, _, h => by
    have : b = false := by simpa [cb] using h
    subst this
    simp [cnt, Nat.add_comm]
  | b :: l, i + 1, h, h2 => by
    have := cnt_set l i (by simpa using h) (by simpa [cb] using h2)
    simp only [List.set_cons_succ, cnt]
    omega
theorem pass (hG : Good L) (hC : 0 ≤ C) (hC1 : C ≤ 10000) (d : Nat) : ∀ (i : Nat) (can : List Bool) (again : Bool), i ≤ L.length → L.length - i = d → can.length = L.length →
    ∃ (can' : List Bool) (again' : Bool), can'.length = L.length ∧ (Sound L F A C can → Sound L F A C can') ∧ (again = true → again' = true) ∧ cnt can' ≤ cnt can ∧ (again' = true → again = true ∨ cnt can' < cnt can) ∧
      (again' = false → can' = can ∧ ∀ j, i ≤ j → j < L.length → cb can j = true ∨ ¬ Der L F A C can j) ∧ ∀ r, Ev (fun K => spec_l22Reach.l0 K L F A C can' again') r → Ev (fun K => spec_l22Reach.l1 K L F A C can again (i : Int)) r := by
  have hn := hG.1
  induction d with
  | zero =>
    intro i can again hi hd hc
    obtain rfl : i = L.length := by omega
    refine ⟨can, again, hc, id, id, Nat.le_refl _, fun h => .inl h, fun _ => ⟨rfl, fun j h1 h2 => absurd h2 (by omega)⟩, fun r hr => Ev.succ (hr.to fun K => ?_)⟩
    simp only [spec_l22Reach.l1]
    rw [if_neg (by omega)]
  | succ d ih =>
    intro i can again hi hd hc
    have hil : i < L.length := by omega
    cases hcb : cb can i with
    | true =>
      obtain ⟨can', again', a1, a2, a3, a4, a5, a6, a7⟩ := ih (i + 1) can again (by omega) (by omega) hc
      refine ⟨can', again', a1, a2, a3, a4, a5, fun h => ⟨(a6 h).1, fun j h1 h2 => ?_⟩, fun r hr => Ev.succ ((a7 r hr).to fun K => ?_)⟩
      · by_cases e : j = i
        · subst e; exact .inl hcb
        · exact (a6 h).2 j (by omega) h2
      · simp only [spec_l22Reach.l1]
        rw [if_pos (by omega), if_pos (by omega), if_pos (by omega), cb_rd, hcb, if_pos rfl, wn (by omega)]
    | false =>
      obtain ⟨ok', o1, o2⟩ := r2 (F := F) (A := A) hG hC hC1 can hc again i hil L.length 0 (st L F A i) (by omega) (by omega)
      have hder : ok' = true ↔ Der L F A C can i := o1.trans ⟨fun h => h.elim .inl fun ⟨k, _, b⟩ => .inr ⟨k, b⟩, fun h => h.elim .inl fun ⟨k, b⟩ => .inr ⟨k, Nat.zero_le _, b⟩⟩
      have hin : ∀ r, Ev (fun K => if ok' = true then spec_l22Reach.l1 K L F A C (can.set i true) true ((i + 1 : Nat) : Int) else spec_l22Reach.l1 K L F A C can again ((i + 1 : Nat) : Int)) r → Ev (fun K => spec_l22Reach.l1 K L F A C can again (i : Int)) r := by
        intro r hr
        have h := o2 r hr
        refine Ev.succ (Ev.to (g := fun K => spec_l22Reach.j2 K L F A C can again (i : Int) (st L F A i)) (Ev.succ (h.to fun K => by simp only [spec_l22Reach.j2]; rfl)) fun K => ?_)
        simp only [spec_l22Reach.l1]
        rw [if_pos (by omega), if_pos (by omega), if_pos (by omega), cb_rd, hcb, if_neg (by decide)]
        show (if (lg L i).f1 = F then _ else _) = _
        by_cases c : (lg L i).f1 = F
        · rw [if_pos c, may0 (rd_T31 L (i : Int)), Option.bind_some]
          unfold st
          rw [decide_eq_true c, Bool.true_and]
          rfl
        · rw [if_neg c]
          unfold st
          rw [decide_eq_false c, Bool.false_and]
      cases ok' with
      | true =>
        obtain ⟨can', again', a1, a2, a3, a4, a5, a6, a7⟩ := ih (i + 1) (can.set i true) true (by omega) (by omega) (by simpa using hc)
        have hcs := cnt_set can i (by omega) hcb
        refine ⟨can', again', a1, fun hS => a2 fun j hj hb => ?_, fun _ => a3 rfl, by omega, fun _ => .inr (by omega), fun h => absurd (a3 rfl) (by rw [h]; decide), fun r hr => hin r (by simpa using a7 r hr)⟩
        by_cases e : i = j
        · subst e; exact der_rch hS hil (hder.1 rfl)
        · rw [cb_set_ne e] at hb; exact hS j hj hb
      | false =>
        obtain ⟨can', again', a1, a2, a3, a4, a5, a6, a7⟩ := ih (i + 1) can again (by omega) (by omega) hc
        refine ⟨can', again', a1, a2, a3, a4, a5, fun h => ⟨(a6 h).1, fun j h1 h2 => ?_⟩, fun r hr => hin r (by simpa using a7 r hr)⟩
        by_cases e : j = i
        · subst e; exact .inr fun hd => absurd (hder.2 hd) (by decide)
        · exact (a6 h).2 j (by omega) h2
theorem reach_loop (hG : Good L) (hC : 0 ≤ C) (hC1 : C ≤ 10000) (m : Nat) : ∀ can : List Bool, cnt can ≤ m → can.length = L.length → Sound L F A C can →
    ∃ can' : List Bool, can'.length = L.length ∧ (∀ j, j < L.length → (cb can' j = true ↔ Rch L F A C j)) ∧ Ev (fun K => spec_l22Reach.l0 K L F A C can true) can' := by
  induction m with
  | zero =>
    intro can hm hc hS
    obtain ⟨can', again', a1, a2, a3, a4, a5, a6, a7⟩ := pass (F := F) (A := A) hG hC hC1 L.length 0 can false (by omega) (by omega) hc
    cases again' with
    | true => exact absurd (a5 rfl) (by simp; omega)
    | false =>
      obtain ⟨rfl, h2⟩ := a6 rfl
      refine ⟨can', a1, fun j hj => ⟨hS j hj, fun hr => ?_⟩, Ev.succ ((a7 can' (Ev.succ (Ev.of fun K => by simp only [spec_l22Reach.l0]; rw [if_neg (by decide)]))).to fun K => by simp only [spec_l22Reach.l0]; rw [if_pos trivial]; rfl)⟩
      induction hr with
      | st hj hs => exact (h2 _ (Nat.zero_le _) hj).elim id fun h => absurd (.inl hs) h
      | go hi hj hcj ihi => exact (h2 _ (Nat.zero_le _) hj).elim id fun h => absurd (.inr ⟨_, hi.lt, ihi hi.lt, hcj⟩) h
  | succ m ih =>
    intro can hm hc hS
    obtain ⟨can', again', a1, a2, a3, a4, a5, a6, a7⟩ := pass (F := F) (A := A) hG hC hC1 L.length 0 can false (by omega) (by omega) hc
    cases again' with
    | true =>
      have h5 : cnt can' < cnt can := (a5 rfl).elim (fun h => absurd h (by decide)) id
      obtain ⟨c2, b1, b2, b3⟩ := ih can' (by omega) a1 (a2 hS)
      exact ⟨c2, b1, b2, Ev.succ ((a7 c2 b3).to fun K => by simp only [spec_l22Reach.l0]; rw [if_pos trivial]; rfl)⟩
    | false =>
      obtain ⟨rfl, h2⟩ := a6 rfl
      refine ⟨can', a1, fun j hj => ⟨hS j hj, fun hr => ?_⟩, Ev.succ ((a7 can' (Ev.succ (Ev.of fun K => by simp only [spec_l22Reach.l0]; rw [if_neg (by decide)]))).to fun K => by simp only [spec_l22Reach.l0]; rw [if_pos trivial]; rfl)⟩
      induction hr with
      | st hj hs => exact (h2 _ (Nat.zero_le _) hj).elim id fun h => absurd (.inl hs) h
      | go hi hj hcj ihi => exact (h2 _ (Nat.zero_le _) hj).elim id fun h => absurd (.inr ⟨_, hi.lt, ihi hi.lt, hcj⟩) h
theorem reach_ok (hG : Good L) (hC : 0 ≤ C) (hC1 : C ≤ 10000) : ∃ can' : List Bool, can'.length = L.length ∧ (∀ j, j < L.length → (cb can' j = true ↔ Rch L F A C j)) ∧ Ev (fun K => spec_l22Reach.f K L F A C) can' := by
  have hn := hG.1
  obtain ⟨c, h1, h2, h3⟩ := reach_loop (F := F) (A := A) hG hC hC1 _ (List.replicate L.length false) (Nat.le_refl _) (by simp) (fun j hj hb => by simp [cb, List.getD_eq_getElem?_getD, List.getElem?_replicate, hj] at hb)
  refine ⟨c, h1, h2, h3.to fun K => ?_⟩
  unfold spec_l22Reach.f
  rw [if_pos (by omega), if_pos (by omega), Int.toNat_natCast]
end
/-! ### the soonest of those that come to a port -/
def Mn (L : List S31) (Q : Nat → Prop) (p : Nat) (v : Int) : Prop := (v = -1 ∧ ∀ i, Q i → (lg L i).f2 ≠ (p : Int)) ∨ ∃ i, Q i ∧ (lg L i).f2 = (p : Int) ∧ v = (lg L i).f4 ∧ ∀ i', Q i' → (lg L i').f2 = (p : Int) → v ≤ (lg L i').f4
section
variable {L : List S31} {F A C : Int}
theorem Mn.uniq {Q : Nat → Prop} {p : Nat} {v v' : Int} (h : Mn L Q p v) (h' : Mn L Q p v') : v = v' := by
  rcases h with ⟨a, b⟩ | ⟨i, a, b, c, d⟩ <;> rcases h' with ⟨a', b'⟩ | ⟨i', a', b', c', d'⟩
  · omega
  · exact absurd b' (b i' a')
  · exact absurd b (b' i a)
  · have := d i' a' b'
    have := d' i a b
    omega
theorem Mn.congr {Q Q' : Nat → Prop} {p : Nat} {v : Int} (h : Mn L Q p v) (hq : ∀ i, Q i ↔ Q' i) : Mn L Q' p v := by
  rw [← show Q = Q' from funext fun i => propext (hq i)]; exact h
/-- One more that does not come there. -/
theorem Mn.skip {Q Q' : Nat → Prop} {p : Nat} {v : Int} {j : Nat} (h : Mn L Q p v) (hq : ∀ i, Q' i → Q i ∨ (i = j ∧ (lg L j).f2 ≠ (p : Int))) (hq2 : ∀ i, Q i → Q' i) : Mn L Q' p v := by
  rcases h with ⟨a, b⟩ | ⟨i, a, b, c, d⟩
  · refine .inl ⟨a, fun i hi => ?_⟩
    rcases hq i hi with h | ⟨rfl, h⟩
    · exact b i h
    · exact h
  · refine .inr ⟨i, hq2 i a, b, c, fun i' hi' e => ?_⟩
    rcases hq i' hi' with h | ⟨rfl, h⟩
    · exact d i' h e
    · exact absurd e h
/-- One more that comes there. -/
theorem Mn.add {Q Q' : Nat → Prop} {p : Nat} {v : Int} {j : Nat} (hG : Good L) (hQ : ∀ i, Q i → i < L.length) (hj : j < L.length) (h : Mn L Q p v) (hj2 : (lg L j).f2 = (p : Int)) (hq : ∀ i, Q' i ↔ Q i ∨ i = j) : Mn L Q' p (if v < 0 then (lg L j).f4 else if (lg L j).f4 < v then (lg L j).f4 else v) := by
  have g4 := hG.2 j hj
  rcases h with ⟨a, b⟩ | ⟨i, a, b, c, d⟩
  · rw [if_pos (by omega)]
    refine .inr ⟨j, (hq j).2 (.inr rfl), hj2, rfl, fun i' hi' e => ?_⟩
    rcases (hq i').1 hi' with h | rfl
    · exact absurd e (b i' h)
    · exact Int.le_refl _
  · have g5 := hG.2 i (hQ i a)
    rw [if_neg (by omega)]
    by_cases c2 : (lg L j).f4 < v
    · rw [if_pos c2]
      refine .inr ⟨j, (hq j).2 (.inr rfl), hj2, rfl, fun i' hi' e => ?_⟩
      rcases (hq i').1 hi' with h | rfl
      · have := d i' h e; omega
      · exact Int.le_refl _
    · rw [if_neg c2]
      refine .inr ⟨i, (hq i).2 (.inl a), b, c, fun i' hi' e => ?_⟩
      rcases (hq i').1 hi' with h | rfl
      · exact d i' h e
      · omega
def All (L : List S31) (F A C : Int) (i : Nat) : Prop := Rch L F A C i
theorem s1 (hG : Good L) (can : List Bool) (hc : can.length = L.length) (hcan : ∀ j, j < L.length → (cb can j = true ↔ Rch L F A C j)) (p : Nat) (hp : p < 20) (d : Nat) : ∀ (i : Nat) (out : List Int), i ≤ L.length → L.length - i = d → out.length = 20 → Mn L (fun j => j < i ∧ Rch L F A C j) p (rd out (p : Int)) →
    ∃ out' : List Int, out'.length = 20 ∧ Mn L (Rch L F A C) p (rd out' (p : Int)) ∧ (∀ p' : Nat, p' ≠ p → rd out' (p' : Int) = rd out (p' : Int)) ∧ ∀ r, Ev (fun K => spec_Earliest.l0 K L F A can out' ((p + 1 : Nat) : Int)) r → Ev (fun K => spec_Earliest.l1 K L F A can out (p : Int) (i : Int)) r := by
  have hn := hG.1
  induction d with
  | zero =>
    intro i out hi hd ho hm
    obtain rfl : i = L.length := by omega
    refine ⟨out, ho, hm.congr fun j => ⟨fun h => h.2, fun h => ⟨h.lt, h⟩⟩, fun _ _ => rfl, fun r hr => Ev.succ (hr.to fun K => ?_)⟩
    simp only [spec_Earliest.l1]
    rw [if_neg (by omega), wn (by omega)]
  | succ d ih =>
    intro i out hi hd ho hm
    have hil : i < L.length := by omega
    have go : ∀ out2 : List Int, out2.length = 20 → Mn L (fun j => j < i + 1 ∧ Rch L F A C j) p (rd out2 (p : Int)) → (∀ p' : Nat, p' ≠ p → rd out2 (p' : Int) = rd out (p' : Int)) → (∀ K, spec_Earliest.l1 (K + 1) L F A can out (p : Int) (i : Int) = spec_Earliest.l1 K L F A can out2 (p : Int) ((i + 1 : Nat) : Int)) →
        ∃ out' : List Int, out'.length = 20 ∧ Mn L (Rch L F A C) p (rd out' (p : Int)) ∧ (∀ p' : Nat, p' ≠ p → rd out' (p' : Int) = rd out (p' : Int)) ∧ ∀ r, Ev (fun K => spec_Earliest.l0 K L F A can out' ((p + 1 : Nat) : Int)) r → Ev (fun K => spec_Earliest.l1 K L F A can out (p : Int) (i : Int)) r := by
      intro out2 h1 h2 h3 h4
      obtain ⟨out', a1, a2, a3, a4⟩ := ih (i + 1) out2 (by omega) (by omega) h1 h2
      exact ⟨out', a1, a2, fun p' hp' => (a3 p' hp').trans (h3 p' hp'), fun r hr => Ev.succ ((a4 r hr).to h4)⟩
    cases hcb : cb can i with
    | false =>
      refine go out ho (hm.congr fun j => ⟨fun h => ⟨by omega, h.2⟩, fun h => ⟨?_, h.2⟩⟩) (fun _ _ => rfl) fun K => ?_
      · have : j ≠ i := fun e => by subst e; rw [(hcan _ hil).2 h.2] at hcb; cases hcb
        omega
      · simp only [spec_Earliest.l1]
        rw [if_pos (by omega), if_pos (by omega), if_pos (by omega), cb_rd, hcb, if_neg (by decide), wn (by omega)]
    | true =>
      have hri : Rch L F A C i := (hcan _ hil).1 hcb
      by_cases c : (lg L i).f2 = (p : Int)
      · have hm2 := Mn.add (Q' := fun j => j < i + 1 ∧ Rch L F A C j) hG (fun j h => h.2.lt) hil hm c (fun j => ⟨fun h => by
          by_cases e : j = i
          · exact .inr e
          · exact .inl ⟨by omega, h.2⟩, fun h => h.elim (fun h => ⟨by omega, h.2⟩) fun e => by subst e; exact ⟨by omega, hri⟩⟩)
        by_cases c1 : rd out (p : Int) < 0
        · rw [if_pos c1] at hm2
          refine go (out.set p (lg L i).f4) (by simpa using ho) (by rw [rd_set_eq (by omega)]; exact hm2) (fun p' hp' => rd_set_ne (Ne.symm hp')) fun K => ?_
          simp only [spec_Earliest.l1, Int.toNat_natCast]
          rw [if_pos (by omega), if_pos (by omega), if_pos (by omega), cb_rd, hcb, if_pos rfl, if_pos (show (rd_T31 L (i : Int)).f2 = (p : Int) from c), if_pos (by omega), if_pos (by omega), if_pos c1, wn (by omega)]
          rfl
        · rw [if_neg c1] at hm2
          by_cases c2 : (lg L i).f4 < rd out (p : Int)
          · rw [if_pos c2] at hm2
            refine go (out.set p (lg L i).f4) (by simpa using ho) (by rw [rd_set_eq (by omega)]; exact hm2) (fun p' hp' => rd_set_ne (Ne.symm hp')) fun K => ?_
            simp only [spec_Earliest.l1, Int.toNat_natCast]
            rw [if_pos (by omega), if_pos (by omega), if_pos (by omega), cb_rd, hcb, if_pos rfl, if_pos (show (rd_T31 L (i : Int)).f2 = (p : Int) from c), if_pos (by omega), if_pos (by omega), if_neg c1, if_pos (show (rd_T31 L (i : Int)).f4 < _ from c2), wn (by omega)]
            rfl
          · rw [if_neg c2] at hm2
            refine go out ho hm2 (fun _ _ => rfl) fun K => ?_
            simp only [spec_Earliest.l1, Int.toNat_natCast]
            rw [if_pos (by omega), if_pos (by omega), if_pos (by omega), cb_rd, hcb, if_pos rfl, if_pos (show (rd_T31 L (i : Int)).f2 = (p : Int) from c), if_pos (by omega), if_pos (by omega), if_neg c1, if_neg (show ¬ (rd_T31 L (i : Int)).f4 < _ from c2), wn (by omega)]
      · refine go out ho (Mn.skip (j := i) hm (fun j h => ?_) fun j h => ⟨by omega, h.2⟩) (fun _ _ => rfl) fun K => ?_
        · by_cases e : j = i
          · exact .inr ⟨e, c⟩
          · exact .inl ⟨by omega, h.2⟩
        · simp only [spec_Earliest.l1]
          rw [if_pos (by omega), if_pos (by omega), if_pos (by omega), cb_rd, hcb, if_pos rfl, if_neg (show ¬ (rd_T31 L (i : Int)).f2 = (p : Int) from c), wn (by omega)]
def Res (L : List S31) (F A C : Int) (out : List Int) : Prop := out.length = 20 ∧ ∀ p : Nat, p < 20 → if (p : Int) = F then rd out (p : Int) = A else Mn L (Rch L F A C) p (rd out (p : Int))
theorem Res.uniq {o o' : List Int} (h : Res L F A C o) (h' : Res L F A C o') : o = o' := by
  apply List.ext_getElem (by rw [h.1, h'.1])
  intro p hp hp'
  have a := h.2 p (by have := h.1; omega)
  have b := h'.2 p (by have := h.1; omega)
  have e : ∀ (l : List Int) (hl : p < l.length), rd l (p : Int) = l[p] := fun l hl => by simp [rd, List.getD_eq_getElem?_getD, List.getElem?_eq_getElem hl]
  rw [e o hp] at a
  rw [e o' hp'] at b
  by_cases c : (p : Int) = F
  · rw [if_pos c] at a b; omega
  · rw [if_neg c] at a b; exact a.uniq b
theorem s0 (hG : Good L) (hF0 : 0 ≤ F) (hF1 : F ≤ 19) (can : List Bool) (hc : can.length = L.length) (hcan : ∀ j, j < L.length → (cb can j = true ↔ Rch L F A C j)) (d : Nat) : ∀ (p : Nat) (out : List Int), p ≤ 20 → 20 - p = d → out.length = 20 → (∀ p' : Nat, p' < p → Mn L (Rch L F A C) p' (rd out (p' : Int))) →
    ∃ out' : List Int, Res L F A C out' ∧ Ev (fun K => spec_Earliest.l0 K L F A can out (p : Int)) (out', true) := by
  have hn := hG.1
  induction d with
  | zero =>
    intro p out hp hd ho hm
    obtain rfl : p = 20 := by omega
    obtain ⟨f, rfl⟩ : ∃ f : Nat, F = (f : Int) := ⟨F.toNat, by omega⟩
    refine ⟨out.set f A, ⟨by simpa using ho, fun p hp => ?_⟩, Ev.succ (Ev.of fun K => ?_)⟩
    · by_cases c : (p : Int) = (f : Int)
      · rw [if_pos c]
        obtain rfl : p = f := by omega
        exact rd_set_eq (by omega)
      · rw [if_neg c, rd_set_ne (by omega)]
        exact hm p hp
    · simp only [spec_Earliest.l0, Int.toNat_natCast]
      rw [if_neg (by omega), if_pos (by omega), if_pos (by omega)]
  | succ d ih =>
    intro p out hp hd ho hm
    obtain ⟨o1, a1, a2, a3, a4⟩ := s1 hG can hc hcan p (by omega) L.length 0 (out.set p (-1)) (by omega) (by omega) (by simpa using ho) (by rw [rd_set_eq (by omega)]; exact .inl ⟨rfl, fun i h => absurd h.1 (by omega)⟩)
    obtain ⟨o2, b1, b2⟩ := ih (p + 1) o1 (by omega) (by omega) a1 fun p' hp' => by
      by_cases e : p' = p
      · subst e; exact a2
      · rw [a3 p' e, rd_set_ne (Ne.symm e)]; exact hm p' (by omega)
    refine ⟨o2, b1, Ev.succ ((a4 _ b2).to fun K => ?_)⟩
    simp only [spec_Earliest.l0, Int.toNat_natCast]
    rw [if_pos (by omega), if_pos (by omega), if_pos (by omega)]
    rfl
end
/-! ### marks -/
def rg (c : Int) : Nat → List Int
  | 0 => []
  | n + 1 => c :: rg (c + 1) n
theorem rg_length (n : Nat) : ∀ c, (rg c n).length = n := by
  induction n with
  | zero => intro c; rfl
  | succ n ih => intro c; simp [rg, ih]
theorem at_pre {α : Type} (pre : List α) (x y : α) (suf : List α) : (pre ++ x :: suf).set pre.length y = (pre ++ [y]) ++ suf := by
  simp [List.set_append_right]
theorem markI_ev (suf : List Int) : ∀ (pre : List Int) (c : Int), pre.length + suf.length ≤ 1000000000 → 0 ≤ c → c + suf.length ≤ 4611686018427387904 → Ev (fun k => laws_markIntS.l0 k (pre ++ suf) c (pre.length : Int)) (c + suf.length, pre ++ rg c suf.length) := by
  induction suf with
  | nil =>
    intro pre c hn h0 h1
    refine Ev.succ (Ev.of fun k => ?_)
    simp only [laws_markIntS.l0, List.append_nil, rg, List.length_nil]
    rw [if_neg (by omega)]
    congr 2
    omega
  | cons x suf ih =>
    intro pre c hn h0 h1
    simp only [List.length_cons] at hn h1 ⊢
    have h := ih (pre ++ [c]) (c + 1) (by simp only [List.length_append, List.length_cons, List.length_nil]; omega) (by omega) (by omega)
    rw [List.append_assoc _ _ (rg _ _), show c + 1 + (suf.length : Int) = c + ((suf.length + 1 : Nat) : Int) by omega] at h
    refine Ev.succ (Ev.to (f := fun k => laws_markIntS.l0 (k + 1) (pre ++ x :: suf) c (pre.length : Int)) h fun k => ?_)
    simp only [laws_markIntS.l0, Int.toNat_natCast]
    rw [if_pos (by simp only [List.length_append, List.length_cons]; omega), if_pos (by omega), at_pre, w64 (x := c + 1) (by omega) (by omega), wn (by omega)]
    simp only [List.length_append, List.length_cons, List.length_nil]
theorem rd_pre (pre : List Int) (x : Int) (suf : List Int) : rd (pre ++ x :: suf) (pre.length : Int) = x := by simp [rd, List.getD_eq_getElem?_getD]
theorem heldI_ev (n : Nat) : ∀ (pre : List Int) (c : Int), pre.length + n ≤ 1000000000 → 0 ≤ c → c + n ≤ 4611686018427387904 → Ev (fun k => laws_heldIntS.l0 k (pre ++ rg c n) c (pre.length : Int)) (c + n) := by
  induction n with
  | zero =>
    intro pre c hn h0 h1
    refine Ev.succ (Ev.of fun k => ?_)
    simp only [laws_heldIntS.l0, List.append_nil, rg]
    rw [if_neg (by omega)]
    congr 1
    omega
  | succ n ih =>
    intro pre c hn h0 h1
    have h := ih (pre ++ [c]) (c + 1) (by simp only [List.length_append, List.length_cons, List.length_nil]; omega) (by omega) (by omega)
    rw [List.append_assoc, show c + 1 + (n : Int) = c + ((n + 1 : Nat) : Int) by omega] at h
    have e : rg c (n + 1) = c :: rg (c + 1) n := rfl
    rw [e]
    refine Ev.succ (h.to fun k => ?_)
    simp only [laws_heldIntS.l0]
    rw [if_pos (by simp only [List.length_append, List.length_cons]; omega), if_pos (by omega), rd_pre, if_pos rfl, w64 (x := c + 1) (by omega) (by omega), wn (by omega)]
    simp only [List.length_append, List.length_cons, List.length_nil]
    rfl
theorem marks_ev (l : List Int) (h : l.length ≤ 20) : ∃ m : Int × List Int, (¬ m.1 < 0 ∧ Ev (fun k => laws_markIntS.f k l 1) m) ∧ Ev (fun k => laws_heldIntS.f k m.2 1) m.1 := by
  refine ⟨(1 + l.length, rg 1 l.length), ⟨by show ¬ (1 + (l.length : Int) < 0); omega, ?_⟩, ?_⟩
  · have := markI_ev l [] 1 (by simp only [List.length_nil]; omega) (by omega) (by omega)
    exact (by simpa using this : Ev (fun k => laws_markIntS.l0 k l 1 0) _)
  · have := heldI_ev l.length [] 1 (by simp only [List.length_nil]; omega) (by omega) (by omega)
    exact (by simpa using this : Ev (fun k => laws_heldIntS.l0 k (rg 1 l.length) 1 0) _)
theorem Ev.bind1 {α β γ : Type} {f : Nat → Option (α × β)} {g : Nat → α → Option γ} {a : α} {w : γ} (h : ∃ M, ∀ k, M < k → ∃ r, f k = some (a, r)) (hg : Ev (fun k => g k a) w) : Ev (fun k => (f k).bind fun x => g k x.1) w := by
  obtain ⟨M, h⟩ := h
  obtain ⟨N, hg⟩ := hg
  refine ⟨M + N, fun k hk => ?_⟩
  obtain ⟨r, hr⟩ := h k (by omega)
  show (f k).bind _ = some w
  rw [hr]
  exact hg k (by omega)
/-! ### the order -/
def ordr (n : Nat) : List Int := (List.range n).map fun (i : Nat) => (i : Int)
theorem ordr_length (n : Nat) : (ordr n).length = n := by simp [ordr]
def Ord (L : List S31) (o : List Int) : Prop := o.length = L.length ∧ (∀ q : Nat, q < L.length → 0 ≤ rd o (q : Int) ∧ rd o (q : Int) < (L.length : Int)) ∧ (∀ i : Nat, i < L.length → ∃ q : Nat, q < L.length ∧ rd o (q : Int) = (i : Int)) ∧ ∀ p q : Nat, p < q → q < L.length → (lg L (rd o (p : Int)).toNat).f3 ≤ (lg L (rd o (q : Int)).toNat).f3
theorem L4_one (L : List S31) : rd_L4 [L] 0 = L := rfl
theorem rd_get {l : List Int} {q : Nat} (h : q < l.length) : rd l (q : Int) = l[q] := by simp [rd, List.getD_eq_getElem?_getD, List.getElem?_eq_getElem h]
theorem srt_swo (m : Nat) (l2 : List (List (S31))) : Go.Sort.SWO (Go.Proofs.ltOf (sortCf m l2)) := by
  have e : ∀ x y, Go.Proofs.ltOf (sortCf m l2) x y = decide (sortKey l2 (x.val : Int) < sortKey l2 (y.val : Int)) := by
    intro x y
    unfold Go.Proofs.ltOf sortCf Go.Lib.compareInt
    by_cases h1 : sortKey l2 (x.val : Int) < sortKey l2 (y.val : Int)
    · simp [h1]
    · by_cases h2 : sortKey l2 (x.val : Int) > sortKey l2 (y.val : Int) <;> simp [h1, h2]
  refine ⟨fun x => ?_, fun x y z h1 h2 => ?_, fun x y z h1 h2 => ?_⟩
  · rw [e]; simp
  · rw [e] at *; simp at *; omega
  · rw [e] at *; simp at *; omega
theorem sort_ord (L : List S31) (hn : L.length ≤ 60) : ∃ o, slices_SortFunc_int_int_at_impl_Earliest_1.f (ordr L.length) [L] = some o ∧ Ord L o := by
  unfold slices_SortFunc_int_int_at_impl_Earliest_1.f
  by_cases c : L.length = 0
  · rw [if_pos (by simp [ordr, c])]
    exact ⟨[], rfl, by simp [c], fun q h => absurd h (by omega), fun q h => absurd h (by omega), fun p q _ h => absurd h (by omega)⟩
  · obtain ⟨m, hm⟩ : ∃ m, L.length = m + 1 := ⟨L.length - 1, by omega⟩
    have hall : (ordr L.length).all (fun x => decide (0 ≤ x) && decide (x < ((rd_L4 [L] 0).length : Int))) = true := by
      rw [List.all_eq_true]
      intro x hx
      simp only [ordr, List.mem_map, List.mem_range] at hx
      obtain ⟨i, hi, rfl⟩ := hx
      rw [L4_one]; simp; omega
    rw [if_neg (by intro h; have := ordr_length L.length; rw [h] at this; simp at this; omega), if_pos ⟨by simp, by rw [ordr_length]; omega, by rw [L4_one]; omega, hall⟩]
    have hall2 : ∀ x ∈ ordr L.length, 0 ≤ x ∧ x < ((m + 1 : Nat) : Int) := by
      intro x hx
      have := List.all_eq_true.1 hall x hx
      rw [L4_one, hm] at this
      simpa using this
    rw [L4_one, hm, Nat.add_sub_cancel]
    rw [hm] at hall2
    have hsz : ((ordr (m + 1)).map (sortTo m)).toArray.size = m + 1 := by simp [ordr]
    have hs := Go.Sort.pdq_sorts (Go.Proofs.ltOf (sortCf m [L])) (srt_swo m [L]) ((ordr (m + 1)).map (sortTo m)).toArray 0 (ordr (m + 1)).length (Go.Lib.bitLen (ordr (m + 1)).length) true true (Nat.zero_le _) (by rw [hsz, ordr_length]; exact Nat.le_refl _) (Or.inl rfl)
    change Go.Sort.PermIn 0 (ordr (m + 1)).length _ (sortRun m (ordr (m + 1)) [L]) ∧ Go.Sort.SortedIn _ 0 (ordr (m + 1)).length (sortRun m (ordr (m + 1)) [L]) at hs
    obtain ⟨⟨p1, _, p3⟩, s1⟩ := hs
    rw [hsz] at p1
    rw [ordr_length] at p3 s1
    have hrd : ∀ q : Nat, q < m + 1 → rd ((sortRun m (ordr (m + 1)) [L]).toList.map fun x => (x.val : Int)) (q : Int) = (((sortRun m (ordr (m + 1)) [L])[q]!).val : Int) := by
      intro q hq
      rw [rd_get (by simpa [p1] using hq), List.getElem_map, Array.getElem_toList, getElem!_pos (sortRun m (ordr (m + 1)) [L]) q (by omega)]
    refine ⟨_, rfl, by rw [List.length_map, Array.length_toList, p1, hm], fun q hq => ?_, fun i hi => ?_, fun p q hpq hq => ?_⟩
    · rw [hm] at hq ⊢
      rw [hrd q hq]
      have := ((sortRun m (ordr (m + 1)) [L])[q]!).isLt
      omega
    · rw [hm] at hi ⊢
      have hmem : sortTo m (i : Int) ∈ (((ordr (m + 1)).map (sortTo m)).toArray.extract 0 (m + 1)).toList := by
        rw [Array.extract_eq_self_of_le (by rw [hsz]; exact Nat.le_refl _)]
        exact List.mem_map_of_mem (by simp only [ordr, List.mem_map, List.mem_range]; exact ⟨i, hi, rfl⟩)
      have hmem2 := p3.mem_iff.2 hmem
      rw [Array.extract_eq_self_of_le (by rw [p1]; exact Nat.le_refl _)] at hmem2
      obtain ⟨q, hq, e⟩ := List.getElem_of_mem hmem2
      have hq' : q < m + 1 := by simpa [p1] using hq
      refine ⟨q, hq', ?_⟩
      rw [hrd q hq', getElem!_pos (sortRun m (ordr (m + 1)) [L]) q (by omega), ← Array.getElem_toList, e]
      simp only [sortTo, Fin.ofNat, Int.toNat_natCast]
      rw [Nat.mod_eq_of_lt hi]
    · rw [hm] at hq
      have h := s1 p q (Nat.zero_le _) hpq hq
      rw [hrd p (by omega), hrd q hq, Int.toNat_natCast, Int.toNat_natCast]
      replace h := of_decide_eq_false h
      have hcmp : ∀ a b : Int, a < b → Go.Lib.compareInt a b < 0 := fun a b hab => by unfold Go.Lib.compareInt; rw [if_pos hab]; decide
      have h2 : ¬ (lg L ((sortRun m (ordr (m + 1)) [L])[q]!).val).f3 < (lg L ((sortRun m (ordr (m + 1)) [L])[p]!).val).f3 := by
        intro hlt
        exact h (hcmp _ _ hlt)
      omega
/-! ### the program's -/
section
variable {L : List S31} {F A C : Int}
theorem i3 (hG : Good L) (hC : 0 ≤ C) (hC1 : C ≤ 10000) (out o : List Int) (N q : Int) (j : Nat) (hj : j < L.length) (d : Nat) : ∀ (i : Nat) (t : List Bool), i ≤ L.length → L.length - i = d → t.length = L.length →
    ∃ t' : List Bool, t'.length = L.length ∧ (∀ i', i' ≠ j → cb t' i' = cb t i') ∧ (cb t' j = true ↔ (cb t j = true ∨ ∃ i', i ≤ i' ∧ i' < L.length ∧ i' ≠ j ∧ cb t i' = true ∧ ch L C i' j = true)) ∧
      ∀ r, Ev (fun K => impl_Earliest.l3 K F A C out t' (j : Int) o N q (L.length : Int) (L.length : Int) L (lg L j).f0 (lg L j).f1 (lg L j).f2 (lg L j).f3 (lg L j).f4 (lg L j).f5) r → Ev (fun K => impl_Earliest.l3 K F A C out t (j : Int) o N q (L.length : Int) (i : Int) L (lg L j).f0 (lg L j).f1 (lg L j).f2 (lg L j).f3 (lg L j).f4 (lg L j).f5) r := by
  have hn := hG.1
  induction d with
  | zero =>
    intro i t hi hd ht
    obtain rfl : i = L.length := by omega
    exact ⟨t, ht, fun _ _ => rfl, ⟨fun h => .inl h, fun h => h.elim id fun ⟨i', h1, h2, _⟩ => absurd h2 (by omega)⟩, fun r hr => hr⟩
  | succ d ih =>
    intro i t hi hd ht
    have hil : i < L.length := by omega
    cases hcj : cb t j with
    | true =>
      obtain ⟨t', a1, a2, a3, a4⟩ := ih (i + 1) (t.set j true) (by omega) (by omega) (by simpa using ht)
      rw [cb_set_eq (by omega)] at a3
      refine ⟨t', a1, fun i' h => (a2 i' h).trans (cb_set_ne (Ne.symm h)), ⟨fun _ => .inl rfl, fun _ => a3.2 (.inl rfl)⟩, fun r hr => Ev.succ ((a4 r hr).to fun K => ?_)⟩
      simp only [impl_Earliest.l3, Int.toNat_natCast]
      rw [if_pos (by omega), if_pos (by omega), if_pos (by omega), cb_rd, hcj, if_pos rfl, wn (by omega)]
    | false =>
      cases hci : cb t i with
      | true =>
        have hij : i ≠ j := fun e => by subst e; rw [hci] at hcj; cases hcj
        obtain ⟨t', a1, a2, a3, a4⟩ := ih (i + 1) (t.set j (ch L C i j)) (by omega) (by omega) (by simpa using ht)
        rw [cb_set_eq (by omega)] at a3
        refine ⟨t', a1, fun i' h => (a2 i' h).trans (cb_set_ne (Ne.symm h)), a3.trans ⟨fun h => ?_, fun h => ?_⟩, fun r hr => Ev.succ ((a4 r hr).to fun K => ?_)⟩
        · rcases h with h | ⟨i', h1, h2, h3, h4, h5⟩
          · exact .inr ⟨i, Nat.le_refl _, hil, hij, hci, h⟩
          · exact .inr ⟨i', by omega, h2, h3, by rwa [cb_set_ne (Ne.symm h3)] at h4, h5⟩
        · rcases h with h | ⟨i', h1, h2, h3, h4, h5⟩
          · cases h
          · by_cases e : i' = i
            · subst e; exact .inl h5
            · exact .inr ⟨i', by omega, h2, h3, by rw [cb_set_ne (Ne.symm h3)]; exact h4, h5⟩
        · have hch := changes_ok L hG C hC hC1 i j hil
          simp only [impl_Earliest.l3, Int.toNat_natCast]
          rw [if_pos (by omega), if_pos (by omega), if_pos (by omega), cb_rd, hcj, if_neg (by decide), if_pos (by omega), if_pos (by omega), cb_rd, hci, if_pos rfl, if_pos (by omega)]
          rw [show rd_T31 L (i : Int) = lg L i from rfl, hch, Option.bind_some, wn (by omega)]
      | false =>
        obtain ⟨t', a1, a2, a3, a4⟩ := ih (i + 1) (t.set j false) (by omega) (by omega) (by simpa using ht)
        rw [cb_set_eq (by omega)] at a3
        refine ⟨t', a1, fun i' h => (a2 i' h).trans (cb_set_ne (Ne.symm h)), a3.trans ⟨fun h => ?_, fun h => ?_⟩, fun r hr => Ev.succ ((a4 r hr).to fun K => ?_)⟩
        · rcases h with h | ⟨i', h1, h2, h3, h4, h5⟩
          · cases h
          · exact .inr ⟨i', by omega, h2, h3, by rwa [cb_set_ne (Ne.symm h3)] at h4, h5⟩
        · rcases h with h | ⟨i', h1, h2, h3, h4, h5⟩
          · cases h
          · have e : i' ≠ i := fun e => by subst e; rw [hci] at h4; cases h4
            exact .inr ⟨i', by omega, h2, h3, by rw [cb_set_ne (Ne.symm h3)]; exact h4, h5⟩
        · simp only [impl_Earliest.l3, Int.toNat_natCast]
          rw [if_pos (by omega), if_pos (by omega), if_pos (by omega), cb_rd, hcj, if_neg (by decide), if_pos (by omega), if_pos (by omega), cb_rd, hci, if_neg (by decide), wn (by omega)]
def Done (o : List Int) (q i : Nat) : Prop := ∃ p : Nat, p < q ∧ rd o (p : Int) = (i : Int)
theorem i2 (hG : Good L) (f : Nat) (hf : f < 20) (hA : 0 ≤ A) (hC : 0 ≤ C) (hC1 : C ≤ 10000) (o : List Int) (hO : Ord L o) (d : Nat) : ∀ (q : Nat) (out : List Int) (t : List Bool), q ≤ L.length → L.length - q = d → out.length = 20 → t.length = L.length →
    (∀ i, i < L.length → (cb t i = true ↔ (Rch L f A C i ∧ Done o q i))) → rd out (f : Int) = A → (∀ p, p < 20 → p ≠ f → Mn L (fun i => Rch L f A C i ∧ Done o q i) p (rd out (p : Int))) →
    ∃ out' : List Int, Res L f A C out' ∧ Ev (fun K => impl_Earliest.l2 K (f : Int) A C out t o (L.length : Int) (q : Int) L) (out', true) := by
  have hn := hG.1
  obtain ⟨o1, o2, o3, o4⟩ := hO
  induction d with
  | zero =>
    intro q out t hq hd ho ht hT hF hM
    obtain rfl : q = L.length := by omega
    refine ⟨out, ⟨ho, fun p hp => ?_⟩, Ev.succ (Ev.of fun K => ?_)⟩
    · by_cases c : (p : Int) = (f : Int)
      · rw [if_pos c, c]; exact hF
      · rw [if_neg c]
        exact (hM p hp (by omega)).congr fun i => ⟨fun h => h.1, fun h => ⟨h, by obtain ⟨p', h1, h2⟩ := o3 i h.lt; exact ⟨p', h1, h2⟩⟩⟩
    · simp only [impl_Earliest.l2]
      rw [if_neg (by omega)]
  | succ d ih =>
    intro q out t hq hd ho ht hT hF hM
    have hql : q < L.length := by omega
    obtain ⟨j, hj⟩ : ∃ j : Nat, rd o (q : Int) = (j : Int) := ⟨(rd o (q : Int)).toNat, by have := o2 q hql; omega⟩
    have hjl : j < L.length := by have := o2 q hql; omega
    have hg := hG.2 j hjl
    obtain ⟨t', a1, a2, a3, a4⟩ := i3 (F := (f : Int)) (A := A) hG hC hC1 out o (L.length : Int) (q : Int) j hjl L.length 0 (t.set j (st L f A j)) (by omega) (by omega) (by simpa using ht)
    rw [cb_set_eq (by omega)] at a3
    have hdone : ∀ i, i ≠ j → (Done o (q + 1) i ↔ Done o q i) := by
      intro i hij
      refine ⟨fun ⟨p, h1, h2⟩ => ⟨p, ?_, h2⟩, fun ⟨p, h1, h2⟩ => ⟨p, by omega, h2⟩⟩
      by_cases e : p = q
      · subst e; rw [hj] at h2; omega
      · omega
    have hdj : Done o (q + 1) j := ⟨q, by omega, hj⟩
    have hR : cb t' j = true ↔ Rch L f A C j := by
      refine a3.trans ⟨fun h => ?_, fun h => ?_⟩
      · rcases h with h | ⟨i', h1, h2, h3, h4, h5⟩
        · exact Rch.st hjl h
        · rw [cb_set_ne (Ne.symm h3)] at h4
          exact Rch.go ((hT i' h2).1 h4).1 hjl h5
      · cases h with
        | st _ hs => exact .inl hs
        | @go i _ hi _ hc =>
          have hlt := ch_lt hG hC hi.lt hc
          have hij : i ≠ j := fun e => by subst e; omega
          refine .inr ⟨i, Nat.zero_le _, hi.lt, hij, ?_, hc⟩
          rw [cb_set_ne (Ne.symm hij)]
          obtain ⟨p, p1, p2⟩ := o3 i hi.lt
          refine (hT i hi.lt).2 ⟨hi, p, ?_, p2⟩
          by_cases e : p < q
          · exact e
          · by_cases e2 : p = q
            · subst e2; rw [hj] at p2; omega
            · have := o4 q p (by omega) p1
              rw [hj, p2, Int.toNat_natCast, Int.toNat_natCast] at this
              omega
    have hT' : ∀ i, i < L.length → (cb t' i = true ↔ (Rch L f A C i ∧ Done o (q + 1) i)) := by
      intro i hi
      by_cases e : i = j
      · subst e; exact hR.trans ⟨fun h => ⟨h, hdj⟩, fun h => h.1⟩
      · rw [a2 i e, cb_set_ne (Ne.symm e), hT i hi, hdone i e]
    have fin : ∀ out2 : List Int, out2.length = 20 → rd out2 (f : Int) = A → (∀ p, p < 20 → p ≠ f → Mn L (fun i => Rch L f A C i ∧ Done o (q + 1) i) p (rd out2 (p : Int))) →
        (∀ K, impl_Earliest.l3 (K + 1) (f : Int) A C out t' (j : Int) o (L.length : Int) (q : Int) (L.length : Int) (L.length : Int) L (lg L j).f0 (lg L j).f1 (lg L j).f2 (lg L j).f3 (lg L j).f4 (lg L j).f5 = impl_Earliest.l2 K (f : Int) A C out2 t' o (L.length : Int) ((q + 1 : Nat) : Int) L) →
        ∃ out' : List Int, Res L f A C out' ∧ Ev (fun K => impl_Earliest.l2 K (f : Int) A C out t o (L.length : Int) (q : Int) L) (out', true) := by
      intro out2 h1 h2 h3 h4
      obtain ⟨out', b1, b2⟩ := ih (q + 1) out2 t' (by omega) (by omega) h1 a1 hT' h2 h3
      refine ⟨out', b1, Ev.succ (Ev.to (g := fun K => impl_Earliest.j3 K (f : Int) A C out (t.set j (st L f A j)) (j : Int) o (L.length : Int) (q : Int) L (lg L j).f0 (lg L j).f1 (lg L j).f2 (lg L j).f3 (lg L j).f4 (lg L j).f5) (Ev.succ ((a4 _ (Ev.succ (b2.to h4))).to fun K => ?_)) fun K => ?_)⟩
      · simp only [impl_Earliest.j3]; rfl
      · simp only [impl_Earliest.l2]
        rw [hj, Int.toNat_natCast, if_pos (by omega), if_pos (by omega), if_pos (by omega), if_pos (by omega), if_pos (by omega)]
        show (if (lg L j).f1 = (f : Int) then _ else _) = _
        by_cases c : (lg L j).f1 = (f : Int)
        · rw [if_pos c, if_pos (by omega)]
          unfold st
          rw [decide_eq_true c, Bool.true_and]
          rfl
        · rw [if_neg c, if_pos (by omega)]
          unfold st
          rw [decide_eq_false c, Bool.false_and]
          rfl
    cases hcj : cb t' j with
    | false =>
      have hnr : ¬ Rch L f A C j := fun h => by rw [hR.2 h] at hcj; cases hcj
      refine fin out ho hF (fun p hp hpf => (hM p hp hpf).congr fun i => ⟨fun h => ⟨h.1, (hdone i (fun e => hnr (e ▸ h.1))).2 h.2⟩, fun h => ⟨h.1, (hdone i (fun e => hnr (e ▸ h.1))).1 h.2⟩⟩) fun K => ?_
      simp only [impl_Earliest.l3]
      rw [if_neg (by omega), if_pos (by omega), if_pos (by omega), cb_rd, hcj, if_neg (by decide), wn (by omega)]
    | true =>
      have hrj := hR.1 hcj
      have hlate := hrj.late hG hC
      obtain ⟨p0, hp0⟩ : ∃ p0 : Nat, (lg L j).f2 = (p0 : Int) := ⟨(lg L j).f2.toNat, by omega⟩
      have hQ : ∀ i, (fun i => Rch L f A C i ∧ Done o (q + 1) i) i ↔ (fun i => Rch L f A C i ∧ Done o q i) i ∨ i = j := by
        intro i
        by_cases e : i = j
        · subst e; exact ⟨fun _ => .inr rfl, fun _ => ⟨hrj, hdj⟩⟩
        · exact ⟨fun h => .inl ⟨h.1, (hdone i e).1 h.2⟩, fun h => h.elim (fun h => ⟨h.1, (hdone i e).2 h.2⟩) fun h => absurd h e⟩
      have hoth : ∀ p, p < 20 → p ≠ f → p ≠ p0 → Mn L (fun i => Rch L f A C i ∧ Done o (q + 1) i) p (rd out (p : Int)) := fun p hp hpf hpp =>
        Mn.skip (j := j) (hM p hp hpf) (fun i hi => ((hQ i).1 hi).elim .inl fun e => .inr ⟨e, by rw [hp0]; omega⟩) fun i hi => (hQ i).2 (.inl hi)
      have hme : p0 ≠ f → Mn L (fun i => Rch L f A C i ∧ Done o (q + 1) i) p0 (if rd out (p0 : Int) < 0 then (lg L j).f4 else if (lg L j).f4 < rd out (p0 : Int) then (lg L j).f4 else rd out (p0 : Int)) := fun hpf =>
        Mn.add hG (fun i h => h.1.lt) hjl (hM p0 (by omega) hpf) hp0 hQ
      have hset : (rd out (p0 : Int) < 0 ∨ (lg L j).f4 < rd out (p0 : Int)) → rd (out.set p0 (lg L j).f4) (f : Int) = A ∧ ∀ p, p < 20 → p ≠ f → Mn L (fun i => Rch L f A C i ∧ Done o (q + 1) i) p (rd (out.set p0 (lg L j).f4) (p : Int)) := by
        intro hc
        have hpf : p0 ≠ f := fun e => by rw [e, hF] at hc; omega
        refine ⟨by rw [rd_set_ne hpf]; exact hF, fun p hp hpf2 => ?_⟩
        by_cases e : p = p0
        · subst e
          rw [rd_set_eq (by omega)]
          have := hme hpf
          by_cases c1 : rd out (p : Int) < 0
          · rwa [if_pos c1] at this
          · rw [if_neg c1] at this
            rwa [if_pos (hc.elim (fun h => absurd h c1) id)] at this
        · rw [rd_set_ne (Ne.symm e)]; exact hoth p hp hpf2 e
      by_cases c1 : rd out (p0 : Int) < 0
      · obtain ⟨x1, x2⟩ := hset (.inl c1)
        refine fin (out.set p0 (lg L j).f4) (by simpa using ho) x1 x2 fun K => ?_
        simp only [impl_Earliest.l3]
        rw [if_neg (by omega), if_pos (by omega), if_pos (by omega), cb_rd, hcj, if_pos rfl, hp0, if_pos (by omega), if_pos (by omega), if_pos c1, Int.toNat_natCast, wn (by omega)]
      · by_cases c2 : (lg L j).f4 < rd out (p0 : Int)
        · obtain ⟨x1, x2⟩ := hset (.inr c2)
          refine fin (out.set p0 (lg L j).f4) (by simpa using ho) x1 x2 fun K => ?_
          simp only [impl_Earliest.l3]
          rw [if_neg (by omega), if_pos (by omega), if_pos (by omega), cb_rd, hcj, if_pos rfl, hp0, if_pos (by omega), if_pos (by omega), if_neg c1, if_pos c2, Int.toNat_natCast, wn (by omega)]
        · refine fin out ho hF (fun p hp hpf => ?_) fun K => ?_
          · by_cases e : p = p0
            · subst e
              have := hme hpf
              rwa [if_neg c1, if_neg c2] at this
            · exact hoth p hp hpf e
          · simp only [impl_Earliest.l3]
            rw [if_neg (by omega), if_pos (by omega), if_pos (by omega), cb_rd, hcj, if_pos rfl, hp0, if_pos (by omega), if_pos (by omega), if_neg c1, if_neg c2, wn (by omega)]
theorem impl_tail (hG : Good L) (f : Nat) (hf : f < 20) (hA : 0 ≤ A) (hC : 0 ≤ C) (hC1 : C ≤ 10000) : ∃ out' : List Int, Res L f A C out' ∧ Ev (fun K => impl_Earliest.l0 K (f : Int) A C (List.replicate 20 0) 20 0 L) (out', true) := by
  have hn := hG.1
  obtain ⟨o, so, hO⟩ := sort_ord L hn
  obtain ⟨out', h1, h2⟩ := i2 hG f hf hA hC hC1 o hO L.length 0 ((List.replicate 20 (-1)).set f A) (List.replicate L.length false) (by omega) (by omega) (by simp) (by simp)
    (fun i hi => ⟨fun h => by simp [cb, List.getD_eq_getElem?_getD, List.getElem?_replicate, hi] at h, fun ⟨_, p, hp, _⟩ => absurd hp (by omega)⟩) (rd_set_eq (by simpa using hf))
    (fun p hp hpf => by
      rw [rd_set_ne (Ne.symm hpf), rd_get (by simpa using hp), List.getElem_replicate]
      exact .inl ⟨rfl, fun i ⟨_, p', hp', _⟩ => absurd hp' (by omega)⟩)
  refine ⟨out', h1, ?_⟩
  have l1 : Ev (fun K => impl_Earliest.l1 K (f : Int) A C ((List.replicate 20 (-1)).set f A) (List.replicate L.length 0) (L.length : Int) 0 L) (out', true) := by
    refine copyK (List.range L.length) (fun (i : Nat) => (i : Int)) (fun K x i => impl_Earliest.l1 K (f : Int) A C ((List.replicate 20 (-1)).set f A) x (L.length : Int) i L) ?_ (out', true) ?_ _ 0 (List.replicate L.length 0) (by omega) rfl (by simp) (by simp)
    · intro i hi x r hx hr
      have hi' : i < L.length := by simpa using hi
      have hx' : x.length = L.length := by simpa using hx
      refine Ev.succ (hr.to fun K => ?_)
      simp only [impl_Earliest.l1, Int.toNat_natCast, List.getElem_range]
      rw [if_pos (by omega), if_pos (by omega), if_pos (by omega), wn (by omega)]
    · refine Ev.succ (h2.to fun K => ?_)
      have e : (List.range L.length).map (fun (i : Nat) => (i : Int)) = ordr L.length := rfl
      simp only [impl_Earliest.l1, List.length_range]
      rw [if_neg (by omega), e, so, Option.bind_some, if_pos (by omega), if_pos (by omega), Int.toNat_natCast, ordr_length]
      rfl
  refine copyK (List.range 20) (fun _ => (-1 : Int)) (fun K x i => impl_Earliest.l0 K (f : Int) A C x 20 i L) ?_ (out', true) ?_ _ 0 (List.replicate 20 0) (by omega) rfl (by simp) (by simp)
  · intro i hi x r hx hr
    have hi' : i < 20 := by simpa using hi
    have hx' : x.length = 20 := by simpa using hx
    refine Ev.succ (hr.to fun K => ?_)
    simp only [impl_Earliest.l0, Int.toNat_natCast]
    rw [if_pos (by omega), if_pos (by omega), if_pos (by omega), wn (by omega)]
  · refine Ev.succ (l1.to fun K => ?_)
    have e : (List.range 20).map (fun _ => (-1 : Int)) = List.replicate 20 (-1) := rfl
    simp only [impl_Earliest.l0, List.length_range, e, Int.toNat_natCast]
    rw [if_neg (by omega), if_pos (by omega), if_pos (by rw [List.length_replicate]; omega), if_pos (by omega), if_pos (by omega), Option.bind_some, List.length_replicate]
end
/-! ### the whole -/
theorem legs_good (l : List S31) (d : Nat) : ∀ i : Int, 0 ≤ i → impl_LegsOk.g d l i = true → ∀ j : Nat, i ≤ (j : Int) → (j : Int) < i + d → j < l.length → impl_LegsOk.bad (lg l j) = false := by
  induction d with
  | zero => intro i _ _ j h1 h2; omega
  | succ d ih =>
    intro i h0 hg j h1 h2 hj
    simp only [impl_LegsOk.g] at hg
    rw [if_pos (by omega)] at hg
    split at hg
    · cases hg
    · rename_i hb
      by_cases e : i = (j : Int)
      · subst e
        cases h : impl_LegsOk.bad (lg l j)
        · rfl
        · exact absurd h hb
      · split at hg
        · exact ih (i + 1) (by omega) hg j (by omega) (by omega) hj
        · split at hg
          · cases hg
          · exact ih (i + 1) (by omega) hg j (by omega) (by omega) hj
theorem ok_good (l : List S31) (h : impl_LegsOk.f l = some true) : Good l := by
  unfold impl_LegsOk.f at h
  injection h with h
  split at h
  · cases h
  · refine ⟨by omega, fun j hj => ?_⟩
    have := legs_good l _ 0 (by omega) h j (by omega) (by omega) hj
    simp only [impl_LegsOk.bad, impl_LegsOk.in1, Bool.or_eq_false_iff, Bool.not_eq_false', Bool.and_eq_true, decide_eq_true_eq, decide_eq_false_iff_not] at this
    omega
theorem in_ok (a lo hi : Int) : impl_in.f a lo hi = some (impl_LegsOk.in1 a lo hi) := by
  unfold impl_in.f impl_LegsOk.in1
  by_cases c : lo ≤ a
  · rw [if_pos c, decide_eq_true c, Bool.true_and]
  · rw [if_neg c, decide_eq_false c, Bool.false_and]
theorem port_ok (a : Int) : impl_linePort.f a = some (impl_LegsOk.in1 a 0 19) := by
  unfold impl_linePort.f; rw [in_ok, Option.bind_some]
theorem min_ok (a : Int) : impl_minuteOk.f a = some (impl_LegsOk.in1 a 0 100000000) := by
  unfold impl_minuteOk.f; rw [in_ok, Option.bind_some]
def argOk (b : Bool) (F A C : Int) : Bool := b && (impl_LegsOk.in1 F 0 19 && (impl_LegsOk.in1 A 0 100000000 && impl_LegsOk.in1 C 0 10000))
theorem right_ok (l : List S31) (b : Bool) (hb : impl_LegsOk.f l = some b) (F A C : Int) : impl_lineRight.f l F A C = some (argOk b F A C) := by
  unfold impl_lineRight.f argOk
  rw [hb, Option.bind_some]
  cases b
  · rfl
  rw [if_pos rfl, port_ok, Option.bind_some, Bool.true_and]
  cases impl_LegsOk.in1 F 0 19
  · rfl
  rw [if_pos rfl, min_ok, Option.bind_some, Bool.true_and]
  cases impl_LegsOk.in1 A 0 100000000
  · rfl
  rw [if_pos rfl, in_ok, Option.bind_some, Bool.true_and]
theorem both (l : List S31) (hn : l.length ≤ 1048576) (F A C : Int) : ∃ v : List Int × Bool, v.1.length ≤ 20 ∧ Ev (fun K => impl_Earliest.f K l F A C) v ∧ Ev (fun K => spec_Earliest.f K l F A C) v := by
  obtain ⟨b, b1, b2⟩ := legs_same l hn
  have hb2 : Ev (fun K => spec_LegsOk.f K l) b := ⟨_, b2⟩
  have hi := right_ok l b b1 F A C
  have hj : Ev (fun K => spec_Earliest.j0 K l F A C true) ([], false) := Ev.succ (Ev.of fun K => by simp only [spec_Earliest.j0]; rw [if_pos trivial])
  cases hv : argOk b F A C with
  | false =>
    refine ⟨([], false), by simp, Ev.of fun K => by unfold impl_Earliest.f; rw [hi, hv, Option.bind_some, if_neg (by decide)], Ev.bind hb2 ?_⟩
    unfold argOk at hv
    cases b
    · simpa using hj
    simp only [if_true, l1in_eq, l1min_eq, Option.bind_some]
    cases h1 : impl_LegsOk.in1 F 0 19
    · simpa using hj
    cases h2 : impl_LegsOk.in1 A 0 100000000
    · simpa using hj
    cases h3 : impl_LegsOk.in1 C 0 10000
    · simpa using hj
    rw [h1, h2, h3] at hv
    cases hv
  | true =>
    have hv0 := hv
    unfold argOk at hv0
    simp only [Bool.and_eq_true] at hv0
    obtain ⟨rfl, h1, h2, h3⟩ := hv0
    have h1' := h1; have h2' := h2; have h3' := h3
    simp only [impl_LegsOk.in1, Bool.and_eq_true, decide_eq_true_eq] at h1' h2' h3'
    have hG := ok_good l b1
    obtain ⟨f, rfl⟩ : ∃ f : Nat, F = (f : Int) := ⟨F.toNat, by omega⟩
    obtain ⟨o1, r1, e1⟩ := impl_tail (A := A) (C := C) hG f (by omega) h2'.1 h3'.1 h3'.2
    obtain ⟨can, c1, c2, c3⟩ := reach_ok (F := (f : Int)) (A := A) hG h3'.1 h3'.2
    obtain ⟨o2, r2, e2⟩ := s0 (F := (f : Int)) (A := A) (C := C) hG h1'.1 h1'.2 can c1 c2 20 0 (List.replicate 20 0) (by omega) (by omega) (by simp) (fun p' h => absurd h (by omega))
    obtain rfl := r1.uniq r2
    refine ⟨(o1, true), by rw [r1.1]; exact Nat.le_refl _, ?_, Ev.bind hb2 ?_⟩
    · refine e1.to fun K => ?_
      unfold impl_Earliest.f
      rw [hi, hv, Option.bind_some, if_pos rfl, if_pos (by omega), Option.bind_some, List.length_replicate]
      rfl
    · simp only [if_true, l1in_eq, l1min_eq, Option.bind_some, h1, h2, h3, Bool.not_true]
      refine Ev.succ (Ev.to (g := fun K => (spec_l22Reach.f K l (f : Int) A C).bind fun t166 => spec_Earliest.l0 K l (f : Int) A t166 (List.replicate 20 0) 0) (Ev.bind c3 e2) fun K => ?_)
      simp only [spec_Earliest.j0, Bool.false_eq_true, if_false]
      rfl
theorem FnExactEarliest : laws_FnExactEarliest.Pure := by
  intro l F A C hq _ _ _
  apply Ev.get
  by_cases c : 1048576 - (l.length : Int) < 0
  · refine Ev.of fun k => ?_
    unfold laws_FnExactEarliest.f laws_szLegS.f
    rw [w64 (by omega) (by omega), if_pos c, Option.bind_some, if_pos (by omega)]
  · have hl : l.length ≤ 1048576 := by omega
    have hl2 : (toLeg l).length ≤ 1048576 := by rw [toLeg_length]; exact hl
    have ht : Ev (fun k => laws_toLegS.f k l) (toLeg l) := ⟨_, fun k hk => toLeg_ok l hl k hk⟩
    obtain ⟨v, v0, v1, v2⟩ := both (toLeg l) hl2 F A C
    have he : Ev (fun k => laws_eqIntS.f k v.1 v.1) true := ⟨_, fun k hk => eqI v.1 (by omega) k hk⟩
    have hel : Ev (fun k => laws_eqLegS.f k (toLeg l) (toLeg l)) true := ⟨_, fun k hk => eqLeg_ok (toLeg l) (by omega) k hk⟩
    obtain ⟨mi, hmi, hmh⟩ := marks_ev v.1 v0
    refine Ev.to (g := fun k => (laws_toLegS.f k l).bind fun t232 => ((spec_Earliest.f k t232 F A C).bind fun bt235 => ((laws_toLegS.f k l).bind fun t239 => ((impl_Earliest.f k t239 F A C).bind fun bt242 => ((laws_eqIntS.f k bt242.1 bt235.1).bind fun t246 => (if t246 = true then (laws_FnExactEarliest.j0 k l F A C bt235.1 bt235.2 t239 bt242.1 bt242.2 (bt242.2 != bt235.2)) else (laws_FnExactEarliest.j0 k l F A C bt235.1 bt235.2 t239 bt242.1 bt242.2 true)))))))
      (Ev.bind ht (Ev.bind v2 (Ev.bind ht (Ev.bind v1 (Ev.bind he ?_))))) fun k => by
        unfold laws_FnExactEarliest.f laws_szLegS.f
        rw [w64 (by omega) (by omega), if_neg c, Option.bind_some, if_neg (by omega)]
    simp only [if_true, bne_self_eq_false]
    refine Ev.succ (Ev.to (g := fun k => (laws_toLegS.f k l).bind fun t247 => ((laws_eqLegS.f k (toLeg l) t247).bind fun t250 => (if t250 = true then ((laws_markLegS.f k (toLeg l) 1).bind fun bt251 => (if bt251.1 < 0 then (laws_FnExactEarliest.j1 k l F A C v.1 v.2 v.1 true) else ((laws_eqIntS.f k v.1 v.1).bind fun t253 => (if t253 = true then (laws_FnExactEarliest.j1 k l F A C v.1 v.2 v.1 (v.2 != v.2)) else (laws_FnExactEarliest.j1 k l F A C v.1 v.2 v.1 true))))) else (some false))))
      (Ev.bind ht (Ev.bind hel ?_)) fun k => by simp only [laws_FnExactEarliest.j0]; rw [if_neg (by decide)])
    simp only [if_true]
    refine Ev.bind1 (g := fun k (x : Int) => if x < 0 then (laws_FnExactEarliest.j1 k l F A C v.1 v.2 v.1 true) else ((laws_eqIntS.f k v.1 v.1).bind fun t253 => (if t253 = true then (laws_FnExactEarliest.j1 k l F A C v.1 v.2 v.1 (v.2 != v.2)) else (laws_FnExactEarliest.j1 k l F A C v.1 v.2 v.1 true)))) ⟨(toLeg l).length, fun k hk => by obtain ⟨r, hr, _⟩ := markLeg_ok (toLeg l) (by omega) k hk; exact ⟨r, hr⟩⟩ ?_
    simp only [if_neg (show ¬ 1 + 6 * ((toLeg l).length : Int) < 0 by omega), bne_self_eq_false]
    refine Ev.bind he ?_
    simp only [if_true]
    refine Ev.succ (Ev.to (g := fun k => (laws_markIntS.f k v.1 1).bind fun bt254 => ((laws_heldIntS.f k bt254.2 1).bind fun t256 => (if t256 < 0 then (some false) else (if t256 = bt254.1 then ((laws_toLegS.f k l).bind fun t257 => ((impl_Earliest.f k t257 F A C).bind fun bt260 => ((laws_eqIntS.f k bt260.1 v.1).bind fun t264 => (if t264 = true then (laws_FnExactEarliest.j2 k bt254.2 bt254.1 (bt260.2 != v.2)) else (laws_FnExactEarliest.j2 k bt254.2 bt254.1 true))))) else (some false)))))
      (Ev.bind hmi.2 (Ev.bind hmh ?_)) fun k => by simp only [laws_FnExactEarliest.j1]; rw [if_neg (by decide)])
    simp only [if_neg (show ¬ mi.1 < 0 from hmi.1), if_true]
    refine Ev.bind ht (Ev.bind v1 (Ev.bind he ?_))
    simp only [if_true, bne_self_eq_false]
    refine Ev.succ (Ev.to (g := fun k => (laws_heldIntS.f k mi.2 1).bind fun t265 => (if t265 < 0 then (some false) else (if t265 = mi.1 then (some true) else (some false)))) (Ev.bind hmh (Ev.of fun k => ?_)) fun k => by simp only [laws_FnExactEarliest.j2]; rw [if_neg (by decide)])
    rw [if_neg hmi.1, if_pos rfl]

end Go.Proofs.Ytacekdgajpaomaa.Pure
