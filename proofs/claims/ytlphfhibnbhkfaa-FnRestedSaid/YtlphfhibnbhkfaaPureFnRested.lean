/- Of drawn spells the work in a day is that of its parts; with a spell less the first fault is never sooner. -/
import Derived.Test.YtlphfhibnbhkfaaPFnRestedx5
import Derived.Test.YtlphfhibnbhkfaaKit
set_option linter.unusedVariables false
set_option linter.unusedSimpArgs false
namespace Go.Proofs.Ytlphfhibnbhkfaa.Pure
open Go.RowKit Go.Proofs.Ytlphfhibnbhkfaa.PFnRested Go.Proofs.YtlphfhibnbhkfaaW.PrintWords Go.Proofs.YtlphfhibnbhkfaaW.PrintLast Go.Proofs.YtlphfhibnbhkfaaW.PrintMore Go.Proofs.YtlphfhibnbhkfaaW.Kit

theorem mask_nat (x : Int) (i : Nat) (hi : i ≤ 62) : Go.bits .and .i64 x ((2 ^ i - 1 : Nat) : Int) = x % ((2 ^ i : Nat) : Int) := by
  have hp : 0 < 2 ^ i := Nat.two_pow_pos i
  have h62 : 2 ^ i ≤ 2 ^ 62 := Nat.pow_le_pow_right (by decide) hi
  have e62 : (2 : Nat) ^ 62 = 4611686018427387904 := by decide
  rw [e62] at h62
  have hm : (2 ^ i - 1) % 2 ^ 64 = 2 ^ i - 1 := Nat.mod_eq_of_lt (by have : (2:Nat)^64 = 18446744073709551616 := by decide
                                                                     omega)
  have hd : ((2 ^ i : Nat) : Int) ∣ 18446744073709551616 := by
    have : (2 : Nat) ^ i ∣ 2 ^ 64 := Nat.pow_dvd_pow 2 (by omega)
    have h2 : (2 : Nat) ^ 64 = 18446744073709551616 := by decide
    rw [h2] at this
    exact Int.natCast_dvd_natCast.2 this
  show IntKind.i64.wrap ((BitVec.ofInt 64 x &&& BitVec.ofInt 64 ((2 ^ i - 1 : Nat) : Int)).toNat : Int) = _
  rw [BitVec.toNat_and, BitVec.ofInt_natCast, BitVec.toNat_ofNat, hm, Nat.and_two_pow_sub_one_eq_mod, BitVec.toNat_ofInt, IntKind.wrap_i64]
  have hx : 0 ≤ x % 18446744073709551616 := Int.emod_nonneg _ (by decide)
  have e : (((x % ((2 ^ 64 : Nat) : Int)).toNat % 2 ^ i : Nat) : Int) = x % ((2 ^ i : Nat) : Int) := by
    rw [Int.natCast_emod, show (((2 ^ 64 : Nat) : Int)) = 18446744073709551616 by decide, Int.toNat_of_nonneg hx, Int.emod_emod_of_dvd _ hd]
  rw [e]
  have h1 := Int.emod_nonneg x (show ((2 ^ i : Nat) : Int) ≠ 0 by omega)
  have h2 := Int.emod_lt_of_pos x (show (0 : Int) < ((2 ^ i : Nat) : Int) by omega)
  generalize x % ((2 ^ i : Nat) : Int) = r at h1 h2 ⊢
  omega
theorem mask24 (x : Int) : Go.bits .and .i64 x 16777215 = x % 16777216 := mask_nat x 24 (by decide)
theorem mask16 (x : Int) : Go.bits .and .i64 x 65535 = x % 65536 := mask_nat x 16 (by decide)
theorem mask8 (x : Int) : Go.bits .and .i64 x 255 = x % 256 := mask_nat x 8 (by decide)
theorem mask30 (x : Int) : Go.bits .and .i64 x 1073741823 = x % 1073741824 := mask_nat x 30 (by decide)
/-! ### the drawn values: a place in the bytes that stays in its row, and values that stay in their range -/
/-- The cursor's place is in the row. -/
def InRow (c : List Int) (p : Int) : Prop := 0 ≤ p ∧ p ≤ (c.length : Int)
theorem new_loop (c : List Int) (hc : c.length ≤ 1048576) (d : Nat) : ∀ (s i : Int), 0 ≤ i → i ≤ 4000 → 4000 - i = d → ∃ r, ∀ k, d < k → spec_l1New.l0 k c s i = some (c, 0, r) := by
  induction d with
  | zero =>
    intro s i h0 h1 hd
    refine ⟨s, fun k hk => ?_⟩
    obtain ⟨k, rfl⟩ := pos_round (show 0 < k by omega)
    simp only [spec_l1New.l0]
    by_cases h : i < (c.length : Int)
    · rw [if_pos h, if_neg (by omega)]
    · rw [if_neg h]
  | succ d ih =>
    intro s i h0 h1 hd
    by_cases h : i < (c.length : Int)
    · obtain ⟨r, hr⟩ := ih (Go.bits .and .i64 (wrap64 ((wrap64 ((wrap64 (s * 131)) + (wrap64 (rd c i)))) + 7)) 1073741823) (i + 1) (by omega) (by omega) (by omega)
      refine ⟨r, fun k hk => ?_⟩
      obtain ⟨k, rfl⟩ := pos_round (show 0 < k by omega)
      simp only [spec_l1New.l0]
      rw [if_pos h, if_pos (by omega), if_pos h0, w64 (x := i + 1) (by omega) (by omega)]
      exact hr k (by omega)
    · refine ⟨s, fun k hk => ?_⟩
      obtain ⟨k, rfl⟩ := pos_round (show 0 < k by omega)
      simp only [spec_l1New.l0]
      rw [if_neg h]
theorem new_ok (c : List Int) (hc : c.length ≤ 1048576) : ∃ r, ∀ k, 4000 < k → spec_l1New.f k c = some (c, 0, r) := by
  obtain ⟨r, hr⟩ := new_loop c hc 4000 (wrap64 (59059 + (c.length : Int))) 0 (by omega) (by omega) (by omega)
  exact ⟨r, hr⟩
theorem byte_ok (c : List Int) (hc : c.length ≤ 1048576) {p : Int} (hp : InRow c p) (s : Int) : ∃ b p' s', spec_l1Byte.f c p s = some (b, p', s') ∧ 0 ≤ b ∧ b ≤ 255 ∧ InRow c p' := by
  unfold spec_l1Byte.f
  obtain ⟨h0, h1⟩ := hp
  by_cases h : p < (c.length : Int)
  · rw [if_pos h, if_pos h0, w64 (x := p + 1) (by omega) (by omega)]
    refine ⟨_, _, _, rfl, ?_, ?_, by constructor <;> omega⟩ <;> rw [mask8] <;> omega
  · rw [if_neg h]
    refine ⟨_, _, _, rfl, ?_, ?_, by constructor <;> omega⟩ <;> rw [mask8] <;> omega
theorem below_ok (c : List Int) (hc : c.length ≤ 1048576) {p : Int} (hp : InRow c p) (s : Int) (n : Int) : ∃ r p' s', spec_l1Below.f c p s n = some (r, p', s') ∧ 0 ≤ r ∧ (0 < n → r < n) ∧ (n ≤ 0 → r = 0) ∧ InRow c p' := by
  unfold spec_l1Below.f
  by_cases h : n ≤ 0
  · rw [if_pos h]
    exact ⟨0, p, s, rfl, by omega, by omega, fun _ => rfl, hp⟩
  · rw [if_neg h]
    by_cases h2 : n ≤ 256
    · obtain ⟨b, p1, s1, e, b0, b1, hp1⟩ := byte_ok c hc hp s
      rw [if_pos h2, e, Option.bind_some, if_neg (by omega)]
      refine ⟨_, _, _, rfl, ?_, ?_, fun _ => by omega, hp1⟩ <;> rw [tm b0]
      · exact Int.emod_nonneg _ (by omega)
      · intro _; exact Int.emod_lt_of_pos _ (by omega)
    · obtain ⟨b, p1, s1, e, b0, b1, hp1⟩ := byte_ok c hc hp s
      obtain ⟨b', p2, s2, e2, b0', b1', hp2⟩ := byte_ok c hc hp1 s1
      obtain ⟨b'', p3, s3, e3, b0'', b1'', hp3⟩ := byte_ok c hc hp2 s2
      obtain ⟨b3, p4, s4, e4, b03, b13, hp4⟩ := byte_ok c hc hp3 s3
      rw [if_neg h2, e, Option.bind_some]
      dsimp only
      rw [e2, Option.bind_some]
      dsimp only
      rw [e3, Option.bind_some]
      dsimp only
      rw [e4, Option.bind_some, if_neg (by omega)]
      dsimp only
      rw [w64 (x := b * 16777216) (by omega) (by omega), w64 (x := b' * 65536) (by omega) (by omega), w64 (x := b'' * 256) (by omega) (by omega), w64 (x := b * 16777216 + b' * 65536) (by omega) (by omega), w64 (x := b * 16777216 + b' * 65536 + b'' * 256) (by omega) (by omega), w64 (by omega) (by omega), tm (by omega)]
      exact ⟨_, _, _, rfl, Int.emod_nonneg _ (by omega), fun _ => Int.emod_lt_of_pos _ (by omega), fun _ => by omega, hp4⟩
theorem pickI_ok (c : List Int) (hc : c.length ≤ 1048576) {p : Int} (hp : InRow c p) (s : Int) (l : List Int) (hl : 0 < l.length) : ∃ r p' s', spec_l1PickInt.f c p s l = some (r, p', s') ∧ r ∈ l ∧ InRow c p' := by
  obtain ⟨b, p1, s1, e, b0, b1, _, hp1⟩ := below_ok c hc hp s (l.length : Int)
  have := b1 (by omega)
  unfold spec_l1PickInt.f
  rw [e, Option.bind_some]
  dsimp only
  rw [if_pos b0, if_pos this]
  exact ⟨_, _, _, rfl, rd_mem b0 this, hp1⟩
/-! ### what is answered from some round on -/
def Ev {α : Type} (f : Nat → Option α) (v : α) : Prop := ∃ M, ∀ k, M < k → f k = some v
theorem Ev.of {α : Type} {f : Nat → Option α} {v : α} (h : ∀ k, f k = some v) : Ev f v := ⟨0, fun k _ => h k⟩
theorem Ev.succ {α : Type} {f : Nat → Option α} {v : α} (h : Ev (fun k => f (k + 1)) v) : Ev f v := by
  obtain ⟨M, h⟩ := h
  refine ⟨M + 1, fun k hk => ?_⟩
  obtain ⟨k, rfl⟩ := pos_round (show 0 < k by omega)
  exact h k (by omega)
theorem Ev.bind {α β : Type} {f : Nat → Option α} {g : Nat → α → Option β} {v : α} {w : β} (h1 : Ev f v) (h2 : Ev (fun k => g k v) w) : Ev (fun k => (f k).bind (g k)) w := by
  obtain ⟨M, h1⟩ := h1
  obtain ⟨N, h2⟩ := h2
  refine ⟨M + N, fun k hk => ?_⟩
  show (f k).bind (g k) = some w
  rw [h1 k (by omega)]
  exact h2 k (by omega)
theorem Ev.to {α : Type} {f g : Nat → Option α} {v : α} (h : Ev g v) (e : ∀ k, f k = g k) : Ev f v := by
  obtain ⟨M, h⟩ := h
  exact ⟨M, fun k hk => by rw [e k]; exact h k hk⟩
theorem Ev.get {α : Type} {f : Nat → Option α} {v : α} (h : Ev f v) : ∃ k, f k = some v := by
  obtain ⟨M, h⟩ := h
  exact ⟨M + 1, h _ (by omega)⟩
theorem getD_at {α : Type} {z : α} {l : List α} {i : Nat} (h : i < l.length) : l.getD i z = l[i] := by
  simp [List.getD_eq_getElem?_getD, List.getElem?_eq_getElem h]
/-- All of a list are right, told from its end. -/
theorem all_down {α : Type} (l : List α) (p : α → Bool) (L : Nat → Int → Option Bool) (b0 : Bool)
    (h : ∀ (i : Nat) (hi : i < l.length) (b : Bool), (p l[i] = true → Ev (fun k => L k ((i + 1 : Nat) : Int)) b) → Ev (fun k => L k (i : Int)) (p l[i] && b)) (d : Nat) :
    ∀ i : Nat, i ≤ l.length → l.length - i = d → ((l.drop i).all p = true → Ev (fun k => L k (l.length : Int)) b0) → Ev (fun k => L k (i : Int)) ((l.drop i).all p && b0) := by
  induction d with
  | zero =>
    intro i h1 hd hE
    obtain rfl : i = l.length := by omega
    rw [List.drop_eq_nil_of_le (Nat.le_refl _)] at hE ⊢
    exact hE rfl
  | succ d ih =>
    intro i h1 hd hE
    have hi : i < l.length := by omega
    rw [List.drop_eq_getElem_cons hi, List.all_cons, Bool.and_assoc]
    refine h i hi _ fun hp => ih (i + 1) (by omega) (by omega) fun ha => hE ?_
    rw [List.drop_eq_getElem_cons hi, List.all_cons, hp, ha]; rfl
theorem all_down0 {α : Type} (l : List α) (p : α → Bool) (L : Nat → Int → Option Bool) (b0 : Bool)
    (h : ∀ (i : Nat) (hi : i < l.length) (b : Bool), (p l[i] = true → Ev (fun k => L k ((i + 1 : Nat) : Int)) b) → Ev (fun k => L k (i : Int)) (p l[i] && b))
    (hE : l.all p = true → Ev (fun k => L k (l.length : Int)) b0) : Ev (fun k => L k 0) (l.all p && b0) := by
  have := all_down l p L b0 h l.length 0 (by omega) (by omega) (by simpa using hE)
  simpa using this
/-- A list is found whole, element by element. -/
theorem copy_up {α β : Type} (l : List α) (g : α → β) (L : Nat → List β → Int → Option (List β))
    (h : ∀ (i : Nat) (hi : i < l.length) (o : List β) (r : List β), o.length = l.length → Ev (fun k => L k (o.set i (g l[i])) ((i + 1 : Nat) : Int)) r → Ev (fun k => L k o (i : Int)) r)
    (hE : ∀ o, Ev (fun k => L k o (l.length : Int)) o) (d : Nat) :
    ∀ (i : Nat) (o : List β), i ≤ l.length → l.length - i = d → o.length = l.length → o.take i = (l.map g).take i → Ev (fun k => L k o (i : Int)) (l.map g) := by
  induction d with
  | zero =>
    intro i o h1 hd ho ht
    obtain rfl : i = l.length := by omega
    rw [List.take_of_length_le (by omega), List.take_of_length_le (by simp)] at ht
    rw [← ht]; exact hE o
  | succ d ih =>
    intro i o h1 hd ho ht
    have hi : i < l.length := by omega
    refine h i hi o _ ho (ih (i + 1) _ (by omega) (by omega) (by simpa using ho) ?_)
    rw [List.take_succ_eq_append_getElem (by simp; omega), List.take_succ_eq_append_getElem (by simp; omega), List.take_set_of_le (Nat.le_refl _), ht]
    simp
theorem copy_up0 {α β : Type} (l : List α) (g : α → β) (z : β) (L : Nat → List β → Int → Option (List β))
    (h : ∀ (i : Nat) (hi : i < l.length) (o : List β) (r : List β), o.length = l.length → Ev (fun k => L k (o.set i (g l[i])) ((i + 1 : Nat) : Int)) r → Ev (fun k => L k o (i : Int)) r)
    (hE : ∀ o, Ev (fun k => L k o (l.length : Int)) o) : Ev (fun k => L k (List.replicate l.length z) 0) (l.map g) := by
  have := copy_up l g L h hE l.length 0 (List.replicate l.length z) (by omega) (by omega) (by simp) (by simp)
  simpa using this
/-- Sizes that are taken off one after another. -/
theorem size_up {α : Type} (l : List α) (P : α → Int → Prop) (hP : ∀ x a b, a ≤ b → P x a → P x b) (L : Nat → Int → Int → Option Int)
    (h : ∀ (i : Nat) (hi : i < l.length) (a : Int), 0 ≤ a → a ≤ 1048576 → ∃ t, -1 ≤ t ∧ t ≤ a ∧ (0 ≤ t → P l[i] a) ∧ ∀ r, Ev (fun k => if t < 0 then some (-1) else L k t ((i + 1 : Nat) : Int)) r → Ev (fun k => L k a (i : Int)) r)
    (hE : ∀ a, Ev (fun k => L k a (l.length : Int)) a) (d : Nat) :
    ∀ (i : Nat) (a : Int), i ≤ l.length → l.length - i = d → 0 ≤ a → a ≤ 1048576 → ∃ t, -1 ≤ t ∧ t ≤ a ∧ (0 ≤ t → ∀ x ∈ l.drop i, P x a) ∧ Ev (fun k => L k a (i : Int)) t := by
  induction d with
  | zero =>
    intro i a h1 hd ha ha1
    obtain rfl : i = l.length := by omega
    exact ⟨a, by omega, by omega, fun _ x hx => (by rw [List.drop_eq_nil_of_le (Nat.le_refl _)] at hx; cases hx), hE a⟩
  | succ d ih =>
    intro i a h1 hd ha ha1
    have hi : i < l.length := by omega
    obtain ⟨t, t0, t1, t2, t3⟩ := h i hi a ha ha1
    by_cases c : t < 0
    · exact ⟨-1, by omega, by omega, fun h => by omega, t3 _ (by simp only [if_pos c]; exact Ev.of fun _ => rfl)⟩
    · obtain ⟨u, u0, u1, u2, u3⟩ := ih (i + 1) t (by omega) (by omega) (by omega) (by omega)
      refine ⟨u, u0, by omega, fun hu x hx => ?_, t3 _ (by simp only [if_neg c]; exact u3)⟩
      rw [List.drop_eq_getElem_cons hi] at hx
      rcases List.mem_cons.1 hx with rfl | hx
      · exact t2 (by omega)
      · exact hP _ _ _ t1 (u2 hu x hx)
/-- What is written, part by part. -/
def wl {α γ : Type} (w : Nat → α → List γ) : Nat → List α → List γ
  | _, [] => []
  | i, x :: l => w i x ++ wl w (i + 1) l
theorem wl_map {α γ δ : Type} (f : γ → δ) (w : Nat → α → List γ) (l : List α) : ∀ i, (wl w i l).map f = wl (fun i x => (w i x).map f) i l := by
  induction l with
  | nil => intro i; rfl
  | cons x l ih => intro i; simp only [wl, List.map_append, ih]
theorem wl_le {α γ : Type} (w : Nat → α → List γ) (c : Nat) (l : List α) (h : ∀ i, ∀ x ∈ l, (w i x).length ≤ c) : ∀ i, (wl w i l).length ≤ c * l.length := by
  induction l with
  | nil => intro i; simp [wl]
  | cons x l ih =>
    intro i
    have h1 := h i x (by simp)
    have h2 := ih (fun i y hy => h i y (by simp [hy])) (i + 1)
    simp only [wl, List.length_append, List.length_cons, Nat.mul_add, Nat.mul_one]
    omega
theorem cont {α γ β : Type} (l : List α) (w : Nat → α → List γ) (L : Nat → List γ → Int → Option β)
    (h : ∀ (i : Nat) (hi : i < l.length) (a : List γ) (r : β), (a ++ w i l[i]).length ≤ 1000000000 → Ev (fun k => L k (a ++ w i l[i]) ((i + 1 : Nat) : Int)) r → Ev (fun k => L k a (i : Int)) r) (d : Nat) :
    ∀ (i : Nat) (a : List γ) (r : β), i ≤ l.length → l.length - i = d → (a ++ wl w i (l.drop i)).length ≤ 1000000000 → Ev (fun k => L k (a ++ wl w i (l.drop i)) (l.length : Int)) r → Ev (fun k => L k a (i : Int)) r := by
  induction d with
  | zero =>
    intro i a r h1 hd hn hr
    obtain rfl : i = l.length := by omega
    rw [List.drop_eq_nil_of_le (Nat.le_refl _)] at hr
    simpa [wl] using hr
  | succ d ih =>
    intro i a r h1 hd hn hr
    have hi : i < l.length := by omega
    rw [List.drop_eq_getElem_cons hi] at hr hn
    simp only [wl, ← List.append_assoc] at hr hn
    exact h i hi a r (by rw [List.length_append] at hn; omega) (ih (i + 1) _ r (by omega) (by omega) hn hr)
theorem cont0 {α γ β : Type} (l : List α) (w : Nat → α → List γ) (L : Nat → List γ → Int → Option β) (a : List γ) (r : β)
    (h : ∀ (i : Nat) (hi : i < l.length) (a : List γ) (r : β), (a ++ w i l[i]).length ≤ 1000000000 → Ev (fun k => L k (a ++ w i l[i]) ((i + 1 : Nat) : Int)) r → Ev (fun k => L k a (i : Int)) r)
    (hn : (a ++ wl w 0 l).length ≤ 1000000000) (hr : Ev (fun k => L k (a ++ wl w 0 l) (l.length : Int)) r) : Ev (fun k => L k a 0) r := by
  have := cont l w L h l.length 0 a r (by omega) (by omega) (by simpa using hn) (by simpa using hr)
  simpa using this
theorem wn {i : Nat} (h : i < 9223372036854775807) : wrap64 ((i : Int) + 1) = ((i + 1 : Nat) : Int) := w64 (by omega) (by omega)
theorem T_nat {l : List S43} {i : Nat} (h : i < l.length) : rd_T43 l (i : Int) = l[i] := by simp [rd_T43, List.getD_eq_getElem?_getD, List.getElem?_eq_getElem h]
theorem R_nat {l : List Int} {i : Nat} (h : i < l.length) : rd l (i : Int) = l[i] := by simp [rd, List.getD_eq_getElem?_getD, List.getElem?_eq_getElem h]
theorem rd_set_eq {l : List Int} {i : Nat} {x : Int} (h : i < l.length) : rd (l.set i x) (i : Int) = x := by simp [rd, List.getD_eq_getElem?_getD, List.getElem?_set, h]
theorem rd_set_ne {l : List Int} {i j : Nat} {x : Int} (h : i ≠ j) : rd (l.set i x) (j : Int) = rd l (j : Int) := by simp [rd, List.getD_eq_getElem?_getD, List.getElem?_set, h]
def cb (l : List Bool) (i : Nat) : Bool := l.getD i false
theorem cb_rd (l : List Bool) (i : Nat) : rdOf false l (i : Int) = cb l i := by simp [rdOf, cb]
theorem cb_set_eq {l : List Bool} {i : Nat} {x : Bool} (h : i < l.length) : cb (l.set i x) i = x := by simp [cb, List.getD_eq_getElem?_getD, List.getElem?_set, h]
theorem cb_set_ne {l : List Bool} {i j : Nat} {x : Bool} (h : i ≠ j) : cb (l.set i x) j = cb l j := by simp [cb, List.getD_eq_getElem?_getD, List.getElem?_set, h]
/-! ### right spells -/
def OkS (l : List S43) : Prop := l.length ≤ 29 ∧ (∀ x ∈ l, 0 ≤ x.f0 ∧ x.f0 < x.f1 ∧ x.f1 ≤ 1000000) ∧ l.Pairwise (fun a b => a.f1 ≤ b.f0)
theorem in_yes (a lo hi : Int) (h0 : lo ≤ a) (h1 : a ≤ hi) : impl_in.f a lo hi = some true := by
  unfold impl_in.f; rw [if_pos h0, decide_eq_true h1]
theorem min_yes (a : Int) (h0 : 0 ≤ a) (h1 : a ≤ 100000000) : impl_minuteOk.f a = some true := by
  unfold impl_minuteOk.f; rw [in_yes a 0 100000000 h0 h1, Option.bind_some]
theorem spells_ok (l : List S43) (h : OkS l) : Ev (fun k => impl_SpellsOk.f k l) true := by
  obtain ⟨hn, hx, hp⟩ := h
  have h0 := all_down0 l (fun _ => true) (fun k i => impl_SpellsOk.l0 k l l (l.length : Int) i) true ?_ ?_
  · rw [show (l.all fun _ => true) = true from List.all_eq_true.2 fun _ _ => rfl] at h0
    refine h0.to fun k => ?_
    unfold impl_SpellsOk.f
    rw [if_neg (by omega)]
  · intro i hi b hb
    obtain ⟨x0, x1, x2⟩ := hx _ (List.getElem_mem hi)
    refine Ev.succ ((show Ev (fun k => impl_SpellsOk.l0 k l l (l.length : Int) ((i + 1 : Nat) : Int)) (true && b) by simpa using hb rfl).to fun k => ?_)
    simp only [impl_SpellsOk.l0]
    rw [if_pos (by omega), if_pos (by omega), if_pos (by omega), T_nat hi, min_yes _ x0 (by omega), Option.bind_some, if_pos rfl, min_yes _ (by omega) (by omega), Option.bind_some, if_pos rfl, if_neg (by omega), wn (by omega)]
    by_cases c : i = 0
    · rw [if_neg (by omega)]
    · have hi1 : i - 1 < l.length := by omega
      have hle := List.pairwise_iff_getElem.1 hp (i - 1) i hi1 hi (by omega)
      rw [if_pos (by omega), show wrap64 ((i : Int) - 1) = ((i - 1 : Nat) : Int) by rw [w64 (by omega) (by omega)]; omega, if_pos (by omega), if_pos (by omega), T_nat hi1, if_neg (by omega)]
  · intro _
    refine Ev.succ (Ev.of fun k => ?_)
    simp only [impl_SpellsOk.l0]
    rw [if_neg (by omega)]
theorem OkS.sub {l l' : List S43} (h : OkS l) (hs : l'.Sublist l) : OkS l' := ⟨Nat.le_trans hs.length_le h.1, fun x hx => h.2.1 x (hs.subset hx), h.2.2.sublist hs⟩
/-! ### the work within two minutes -/
def wk1 (a b : Int) (x : S43) : Int := mx 0 (mn b x.f1 - mx a x.f0)
def wks (a b : Int) : List S43 → Int
  | [] => 0
  | x :: l => wk1 a b x + wks a b l
theorem wk1_range {a b : Int} (ha : 0 ≤ a) (hb : b ≤ 100000000) (x : S43) : 0 ≤ wk1 a b x ∧ (0 ≤ x.f0 → wk1 a b x ≤ 100000000) := by
  unfold wk1 mx mn
  refine ⟨?_, fun h => ?_⟩ <;> (repeat' split) <;> omega
theorem work_loop (a b : Int) (ha : 0 ≤ a) (ha1 : a ≤ 100000000) (hb0 : 0 ≤ b) (hb : b ≤ 100000000) (l : List S43) (hn : l.length ≤ 29) (hx : ∀ x ∈ l, 0 ≤ x.f0 ∧ x.f0 < x.f1 ∧ x.f1 ≤ 1000000) (d : Nat) : ∀ (i : Nat) (acc : Int), i ≤ l.length → l.length - i = d → 0 ≤ acc → acc ≤ 100000000 * i → Ev (fun k => impl_WorkIn.l0 k a b acc l (l.length : Int) (i : Int)) (acc + wks a b (l.drop i)) := by
  induction d with
  | zero =>
    intro i acc hi hd h0 h1
    obtain rfl : i = l.length := by omega
    refine Ev.succ (Ev.of fun k => ?_)
    simp only [impl_WorkIn.l0]
    rw [if_neg (by omega), List.drop_eq_nil_of_le (Nat.le_refl _), wks, Int.add_zero]
  | succ d ih =>
    intro i acc hi hd h0 h1
    have hil : i < l.length := by omega
    obtain ⟨x0, x1, x2⟩ := hx _ (List.getElem_mem hil)
    obtain ⟨r0, r1⟩ := wk1_range ha hb l[i]
    have r1 := r1 x0
    have h := ih (i + 1) (acc + wk1 a b l[i]) (by omega) (by omega) (by omega) (by omega)
    rw [Int.add_assoc] at h
    rw [List.drop_eq_getElem_cons hil]
    refine Ev.succ (h.to fun k => ?_)
    have e : wrap64 (mn b l[i].f1 - mx a l[i].f0) = mn b l[i].f1 - mx a l[i].f0 := by
      apply w64 <;> unfold mn mx <;> (repeat' split) <;> omega
    simp only [impl_WorkIn.l0]
    rw [if_pos (by omega), if_pos (by omega), if_pos (by omega), T_nat hil, e, wn (by omega)]
    rw [show mx 0 (mn b l[i].f1 - mx a l[i].f0) = wk1 a b l[i] from rfl, w64 (by omega) (by omega)]
theorem work_ok (a b : Int) (ha : 0 ≤ a) (hab : a ≤ b) (hb : b ≤ 100000000) (l : List S43) (h : OkS l) : Ev (fun k => impl_WorkIn.f k l a b) (wks a b l) := by
  refine Ev.to (g := fun k => (impl_SpellsOk.f k l).bind fun t166 => impl_WorkIn.j0 k l a b (!t166)) (Ev.bind (spells_ok l h) (Ev.succ ?_)) fun k => ?_
  · have := work_loop a b ha (by omega) (by omega) hb l h.1 h.2.1 l.length 0 0 (by omega) (by omega) (by omega) (by omega)
    refine (show Ev (fun k => impl_WorkIn.l0 k a b 0 l (l.length : Int) 0) (wks a b l) by simpa using this).to fun k => ?_
    simp only [impl_WorkIn.j0]
    rw [if_neg (by decide)]
  · unfold impl_WorkIn.f
    rw [min_yes a ha (by omega), Option.bind_some, if_pos rfl, min_yes b (by omega) hb, Option.bind_some, if_pos rfl, if_neg (by omega)]
theorem wks_parts (m : Int) (h0 : 0 ≤ m) (h1 : m ≤ 20000) (l : List S43) (hx : ∀ x ∈ l, 0 ≤ x.f0 ∧ x.f0 < x.f1 ∧ x.f1 ≤ 1000000) : wks 0 m l + wks m 20000 l = wks 0 20000 l := by
  induction l with
  | nil => rfl
  | cons x l ih =>
    obtain ⟨x0, x1, x2⟩ := hx x (by simp)
    have := ih fun y hy => hx y (by simp [hy])
    have : wk1 0 m x + wk1 m 20000 x = wk1 0 20000 x := by unfold wk1 mx mn; (repeat' split) <;> omega
    simp only [wks]
    omega
theorem wks_le (a b : Int) (ha : 0 ≤ a) (hb : b ≤ 100000000) (l : List S43) (hx : ∀ x ∈ l, 0 ≤ x.f0 ∧ x.f0 < x.f1 ∧ x.f1 ≤ 1000000) : 0 ≤ wks a b l ∧ wks a b l ≤ 100000000 * l.length := by
  induction l with
  | nil => simp [wks]
  | cons x l ih =>
    obtain ⟨x0, x1, x2⟩ := hx x (by simp)
    have := ih fun y hy => hx y (by simp [hy])
    obtain ⟨r0, r1⟩ := wk1_range ha hb x
    have := r1 x0
    simp only [wks, List.length_cons]
    omega
def len1 : List S43 → Int
  | [] => 0
  | x :: l => (x.f1 - x.f0) + len1 l
theorem wks_all (l : List S43) (hx : ∀ x ∈ l, 0 ≤ x.f0 ∧ x.f0 < x.f1 ∧ x.f1 ≤ 1000000) : wks 0 100000000 l = len1 l := by
  induction l with
  | nil => rfl
  | cons x l ih =>
    obtain ⟨x0, x1, x2⟩ := hx x (by simp)
    have := ih fun y hy => hx y (by simp [hy])
    have : wk1 0 100000000 x = x.f1 - x.f0 := by unfold wk1 mx mn; (repeat' split) <;> omega
    simp only [wks, len1]
    omega
/-! ### the day's table -/
def At (l : List S43) (m : Nat) : Prop := ∃ s ∈ l, s.f0 ≤ (m : Int) ∧ (m : Int) < s.f1
theorem paint1 (u : Int) (W : List Int) (l : List S43) (j : Nat) (s : S43) (hs0 : 0 ≤ s.f0) (hs1 : s.f0 < s.f1) (hs2 : s.f1 ≤ 30000) (hj : j < 100) (d : Nat) : ∀ (i : Nat) (B : List Bool), s.f0 ≤ (i : Int) → (i : Int) ≤ s.f1 → s.f1 - i = d → B.length = 30000 →
    ∃ B' : List Bool, B'.length = 30000 ∧ (∀ m : Nat, cb B' m = true ↔ (cb B m = true ∨ ((i : Int) ≤ (m : Int) ∧ (m : Int) < s.f1))) ∧ ∀ r, Ev (fun k => impl_RestCode.l0 k u W B' l (l.length : Int) ((j + 1 : Nat) : Int)) r → Ev (fun k => impl_RestCode.l1 k u W B (i : Int) l (l.length : Int) (j : Int) s.f0 s.f1) r := by
  induction d with
  | zero =>
    intro i B h0 h1 hd hB
    refine ⟨B, hB, fun m => ⟨fun h => .inl h, fun h => h.elim id fun h => absurd h (by omega)⟩, fun r hr => Ev.succ (hr.to fun k => ?_)⟩
    simp only [impl_RestCode.l1]
    rw [if_neg (by omega), wn (by omega)]
  | succ d ih =>
    intro i B h0 h1 hd hB
    obtain ⟨B', a1, a2, a3⟩ := ih (i + 1) (B.set i true) (by omega) (by omega) (by omega) (by simpa using hB)
    refine ⟨B', a1, fun m => (a2 m).trans ?_, fun r hr => Ev.succ ((a3 r hr).to fun k => ?_)⟩
    · by_cases e : i = m
      · subst e
        rw [cb_set_eq (by omega)]
        exact ⟨fun _ => .inr ⟨by omega, by omega⟩, fun _ => .inl rfl⟩
      · rw [cb_set_ne e]
        exact ⟨fun h => h.elim .inl fun h => .inr ⟨by omega, h.2⟩, fun h => h.elim .inl fun h => .inr ⟨by omega, h.2⟩⟩
    · simp only [impl_RestCode.l1, Int.toNat_natCast]
      rw [if_pos (by omega), if_pos (by omega), if_pos (by omega), wn (by omega)]
theorem paint (u : Int) (W : List Int) (l : List S43) (hn : l.length ≤ 29) (hx : ∀ x ∈ l, 0 ≤ x.f0 ∧ x.f0 < x.f1 ∧ x.f1 ≤ 30000) (d : Nat) : ∀ (j : Nat) (B : List Bool), j ≤ l.length → l.length - j = d → B.length = 30000 →
    ∃ B' : List Bool, B'.length = 30000 ∧ (∀ m : Nat, cb B' m = true ↔ (cb B m = true ∨ At (l.drop j) m)) ∧ ∀ r, Ev (fun k => impl_RestCode.l2 k u W B' (List.replicate 30001 0) 0) r → Ev (fun k => impl_RestCode.l0 k u W B l (l.length : Int) (j : Int)) r := by
  induction d with
  | zero =>
    intro j B hj hd hB
    obtain rfl : j = l.length := by omega
    refine ⟨B, hB, fun m => ⟨fun h => .inl h, fun h => h.elim id fun ⟨s, hs, _⟩ => by rw [List.drop_eq_nil_of_le (Nat.le_refl _)] at hs; cases hs⟩, fun r hr => Ev.succ (hr.to fun k => ?_)⟩
    simp only [impl_RestCode.l0]
    rw [if_neg (by omega), if_pos (by omega)]
  | succ d ih =>
    intro j B hj hd hB
    have hjl : j < l.length := by omega
    obtain ⟨x0, x1, x2⟩ := hx _ (List.getElem_mem hjl)
    obtain ⟨f, hf⟩ : ∃ f : Nat, l[j].f0 = (f : Int) := ⟨l[j].f0.toNat, by omega⟩
    obtain ⟨B1, a1, a2, a3⟩ := paint1 u W l j l[j] x0 x1 x2 (by omega) (l[j].f1 - f).toNat f B (by omega) (by omega) (by omega) hB
    obtain ⟨B2, b1, b2, b3⟩ := ih (j + 1) B1 (by omega) (by omega) a1
    refine ⟨B2, b1, fun m => (b2 m).trans ?_, fun r hr => Ev.succ ((a3 r (b3 r hr)).to fun k => ?_)⟩
    · rw [a2 m, List.drop_eq_getElem_cons hjl]
      refine ⟨fun h => ?_, fun h => ?_⟩
      · rcases h with (h | h) | ⟨s, h1, h2⟩
        · exact .inl h
        · exact .inr ⟨l[j], List.mem_cons_self, by omega, h.2⟩
        · exact .inr ⟨s, List.mem_cons_of_mem _ h1, h2⟩
      · rcases h with h | ⟨s, h1, h2⟩
        · exact .inl (.inl h)
        · rcases List.mem_cons.1 h1 with rfl | h1
          · exact .inl (.inr ⟨by omega, h2.2⟩)
          · exact .inr ⟨s, h1, h2⟩
    · simp only [impl_RestCode.l0]
      rw [if_pos (by omega), if_pos (by omega), if_pos (by omega), T_nat hjl, hf]
def wkB (B : List Bool) : Nat → Int
  | 0 => 0
  | m + 1 => wkB B m + (if cb B m = true then 1 else 0)
def frB (B : List Bool) : Nat → Int
  | 0 => 0
  | m + 1 => if cb B m = true then 0 else frB B m + 1
theorem wkB_range (B : List Bool) (m : Nat) : 0 ≤ wkB B m ∧ wkB B m ≤ m := by
  induction m with
  | zero => simp [wkB]
  | succ m ih => simp only [wkB]; split <;> omega
theorem frB_range (B : List Bool) (m : Nat) : 0 ≤ frB B m ∧ frB B m ≤ m := by
  induction m with
  | zero => simp [frB]
  | succ m ih => simp only [frB]; split <;> omega
theorem table (u : Int) (B : List Bool) (hB : B.length = 30000) (d : Nat) : ∀ (m : Nat) (W R : List Int), m ≤ 30000 → 30000 - m = d → W.length = 30001 → R.length = 30001 → (∀ i : Nat, i ≤ m → rd W (i : Int) = wkB B i ∧ rd R (i : Int) = frB B i) →
    ∃ W' R' : List Int, W'.length = 30001 ∧ R'.length = 30001 ∧ (∀ i : Nat, i ≤ 30000 → rd W' (i : Int) = wkB B i ∧ rd R' (i : Int) = frB B i) ∧ ∀ r, Ev (fun k => impl_RestCode.l3 k u W' R' 1440) r → Ev (fun k => impl_RestCode.l2 k u W B R (m : Int)) r := by
  induction d with
  | zero =>
    intro m W R hm hd hW hR h
    obtain rfl : m = 30000 := by omega
    refine ⟨W, R, hW, hR, h, fun r hr => Ev.succ (hr.to fun k => ?_)⟩
    simp only [impl_RestCode.l2]
    rw [if_neg (by omega)]
  | succ d ih =>
    intro m W R hm hd hW hR h
    obtain ⟨hw, hf⟩ := h m (Nat.le_refl _)
    have rw_ := wkB_range B m
    have rf_ := frB_range B m
    have step : ∀ W2 R2 : List Int, W2.length = 30001 → R2.length = 30001 → (∀ i : Nat, i ≤ m + 1 → rd W2 (i : Int) = wkB B i ∧ rd R2 (i : Int) = frB B i) → (∀ k, impl_RestCode.j4 (k + 1) u (W.set (m + 1) (wkB B m)) B (R.set (m + 1) (frB B m + 1)) (m : Int) (m : Int) = impl_RestCode.l2 k u W2 B R2 ((m + 1 : Nat) : Int)) →
        ∃ W' R' : List Int, W'.length = 30001 ∧ R'.length = 30001 ∧ (∀ i : Nat, i ≤ 30000 → rd W' (i : Int) = wkB B i ∧ rd R' (i : Int) = frB B i) ∧ ∀ r, Ev (fun k => impl_RestCode.l3 k u W' R' 1440) r → Ev (fun k => impl_RestCode.l2 k u W B R (m : Int)) r := by
      intro W2 R2 h1 h2 h3 h4
      obtain ⟨W', R', a1, a2, a3, a4⟩ := ih (m + 1) W2 R2 (by omega) (by omega) h1 h2 h3
      refine ⟨W', R', a1, a2, a3, fun r hr => Ev.succ (Ev.to (g := fun k => impl_RestCode.j4 k u (W.set (m + 1) (wkB B m)) B (R.set (m + 1) (frB B m + 1)) (m : Int) (m : Int)) (Ev.succ ((a4 r hr).to h4)) fun k => ?_)⟩
      simp only [impl_RestCode.l2]
      rw [if_pos (by omega), if_pos (by omega), if_pos (by omega), if_pos (by omega), wn (by omega), if_pos (by omega), if_pos (by omega), if_pos (by omega), hw, hf, w64 (x := frB B m + 1) (by omega) (by omega), Int.toNat_natCast]
    cases hc : cb B m with
    | true =>
      refine step ((W.set (m + 1) (wkB B m)).set (m + 1) (wkB B m + 1)) ((R.set (m + 1) (frB B m + 1)).set (m + 1) 0) (by simpa using hW) (by simpa using hR) (fun i hi => ?_) fun k => ?_
      · by_cases e : i = m + 1
        · subst e
          rw [rd_set_eq (by simp; omega), rd_set_eq (by simp; omega)]
          simp [wkB, frB, hc]
        · rw [rd_set_ne (Ne.symm e), rd_set_ne (Ne.symm e), rd_set_ne (Ne.symm e), rd_set_ne (Ne.symm e)]
          exact h i (by omega)
      · simp only [impl_RestCode.j4, List.length_set]
        rw [if_pos (by omega), if_pos (by omega), cb_rd, hc, if_pos rfl, if_pos (by omega), wn (by omega), if_pos (by omega), if_pos (by omega), if_pos (by omega), rd_set_ne (by omega), hw, w64 (x := wkB B m + 1) (by omega) (by omega), Int.toNat_natCast]
    | false =>
      refine step (W.set (m + 1) (wkB B m)) (R.set (m + 1) (frB B m + 1)) (by simpa using hW) (by simpa using hR) (fun i hi => ?_) fun k => ?_
      · by_cases e : i = m + 1
        · subst e
          rw [rd_set_eq (by omega), rd_set_eq (by omega)]
          simp [wkB, frB, hc]
        · rw [rd_set_ne (Ne.symm e), rd_set_ne (Ne.symm e)]
          exact h i (by omega)
      · simp only [impl_RestCode.j4, List.length_set]
        rw [if_pos (by omega), if_pos (by omega), cb_rd, hc, if_neg (by decide), wn (by omega)]
/-! ### the first fault -/
def Rests (B : List Bool) (t : Nat) : Prop := ∃ m : Nat, t ≤ m + 1080 ∧ m ≤ t ∧ 360 ≤ frB B m
def Fa (B : List Bool) (t : Nat) : Prop := 840 < wkB B t - wkB B (t - 1440) ∨ ¬ Rests B t
theorem rests_ok (u : Int) (B : List Bool) (W R : List Int) (hW : W.length = 30001) (hR : R.length = 30001) (h : ∀ i : Nat, i ≤ 30000 → rd W (i : Int) = wkB B i ∧ rd R (i : Int) = frB B i) (t : Nat) (ht : t ≤ 5000) (d : Nat) : ∀ (m : Nat) (b : Bool), m ≤ t + 1 → t + 1 - m = d →
    ∃ b' : Bool, (b' = true ↔ (b = true ∨ ∃ m' : Nat, m ≤ m' ∧ m' ≤ t ∧ 360 ≤ frB B m')) ∧ ∀ r, Ev (fun k => if b' = true then impl_RestCode.l3 k u W R ((t + 1 : Nat) : Int) else some (4, (t : Int))) r → Ev (fun k => impl_RestCode.l4 k u W R (t : Int) b (m : Int)) r := by
  induction d with
  | zero =>
    intro m b hm hd
    obtain rfl : m = t + 1 := by omega
    refine ⟨b, ⟨fun h => .inl h, fun h => h.elim id fun ⟨m', h1, h2, _⟩ => absurd h1 (by omega)⟩, fun r hr => Ev.succ (hr.to fun k => ?_)⟩
    simp only [impl_RestCode.l4]
    rw [if_neg (by omega), wn (by omega)]
  | succ d ih =>
    intro m b hm hd
    cases b with
    | true =>
      refine ⟨true, ⟨fun _ => .inl rfl, fun _ => rfl⟩, fun r hr => Ev.succ ((show Ev (fun k => impl_RestCode.l3 k u W R ((t + 1 : Nat) : Int)) r by simpa using hr).to fun k => ?_)⟩
      simp only [impl_RestCode.l4]
      rw [if_pos (by omega), if_pos trivial, wn (by omega)]
    | false =>
      obtain ⟨b', a1, a2⟩ := ih (m + 1) (decide (rd R (m : Int) ≥ 360)) (by omega) (by omega)
      have hm2 := (h m (by omega)).2
      refine ⟨b', a1.trans ⟨fun hh => ?_, fun hh => ?_⟩, fun r hr => Ev.succ ((a2 r hr).to fun k => ?_)⟩
      · rcases hh with hh | ⟨m', h1, h2⟩
        · rw [hm2, decide_eq_true_eq] at hh
          exact .inr ⟨m, Nat.le_refl _, by omega, hh⟩
        · exact .inr ⟨m', by omega, h2⟩
      · rcases hh with hh | ⟨m', h1, h2, h3⟩
        · cases hh
        · by_cases e : m' = m
          · subst e
            exact .inl (by rw [hm2, decide_eq_true_eq]; exact h3)
          · exact .inr ⟨m', by omega, h2, h3⟩
      · simp only [impl_RestCode.l4]
        rw [if_pos (by omega), if_neg (by decide), if_pos (by omega), if_pos (by omega), wn (by omega)]
def FirstF (B : List Bool) (a u : Nat) (v : Int × Int) : Prop := (v.1 = 0 ∧ v.2 = -1 ∧ ∀ t : Nat, a ≤ t → t ≤ u → ¬ Fa B t) ∨ (v.1 ≠ 0 ∧ v.1 ≠ 1 ∧ ∃ t : Nat, v.2 = (t : Int) ∧ a ≤ t ∧ t ≤ u ∧ Fa B t ∧ ∀ t' : Nat, a ≤ t' → t' < t → ¬ Fa B t')
theorem faults (u : Nat) (hu : u ≤ 4500) (B : List Bool) (W R : List Int) (hW : W.length = 30001) (hR : R.length = 30001) (h : ∀ i : Nat, i ≤ 30000 → rd W (i : Int) = wkB B i ∧ rd R (i : Int) = frB B i) (d : Nat) : ∀ t : Nat, 1440 ≤ t → t ≤ u + 1 → u + 1 - t = d →
    ∃ v : Int × Int, FirstF B t u v ∧ Ev (fun k => impl_RestCode.l3 k (u : Int) W R (t : Int)) v := by
  induction d with
  | zero =>
    intro t h0 h1 hd
    refine ⟨(0, -1), .inl ⟨rfl, rfl, fun t' h2 h3 => absurd h3 (by omega)⟩, Ev.succ (Ev.of fun k => ?_)⟩
    simp only [impl_RestCode.l3]
    rw [if_neg (by omega)]
  | succ d ih =>
    intro t h0 h1 hd
    have hw1 := (h t (by omega)).1
    have hw2 := (h (t - 1440) (by omega)).1
    have r1 := wkB_range B t
    have r2 := wkB_range B (t - 1440)
    have e1 : wrap64 ((t : Int) - 1440) = ((t - 1440 : Nat) : Int) := by rw [w64 (by omega) (by omega)]; omega
    by_cases c : 840 < wkB B t - wkB B (t - 1440)
    · refine ⟨(2, (t : Int)), .inr ⟨show (2 : Int) ≠ 0 by decide, show (2 : Int) ≠ 1 by decide, t, rfl, Nat.le_refl _, by omega, .inl c, fun t' h2 h3 => absurd h3 (by omega)⟩, Ev.succ (Ev.of fun k => ?_)⟩
      simp only [impl_RestCode.l3]
      rw [if_pos (by omega), if_pos (by omega), if_pos (by omega), e1, if_pos (by omega), if_pos (by omega), hw1, hw2, w64 (by omega) (by omega), if_pos (by omega)]
    · obtain ⟨b', a1, a2⟩ := rests_ok (u : Int) B W R hW hR h t (by omega) _ (t - 1080) false (by omega) rfl
      have hb : b' = true ↔ Rests B t := a1.trans ⟨fun hh => hh.elim (fun hh => by cases hh) fun ⟨m, h1, h2, h3⟩ => ⟨m, by omega, h2, h3⟩, fun ⟨m, h1, h2, h3⟩ => .inr ⟨m, by omega, h2, h3⟩⟩
      have go : ∀ v, Ev (fun k => if b' = true then impl_RestCode.l3 k (u : Int) W R ((t + 1 : Nat) : Int) else some (4, (t : Int))) v → Ev (fun k => impl_RestCode.l3 k (u : Int) W R (t : Int)) v := by
        intro v hv
        refine Ev.succ (Ev.to (g := fun k => impl_RestCode.j6 k (u : Int) W R (t : Int)) (Ev.succ ((a2 v hv).to fun k => ?_)) fun k => ?_)
        · simp only [impl_RestCode.j6]
          rw [e1, show wrap64 (((t - 1440 : Nat) : Int) + 360) = ((t - 1080 : Nat) : Int) by rw [w64 (by omega) (by omega)]; omega]
        · simp only [impl_RestCode.l3]
          rw [if_pos (by omega), if_pos (by omega), if_pos (by omega), e1, if_pos (by omega), if_pos (by omega), hw1, hw2, w64 (by omega) (by omega), if_neg (by omega), if_neg (by omega)]
      cases hbv : b' with
      | false =>
        have hnr : ¬ Rests B t := fun hh => by rw [hb.2 hh] at hbv; cases hbv
        exact ⟨(4, (t : Int)), .inr ⟨show (4 : Int) ≠ 0 by decide, show (4 : Int) ≠ 1 by decide, t, rfl, Nat.le_refl _, by omega, .inr hnr, fun t' h2 h3 => absurd h3 (by omega)⟩, go _ (by rw [hbv]; exact Ev.of fun k => if_neg (by decide))⟩
      | true =>
        have hnf : ¬ Fa B t := fun hh => hh.elim c fun hh => hh (hb.1 hbv)
        obtain ⟨v, v1, v2⟩ := ih (t + 1) (by omega) (by omega) (by omega)
        refine ⟨v, ?_, go _ (by rw [hbv]; simpa using v2)⟩
        rcases v1 with ⟨x1, x2, x3⟩ | ⟨x1, x2, t2, x3, x4, x5, x6, x7⟩
        · exact .inl ⟨x1, x2, fun t' h2 h3 => by
            by_cases e : t' = t
            · subst e; exact hnf
            · exact x3 t' (by omega) h3⟩
        · exact .inr ⟨x1, x2, t2, x3, by omega, x5, x6, fun t' h2 h3 => by
            by_cases e : t' = t
            · subst e; exact hnf
            · exact x7 t' (by omega) h3⟩
theorem wk_mono (B B' : List Bool) (h : ∀ m, cb B' m = true → cb B m = true) (a b : Nat) (hab : a ≤ b) : wkB B' b - wkB B' a ≤ wkB B b - wkB B a := by
  induction b with
  | zero =>
    obtain rfl : a = 0 := by omega
    omega
  | succ b ih =>
    by_cases e : a = b + 1
    · subst e; omega
    · have := ih (by omega)
      simp only [wkB]
      by_cases c : cb B' b = true
      · rw [if_pos c, if_pos (h b c)]; omega
      · rw [if_neg c]; split <;> omega
theorem fr_mono (B B' : List Bool) (h : ∀ m, cb B' m = true → cb B m = true) (m : Nat) : frB B m ≤ frB B' m := by
  induction m with
  | zero => simp [frB]
  | succ m ih =>
    have := frB_range B' m
    simp only [frB]
    by_cases c : cb B' m = true
    · rw [if_pos c, if_pos (h m c)]; omega
    · rw [if_neg c]; split <;> omega
theorem fa_mono {B B' : List Bool} (h : ∀ m, cb B' m = true → cb B m = true) {t : Nat} (hf : Fa B' t) : Fa B t := by
  rcases hf with hf | hf
  · have := wk_mono B B' h (t - 1440) t (by omega)
    exact .inl (by omega)
  · exact .inr fun ⟨m, h1, h2, h3⟩ => hf ⟨m, h1, h2, by have := fr_mono B B' h m; omega⟩
theorem fa_none {B : List Bool} (h : ∀ m, cb B m = false) {t : Nat} (ht : 1440 ≤ t) : ¬ Fa B t := by
  have hw : ∀ m, wkB B m = 0 := by
    intro m
    induction m with
    | zero => rfl
    | succ m ih => simp [wkB, ih, h m]
  have hf : ∀ m, frB B m = m := by
    intro m
    induction m with
    | zero => rfl
    | succ m ih => simp [frB, ih, h m]
  rintro (h1 | h1)
  · rw [hw, hw] at h1; omega
  · exact h1 ⟨t, by omega, Nat.le_refl _, by rw [hf]; omega⟩
/-! ### the whole of RestCode -/
theorem contains_ok (l : List S43) (hn : l.length ≤ 29) : Ev (fun k => impl_Spell_at_impl_RestCode_1.f k l) (!l.all fun x => decide (x.f1 ≤ 30000)) := by
  have h0 := all_down0 l (fun x => decide (x.f1 ≤ 30000)) (fun k i => (impl_Spell_at_impl_RestCode_1_87.l0 k l (l.length : Int) i).bind fun t => some (decide (¬ t ≥ 0))) true ?_ ?_
  · obtain ⟨M, hM⟩ := h0
    refine ⟨M, fun k hk => ?_⟩
    have := hM k hk
    simp only [Bool.and_true] at this
    simp only [impl_Spell_at_impl_RestCode_1.f, impl_Spell_at_impl_RestCode_1_87.f]
    cases e : impl_Spell_at_impl_RestCode_1_87.l0 k l (l.length : Int) 0 with
    | none => rw [e] at this; cases this
    | some t =>
      rw [e] at this
      simp only [Option.bind_some, Option.some.injEq] at this ⊢
      rw [← this, decide_not, Bool.not_not]
  · intro i hi b hb
    refine Ev.succ (Ev.to (g := fun k => if l[i].f1 ≤ 30000 then (impl_Spell_at_impl_RestCode_1_87.l0 k l (l.length : Int) ((i + 1 : Nat) : Int)).bind fun t => some (decide (¬ t ≥ 0)) else some false) ?_ fun k => ?_)
    · by_cases c : l[i].f1 ≤ 30000
      · rw [decide_eq_true c]
        simp only [if_pos c, Bool.true_and]
        exact hb (decide_eq_true c)
      · rw [decide_eq_false c]
        exact Ev.of fun k => if_neg c
    · simp only [impl_Spell_at_impl_RestCode_1_87.l0, impl_RestCode_1.f]
      rw [if_pos (by omega), if_pos (by omega), if_pos (by omega), T_nat hi, wn (by omega), Option.bind_some]
      by_cases c : l[i].f1 ≤ 30000
      · rw [if_pos c, if_neg (by simpa using c)]
      · rw [if_neg c, if_pos (by simpa using c), Option.bind_some]
        simp
  · intro _
    refine Ev.succ (Ev.of fun k => ?_)
    simp only [impl_Spell_at_impl_RestCode_1_87.l0]
    rw [if_neg (by omega)]; rfl
theorem rest_bad (l : List S43) (h : OkS l) (u : Nat) (hu : u ≤ 4500) (hb : l.all (fun x => decide (x.f1 ≤ 30000)) = false) : Ev (fun k => impl_RestCode.f k l (u : Int)) (1, -1) := by
  refine Ev.bind (spells_ok l h) ?_
  simp only [if_true, in_yes (u : Int) 0 30000 (by omega) (by omega), Option.bind_some]
  refine Ev.bind (contains_ok l h.1) (Ev.succ (Ev.of fun k => ?_))
  rw [hb]
  simp only [impl_RestCode.j0]
  rw [if_pos (by decide)]
theorem rest_ok (l : List S43) (h : OkS l) (u : Nat) (hu : u ≤ 4500) (hu0 : 1440 ≤ u) (hb : ∀ x ∈ l, x.f1 ≤ 30000) : ∃ (B : List Bool) (v : Int × Int), (∀ m : Nat, cb B m = true ↔ At l m) ∧ FirstF B 1440 u v ∧ Ev (fun k => impl_RestCode.f k l (u : Int)) v := by
  obtain ⟨B, b1, b2, b3⟩ := paint (u : Int) (List.replicate 30001 0) l h.1 (fun x hx => ⟨(h.2.1 x hx).1, (h.2.1 x hx).2.1, hb x hx⟩) l.length 0 (List.replicate 30000 false) (by omega) (by omega) List.length_replicate
  obtain ⟨W, R, t1, t2, t3, t4⟩ := table (u : Int) B b1 30000 0 (List.replicate 30001 0) (List.replicate 30001 0) (by omega) (by omega) List.length_replicate List.length_replicate (fun i hi => by
    obtain rfl : i = 0 := by omega
    exact ⟨rfl, rfl⟩)
  obtain ⟨v, v1, v2⟩ := faults u hu B W R t1 t2 t3 _ 1440 (Nat.le_refl _) (by omega) rfl
  refine ⟨B, v, fun m => (b2 m).trans ⟨fun hh => hh.elim (fun hh => ?_) fun hh => by simpa using hh, fun hh => .inr (by simpa using hh)⟩, v1, Ev.bind (spells_ok l h) ?_⟩
  · unfold cb at hh
    rw [List.getD_eq_getElem?_getD, List.getElem?_replicate] at hh
    split at hh <;> cases hh
  · simp only [if_true, in_yes (u : Int) 0 30000 (by omega) (by omega), Option.bind_some]
    refine Ev.bind (contains_ok l h.1) (Ev.succ ((b3 v (t4 v v2)).to fun k => ?_))
    have ha : l.all (fun x => decide (x.f1 ≤ 30000)) = true := List.all_eq_true.2 fun x hx => decide_eq_true (hb x hx)
    rw [ha]
    simp only [impl_RestCode.j0]
    rw [if_neg (by decide), if_pos (by omega), if_pos (by omega)]
    rfl
/-! ### drawn spells -/
theorem draw_loop (c : List Int) (hc : c.length ≤ 1048576) (fr : Int) (hf0 : 0 < fr) (hf1 : fr ≤ 2500) (d : Nat) : ∀ (acc : List S43) (a : Int) (p s : Int), acc.length + d ≤ 29 → OkS acc → (∀ x ∈ acc, x.f1 ≤ a) → 0 ≤ a → a ≤ 300 + 3200 * acc.length → InRow c p →
    ∃ (l : List S43) (p' s' : Int), OkS l ∧ Ev (fun k => spec_l10DrawSpells.l0 k fr acc a (d : Int) c p s) (l, p', s') := by
  induction d with
  | zero =>
    intro acc a p s hn hA ha h0 h1 hp
    exact ⟨acc, p, s, hA, Ev.succ (Ev.of fun k => by simp only [spec_l10DrawSpells.l0]; rw [if_neg (by omega)])⟩
  | succ d ih =>
    intro acc a p s hn hA ha h0 h1 hp
    obtain ⟨r1, p1, s1, e1, l1, u1, _, hp1⟩ := below_ok c hc hp s 600
    obtain ⟨r2, p2, s2, e2, l2, u2, _, hp2⟩ := below_ok c hc hp1 s1 fr
    have u1 := u1 (by omega)
    have u2 := u2 hf0
    obtain ⟨l, p', s', x1, x2⟩ := ih (acc ++ [⟨a, a + 60 + r1⟩]) (a + 60 + r1 + r2) p2 s2 (by simp only [List.length_append, List.length_cons, List.length_nil]; omega)
      ⟨by simp only [List.length_append, List.length_cons, List.length_nil]; omega, fun x hx => by
        rcases List.mem_append.1 hx with hx | hx
        · exact hA.2.1 x hx
        · rw [List.mem_singleton.1 hx]; exact ⟨h0, by show a < a + 60 + r1; omega, by show a + 60 + r1 ≤ 1000000; have := hA.1; omega⟩, List.pairwise_append.2 ⟨hA.2.2, List.pairwise_singleton _ _, fun x hx y hy => by rw [List.mem_singleton.1 hy]; exact ha x hx⟩⟩
      (fun x hx => by
        rcases List.mem_append.1 hx with hx | hx
        · have := ha x hx; omega
        · rw [List.mem_singleton.1 hx]; show a + 60 + r1 ≤ _; omega) (by omega) (by simp only [List.length_append, List.length_cons, List.length_nil]; omega) hp2
    refine ⟨l, p', s', x1, Ev.succ (x2.to fun k => ?_)⟩
    simp only [spec_l10DrawSpells.l0]
    have hl : acc.length < 8796093022208 := by omega
    rw [if_pos (by omega), e1, Option.bind_some, if_pos hl, e2, Option.bind_some, w64 (x := a + 60) (by omega) (by omega), w64 (x := a + 60 + r1) (by omega) (by omega), w64 (x := a + 60 + r1 + r2) (by omega) (by omega), w64 (by omega) (by omega)]
    congr 1
    omega
theorem draw_ok (c : List Int) (hc : c.length ≤ 1048576) : ∃ l : List S43, OkS l ∧ Ev (fun k => spec_DrawSpells.f k c) l := by
  obtain ⟨r, hr⟩ := new_ok c hc
  obtain ⟨fr, p1, s1, e1, m1, hp1⟩ := pickI_ok c hc (p := 0) ⟨by omega, by omega⟩ r [600, 1200, 2500] (by decide)
  have hfr : 0 < fr ∧ fr ≤ 2500 := by
    simp only [List.mem_cons, List.not_mem_nil, or_false] at m1
    omega
  obtain ⟨a, p2, s2, e2, l2, u2, _, hp2⟩ := below_ok c hc hp1 s1 300
  obtain ⟨n, p3, s3, e3, l3, u3, _, hp3⟩ := below_ok c hc hp2 s2 30
  have u2 := u2 (by omega)
  have u3 := u3 (by omega)
  obtain ⟨m, rfl⟩ : ∃ m : Nat, n = (m : Int) := ⟨n.toNat, by omega⟩
  obtain ⟨l, p', s', x1, x2⟩ := draw_loop c hc fr hfr.1 hfr.2 m [] a p3 s3 (by simp; omega) ⟨by simp, fun x hx => (by cases hx), List.Pairwise.nil⟩ (fun x hx => (by cases hx)) l2 (by simp; omega) hp3
  refine ⟨l, x1, Ev.bind ⟨_, hr⟩ (Ev.bind (v := (fr, p1, s1)) (Ev.of fun k => e1) (Ev.bind (v := (l, p', s')) ?_ (Ev.of fun k => rfl)))⟩
  refine x2.to fun k => ?_
  simp only [spec_l10DrawSpells.f]
  rw [e2, Option.bind_some, e3, Option.bind_some]
theorem at_ok (c : List Int) (hc : c.length ≤ 1048576) (hb : ∀ x ∈ c, 0 ≤ x ∧ x ≤ 255) (i : Nat) (hi : i ≤ 10) : ∃ v : Nat, v ≤ 255 ∧ laws_at.f c (i : Int) = some (v : Int) := by
  unfold laws_at.f
  by_cases h : i < c.length
  · rw [if_pos (by omega), if_pos (by omega), R_nat h]
    have := hb _ (List.getElem_mem h)
    rw [w64 (by omega) (by omega)]
    exact ⟨c[i].toNat, by omega, by rw [Int.toNat_of_nonneg this.1]⟩
  · rw [if_neg (by omega), w64 (x := (i : Int) * 7) (by omega) (by omega), w64 (by omega) (by omega)]
    have h1 := Int.tmod_nonneg 256 (show (0 : Int) ≤ (i : Int) * 7 + (c.length : Int) by omega)
    have h2 := Int.tmod_lt_of_pos ((i : Int) * 7 + (c.length : Int)) (show (0 : Int) < 256 by decide)
    exact ⟨(Int.tmod ((i : Int) * 7 + (c.length : Int)) 256).toNat, by omega, by rw [Int.toNat_of_nonneg h1]⟩
theorem sum_loop (c : List Int) (l : List S43) (h : OkS l) (r : Bool) (hr : Ev (fun k => laws_FnRested.l0 k c l (len1 l) (l.length : Int)) r) (d : Nat) : ∀ (i : Nat) (acc : Int), i ≤ l.length → l.length - i = d → 0 ≤ acc → acc ≤ 1000000 * i → acc + len1 (l.drop i) = len1 l → Ev (fun k => laws_FnRested.l0 k c l acc (i : Int)) r := by
  induction d with
  | zero =>
    intro i acc hi hd h0 h1 he
    obtain rfl : i = l.length := by omega
    rw [List.drop_eq_nil_of_le (Nat.le_refl _)] at he
    simp only [len1, Int.add_zero] at he
    rw [he]; exact hr
  | succ d ih =>
    intro i acc hi hd h0 h1 he
    have hil : i < l.length := by omega
    obtain ⟨x0, x1, x2⟩ := h.2.1 _ (List.getElem_mem hil)
    have hn := h.1
    rw [List.drop_eq_getElem_cons hil] at he
    simp only [len1] at he
    refine Ev.succ ((ih (i + 1) (acc + l[i].f1 - l[i].f0) (by omega) (by omega) (by omega) (by omega) (by omega)).to fun k => ?_)
    simp only [laws_FnRested.l0]
    rw [if_pos (by omega), if_pos (by omega), T_nat hil, w64 (x := acc + l[i].f1) (by omega) (by omega), w64 (by omega) (by omega), wn (by omega)]
theorem last_small (l : List S43) (h : OkS l) (hn : 0 < l.length) (hl : l[l.length - 1].f1 ≤ 30000) : ∀ x ∈ l, x.f1 ≤ 30000 := by
  intro x hx
  obtain ⟨i, hi, rfl⟩ := List.getElem_of_mem hx
  by_cases e : i = l.length - 1
  · subst e; exact hl
  · have := List.pairwise_iff_getElem.1 h.2.2 i (l.length - 1) hi (by omega) (by omega)
    have := h.2.1 _ (List.getElem_mem (show l.length - 1 < l.length by omega))
    omega
theorem tail_ok (c : List Int) (hc : c.length ≤ 1048576) (hb : ∀ x ∈ c, 0 ≤ x ∧ x ≤ 255) (l : List S43) (h : OkS l) : Ev (fun k => laws_FnRested.l0 k c l (len1 l) (l.length : Int)) true := by
  obtain ⟨v2, v2l, h2⟩ := at_ok c hc hb 2 (by omega)
  obtain ⟨v3, v3l, h3⟩ := at_ok c hc hb 3 (by omega)
  have hn := h.1
  have hw := work_ok 0 100000000 (by omega) (by omega) (by omega) l h
  rw [wks_all l h.2.1] at hw
  have hu : wrap64 (1440 + (wrap64 ((v2 : Int) * 12))) = ((1440 + v2 * 12 : Nat) : Int) := by rw [w64 (x := (v2 : Int) * 12) (by omega) (by omega), w64 (by omega) (by omega)]; omega
  have body : ∀ (rest : Nat → Int × Int → Option Bool) (v : Int × Int), Ev (fun k => impl_RestCode.f k l ((1440 + v2 * 12 : Nat) : Int)) v → Ev (fun k => rest k v) true → Ev (fun k => (impl_WorkIn.f k l 0 100000000).bind fun t212 => (if t212 = len1 l then ((laws_at.f c 2).bind fun t213 => ((impl_RestCode.f k l (wrap64 (1440 + (wrap64 (t213 * 12))))).bind fun bt214 => rest k bt214)) else some false)) true := by
    intro rest v hv hr
    refine Ev.bind hw ?_
    simp only [if_true]
    refine Ev.to (g := fun k => (impl_RestCode.f k l ((1440 + v2 * 12 : Nat) : Int)).bind fun bt214 => rest k bt214) (Ev.bind hv hr) fun k => ?_
    rw [show ((2 : Nat) : Int) = 2 from rfl] at h2
    rw [h2, Option.bind_some, hu]
  by_cases h0 : l.length = 0
  · obtain rfl : l = [] := List.eq_nil_of_length_eq_zero h0
    obtain ⟨B, v, b1, b2, b3⟩ := rest_ok [] h (1440 + v2 * 12) (by omega) (by omega) (fun x hx => by cases hx)
    have hv : v.1 = 0 ∧ v.2 = -1 := by
      rcases b2 with ⟨x1, x2, _⟩ | ⟨_, _, t, _, x4, _, x6, _⟩
      · exact ⟨x1, x2⟩
      · exact absurd x6 (fa_none (fun m => by cases hm : cb B m with
          | false => rfl
          | true => obtain ⟨s, hs, _⟩ := (b1 m).1 hm; cases hs) x4)
    refine Ev.succ ((body (fun k bt214 => if (([] : List S43).length : Int) = 0 then (if bt214.1 = 0 then (some (bt214.2 == (-1))) else (some false)) else none) v b3 (Ev.of fun k => ?_)).to fun k => ?_)
    · rw [if_pos (by simp), if_pos hv.1, hv.2]; rfl
    · simp only [laws_FnRested.l0]
      rw [if_neg (by simp)]
      rfl
  · have hlast : rd_T43 l ((l.length : Int) - 1) = l[l.length - 1] := by
      rw [show (l.length : Int) - 1 = ((l.length - 1 : Nat) : Int) by omega]
      exact T_nat (by omega)
    have i1 : ¬ (l.length : Int) = 0 := by omega
    have i2 : (0 : Int) ≤ (l.length : Int) - 1 := by omega
    have i3 : (l.length : Int) - 1 < (l.length : Int) := by omega
    have hwl : wrap64 ((l.length : Int) - 1) = (l.length : Int) - 1 := w64 (by omega) (by omega)
    by_cases hb2 : 30000 < l[l.length - 1].f1
    · have hbad := rest_bad l h (1440 + v2 * 12) (by omega) (by
        rw [← Bool.not_eq_true, List.all_eq_true]
        intro ha
        have := ha _ (List.getElem_mem (show l.length - 1 < l.length by omega))
        simp only [decide_eq_true_eq] at this
        omega)
      refine Ev.succ ((body (fun k bt214 => some (bt214.1 == 1)) _ hbad (Ev.of fun k => rfl)).to fun k => ?_)
      simp only [laws_FnRested.l0, hwl, hlast, if_neg (show ¬ (l.length : Int) < (l.length : Int) by omega), if_neg i1, if_pos i2, if_pos i3, if_pos (show l[l.length - 1].f1 > 30000 from hb2)]
    · have hsm := last_small l h (by omega) (by omega)
      obtain ⟨B, v, b1, b2, b3⟩ := rest_ok l h (1440 + v2 * 12) (by omega) (by omega) hsm
      have hk0 : Int.tmod (v3 : Int) (l.length : Int) = ((v3 % l.length : Nat) : Int) := by rw [Int.tmod_eq_emod_of_nonneg (by omega)]; simp
      have hkl : v3 % l.length < l.length := Nat.mod_lt _ (by omega)
      have hsub : (l.take (v3 % l.length) ++ l.drop (v3 % l.length + 1)).Sublist l := by
        rw [← List.eraseIdx_eq_take_drop_succ]; exact List.eraseIdx_sublist _ _
      obtain ⟨B', v', c1, c2, c3⟩ := rest_ok _ (h.sub hsub) (1440 + v2 * 12) (by omega) (by omega) (fun x hx => hsm x (hsub.subset hx))
      have hmono : ∀ m, cb B' m = true → cb B m = true := fun m hm => by
        obtain ⟨s, hs, hs2⟩ := (c1 m).1 hm
        exact (b1 m).2 ⟨s, hsub.subset hs, hs2⟩
      refine Ev.succ ((body (fun k bt214 => (impl_RestCode.f k (l.take (v3 % l.length) ++ l.drop (v3 % l.length + 1)) ((1440 + v2 * 12 : Nat) : Int)).bind fun bt235 => (if bt214.1 = 0 then (if bt235.1 = 0 then (if bt235.2 = (-1) then (some (bt214.2 == (-1))) else (some false)) else (some false)) else (if bt214.2 ≥ 1440 then (if bt214.2 ≤ ((1440 + v2 * 12 : Nat) : Int) then (if bt235.1 = 0 then (some true) else (some (decide (bt235.2 ≥ bt214.2)))) else (some false)) else (some false)))) v b3 (Ev.bind c3 (Ev.of fun k => ?_))).to fun k => ?_)
      · rcases b2 with ⟨x1, x2, x3⟩ | ⟨x1, _, t, x3, x4, x5, x6, x7⟩
        · rcases c2 with ⟨y1, y2, _⟩ | ⟨_, _, t', _, y4, y5, y6, _⟩
          · rw [if_pos x1, if_pos y1, if_pos y2, x2]; rfl
          · exact absurd (fa_mono hmono y6) (x3 t' y4 y5)
        · rw [if_neg x1, x3, if_pos (by omega), if_pos (by omega)]
          rcases c2 with ⟨y1, _⟩ | ⟨y1, _, t', y3, y4, y5, y6, _⟩
          · rw [if_pos y1]
          · rw [if_neg y1, y3]
            have : ¬ t' < t := fun hlt => x7 t' y4 hlt (fa_mono hmono y6)
            rw [decide_eq_true (by omega)]
      · rw [show ((3 : Nat) : Int) = 3 from rfl] at h3
        rw [show ((2 : Nat) : Int) = 2 from rfl] at h2
        simp only [laws_FnRested.l0, hwl, hlast, if_neg (show ¬ (l.length : Int) < (l.length : Int) by omega), if_neg i1, if_pos i2, if_pos i3]
        simp only [if_neg (show ¬ l[l.length - 1].f1 > 30000 from hb2), h2, h3, Option.bind_some, hk0, hu, List.nil_append, List.length_nil, Nat.zero_add]
        rw [wn (by omega)]
        simp only [if_pos (show (0 : Int) ≤ ((v3 % l.length : Nat) : Int) by omega), if_pos (show ((v3 % l.length : Nat) : Int) ≤ (l.length : Int) by omega), if_pos (show (0 : Int) ≤ ((v3 % l.length + 1 : Nat) : Int) by omega), if_pos (show ((v3 % l.length + 1 : Nat) : Int) ≤ (l.length : Int) by omega), Int.toNat_natCast]
        have t1 : (l.take (v3 % l.length)).length < 8796093022208 := by rw [List.length_take]; omega
        have t2 : (l.take (v3 % l.length)).length + (l.drop (v3 % l.length + 1)).length < 8796093022208 := by rw [List.length_take, List.length_drop]; omega
        simp only [if_pos t1, if_pos t2]
theorem FnRested : laws_FnRested.Pure := by
  intro c _ _ hq
  apply Ev.get
  unfold laws_FnRested.f
  by_cases hc : c.length ≤ 1048576
  · have hb : ∀ x ∈ c, 0 ≤ x ∧ x ≤ 255 := fun x hx => by have := bytes_of hq x hx; omega
    obtain ⟨l, hl, hd⟩ := draw_ok c hc
    obtain ⟨v1, v1l, h1⟩ := at_ok c hc hb 1 (by omega)
    rw [show ((1 : Nat) : Int) = 1 from rfl] at h1
    have hm : wrap64 (200 + (wrap64 ((v1 : Int) * 20))) = 200 + (v1 : Int) * 20 := by rw [w64 (x := (v1 : Int) * 20) (by omega) (by omega), w64 (by omega) (by omega)]
    refine Ev.bind (v := false) (Ev.of fun k => by unfold laws_big.f; rw [decide_eq_false (by omega)]) ?_
    simp only [Bool.false_eq_true, if_false]
    refine Ev.bind hd (Ev.bind (spells_ok l hl) ?_)
    simp only [if_true]
    refine Ev.bind (v := (v1 : Int)) (Ev.of fun k => h1) ?_
    rw [hm]
    refine Ev.bind (work_ok _ _ (by omega) (by omega) (by omega) l hl) (Ev.bind (work_ok _ _ (by omega) (by omega) (by omega) l hl) (Ev.bind (work_ok _ _ (by omega) (by omega) (by omega) l hl) ?_))
    have e := wks_parts (200 + (v1 : Int) * 20) (by omega) (by omega) l hl.2.1
    have r1 := wks_le 0 20000 (by omega) (by omega) l hl.2.1
    have hn := hl.1
    rw [e, w64 (by omega) (by omega)]
    simp only [if_true]
    exact sum_loop c l hl true (tail_ok c hc hb l hl) l.length 0 0 (by omega) (by omega) (by omega) (by omega) (by simp)
  · refine Ev.bind (v := true) (Ev.of fun k => by unfold laws_big.f; rw [decide_eq_true (by omega)]) ?_
    simp only [if_true]
    exact Ev.of fun k => rfl

end Go.Proofs.Ytlphfhibnbhkfaa.Pure
