/- Two drawn parties, whatever of their posts is lost, have all of each other's messages once and in order in the end. -/
import Derived.Test.YtmglilikmbbidaaPFnPartiesx8
import Derived.Test.YtmglilikmbbidaaVPartiesKit
set_option linter.unusedVariables false
set_option linter.unusedSimpArgs false
namespace Go.Proofs.Ytmglilikmbbidaa.Pure
open Go.RowKit Go.Proofs.Ytmglilikmbbidaa.PFnParties Go.Proofs.YtmglilikmbbidaaW.PrintWords Go.Proofs.YtmglilikmbbidaaW.PrintLast Go.Proofs.YtmglilikmbbidaaW.PrintMore Go.Proofs.YtmglilikmbbidaaW.Kit

theorem mask_nat (x : Int) (i : Nat) (hi : i ≤ 62) : Go.bits .and .i64 x ((2 ^ i - 1 : Nat) : Int) = x % ((2 ^ i : Nat) : Int) := by
  have hp : 0 < 2 ^ i := Nat.two_pow_pos i
  have h62 : 2 ^ i ≤ 2 ^ 62 := Nat.pow_le_pow_right (by decide) hi
  have e62 : (2 : Nat) ^ 62 = 4611686018427387904 := by decide
  rw [e62] at h62
  have hm : (2 ^ i - 1) % 2 ^ 64 = 2 ^ i - 1 := Nat.mod_eq_of_lt (by have : (2:Nat)^64 = 18446744073709551616 := by decide
                                                                     omega)
  have hd : ((2 ^ i : Nat) : Int) ∣ 18446744073709551616 := by
    have : (2 : Nat) ^ i ∣ 2 ^ 64 := Nat.pow_dvd_pow 2 (by omega)
    have h2 : (2 : Nat) ^ 64 = 18446744073709551616 := by decide
    rw [h2] at this
    exact Int.natCast_dvd_natCast.2 this
  show IntKind.i64.wrap ((BitVec.ofInt 64 x &&& BitVec.ofInt 64 ((2 ^ i - 1 : Nat) : Int)).toNat : Int) = _
  rw [BitVec.toNat_and, BitVec.ofInt_natCast, BitVec.toNat_ofNat, hm, Nat.and_two_pow_sub_one_eq_mod, BitVec.toNat_ofInt, IntKind.wrap_i64]
  have hx : 0 ≤ x % 18446744073709551616 := Int.emod_nonneg _ (by decide)
  have e : (((x % ((2 ^ 64 : Nat) : Int)).toNat % 2 ^ i : Nat) : Int) = x % ((2 ^ i : Nat) : Int) := by
    rw [Int.natCast_emod, show (((2 ^ 64 : Nat) : Int)) = 18446744073709551616 by decide, Int.toNat_of_nonneg hx, Int.emod_emod_of_dvd _ hd]
  rw [e]
  have h1 := Int.emod_nonneg x (show ((2 ^ i : Nat) : Int) ≠ 0 by omega)
  have h2 := Int.emod_lt_of_pos x (show (0 : Int) < ((2 ^ i : Nat) : Int) by omega)
  generalize x % ((2 ^ i : Nat) : Int) = r at h1 h2 ⊢
  omega
theorem mask24 (x : Int) : Go.bits .and .i64 x 16777215 = x % 16777216 := mask_nat x 24 (by decide)
theorem mask16 (x : Int) : Go.bits .and .i64 x 65535 = x % 65536 := mask_nat x 16 (by decide)
theorem mask8 (x : Int) : Go.bits .and .i64 x 255 = x % 256 := mask_nat x 8 (by decide)
theorem mask30 (x : Int) : Go.bits .and .i64 x 1073741823 = x % 1073741824 := mask_nat x 30 (by decide)
/-! ### the drawn values: a place in the bytes that stays in its row, and values that stay in their range -/
/-- The cursor's place is in the row. -/
def InRow (c : List Int) (p : Int) : Prop := 0 ≤ p ∧ p ≤ (c.length : Int)
theorem new_loop (c : List Int) (hc : c.length ≤ 1048576) (d : Nat) : ∀ (s i : Int), 0 ≤ i → i ≤ 4000 → 4000 - i = d → ∃ r, ∀ k, d < k → spec_l1New.l0 k c s i = some (c, 0, r) := by
  induction d with
  | zero =>
    intro s i h0 h1 hd
    refine ⟨s, fun k hk => ?_⟩
    obtain ⟨k, rfl⟩ := pos_round (show 0 < k by omega)
    simp only [spec_l1New.l0]
    by_cases h : i < (c.length : Int)
    · rw [if_pos h, if_neg (by omega)]
    · rw [if_neg h]
  | succ d ih =>
    intro s i h0 h1 hd
    by_cases h : i < (c.length : Int)
    · obtain ⟨r, hr⟩ := ih (Go.bits .and .i64 (wrap64 ((wrap64 ((wrap64 (s * 131)) + (wrap64 (rd c i)))) + 7)) 1073741823) (i + 1) (by omega) (by omega) (by omega)
      refine ⟨r, fun k hk => ?_⟩
      obtain ⟨k, rfl⟩ := pos_round (show 0 < k by omega)
      simp only [spec_l1New.l0]
      rw [if_pos h, if_pos (by omega), if_pos h0, w64 (x := i + 1) (by omega) (by omega)]
      exact hr k (by omega)
    · refine ⟨s, fun k hk => ?_⟩
      obtain ⟨k, rfl⟩ := pos_round (show 0 < k by omega)
      simp only [spec_l1New.l0]
      rw [if_neg h]
theorem new_ok (c : List Int) (hc : c.length ≤ 1048576) : ∃ r, ∀ k, 4000 < k → spec_l1New.f k c = some (c, 0, r) := by
  obtain ⟨r, hr⟩ := new_loop c hc 4000 (wrap64 (59059 + (c.length : Int))) 0 (by omega) (by omega) (by omega)
  exact ⟨r, hr⟩
theorem byte_ok (c : List Int) (hc : c.length ≤ 1048576) {p : Int} (hp : InRow c p) (s : Int) : ∃ b p' s', spec_l1Byte.f c p s = some (b, p', s') ∧ 0 ≤ b ∧ b ≤ 255 ∧ InRow c p' := by
  unfold spec_l1Byte.f
  obtain ⟨h0, h1⟩ := hp
  by_cases h : p < (c.length : Int)
  · rw [if_pos h, if_pos h0, w64 (x := p + 1) (by omega) (by omega)]
    refine ⟨_, _, _, rfl, ?_, ?_, by constructor <;> omega⟩ <;> rw [mask8] <;> omega
  · rw [if_neg h]
    refine ⟨_, _, _, rfl, ?_, ?_, by constructor <;> omega⟩ <;> rw [mask8] <;> omega
theorem below_ok (c : List Int) (hc : c.length ≤ 1048576) {p : Int} (hp : InRow c p) (s : Int) (n : Int) : ∃ r p' s', spec_l1Below.f c p s n = some (r, p', s') ∧ 0 ≤ r ∧ (0 < n → r < n) ∧ (n ≤ 0 → r = 0) ∧ InRow c p' := by
  unfold spec_l1Below.f
  by_cases h : n ≤ 0
  · rw [if_pos h]
    exact ⟨0, p, s, rfl, by omega, by omega, fun _ => rfl, hp⟩
  · rw [if_neg h]
    by_cases h2 : n ≤ 256
    · obtain ⟨b, p1, s1, e, b0, b1, hp1⟩ := byte_ok c hc hp s
      rw [if_pos h2, e, Option.bind_some, if_neg (by omega)]
      refine ⟨_, _, _, rfl, ?_, ?_, fun _ => by omega, hp1⟩ <;> rw [tm b0]
      · exact Int.emod_nonneg _ (by omega)
      · intro _; exact Int.emod_lt_of_pos _ (by omega)
    · obtain ⟨b, p1, s1, e, b0, b1, hp1⟩ := byte_ok c hc hp s
      obtain ⟨b', p2, s2, e2, b0', b1', hp2⟩ := byte_ok c hc hp1 s1
      obtain ⟨b'', p3, s3, e3, b0'', b1'', hp3⟩ := byte_ok c hc hp2 s2
      obtain ⟨b3, p4, s4, e4, b03, b13, hp4⟩ := byte_ok c hc hp3 s3
      rw [if_neg h2, e, Option.bind_some]
      dsimp only
      rw [e2, Option.bind_some]
      dsimp only
      rw [e3, Option.bind_some]
      dsimp only
      rw [e4, Option.bind_some, if_neg (by omega)]
      dsimp only
      rw [w64 (x := b * 16777216) (by omega) (by omega), w64 (x := b' * 65536) (by omega) (by omega), w64 (x := b'' * 256) (by omega) (by omega), w64 (x := b * 16777216 + b' * 65536) (by omega) (by omega), w64 (x := b * 16777216 + b' * 65536 + b'' * 256) (by omega) (by omega), w64 (by omega) (by omega), tm (by omega)]
      exact ⟨_, _, _, rfl, Int.emod_nonneg _ (by omega), fun _ => Int.emod_lt_of_pos _ (by omega), fun _ => by omega, hp4⟩
theorem once_ok (c : List Int) (hc : c.length ≤ 1048576) {p : Int} (hp : InRow c p) (s : Int) (n : Int) : ∃ r p' s', spec_l1Once.f c p s n = some (r, p', s') ∧ InRow c p' := by
  obtain ⟨b, p1, s1, e, _, _, _, hp1⟩ := below_ok c hc hp s n
  unfold spec_l1Once.f
  rw [e, Option.bind_some]
  exact ⟨_, _, _, rfl, hp1⟩
/-! ### what is answered from some round on -/
def Ev {α : Type} (f : Nat → Option α) (v : α) : Prop := ∃ M, ∀ k, M < k → f k = some v
theorem Ev.of {α : Type} {f : Nat → Option α} {v : α} (h : ∀ k, f k = some v) : Ev f v := ⟨0, fun k _ => h k⟩
theorem Ev.succ {α : Type} {f : Nat → Option α} {v : α} (h : Ev (fun k => f (k + 1)) v) : Ev f v := by
  obtain ⟨M, h⟩ := h
  refine ⟨M + 1, fun k hk => ?_⟩
  obtain ⟨k, rfl⟩ := pos_round (show 0 < k by omega)
  exact h k (by omega)
theorem Ev.bind {α β : Type} {f : Nat → Option α} {g : Nat → α → Option β} {v : α} {w : β} (h1 : Ev f v) (h2 : Ev (fun k => g k v) w) : Ev (fun k => (f k).bind (g k)) w := by
  obtain ⟨M, h1⟩ := h1
  obtain ⟨N, h2⟩ := h2
  refine ⟨M + N, fun k hk => ?_⟩
  show (f k).bind (g k) = some w
  rw [h1 k (by omega)]
  exact h2 k (by omega)
theorem Ev.to {α : Type} {f g : Nat → Option α} {v : α} (h : Ev g v) (e : ∀ k, f k = g k) : Ev f v := by
  obtain ⟨M, h⟩ := h
  exact ⟨M, fun k hk => by rw [e k]; exact h k hk⟩
theorem Ev.get {α : Type} {f : Nat → Option α} {v : α} (h : Ev f v) : ∃ k, f k = some v := by
  obtain ⟨M, h⟩ := h
  exact ⟨M + 1, h _ (by omega)⟩
theorem getD_at {α : Type} {z : α} {l : List α} {i : Nat} (h : i < l.length) : l.getD i z = l[i] := by
  simp [List.getD_eq_getElem?_getD, List.getElem?_eq_getElem h]
/-- All of a list are right, told from its end. -/
theorem all_down {α : Type} (l : List α) (p : α → Bool) (L : Nat → Int → Option Bool) (b0 : Bool)
    (h : ∀ (i : Nat) (hi : i < l.length) (b : Bool), (p l[i] = true → Ev (fun k => L k ((i + 1 : Nat) : Int)) b) → Ev (fun k => L k (i : Int)) (p l[i] && b)) (d : Nat) :
    ∀ i : Nat, i ≤ l.length → l.length - i = d → ((l.drop i).all p = true → Ev (fun k => L k (l.length : Int)) b0) → Ev (fun k => L k (i : Int)) ((l.drop i).all p && b0) := by
  induction d with
  | zero =>
    intro i h1 hd hE
    obtain rfl : i = l.length := by omega
    rw [List.drop_eq_nil_of_le (Nat.le_refl _)] at hE ⊢
    exact hE rfl
  | succ d ih =>
    intro i h1 hd hE
    have hi : i < l.length := by omega
    rw [List.drop_eq_getElem_cons hi, List.all_cons, Bool.and_assoc]
    refine h i hi _ fun hp => ih (i + 1) (by omega) (by omega) fun ha => hE ?_
    rw [List.drop_eq_getElem_cons hi, List.all_cons, hp, ha]; rfl
theorem all_down0 {α : Type} (l : List α) (p : α → Bool) (L : Nat → Int → Option Bool) (b0 : Bool)
    (h : ∀ (i : Nat) (hi : i < l.length) (b : Bool), (p l[i] = true → Ev (fun k => L k ((i + 1 : Nat) : Int)) b) → Ev (fun k => L k (i : Int)) (p l[i] && b))
    (hE : l.all p = true → Ev (fun k => L k (l.length : Int)) b0) : Ev (fun k => L k 0) (l.all p && b0) := by
  have := all_down l p L b0 h l.length 0 (by omega) (by omega) (by simpa using hE)
  simpa using this
/-- A list is found whole, element by element. -/
theorem copy_up {α β : Type} (l : List α) (g : α → β) (L : Nat → List β → Int → Option (List β))
    (h : ∀ (i : Nat) (hi : i < l.length) (o : List β) (r : List β), o.length = l.length → Ev (fun k => L k (o.set i (g l[i])) ((i + 1 : Nat) : Int)) r → Ev (fun k => L k o (i : Int)) r)
    (hE : ∀ o, Ev (fun k => L k o (l.length : Int)) o) (d : Nat) :
    ∀ (i : Nat) (o : List β), i ≤ l.length → l.length - i = d → o.length = l.length → o.take i = (l.map g).take i → Ev (fun k => L k o (i : Int)) (l.map g) := by
  induction d with
  | zero =>
    intro i o h1 hd ho ht
    obtain rfl : i = l.length := by omega
    rw [List.take_of_length_le (by omega), List.take_of_length_le (by simp)] at ht
    rw [← ht]; exact hE o
  | succ d ih =>
    intro i o h1 hd ho ht
    have hi : i < l.length := by omega
    refine h i hi o _ ho (ih (i + 1) _ (by omega) (by omega) (by simpa using ho) ?_)
    rw [List.take_succ_eq_append_getElem (by simp; omega), List.take_succ_eq_append_getElem (by simp; omega), List.take_set_of_le (Nat.le_refl _), ht]
    simp
theorem copy_up0 {α β : Type} (l : List α) (g : α → β) (z : β) (L : Nat → List β → Int → Option (List β))
    (h : ∀ (i : Nat) (hi : i < l.length) (o : List β) (r : List β), o.length = l.length → Ev (fun k => L k (o.set i (g l[i])) ((i + 1 : Nat) : Int)) r → Ev (fun k => L k o (i : Int)) r)
    (hE : ∀ o, Ev (fun k => L k o (l.length : Int)) o) : Ev (fun k => L k (List.replicate l.length z) 0) (l.map g) := by
  have := copy_up l g L h hE l.length 0 (List.replicate l.length z) (by omega) (by omega) (by simp) (by simp)
  simpa using this
/-- Sizes that are taken off one after another. -/
theorem size_up {α : Type} (l : List α) (P : α → Int → Prop) (hP : ∀ x a b, a ≤ b → P x a → P x b) (L : Nat → Int → Int → Option Int)
    (h : ∀ (i : Nat) (hi : i < l.length) (a : Int), 0 ≤ a → a ≤ 1048576 → ∃ t, -1 ≤ t ∧ t ≤ a ∧ (0 ≤ t → P l[i] a) ∧ ∀ r, Ev (fun k => if t < 0 then some (-1) else L k t ((i + 1 : Nat) : Int)) r → Ev (fun k => L k a (i : Int)) r)
    (hE : ∀ a, Ev (fun k => L k a (l.length : Int)) a) (d : Nat) :
    ∀ (i : Nat) (a : Int), i ≤ l.length → l.length - i = d → 0 ≤ a → a ≤ 1048576 → ∃ t, -1 ≤ t ∧ t ≤ a ∧ (0 ≤ t → ∀ x ∈ l.drop i, P x a) ∧ Ev (fun k => L k a (i : Int)) t := by
  induction d with
  | zero =>
    intro i a h1 hd ha ha1
    obtain rfl : i = l.length := by omega
    exact ⟨a, by omega, by omega, fun _ x hx => (by rw [List.drop_eq_nil_of_le (Nat.le_refl _)] at hx; cases hx), hE a⟩
  | succ d ih =>
    intro i a h1 hd ha ha1
    have hi : i < l.length := by omega
    obtain ⟨t, t0, t1, t2, t3⟩ := h i hi a ha ha1
    by_cases c : t < 0
    · exact ⟨-1, by omega, by omega, fun h => by omega, t3 _ (by simp only [if_pos c]; exact Ev.of fun _ => rfl)⟩
    · obtain ⟨u, u0, u1, u2, u3⟩ := ih (i + 1) t (by omega) (by omega) (by omega) (by omega)
      refine ⟨u, u0, by omega, fun hu x hx => ?_, t3 _ (by simp only [if_neg c]; exact u3)⟩
      rw [List.drop_eq_getElem_cons hi] at hx
      rcases List.mem_cons.1 hx with rfl | hx
      · exact t2 (by omega)
      · exact hP _ _ _ t1 (u2 hu x hx)
/-- What is written, part by part. -/
def wl {α γ : Type} (w : Nat → α → List γ) : Nat → List α → List γ
  | _, [] => []
  | i, x :: l => w i x ++ wl w (i + 1) l
theorem wl_map {α γ δ : Type} (f : γ → δ) (w : Nat → α → List γ) (l : List α) : ∀ i, (wl w i l).map f = wl (fun i x => (w i x).map f) i l := by
  induction l with
  | nil => intro i; rfl
  | cons x l ih => intro i; simp only [wl, List.map_append, ih]
theorem wl_le {α γ : Type} (w : Nat → α → List γ) (c : Nat) (l : List α) (h : ∀ i, ∀ x ∈ l, (w i x).length ≤ c) : ∀ i, (wl w i l).length ≤ c * l.length := by
  induction l with
  | nil => intro i; simp [wl]
  | cons x l ih =>
    intro i
    have h1 := h i x (by simp)
    have h2 := ih (fun i y hy => h i y (by simp [hy])) (i + 1)
    simp only [wl, List.length_append, List.length_cons, Nat.mul_add, Nat.mul_one]
    omega
theorem cont {α γ β : Type} (l : List α) (w : Nat → α → List γ) (L : Nat → List γ → Int → Option β)
    (h : ∀ (i : Nat) (hi : i < l.length) (a : List γ) (r : β), (a ++ w i l[i]).length ≤ 1000000000 → Ev (fun k => L k (a ++ w i l[i]) ((i + 1 : Nat) : Int)) r → Ev (fun k => L k a (i : Int)) r) (d : Nat) :
    ∀ (i : Nat) (a : List γ) (r : β), i ≤ l.length → l.length - i = d → (a ++ wl w i (l.drop i)).length ≤ 1000000000 → Ev (fun k => L k (a ++ wl w i (l.drop i)) (l.length : Int)) r → Ev (fun k => L k a (i : Int)) r := by
  induction d with
  | zero =>
    intro i a r h1 hd hn hr
    obtain rfl : i = l.length := by omega
    rw [List.drop_eq_nil_of_le (Nat.le_refl _)] at hr
    simpa [wl] using hr
  | succ d ih =>
    intro i a r h1 hd hn hr
    have hi : i < l.length := by omega
    rw [List.drop_eq_getElem_cons hi] at hr hn
    simp only [wl, ← List.append_assoc] at hr hn
    exact h i hi a r (by rw [List.length_append] at hn; omega) (ih (i + 1) _ r (by omega) (by omega) hn hr)
theorem cont0 {α γ β : Type} (l : List α) (w : Nat → α → List γ) (L : Nat → List γ → Int → Option β) (a : List γ) (r : β)
    (h : ∀ (i : Nat) (hi : i < l.length) (a : List γ) (r : β), (a ++ w i l[i]).length ≤ 1000000000 → Ev (fun k => L k (a ++ w i l[i]) ((i + 1 : Nat) : Int)) r → Ev (fun k => L k a (i : Int)) r)
    (hn : (a ++ wl w 0 l).length ≤ 1000000000) (hr : Ev (fun k => L k (a ++ wl w 0 l) (l.length : Int)) r) : Ev (fun k => L k a 0) r := by
  have := cont l w L h l.length 0 a r (by omega) (by omega) (by simpa using hn) (by simpa using hr)
  simpa using this
theorem wn {i : Nat} (h : i < 9223372036854775807) : wrap64 ((i : Int) + 1) = ((i + 1 : Nat) : Int) := w64 (by omega) (by omega)
theorem rs_at {l : List ByteArray} {i : Nat} (h : i < l.length) : rdOf ByteArray.empty l (i : Int) = l[i] := by simp [rdOf, List.getD_eq_getElem?_getD, List.getElem?_eq_getElem h]
theorem in_yes (a lo hi : Int) (h0 : lo ≤ a) (h1 : a ≤ hi) : impl_in.f a lo hi = some true := by
  unfold impl_in.f; rw [if_pos h0, decide_eq_true h1]
/-! ### right parties -/
def Short (l : List ByteArray) : Prop := ∀ x ∈ l, x.size ≤ 40
theorem ownS (l : List ByteArray) (hn : l.length ≤ 1000) : impl_own_string.f l = some l := by
  unfold impl_own_string.f
  rw [if_pos (by omega), if_pos (by omega), Option.bind_some, if_pos (by simp; omega), List.nil_append]
theorem ownP (s : List ByteArray) (a : Int) (g : List ByteArray) (hs : s.length ≤ 1000) (hg : g.length ≤ 1000) : impl_Party_own.f s a g = some (s, a, g) := by
  unfold impl_Party_own.f
  rw [ownS s (by omega), Option.bind_some, ownS g (by omega), Option.bind_some]
theorem idx_ev (l : List ByteArray) (hn : l.length ≤ 1000) (hs : Short l) (d : Nat) : ∀ i : Nat, i ≤ l.length → l.length - i = d → Ev (fun k => slices_IndexFunc_string_string_at_impl_shortTexts_1.l0 k l (l.length : Int) (i : Int)) (-1) := by
  induction d with
  | zero =>
    intro i h1 hd
    obtain rfl : i = l.length := by omega
    refine Ev.succ (Ev.of fun k => ?_)
    simp only [slices_IndexFunc_string_string_at_impl_shortTexts_1.l0]
    rw [if_neg (by omega)]
  | succ d ih =>
    intro i h1 hd
    have hi : i < l.length := by omega
    have hz := hs _ (List.getElem_mem hi)
    refine Ev.succ ((ih (i + 1) (by omega) (by omega)).to fun k => ?_)
    simp only [slices_IndexFunc_string_string_at_impl_shortTexts_1.l0, impl_shortTexts_1.f]
    rw [if_pos (by omega), if_pos (by omega), if_pos (by omega), rs_at hi, Option.bind_some, if_neg (by rw [decide_eq_true_eq]; omega), wn (by omega)]
theorem texts_ev (l : List ByteArray) (hn : l.length ≤ 200) (hs : Short l) : Ev (fun k => impl_shortTexts.f k l) true := by
  unfold impl_shortTexts.f slices_ContainsFunc_string_string_at_impl_shortTexts_1.f slices_IndexFunc_string_string_at_impl_shortTexts_1.f
  simp only [if_pos (show (l.length : Int) ≤ 200 by omega)]
  refine Ev.bind (v := false) ?_ (Ev.of fun _ => rfl)
  refine Ev.bind (v := (-1 : Int)) ?_ (Ev.of fun _ => rfl)
  exact idx_ev l (by omega) hs l.length 0 (by omega) (by omega)
theorem party_ev (s : List ByteArray) (a : Int) (g : List ByteArray) (hs : s.length ≤ 200) (hg : g.length ≤ 200) (h1 : Short s) (h2 : Short g) (h0 : 0 ≤ a) (h3 : a ≤ s.length) : Ev (fun k => impl_PartyOk.f k s a g) true := by
  unfold impl_PartyOk.f
  refine (texts_ev s hs h1).bind ?_
  simp only [if_true]
  refine (texts_ev g hg h2).bind ?_
  simp only [if_true]
  rw [in_yes _ _ _ h0 h3]
  exact Ev.of fun _ => rfl
theorem eq_ev (l : List ByteArray) (hn : l.length ≤ 1000) (d : Nat) : ∀ i : Nat, i ≤ l.length → l.length - i = d → Ev (fun k => slices_Equal_string_string.l0 k l l (l.length : Int) (i : Int)) true := by
  induction d with
  | zero =>
    intro i h1 hd
    obtain rfl : i = l.length := by omega
    refine Ev.succ (Ev.of fun k => ?_)
    simp only [slices_Equal_string_string.l0]
    rw [if_neg (by omega)]
  | succ d ih =>
    intro i h1 hd
    have hi : i < l.length := by omega
    refine Ev.succ ((ih (i + 1) (by omega) (by omega)).to fun k => ?_)
    simp only [slices_Equal_string_string.l0]
    rw [if_pos (by omega), if_pos (by omega), if_pos (by omega), if_pos (by omega), if_pos trivial, wn (by omega)]
theorem equal_ev (l : List ByteArray) (hn : l.length ≤ 1000) : Ev (fun k => slices_Equal_string_string.f k l l) true := by
  refine (eq_ev l hn l.length 0 (by omega) (by omega)).to fun k => ?_
  unfold slices_Equal_string_string.f
  rw [if_pos rfl]; rfl
theorem begins_ev (g s : List ByteArray) (hn : s.length ≤ 1000) (h : g = s.take g.length) (hl : g.length ≤ s.length) : Ev (fun k => impl_begins.f k g s) true := by
  unfold impl_begins.f
  simp only [if_pos (show (g.length : Int) ≤ (s.length : Int) by omega), if_pos (show (0 : Int) ≤ (g.length : Int) by omega), Int.toNat_natCast, ← h]
  exact (equal_ev g (by omega)).bind (Ev.of fun _ => rfl)
/-! ### a post is taken -/
def tk (G : List ByteArray) (n : Int) (t : ByteArray) : List ByteArray := if n = (G.length : Int) + 1 ∧ G.length < 200 then G ++ [t] else G
theorem take_ev (S : List ByteArray) (A : Int) (G : List ByteArray) (who f n ack : Int) (t : ByteArray) (hS : S.length ≤ 200) (hs : Short S) (hG : G.length ≤ 200) (hg : Short G) (hA : 0 ≤ A) (hA1 : A ≤ S.length)
    (hw0 : 0 ≤ who) (hw1 : who ≤ 1) (hf : f = 1 - who) (hn : 0 ≤ n) (hn1 : n ≤ 1000) (hk0 : 0 ≤ ack) (hk1 : ack ≤ S.length) (ht : t.size ≤ 40) :
    Ev (fun k => impl_Take21.f k S A G who f n ack t) (S, mx A ack, tk G n t, true) := by
  unfold impl_Take21.f
  simp only [ownP S A G (by omega) (by omega), Option.bind_some]
  refine (party_ev S A G hS hG hs hg hA hA1).bind ?_
  simp only [if_true, in_yes who 0 1 hw0 hw1, Option.bind_some]
  simp only [if_pos (show f = wrap64 (1 - who) by rw [w64 (by omega) (by omega)]; exact hf), if_neg (show ¬ n < 0 by omega), in_yes _ _ _ hk0 hk1, Option.bind_some, if_true]
  refine Ev.succ (Ev.of fun k => ?_)
  simp only [impl_Take21.j0]
  rw [if_neg (by simp; omega), w64 (x := (G.length : Int) + 1) (by omega) (by omega)]
  unfold tk
  by_cases c1 : n = (G.length : Int) + 1
  · rw [if_pos c1]
    by_cases c2 : (G.length : Int) < 200
    · rw [if_pos c2, if_pos (by omega), ownS _ (by simp; omega), Option.bind_some, if_pos ⟨c1, by omega⟩]
    · rw [if_neg c2, if_neg (by omega)]
  · rw [if_neg c1, if_neg (fun h => c1 h.1)]
/-! ### what is sent again -/
def ap (who g : Int) (i : Nat) (x : ByteArray) : List S34 := [⟨who, (i : Int) + 1, g, x⟩]
theorem ap_len (who g : Int) (l : List ByteArray) : ∀ i, (wl (ap who g) i l).length = l.length := by
  induction l with
  | nil => intro i; rfl
  | cons x l ih => intro i; simp [wl, ap, ih]
theorem ap_get (who g : Int) (l : List ByteArray) : ∀ (i j : Nat) (h : j < (wl (ap who g) i l).length) (h' : j < l.length), (wl (ap who g) i l)[j] = ⟨who, ((i + j : Nat) : Int) + 1, g, l[j]⟩ := by
  induction l with
  | nil => intro i j h h'; simp at h'
  | cons x l ih =>
    intro i j h h'
    cases j with
    | zero => simp [wl, ap]
    | succ j =>
      have := ih (i + 1) j (by rw [ap_len]; simpa using h') (by simpa using h')
      simp only [wl, ap, List.singleton_append, List.getElem_cons_succ, this]
      rw [show i + 1 + j = i + (j + 1) by omega]
/-- A list of posts that fits what was sent. -/
def Fit (L : List S34) (S : List ByteArray) (who : Int) (g : Int) (a : Nat) : Prop :=
  1 ≤ L.length ∧ L.length ≤ S.length + 1 ∧ S.length ≤ a + L.length ∧ ∀ i (h : i < L.length), L[i].f0 = who ∧ L[i].f2 = g ∧ L[i].f3.size ≤ 40 ∧ 0 ≤ L[i].f1 ∧ L[i].f1 ≤ S.length ∧ (∀ m (hm : m < S.length), L[i].f1 = (m : Int) + 1 → L[i].f3 = S[m]) ∧ (a + i < S.length → L[i].f1 = (a : Int) + i + 1)
theorem postOwn (l : List S34) (hn : l.length ≤ 1000) : impl_Post.f l = some l := by
  unfold impl_Post.f
  rw [if_pos (by omega), if_pos (by omega), Option.bind_some, if_pos (by simp; omega), List.nil_append]
theorem again_ev (S : List ByteArray) (a : Nat) (G : List ByteArray) (who : Int) (hS : S.length ≤ 200) (hs : Short S) (hG : G.length ≤ 200) (hg : Short G) (ha : a ≤ S.length) (hw0 : 0 ≤ who) (hw1 : who ≤ 1) :
    ∃ L, Fit L S who G.length a ∧ Ev (fun k => impl_Again21.f k S (a : Int) G who) (L, true) := by
  have key : ∀ r, Ev (fun k => impl_Again21.l0 k who (wl (ap who G.length) a (S.drop a)) (S.length : Int) S a G) r → Ev (fun k => impl_Again21.f k S (a : Int) G who) r := by
    intro r hr
    unfold impl_Again21.f
    refine (party_ev S a G hS hG hs hg (by omega) (by omega)).bind ?_
    simp only [if_true, in_yes who 0 1 hw0 hw1, Option.bind_some]
    refine Ev.succ (Ev.to (g := fun k => impl_Again21.l0 k who [] (a : Int) S a G) ?_ fun k => by simp [impl_Again21.j0])
    refine cont S (ap who G.length) (fun k o i => impl_Again21.l0 k who o i S a G) (fun i hi o r hn hr => ?_) (S.length - a) a [] r ha rfl (by rw [List.nil_append, ap_len]; simp; omega) (by simpa using hr)
    refine Ev.succ (hr.to fun k => ?_)
    simp only [impl_Again21.l0]
    rw [if_pos (by omega), if_pos (by omega), if_pos (by simp [ap] at hn; omega), wn (by omega), rs_at hi]
    rfl
  by_cases c : a = S.length
  · subst c
    refine ⟨[⟨who, 0, (G.length : Int), ⟨#[]⟩⟩], ⟨by simp, by simp, by simp, fun i h => ?_⟩, key _ ?_⟩
    · obtain rfl : i = 0 := by simpa using h
      refine ⟨rfl, rfl, by show (ByteArray.mk #[]).size ≤ 40; decide, by simp, by simp, fun m hm e => ?_, fun h => by omega⟩
      simp at e; omega
    · rw [show wl (ap who G.length) S.length (S.drop S.length) = [] by rw [List.drop_eq_nil_of_le (Nat.le_refl _)]; rfl]
      refine Ev.succ (Ev.of fun k => ?_)
      simp only [impl_Again21.l0]
      rw [if_neg (by omega), if_pos (show (([] : List S34).length : Int) = 0 from rfl), postOwn _ (by simp), Option.bind_some]
  · refine ⟨wl (ap who G.length) a (S.drop a), ⟨by rw [ap_len]; simp; omega, by rw [ap_len]; simp; omega, by rw [ap_len]; simp; omega, fun i h => ?_⟩, key _ ?_⟩
    · have h' : i < (S.drop a).length := by rwa [ap_len] at h
      rw [ap_get who _ _ a i h h']
      have hi : a + i < S.length := by simp at h'; omega
      have e : (S.drop a)[i] = S[a + i] := List.getElem_drop ..
      refine ⟨rfl, rfl, ?_, by simp; omega, by simp; omega, fun m hm em => ?_, fun _ => by simp⟩
      · simp only [e]; exact hs _ (List.getElem_mem hi)
      · simp only at em
        obtain rfl : m = a + i := by omega
        exact e
    · refine Ev.succ (Ev.of fun k => ?_)
      simp only [impl_Again21.l0]
      rw [if_neg (by omega), if_neg (by rw [ap_len]; simp; omega), postOwn _ (by rw [ap_len]; simp; omega), Option.bind_some]
/-! ### what comes of a list of posts -/
theorem T_nat {l : List S34} {i : Nat} (h : i < l.length) : rd_T34 l (i : Int) = l[i] := by simp [rd_T34, List.getD_eq_getElem?_getD, List.getElem?_eq_getElem h]
theorem mx_in {B g : Int} (h0 : 0 ≤ B) (h1 : B ≤ g) : 0 ≤ mx B g ∧ mx B g ≤ g := by
  unfold mx; split <;> omega
/-- The prefix that was got grows by a post that fits. -/
theorem tk_fit {S G : List ByteArray} {n : Int} {t : ByteArray} (hS : S.length < 200) (h1 : G = S.take G.length) (h2 : G.length ≤ S.length) (hn : n ≤ S.length) (hf : ∀ m (hm : m < S.length), n = (m : Int) + 1 → t = S[m]) :
    tk G n t = S.take (tk G n t).length ∧ (tk G n t).length ≤ S.length ∧ G.length ≤ (tk G n t).length ∧ (n = (G.length : Int) + 1 → (tk G n t).length = G.length + 1) := by
  unfold tk
  by_cases c : n = (G.length : Int) + 1 ∧ G.length < 200
  · rw [if_pos c]
    have hm : G.length < S.length := by omega
    have e := hf G.length hm c.1
    refine ⟨?_, by simp; omega, by simp, fun _ => by simp⟩
    rw [List.length_append, List.length_singleton, List.take_succ_eq_append_getElem hm, ← h1, e]
  · rw [if_neg c]
    exact ⟨h1, h2, Nat.le_refl _, fun h => by omega⟩
theorem short_take {S G : List ByteArray} (hs : Short S) (h : G = S.take G.length) : Short G := fun x hx => by rw [h] at hx; exact hs x (List.mem_of_mem_take hx)
theorem lost0 (l : List Bool) : rd_L5 [l] 0 = l := by simp [rd_L5]
theorem posts_ev (S T : List ByteArray) (who : Int) (g a : Nat) (L : List S34) (lost : List Bool) (hS : S.length ≤ 6) (hs : Short S) (hT : T.length ≤ 6) (ht : Short T) (hg : g ≤ T.length) (hw0 : 0 ≤ who) (hw1 : who ≤ 1) (hL : Fit L S who g a) (d : Nat) :
    ∀ (i c : Nat) (B : Int) (G : List ByteArray), i + d = L.length → c + d ≤ 1000 → G = S.take G.length → G.length ≤ S.length → 0 ≤ B → B ≤ g →
      ∃ (B' : Int) (G' : List ByteArray), Ev (fun k => impl_Settle21_1_c.l0 k who L (L.length : Int) (i : Int) [lost] (c : Int) T B G) (T, B', G', ((c + d : Nat) : Int)) ∧ G' = S.take G'.length ∧ G'.length ≤ S.length ∧ G.length ≤ G'.length ∧ 0 ≤ B' ∧ B' ≤ g ∧
        (lost.length ≤ c → min (a + i) S.length ≤ G.length → S.length ≤ G'.length) := by
  obtain ⟨l1, l2, l3, hf⟩ := hL
  induction d with
  | zero =>
    intro i c B G hd hc e0 e1 b0 b1
    obtain rfl : i = L.length := by omega
    refine ⟨B, G, ?_, e0, e1, Nat.le_refl _, b0, b1, fun _ h => by omega⟩
    refine Ev.succ (Ev.of fun k => ?_)
    simp only [impl_Settle21_1_c.l0]
    rw [if_neg (by omega)]
    rfl
  | succ d ih =>
    intro i c B G hd hc e0 e1 b0 b1
    have hi : i < L.length := by omega
    obtain ⟨f0, f1, f2, f3, f4, f5, f6⟩ := hf i hi
    obtain ⟨t0, t1, t2, t3⟩ := tk_fit (G := G) (by omega) e0 e1 f4 f5
    obtain ⟨m0, m1⟩ := mx_in b0 b1
    have hTk := take_ev T B G (wrap64 (1 - who)) L[i].f0 L[i].f1 L[i].f2 L[i].f3 (by omega) ht (by omega) (short_take hs e0) b0 (by omega) (by rw [w64 (by omega) (by omega)]; omega) (by rw [w64 (by omega) (by omega)]; omega) (by rw [f0, w64 (by omega) (by omega)]; omega) f3 (by omega) (by rw [f1]; omega) (by rw [f1]; omega) f2
    rw [f1] at hTk
    -- taken
    have yes : ∃ (B' : Int) (G' : List ByteArray), Ev (fun k => (impl_Take21.f k T B G (wrap64 (1 - who)) L[i].f0 L[i].f1 g L[i].f3).bind fun bt => impl_Settle21_1_c.l0 k who L (L.length : Int) ((i + 1 : Nat) : Int) [lost] ((c + 1 : Nat) : Int) bt.1 bt.2.1 bt.2.2.1) (T, B', G', ((c + (d + 1) : Nat) : Int)) ∧ G' = S.take G'.length ∧ G'.length ≤ S.length ∧ G.length ≤ G'.length ∧ 0 ≤ B' ∧ B' ≤ g ∧ (lost.length ≤ c → min (a + i) S.length ≤ G.length → S.length ≤ G'.length) := by
      obtain ⟨B', G', hE, h1, h2, h3, h4, h5, h6⟩ := ih (i + 1) (c + 1) (mx B g) (tk G L[i].f1 L[i].f3) (by omega) (by omega) t0 t1 m0 m1
      refine ⟨B', G', hTk.bind (by rw [show c + (d + 1) = c + 1 + d by omega]; exact hE), h1, h2, by omega, h4, h5, fun hl hm => h6 (by omega) ?_⟩
      by_cases q : a + i < S.length
      · have := f6 q
        by_cases q2 : G.length = a + i
        · have := t3 (by omega); omega
        · omega
      · omega
    by_cases c1 : lost.length ≤ c
    · obtain ⟨B', G', hE, rest⟩ := yes
      refine ⟨B', G', Ev.succ (hE.to fun k => ?_), rest⟩
      simp only [impl_Settle21_1_c.l0, lost0]
      rw [if_pos (by omega), if_pos (by omega), if_pos (by omega), if_pos (by simp), if_pos (by omega), T_nat hi, f1, wn (by omega), wn (by omega)]
    · by_cases c2 : rdOf false lost (c : Int) = true
      · obtain ⟨B', G', hE, h1, h2, h3, h4, h5, h6⟩ := ih (i + 1) (c + 1) B G (by omega) (by omega) e0 e1 b0 b1
        refine ⟨B', G', Ev.succ (Ev.to (by rw [show c + (d + 1) = c + 1 + d by omega]; exact hE) fun k => ?_), h1, h2, h3, h4, h5, fun hl => absurd hl c1⟩
        simp only [impl_Settle21_1_c.l0, lost0]
        rw [if_pos (by omega), if_pos (by omega), if_pos (by omega), if_pos (by simp), if_neg (by omega), if_pos (by omega), if_pos (by omega), if_pos c2, wn (by omega), wn (by omega)]
      · obtain ⟨B', G', hE, rest⟩ := yes
        refine ⟨B', G', Ev.succ (hE.to fun k => ?_), rest⟩
        simp only [impl_Settle21_1_c.l0, lost0]
        rw [if_pos (by omega), if_pos (by omega), if_pos (by omega), if_pos (by simp), if_neg (by omega), if_pos (by omega), if_pos (by omega), if_neg c2, T_nat hi, f1, wn (by omega), wn (by omega)]
/-! ### two parties -/
def Two (S T : List ByteArray) (A : Int) (G : List ByteArray) (B : Int) (H : List ByteArray) : Prop := G = T.take G.length ∧ G.length ≤ T.length ∧ H = S.take H.length ∧ H.length ≤ S.length ∧ 0 ≤ A ∧ A ≤ H.length ∧ 0 ≤ B ∧ B ≤ G.length
theorem Two.swap {S T : List ByteArray} {A : Int} {G : List ByteArray} {B : Int} {H : List ByteArray} (h : Two S T A G B H) : Two T S B H A G := ⟨h.2.2.1, h.2.2.2.1, h.1, h.2.1, h.2.2.2.2.2.2.1, h.2.2.2.2.2.2.2, h.2.2.2.2.1, h.2.2.2.2.2.1⟩
theorem post_ev (S T : List ByteArray) (lost : List Bool) (who : Int) (hS : S.length ≤ 6) (hs : Short S) (hT : T.length ≤ 6) (ht : Short T) (hw0 : 0 ≤ who) (hw1 : who ≤ 1) (A : Int) (G : List ByteArray) (B : Int) (H : List ByteArray) (h : Two S T A G B H) (c : Nat) (hc : c ≤ 900) :
    ∃ (B' : Int) (H' : List ByteArray) (c' : Nat), Ev (fun k => impl_Settle21_1_c.f k S A G who T B H (c : Int) [lost]) (T, B', H', (c' : Int)) ∧ Two S T A G B' H' ∧ H.length ≤ H'.length ∧ c + 1 ≤ c' ∧ c' ≤ c + 7 ∧ (lost.length ≤ c → S.length ≤ H'.length) := by
  obtain ⟨g0, g1, h0, h1, a0, a1, b0, b1⟩ := h
  obtain ⟨a, rfl⟩ : ∃ a : Nat, A = (a : Int) := ⟨A.toNat, by omega⟩
  obtain ⟨L, hL, hE⟩ := again_ev S a G who (by omega) hs (by omega) (short_take ht g0) (by omega) hw0 hw1
  obtain ⟨B', H', e, r0, r1, r2, r3, r4, r5⟩ := posts_ev S T who G.length a L lost hS hs hT ht g1 hw0 hw1 hL L.length 0 c B H (by omega) (by have := hL.2.1; omega) h0 h1 b0 b1
  refine ⟨B', H', c + L.length, ?_, ⟨g0, g1, r0, r1, a0, by omega, r3, r4⟩, r2, by have := hL.1; omega, by have := hL.2.1; omega, fun hl => r5 hl (by omega)⟩
  unfold impl_Settle21_1_c.f
  exact hE.bind e
theorem rounds_ev (S T : List ByteArray) (lost : List Bool) (hS : S.length ≤ 6) (hs : Short S) (hT : T.length ≤ 6) (ht : Short T) (hl : lost.length ≤ 29) (d : Nat) :
    ∀ (r c : Nat) (A : Int) (G : List ByteArray) (B : Int) (H : List ByteArray), r + d = 20 → Two S T A G B H → 2 * r ≤ c → c ≤ 14 * r → (16 ≤ r → T.length ≤ G.length ∧ S.length ≤ H.length) →
      ∃ (A' B' : Int), Ev (fun k => impl_Settle21.l0 k 20 (r : Int) S A G T B H lost (c : Int)) (S, A', T, T, B', S, true) ∧ 0 ≤ A' ∧ A' ≤ S.length ∧ 0 ≤ B' ∧ B' ≤ T.length := by
  induction d with
  | zero =>
    intro r c A G B H hr h c0 c1 hz
    obtain rfl : r = 20 := by omega
    obtain ⟨g0, g1, h0, h1, a0, a1, b0, b1⟩ := h
    obtain ⟨z0, z1⟩ := hz (by omega)
    obtain rfl : G = T := by rw [g0, List.take_of_length_le z0]
    obtain rfl : H = S := by rw [h0, List.take_of_length_le z1]
    refine ⟨A, B, Ev.succ ?_, a0, by omega, b0, by omega⟩
    simp only [impl_Settle21.l0]
    simp only [if_neg (show ¬ ((20 : Nat) : Int) < 20 by omega)]
    refine (equal_ev G (by omega)).bind ?_
    simp only [if_true]
    exact (equal_ev H (by omega)).bind (Ev.of fun _ => rfl)
  | succ d ih =>
    intro r c A G B H hr h c0 c1 hz
    obtain ⟨B', H', c', e1, w1, p1, q1, q2, q3⟩ := post_ev S T lost 0 hS hs hT ht (by omega) (by omega) A G B H h c (by omega)
    obtain ⟨A', G', c'', e2, w2, p2, q4, q5, q6⟩ := post_ev T S lost 1 hT ht hS hs (by omega) (by omega) B' H' A G w1.swap c' (by omega)
    obtain ⟨A2, B2, e3, rest⟩ := ih (r + 1) c'' A' G' B' H' (by omega) w2.swap (by omega) (by omega) (fun h16 => by
      by_cases q : 16 ≤ r
      · have := hz q; omega
      · exact ⟨q6 (by omega), q3 (by omega)⟩)
    refine ⟨A2, B2, Ev.succ ?_, rest⟩
    simp only [impl_Settle21.l0]
    simp only [if_pos (show (r : Int) < 20 by omega), wn (show r < 9223372036854775807 by omega)]
    exact e1.bind (e2.bind e3)
/-! ### drawn texts -/
theorem rs_mem {l : List ByteArray} {i : Int} (h0 : 0 ≤ i) (h1 : i < l.length) : rdOf ByteArray.empty l i ∈ l := by
  obtain ⟨n, rfl⟩ : ∃ n : Nat, i = (n : Int) := ⟨i.toNat, by omega⟩
  rw [rs_at (show n < l.length by omega)]; exact List.getElem_mem _
theorem pick_ok (c : List Int) (hc : c.length ≤ 1048576) {p : Int} (hp : InRow c p) (s : Int) (l : List ByteArray) (hl : 0 < l.length) : ∃ r p' s', spec_l1Pick.f c p s l = some (r, p', s') ∧ r ∈ l ∧ InRow c p' := by
  obtain ⟨b, p1, s1, e, b0, b1, _, hp1⟩ := below_ok c hc hp s (l.length : Int)
  have := b1 (by omega)
  unfold spec_l1Pick.f
  rw [e, Option.bind_some]
  dsimp only
  rw [if_pos b0, if_pos this]
  exact ⟨_, _, _, rfl, rs_mem b0 this, hp1⟩
def marks : List ByteArray := [(⟨#[97]⟩ : ByteArray), (⟨#[90]⟩ : ByteArray), (⟨#[55]⟩ : ByteArray), (⟨#[32]⟩ : ByteArray), (⟨#[43]⟩ : ByteArray), (⟨#[58]⟩ : ByteArray), (⟨#[39]⟩ : ByteArray), (⟨#[63]⟩ : ByteArray), (⟨#[126]⟩ : ByteArray), (⟨#[45]⟩ : ByteArray)]
theorem marks_size : ∀ x ∈ marks, x.size = 1 := by
  intro x hx
  simp only [marks, List.mem_cons, List.not_mem_nil, or_false] at hx
  rcases hx with rfl | rfl | rfl | rfl | rfl | rfl | rfl | rfl | rfl | rfl <;> rfl
theorem text_loop (c : List Int) (hc : c.length ≤ 1048576) (n : Int) (hn : n ≤ 41) (d : Nat) : ∀ (o : List Int) (i p s : Int), 0 ≤ i → i ≤ n → n - i = d → (o.length : Int) = i → InRow c p → ∃ t p' s', Ev (fun k => spec_l21DrawText.l0 k o n i c p s) (t, p', s') ∧ t.size ≤ 41 ∧ InRow c p' := by
  induction d with
  | zero =>
    intro o i p s h0 h1 hd ho hp
    refine ⟨strOfNums o, p, s, Ev.succ (Ev.of fun k => ?_), by rw [strOfNums_size]; omega, hp⟩
    simp only [spec_l21DrawText.l0]
    rw [if_neg (by omega)]
  | succ d ih =>
    intro o i p s h0 h1 hd ho hp
    obtain ⟨r, p1, s1, e, hr, hp1⟩ := pick_ok c hc hp s marks (by decide)
    obtain ⟨t, p2, s2, hE, h2, h3⟩ := ih (o ++ [bt r 0]) (i + 1) p1 s1 (by omega) (by omega) (by omega) (by simp; omega) hp1
    refine ⟨t, p2, s2, Ev.succ (hE.to fun k => ?_), h2, h3⟩
    have hz := marks_size r hr
    unfold marks at e
    simp only [spec_l21DrawText.l0]
    rw [if_pos (by omega), e, Option.bind_some]
    dsimp only
    rw [if_pos (by omega), if_pos (by omega), w64 (x := i + 1) (by omega) (by omega)]
theorem text_ev (c : List Int) (hc : c.length ≤ 1048576) {p : Int} (hp : InRow c p) (s : Int) : ∃ t p' s', Ev (fun k => spec_l21DrawText.f k c p s) (t, p', s') ∧ t.size ≤ 41 ∧ InRow c p' := by
  obtain ⟨n, p1, s1, e1, a0, a1, _, hp1⟩ := below_ok c hc hp s 8
  have a1 := a1 (by omega)
  obtain ⟨b, p2, s2, e2, hp2⟩ := once_ok c hc hp1 s1 40
  unfold spec_l21DrawText.f
  simp only [Option.bind_some, e1, e2]
  cases b with
  | false =>
    obtain ⟨t, p', s', hE, h1, h2⟩ := text_loop c hc n (by omega) n.toNat [] 0 p2 s2 (by omega) (by omega) (by omega) rfl hp2
    exact ⟨t, p', s', Ev.to (Ev.succ (f := fun k => spec_l21DrawText.j0 k [] n c p2 s2) hE) fun k => by simp, h1, h2⟩
  | true =>
    obtain ⟨m, p3, s3, e3, b0, b1, _, hp3⟩ := below_ok c hc hp2 s2 3
    have b1 := b1 (by omega)
    obtain ⟨t, p', s', hE, h1, h2⟩ := text_loop c hc (39 + m) (by omega) (39 + m).toNat [] 0 p3 s3 (by omega) (by omega) (by omega) rfl hp3
    exact ⟨t, p', s', Ev.to (Ev.succ (f := fun k => spec_l21DrawText.j0 k [] (39 + m) c p3 s3) hE) fun k => by simp [e3, w64 (x := 39 + m) (by omega) (by omega)], h1, h2⟩
/-! ### drawn parties -/
abbrev Pairs := List ByteArray × Int × List ByteArray × List ByteArray × Int × List ByteArray × Int × Int
def Drawn (c : List Int) (R : Pairs) : Prop := R.1.length ≤ 6 ∧ Short R.1 ∧ R.2.2.2.1.length ≤ 6 ∧ Short R.2.2.2.1 ∧ Two R.1 R.2.2.2.1 R.2.1 R.2.2.1 R.2.2.2.2.1 R.2.2.2.2.2.1 ∧ InRow c R.2.2.2.2.2.2.1
theorem take_pre {l : List ByteArray} (n : Nat) : l.take n = l.take (l.take n).length := by rw [List.length_take]; simp
theorem pair_end (c : List Int) (hc : c.length ≤ 1048576) (S T : List ByteArray) (hS : S.length ≤ 6) (hs : Short S) (hT : T.length ≤ 6) (ht : Short T) {p : Int} (hp : InRow c p) (s : Int) : ∃ R, Ev (fun k => spec_l21DrawPair.l3 k (T.length : Int) c p s S 0 T 0) R ∧ Drawn c R := by
  obtain ⟨n1, p1, s1, e1, a0, a1, _, hp1⟩ := below_ok c hc hp s ((T.length : Int) + 1)
  obtain ⟨n2, p2, s2, e2, b0, b1, _, hp2⟩ := below_ok c hc hp1 s1 ((S.length : Int) + 1)
  obtain ⟨n3, p3, s3, e3, c0, c1, _, hp3⟩ := below_ok c hc hp2 s2 (((S.take n2.toNat).length : Int) + 1)
  obtain ⟨n4, p4, s4, e4, d0, d1, _, hp4⟩ := below_ok c hc hp3 s3 (((T.take n1.toNat).length : Int) + 1)
  have a1 := a1 (by omega)
  have b1 := b1 (by omega)
  have c1 := c1 (by omega)
  have d1 := d1 (by omega)
  have z1 : (T.take n1.toNat).length ≤ T.length := by simp; omega
  have z2 : (S.take n2.toNat).length ≤ S.length := by simp; omega
  refine ⟨(S, n3, T.take n1.toNat, T, n4, S.take n2.toNat, p4, s4), Ev.succ (Ev.of fun k => ?_), hS, hs, hT, ht, ⟨take_pre _, z1, take_pre _, z2, c0, Int.le_of_lt_add_one c1, d0, Int.le_of_lt_add_one d1⟩, hp4⟩
  simp only [spec_l21DrawPair.l3]
  rw [if_neg (by omega), Option.bind_some, w64 (x := (T.length : Int) + 1) (by omega) (by omega), e1, Option.bind_some]
  dsimp only
  rw [if_pos a0, if_pos (by omega), Option.bind_some, if_pos (by simp; omega), List.nil_append, Option.bind_some, Option.bind_some, w64 (x := (S.length : Int) + 1) (by omega) (by omega), e2, Option.bind_some]
  dsimp only
  rw [if_pos b0, if_pos (by omega), Option.bind_some, if_pos (by simp; omega), List.nil_append, Option.bind_some, w64 (x := ((S.take n2.toNat).length : Int) + 1) (by omega) (by omega), e3, Option.bind_some]
  dsimp only
  rw [w64 (x := ((T.take n1.toNat).length : Int) + 1) (by omega) (by omega), e4, Option.bind_some]
def Upto (l : List ByteArray) (i : Nat) : Prop := ∀ j (h : j < l.length), j < i → l[j].size ≤ 40
theorem Upto.set {l : List ByteArray} {i : Nat} (h : Upto l i) {x : ByteArray} (hx : x.size ≤ 40) : Upto (l.set i x) (i + 1) := by
  intro j hj hi
  rw [List.getElem_set]
  by_cases c : i = j
  · rw [if_pos c]; exact hx
  · rw [if_neg c]; exact h j (by simpa using hj) (by omega)
theorem Upto.keep {l : List ByteArray} {i : Nat} (h : Upto l i) (hi : i < l.length) (hx : l[i].size ≤ 40) : Upto l (i + 1) := by
  intro j hj h1
  by_cases c : j = i
  · subst c; exact hx
  · exact h j hj (by omega)
theorem Upto.all {l : List ByteArray} (h : Upto l l.length) : Short l := by
  intro x hx
  obtain ⟨j, hj, rfl⟩ := List.getElem_of_mem hx
  exact h j hj hj
theorem pair_l3 (c : List Int) (hc : c.length ≤ 1048576) (S : List ByteArray) (hS : S.length ≤ 6) (hs : Short S) {p : Int} (hp : InRow c p) (s : Int) (d : Nat) : ∀ (i : Nat) (T : List ByteArray), i + d = T.length → T.length ≤ 6 → Upto T i → ∃ R, Ev (fun k => spec_l21DrawPair.l3 k (i : Int) c p s S 0 T 0) R ∧ Drawn c R := by
  induction d with
  | zero =>
    intro i T hi hT hu
    obtain rfl : i = T.length := by omega
    exact pair_end c hc S T hS hs hT hu.all hp s
  | succ d ih =>
    intro i T hi hT hu
    have hlt : i < T.length := by omega
    by_cases z : (T[i].size : Int) > 40
    · obtain ⟨R, hE, hR⟩ := ih (i + 1) (T.set i ⟨#[121]⟩) (by simp; omega) (by simp; omega) (hu.set (show (ByteArray.mk #[121]).size ≤ 40 by decide))
      refine ⟨R, Ev.succ (hE.to fun k => ?_), hR⟩
      simp only [spec_l21DrawPair.l3]
      rw [if_pos (by omega), if_pos (by omega), rs_at hlt, if_pos z, wn (by omega), Int.toNat_natCast]
    · obtain ⟨R, hE, hR⟩ := ih (i + 1) T (by omega) hT (hu.keep hlt (by omega))
      refine ⟨R, Ev.succ (hE.to fun k => ?_), hR⟩
      simp only [spec_l21DrawPair.l3]
      rw [if_pos (by omega), if_pos (by omega), rs_at hlt, if_neg z, wn (by omega)]
theorem pair_l2 (c : List Int) (hc : c.length ≤ 1048576) (T : List ByteArray) (hT : T.length ≤ 6) {p : Int} (hp : InRow c p) (s : Int) (d : Nat) : ∀ (i : Nat) (S : List ByteArray), i + d = S.length → S.length ≤ 6 → Upto S i → ∃ R, Ev (fun k => spec_l21DrawPair.l2 k (i : Int) c p s S 0 T 0) R ∧ Drawn c R := by
  induction d with
  | zero =>
    intro i S hi hS hu
    obtain rfl : i = S.length := by omega
    obtain ⟨R, hE, hR⟩ := pair_l3 c hc S hS hu.all hp s T.length 0 T (by omega) hT (fun j _ h => by omega)
    refine ⟨R, Ev.succ (hE.to fun k => ?_), hR⟩
    simp only [spec_l21DrawPair.l2]
    rw [if_neg (by omega)]
    rfl
  | succ d ih =>
    intro i S hi hS hu
    have hlt : i < S.length := by omega
    by_cases z : (S[i].size : Int) > 40
    · obtain ⟨R, hE, hR⟩ := ih (i + 1) (S.set i ⟨#[120]⟩) (by simp; omega) (by simp; omega) (hu.set (show (ByteArray.mk #[120]).size ≤ 40 by decide))
      refine ⟨R, Ev.succ (hE.to fun k => ?_), hR⟩
      simp only [spec_l21DrawPair.l2]
      rw [if_pos (by omega), if_pos (by omega), rs_at hlt, if_pos z, wn (by omega), Int.toNat_natCast]
    · obtain ⟨R, hE, hR⟩ := ih (i + 1) S (by omega) hS (hu.keep hlt (by omega))
      refine ⟨R, Ev.succ (hE.to fun k => ?_), hR⟩
      simp only [spec_l21DrawPair.l2]
      rw [if_pos (by omega), if_pos (by omega), rs_at hlt, if_neg z, wn (by omega)]
theorem pair_l1 (c : List Int) (hc : c.length ≤ 1048576) (S : List ByteArray) (hS : S.length ≤ 6) (d : Nat) : ∀ (T : List ByteArray) (p s : Int), T.length + d ≤ 6 → InRow c p → ∃ R, Ev (fun k => spec_l21DrawPair.l1 k (d : Int) c p s S 0 T 0) R ∧ Drawn c R := by
  induction d with
  | zero =>
    intro T p s hT hp
    obtain ⟨R, hE, hR⟩ := pair_l2 c hc T (by omega) hp s S.length 0 S (by omega) hS (fun j _ h => by omega)
    refine ⟨R, Ev.succ (hE.to fun k => ?_), hR⟩
    simp only [spec_l21DrawPair.l1]
    rw [if_neg (by omega)]
    rfl
  | succ d ih =>
    intro T p s hT hp
    obtain ⟨t, p1, s1, e, _, hp1⟩ := text_ev c hc hp s
    obtain ⟨R, hE, hR⟩ := ih (T ++ [t]) p1 s1 (by simp; omega) hp1
    refine ⟨R, Ev.succ (Ev.to (e.bind (g := fun k bt => spec_l21DrawPair.l1 k (d : Int) c bt.2.1 bt.2.2 S 0 (T ++ [bt.1]) 0) hE) fun k => ?_), hR⟩
    simp only [spec_l21DrawPair.l1]
    rw [if_pos (by omega), w64 (x := ((d + 1 : Nat) : Int) - 1) (by omega) (by omega), show ((d + 1 : Nat) : Int) - 1 = (d : Int) by omega]
    simp only [if_pos (show T.length < 8796093022208 by omega)]
theorem pair_l0 (c : List Int) (hc : c.length ≤ 1048576) (d : Nat) : ∀ (S : List ByteArray) (p s : Int), S.length + d ≤ 6 → InRow c p → ∃ R, Ev (fun k => spec_l21DrawPair.l0 k (d : Int) c p s S 0 0) R ∧ Drawn c R := by
  induction d with
  | zero =>
    intro S p s hS hp
    obtain ⟨n, p1, s1, e, b0, b1, _, hp1⟩ := below_ok c hc hp s 7
    have b1 := b1 (by omega)
    obtain ⟨m, rfl⟩ : ∃ m : Nat, n = (m : Int) := ⟨n.toNat, by omega⟩
    obtain ⟨R, hE, hR⟩ := pair_l1 c hc S (by omega) m [] p1 s1 (by simp; omega) hp1
    refine ⟨R, Ev.succ (hE.to fun k => ?_), hR⟩
    simp only [spec_l21DrawPair.l0]
    rw [if_neg (by omega), e, Option.bind_some]
  | succ d ih =>
    intro S p s hS hp
    obtain ⟨t, p1, s1, e, ht, hp1⟩ := text_ev c hc hp s
    obtain ⟨R, hE, hR⟩ := ih (S ++ [t ++ ⟨#[]⟩]) p1 s1 (by simp; omega) hp1
    refine ⟨R, Ev.succ (Ev.to (e.bind (g := fun k bt => if bt.1.size + 0 ≤ 9223372036854775807 then spec_l21DrawPair.l0 k (d : Int) c bt.2.1 bt.2.2 (S ++ [bt.1 ++ ⟨#[]⟩]) 0 0 else none) ?_) fun k => ?_), hR⟩
    · simp only [if_pos (show t.size + 0 ≤ 9223372036854775807 by omega)]; exact hE
    · simp only [spec_l21DrawPair.l0]
      rw [if_pos (by omega), w64 (x := ((d + 1 : Nat) : Int) - 1) (by omega) (by omega), show ((d + 1 : Nat) : Int) - 1 = (d : Int) by omega]
      simp only [if_pos (show S.length < 8796093022208 by omega)]
theorem pair_ev (c : List Int) (hc : c.length ≤ 1048576) {p : Int} (hp : InRow c p) (s : Int) : ∃ R, Ev (fun k => spec_l21DrawPair.f k c p s) R ∧ Drawn c R := by
  obtain ⟨n, p1, s1, e, b0, b1, _, hp1⟩ := below_ok c hc hp s 7
  have b1 := b1 (by omega)
  obtain ⟨m, rfl⟩ : ∃ m : Nat, n = (m : Int) := ⟨n.toNat, by omega⟩
  obtain ⟨R, hE, hR⟩ := pair_l0 c hc m [] p1 s1 (by simp; omega) hp1
  refine ⟨R, hE.to fun k => ?_, hR⟩
  unfold spec_l21DrawPair.f
  rw [e, Option.bind_some]
theorem lost_loop (c : List Int) (hc : c.length ≤ 1048576) (S : List ByteArray) (A : Int) (G T : List ByteArray) (B : Int) (H : List ByteArray) (d : Nat) : ∀ (o : List Bool) (p s : Int), o.length + d ≤ 29 → InRow c p → ∃ lost, Ev (fun k => spec_DrawParties.l0 k o (d : Int) c p s S A G T B H) (S, A, G, T, B, H, lost) ∧ lost.length ≤ 29 := by
  induction d with
  | zero =>
    intro o p s ho hp
    refine ⟨o, Ev.succ (Ev.of fun k => ?_), by omega⟩
    simp only [spec_DrawParties.l0]
    rw [if_neg (by omega)]
  | succ d ih =>
    intro o p s ho hp
    obtain ⟨b, p1, s1, e, hp1⟩ := once_ok c hc hp s 2
    obtain ⟨lost, hE, hR⟩ := ih (o ++ [b]) p1 s1 (by simp; omega) hp1
    refine ⟨lost, Ev.succ (hE.to fun k => ?_), hR⟩
    simp only [spec_DrawParties.l0]
    rw [if_pos (by omega), e, Option.bind_some]
    dsimp only
    rw [if_pos (by omega), w64 (x := ((d + 1 : Nat) : Int) - 1) (by omega) (by omega), show ((d + 1 : Nat) : Int) - 1 = (d : Int) by omega]
theorem drawn_ev (c : List Int) (hc : c.length ≤ 1048576) : ∃ S A G T B H lost, Ev (fun k => spec_DrawParties.f k c) (S, A, G, T, B, H, lost) ∧ lost.length ≤ 29 ∧ S.length ≤ 6 ∧ Short S ∧ T.length ≤ 6 ∧ Short T ∧ Two S T A G B H := by
  obtain ⟨r, hr⟩ := new_ok c hc
  obtain ⟨⟨S, A, G, T, B, H, p, s⟩, hE, h1, h2, h3, h4, h5, h6⟩ := pair_ev c hc (show InRow c 0 from ⟨by omega, by omega⟩) r
  obtain ⟨n, p1, s1, e, b0, b1, _, hp1⟩ := below_ok c hc h6 s 30
  have b1 := b1 (by omega)
  obtain ⟨m, rfl⟩ : ∃ m : Nat, n = (m : Int) := ⟨n.toNat, by omega⟩
  obtain ⟨lost, hl, hn⟩ := lost_loop c hc S A G T B H m [] p1 s1 (by simp; omega) hp1
  refine ⟨S, A, G, T, B, H, lost, ?_, hn, h1, h2, h3, h4, h5⟩
  unfold spec_DrawParties.f
  refine Ev.bind (v := (c, 0, r)) ⟨4000, hr⟩ (hE.bind ?_)
  simp only at e
  simp only [e, Option.bind_some]
  exact hl
/-! ### the law -/
theorem settle_ev (S T : List ByteArray) (lost : List Bool) (hS : S.length ≤ 6) (hs : Short S) (hT : T.length ≤ 6) (ht : Short T) (hl : lost.length ≤ 29) (A : Int) (G : List ByteArray) (B : Int) (H : List ByteArray) (h : Two S T A G B H) :
    ∃ (A' B' : Int), Ev (fun k => impl_Settle21.f k S A G T B H lost 20) (S, A', T, T, B', S, true) ∧ 0 ≤ A' ∧ A' ≤ S.length ∧ 0 ≤ B' ∧ B' ≤ T.length := by
  obtain ⟨A', B', hE, rest⟩ := rounds_ev S T lost hS hs hT ht hl 20 0 0 A G B H (by omega) h (by omega) (by omega) (fun h => by omega)
  refine ⟨A', B', ?_, rest⟩
  obtain ⟨g0, g1, h0, h1, a0, a1, b0, b1⟩ := h
  unfold impl_Settle21.f
  refine (party_ev S A G (by omega) (by omega) hs (short_take ht g0) a0 (by omega)).bind ?_
  simp only [if_true]
  refine (party_ev T B H (by omega) (by omega) ht (short_take hs h0) b0 (by omega)).bind ?_
  simp only [if_true]
  refine (begins_ev G T (by omega) g0 g1).bind ?_
  simp only [if_true]
  refine (begins_ev H S (by omega) h0 h1).bind ?_
  simp only [if_true, if_neg (show ¬ A > (H.length : Int) by omega), if_neg (show ¬ B > (G.length : Int) by omega), if_neg (show ¬ (lost.length : Int) > 2000 by omega), in_yes 20 0 50 (by omega) (by omega), Option.bind_some, Bool.not_true]
  refine Ev.succ ?_
  simp only [impl_Settle21.j0, Bool.false_eq_true, if_false, ownP S A G (by omega) (by omega), ownP T B H (by omega) (by omega), Option.bind_some]
  exact hE
def more : ByteArray := ⟨#[109, 111, 114, 101]⟩
theorem more_size : more.size = 4 := rfl
theorem send_ev (S : List ByteArray) (A : Int) (G : List ByteArray) (hS : S.length ≤ 6) (hs : Short S) (hG : G.length ≤ 6) (hg : Short G) (h0 : 0 ≤ A) (h1 : A ≤ S.length) : Ev (fun k => impl_Send21.f k S A G 0 more) (S ++ [more], A, G, 0, (S.length : Int) + 1, (G.length : Int), more, 0) := by
  unfold impl_Send21.f
  simp only [ownP S A G (by omega) (by omega), Option.bind_some]
  refine (party_ev S A G (by omega) (by omega) hs hg h0 h1).bind ?_
  simp only [if_true, in_yes 0 0 1 (by omega) (by omega), Option.bind_some]
  refine Ev.succ (Ev.of fun k => ?_)
  simp only [impl_Send21.j0]
  rw [if_neg (by rw [more_size]; decide), if_neg (by omega), if_pos (by omega), ownS _ (by simp; omega), Option.bind_some, List.length_append, List.length_singleton]
  rfl
theorem short_more {S : List ByteArray} (hs : Short S) : Short (S ++ [more]) := by
  intro x hx
  rcases List.mem_append.1 hx with h | h
  · exact hs x h
  · obtain rfl := List.mem_singleton.1 h; rw [more_size]; omega
theorem law_end (S T : List ByteArray) (A B A0 : Int) (G0 : List ByteArray) (hS : S.length ≤ 6) (hs : Short S) (hT : T.length ≤ 6) (ht : Short T) (h0 : 0 ≤ A) (h1 : A ≤ S.length) (h2 : 0 ≤ B) (h3 : B ≤ T.length) : Ev (fun k => laws_FnParties.l1 k (S.length : Int) S A0 G0 S A T T B S) true := by
  obtain ⟨m0, m1⟩ := mx_in h2 h3
  obtain ⟨a, rfl⟩ : ∃ a : Nat, A = (a : Int) := ⟨A.toNat, by omega⟩
  obtain ⟨L, hL, hA⟩ := again_ev (S ++ [more]) a T 0 (by simp; omega) (short_more hs) (by omega) ht (by simp; omega) (by omega) (by omega)
  have l1 := hL.1
  have t1 : tk S ((S.length : Int) + 1) more = S ++ [more] := by unfold tk; rw [if_pos ⟨rfl, by omega⟩]
  have t2 : tk (S ++ [more]) ((S.length : Int) + 1) more = S ++ [more] := by unfold tk; rw [if_neg (fun h => by have := h.1; rw [List.length_append, List.length_singleton] at this; omega)]
  have e2 := take_ev T B S 1 0 ((S.length : Int) + 1) (T.length : Int) more (by omega) ht (by omega) hs h2 h3 (by omega) (by omega) (by omega) (by omega) (by omega) (by omega) (by omega) (by rw [more_size]; omega)
  have e3 := take_ev T (mx B T.length) (S ++ [more]) 1 0 ((S.length : Int) + 1) (T.length : Int) more (by omega) ht (by simp; omega) (short_more hs) m0 m1 (by omega) (by omega) (by omega) (by omega) (by omega) (by omega) (by omega) (by rw [more_size]; omega)
  rw [t1] at e2
  rw [t2] at e3
  refine Ev.succ ?_
  simp only [laws_FnParties.l1, if_neg (show ¬ (S.length : Int) < (S.length : Int) by omega)]
  refine (send_ev S a T hS hs hT ht h0 h1).bind ?_
  refine e2.bind ?_
  refine e3.bind ?_
  refine hA.bind ?_
  simp only [if_true, List.length_append, List.length_singleton]
  simp only [if_pos (show ((S.length + 1 : Nat) : Int) = wrap64 ((S.length : Int) + 1) by rw [wn (by omega)])]
  refine Ev.succ (Ev.of fun k => ?_)
  simp only [laws_FnParties.j3]
  rw [decide_eq_true (by omega)]
theorem law_l1 (S T : List ByteArray) (A B A0 : Int) (G0 : List ByteArray) (hS : S.length ≤ 6) (hs : Short S) (hT : T.length ≤ 6) (ht : Short T) (h0 : 0 ≤ A) (h1 : A ≤ S.length) (h2 : 0 ≤ B) (h3 : B ≤ T.length) (d : Nat) : ∀ i : Nat, i + d = S.length → Ev (fun k => laws_FnParties.l1 k (i : Int) S A0 G0 S A T T B S) true := by
  induction d with
  | zero =>
    intro i hi
    obtain rfl : i = S.length := by omega
    exact law_end S T A B A0 G0 hS hs hT ht h0 h1 h2 h3
  | succ d ih =>
    intro i hi
    refine Ev.succ ((ih (i + 1) (by omega)).to fun k => ?_)
    simp only [laws_FnParties.l1]
    rw [if_pos (by omega), if_pos (by omega), if_pos (by omega), if_pos trivial, wn (by omega)]
theorem law_l0 (S T : List ByteArray) (A B A0 B0 : Int) (G0 H0 : List ByteArray) (hS : S.length ≤ 6) (hs : Short S) (hT : T.length ≤ 6) (ht : Short T) (h0 : 0 ≤ A) (h1 : A ≤ S.length) (h2 : 0 ≤ B) (h3 : B ≤ T.length) (d : Nat) : ∀ i : Nat, i + d = T.length → Ev (fun k => laws_FnParties.l0 k (i : Int) S A0 G0 T B0 H0 S A T T B S) true := by
  induction d with
  | zero =>
    intro i hi
    obtain rfl : i = T.length := by omega
    refine Ev.succ ((law_l1 S T A B A0 G0 hS hs hT ht h0 h1 h2 h3 S.length 0 (by omega)).to fun k => ?_)
    simp only [laws_FnParties.l0]
    rw [if_neg (by omega)]
    rfl
  | succ d ih =>
    intro i hi
    refine Ev.succ ((ih (i + 1) (by omega)).to fun k => ?_)
    simp only [laws_FnParties.l0]
    rw [if_pos (by omega), if_pos (by omega), if_pos (by omega), if_pos trivial, wn (by omega)]
theorem FnParties : laws_FnParties.Pure := by
  intro c hm _ hw
  by_cases hc : c.length ≤ 1048576
  · obtain ⟨S, A, G, T, B, H, lost, hE, hl, hS, hs, hT, ht, h⟩ := drawn_ev c hc
    obtain ⟨A', B', hZ, a0, a1, b0, b1⟩ := settle_ev S T lost hS hs hT ht hl A G B H h
    refine Ev.get (f := fun k => laws_FnParties.f k c) ?_
    unfold laws_FnParties.f laws_big.f
    simp only [decide_eq_false (show ¬ (c.length : Int) > 1048576 by omega), Option.bind_some, Bool.false_eq_true, if_false]
    refine hE.bind (hZ.bind ?_)
    simp only [if_true]
    refine (party_ev S A' T (by omega) (by omega) hs ht a0 a1).bind ?_
    simp only [if_true, bne_self_eq_false]
    refine Ev.succ ((law_l0 S T A' B' A B G H hS hs hT ht a0 a1 b0 b1 T.length 0 (by omega)).to fun k => ?_)
    simp only [laws_FnParties.j0]
    rw [if_neg (by simp)]
    rfl
  · refine ⟨0, ?_⟩
    unfold laws_FnParties.f laws_big.f
    rw [decide_eq_true (by omega), Option.bind_some, if_pos rfl]

end Go.Proofs.Ytmglilikmbbidaa.Pure
