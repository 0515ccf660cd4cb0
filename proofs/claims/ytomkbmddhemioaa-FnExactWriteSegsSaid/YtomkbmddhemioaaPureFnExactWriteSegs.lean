/- The program's WriteSegs returns what the reference's returns, for all arguments; it changes none of them. -/
import Derived.Test.YtomkbmddhemioaaPFnExactWriteSegsx9
import Derived.Test.YtomkbmddhemioaaKit
set_option linter.unusedVariables false
set_option linter.unusedSimpArgs false
namespace Go.Proofs.Ytomkbmddhemioaa.Pure
open Go.RowKit Go.Proofs.Ytomkbmddhemioaa.PFnExactWriteSegs Go.Proofs.YtomkbmddhemioaaW.PrintWords Go.Proofs.YtomkbmddhemioaaW.PrintLast Go.Proofs.YtomkbmddhemioaaW.PrintMore Go.Proofs.YtomkbmddhemioaaW.Kit

/-! ### lists of strings -/
theorem rs_lt {l : List ByteArray} {i : Int} (h0 : 0 ≤ i) (h1 : i < l.length) : ∃ h : i.toNat < l.length, rdOf ByteArray.empty l i = l[i.toNat]'h := by
  have h : i.toNat < l.length := by omega
  exact ⟨h, by simp [rdOf, List.getD_eq_getElem?_getD, List.getElem?_eq_getElem h]⟩
theorem rs_mem {l : List ByteArray} {i : Int} (h0 : 0 ≤ i) (h1 : i < l.length) : rdOf ByteArray.empty l i ∈ l := by
  obtain ⟨h, e⟩ := rs_lt h0 h1
  rw [e]; exact List.getElem_mem h
theorem sz_loop (l : List ByteArray) (hl : l.length ≤ 1048576) (hq : ∀ x ∈ l, x.size ≤ 9223372036854775807) (d : Nat) : ∀ (a i : Int), 0 ≤ a → a ≤ 1048576 → 0 ≤ i → i ≤ l.length → (l.length : Int) - i = d →
    ∃ t : Int, -1 ≤ t ∧ t ≤ a ∧ (0 ≤ t → ∀ x ∈ l.drop i.toNat, (x.size : Int) ≤ a) ∧ ∀ k, d < k → laws_szStringS.l0 k l a i = some t := by
  induction d with
  | zero =>
    intro a i ha ha1 h0 h1 hd
    refine ⟨a, by omega, by omega, fun _ x hx => ?_, fun k hk => ?_⟩
    · rw [List.drop_eq_nil_of_le (by omega)] at hx; cases hx
    · obtain ⟨k, rfl⟩ := pos_round (show 0 < k by omega)
      simp only [laws_szStringS.l0]
      rw [if_neg (by omega)]
  | succ d ih =>
    intro a i ha ha1 h0 h1 hd
    have hlt : i < (l.length : Int) := by omega
    have hs := hq _ (rs_mem h0 hlt)
    have hs0 : (0 : Int) ≤ ((rdOf ByteArray.empty l i).size : Int) := by omega
    by_cases c : a - ((rdOf ByteArray.empty l i).size : Int) < 0
    · refine ⟨-1, by omega, by omega, fun h => by omega, fun k hk => ?_⟩
      obtain ⟨k, rfl⟩ := pos_round (show 0 < k by omega)
      simp only [laws_szStringS.l0]
      rw [if_pos hlt, if_pos h0, w64 (x := a - _) (by omega) (by omega), if_pos c]
    · obtain ⟨t, t0, t1, t2, t3⟩ := ih (a - ((rdOf ByteArray.empty l i).size : Int)) (i + 1) (by omega) (by omega) (by omega) (by omega) (by omega)
      refine ⟨t, t0, by omega, fun ht x hx => ?_, fun k hk => ?_⟩
      · obtain ⟨hn, e⟩ := rs_lt h0 hlt
        rw [List.drop_eq_getElem_cons hn, ← e] at hx
        rcases List.mem_cons.1 hx with rfl | hx
        · omega
        · have := t2 ht x (by rw [show (i + 1).toNat = i.toNat + 1 by omega]; exact hx)
          omega
      · obtain ⟨k, rfl⟩ := pos_round (show 0 < k by omega)
        simp only [laws_szStringS.l0]
        rw [if_pos hlt, if_pos h0, w64 (x := a - _) (by omega) (by omega), if_neg c, w64 (x := i + 1) (by omega) (by omega)]
        exact t3 k (by omega)
theorem sz_ok (l : List ByteArray) (hm : l.length ≤ 9223372036854775807) (hq : ∀ x ∈ l, x.size ≤ 9223372036854775807) (a : Int) (ha : 0 ≤ a) (ha1 : a ≤ 1048576) :
    ∃ t : Int, -1 ≤ t ∧ t ≤ a ∧ (0 ≤ t → (l.length : Int) ≤ a ∧ ∀ x ∈ l, (x.size : Int) ≤ a) ∧ ∀ k, 1048576 < k → laws_szStringS.f k l a = some t := by
  by_cases c : a - (l.length : Int) < 0
  · refine ⟨-1, by omega, by omega, fun h => by omega, fun k hk => ?_⟩
    unfold laws_szStringS.f
    rw [w64 (by omega) (by omega), if_pos c]
  · obtain ⟨t, t0, t1, t2, t3⟩ := sz_loop l (by omega) hq l.length (a - l.length) 0 (by omega) (by omega) (by omega) (by omega) (by omega)
    refine ⟨t, t0, by omega, fun ht => ⟨by omega, fun x hx => ?_⟩, fun k hk => ?_⟩
    · have := t2 ht x (by simpa using hx); omega
    · unfold laws_szStringS.f
      rw [w64 (by omega) (by omega), if_neg c]
      exact t3 k (by omega)
theorem toS_loop (l : List ByteArray) (hn : l.length ≤ 1048576) (d : Nat) : ∀ (k : Nat) (o : List ByteArray) (i : Int), 0 ≤ i → i ≤ l.length → (l.length : Int) - i = d → d < k → o.length = l.length → o.take i.toNat = l.take i.toNat → laws_toStringS.l0 k l o i = some l := by
  induction d with
  | zero =>
    intro k o i h0 h1 hd hk ho ht
    obtain ⟨k, rfl⟩ := pos_round (show 0 < k by omega)
    simp only [laws_toStringS.l0]
    rw [if_neg (by omega)]
    rw [List.take_of_length_le (by omega), List.take_of_length_le (by omega)] at ht
    rw [ht]
  | succ d ih =>
    intro k o i h0 h1 hd hk ho ht
    obtain ⟨k, rfl⟩ := pos_round (show 0 < k by omega)
    obtain ⟨hl, e⟩ := rs_lt h0 (show i < (l.length : Int) by omega)
    simp only [laws_toStringS.l0]
    rw [if_pos (by omega), if_pos h0, if_pos (by omega), w64 (x := i + 1) (by omega) (by omega)]
    refine ih k _ (i + 1) (by omega) (by omega) (by omega) (by omega) (by simpa using ho) ?_
    rw [show (i + 1).toNat = i.toNat + 1 by omega, List.take_succ_eq_append_getElem (by simp; omega), List.take_succ_eq_append_getElem hl, List.take_set_of_le (Nat.le_refl _), ht]
    simp [e]
theorem toS_ok (l : List ByteArray) (hn : l.length ≤ 1048576) (k : Nat) (hk : l.length < k) : laws_toStringS.f k l = some l := by
  unfold laws_toStringS.f
  rw [if_pos (by omega), if_pos (by omega)]
  exact toS_loop l hn l.length k _ 0 (by omega) (by omega) (by omega) hk (by simp) (by simp)
theorem eqS_loop (l : List ByteArray) (hn : l.length ≤ 1000000000) (d : Nat) : ∀ (k : Nat) (i : Int), 0 ≤ i → i ≤ l.length → (l.length : Int) - i = d → d < k → laws_eqStringS.l0 k l l i = some true := by
  induction d with
  | zero =>
    intro k i h0 h1 hd hk
    obtain ⟨k, rfl⟩ := pos_round (show 0 < k by omega)
    simp only [laws_eqStringS.l0]
    rw [if_neg (by omega)]
  | succ d ih =>
    intro k i h0 h1 hd hk
    obtain ⟨k, rfl⟩ := pos_round (show 0 < k by omega)
    simp only [laws_eqStringS.l0]
    rw [if_pos (by omega), if_pos h0, if_pos (by omega), if_pos trivial, w64 (x := i + 1) (by omega) (by omega)]
    exact ih k (i + 1) (by omega) (by omega) (by omega) (by omega)
theorem eqS_ok (l : List ByteArray) (hn : l.length ≤ 1000000000) (k : Nat) (hk : l.length < k) : laws_eqStringS.f k l l = some true := by
  unfold laws_eqStringS.f
  rw [if_pos rfl]
  exact eqS_loop l hn l.length k 0 (by omega) (by omega) (by omega) hk
theorem rd34_lt {l : List S34} {i : Int} (h0 : 0 ≤ i) (h1 : i < l.length) : ∃ h : i.toNat < l.length, rd_T34 l i = l[i.toNat]'h := by
  have h : i.toNat < l.length := by omega
  exact ⟨h, by simp [rd_T34, List.getD_eq_getElem?_getD, List.getElem?_eq_getElem h]⟩
theorem rd34_mem {l : List S34} {i : Int} (h0 : 0 ≤ i) (h1 : i < l.length) : rd_T34 l i ∈ l := by
  obtain ⟨h, e⟩ := rd34_lt h0 h1
  rw [e]; exact List.getElem_mem h
theorem rd34_drop {l : List S34} {i : Int} (h0 : 0 ≤ i) (h1 : i < l.length) : l.drop i.toNat = rd_T34 l i :: l.drop (i + 1).toNat := by
  obtain ⟨h, e⟩ := rd34_lt h0 h1
  rw [e, show (i + 1).toNat = i.toNat + 1 by omega, List.drop_eq_getElem_cons h]
theorem rd34_take {l : List S34} {i : Int} (h0 : 0 ≤ i) (h1 : i < l.length) : l.take (i + 1).toNat = l.take i.toNat ++ [rd_T34 l i] := by
  obtain ⟨h, e⟩ := rd34_lt h0 h1
  rw [e, show (i + 1).toNat = i.toNat + 1 by omega, List.take_succ_eq_append_getElem h]
theorem rd34_set_eq {l : List S34} {i : Int} {x : S34} (h0 : 0 ≤ i) (h1 : i < l.length) : rd_T34 (l.set i.toNat x) i = x := by
  simp [rd_T34, List.getD_eq_getElem?_getD, List.getElem?_set, show i.toNat < l.length by omega]
theorem rd34_set_ne {l : List S34} {i j : Int} {x : S34} (h0 : 0 ≤ i) (hj : 0 ≤ j) (h : i ≠ j) : rd_T34 (l.set i.toNat x) j = rd_T34 l j := by
  simp [rd_T34, List.getD_eq_getElem?_getD, List.getElem?_set, show ¬ i.toNat = j.toNat by omega]
theorem rd34_append_left {l m : List S34} {i : Int} (h0 : 0 ≤ i) (h1 : i < l.length) : rd_T34 (l ++ m) i = rd_T34 l i := by
  simp [rd_T34, List.getD_eq_getElem?_getD, List.getElem?_append_left (show i.toNat < l.length by omega)]
theorem rd34_last {l : List S34} {x : S34} : rd_T34 (l ++ [x]) (l.length : Int) = x := by
  simp [rd_T34, List.getD_eq_getElem?_getD]
theorem ext34 {l m : List S34} (h : l.length = m.length) (hr : ∀ i : Int, 0 ≤ i → i < l.length → rd_T34 l i = rd_T34 m i) : l = m := by
  apply List.ext_getElem h
  intro i h1 h2
  have := hr i (by omega) (by omega)
  simpa [rd_T34, List.getD_eq_getElem?_getD, List.getElem?_eq_getElem h1, List.getElem?_eq_getElem h2] using this
theorem rd36_lt {l : List S36} {i : Int} (h0 : 0 ≤ i) (h1 : i < l.length) : ∃ h : i.toNat < l.length, rd_T36 l i = l[i.toNat]'h := by
  have h : i.toNat < l.length := by omega
  exact ⟨h, by simp [rd_T36, List.getD_eq_getElem?_getD, List.getElem?_eq_getElem h]⟩
theorem rd36_mem {l : List S36} {i : Int} (h0 : 0 ≤ i) (h1 : i < l.length) : rd_T36 l i ∈ l := by
  obtain ⟨h, e⟩ := rd36_lt h0 h1
  rw [e]; exact List.getElem_mem h
theorem rd36_drop {l : List S36} {i : Int} (h0 : 0 ≤ i) (h1 : i < l.length) : l.drop i.toNat = rd_T36 l i :: l.drop (i + 1).toNat := by
  obtain ⟨h, e⟩ := rd36_lt h0 h1
  rw [e, show (i + 1).toNat = i.toNat + 1 by omega, List.drop_eq_getElem_cons h]
theorem rd36_take {l : List S36} {i : Int} (h0 : 0 ≤ i) (h1 : i < l.length) : l.take (i + 1).toNat = l.take i.toNat ++ [rd_T36 l i] := by
  obtain ⟨h, e⟩ := rd36_lt h0 h1
  rw [e, show (i + 1).toNat = i.toNat + 1 by omega, List.take_succ_eq_append_getElem h]
theorem rd36_set_eq {l : List S36} {i : Int} {x : S36} (h0 : 0 ≤ i) (h1 : i < l.length) : rd_T36 (l.set i.toNat x) i = x := by
  simp [rd_T36, List.getD_eq_getElem?_getD, List.getElem?_set, show i.toNat < l.length by omega]
theorem rd36_set_ne {l : List S36} {i j : Int} {x : S36} (h0 : 0 ≤ i) (hj : 0 ≤ j) (h : i ≠ j) : rd_T36 (l.set i.toNat x) j = rd_T36 l j := by
  simp [rd_T36, List.getD_eq_getElem?_getD, List.getElem?_set, show ¬ i.toNat = j.toNat by omega]
theorem rd36_append_left {l m : List S36} {i : Int} (h0 : 0 ≤ i) (h1 : i < l.length) : rd_T36 (l ++ m) i = rd_T36 l i := by
  simp [rd_T36, List.getD_eq_getElem?_getD, List.getElem?_append_left (show i.toNat < l.length by omega)]
theorem rd36_last {l : List S36} {x : S36} : rd_T36 (l ++ [x]) (l.length : Int) = x := by
  simp [rd_T36, List.getD_eq_getElem?_getD]
theorem ext36 {l m : List S36} (h : l.length = m.length) (hr : ∀ i : Int, 0 ≤ i → i < l.length → rd_T36 l i = rd_T36 m i) : l = m := by
  apply List.ext_getElem h
  intro i h1 h2
  have := hr i (by omega) (by omega)
  simpa [rd_T36, List.getD_eq_getElem?_getD, List.getElem?_eq_getElem h1, List.getElem?_eq_getElem h2] using this
/-! ### what is answered from some round on -/
def Ev {α : Type} (f : Nat → Option α) (v : α) : Prop := ∃ M, ∀ k, M < k → f k = some v
theorem Ev.of {α : Type} {f : Nat → Option α} {v : α} (h : ∀ k, f k = some v) : Ev f v := ⟨0, fun k _ => h k⟩
theorem Ev.succ {α : Type} {f : Nat → Option α} {v : α} (h : Ev (fun k => f (k + 1)) v) : Ev f v := by
  obtain ⟨M, h⟩ := h
  refine ⟨M + 1, fun k hk => ?_⟩
  obtain ⟨k, rfl⟩ := pos_round (show 0 < k by omega)
  exact h k (by omega)
theorem Ev.bind {α β : Type} {f : Nat → Option α} {g : Nat → α → Option β} {v : α} {w : β} (h1 : Ev f v) (h2 : Ev (fun k => g k v) w) : Ev (fun k => (f k).bind (g k)) w := by
  obtain ⟨M, h1⟩ := h1
  obtain ⟨N, h2⟩ := h2
  refine ⟨M + N, fun k hk => ?_⟩
  show (f k).bind (g k) = some w
  rw [h1 k (by omega)]
  exact h2 k (by omega)
theorem Ev.to {α : Type} {f g : Nat → Option α} {v : α} (h : Ev g v) (e : ∀ k, f k = g k) : Ev f v := by
  obtain ⟨M, h⟩ := h
  exact ⟨M, fun k hk => by rw [e k]; exact h k hk⟩
theorem Ev.get {α : Type} {f : Nat → Option α} {v : α} (h : Ev f v) : ∃ k, f k = some v := by
  obtain ⟨M, h⟩ := h
  exact ⟨M + 1, h _ (by omega)⟩
theorem getD_at {α : Type} {z : α} {l : List α} {i : Nat} (h : i < l.length) : l.getD i z = l[i] := by
  simp [List.getD_eq_getElem?_getD, List.getElem?_eq_getElem h]
/-- All of a list are right, told from its end. -/
theorem all_down {α : Type} (l : List α) (p : α → Bool) (L : Nat → Int → Option Bool) (b0 : Bool)
    (h : ∀ (i : Nat) (hi : i < l.length) (b : Bool), (p l[i] = true → Ev (fun k => L k ((i + 1 : Nat) : Int)) b) → Ev (fun k => L k (i : Int)) (p l[i] && b)) (d : Nat) :
    ∀ i : Nat, i ≤ l.length → l.length - i = d → ((l.drop i).all p = true → Ev (fun k => L k (l.length : Int)) b0) → Ev (fun k => L k (i : Int)) ((l.drop i).all p && b0) := by
  induction d with
  | zero =>
    intro i h1 hd hE
    obtain rfl : i = l.length := by omega
    rw [List.drop_eq_nil_of_le (Nat.le_refl _)] at hE ⊢
    exact hE rfl
  | succ d ih =>
    intro i h1 hd hE
    have hi : i < l.length := by omega
    rw [List.drop_eq_getElem_cons hi, List.all_cons, Bool.and_assoc]
    refine h i hi _ fun hp => ih (i + 1) (by omega) (by omega) fun ha => hE ?_
    rw [List.drop_eq_getElem_cons hi, List.all_cons, hp, ha]; rfl
theorem all_down0 {α : Type} (l : List α) (p : α → Bool) (L : Nat → Int → Option Bool) (b0 : Bool)
    (h : ∀ (i : Nat) (hi : i < l.length) (b : Bool), (p l[i] = true → Ev (fun k => L k ((i + 1 : Nat) : Int)) b) → Ev (fun k => L k (i : Int)) (p l[i] && b))
    (hE : l.all p = true → Ev (fun k => L k (l.length : Int)) b0) : Ev (fun k => L k 0) (l.all p && b0) := by
  have := all_down l p L b0 h l.length 0 (by omega) (by omega) (by simpa using hE)
  simpa using this
/-- A list is found whole, element by element. -/
theorem copy_up {α β : Type} (l : List α) (g : α → β) (L : Nat → List β → Int → Option (List β))
    (h : ∀ (i : Nat) (hi : i < l.length) (o : List β) (r : List β), o.length = l.length → Ev (fun k => L k (o.set i (g l[i])) ((i + 1 : Nat) : Int)) r → Ev (fun k => L k o (i : Int)) r)
    (hE : ∀ o, Ev (fun k => L k o (l.length : Int)) o) (d : Nat) :
    ∀ (i : Nat) (o : List β), i ≤ l.length → l.length - i = d → o.length = l.length → o.take i = (l.map g).take i → Ev (fun k => L k o (i : Int)) (l.map g) := by
  induction d with
  | zero =>
    intro i o h1 hd ho ht
    obtain rfl : i = l.length := by omega
    rw [List.take_of_length_le (by omega), List.take_of_length_le (by simp)] at ht
    rw [← ht]; exact hE o
  | succ d ih =>
    intro i o h1 hd ho ht
    have hi : i < l.length := by omega
    refine h i hi o _ ho (ih (i + 1) _ (by omega) (by omega) (by simpa using ho) ?_)
    rw [List.take_succ_eq_append_getElem (by simp; omega), List.take_succ_eq_append_getElem (by simp; omega), List.take_set_of_le (Nat.le_refl _), ht]
    simp
theorem copy_up0 {α β : Type} (l : List α) (g : α → β) (z : β) (L : Nat → List β → Int → Option (List β))
    (h : ∀ (i : Nat) (hi : i < l.length) (o : List β) (r : List β), o.length = l.length → Ev (fun k => L k (o.set i (g l[i])) ((i + 1 : Nat) : Int)) r → Ev (fun k => L k o (i : Int)) r)
    (hE : ∀ o, Ev (fun k => L k o (l.length : Int)) o) : Ev (fun k => L k (List.replicate l.length z) 0) (l.map g) := by
  have := copy_up l g L h hE l.length 0 (List.replicate l.length z) (by omega) (by omega) (by simp) (by simp)
  simpa using this
/-- Sizes that are taken off one after another. -/
theorem size_up {α : Type} (l : List α) (P : α → Int → Prop) (hP : ∀ x a b, a ≤ b → P x a → P x b) (L : Nat → Int → Int → Option Int)
    (h : ∀ (i : Nat) (hi : i < l.length) (a : Int), 0 ≤ a → a ≤ 1048576 → ∃ t, -1 ≤ t ∧ t ≤ a ∧ (0 ≤ t → P l[i] a) ∧ ∀ r, Ev (fun k => if t < 0 then some (-1) else L k t ((i + 1 : Nat) : Int)) r → Ev (fun k => L k a (i : Int)) r)
    (hE : ∀ a, Ev (fun k => L k a (l.length : Int)) a) (d : Nat) :
    ∀ (i : Nat) (a : Int), i ≤ l.length → l.length - i = d → 0 ≤ a → a ≤ 1048576 → ∃ t, -1 ≤ t ∧ t ≤ a ∧ (0 ≤ t → ∀ x ∈ l.drop i, P x a) ∧ Ev (fun k => L k a (i : Int)) t := by
  induction d with
  | zero =>
    intro i a h1 hd ha ha1
    obtain rfl : i = l.length := by omega
    exact ⟨a, by omega, by omega, fun _ x hx => (by rw [List.drop_eq_nil_of_le (Nat.le_refl _)] at hx; cases hx), hE a⟩
  | succ d ih =>
    intro i a h1 hd ha ha1
    have hi : i < l.length := by omega
    obtain ⟨t, t0, t1, t2, t3⟩ := h i hi a ha ha1
    by_cases c : t < 0
    · exact ⟨-1, by omega, by omega, fun h => by omega, t3 _ (by simp only [if_pos c]; exact Ev.of fun _ => rfl)⟩
    · obtain ⟨u, u0, u1, u2, u3⟩ := ih (i + 1) t (by omega) (by omega) (by omega) (by omega)
      refine ⟨u, u0, by omega, fun hu x hx => ?_, t3 _ (by simp only [if_neg c]; exact u3)⟩
      rw [List.drop_eq_getElem_cons hi] at hx
      rcases List.mem_cons.1 hx with rfl | hx
      · exact t2 (by omega)
      · exact hP _ _ _ t1 (u2 hu x hx)
/-- What is written, part by part. -/
def wl {α γ : Type} (w : Nat → α → List γ) : Nat → List α → List γ
  | _, [] => []
  | i, x :: l => w i x ++ wl w (i + 1) l
theorem wl_map {α γ δ : Type} (f : γ → δ) (w : Nat → α → List γ) (l : List α) : ∀ i, (wl w i l).map f = wl (fun i x => (w i x).map f) i l := by
  induction l with
  | nil => intro i; rfl
  | cons x l ih => intro i; simp only [wl, List.map_append, ih]
theorem wl_le {α γ : Type} (w : Nat → α → List γ) (c : Nat) (l : List α) (h : ∀ i, ∀ x ∈ l, (w i x).length ≤ c) : ∀ i, (wl w i l).length ≤ c * l.length := by
  induction l with
  | nil => intro i; simp [wl]
  | cons x l ih =>
    intro i
    have h1 := h i x (by simp)
    have h2 := ih (fun i y hy => h i y (by simp [hy])) (i + 1)
    simp only [wl, List.length_append, List.length_cons, Nat.mul_add, Nat.mul_one]
    omega
theorem cont {α γ β : Type} (l : List α) (w : Nat → α → List γ) (L : Nat → List γ → Int → Option β)
    (h : ∀ (i : Nat) (hi : i < l.length) (a : List γ) (r : β), (a ++ w i l[i]).length ≤ 1000000000 → Ev (fun k => L k (a ++ w i l[i]) ((i + 1 : Nat) : Int)) r → Ev (fun k => L k a (i : Int)) r) (d : Nat) :
    ∀ (i : Nat) (a : List γ) (r : β), i ≤ l.length → l.length - i = d → (a ++ wl w i (l.drop i)).length ≤ 1000000000 → Ev (fun k => L k (a ++ wl w i (l.drop i)) (l.length : Int)) r → Ev (fun k => L k a (i : Int)) r := by
  induction d with
  | zero =>
    intro i a r h1 hd hn hr
    obtain rfl : i = l.length := by omega
    rw [List.drop_eq_nil_of_le (Nat.le_refl _)] at hr
    simpa [wl] using hr
  | succ d ih =>
    intro i a r h1 hd hn hr
    have hi : i < l.length := by omega
    rw [List.drop_eq_getElem_cons hi] at hr hn
    simp only [wl, ← List.append_assoc] at hr hn
    exact h i hi a r (by rw [List.length_append] at hn; omega) (ih (i + 1) _ r (by omega) (by omega) hn hr)
theorem cont0 {α γ β : Type} (l : List α) (w : Nat → α → List γ) (L : Nat → List γ → Int → Option β) (a : List γ) (r : β)
    (h : ∀ (i : Nat) (hi : i < l.length) (a : List γ) (r : β), (a ++ w i l[i]).length ≤ 1000000000 → Ev (fun k => L k (a ++ w i l[i]) ((i + 1 : Nat) : Int)) r → Ev (fun k => L k a (i : Int)) r)
    (hn : (a ++ wl w 0 l).length ≤ 1000000000) (hr : Ev (fun k => L k (a ++ wl w 0 l) (l.length : Int)) r) : Ev (fun k => L k a 0) r := by
  have := cont l w L h l.length 0 a r (by omega) (by omega) (by simpa using hn) (by simpa using hr)
  simpa using this
theorem wn {i : Nat} (h : i < 9223372036854775807) : wrap64 ((i : Int) + 1) = ((i + 1 : Nat) : Int) := w64 (by omega) (by omega)
theorem S_nat {l : List ByteArray} {i : Nat} (h : i < l.length) : rdOf ByteArray.empty l (i : Int) = l[i] := by simp [rdOf, List.getD_eq_getElem?_getD, List.getElem?_eq_getElem h]
theorem L1_nat {l : List (List ByteArray)} {i : Nat} (h : i < l.length) : rd_L1 l (i : Int) = l[i] := by simp [rd_L1, List.getD_eq_getElem?_getD, List.getElem?_eq_getElem h]
theorem T34_nat {l : List S34} {i : Nat} (h : i < l.length) : rd_T34 l (i : Int) = l[i] := by simp [rd_T34, List.getD_eq_getElem?_getD, List.getElem?_eq_getElem h]
theorem T36_nat {l : List S36} {i : Nat} (h : i < l.length) : rd_T36 l (i : Int) = l[i] := by simp [rd_T36, List.getD_eq_getElem?_getD, List.getElem?_eq_getElem h]
theorem bs_length (s : ByteArray) : s.data.toList.length = s.size := by rw [Array.length_toList]; rfl
theorem ub_nat {s : ByteArray} {i : Nat} (h : i < s.data.toList.length) : ub s (i : Int) = s.data.toList[i] := by simp only [ub, Int.toNat_natCast]; exact getD_at h
theorem bt_nat {s : ByteArray} {i : Nat} (h : i < s.data.toList.length) : bt s (i : Int) = ((s.data.toList[i]).toNat : Int) := by
  rw [← bt_at s (i : Int) (by simpa [bs_length] using h)]
  rfl
/-! ### sizes -/
theorem sz2 (l : List (List ByteArray)) (hm : l.length ≤ 9223372036854775807) (hq : ∀ x ∈ l, x.length ≤ 9223372036854775807 ∧ ∀ y ∈ x, y.size ≤ 9223372036854775807) (a : Int) (ha : 0 ≤ a) (ha1 : a ≤ 1048576) :
    ∃ t : Int, -1 ≤ t ∧ t ≤ a ∧ (0 ≤ t → (l.length : Int) ≤ a ∧ ∀ x ∈ l, (x.length : Int) ≤ a ∧ ∀ y ∈ x, (y.size : Int) ≤ a) ∧ Ev (fun k => laws_szStringSS.f k l a) t := by
  by_cases c : a - (l.length : Int) < 0
  · exact ⟨-1, by omega, by omega, fun h => by omega, Ev.of fun k => by unfold laws_szStringSS.f; rw [w64 (by omega) (by omega), if_pos c]⟩
  · have HS := size_up l (fun x a => (x.length : Int) ≤ a ∧ ∀ y ∈ x, (y.size : Int) ≤ a) (fun x a b h1 h2 => ⟨by have := h2.1; omega, fun y hy => by have := h2.2 y hy; omega⟩)
      (fun k a i => laws_szStringSS.l0 k l a i) ?_ ?_ l.length 0 (a - l.length) (by omega) (by omega) (by omega) (by omega)
    · obtain ⟨t, t0, t1, t2, t3⟩ := HS
      refine ⟨t, t0, by omega, fun ht => ⟨by omega, fun x hx => ?_⟩, t3.to fun k => ?_⟩
      · have := t2 ht x (by simpa using hx)
        exact ⟨by have := this.1; omega, fun y hy => by have := this.2 y hy; omega⟩
      · show laws_szStringSS.f k l a = laws_szStringSS.l0 k l _ 0
        unfold laws_szStringSS.f
        rw [w64 (by omega) (by omega), if_neg c]
    · intro i hi a ha ha1
      obtain ⟨h1, h2⟩ := hq _ (List.getElem_mem hi)
      obtain ⟨t, t0, t1, t2, t3⟩ := sz_ok l[i] h1 h2 a ha ha1
      refine ⟨t, t0, t1, t2, fun r hr => Ev.succ ((Ev.bind (g := fun k t => if t < 0 then some (-1) else laws_szStringSS.l0 k l t (wrap64 ((i : Int) + 1))) ⟨_, t3⟩ ?_).to fun k => ?_)⟩
      · rw [wn (by omega)]; exact hr
      · simp only [laws_szStringSS.l0]
        rw [if_pos (by omega), if_pos (by omega), L1_nat hi]
    · intro a
      refine Ev.succ (Ev.of fun k => ?_)
      simp only [laws_szStringSS.l0]
      rw [if_neg (by omega)]
theorem szSeg (x : S34) (hx : okT34 x) (a : Int) (ha : 0 ≤ a) (ha1 : a ≤ 1048576) :
    ∃ t : Int, -1 ≤ t ∧ t ≤ a ∧ (0 ≤ t → (x.f0.size : Int) ≤ a ∧ (x.f1.length : Int) ≤ a ∧ ∀ q ∈ x.f1, (q.length : Int) ≤ a ∧ ∀ y ∈ q, (y.size : Int) ≤ a) ∧ Ev (fun k => laws_szSeg.f k x.f0 x.f1 a) t := by
  obtain ⟨h0, h1, h2⟩ := hx
  by_cases c : a - (x.f0.size : Int) < 0
  · exact ⟨-1, by omega, by omega, fun h => by omega, Ev.of fun k => by unfold laws_szSeg.f; rw [w64 (by omega) (by omega), if_pos c]⟩
  · obtain ⟨t, t0, t1, t2, t3⟩ := sz2 x.f1 h1 h2 (a - x.f0.size) (by omega) (by omega)
    refine ⟨t, t0, by omega, fun ht => ⟨by omega, by have := (t2 ht).1; omega, fun q hq => ⟨by have := ((t2 ht).2 q hq).1; omega, fun y hy => by have := ((t2 ht).2 q hq).2 y hy; omega⟩⟩, (Ev.bind (g := fun k t => if t < 0 then some (-1) else some t) t3 (Ev.of fun k => ?_)).to fun k => ?_⟩
    · split
      · congr 1; omega
      · rfl
    · show laws_szSeg.f k _ _ a = _
      unfold laws_szSeg.f
      rw [w64 (by omega) (by omega), if_neg c]
def smallG (x : S34) : Prop := x.f0.size ≤ 1048576 ∧ x.f1.length ≤ 1048576 ∧ ∀ q ∈ x.f1, q.length ≤ 1048576 ∧ ∀ y ∈ q, y.size ≤ 1048576
theorem szG (l : List S34) (hm : l.length ≤ 9223372036854775807) (hq : ∀ x ∈ l, okT34 x) :
    ∃ t : Int, (0 ≤ t → l.length ≤ 1048576 ∧ ∀ x ∈ l, smallG x) ∧ Ev (fun k => laws_szSegS.f k l 1048576) t := by
  by_cases c : 1048576 - (l.length : Int) < 0
  · exact ⟨-1, fun h => by omega, Ev.of fun k => by unfold laws_szSegS.f; rw [w64 (by omega) (by omega), if_pos c]⟩
  · have HS := size_up l (fun x a => (x.f0.size : Int) ≤ a ∧ (x.f1.length : Int) ≤ a ∧ ∀ q ∈ x.f1, (q.length : Int) ≤ a ∧ ∀ y ∈ q, (y.size : Int) ≤ a)
      (fun x a b h1 h2 => ⟨by have := h2.1; omega, by have := h2.2.1; omega, fun q hq => ⟨by have := (h2.2.2 q hq).1; omega, fun y hy => by have := (h2.2.2 q hq).2 y hy; omega⟩⟩)
      (fun k a i => laws_szSegS.l0 k l a i) ?_ ?_ l.length 0 (1048576 - l.length) (by omega) (by omega) (by omega) (by omega)
    · obtain ⟨t, t0, t1, t2, t3⟩ := HS
      refine ⟨t, fun ht => ⟨by omega, fun x hx => ?_⟩, t3.to fun k => ?_⟩
      · have := t2 ht x (by simpa using hx)
        exact ⟨by have := this.1; omega, by have := this.2.1; omega, fun q hq => ⟨by have := (this.2.2 q hq).1; omega, fun y hy => by have := (this.2.2 q hq).2 y hy; omega⟩⟩
      · show laws_szSegS.f k l _ = laws_szSegS.l0 k l _ 0
        unfold laws_szSegS.f
        rw [w64 (by omega) (by omega), if_neg c]
    · intro i hi a ha ha1
      obtain ⟨t, t0, t1, t2, t3⟩ := szSeg l[i] (hq _ (List.getElem_mem hi)) a ha ha1
      refine ⟨t, t0, t1, t2, fun r hr => Ev.succ ((Ev.bind (g := fun k t => if t < 0 then some (-1) else laws_szSegS.l0 k l t (wrap64 ((i : Int) + 1))) t3 ?_).to fun k => ?_)⟩
      · rw [wn (by omega)]; exact hr
      · simp only [laws_szSegS.l0]
        rw [if_pos (by omega), if_pos (by omega), T34_nat hi]
    · intro a
      refine Ev.succ (Ev.of fun k => ?_)
      simp only [laws_szSegS.l0]
      rw [if_neg (by omega)]
/-! ### copies -/
theorem to2 (l : List (List ByteArray)) (hn : l.length ≤ 1048576) (hq : ∀ q ∈ l, q.length ≤ 1048576) : Ev (fun k => laws_toStringSS.f k l) l := by
  have h0 := copy_up0 l (fun x => x) ([] : List ByteArray) (fun k o i => laws_toStringSS.l0 k l o i) ?_ ?_
  · refine (by simpa using h0 : Ev _ l).to fun k => ?_
    unfold laws_toStringSS.f
    rw [if_pos (by omega), if_pos (by omega), Int.toNat_natCast]
  · intro i hi o r ho hr
    refine Ev.succ ((Ev.bind (g := fun k t => if (i : Int) < (o.length : Int) then laws_toStringSS.l0 k l (o.set i t) (wrap64 ((i : Int) + 1)) else none) ⟨_, toS_ok l[i] (hq _ (List.getElem_mem hi))⟩ ?_).to fun k => ?_)
    · rw [wn (by omega)]; simp only [if_pos (show (i : Int) < (o.length : Int) by omega)]; exact hr
    · simp only [laws_toStringSS.l0, Int.toNat_natCast]
      rw [if_pos (by omega), if_pos (by omega), L1_nat hi]
  · intro o
    refine Ev.succ (Ev.of fun k => ?_)
    simp only [laws_toStringSS.l0]
    rw [if_neg (by omega)]
def toG (l : List S34) : List S36 := l.map fun x => ⟨x.f0, x.f1⟩
theorem toG_ok (l : List S34) (hn : l.length ≤ 1048576) (hq : ∀ x ∈ l, smallG x) : Ev (fun k => laws_toSegS.f k l) (toG l) := by
  have h0 := copy_up0 l (fun x => (⟨x.f0, x.f1⟩ : S36)) z36 (fun k o i => laws_toSegS.l0 k l o i) ?_ ?_
  · refine h0.to fun k => ?_
    unfold laws_toSegS.f
    rw [if_pos (by omega), if_pos (by omega), Int.toNat_natCast]
  · intro i hi o r ho hr
    obtain ⟨q0, q1, q2⟩ := hq _ (List.getElem_mem hi)
    refine Ev.succ ((Ev.bind (g := fun k (bt131 : ByteArray × List (List ByteArray)) => if (i : Int) < (o.length : Int) then laws_toSegS.l0 k l (o.set i (⟨bt131.1, bt131.2⟩ : S36)) (wrap64 ((i : Int) + 1)) else none) (f := fun k => laws_toSeg.f k l[i].f0 l[i].f1) (v := (l[i].f0, l[i].f1)) ?_ ?_).to fun k => ?_)
    · exact (Ev.bind (g := fun k t => some (l[i].f0, t)) (to2 l[i].f1 q1 fun q h => (q2 q h).1) (Ev.of fun k => rfl)).to fun k => rfl
    · rw [wn (by omega)]; simp only [if_pos (show (i : Int) < (o.length : Int) by omega)]; exact hr
    · simp only [laws_toSegS.l0, Int.toNat_natCast]
      rw [if_pos (by omega), if_pos (by omega), T34_nat hi]
  · intro o
    refine Ev.succ (Ev.of fun k => ?_)
    simp only [laws_toSegS.l0]
    rw [if_neg (by omega)]
theorem eq2 (l : List (List ByteArray)) (hn : l.length ≤ 1048576) (hq : ∀ q ∈ l, q.length ≤ 1048576) : Ev (fun k => laws_eqStringSS.f k l l) true := by
  have h0 := all_down0 l (fun _ => true) (fun k i => laws_eqStringSS.l0 k l l i) true ?_ ?_
  · rw [show (l.all fun _ => true) = true from List.all_eq_true.2 fun _ _ => rfl] at h0
    refine h0.to fun k => ?_
    unfold laws_eqStringSS.f
    rw [if_pos rfl]
  · intro i hi b hb
    refine Ev.succ ((Ev.bind (g := fun k t => if t = true then laws_eqStringSS.l0 k l l (wrap64 ((i : Int) + 1)) else some false) ⟨_, eqS_ok l[i] (by have := hq _ (List.getElem_mem hi); omega)⟩ ?_).to fun k => ?_)
    · rw [wn (by omega)]; simp only [if_true, Bool.true_and]; exact hb rfl
    · simp only [laws_eqStringSS.l0]
      rw [if_pos (by omega), if_pos (by omega), if_pos (by omega), L1_nat hi]
  · intro _
    refine Ev.succ (Ev.of fun k => ?_)
    simp only [laws_eqStringSS.l0]
    rw [if_neg (by omega)]
theorem eqG (l : List S36) (hn : l.length ≤ 1048576) (hq : ∀ x ∈ l, x.f1.length ≤ 1048576 ∧ ∀ q ∈ x.f1, q.length ≤ 1048576) : Ev (fun k => laws_eqSegS.f k l l) true := by
  have h0 := all_down0 l (fun _ => true) (fun k i => laws_eqSegS.l0 k l l i) true ?_ ?_
  · rw [show (l.all fun _ => true) = true from List.all_eq_true.2 fun _ _ => rfl] at h0
    refine h0.to fun k => ?_
    unfold laws_eqSegS.f
    rw [if_pos rfl]
  · intro i hi b hb
    obtain ⟨q0, q1⟩ := hq _ (List.getElem_mem hi)
    refine Ev.succ ((Ev.bind (g := fun k t => if t = true then laws_eqSegS.l0 k l l (wrap64 ((i : Int) + 1)) else some false) (f := fun k => laws_eqSeg.f k l[i].f0 l[i].f1 l[i].f0 l[i].f1) (v := true) ?_ ?_).to fun k => ?_)
    · obtain ⟨M, hM⟩ := eq2 l[i].f1 q0 q1
      refine ⟨M, fun k hk => ?_⟩
      have := hM k hk
      simp only at this
      simp [laws_eqSeg.f, this]
    · rw [wn (by omega)]; simp only [if_true, Bool.true_and]; exact hb rfl
    · simp only [laws_eqSegS.l0]
      rw [if_pos (by omega), if_pos (by omega), if_pos (by omega), T36_nat hi]
  · intro _
    refine Ev.succ (Ev.of fun k => ?_)
    simp only [laws_eqSegS.l0]
    rw [if_neg (by omega)]
/-! ### what is right -/
def okB (c : UInt8) : Bool := decide (32 ≤ c.toNat) && decide (c.toNat ≤ 126)
def okS (s : ByteArray) : Bool := decide (s.size ≤ 40) && s.data.toList.all okB
def okP (p : List ByteArray) : Bool := (decide (1 ≤ p.length) && decide (p.length ≤ 10)) && p.all okS
def okC (c : Int) : Bool := decide (65 ≤ c) && decide (c ≤ 90)
def okG (x : S36) : Bool := decide (x.f0.size = 3) && (decide (x.f1.length ≤ 20) && (okC (bt x.f0 0) && (okC (bt x.f0 1) && (okC (bt x.f0 2) && x.f1.all okP))))
theorem plain_ok (c : UInt8) : impl_plain.f (c.toNat : Int) = some (okB c) := by
  have e1 : ((32 : Int) ≤ (c.toNat : Int)) ↔ 32 ≤ c.toNat := by omega
  have e2 : ((c.toNat : Int) ≤ 126) ↔ c.toNat ≤ 126 := by omega
  simp only [impl_plain.f, okB, ge_iff_le, e1, e2]
  by_cases h : 32 ≤ c.toNat
  · rw [if_pos h, decide_eq_true h, Bool.true_and]
  · rw [if_neg h, decide_eq_false h, Bool.false_and]
theorem sin_ok (c : UInt8) : spec_l1In.f (wrap64 (c.toNat : Int)) 32 126 = some (okB c) := by
  have := c.toNat_lt
  rw [w64 (by omega) (by omega)]
  exact plain_ok c
theorem cap_ok (c : Int) : impl_capital.f c = some (okC c) := by
  simp only [impl_capital.f, okC, ge_iff_le]
  by_cases h : 65 ≤ c
  · rw [if_pos h, decide_eq_true h, Bool.true_and]
  · rw [if_neg h, decide_eq_false h, Bool.false_and]
theorem scap_ok (s : ByteArray) (i : Int) : spec_l1In.f (wrap64 (bt s i)) 65 90 = some (okC (bt s i)) := by
  have := bt_range s i
  rw [w64 (by omega) (by omega)]
  exact cap_ok _
theorem in_ok (p : List ByteArray) : impl_in.f (p.length : Int) 1 10 = some (decide (1 ≤ p.length) && decide (p.length ≤ 10)) := by
  have e1 : ((1 : Int) ≤ (p.length : Int)) ↔ 1 ≤ p.length := by omega
  have e2 : ((p.length : Int) ≤ 10) ↔ p.length ≤ 10 := by omega
  simp only [impl_in.f, ge_iff_le, e1, e2]
  split <;> simp_all
theorem sin10_ok (p : List ByteArray) : spec_l1In.f (p.length : Int) 1 10 = some (decide (1 ≤ p.length) && decide (p.length ≤ 10)) := in_ok p
theorem edi_ok (s : ByteArray) (hs : s.size ≤ 1048576) : Ev (fun k => impl_ediText.f k s) (okS s) := by
  by_cases c : s.size ≤ 40
  · have h0 := all_down0 s.data.toList okB (fun k i => impl_ediText.l0 k s (s.size : Int) i) true ?_ ?_
    · rw [okS, show decide (s.size ≤ 40) = true by simpa using c, Bool.true_and, ← Bool.and_true (s.data.toList.all okB)]
      refine h0.to fun k => ?_
      unfold impl_ediText.f
      rw [if_neg (by omega)]
    · intro i hi b hb
      rw [bs_length] at hi
      refine Ev.succ (Ev.to (g := fun k => if okB (s.data.toList[i]'(by rw [bs_length]; exact hi)) = true then impl_ediText.l0 k s (s.size : Int) ((i + 1 : Nat) : Int) else some false) ?_ fun k => ?_)
      · cases h : okB (s.data.toList[i]'(by rw [bs_length]; exact hi))
        · exact Ev.of fun _ => rfl
        · simpa using hb h
      · simp only [impl_ediText.l0]
        rw [if_pos (by omega), if_pos (by omega), if_pos (by omega), bt_nat (by rw [bs_length]; exact hi), plain_ok, Option.bind_some, wn (by omega)]
    · intro _
      refine Ev.succ (Ev.of fun k => ?_)
      simp only [impl_ediText.l0, bs_length]
      rw [if_neg (by omega)]
  · refine Ev.of fun k => ?_
    unfold impl_ediText.f
    rw [if_pos (by omega), okS, show decide (s.size ≤ 40) = false by simpa using c, Bool.false_and]
theorem cont_ok (p : List ByteArray) (hp : p.length ≤ 1048576) (hs : ∀ s ∈ p, s.size ≤ 1048576) : Ev (fun k => slices_ContainsFunc_string_string_at_impl_segRight_1.f k p) (!p.all okS) := by
  have h0 := all_down0 p okS (fun k i => (slices_IndexFunc_string_string_at_impl_segRight_1.l0 k p (p.length : Int) i).bind fun t => some (decide (¬ t ≥ 0))) true ?_ ?_
  · obtain ⟨M, hM⟩ := h0
    refine ⟨M, fun k hk => ?_⟩
    have := hM k hk
    simp only [Bool.and_true] at this
    simp only [slices_ContainsFunc_string_string_at_impl_segRight_1.f, slices_IndexFunc_string_string_at_impl_segRight_1.f]
    cases e : slices_IndexFunc_string_string_at_impl_segRight_1.l0 k p (p.length : Int) 0 with
    | none => rw [e] at this; cases this
    | some t =>
      rw [e] at this
      simp only [Option.bind_some, Option.some.injEq] at this ⊢
      rw [← this, decide_not, Bool.not_not]
  · intro i hi b hb
    refine Ev.succ (Ev.to (g := fun k => (impl_ediText.f k p[i]).bind fun t => if t = true then (slices_IndexFunc_string_string_at_impl_segRight_1.l0 k p (p.length : Int) ((i + 1 : Nat) : Int)).bind fun t => some (decide (¬ t ≥ 0)) else some false) (Ev.bind (edi_ok _ (hs _ (List.getElem_mem hi))) ?_) fun k => ?_)
    · cases h : okS p[i]
      · exact Ev.of fun _ => rfl
      · simpa using hb h
    · simp only [slices_IndexFunc_string_string_at_impl_segRight_1.l0, impl_segRight_1.f]
      rw [if_pos (by omega), if_pos (by omega), if_pos (by omega), S_nat hi, wn (by omega)]
      cases impl_ediText.f k p[i] with
      | none => rfl
      | some t =>
        rw [Option.bind_some, Option.bind_some, Option.bind_some]
        cases t
        · simp
        · simp
  · intro _
    refine Ev.succ (Ev.of fun k => ?_)
    simp only [slices_IndexFunc_string_string_at_impl_segRight_1.l0]
    rw [if_neg (by omega)]; rfl
def smallR (x : S36) : Prop := x.f0.size ≤ 1048576 ∧ x.f1.length ≤ 1048576 ∧ ∀ q ∈ x.f1, q.length ≤ 1048576 ∧ ∀ y ∈ q, y.size ≤ 1048576
theorem parts_ok (x : List (List ByteArray)) (hx : x.length ≤ 1048576) (hq : ∀ q ∈ x, q.length ≤ 1048576 ∧ ∀ y ∈ q, y.size ≤ 1048576) : Ev (fun k => impl_segRight.l0 k x (x.length : Int) 0) (x.all okP) := by
  have h0 := all_down0 x okP (fun k i => impl_segRight.l0 k x (x.length : Int) i) true ?_ ?_
  · rwa [Bool.and_true] at h0
  · intro i hi b hb
    refine Ev.succ (Ev.to (g := fun k => if (decide (1 ≤ x[i].length) && decide (x[i].length ≤ 10)) = true then (slices_ContainsFunc_string_string_at_impl_segRight_1.f k x[i]).bind fun t => if t = true then some false else impl_segRight.l0 k x (x.length : Int) ((i + 1 : Nat) : Int) else some false) ?_ fun k => ?_)
    · cases h : (decide (1 ≤ x[i].length) && decide (x[i].length ≤ 10))
      · rw [okP, h]; exact Ev.of fun _ => rfl
      · rw [okP, h]
        simp only [if_true, Bool.true_and]
        refine Ev.bind (cont_ok _ (hq _ (List.getElem_mem hi)).1 (hq _ (List.getElem_mem hi)).2) ?_
        cases h2 : x[i].all okS
        · exact Ev.of fun _ => rfl
        · simpa using hb (by rw [okP, h, h2]; rfl)
    · simp only [impl_segRight.l0]
      rw [if_pos (by omega), if_pos (by omega), if_pos (by omega), L1_nat hi, in_ok, Option.bind_some, wn (by omega)]
  · intro _
    refine Ev.succ (Ev.of fun k => ?_)
    simp only [impl_segRight.l0]
    rw [if_neg (by omega)]
theorem seg_ok (x : S36) (hx : smallR x) : Ev (fun k => impl_segRight.f k x.f0 x.f1) (okG x) := by
  have hj : Ev (fun k => impl_segRight.j0 k true x.f0 x.f1) false := Ev.succ (Ev.of fun k => by simp only [impl_segRight.j0]; rw [if_pos trivial])
  by_cases c : x.f0.size = 3
  · refine Ev.to (g := fun k => if okC (bt x.f0 0) = true then if okC (bt x.f0 1) = true then if okC (bt x.f0 2) = true then impl_segRight.j0 k (decide ((x.f1.length : Int) > 20)) x.f0 x.f1 else impl_segRight.j0 k true x.f0 x.f1 else impl_segRight.j0 k true x.f0 x.f1 else impl_segRight.j0 k true x.f0 x.f1) ?_ fun k => ?_
    · rw [okG, show decide (x.f0.size = 3) = true by simpa using c, Bool.true_and]
      cases h0 : okC (bt x.f0 0)
      · simpa using hj
      cases h1 : okC (bt x.f0 1)
      · simpa using hj
      cases h2 : okC (bt x.f0 2)
      · simpa using hj
      simp only [if_true, Bool.true_and]
      refine Ev.succ ?_
      by_cases c2 : x.f1.length ≤ 20
      · rw [show decide (x.f1.length ≤ 20) = true by simpa using c2, Bool.true_and]
        refine (parts_ok x.f1 hx.2.1 hx.2.2).to fun k => ?_
        simp only [impl_segRight.j0]
        rw [if_neg (by simp; omega)]
      · rw [show decide (x.f1.length ≤ 20) = false by simpa using c2, Bool.false_and]
        refine Ev.of fun k => ?_
        simp only [impl_segRight.j0]
        rw [if_pos (by simp; omega)]
    · unfold impl_segRight.f
      rw [if_pos (by omega), if_pos (by omega), if_pos (by omega), if_pos (by omega), cap_ok, cap_ok, cap_ok, Option.bind_some, Option.bind_some, Option.bind_some]
  · rw [okG, show decide (x.f0.size = 3) = false by simpa using c, Bool.false_and]
    refine hj.to fun k => ?_
    unfold impl_segRight.f
    rw [if_neg (by omega)]
theorem badfind_ok (l : List S36) (hl : l.length ≤ 1048576) (hx : ∀ x ∈ l, smallR x) : Ev (fun k => impl_Seg_at_impl_SegsOk_1.f k l) (!l.all okG) := by
  have h0 := all_down0 l okG (fun k i => (impl_Seg_at_impl_SegsOk_1_25.l0 k l (l.length : Int) i).bind fun t => some (decide (¬ t ≥ 0))) true ?_ ?_
  · obtain ⟨M, hM⟩ := h0
    refine ⟨M, fun k hk => ?_⟩
    have := hM k hk
    simp only [Bool.and_true] at this
    simp only [impl_Seg_at_impl_SegsOk_1.f, impl_Seg_at_impl_SegsOk_1_25.f]
    cases e : impl_Seg_at_impl_SegsOk_1_25.l0 k l (l.length : Int) 0 with
    | none => rw [e] at this; cases this
    | some t =>
      rw [e] at this
      simp only [Option.bind_some, Option.some.injEq] at this ⊢
      rw [← this, decide_not, Bool.not_not]
  · intro i hi b hb
    refine Ev.succ (Ev.to (g := fun k => (impl_segRight.f k l[i].f0 l[i].f1).bind fun t => if t = true then (impl_Seg_at_impl_SegsOk_1_25.l0 k l (l.length : Int) ((i + 1 : Nat) : Int)).bind fun t => some (decide (¬ t ≥ 0)) else some false) (Ev.bind (seg_ok _ (hx _ (List.getElem_mem hi))) ?_) fun k => ?_)
    · cases h : okG l[i]
      · exact Ev.of fun _ => rfl
      · simpa using hb h
    · simp only [impl_Seg_at_impl_SegsOk_1_25.l0, impl_SegsOk_1.f]
      rw [if_pos (by omega), if_pos (by omega), if_pos (by omega), T36_nat hi, wn (by omega)]
      cases impl_segRight.f k l[i].f0 l[i].f1 with
      | none => rfl
      | some t =>
        rw [Option.bind_some, Option.bind_some, Option.bind_some]
        cases t
        · simp
        · simp
  · intro _
    refine Ev.succ (Ev.of fun k => ?_)
    simp only [impl_Seg_at_impl_SegsOk_1_25.l0]
    rw [if_neg (by omega)]; rfl
/-! the reference's -/
theorem s3_ok (t : ByteArray) (ps : List (List ByteArray)) (a b : Nat) (ha : a < ps.length) (hb : b < ps[a].length) (hs : ps[a][b].size ≤ 1048576) (r : Bool)
    (hr : okS ps[a][b] = true → Ev (fun k => spec_l21Seg.l2 k (a : Int) ((b + 1 : Nat) : Int) t ps) r) (hb1 : ps[a].length ≤ 1048576) : Ev (fun k => spec_l21Seg.l3 k (a : Int) (b : Int) ps[a][b] 0 t ps) (okS ps[a][b] && r) := by
  have h0 := all_down0 ps[a][b].data.toList okB (fun k i => spec_l21Seg.l3 k (a : Int) (b : Int) ps[a][b] i t ps) (decide (ps[a][b].size ≤ 40) && r) ?_ ?_
  · rwa [← Bool.and_assoc, Bool.and_comm (List.all _ _)] at h0
  · intro i hi r hr
    rw [bs_length] at hi
    refine Ev.succ (Ev.to (g := fun k => if okB (ps[a][b].data.toList[i]'(by rw [bs_length]; exact hi)) = true then spec_l21Seg.l3 k (a : Int) (b : Int) ps[a][b] ((i + 1 : Nat) : Int) t ps else some false) ?_ fun k => ?_)
    · cases h : okB (ps[a][b].data.toList[i]'(by rw [bs_length]; exact hi))
      · exact Ev.of fun _ => rfl
      · simpa using hr h
    · simp only [spec_l21Seg.l3]
      rw [if_pos (by omega), if_pos (by omega), bt_nat (by rw [bs_length]; exact hi), sin_ok, Option.bind_some, wn (by omega)]
  · intro hall
    refine Ev.succ (Ev.to (g := fun k => if ps[a][b].size ≤ 40 then spec_l21Seg.l2 k (a : Int) ((b + 1 : Nat) : Int) t ps else some false) ?_ fun k => ?_)
    · by_cases c : ps[a][b].size ≤ 40
      · simp only [if_pos c, decide_true, Bool.true_and, c]
        exact hr (by rw [okS, hall]; simpa using c)
      · simp only [if_neg c, c, decide_false, Bool.false_and]
        exact Ev.of fun _ => rfl
    · simp only [spec_l21Seg.l3, bs_length]
      rw [if_neg (by omega), wn (by omega)]
      by_cases c : ps[a][b].size ≤ 40
      · rw [if_neg (by omega), if_pos c]
      · rw [if_pos (by omega), if_neg c]
theorem s2_ok (t : ByteArray) (ps : List (List ByteArray)) (a : Nat) (ha : a < ps.length) (hp : ps.length ≤ 1048576) (hb : ps[a].length ≤ 1048576) (hs : ∀ s ∈ ps[a], s.size ≤ 1048576) (r : Bool)
    (hr : ps[a].all okS = true → Ev (fun k => spec_l21Seg.l1 k ((a + 1 : Nat) : Int) t ps) r) : Ev (fun k => spec_l21Seg.l2 k (a : Int) 0 t ps) (ps[a].all okS && r) := by
  refine all_down0 ps[a] okS (fun k i => spec_l21Seg.l2 k (a : Int) i t ps) r ?_ ?_
  · intro i hi r hr
    refine Ev.succ ((s3_ok t ps a i ha hi (hs _ (List.getElem_mem hi)) r hr hb).to fun k => ?_)
    simp only [spec_l21Seg.l2]
    rw [if_pos (by omega), if_pos (by omega), L1_nat ha, if_pos (by omega), if_pos (by omega), S_nat hi]
  · intro hall
    refine Ev.succ ((hr hall).to fun k => ?_)
    simp only [spec_l21Seg.l2]
    rw [if_pos (by omega), if_pos (by omega), L1_nat ha, if_neg (by omega), wn (by omega)]
theorem s1_ok (t : ByteArray) (ps : List (List ByteArray)) (hp : ps.length ≤ 1048576) (hq : ∀ q ∈ ps, q.length ≤ 1048576 ∧ ∀ y ∈ q, y.size ≤ 1048576) : Ev (fun k => spec_l21Seg.l1 k 0 t ps) (ps.all okP) := by
  have h0 := all_down0 ps okP (fun k i => spec_l21Seg.l1 k i t ps) true ?_ ?_
  · rwa [Bool.and_true] at h0
  · intro i hi r hr
    refine Ev.succ (Ev.to (g := fun k => if (decide (1 ≤ ps[i].length) && decide (ps[i].length ≤ 10)) = true then spec_l21Seg.l2 k (i : Int) 0 t ps else some false) ?_ fun k => ?_)
    · cases h : (decide (1 ≤ ps[i].length) && decide (ps[i].length ≤ 10))
      · rw [okP, h]; exact Ev.of fun _ => rfl
      · rw [okP, h]
        simp only [if_true, Bool.true_and]
        exact s2_ok t ps i hi hp (hq _ (List.getElem_mem hi)).1 (hq _ (List.getElem_mem hi)).2 r fun ha => hr (by rw [okP, h, ha]; rfl)
    · simp only [spec_l21Seg.l1]
      rw [if_pos (by omega), if_pos (by omega), L1_nat hi, sin10_ok, Option.bind_some]
  · intro _
    refine Ev.succ (Ev.of fun k => ?_)
    simp only [spec_l21Seg.l1]
    rw [if_neg (by omega)]
theorem sseg_ok (x : S36) (hx : smallR x) : Ev (fun k => spec_l21Seg.f k x.f0 x.f1) (okG x) := by
  have hj : Ev (fun k => spec_l21Seg.j0 k true x.f0 x.f1) false := Ev.succ (Ev.of fun k => by simp only [spec_l21Seg.j0]; rw [if_pos trivial])
  by_cases c : x.f0.size = 3
  · rw [okG, show decide (x.f0.size = 3) = true by simpa using c, Bool.true_and]
    refine Ev.to (g := fun k => spec_l21Seg.j0 k (decide ((x.f1.length : Int) > 20)) x.f0 x.f1) (Ev.succ ?_) fun k => by unfold spec_l21Seg.f; rw [if_pos (by omega)]
    by_cases c2 : x.f1.length ≤ 20
    · rw [show decide (x.f1.length ≤ 20) = true by simpa using c2, Bool.true_and]
      refine Ev.to (g := fun k => spec_l21Seg.l0 k 0 x.f0 x.f1) ?_ fun k => by simp only [spec_l21Seg.j0]; rw [if_neg (by simp; omega)]
      have e3 : Ev (fun k => spec_l21Seg.l0 k 3 x.f0 x.f1) (x.f1.all okP) := Ev.succ ((s1_ok x.f0 x.f1 hx.2.1 hx.2.2).to fun k => by simp only [spec_l21Seg.l0]; rw [if_neg (by omega)])
      have st : ∀ (i : Int) (r : Bool), 0 ≤ i → i < 3 → Ev (fun k => spec_l21Seg.l0 k (i + 1) x.f0 x.f1) r → Ev (fun k => spec_l21Seg.l0 k i x.f0 x.f1) (okC (bt x.f0 i) && r) := by
        intro i r h0 h1 hr
        refine Ev.succ (Ev.to (g := fun k => if okC (bt x.f0 i) = true then spec_l21Seg.l0 k (i + 1) x.f0 x.f1 else some false) ?_ fun k => ?_)
        · cases okC (bt x.f0 i)
          · exact Ev.of fun _ => rfl
          · simpa using hr
        · simp only [spec_l21Seg.l0]
          rw [if_pos (by omega), if_pos (by omega), if_pos (by omega), scap_ok, Option.bind_some, w64 (by omega) (by omega)]
      exact st 0 _ (by omega) (by omega) (st 1 _ (by omega) (by omega) (st 2 _ (by omega) (by omega) e3))
    · rw [show decide (x.f1.length ≤ 20) = false by simpa using c2, Bool.false_and]
      refine Ev.of fun k => ?_
      simp only [spec_l21Seg.j0]
      rw [if_pos (by simp; omega)]
  · rw [okG, show decide (x.f0.size = 3) = false by simpa using c, Bool.false_and]
    refine hj.to fun k => ?_
    unfold spec_l21Seg.f
    rw [if_neg (by omega)]
/-! ### what is written -/
def mkI (n : Int) : Bool := decide (n = 43) || (decide (n = 58) || (decide (n = 39) || decide (n = 63)))
theorem marked_ok (n : Int) : impl_marked.f n = some (mkI n) := by
  simp only [impl_marked.f, mkI]
  by_cases h1 : n = 43
  · simp [h1]
  by_cases h2 : n = 58
  · simp [h2]
  by_cases h3 : n = 39
  · simp [h3]
  by_cases h4 : n = 63
  · simp [h4]
  · simp [h1, h2, h3, h4]
theorem smark_ok (n : Int) : spec_l21Mark.f n = some (mkI n) := marked_ok n
def esc (c : UInt8) : List UInt8 := if mkI (c.toNat : Int) = true then [63, c] else [c]
def wS (m : Nat) (s : ByteArray) : List UInt8 := (if m = 0 then 43 else 58) :: wl (fun _ => esc) 0 s.data.toList
def wP (p : List ByteArray) : List UInt8 := wl wS 0 p
def wG (x : S36) : List UInt8 := x.f0.data.toList ++ (wl (fun _ => wP) 0 x.f1 ++ [39])
def wA (l : List S36) : List UInt8 := wl (fun _ => wG) 0 l
def N (l : List UInt8) : List Int := l.map fun b => (b.toNat : Int)
theorem N_append (a b : List UInt8) : N (a ++ b) = N a ++ N b := List.map_append
theorem N_length (a : List UInt8) : (N a).length = a.length := List.length_map _
theorem strOf_N (a : List UInt8) : strOfNums (N a) = ⟨a.toArray⟩ := by
  simp only [strOfNums, N, List.map_map]
  congr 2
  conv => rhs; rw [← List.map_id a]
  apply List.map_congr_left
  intro b _
  simp
theorem w3_ok (x0 : List S36) (i j m : Int) (t : ByteArray) (hm : wrap64 (m + 1) = m + 1) (a : List UInt8) (r : List UInt8) (ht : t.size ≤ 1048576) (ha : (a ++ wl (fun _ => esc) 0 t.data.toList).length ≤ 1000000000)
    (hr : Ev (fun k => impl_written.l2 k x0 (a ++ wl (fun _ => esc) 0 t.data.toList) i j (m + 1)) r) : Ev (fun k => impl_written.l3 k x0 a i j m t 0) r := by
  refine cont0 t.data.toList (fun _ => esc) (fun k a q => impl_written.l3 k x0 a i j m t q) a r ?_ ha ?_
  · intro q hq a r ha hr
    have hq' : q < t.size := by rw [bs_length] at hq; exact hq
    refine Ev.succ (Ev.to hr fun k => ?_)
    have h1 : a.length + 2 ≤ 140737488355328 := by rw [List.length_append] at ha; omega
    simp only [impl_written.l3]
    rw [if_pos (by omega), if_pos (by omega), if_pos h1, bt_nat hq, marked_ok, Option.bind_some, wn (by omega), ub_nat hq]
    unfold esc
    split
    · rw [List.append_assoc]; rfl
    · rfl
  · refine Ev.succ (Ev.to hr fun k => ?_)
    simp only [impl_written.l3, bs_length]
    rw [if_neg (by omega), hm]
theorem w2_ok (x0 : List S36) (i j : Nat) (hi : i < x0.length) (hj : j < x0[i].f1.length) (hb : x0[i].f1.length ≤ 1048576) (hc : x0[i].f1[j].length ≤ 1048576) (hs : ∀ s ∈ x0[i].f1[j], s.size ≤ 1048576) (a : List UInt8) (r : List UInt8)
    (ha : (a ++ wP x0[i].f1[j]).length ≤ 1000000000) (hr : Ev (fun k => impl_written.l1 k x0 (a ++ wP x0[i].f1[j]) (i : Int) ((j + 1 : Nat) : Int)) r) : Ev (fun k => impl_written.l2 k x0 a (i : Int) (j : Int) 0) r := by
  refine cont0 x0[i].f1[j] wS (fun k a m => impl_written.l2 k x0 a (i : Int) (j : Int) m) a r ?_ ha ?_
  · intro m hm a r ha hr
    refine Ev.succ (Ev.to (w3_ok x0 (i : Int) (j : Int) (m : Int) x0[i].f1[j][m] (wn (by omega)) (a ++ [if m = 0 then 43 else 58]) r (hs _ (List.getElem_mem hm)) ?_ ?_) fun k => ?_)
    · rw [List.append_assoc]; exact ha
    · rw [List.append_assoc]; exact hr
    · have h1 : a.length + 1 ≤ 140737488355328 := by rw [List.length_append] at ha; omega
      simp only [impl_written.l2]
      rw [T36_nat hi, L1_nat hj, if_pos (by omega), if_pos (by omega), if_pos h1, S_nat hm]
      by_cases c : m = 0
      · rw [if_pos (by omega), if_pos c]
      · rw [if_neg (by omega), if_neg c]
  · refine Ev.succ (Ev.to hr fun k => ?_)
    simp only [impl_written.l2]
    rw [T36_nat hi, L1_nat hj, if_neg (by omega), wn (by omega)]; rfl
theorem w1_ok (x0 : List S36) (i : Nat) (hi : i < x0.length) (hl : x0.length ≤ 1048576) (hb : smallR x0[i]) (a : List UInt8) (r : List UInt8)
    (ha : (a ++ wG x0[i]).length ≤ 1000000000) (hr : Ev (fun k => impl_written.l0 k x0 (a ++ wG x0[i]) ((i + 1 : Nat) : Int)) r) : Ev (fun k => impl_written.l0 k x0 a (i : Int)) r := by
  simp only [wG, ← List.append_assoc] at ha hr
  have ha0 := ha
  simp only [List.length_append, List.length_cons, List.length_nil] at ha0
  refine Ev.succ (Ev.to (g := fun k => impl_written.l1 k x0 (a ++ x0[i].f0.data.toList) (i : Int) 0) ?_ fun k => ?_)
  · refine cont0 x0[i].f1 (fun _ => wP) (fun k a m => impl_written.l1 k x0 a (i : Int) m) _ r ?_ ?_ ?_
    · intro j hj a r ha hr
      obtain ⟨q1, q2⟩ := hb.2.2 _ (List.getElem_mem hj)
      refine Ev.succ (Ev.to (w2_ok x0 i j hi hj hb.2.1 q1 q2 a r ha hr) fun k => ?_)
      simp only [impl_written.l1]
      rw [T36_nat hi, if_pos (by omega), if_pos (by omega)]
    · rw [List.length_append]
      simp only [List.length_append]; omega
    · refine Ev.succ (Ev.to hr fun k => ?_)
      simp only [impl_written.l1]
      rw [T36_nat hi, if_neg (by omega), if_pos (by simp only [List.length_append]; omega), wn (by omega)]
  · simp only [impl_written.l0]
    rw [T36_nat hi, if_pos (by omega), if_pos (by omega), if_pos (by rw [bs_length] at ha0; omega)]
theorem wA_ok (l : List S36) (hl : l.length ≤ 1048576) (hb : ∀ x ∈ l, smallR x) (ha : (wA l).length ≤ 1000000000) : Ev (fun k => impl_written.f k l) ⟨(wA l).toArray⟩ := by
  refine (Ev.bind (g := fun _ a => some (⟨a.toArray⟩ : ByteArray)) (v := wA l) (f := fun k => impl_written.l0 k l [] 0) ?_ (Ev.of fun k => rfl)).to fun k => rfl
  refine cont0 l (fun _ => wG) (fun k a i => impl_written.l0 k l a i) [] (wA l) ?_ ?_ ?_
  · intro i hi a r ha hr
    exact w1_ok l i hi hl (hb _ (List.getElem_mem hi)) a r ha hr
  · rw [List.nil_append]; exact ha
  · refine Ev.succ (Ev.of fun k => ?_)
    simp only [impl_written.l0, List.nil_append]
    rw [if_neg (by omega)]; rfl
/-! the reference's -/
theorem N_wl {α : Type} (w : Nat → α → List UInt8) (l : List α) : wl (fun i x => N (w i x)) 0 l = N (wl w 0 l) := (wl_map _ w l 0).symm
theorem v3_ok (x0 : List S36) (i j m : Int) (t : ByteArray) (hm : wrap64 (m + 1) = m + 1) (a : List Int) (r : List Int) (ht : t.size ≤ 1048576) (ha : (a ++ N (wl (fun _ => esc) 0 t.data.toList)).length ≤ 1000000000)
    (hr : Ev (fun k => spec_l21Write.l2 k x0 (a ++ N (wl (fun _ => esc) 0 t.data.toList)) i j (m + 1)) r) : Ev (fun k => spec_l21Write.l3 k x0 a i j m t 0) r := by
  rw [← N_wl] at ha hr
  refine cont0 t.data.toList (fun _ x => N (esc x)) (fun k a q => spec_l21Write.l3 k x0 a i j m t q) a r ?_ ha ?_
  · intro q hq a r ha hr
    have hq' : q < t.size := by rw [bs_length] at hq; exact hq
    refine Ev.succ (Ev.to hr fun k => ?_)
    have h1 : a.length < 140737488355328 := by rw [List.length_append] at ha; omega
    have h2 : (a ++ [63]).length < 140737488355328 := by rw [List.length_append] at ha ⊢; simp only [List.length_cons, List.length_nil]; omega
    simp only [spec_l21Write.l3]
    rw [if_pos (by omega), if_pos (by omega), bt_nat hq, smark_ok, Option.bind_some, wn (by omega), if_pos h1, if_pos h1, Option.bind_some, if_pos h2]
    unfold esc
    split
    · rw [List.append_assoc]; rfl
    · rfl
  · refine Ev.succ (Ev.to hr fun k => ?_)
    simp only [spec_l21Write.l3, bs_length]
    rw [if_neg (by omega), hm]
theorem v2_ok (x0 : List S36) (i j : Nat) (hi : i < x0.length) (hj : j < x0[i].f1.length) (hl : x0.length ≤ 1048576) (hb : x0[i].f1.length ≤ 1048576) (hc : x0[i].f1[j].length ≤ 1048576) (hs : ∀ s ∈ x0[i].f1[j], s.size ≤ 1048576) (a : List Int) (r : List Int)
    (ha : (a ++ N (wP x0[i].f1[j])).length ≤ 1000000000) (hr : Ev (fun k => spec_l21Write.l1 k x0 (a ++ N (wP x0[i].f1[j])) (i : Int) ((j + 1 : Nat) : Int)) r) : Ev (fun k => spec_l21Write.l2 k x0 a (i : Int) (j : Int) 0) r := by
  rw [wP, ← N_wl] at ha hr
  refine cont0 x0[i].f1[j] (fun m x => N (wS m x)) (fun k a m => spec_l21Write.l2 k x0 a (i : Int) (j : Int) m) a r ?_ ha ?_
  · intro m hm a r ha hr
    have h1 : a.length < 140737488355328 := by rw [List.length_append] at ha; omega
    have hw : a ++ N (wS m x0[i].f1[j][m]) = (a ++ [if m = 0 then 43 else 58]) ++ N (wl (fun _ => esc) 0 x0[i].f1[j][m].data.toList) := by
      rw [List.append_assoc]
      by_cases c : m = 0 <;> simp [c, wS, N]
    rw [hw] at ha hr
    refine Ev.succ (Ev.to (Ev.succ (f := fun k => spec_l21Write.j3 k x0 a (i : Int) (j : Int) (m : Int) (if m = 0 then 43 else 58)) (Ev.to (v3_ok x0 (i : Int) (j : Int) (m : Int) x0[i].f1[j][m] (wn (by omega)) (a ++ [if m = 0 then 43 else 58]) r (hs _ (List.getElem_mem hm)) ha hr) fun k => ?_)) fun k => ?_)
    · simp only [spec_l21Write.j3]
      rw [T36_nat hi, L1_nat hj, if_pos h1, if_pos (by omega), if_pos (by omega), if_pos (by omega), if_pos (by omega), if_pos (by omega), if_pos (by omega), S_nat hm]
    · simp only [spec_l21Write.l2]
      rw [T36_nat hi, L1_nat hj, if_pos (by omega), if_pos (by omega), if_pos (by omega), if_pos (by omega), if_pos (by omega)]
      by_cases c : m = 0
      · rw [if_pos (by omega), if_pos c]
      · rw [if_neg (by omega), if_neg c]
  · refine Ev.succ (Ev.to hr fun k => ?_)
    simp only [spec_l21Write.l2]
    rw [T36_nat hi, L1_nat hj, if_pos (by omega), if_pos (by omega), if_pos (by omega), if_pos (by omega), if_neg (by omega), wn (by omega)]
theorem v1_ok (x0 : List S36) (i : Nat) (hi : i < x0.length) (hl : x0.length ≤ 1048576) (hb : smallR x0[i]) (a : List Int) (r : List Int)
    (ha : (a ++ N (wG x0[i])).length ≤ 1000000000) (hr : Ev (fun k => spec_l21Write.l0 k x0 (a ++ N (wG x0[i])) ((i + 1 : Nat) : Int)) r) : Ev (fun k => spec_l21Write.l0 k x0 a (i : Int)) r := by
  simp only [wG, N_append, ← N_wl, ← List.append_assoc] at ha hr
  have ha0 := ha
  simp only [List.length_append, N_length, List.length_cons, List.length_nil] at ha0
  refine Ev.succ (Ev.to (g := fun k => spec_l21Write.l1 k x0 (a ++ N x0[i].f0.data.toList) (i : Int) 0) ?_ fun k => ?_)
  · refine cont0 x0[i].f1 (fun _ x => N (wP x)) (fun k a m => spec_l21Write.l1 k x0 a (i : Int) m) _ r ?_ ?_ ?_
    · intro j hj a r ha hr
      obtain ⟨q1, q2⟩ := hb.2.2 _ (List.getElem_mem hj)
      refine Ev.succ (Ev.to (v2_ok x0 i j hi hj hl hb.2.1 q1 q2 a r ha hr) fun k => ?_)
      simp only [spec_l21Write.l1]
      rw [T36_nat hi, if_pos (by omega), if_pos (by omega), if_pos (by omega)]
    · simp only [List.length_append, N_length]; omega
    · refine Ev.succ (Ev.to hr fun k => ?_)
      simp only [spec_l21Write.l1]
      rw [T36_nat hi, if_pos (by omega), if_pos (by omega), if_neg (by omega), if_pos (by simp only [List.length_append, N_length]; omega), wn (by omega)]
      rfl
  · simp only [spec_l21Write.l0]
    rw [T36_nat hi, if_pos (by omega), if_pos (by omega), if_pos (by rw [bs_length] at ha0; omega)]
    rfl
theorem vA_ok (l : List S36) (hl : l.length ≤ 1048576) (hb : ∀ x ∈ l, smallR x) (ha : (wA l).length ≤ 1000000000) : Ev (fun k => spec_l21Write.f k l) (N (wA l)) := by
  refine cont0 l (fun _ x => N (wG x)) (fun k a i => spec_l21Write.l0 k l a i) [] (N (wA l)) ?_ ?_ ?_
  · intro i hi a r ha hr
    exact v1_ok l i hi hl (hb _ (List.getElem_mem hi)) a r ha hr
  · rw [N_wl, List.nil_append, N_length]; exact ha
  · refine Ev.succ (Ev.of fun k => ?_)
    simp only [spec_l21Write.l0, List.nil_append]
    rw [if_neg (by omega), N_wl]; rfl
/-! ### both -/
theorem okG_small (l : List S36) (hn : l.length ≤ 60) (h : l.all okG = true) : (wA l).length ≤ 1000000000 := by
  have h1 : ∀ (i : Nat), ∀ x ∈ l, ((fun (_ : Nat) => wG) i x : List UInt8).length ≤ 100000 := by
    intro _ x hx
    have hg := List.all_eq_true.1 h x hx
    simp only [okG, Bool.and_eq_true, decide_eq_true_eq] at hg
    obtain ⟨g0, g1, _, _, _, g5⟩ := hg
    have h2 : ∀ (i : Nat), ∀ p ∈ x.f1, ((fun (_ : Nat) => wP) i p : List UInt8).length ≤ 1000 := by
      intro _ p hp
      have hk := List.all_eq_true.1 g5 p hp
      simp only [okP, Bool.and_eq_true, decide_eq_true_eq] at hk
      obtain ⟨⟨_, k1⟩, k2⟩ := hk
      have h3 : ∀ i, ∀ s ∈ p, (wS i s).length ≤ 81 := by
        intro i s hs
        have hz := List.all_eq_true.1 k2 s hs
        simp only [okS, Bool.and_eq_true, decide_eq_true_eq] at hz
        have := wl_le (fun _ => esc) 2 s.data.toList (by intro _ c _; unfold esc; split <;> simp) 0
        rw [bs_length] at this
        simp only [wS, List.length_cons]
        omega
      have := wl_le wS 81 p h3 0
      show (wl wS 0 p).length ≤ _
      omega
    have := wl_le (fun _ => wP) 1000 x.f1 h2 0
    show (wG x).length ≤ _
    simp only [wG, List.length_append, List.length_cons, List.length_nil, bs_length]
    omega
  have := wl_le (fun _ => wG) 100000 l h1 0
  show (wl (fun _ => wG) 0 l).length ≤ _
  omega
def okA (l : List S36) : Bool := decide (l.length ≤ 60) && (l.all okG && decide ((wA l).length ≤ 2000))
theorem toArr_size (a : List UInt8) : (⟨a.toArray⟩ : ByteArray).size = a.length := by simp [ByteArray.size]
theorem segsOk_ok (l : List S36) (hl : l.length ≤ 1048576) (hb : ∀ x ∈ l, smallR x) : Ev (fun k => impl_SegsOk.f k l) (okA l) := by
  by_cases c : l.length ≤ 60
  · refine Ev.to (g := fun k => (impl_Seg_at_impl_SegsOk_1.f k l).bind fun t => if t = true then some false else (impl_written.f k l).bind fun t => some (decide ((t.size : Int) ≤ 2000))) (Ev.bind (badfind_ok l hl hb) ?_) fun k => by unfold impl_SegsOk.f; rw [if_pos (by omega)]
    rw [okA, decide_eq_true c, Bool.true_and]
    cases h : l.all okG
    · exact Ev.of fun _ => rfl
    · simp only [Bool.not_true, Bool.false_eq_true, if_false, Bool.true_and]
      refine Ev.bind (wA_ok l hl hb (okG_small l c h)) (Ev.of fun k => ?_)
      rw [toArr_size]
      congr 1
      rw [decide_eq_decide]; omega
  · refine Ev.of fun k => ?_
    unfold impl_SegsOk.f
    rw [if_neg (by omega), okA, decide_eq_false c, Bool.false_and]
theorem ssegsOk_ok (l : List S36) (hl : l.length ≤ 1048576) (hb : ∀ x ∈ l, smallR x) : Ev (fun k => spec_SegsOk.f k l) (okA l) := by
  by_cases c : l.length ≤ 60
  · refine Ev.to (g := fun k => spec_SegsOk.l0 k l 0) ?_ fun k => by unfold spec_SegsOk.f; rw [if_neg (by omega)]
    rw [okA, decide_eq_true c, Bool.true_and]
    refine all_down0 l okG (fun k i => spec_SegsOk.l0 k l i) _ ?_ ?_
    · intro i hi b hb1
      refine Ev.succ ((Ev.bind (g := fun k t => if t = true then spec_SegsOk.l0 k l (wrap64 ((i : Int) + 1)) else some false) (sseg_ok l[i] (hb _ (List.getElem_mem hi))) ?_).to fun k => ?_)
      · cases h : okG l[i]
        · exact Ev.of fun _ => rfl
        · rw [wn (by omega)]; simpa using hb1 h
      · simp only [spec_SegsOk.l0]
        rw [if_pos (by omega), if_pos (by omega), T36_nat hi]
    · intro h
      refine Ev.succ ((Ev.bind (g := fun _ t => some (decide ((t.length : Int) ≤ 2000))) (vA_ok l hl hb (okG_small l c h)) (Ev.of fun k => ?_)).to fun k => ?_)
      · rw [N_length]
        congr 1
        rw [decide_eq_decide]; omega
      · simp only [spec_SegsOk.l0]
        rw [if_neg (by omega)]
  · refine Ev.of fun k => ?_
    unfold spec_SegsOk.f
    rw [if_pos (by omega), okA, decide_eq_false c, Bool.false_and]
theorem toG_small {l : List S34} (h : ∀ x ∈ l, smallG x) : ∀ x ∈ toG l, smallR x := by
  intro x hx
  simp only [toG, List.mem_map] at hx
  obtain ⟨y, hy, rfl⟩ := hx
  exact h y hy
theorem toG_length (l : List S34) : (toG l).length = l.length := List.length_map _
theorem write_ok (l : List S36) (hl : l.length ≤ 1048576) (hb : ∀ x ∈ l, smallR x) : ∃ v : ByteArray × Bool, Ev (fun k => impl_WriteSegs.f k l) v ∧ Ev (fun k => spec_WriteSegs.f k l) v := by
  cases h : okA l
  · refine ⟨(⟨#[]⟩, false), (Ev.bind (segsOk_ok l hl hb) ?_).to fun k => rfl, (Ev.bind (ssegsOk_ok l hl hb) ?_).to fun k => rfl⟩
    · rw [h]; exact Ev.of fun k => rfl
    · rw [h]; exact Ev.of fun k => rfl
  · have h0 := h
    simp only [okA, Bool.and_eq_true, decide_eq_true_eq] at h0
    have hn := okG_small l h0.1 h0.2.1
    refine ⟨(⟨(wA l).toArray⟩, true), (Ev.bind (segsOk_ok l hl hb) ?_).to fun k => rfl, (Ev.bind (ssegsOk_ok l hl hb) ?_).to fun k => rfl⟩
    · rw [h]; simp only [if_true]
      exact Ev.bind (wA_ok l hl hb hn) (Ev.of fun k => rfl)
    · rw [h]; simp only [if_true]
      exact Ev.bind (vA_ok l hl hb hn) (Ev.of fun k => by rw [strOf_N])
theorem FnExactWriteSegs : laws_FnExactWriteSegs.Pure := by
  intro l0 hq
  obtain ⟨t, ht, hs⟩ := szG l0 hq.1 hq.2
  apply Ev.get
  refine Ev.bind hs ?_
  by_cases c : t < 0
  · simp only [if_pos c]; exact Ev.of fun _ => rfl
  · simp only [if_neg c]
    obtain ⟨hl, hb⟩ := ht (by omega)
    have hl' : (toG l0).length ≤ 1048576 := by rw [toG_length]; exact hl
    have ht := toG_ok l0 hl hb
    obtain ⟨v, v1, v2⟩ := write_ok _ hl' (toG_small hb)
    refine Ev.bind ht (Ev.bind v2 (Ev.bind ht (Ev.bind v1 ?_)))
    simp only [bne_self_eq_false, if_true]
    refine Ev.succ ?_
    refine (Ev.bind (g := fun k t => (laws_eqSegS.f k (toG l0) t).bind fun t => if t = true then some true else some false) ht (Ev.bind (g := fun k t => if t = true then some true else some false) (eqG _ hl' fun x hx => ⟨(toG_small hb x hx).2.1, fun q h => ((toG_small hb x hx).2.2 q h).1⟩) (Ev.of fun k => rfl))).to fun k => ?_
    simp only [laws_FnExactWriteSegs.j0, Bool.false_eq_true, if_false]

end Go.Proofs.Ytomkbmddhemioaa.Pure
