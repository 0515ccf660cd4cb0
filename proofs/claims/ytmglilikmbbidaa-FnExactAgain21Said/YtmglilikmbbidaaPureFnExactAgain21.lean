/- The program's Again21 returns what the reference's returns, for all arguments, changes none and hands out a fresh slice. -/
import Derived.Test.YtmglilikmbbidaaPFnExactAgain21x6
import Derived.Test.YtmglilikmbbidaaKit
set_option linter.unusedVariables false
set_option linter.unusedSimpArgs false
namespace Go.Proofs.Ytmglilikmbbidaa.Pure
open Go.RowKit Go.Proofs.Ytmglilikmbbidaa.PFnExactAgain21 Go.Proofs.YtmglilikmbbidaaW.PrintWords Go.Proofs.YtmglilikmbbidaaW.PrintLast Go.Proofs.YtmglilikmbbidaaW.Kit

/-! ### lists of strings -/
theorem rs_lt {l : List ByteArray} {i : Int} (h0 : 0 ≤ i) (h1 : i < l.length) : ∃ h : i.toNat < l.length, rdOf ByteArray.empty l i = l[i.toNat]'h := by
  have h : i.toNat < l.length := by omega
  exact ⟨h, by simp [rdOf, List.getD_eq_getElem?_getD, List.getElem?_eq_getElem h]⟩
theorem rs_mem {l : List ByteArray} {i : Int} (h0 : 0 ≤ i) (h1 : i < l.length) : rdOf ByteArray.empty l i ∈ l := by
  obtain ⟨h, e⟩ := rs_lt h0 h1
  rw [e]; exact List.getElem_mem h
theorem sz_loop (l : List ByteArray) (hl : l.length ≤ 1048576) (hq : ∀ x ∈ l, x.size ≤ 9223372036854775807) (d : Nat) : ∀ (a i : Int), 0 ≤ a → a ≤ 1048576 → 0 ≤ i → i ≤ l.length → (l.length : Int) - i = d →
    ∃ t : Int, -1 ≤ t ∧ t ≤ a ∧ (0 ≤ t → ∀ x ∈ l.drop i.toNat, (x.size : Int) ≤ a) ∧ ∀ k, d < k → laws_szStringS.l0 k l a i = some t := by
  induction d with
  | zero =>
    intro a i ha ha1 h0 h1 hd
    refine ⟨a, by omega, by omega, fun _ x hx => ?_, fun k hk => ?_⟩
    · rw [List.drop_eq_nil_of_le (by omega)] at hx; cases hx
    · obtain ⟨k, rfl⟩ := pos_round (show 0 < k by omega)
      simp only [laws_szStringS.l0]
      rw [if_neg (by omega)]
  | succ d ih =>
    intro a i ha ha1 h0 h1 hd
    have hlt : i < (l.length : Int) := by omega
    have hs := hq _ (rs_mem h0 hlt)
    have hs0 : (0 : Int) ≤ ((rdOf ByteArray.empty l i).size : Int) := by omega
    by_cases c : a - ((rdOf ByteArray.empty l i).size : Int) < 0
    · refine ⟨-1, by omega, by omega, fun h => by omega, fun k hk => ?_⟩
      obtain ⟨k, rfl⟩ := pos_round (show 0 < k by omega)
      simp only [laws_szStringS.l0]
      rw [if_pos hlt, if_pos h0, w64 (x := a - _) (by omega) (by omega), if_pos c]
    · obtain ⟨t, t0, t1, t2, t3⟩ := ih (a - ((rdOf ByteArray.empty l i).size : Int)) (i + 1) (by omega) (by omega) (by omega) (by omega) (by omega)
      refine ⟨t, t0, by omega, fun ht x hx => ?_, fun k hk => ?_⟩
      · obtain ⟨hn, e⟩ := rs_lt h0 hlt
        rw [List.drop_eq_getElem_cons hn, ← e] at hx
        rcases List.mem_cons.1 hx with rfl | hx
        · omega
        · have := t2 ht x (by rw [show (i + 1).toNat = i.toNat + 1 by omega]; exact hx)
          omega
      · obtain ⟨k, rfl⟩ := pos_round (show 0 < k by omega)
        simp only [laws_szStringS.l0]
        rw [if_pos hlt, if_pos h0, w64 (x := a - _) (by omega) (by omega), if_neg c, w64 (x := i + 1) (by omega) (by omega)]
        exact t3 k (by omega)
theorem sz_ok (l : List ByteArray) (hm : l.length ≤ 9223372036854775807) (hq : ∀ x ∈ l, x.size ≤ 9223372036854775807) (a : Int) (ha : 0 ≤ a) (ha1 : a ≤ 1048576) :
    ∃ t : Int, -1 ≤ t ∧ t ≤ a ∧ (0 ≤ t → (l.length : Int) ≤ a ∧ ∀ x ∈ l, (x.size : Int) ≤ a) ∧ ∀ k, 1048576 < k → laws_szStringS.f k l a = some t := by
  by_cases c : a - (l.length : Int) < 0
  · refine ⟨-1, by omega, by omega, fun h => by omega, fun k hk => ?_⟩
    unfold laws_szStringS.f
    rw [w64 (by omega) (by omega), if_pos c]
  · obtain ⟨t, t0, t1, t2, t3⟩ := sz_loop l (by omega) hq l.length (a - l.length) 0 (by omega) (by omega) (by omega) (by omega) (by omega)
    refine ⟨t, t0, by omega, fun ht => ⟨by omega, fun x hx => ?_⟩, fun k hk => ?_⟩
    · have := t2 ht x (by simpa using hx); omega
    · unfold laws_szStringS.f
      rw [w64 (by omega) (by omega), if_neg c]
      exact t3 k (by omega)
theorem toS_loop (l : List ByteArray) (hn : l.length ≤ 1048576) (d : Nat) : ∀ (k : Nat) (o : List ByteArray) (i : Int), 0 ≤ i → i ≤ l.length → (l.length : Int) - i = d → d < k → o.length = l.length → o.take i.toNat = l.take i.toNat → laws_toStringS.l0 k l o i = some l := by
  induction d with
  | zero =>
    intro k o i h0 h1 hd hk ho ht
    obtain ⟨k, rfl⟩ := pos_round (show 0 < k by omega)
    simp only [laws_toStringS.l0]
    rw [if_neg (by omega)]
    rw [List.take_of_length_le (by omega), List.take_of_length_le (by omega)] at ht
    rw [ht]
  | succ d ih =>
    intro k o i h0 h1 hd hk ho ht
    obtain ⟨k, rfl⟩ := pos_round (show 0 < k by omega)
    obtain ⟨hl, e⟩ := rs_lt h0 (show i < (l.length : Int) by omega)
    simp only [laws_toStringS.l0]
    rw [if_pos (by omega), if_pos h0, if_pos (by omega), w64 (x := i + 1) (by omega) (by omega)]
    refine ih k _ (i + 1) (by omega) (by omega) (by omega) (by omega) (by simpa using ho) ?_
    rw [show (i + 1).toNat = i.toNat + 1 by omega, List.take_succ_eq_append_getElem (by simp; omega), List.take_succ_eq_append_getElem hl, List.take_set_of_le (Nat.le_refl _), ht]
    simp [e]
theorem toS_ok (l : List ByteArray) (hn : l.length ≤ 1048576) (k : Nat) (hk : l.length < k) : laws_toStringS.f k l = some l := by
  unfold laws_toStringS.f
  rw [if_pos (by omega), if_pos (by omega)]
  exact toS_loop l hn l.length k _ 0 (by omega) (by omega) (by omega) hk (by simp) (by simp)
theorem eqS_loop (l : List ByteArray) (hn : l.length ≤ 1000000000) (d : Nat) : ∀ (k : Nat) (i : Int), 0 ≤ i → i ≤ l.length → (l.length : Int) - i = d → d < k → laws_eqStringS.l0 k l l i = some true := by
  induction d with
  | zero =>
    intro k i h0 h1 hd hk
    obtain ⟨k, rfl⟩ := pos_round (show 0 < k by omega)
    simp only [laws_eqStringS.l0]
    rw [if_neg (by omega)]
  | succ d ih =>
    intro k i h0 h1 hd hk
    obtain ⟨k, rfl⟩ := pos_round (show 0 < k by omega)
    simp only [laws_eqStringS.l0]
    rw [if_pos (by omega), if_pos h0, if_pos (by omega), if_pos trivial, w64 (x := i + 1) (by omega) (by omega)]
    exact ih k (i + 1) (by omega) (by omega) (by omega) (by omega)
theorem eqS_ok (l : List ByteArray) (hn : l.length ≤ 1000000000) (k : Nat) (hk : l.length < k) : laws_eqStringS.f k l l = some true := by
  unfold laws_eqStringS.f
  rw [if_pos rfl]
  exact eqS_loop l hn l.length k 0 (by omega) (by omega) (by omega) hk
/-! ### PartyOk -/
theorem in_eqP (a b c : Int) : impl_in.f a b c = some (decide (b ≤ a ∧ a ≤ c)) := in_some a b c
theorem in_eqP' (a b c : Int) : spec_l1In.f a b c = some (decide (b ≤ a ∧ a ≤ c)) := in_some a b c
theorem texts_loops (l : List ByteArray) (hn : l.length ≤ 1048576) (d : Nat) : ∀ (i : Int), 0 ≤ i → i ≤ l.length → (l.length : Int) - i = d →
    ∃ r : Int, -1 ≤ r ∧ ∀ k, d < k → slices_IndexFunc_string_string_at_impl_shortTexts_1.l0 k l (l.length : Int) i = some r ∧ spec_l21Texts.l0 k l i = some (decide (r < 0) && decide ((l.length : Int) ≤ 200)) := by
  induction d with
  | zero =>
    intro i h0 h1 hd
    refine ⟨-1, by omega, fun k hk => ?_⟩
    obtain ⟨k, rfl⟩ := pos_round (show 0 < k by omega)
    simp only [slices_IndexFunc_string_string_at_impl_shortTexts_1.l0, spec_l21Texts.l0]
    rw [if_neg (by omega), if_neg (by omega)]
    exact ⟨rfl, by simp⟩
  | succ d ih =>
    intro i h0 h1 hd
    have hlt : i < (l.length : Int) := by omega
    by_cases c : ((rdOf ByteArray.empty l i).size : Int) > 40
    · refine ⟨i, by omega, fun k hk => ?_⟩
      obtain ⟨k, rfl⟩ := pos_round (show 0 < k by omega)
      simp only [slices_IndexFunc_string_string_at_impl_shortTexts_1.l0, spec_l21Texts.l0, impl_shortTexts_1.f]
      constructor
      · rw [if_pos hlt, if_pos h0, if_pos hlt, Option.bind_some, if_pos (decide_eq_true c)]
      · rw [if_pos hlt, if_pos h0, if_pos c]; simp; omega
    · obtain ⟨r, hr, hk⟩ := ih (i + 1) (by omega) (by omega) (by omega)
      refine ⟨r, hr, fun k hk' => ?_⟩
      obtain ⟨k, rfl⟩ := pos_round (show 0 < k by omega)
      obtain ⟨ha, hb⟩ := hk k (by omega)
      simp only [slices_IndexFunc_string_string_at_impl_shortTexts_1.l0, spec_l21Texts.l0, impl_shortTexts_1.f]
      constructor
      · rw [if_pos hlt, if_pos h0, if_pos hlt, Option.bind_some, if_neg (by simpa using c), w64 (x := i + 1) (by omega) (by omega)]
        exact ha
      · rw [if_pos hlt, if_pos h0, if_neg c, w64 (x := i + 1) (by omega) (by omega)]
        exact hb
theorem texts_same (l : List ByteArray) (hn : l.length ≤ 1048576) : ∃ b : Bool, (b = true → l.length ≤ 200) ∧ ∀ k, l.length < k → spec_l21Texts.f k l = some b ∧ impl_shortTexts.f k l = some b := by
  obtain ⟨r, hr, hk⟩ := texts_loops l hn l.length 0 (by omega) (by omega) (by omega)
  refine ⟨decide (r < 0) && decide ((l.length : Int) ≤ 200), fun h => by simp at h; omega, fun k hk' => ⟨(hk k hk').2, ?_⟩⟩
  unfold impl_shortTexts.f
  by_cases c : (l.length : Int) ≤ 200
  · rw [if_pos c]
    unfold slices_ContainsFunc_string_string_at_impl_shortTexts_1.f slices_IndexFunc_string_string_at_impl_shortTexts_1.f
    rw [(hk k hk').1, Option.bind_some, Option.bind_some, decide_eq_true c, Bool.and_true]
    congr 1
    by_cases e : r < 0
    · rw [decide_eq_true e, decide_eq_false (by omega)]; rfl
    · rw [decide_eq_false e, decide_eq_true (by omega)]; rfl
  · rw [if_neg c, decide_eq_false c, Bool.and_false]
theorem party_same (s : List ByteArray) (a : Int) (g : List ByteArray) (hs : s.length ≤ 1048576) (hg : g.length ≤ 1048576) : ∃ b : Bool, (b = true → s.length ≤ 200 ∧ g.length ≤ 200 ∧ 0 ≤ a ∧ a ≤ s.length) ∧ ∀ k, 1048576 < k → spec_PartyOk.f k s a g = some b ∧ impl_PartyOk.f k s a g = some b := by
  obtain ⟨b1, l1, h1⟩ := texts_same s hs
  obtain ⟨b2, l2, h2⟩ := texts_same g hg
  refine ⟨b1 && (b2 && decide (0 ≤ a ∧ a ≤ (s.length : Int))), fun h => ?_, fun k hk => ?_⟩
  · simp only [Bool.and_eq_true, decide_eq_true_eq] at h
    exact ⟨l1 h.1, l2 h.2.1, h.2.2.1, h.2.2.2⟩
  · obtain ⟨s1, i1⟩ := h1 k (by omega)
    obtain ⟨s2, i2⟩ := h2 k (by omega)
    unfold spec_PartyOk.f impl_PartyOk.f
    rw [s1, i1, s2, i2, in_eqP, in_eqP']
    cases b1 <;> cases b2 <;> exact ⟨rfl, rfl⟩
/-! ### the law's mark texts -/
theorem text_loop (d : Nat) : ∀ (x : Int) (s : ByteArray), x ≤ d → x ≤ 100000000 → (s.size : Int) + d ≤ 1000000000 → ∃ t, ∀ k, d < k → laws_markText.l0 k x s = some t := by
  induction d with
  | zero =>
    intro x s hd hx hs
    refine ⟨(⟨#[109]⟩ : ByteArray) ++ s, fun k hk => ?_⟩
    obtain ⟨k, rfl⟩ := pos_round (show 0 < k by omega)
    simp only [laws_markText.l0]
    rw [if_neg (by omega), if_pos (by omega)]
  | succ d ih =>
    intro x s hd hx hs
    by_cases c : x > 0
    · have hz : (strOfNums [(wrap64 (48 + (Int.tmod x 10))) % 256]).size = 1 := by rw [strOfNums_size]; rfl
      obtain ⟨t, ht⟩ := ih (x / 10) ((strOfNums [(wrap64 (48 + (Int.tmod x 10))) % 256]) ++ s) (by omega) (by omega) (by rw [ByteArray.size_append]; omega)
      refine ⟨t, fun k hk => ?_⟩
      obtain ⟨k, rfl⟩ := pos_round (show 0 < k by omega)
      simp only [laws_markText.l0]
      rw [if_pos c, Option.bind_some, if_pos (by omega), td (by omega), w64 (x := x / 10) (by omega) (by omega)]
      exact ht k (by omega)
    · refine ⟨(⟨#[109]⟩ : ByteArray) ++ s, fun k hk => ?_⟩
      obtain ⟨k, rfl⟩ := pos_round (show 0 < k by omega)
      simp only [laws_markText.l0]
      rw [if_neg c, if_pos (by omega)]
theorem text_ok (c : Int) (hc : c ≤ 3000000) : ∃ t, ∀ k, 3000000 < k → laws_markText.f k c = some t := by
  by_cases h : c ≤ 0
  · refine ⟨(⟨#[109, 48]⟩ : ByteArray), fun k hk => ?_⟩
    unfold laws_markText.f
    rw [if_pos h]
  · obtain ⟨t, ht⟩ := text_loop 3000000 c (⟨#[]⟩ : ByteArray) (by omega) (by omega) (by simp [ByteArray.size])
    refine ⟨t, fun k hk => ?_⟩
    unfold laws_markText.f
    rw [if_neg h]
    exact ht k hk
/-- The text of a mark. -/
def txt (c : Int) : ByteArray := (laws_markText.f 3000001 c).getD ByteArray.empty
theorem txt_ok (c : Int) (hc : c ≤ 3000000) (k : Nat) (hk : 3000000 < k) : laws_markText.f k c = some (txt c) := by
  obtain ⟨t, ht⟩ := text_ok c hc
  rw [ht k hk, txt, ht 3000001 (by omega)]; rfl
theorem markS_loop (d : Nat) : ∀ (l : List ByteArray) (c i : Int), l.length ≤ 100000000 → 0 ≤ c → c + d ≤ 3000000 → 0 ≤ i → i ≤ l.length → (l.length : Int) - i = d → ∃ r, ∀ k, 3000000 + d < k → laws_markStringS.l0 k l c i = some (c + d, r) := by
  induction d with
  | zero =>
    intro l c i hn h0 h1 hi hi2 hd
    refine ⟨l, fun k hk => ?_⟩
    obtain ⟨k, rfl⟩ := pos_round (show 0 < k by omega)
    simp only [laws_markStringS.l0]
    rw [if_neg (by omega), show c + ((0 : Nat) : Int) = c by omega]
  | succ d ih =>
    intro l c i hn h0 h1 hi hi2 hd
    obtain ⟨r, hr⟩ := ih (l.set i.toNat (txt c)) (c + 1) (i + 1) (by simpa using hn) (by omega) (by omega) (by omega) (by simp; omega) (by simp; omega)
    refine ⟨r, fun k hk => ?_⟩
    obtain ⟨k, rfl⟩ := pos_round (show 0 < k by omega)
    simp only [laws_markStringS.l0]
    rw [if_pos (by omega), txt_ok c (by omega) k (by omega), Option.bind_some, if_pos hi, w64 (x := i + 1) (by omega) (by omega), w64 (x := c + 1) (by omega) (by omega), hr k (by omega), show c + 1 + (d : Int) = c + ((d + 1 : Nat) : Int) by omega]
theorem markS_ok (l : List ByteArray) (c : Int) (h0 : 0 ≤ c) (hl : c + l.length ≤ 3000000) : ∃ r, ∀ k, 3000000 + l.length < k → laws_markStringS.f k l c = some (c + l.length, r) :=
  markS_loop l.length l c 0 (by omega) h0 hl (by omega) (by omega) (by omega)
theorem rd34_lt {l : List S34} {i : Int} (h0 : 0 ≤ i) (h1 : i < l.length) : ∃ h : i.toNat < l.length, rd_T34 l i = l[i.toNat]'h := by
  have h : i.toNat < l.length := by omega
  exact ⟨h, by simp [rd_T34, List.getD_eq_getElem?_getD, List.getElem?_eq_getElem h]⟩
theorem rd34_mem {l : List S34} {i : Int} (h0 : 0 ≤ i) (h1 : i < l.length) : rd_T34 l i ∈ l := by
  obtain ⟨h, e⟩ := rd34_lt h0 h1
  rw [e]; exact List.getElem_mem h
theorem rd34_drop {l : List S34} {i : Int} (h0 : 0 ≤ i) (h1 : i < l.length) : l.drop i.toNat = rd_T34 l i :: l.drop (i + 1).toNat := by
  obtain ⟨h, e⟩ := rd34_lt h0 h1
  rw [e, show (i + 1).toNat = i.toNat + 1 by omega, List.drop_eq_getElem_cons h]
theorem rd34_take {l : List S34} {i : Int} (h0 : 0 ≤ i) (h1 : i < l.length) : l.take (i + 1).toNat = l.take i.toNat ++ [rd_T34 l i] := by
  obtain ⟨h, e⟩ := rd34_lt h0 h1
  rw [e, show (i + 1).toNat = i.toNat + 1 by omega, List.take_succ_eq_append_getElem h]
theorem rd34_set_eq {l : List S34} {i : Int} {x : S34} (h0 : 0 ≤ i) (h1 : i < l.length) : rd_T34 (l.set i.toNat x) i = x := by
  simp [rd_T34, List.getD_eq_getElem?_getD, List.getElem?_set, show i.toNat < l.length by omega]
theorem rd34_set_ne {l : List S34} {i j : Int} {x : S34} (h0 : 0 ≤ i) (hj : 0 ≤ j) (h : i ≠ j) : rd_T34 (l.set i.toNat x) j = rd_T34 l j := by
  simp [rd_T34, List.getD_eq_getElem?_getD, List.getElem?_set, show ¬ i.toNat = j.toNat by omega]
theorem rd34_append_left {l m : List S34} {i : Int} (h0 : 0 ≤ i) (h1 : i < l.length) : rd_T34 (l ++ m) i = rd_T34 l i := by
  simp [rd_T34, List.getD_eq_getElem?_getD, List.getElem?_append_left (show i.toNat < l.length by omega)]
theorem rd34_last {l : List S34} {x : S34} : rd_T34 (l ++ [x]) (l.length : Int) = x := by
  simp [rd_T34, List.getD_eq_getElem?_getD]
theorem ext34 {l m : List S34} (h : l.length = m.length) (hr : ∀ i : Int, 0 ≤ i → i < l.length → rd_T34 l i = rd_T34 m i) : l = m := by
  apply List.ext_getElem h
  intro i h1 h2
  have := hr i (by omega) (by omega)
  simpa [rd_T34, List.getD_eq_getElem?_getD, List.getElem?_eq_getElem h1, List.getElem?_eq_getElem h2] using this

/-! ### lists of posts -/
theorem eqPost_loop (l : List S34) (hn : l.length ≤ 1000000000) (d : Nat) : ∀ (k : Nat) (i : Int), 0 ≤ i → i ≤ l.length → (l.length : Int) - i = d → d < k → laws_eqPostS.l0 k l l i = some true := by
  induction d with
  | zero =>
    intro k i h0 h1 hd hk
    obtain ⟨k, rfl⟩ := pos_round (show 0 < k by omega)
    simp only [laws_eqPostS.l0]
    rw [if_neg (by omega)]
  | succ d ih =>
    intro k i h0 h1 hd hk
    obtain ⟨k, rfl⟩ := pos_round (show 0 < k by omega)
    simp only [laws_eqPostS.l0]
    rw [if_pos (by omega), if_pos h0, if_pos (by omega)]
    simp only [laws_eqPost.f, if_true, Option.bind_some]
    rw [w64 (x := i + 1) (by omega) (by omega)]
    exact ih k (i + 1) (by omega) (by omega) (by omega) (by omega)
theorem eqPost_ok (l : List S34) (hn : l.length ≤ 1000000000) (k : Nat) (hk : l.length < k) : laws_eqPostS.f k l l = some true := by
  unfold laws_eqPostS.f
  rw [if_pos rfl]
  exact eqPost_loop l hn l.length k 0 (by omega) (by omega) (by omega) hk
def pm (j : Int) : S34 := ⟨1 + 4 * j, 1 + 4 * j + 1, 1 + 4 * j + 2, txt (1 + 4 * j + 3)⟩
theorem markPost_loop (d : Nat) : ∀ (k : Nat) (l : List S34) (c i : Int), l.length ≤ 10000 → 0 ≤ i → i ≤ l.length → (l.length : Int) - i = d → 3000000 + d < k → c = 1 + 4 * i → (∀ j : Int, 0 ≤ j → j < i → rd_T34 l j = pm j) →
    ∃ r, laws_markPostS.l0 k l c i = some (1 + 4 * (l.length : Int), r) ∧ r.length = l.length ∧ ∀ j : Int, 0 ≤ j → j < l.length → rd_T34 r j = pm j := by
  induction d with
  | zero =>
    intro k l c i hn h0 h1 hd hk hc hj
    obtain ⟨k, rfl⟩ := pos_round (show 0 < k by omega)
    simp only [laws_markPostS.l0]
    rw [if_neg (by omega)]
    exact ⟨l, by rw [hc, show i = (l.length : Int) by omega], rfl, fun j h2 h3 => hj j h2 (by omega)⟩
  | succ d ih =>
    intro k l c i hn h0 h1 hd hk hc hj
    obtain ⟨k, rfl⟩ := pos_round (show 0 < k by omega)
    have hlt : i < (l.length : Int) := by omega
    obtain ⟨r, hr, hl, hrj⟩ := ih k (l.set i.toNat (⟨c, c + 1, c + 1 + 1, txt (c + 1 + 1 + 1)⟩ : S34)) (c + 1 + 1 + 1 + 1) (i + 1) (by simpa using hn) (by omega) (by simp; omega) (by simp; omega) (by omega) (by omega) (fun j h2 h3 => by
      by_cases e : j = i
      · subst e
        rw [rd34_set_eq h2 hlt, hc]
        unfold pm
        rw [show (1 + 4 * j + 1 + 1 : Int) = 1 + 4 * j + 2 by omega, show (1 + 4 * j + 2 + 1 : Int) = 1 + 4 * j + 3 by omega]
      · rw [rd34_set_ne h0 h2 (Ne.symm e)]
        exact hj j h2 (by omega))
    rw [List.length_set] at hr hl hrj
    refine ⟨r, ?_, hl, hrj⟩
    simp only [laws_markPostS.l0]
    rw [if_pos hlt, if_pos h0]
    simp only [Option.bind_some]
    rw [w64 (x := c + 1) (by omega) (by omega), w64 (x := c + 1 + 1) (by omega) (by omega), w64 (x := c + 1 + 1 + 1) (by omega) (by omega), w64 (x := c + 1 + 1 + 1 + 1) (by omega) (by omega), w64 (x := i + 1) (by omega) (by omega), txt_ok _ (by omega) k (by omega), Option.bind_some]
    have hset : ∀ x y : S34, (l.set i.toNat x).set i.toNat y = l.set i.toNat y := fun x y => List.set_set ..
    simp only [rd34_set_eq h0 hlt, hset]
    exact hr
theorem markPost_ok (l : List S34) (hn : l.length ≤ 10000) (k : Nat) (hk : 3000000 + l.length < k) :
    ∃ r, laws_markPostS.f k l 1 = some (1 + 4 * (l.length : Int), r) ∧ r.length = l.length ∧ ∀ j : Int, 0 ≤ j → j < l.length → rd_T34 r j = pm j :=
  markPost_loop l.length k l 1 0 hn (by omega) (by omega) (by omega) hk (by omega) (fun j h2 h3 => by omega)
theorem heldPost_loop (l : List S34) (hn : l.length ≤ 10000) (hr : ∀ j : Int, 0 ≤ j → j < l.length → rd_T34 l j = pm j) (d : Nat) : ∀ (k : Nat) (c i : Int), 0 ≤ i → i ≤ l.length → (l.length : Int) - i = d → 3000000 + d < k → c = 1 + 4 * i →
    laws_heldPostS.l0 k l c i = some (1 + 4 * (l.length : Int)) := by
  induction d with
  | zero =>
    intro k c i h0 h1 hd hk hc
    obtain ⟨k, rfl⟩ := pos_round (show 0 < k by omega)
    simp only [laws_heldPostS.l0]
    rw [if_neg (by omega), hc, show i = (l.length : Int) by omega]
  | succ d ih =>
    intro k c i h0 h1 hd hk hc
    obtain ⟨k, rfl⟩ := pos_round (show 0 < k by omega)
    simp only [laws_heldPostS.l0]
    rw [if_pos (by omega), if_pos h0, hr i h0 (by omega)]
    unfold pm
    dsimp only
    rw [w64 (x := c + 1) (by omega) (by omega), w64 (x := c + 1 + 1) (by omega) (by omega), w64 (x := c + 1 + 1 + 1) (by omega) (by omega), w64 (x := c + 1 + 1 + 1 + 1) (by omega) (by omega), w64 (x := i + 1) (by omega) (by omega), if_pos (by omega), if_pos (by omega), if_pos (by omega), txt_ok _ (by omega) k (by omega), Option.bind_some, if_pos (by rw [hc, show (1 + 4 * i + 1 + 1 + 1 : Int) = 1 + 4 * i + 3 by omega])]
    exact ih k _ (i + 1) (by omega) (by omega) (by omega) (by omega) (by omega)
theorem heldPost_ok (l : List S34) (hn : l.length ≤ 10000) (hr : ∀ j : Int, 0 ≤ j → j < l.length → rd_T34 l j = pm j) (k : Nat) (hk : 3000000 + l.length < k) :
    laws_heldPostS.f k l 1 = some (1 + 4 * (l.length : Int)) :=
  heldPost_loop l hn hr l.length k 1 0 (by omega) (by omega) (by omega) hk (by omega)
/-! ### Again21 -/
theorem post_same (l : List S34) (hn : l.length ≤ 100000) : impl_Post.f l = some l := by
  unfold impl_Post.f
  rw [if_pos (by omega), if_pos (by omega), Option.bind_some, if_pos (by simp; omega)]; rfl
theorem again_loops (who : Int) (s : List ByteArray) (a : Int) (g : List ByteArray) (hs : s.length ≤ 200) (hg : g.length ≤ 200) (d : Nat) : ∀ (o : List S34) (i : Int), 0 ≤ i → i ≤ s.length → (s.length : Int) - i = d → o.length ≤ i →
    ∃ r, r.length ≤ 201 ∧ ∀ k, d < k → spec_Again21.l0 k who o i s a g = some (r, true) ∧ impl_Again21.l0 k who o i s a g = some (r, true) := by
  induction d with
  | zero =>
    intro o i h0 h1 hd ho
    by_cases c : (o.length : Int) = 0
    · refine ⟨o ++ [(⟨who, 0, (g.length : Int), (⟨#[]⟩ : ByteArray)⟩ : S34)], by simp; omega, fun k hk => ?_⟩
      obtain ⟨k, rfl⟩ := pos_round (show 0 < k by omega)
      simp only [spec_Again21.l0, impl_Again21.l0]
      constructor
      · rw [if_neg (by omega), if_pos c, if_pos (by omega)]
      · rw [if_neg (by omega), if_pos c, post_same _ (by simp), Option.bind_some, List.eq_nil_of_length_eq_zero (show o.length = 0 by omega)]; rfl
    · refine ⟨o, by omega, fun k hk => ?_⟩
      obtain ⟨k, rfl⟩ := pos_round (show 0 < k by omega)
      simp only [spec_Again21.l0, impl_Again21.l0]
      constructor
      · rw [if_neg (by omega), if_neg c]
      · rw [if_neg (by omega), if_neg c, post_same _ (by omega), Option.bind_some]
  | succ d ih =>
    intro o i h0 h1 hd ho
    obtain ⟨r, hl, hr⟩ := ih (o ++ [(⟨who, wrap64 (i + 1), (g.length : Int), rdOf ByteArray.empty s i⟩ : S34)]) (i + 1) (by omega) (by omega) (by omega) (by simp; omega)
    refine ⟨r, hl, fun k hk => ?_⟩
    obtain ⟨k, rfl⟩ := pos_round (show 0 < k by omega)
    have hw : wrap64 (i + 1) = i + 1 := w64 (by omega) (by omega)
    have hk2 := hr k (by omega)
    rw [hw] at hk2
    simp only [spec_Again21.l0, impl_Again21.l0]
    constructor
    · rw [if_pos (by omega), if_pos h0, if_pos (by omega), hw]; exact hk2.1
    · rw [if_pos (by omega), if_pos h0, if_pos (by omega), hw]; exact hk2.2
theorem again_same (s : List ByteArray) (a : Int) (g : List ByteArray) (who : Int) (hs : s.length ≤ 1048576) (hg : g.length ≤ 1048576) : ∃ r, r.1.length ≤ 201 ∧ ∀ k, 1048577 < k → spec_Again21.f k s a g who = some r ∧ impl_Again21.f k s a g who = some r := by
  obtain ⟨b, hb0, hb⟩ := party_same s a g hs hg
  have hbad : ∀ k, 0 < k → spec_Again21.j0 k who [] true s a g = some ([], false) ∧ impl_Again21.j0 k who true s a g = some ([], false) := fun k hk => by
    obtain ⟨k, rfl⟩ := pos_round hk
    simp only [spec_Again21.j0, impl_Again21.j0, if_true]
    exact ⟨trivial, trivial⟩
  cases b with
  | false =>
    refine ⟨([], false), by simp, fun k hk => ?_⟩
    obtain ⟨b1, b2⟩ := hb k (by omega)
    unfold spec_Again21.f impl_Again21.f
    constructor
    · rw [Option.bind_some, b1, Option.bind_some, if_neg (by simp)]; exact (hbad k (by omega)).1
    · rw [b2, Option.bind_some, if_neg (by simp)]; exact (hbad k (by omega)).2
  | true =>
    obtain ⟨h1, h2, h3, h4⟩ := hb0 rfl
    by_cases hw : 0 ≤ who ∧ who ≤ 1
    · obtain ⟨r, hl, hr⟩ := again_loops who s a g h1 h2 (s.length - a.toNat) [] a h3 h4 (by omega) (by simp; omega)
      refine ⟨(r, true), hl, fun k hk => ?_⟩
      obtain ⟨b1, b2⟩ := hb k (by omega)
      unfold spec_Again21.f impl_Again21.f
      rw [Option.bind_some, b1, b2, in_eqP, in_eqP', decide_eq_true hw, Option.bind_some, Option.bind_some, if_pos rfl, Option.bind_some, if_pos rfl, Option.bind_some]
      obtain ⟨k, rfl⟩ := pos_round (show 0 < k by omega)
      simp only [spec_Again21.j0, impl_Again21.j0]
      exact hr k (by omega)
    · refine ⟨([], false), by simp, fun k hk => ?_⟩
      obtain ⟨b1, b2⟩ := hb k (by omega)
      unfold spec_Again21.f impl_Again21.f
      rw [Option.bind_some, b1, b2, in_eqP, in_eqP', decide_eq_false hw, Option.bind_some, Option.bind_some, if_pos rfl, Option.bind_some, if_pos rfl, Option.bind_some]
      exact hbad k (by omega)

theorem FnExactAgain21 : laws_FnExactAgain21.Pure := by
  intro s a g who hs _ hg _
  refine ⟨8000000, ?_⟩
  obtain ⟨t1, t10, t11, t12, t13⟩ := sz_ok s hs.1 hs.2 1048576 (by omega) (by omega)
  unfold laws_FnExactAgain21.f laws_szParty.f
  rw [t13 8000000 (by omega), Option.bind_some]
  by_cases c1 : t1 < 0
  · rw [if_pos c1, Option.bind_some, if_pos (by omega)]
  · rw [if_neg c1]
    obtain ⟨t2, t20, t21, t22, t23⟩ := sz_ok g hg.1 hg.2 t1 (by omega) (by omega)
    rw [t23 8000000 (by omega), Option.bind_some]
    by_cases c2 : t2 < 0
    · rw [if_pos c2, Option.bind_some, if_pos (by omega)]
    · rw [if_neg c2, Option.bind_some, if_neg c2]
      have l1 := (t12 (by omega)).1
      have l2 := (t22 (by omega)).1
      have hp : ∀ k, 1048576 < k → laws_toParty.f k s a g = some (s, a, g) := fun k hk => by
        unfold laws_toParty.f
        rw [toS_ok s (by omega) _ (by omega), Option.bind_some, toS_ok g (by omega) _ (by omega), Option.bind_some]
      obtain ⟨r, hrl, hr⟩ := again_same s a g who (by omega) (by omega)
      have he : ∀ k, 1048576 < k → laws_eqParty.f k s a g s a g = some true := fun k hk => by
        unfold laws_eqParty.f
        rw [eqS_ok s (by omega) _ (by omega), Option.bind_some, if_pos rfl, if_pos rfl, eqS_ok g (by omega) _ (by omega), Option.bind_some, if_pos rfl]
      have hq : ∀ k, 1000 < k → laws_eqPostS.f k r.1 r.1 = some true := fun k hk => eqPost_ok r.1 (by omega) k (by omega)
      rw [hp _ (by omega), Option.bind_some]
      dsimp only
      rw [(hr _ (by omega)).1, Option.bind_some, Option.bind_some]
      dsimp only
      rw [(hr _ (by omega)).2, Option.bind_some, hq _ (by omega), Option.bind_some, if_pos rfl]
      simp only [laws_FnExactAgain21.j0]
      rw [if_neg (by simp), hp _ (by omega), Option.bind_some]
      dsimp only
      rw [he _ (by omega), Option.bind_some, if_pos rfl]
      obtain ⟨m1, hm1⟩ := markS_ok s 1 (by omega) (by omega)
      obtain ⟨m2, hm2⟩ := markS_ok g (1 + s.length) (by omega) (by omega)
      unfold laws_markParty.f
      rw [hm1 _ (by omega), Option.bind_some]
      dsimp only
      rw [hm2 _ (by omega), Option.bind_some, Option.bind_some, if_neg (by dsimp only; omega), hq _ (by omega), Option.bind_some, if_pos rfl]
      simp only [laws_FnExactAgain21.j1]
      obtain ⟨m3, hm3, hm4, hm5⟩ := markPost_ok r.1 (by omega) 7999998 (by omega)
      rw [if_neg (by simp), hm3, Option.bind_some]
      dsimp only
      rw [heldPost_ok m3 (by omega) (fun j j0 j1 => hm5 j j0 (by omega)) _ (by omega), Option.bind_some, if_neg (by omega), if_pos (by omega), hp _ (by omega), Option.bind_some]
      dsimp only
      rw [(hr _ (by omega)).2, Option.bind_some, hq _ (by omega), Option.bind_some, if_pos rfl]
      simp only [laws_FnExactAgain21.j2]
      rw [if_neg (by simp), heldPost_ok m3 (by omega) (fun j j0 j1 => hm5 j j0 (by omega)) _ (by omega), Option.bind_some, if_neg (by omega), if_pos (by omega)]

end Go.Proofs.Ytmglilikmbbidaa.Pure
