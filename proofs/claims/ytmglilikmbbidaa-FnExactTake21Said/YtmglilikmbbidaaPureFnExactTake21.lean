/- The program's Take21 returns what the reference's returns, for all arguments, changes none and hands out fresh memory. -/
import Derived.Test.YtmglilikmbbidaaPFnExactTake21x6
import Derived.Test.YtmglilikmbbidaaKit
set_option linter.unusedVariables false
set_option linter.unusedSimpArgs false
namespace Go.Proofs.Ytmglilikmbbidaa.Pure
open Go.RowKit Go.Proofs.Ytmglilikmbbidaa.PFnExactTake21 Go.Proofs.YtmglilikmbbidaaW.PrintWords Go.Proofs.YtmglilikmbbidaaW.PrintLast Go.Proofs.YtmglilikmbbidaaW.PrintMore Go.Proofs.YtmglilikmbbidaaW.Kit

/-! ### lists of strings -/
theorem rs_lt {l : List ByteArray} {i : Int} (h0 : 0 ≤ i) (h1 : i < l.length) : ∃ h : i.toNat < l.length, rdOf ByteArray.empty l i = l[i.toNat]'h := by
  have h : i.toNat < l.length := by omega
  exact ⟨h, by simp [rdOf, List.getD_eq_getElem?_getD, List.getElem?_eq_getElem h]⟩
theorem rs_mem {l : List ByteArray} {i : Int} (h0 : 0 ≤ i) (h1 : i < l.length) : rdOf ByteArray.empty l i ∈ l := by
  obtain ⟨h, e⟩ := rs_lt h0 h1
  rw [e]; exact List.getElem_mem h
theorem sz_loop (l : List ByteArray) (hl : l.length ≤ 1048576) (hq : ∀ x ∈ l, x.size ≤ 9223372036854775807) (d : Nat) : ∀ (a i : Int), 0 ≤ a → a ≤ 1048576 → 0 ≤ i → i ≤ l.length → (l.length : Int) - i = d →
    ∃ t : Int, -1 ≤ t ∧ t ≤ a ∧ (0 ≤ t → ∀ x ∈ l.drop i.toNat, (x.size : Int) ≤ a) ∧ ∀ k, d < k → laws_szStringS.l0 k l a i = some t := by
  induction d with
  | zero =>
    intro a i ha ha1 h0 h1 hd
    refine ⟨a, by omega, by omega, fun _ x hx => ?_, fun k hk => ?_⟩
    · rw [List.drop_eq_nil_of_le (by omega)] at hx; cases hx
    · obtain ⟨k, rfl⟩ := pos_round (show 0 < k by omega)
      simp only [laws_szStringS.l0]
      rw [if_neg (by omega)]
  | succ d ih =>
    intro a i ha ha1 h0 h1 hd
    have hlt : i < (l.length : Int) := by omega
    have hs := hq _ (rs_mem h0 hlt)
    have hs0 : (0 : Int) ≤ ((rdOf ByteArray.empty l i).size : Int) := by omega
    by_cases c : a - ((rdOf ByteArray.empty l i).size : Int) < 0
    · refine ⟨-1, by omega, by omega, fun h => by omega, fun k hk => ?_⟩
      obtain ⟨k, rfl⟩ := pos_round (show 0 < k by omega)
      simp only [laws_szStringS.l0]
      rw [if_pos hlt, if_pos h0, w64 (x := a - _) (by omega) (by omega), if_pos c]
    · obtain ⟨t, t0, t1, t2, t3⟩ := ih (a - ((rdOf ByteArray.empty l i).size : Int)) (i + 1) (by omega) (by omega) (by omega) (by omega) (by omega)
      refine ⟨t, t0, by omega, fun ht x hx => ?_, fun k hk => ?_⟩
      · obtain ⟨hn, e⟩ := rs_lt h0 hlt
        rw [List.drop_eq_getElem_cons hn, ← e] at hx
        rcases List.mem_cons.1 hx with rfl | hx
        · omega
        · have := t2 ht x (by rw [show (i + 1).toNat = i.toNat + 1 by omega]; exact hx)
          omega
      · obtain ⟨k, rfl⟩ := pos_round (show 0 < k by omega)
        simp only [laws_szStringS.l0]
        rw [if_pos hlt, if_pos h0, w64 (x := a - _) (by omega) (by omega), if_neg c, w64 (x := i + 1) (by omega) (by omega)]
        exact t3 k (by omega)
theorem sz_ok (l : List ByteArray) (hm : l.length ≤ 9223372036854775807) (hq : ∀ x ∈ l, x.size ≤ 9223372036854775807) (a : Int) (ha : 0 ≤ a) (ha1 : a ≤ 1048576) :
    ∃ t : Int, -1 ≤ t ∧ t ≤ a ∧ (0 ≤ t → (l.length : Int) ≤ a ∧ ∀ x ∈ l, (x.size : Int) ≤ a) ∧ ∀ k, 1048576 < k → laws_szStringS.f k l a = some t := by
  by_cases c : a - (l.length : Int) < 0
  · refine ⟨-1, by omega, by omega, fun h => by omega, fun k hk => ?_⟩
    unfold laws_szStringS.f
    rw [w64 (by omega) (by omega), if_pos c]
  · obtain ⟨t, t0, t1, t2, t3⟩ := sz_loop l (by omega) hq l.length (a - l.length) 0 (by omega) (by omega) (by omega) (by omega) (by omega)
    refine ⟨t, t0, by omega, fun ht => ⟨by omega, fun x hx => ?_⟩, fun k hk => ?_⟩
    · have := t2 ht x (by simpa using hx); omega
    · unfold laws_szStringS.f
      rw [w64 (by omega) (by omega), if_neg c]
      exact t3 k (by omega)
theorem toS_loop (l : List ByteArray) (hn : l.length ≤ 1048576) (d : Nat) : ∀ (k : Nat) (o : List ByteArray) (i : Int), 0 ≤ i → i ≤ l.length → (l.length : Int) - i = d → d < k → o.length = l.length → o.take i.toNat = l.take i.toNat → laws_toStringS.l0 k l o i = some l := by
  induction d with
  | zero =>
    intro k o i h0 h1 hd hk ho ht
    obtain ⟨k, rfl⟩ := pos_round (show 0 < k by omega)
    simp only [laws_toStringS.l0]
    rw [if_neg (by omega)]
    rw [List.take_of_length_le (by omega), List.take_of_length_le (by omega)] at ht
    rw [ht]
  | succ d ih =>
    intro k o i h0 h1 hd hk ho ht
    obtain ⟨k, rfl⟩ := pos_round (show 0 < k by omega)
    obtain ⟨hl, e⟩ := rs_lt h0 (show i < (l.length : Int) by omega)
    simp only [laws_toStringS.l0]
    rw [if_pos (by omega), if_pos h0, if_pos (by omega), w64 (x := i + 1) (by omega) (by omega)]
    refine ih k _ (i + 1) (by omega) (by omega) (by omega) (by omega) (by simpa using ho) ?_
    rw [show (i + 1).toNat = i.toNat + 1 by omega, List.take_succ_eq_append_getElem (by simp; omega), List.take_succ_eq_append_getElem hl, List.take_set_of_le (Nat.le_refl _), ht]
    simp [e]
theorem toS_ok (l : List ByteArray) (hn : l.length ≤ 1048576) (k : Nat) (hk : l.length < k) : laws_toStringS.f k l = some l := by
  unfold laws_toStringS.f
  rw [if_pos (by omega), if_pos (by omega)]
  exact toS_loop l hn l.length k _ 0 (by omega) (by omega) (by omega) hk (by simp) (by simp)
theorem eqS_loop (l : List ByteArray) (hn : l.length ≤ 1000000000) (d : Nat) : ∀ (k : Nat) (i : Int), 0 ≤ i → i ≤ l.length → (l.length : Int) - i = d → d < k → laws_eqStringS.l0 k l l i = some true := by
  induction d with
  | zero =>
    intro k i h0 h1 hd hk
    obtain ⟨k, rfl⟩ := pos_round (show 0 < k by omega)
    simp only [laws_eqStringS.l0]
    rw [if_neg (by omega)]
  | succ d ih =>
    intro k i h0 h1 hd hk
    obtain ⟨k, rfl⟩ := pos_round (show 0 < k by omega)
    simp only [laws_eqStringS.l0]
    rw [if_pos (by omega), if_pos h0, if_pos (by omega), if_pos trivial, w64 (x := i + 1) (by omega) (by omega)]
    exact ih k (i + 1) (by omega) (by omega) (by omega) (by omega)
theorem eqS_ok (l : List ByteArray) (hn : l.length ≤ 1000000000) (k : Nat) (hk : l.length < k) : laws_eqStringS.f k l l = some true := by
  unfold laws_eqStringS.f
  rw [if_pos rfl]
  exact eqS_loop l hn l.length k 0 (by omega) (by omega) (by omega) hk
/-! ### PartyOk -/
theorem in_eqP (a b c : Int) : impl_in.f a b c = some (decide (b ≤ a ∧ a ≤ c)) := in_some a b c
theorem in_eqP' (a b c : Int) : spec_l1In.f a b c = some (decide (b ≤ a ∧ a ≤ c)) := in_some a b c
theorem texts_loops (l : List ByteArray) (hn : l.length ≤ 1048576) (d : Nat) : ∀ (i : Int), 0 ≤ i → i ≤ l.length → (l.length : Int) - i = d →
    ∃ r : Int, -1 ≤ r ∧ ∀ k, d < k → slices_IndexFunc_string_string_at_impl_shortTexts_1.l0 k l (l.length : Int) i = some r ∧ spec_l21Texts.l0 k l i = some (decide (r < 0) && decide ((l.length : Int) ≤ 200)) := by
  induction d with
  | zero =>
    intro i h0 h1 hd
    refine ⟨-1, by omega, fun k hk => ?_⟩
    obtain ⟨k, rfl⟩ := pos_round (show 0 < k by omega)
    simp only [slices_IndexFunc_string_string_at_impl_shortTexts_1.l0, spec_l21Texts.l0]
    rw [if_neg (by omega), if_neg (by omega)]
    exact ⟨rfl, by simp⟩
  | succ d ih =>
    intro i h0 h1 hd
    have hlt : i < (l.length : Int) := by omega
    by_cases c : ((rdOf ByteArray.empty l i).size : Int) > 40
    · refine ⟨i, by omega, fun k hk => ?_⟩
      obtain ⟨k, rfl⟩ := pos_round (show 0 < k by omega)
      simp only [slices_IndexFunc_string_string_at_impl_shortTexts_1.l0, spec_l21Texts.l0, impl_shortTexts_1.f]
      constructor
      · rw [if_pos hlt, if_pos h0, if_pos hlt, Option.bind_some, if_pos (decide_eq_true c)]
      · rw [if_pos hlt, if_pos h0, if_pos c]; simp; omega
    · obtain ⟨r, hr, hk⟩ := ih (i + 1) (by omega) (by omega) (by omega)
      refine ⟨r, hr, fun k hk' => ?_⟩
      obtain ⟨k, rfl⟩ := pos_round (show 0 < k by omega)
      obtain ⟨ha, hb⟩ := hk k (by omega)
      simp only [slices_IndexFunc_string_string_at_impl_shortTexts_1.l0, spec_l21Texts.l0, impl_shortTexts_1.f]
      constructor
      · rw [if_pos hlt, if_pos h0, if_pos hlt, Option.bind_some, if_neg (by simpa using c), w64 (x := i + 1) (by omega) (by omega)]
        exact ha
      · rw [if_pos hlt, if_pos h0, if_neg c, w64 (x := i + 1) (by omega) (by omega)]
        exact hb
theorem texts_same (l : List ByteArray) (hn : l.length ≤ 1048576) : ∃ b : Bool, (b = true → l.length ≤ 200) ∧ ∀ k, l.length < k → spec_l21Texts.f k l = some b ∧ impl_shortTexts.f k l = some b := by
  obtain ⟨r, hr, hk⟩ := texts_loops l hn l.length 0 (by omega) (by omega) (by omega)
  refine ⟨decide (r < 0) && decide ((l.length : Int) ≤ 200), fun h => by simp at h; omega, fun k hk' => ⟨(hk k hk').2, ?_⟩⟩
  unfold impl_shortTexts.f
  by_cases c : (l.length : Int) ≤ 200
  · rw [if_pos c]
    unfold slices_ContainsFunc_string_string_at_impl_shortTexts_1.f slices_IndexFunc_string_string_at_impl_shortTexts_1.f
    rw [(hk k hk').1, Option.bind_some, Option.bind_some, decide_eq_true c, Bool.and_true]
    congr 1
    by_cases e : r < 0
    · rw [decide_eq_true e, decide_eq_false (by omega)]; rfl
    · rw [decide_eq_false e, decide_eq_true (by omega)]; rfl
  · rw [if_neg c, decide_eq_false c, Bool.and_false]
theorem party_same (s : List ByteArray) (a : Int) (g : List ByteArray) (hs : s.length ≤ 1048576) (hg : g.length ≤ 1048576) : ∃ b : Bool, (b = true → s.length ≤ 200 ∧ g.length ≤ 200 ∧ 0 ≤ a ∧ a ≤ s.length) ∧ ∀ k, 1048576 < k → spec_PartyOk.f k s a g = some b ∧ impl_PartyOk.f k s a g = some b := by
  obtain ⟨b1, l1, h1⟩ := texts_same s hs
  obtain ⟨b2, l2, h2⟩ := texts_same g hg
  refine ⟨b1 && (b2 && decide (0 ≤ a ∧ a ≤ (s.length : Int))), fun h => ?_, fun k hk => ?_⟩
  · simp only [Bool.and_eq_true, decide_eq_true_eq] at h
    exact ⟨l1 h.1, l2 h.2.1, h.2.2.1, h.2.2.2⟩
  · obtain ⟨s1, i1⟩ := h1 k (by omega)
    obtain ⟨s2, i2⟩ := h2 k (by omega)
    unfold spec_PartyOk.f impl_PartyOk.f
    rw [s1, i1, s2, i2, in_eqP, in_eqP']
    cases b1 <;> cases b2 <;> exact ⟨rfl, rfl⟩
/-! ### the law's mark texts -/
theorem text_loop (d : Nat) : ∀ (x : Int) (s : ByteArray), x ≤ d → x ≤ 100000000 → (s.size : Int) + d ≤ 1000000000 → ∃ t, ∀ k, d < k → laws_markText.l0 k x s = some t := by
  induction d with
  | zero =>
    intro x s hd hx hs
    refine ⟨(⟨#[109]⟩ : ByteArray) ++ s, fun k hk => ?_⟩
    obtain ⟨k, rfl⟩ := pos_round (show 0 < k by omega)
    simp only [laws_markText.l0]
    rw [if_neg (by omega), if_pos (by omega)]
  | succ d ih =>
    intro x s hd hx hs
    by_cases c : x > 0
    · have hz : (strOfNums [(wrap64 (48 + (Int.tmod x 10))) % 256]).size = 1 := by rw [strOfNums_size]; rfl
      obtain ⟨t, ht⟩ := ih (x / 10) ((strOfNums [(wrap64 (48 + (Int.tmod x 10))) % 256]) ++ s) (by omega) (by omega) (by rw [ByteArray.size_append]; omega)
      refine ⟨t, fun k hk => ?_⟩
      obtain ⟨k, rfl⟩ := pos_round (show 0 < k by omega)
      simp only [laws_markText.l0]
      rw [if_pos c, Option.bind_some, if_pos (by omega), td (by omega), w64 (x := x / 10) (by omega) (by omega)]
      exact ht k (by omega)
    · refine ⟨(⟨#[109]⟩ : ByteArray) ++ s, fun k hk => ?_⟩
      obtain ⟨k, rfl⟩ := pos_round (show 0 < k by omega)
      simp only [laws_markText.l0]
      rw [if_neg c, if_pos (by omega)]
theorem text_ok (c : Int) (hc : c ≤ 3000000) : ∃ t, ∀ k, 3000000 < k → laws_markText.f k c = some t := by
  by_cases h : c ≤ 0
  · refine ⟨(⟨#[109, 48]⟩ : ByteArray), fun k hk => ?_⟩
    unfold laws_markText.f
    rw [if_pos h]
  · obtain ⟨t, ht⟩ := text_loop 3000000 c (⟨#[]⟩ : ByteArray) (by omega) (by omega) (by simp [ByteArray.size])
    refine ⟨t, fun k hk => ?_⟩
    unfold laws_markText.f
    rw [if_neg h]
    exact ht k hk
/-- The text of a mark. -/
def txt (c : Int) : ByteArray := (laws_markText.f 3000001 c).getD ByteArray.empty
theorem txt_ok (c : Int) (hc : c ≤ 3000000) (k : Nat) (hk : 3000000 < k) : laws_markText.f k c = some (txt c) := by
  obtain ⟨t, ht⟩ := text_ok c hc
  rw [ht k hk, txt, ht 3000001 (by omega)]; rfl
theorem rs_set_eq {l : List ByteArray} {i : Int} {x : ByteArray} (h0 : 0 ≤ i) (h1 : i < l.length) : rdOf ByteArray.empty (l.set i.toNat x) i = x := by
  simp [rdOf, List.getD_eq_getElem?_getD, List.getElem?_set, show i.toNat < l.length by omega]
theorem rs_set_ne {l : List ByteArray} {i j : Int} {x : ByteArray} (h0 : 0 ≤ i) (hj : 0 ≤ j) (h : i ≠ j) : rdOf ByteArray.empty (l.set i.toNat x) j = rdOf ByteArray.empty l j := by
  simp [rdOf, List.getD_eq_getElem?_getD, List.getElem?_set, show ¬ i.toNat = j.toNat by omega]
theorem markS_loop (c0 : Int) (h0 : 0 ≤ c0) (d : Nat) : ∀ (l : List ByteArray) (c i : Int), c0 + l.length ≤ 3000000 → 0 ≤ i → i ≤ l.length → (l.length : Int) - i = d → c = c0 + i → (∀ j : Int, 0 ≤ j → j < i → rdOf ByteArray.empty l j = txt (c0 + j)) →
    ∃ r, r.length = l.length ∧ (∀ j : Int, 0 ≤ j → j < l.length → rdOf ByteArray.empty r j = txt (c0 + j)) ∧ ∀ k, 3000000 + d < k → laws_markStringS.l0 k l c i = some (c0 + l.length, r) := by
  induction d with
  | zero =>
    intro l c i hn hi hi2 hd hc hj
    refine ⟨l, rfl, fun j a b => hj j a (by omega), fun k hk => ?_⟩
    obtain ⟨k, rfl⟩ := pos_round (show 0 < k by omega)
    simp only [laws_markStringS.l0]
    rw [if_neg (by omega), show c = c0 + (l.length : Int) by omega]
  | succ d ih =>
    intro l c i hn hi hi2 hd hc hj
    have hlt : i < (l.length : Int) := by omega
    obtain ⟨r, r0, r1, r2⟩ := ih (l.set i.toNat (txt c)) (c + 1) (i + 1) (by simpa using hn) (by omega) (by simp; omega) (by simp; omega) (by omega) (fun j a b => by
      by_cases e : j = i
      · subst e; rw [rs_set_eq a hlt, hc]
      · rw [rs_set_ne hi a (Ne.symm e)]; exact hj j a (by omega))
    rw [List.length_set] at r0 r1 r2
    refine ⟨r, r0, r1, fun k hk => ?_⟩
    obtain ⟨k, rfl⟩ := pos_round (show 0 < k by omega)
    simp only [laws_markStringS.l0]
    rw [if_pos hlt, txt_ok c (by omega) k (by omega), Option.bind_some, if_pos hi, w64 (x := c + 1) (by omega) (by omega), w64 (x := i + 1) (by omega) (by omega)]
    exact r2 k (by omega)
theorem heldS_loop (c0 : Int) (h0 : 0 ≤ c0) (l : List ByteArray) (hn : c0 + l.length ≤ 3000000) (hr : ∀ j : Int, 0 ≤ j → j < l.length → rdOf ByteArray.empty l j = txt (c0 + j)) (d : Nat) : ∀ (c i : Int), 0 ≤ i → i ≤ l.length → (l.length : Int) - i = d → c = c0 + i →
    ∀ k, 3000000 + d < k → laws_heldStringS.l0 k l c i = some (c0 + l.length) := by
  induction d with
  | zero =>
    intro c i hi hi2 hd hc k hk
    obtain ⟨k, rfl⟩ := pos_round (show 0 < k by omega)
    simp only [laws_heldStringS.l0]
    rw [if_neg (by omega), show c = c0 + (l.length : Int) by omega]
  | succ d ih =>
    intro c i hi hi2 hd hc k hk
    have hlt : i < (l.length : Int) := by omega
    obtain ⟨k, rfl⟩ := pos_round (show 0 < k by omega)
    simp only [laws_heldStringS.l0]
    rw [if_pos hlt, if_pos hi, txt_ok c (by omega) k (by omega), Option.bind_some, hr i hi hlt, ← hc, if_pos rfl, w64 (x := c + 1) (by omega) (by omega), w64 (x := i + 1) (by omega) (by omega)]
    exact ih (c + 1) (i + 1) (by omega) (by omega) (by omega) (by omega) k (by omega)
theorem markP (s : List ByteArray) (a : Int) (g : List ByteArray) (hs : (s.length : Int) + g.length ≤ 2900000) : ∃ r q, r.length = s.length ∧ q.length = g.length ∧ (∀ k, 6000000 < k → laws_markParty.f k s a g 1 = some (1 + (s.length : Int) + (g.length : Int), r, q)) ∧ ∀ k, 6000000 < k → laws_heldParty.f k r a q 1 = some (1 + (s.length : Int) + (g.length : Int)) := by
  obtain ⟨r, r0, r1, r2⟩ := markS_loop 1 (by omega) s.length s 1 0 (by omega) (by omega) (by omega) (by omega) (by omega) (fun j a b => by omega)
  obtain ⟨q, q0, q1, q2⟩ := markS_loop (1 + s.length) (by omega) g.length g (1 + s.length) 0 (by omega) (by omega) (by omega) (by omega) (by omega) (fun j a b => by omega)
  refine ⟨r, q, r0, q0, fun k hk => ?_, fun k hk => ?_⟩
  · unfold laws_markParty.f laws_markStringS.f
    rw [r2 k (by omega), Option.bind_some]
    dsimp only
    rw [q2 k (by omega), Option.bind_some]
  · have e1 := heldS_loop 1 (by omega) r (by omega) (fun j a b => r1 j a (by omega)) r.length 1 0 (by omega) (by omega) (by omega) (by omega) k (by omega)
    have e2 := heldS_loop (1 + s.length) (by omega) q (by omega) (fun j a b => q1 j a (by omega)) q.length (1 + s.length) 0 (by omega) (by omega) (by omega) (by omega) k (by omega)
    unfold laws_heldParty.f laws_heldStringS.f
    rw [r0] at e1
    rw [q0] at e2
    rw [e1, Option.bind_some, if_neg (by omega), e2, Option.bind_some, if_neg (by omega)]
theorem eqP (s : List ByteArray) (a : Int) (g : List ByteArray) (hs : (s.length : Int) + g.length ≤ 2900000) (k : Nat) (hk : 3000000 < k) : laws_eqParty.f k s a g s a g = some true := by
  unfold laws_eqParty.f
  rw [eqS_ok s (by omega) k (by omega), Option.bind_some, if_pos rfl, if_pos rfl, eqS_ok g (by omega) k (by omega), Option.bind_some, if_pos rfl]
theorem ownS (l : List ByteArray) (hn : l.length ≤ 1048577) : impl_own_string.f l = some l := by
  unfold impl_own_string.f
  rw [if_pos (by omega), if_pos (by omega), Option.bind_some, if_pos (by simp; omega), List.nil_append]
theorem ownP (s : List ByteArray) (a : Int) (g : List ByteArray) (hs : s.length ≤ 1048576) (hg : g.length ≤ 1048576) : impl_Party_own.f s a g = some (s, a, g) := by
  unfold impl_Party_own.f
  rw [ownS s (by omega), Option.bind_some, ownS g (by omega), Option.bind_some]
theorem copyP (s : List ByteArray) (a : Int) (g : List ByteArray) (hs : s.length ≤ 1048576) (hg : g.length ≤ 1048576) : spec_l21Copy.f s a g = some (s, a, g) := by
  unfold spec_l21Copy.f
  rw [Option.bind_some, if_pos (by simp; omega), Option.bind_some, if_pos (by simp; omega), List.nil_append, List.nil_append]
/-! ### Take21 -/
theorem take_same (s : List ByteArray) (a : Int) (g : List ByteArray) (who f n ack : Int) (text : ByteArray) (hn : n ≤ 9223372036854775807) (hs : s.length ≤ 1048576) (hg : g.length ≤ 1048576) :
    ∃ res : List ByteArray × Int × List ByteArray × Bool, res.1.length ≤ 1048577 ∧ res.2.2.1.length ≤ 1048577 ∧ ∀ k, 1048577 < k → spec_Take21.f k s a g who f n ack text = some res ∧ impl_Take21.f k s a g who f n ack text = some res := by
  obtain ⟨b, hb, hp⟩ := party_same s a g hs hg
  have hno : ∀ k, 0 < k → spec_Take21.j0 k true f n ack text s a g = some (s, a, g, false) ∧ impl_Take21.j0 k true f n ack text s a g = some (s, a, g, false) := fun k hk => by
    obtain ⟨k, rfl⟩ := pos_round hk
    simp only [spec_Take21.j0, impl_Take21.j0, if_true]
    exact ⟨trivial, trivial⟩
  have hsm : s.length ≤ 1048577 := by omega
  have hgm : g.length ≤ 1048577 := by omega
  cases b with
  | false =>
    refine ⟨(s, a, g, false), hsm, hgm, fun k hk => ?_⟩
    obtain ⟨p1, p2⟩ := hp k (by omega)
    unfold spec_Take21.f impl_Take21.f
    rw [copyP s a g hs hg, ownP s a g hs hg, p1, p2]
    exact hno k (by omega)
  | true =>
    obtain ⟨l1, l2, l3, l4⟩ := hb rfl
    cases ew : decide (0 ≤ who ∧ who ≤ 1) with
    | false =>
      refine ⟨(s, a, g, false), hsm, hgm, fun k hk => ?_⟩
      obtain ⟨p1, p2⟩ := hp k (by omega)
      unfold spec_Take21.f impl_Take21.f
      rw [copyP s a g hs hg, ownP s a g hs hg, p1, p2, in_eqP, in_eqP', ew]
      exact hno k (by omega)
    | true =>
      by_cases ef : f = wrap64 (1 - who)
      · by_cases en : n < 0
        · refine ⟨(s, a, g, false), hsm, hgm, fun k hk => ?_⟩
          obtain ⟨p1, p2⟩ := hp k (by omega)
          unfold spec_Take21.f impl_Take21.f
          rw [copyP s a g hs hg, ownP s a g hs hg, p1, p2, in_eqP, in_eqP', ew]
          simp only [Option.bind_some, if_true, if_pos ef, if_pos en]
          exact hno k (by omega)
        · cases ea : decide (0 ≤ ack ∧ ack ≤ (s.length : Int)) with
          | false =>
            refine ⟨(s, a, g, false), hsm, hgm, fun k hk => ?_⟩
            obtain ⟨p1, p2⟩ := hp k (by omega)
            unfold spec_Take21.f impl_Take21.f
            rw [copyP s a g hs hg, ownP s a g hs hg, p1, p2, in_eqP, in_eqP', ew]
            simp only [Option.bind_some, if_true, if_pos ef, if_neg en, in_eqP, in_eqP', ea, Bool.false_eq_true, if_false]
            exact hno k (by omega)
          | true =>
            by_cases et : (text.size : Int) > 40
            · refine ⟨(s, a, g, false), hsm, hgm, fun k hk => ?_⟩
              obtain ⟨p1, p2⟩ := hp k (by omega)
              unfold spec_Take21.f impl_Take21.f
              rw [copyP s a g hs hg, ownP s a g hs hg, p1, p2, in_eqP, in_eqP', ew]
              simp only [Option.bind_some, if_true, if_pos ef, if_neg en, in_eqP, in_eqP', ea, decide_eq_true et]
              exact hno k (by omega)
            · have hw1 : wrap64 ((g.length : Int) + 1) = (g.length : Int) + 1 := w64 (by omega) (by omega)
              have e1 : g.length < 8796093022208 := by omega
              have hmx : (if ack > a then ack else a) = mx a ack := rfl
              have go : ∀ res : List ByteArray × Int × List ByteArray × Bool, res.1.length ≤ 1048577 → res.2.2.1.length ≤ 1048577 → (∀ k, 0 < k → spec_Take21.j0 k false f n ack text s a g = some res ∧ impl_Take21.j0 k false f n ack text s a g = some res) → ∃ res : List ByteArray × Int × List ByteArray × Bool, res.1.length ≤ 1048577 ∧ res.2.2.1.length ≤ 1048577 ∧ ∀ k, 1048577 < k → spec_Take21.f k s a g who f n ack text = some res ∧ impl_Take21.f k s a g who f n ack text = some res := fun res r0 r1 r2 => by
                refine ⟨res, r0, r1, fun k hk => ?_⟩
                obtain ⟨p1, p2⟩ := hp k (by omega)
                unfold spec_Take21.f impl_Take21.f
                rw [copyP s a g hs hg, ownP s a g hs hg, p1, p2, in_eqP, in_eqP', ew]
                simp only [Option.bind_some, if_true, if_pos ef, if_neg en, in_eqP, in_eqP', ea, decide_eq_false et]
                exact r2 k (by omega)
              by_cases c1 : n = (g.length : Int) + 1
              · have c2 : n > 0 := by omega
                have c3 : wrap64 (n - 1) = (g.length : Int) := by rw [w64 (by omega) (by omega)]; omega
                by_cases c4 : (g.length : Int) < 200
                · refine go (s, mx a ack, g ++ [text], true) hsm (by simp; omega) (fun k hk => ?_)
                  obtain ⟨k, rfl⟩ := pos_round hk
                  simp only [spec_Take21.j0, impl_Take21.j0, hw1, if_pos c1, if_pos c2, if_pos c3, if_pos c4, if_pos e1, ownS (g ++ [text]) (by simp; omega), Option.bind_some, Bool.false_eq_true, if_false]
                  refine ⟨?_, trivial⟩
                  rw [← hmx]
                  by_cases c : ack > a
                  · rw [if_pos c, if_pos c]
                  · rw [if_neg c, if_neg c]
                · refine go (s, mx a ack, g, true) hsm hgm (fun k hk => ?_)
                  obtain ⟨k, rfl⟩ := pos_round hk
                  simp only [spec_Take21.j0, impl_Take21.j0, hw1, if_pos c1, if_pos c2, if_pos c3, if_neg c4, Bool.false_eq_true, if_false]
                  refine ⟨?_, trivial⟩
                  rw [← hmx]
                  by_cases c : ack > a
                  · rw [if_pos c, if_pos c]
                  · rw [if_neg c, if_neg c]
              · refine go (s, mx a ack, g, true) hsm hgm (fun k hk => ?_)
                obtain ⟨k, rfl⟩ := pos_round hk
                simp only [spec_Take21.j0, impl_Take21.j0, hw1, if_neg c1, Bool.false_eq_true, if_false]
                refine ⟨?_, trivial⟩
                rw [← hmx]
                by_cases c2 : n > 0
                · have c3 : ¬ wrap64 (n - 1) = (g.length : Int) := by rw [w64 (by omega) (by omega)]; omega
                  simp only [if_pos c2, if_neg c3]
                  by_cases c : ack > a
                  · rw [if_pos c, if_pos c]
                  · rw [if_neg c, if_neg c]
                · simp only [if_neg c2]
                  by_cases c : ack > a
                  · rw [if_pos c, if_pos c]
                  · rw [if_neg c, if_neg c]
      · refine ⟨(s, a, g, false), hsm, hgm, fun k hk => ?_⟩
        obtain ⟨p1, p2⟩ := hp k (by omega)
        unfold spec_Take21.f impl_Take21.f
        rw [copyP s a g hs hg, ownP s a g hs hg, p1, p2, in_eqP, in_eqP', ew]
        simp only [Option.bind_some, if_true, if_neg ef]
        exact hno k (by omega)

theorem FnExactTake21 : laws_FnExactTake21.Pure := by
  intro s a g who f n ack text hs _ hg _ _ hn _ _
  have hn2 : n ≤ 9223372036854775807 := by
    simp [Lit.wf, IntKind.min, IntKind.max, IntKind.bits, IntKind.signed] at hn
    omega
  refine ⟨7000003, ?_⟩
  unfold laws_FnExactTake21.f
  obtain ⟨t1, t10, t11, t12, t13⟩ := sz_ok s hs.1 hs.2 1048576 (by omega) (by omega)
  unfold laws_szParty.f
  rw [t13 7000003 (by omega), Option.bind_some]
  by_cases c1 : t1 < 0
  · rw [if_pos c1, Option.bind_some, if_pos (by omega)]
  · rw [if_neg c1]
    obtain ⟨t2, t20, t21, t22, t23⟩ := sz_ok g hg.1 hg.2 t1 (by omega) (by omega)
    rw [t23 7000003 (by omega), Option.bind_some]
    by_cases c2 : t2 < 0
    · rw [if_pos c2, Option.bind_some, if_pos (by omega)]
    · rw [if_neg c2, Option.bind_some, if_neg c2]
      unfold laws_szPost.f
      by_cases c3 : wrap64 (t2 - (text.size : Int)) < 0
      · rw [if_pos c3, Option.bind_some, if_pos (by omega)]
      rw [if_neg c3, Option.bind_some, if_neg c3]
      have l1 := (t12 (by omega)).1
      have l2 := (t22 (by omega)).1
      have hp : ∀ k, 1048577 < k → laws_toParty.f k s a g = some (s, a, g) := fun k hk => by
        unfold laws_toParty.f
        rw [toS_ok s (by omega) _ (by omega), Option.bind_some, toS_ok g (by omega) _ (by omega), Option.bind_some]
      have ht : laws_toPost.f f n ack text = some (f, n, ack, text) := rfl
      obtain ⟨res, n1, n2, hr⟩ := take_same s a g who f n ack text hn2 (by omega) (by omega)
      obtain ⟨r0, q0, _, _, m0, _⟩ := markP s a g (by omega)
      obtain ⟨r1, q1, _, _, m1, h1⟩ := markP res.1 res.2.1 res.2.2.1 (by omega)
      have e0 : ∀ k, 3000000 < k → laws_eqParty.f k res.1 res.2.1 res.2.2.1 res.1 res.2.1 res.2.2.1 = some true := fun k hk => eqP _ _ _ (by omega) k hk
      have j2 : laws_FnExactTake21.j2 7000001 (1 + (res.1.length : Int) + (res.2.2.1.length : Int)) false r1 res.2.1 q1 = some true := by
        simp only [laws_FnExactTake21.j2]
        rw [if_neg (by simp), h1 7000000 (by omega), Option.bind_some, if_neg (by omega), if_pos rfl]
      have j1 : laws_FnExactTake21.j1 7000002 who res.2.2.2 false s a g f n ack text res.1 res.2.1 res.2.2.1 res.1 res.2.1 res.2.2.1 = some true := by
        simp only [laws_FnExactTake21.j1]
        rw [if_neg (by simp), m1 7000001 (by omega), Option.bind_some]
        dsimp only
        rw [h1 7000001 (by omega), Option.bind_some, if_neg (by omega), if_pos rfl, hp 7000001 (by omega), Option.bind_some]
        dsimp only
        rw [ht, Option.bind_some]
        dsimp only
        rw [(hr 7000001 (by omega)).2, Option.bind_some, e0 7000001 (by omega), Option.bind_some, if_pos rfl, show (res.2.2.2 != res.2.2.2) = false by simp]
        exact j2
      have j0 : laws_FnExactTake21.j0 7000003 who res.2.2.2 res.2.2.2 false s a g f n ack text res.1 res.2.1 res.2.2.1 s a g res.1 res.2.1 res.2.2.1 = some true := by
        simp only [laws_FnExactTake21.j0]
        rw [if_neg (by simp), hp 7000002 (by omega), Option.bind_some]
        dsimp only
        rw [eqP s a g (by omega) 7000002 (by omega), Option.bind_some, if_pos rfl, m0 7000002 (by omega), Option.bind_some]
        dsimp only
        rw [if_neg (by omega), e0 7000002 (by omega), Option.bind_some, if_pos rfl, show (res.2.2.2 != res.2.2.2) = false by simp]
        exact j1
      rw [hp 7000003 (by omega), Option.bind_some]
      dsimp only
      rw [ht, Option.bind_some]
      dsimp only
      rw [(hr 7000003 (by omega)).1, Option.bind_some, Option.bind_some]
      dsimp only
      rw [Option.bind_some]
      dsimp only
      rw [(hr 7000003 (by omega)).2, Option.bind_some, e0 7000003 (by omega), Option.bind_some, if_pos rfl, show (res.2.2.2 != res.2.2.2) = false by simp]
      exact j0

end Go.Proofs.Ytmglilikmbbidaa.Pure
