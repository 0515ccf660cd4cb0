/- The program's PartyOk returns what the reference's returns, for all arguments, and changes none. -/
import Derived.Test.YtmglilikmbbidaaPFnExactPartyOkx2
import Derived.Test.YtmglilikmbbidaaKit
set_option linter.unusedVariables false
set_option linter.unusedSimpArgs false
namespace Go.Proofs.Ytmglilikmbbidaa.Pure
open Go.RowKit Go.Proofs.Ytmglilikmbbidaa.PFnExactPartyOk Go.Proofs.YtmglilikmbbidaaW.PrintWords Go.Proofs.YtmglilikmbbidaaW.PrintLast Go.Proofs.YtmglilikmbbidaaW.Kit

/-! ### lists of strings -/
theorem rs_lt {l : List ByteArray} {i : Int} (h0 : 0 ≤ i) (h1 : i < l.length) : ∃ h : i.toNat < l.length, rdOf ByteArray.empty l i = l[i.toNat]'h := by
  have h : i.toNat < l.length := by omega
  exact ⟨h, by simp [rdOf, List.getD_eq_getElem?_getD, List.getElem?_eq_getElem h]⟩
theorem rs_mem {l : List ByteArray} {i : Int} (h0 : 0 ≤ i) (h1 : i < l.length) : rdOf ByteArray.empty l i ∈ l := by
  obtain ⟨h, e⟩ := rs_lt h0 h1
  rw [e]; exact List.getElem_mem h
theorem sz_loop (l : List ByteArray) (hl : l.length ≤ 1048576) (hq : ∀ x ∈ l, x.size ≤ 9223372036854775807) (d : Nat) : ∀ (a i : Int), 0 ≤ a → a ≤ 1048576 → 0 ≤ i → i ≤ l.length → (l.length : Int) - i = d →
    ∃ t : Int, -1 ≤ t ∧ t ≤ a ∧ (0 ≤ t → ∀ x ∈ l.drop i.toNat, (x.size : Int) ≤ a) ∧ ∀ k, d < k → laws_szStringS.l0 k l a i = some t := by
  induction d with
  | zero =>
    intro a i ha ha1 h0 h1 hd
    refine ⟨a, by omega, by omega, fun _ x hx => ?_, fun k hk => ?_⟩
    · rw [List.drop_eq_nil_of_le (by omega)] at hx; cases hx
    · obtain ⟨k, rfl⟩ := pos_round (show 0 < k by omega)
      simp only [laws_szStringS.l0]
      rw [if_neg (by omega)]
  | succ d ih =>
    intro a i ha ha1 h0 h1 hd
    have hlt : i < (l.length : Int) := by omega
    have hs := hq _ (rs_mem h0 hlt)
    have hs0 : (0 : Int) ≤ ((rdOf ByteArray.empty l i).size : Int) := by omega
    by_cases c : a - ((rdOf ByteArray.empty l i).size : Int) < 0
    · refine ⟨-1, by omega, by omega, fun h => by omega, fun k hk => ?_⟩
      obtain ⟨k, rfl⟩ := pos_round (show 0 < k by omega)
      simp only [laws_szStringS.l0]
      rw [if_pos hlt, if_pos h0, w64 (x := a - _) (by omega) (by omega), if_pos c]
    · obtain ⟨t, t0, t1, t2, t3⟩ := ih (a - ((rdOf ByteArray.empty l i).size : Int)) (i + 1) (by omega) (by omega) (by omega) (by omega) (by omega)
      refine ⟨t, t0, by omega, fun ht x hx => ?_, fun k hk => ?_⟩
      · obtain ⟨hn, e⟩ := rs_lt h0 hlt
        rw [List.drop_eq_getElem_cons hn, ← e] at hx
        rcases List.mem_cons.1 hx with rfl | hx
        · omega
        · have := t2 ht x (by rw [show (i + 1).toNat = i.toNat + 1 by omega]; exact hx)
          omega
      · obtain ⟨k, rfl⟩ := pos_round (show 0 < k by omega)
        simp only [laws_szStringS.l0]
        rw [if_pos hlt, if_pos h0, w64 (x := a - _) (by omega) (by omega), if_neg c, w64 (x := i + 1) (by omega) (by omega)]
        exact t3 k (by omega)
theorem sz_ok (l : List ByteArray) (hm : l.length ≤ 9223372036854775807) (hq : ∀ x ∈ l, x.size ≤ 9223372036854775807) (a : Int) (ha : 0 ≤ a) (ha1 : a ≤ 1048576) :
    ∃ t : Int, -1 ≤ t ∧ t ≤ a ∧ (0 ≤ t → (l.length : Int) ≤ a ∧ ∀ x ∈ l, (x.size : Int) ≤ a) ∧ ∀ k, 1048576 < k → laws_szStringS.f k l a = some t := by
  by_cases c : a - (l.length : Int) < 0
  · refine ⟨-1, by omega, by omega, fun h => by omega, fun k hk => ?_⟩
    unfold laws_szStringS.f
    rw [w64 (by omega) (by omega), if_pos c]
  · obtain ⟨t, t0, t1, t2, t3⟩ := sz_loop l (by omega) hq l.length (a - l.length) 0 (by omega) (by omega) (by omega) (by omega) (by omega)
    refine ⟨t, t0, by omega, fun ht => ⟨by omega, fun x hx => ?_⟩, fun k hk => ?_⟩
    · have := t2 ht x (by simpa using hx); omega
    · unfold laws_szStringS.f
      rw [w64 (by omega) (by omega), if_neg c]
      exact t3 k (by omega)
theorem toS_loop (l : List ByteArray) (hn : l.length ≤ 1048576) (d : Nat) : ∀ (k : Nat) (o : List ByteArray) (i : Int), 0 ≤ i → i ≤ l.length → (l.length : Int) - i = d → d < k → o.length = l.length → o.take i.toNat = l.take i.toNat → laws_toStringS.l0 k l o i = some l := by
  induction d with
  | zero =>
    intro k o i h0 h1 hd hk ho ht
    obtain ⟨k, rfl⟩ := pos_round (show 0 < k by omega)
    simp only [laws_toStringS.l0]
    rw [if_neg (by omega)]
    rw [List.take_of_length_le (by omega), List.take_of_length_le (by omega)] at ht
    rw [ht]
  | succ d ih =>
    intro k o i h0 h1 hd hk ho ht
    obtain ⟨k, rfl⟩ := pos_round (show 0 < k by omega)
    obtain ⟨hl, e⟩ := rs_lt h0 (show i < (l.length : Int) by omega)
    simp only [laws_toStringS.l0]
    rw [if_pos (by omega), if_pos h0, if_pos (by omega), w64 (x := i + 1) (by omega) (by omega)]
    refine ih k _ (i + 1) (by omega) (by omega) (by omega) (by omega) (by simpa using ho) ?_
    rw [show (i + 1).toNat = i.toNat + 1 by omega, List.take_succ_eq_append_getElem (by simp; omega), List.take_succ_eq_append_getElem hl, List.take_set_of_le (Nat.le_refl _), ht]
    simp [e]
theorem toS_ok (l : List ByteArray) (hn : l.length ≤ 1048576) (k : Nat) (hk : l.length < k) : laws_toStringS.f k l = some l := by
  unfold laws_toStringS.f
  rw [if_pos (by omega), if_pos (by omega)]
  exact toS_loop l hn l.length k _ 0 (by omega) (by omega) (by omega) hk (by simp) (by simp)
theorem eqS_loop (l : List ByteArray) (hn : l.length ≤ 1000000000) (d : Nat) : ∀ (k : Nat) (i : Int), 0 ≤ i → i ≤ l.length → (l.length : Int) - i = d → d < k → laws_eqStringS.l0 k l l i = some true := by
  induction d with
  | zero =>
    intro k i h0 h1 hd hk
    obtain ⟨k, rfl⟩ := pos_round (show 0 < k by omega)
    simp only [laws_eqStringS.l0]
    rw [if_neg (by omega)]
  | succ d ih =>
    intro k i h0 h1 hd hk
    obtain ⟨k, rfl⟩ := pos_round (show 0 < k by omega)
    simp only [laws_eqStringS.l0]
    rw [if_pos (by omega), if_pos h0, if_pos (by omega), if_pos trivial, w64 (x := i + 1) (by omega) (by omega)]
    exact ih k (i + 1) (by omega) (by omega) (by omega) (by omega)
theorem eqS_ok (l : List ByteArray) (hn : l.length ≤ 1000000000) (k : Nat) (hk : l.length < k) : laws_eqStringS.f k l l = some true := by
  unfold laws_eqStringS.f
  rw [if_pos rfl]
  exact eqS_loop l hn l.length k 0 (by omega) (by omega) (by omega) hk
/-! ### PartyOk -/
theorem in_eqP (a b c : Int) : impl_in.f a b c = some (decide (b ≤ a ∧ a ≤ c)) := in_some a b c
theorem in_eqP' (a b c : Int) : spec_l1In.f a b c = some (decide (b ≤ a ∧ a ≤ c)) := in_some a b c
theorem texts_loops (l : List ByteArray) (hn : l.length ≤ 1048576) (d : Nat) : ∀ (i : Int), 0 ≤ i → i ≤ l.length → (l.length : Int) - i = d →
    ∃ r : Int, -1 ≤ r ∧ ∀ k, d < k → slices_IndexFunc_string_string_at_impl_shortTexts_1.l0 k l (l.length : Int) i = some r ∧ spec_l21Texts.l0 k l i = some (decide (r < 0) && decide ((l.length : Int) ≤ 200)) := by
  induction d with
  | zero =>
    intro i h0 h1 hd
    refine ⟨-1, by omega, fun k hk => ?_⟩
    obtain ⟨k, rfl⟩ := pos_round (show 0 < k by omega)
    simp only [slices_IndexFunc_string_string_at_impl_shortTexts_1.l0, spec_l21Texts.l0]
    rw [if_neg (by omega), if_neg (by omega)]
    exact ⟨rfl, by simp⟩
  | succ d ih =>
    intro i h0 h1 hd
    have hlt : i < (l.length : Int) := by omega
    by_cases c : ((rdOf ByteArray.empty l i).size : Int) > 40
    · refine ⟨i, by omega, fun k hk => ?_⟩
      obtain ⟨k, rfl⟩ := pos_round (show 0 < k by omega)
      simp only [slices_IndexFunc_string_string_at_impl_shortTexts_1.l0, spec_l21Texts.l0, impl_shortTexts_1.f]
      constructor
      · rw [if_pos hlt, if_pos h0, if_pos hlt, Option.bind_some, if_pos (decide_eq_true c)]
      · rw [if_pos hlt, if_pos h0, if_pos c]; simp; omega
    · obtain ⟨r, hr, hk⟩ := ih (i + 1) (by omega) (by omega) (by omega)
      refine ⟨r, hr, fun k hk' => ?_⟩
      obtain ⟨k, rfl⟩ := pos_round (show 0 < k by omega)
      obtain ⟨ha, hb⟩ := hk k (by omega)
      simp only [slices_IndexFunc_string_string_at_impl_shortTexts_1.l0, spec_l21Texts.l0, impl_shortTexts_1.f]
      constructor
      · rw [if_pos hlt, if_pos h0, if_pos hlt, Option.bind_some, if_neg (by simpa using c), w64 (x := i + 1) (by omega) (by omega)]
        exact ha
      · rw [if_pos hlt, if_pos h0, if_neg c, w64 (x := i + 1) (by omega) (by omega)]
        exact hb
theorem texts_same (l : List ByteArray) (hn : l.length ≤ 1048576) : ∃ b : Bool, (b = true → l.length ≤ 200) ∧ ∀ k, l.length < k → spec_l21Texts.f k l = some b ∧ impl_shortTexts.f k l = some b := by
  obtain ⟨r, hr, hk⟩ := texts_loops l hn l.length 0 (by omega) (by omega) (by omega)
  refine ⟨decide (r < 0) && decide ((l.length : Int) ≤ 200), fun h => by simp at h; omega, fun k hk' => ⟨(hk k hk').2, ?_⟩⟩
  unfold impl_shortTexts.f
  by_cases c : (l.length : Int) ≤ 200
  · rw [if_pos c]
    unfold slices_ContainsFunc_string_string_at_impl_shortTexts_1.f slices_IndexFunc_string_string_at_impl_shortTexts_1.f
    rw [(hk k hk').1, Option.bind_some, Option.bind_some, decide_eq_true c, Bool.and_true]
    congr 1
    by_cases e : r < 0
    · rw [decide_eq_true e, decide_eq_false (by omega)]; rfl
    · rw [decide_eq_false e, decide_eq_true (by omega)]; rfl
  · rw [if_neg c, decide_eq_false c, Bool.and_false]
theorem party_same (s : List ByteArray) (a : Int) (g : List ByteArray) (hs : s.length ≤ 1048576) (hg : g.length ≤ 1048576) : ∃ b : Bool, (b = true → s.length ≤ 200 ∧ g.length ≤ 200 ∧ 0 ≤ a ∧ a ≤ s.length) ∧ ∀ k, 1048576 < k → spec_PartyOk.f k s a g = some b ∧ impl_PartyOk.f k s a g = some b := by
  obtain ⟨b1, l1, h1⟩ := texts_same s hs
  obtain ⟨b2, l2, h2⟩ := texts_same g hg
  refine ⟨b1 && (b2 && decide (0 ≤ a ∧ a ≤ (s.length : Int))), fun h => ?_, fun k hk => ?_⟩
  · simp only [Bool.and_eq_true, decide_eq_true_eq] at h
    exact ⟨l1 h.1, l2 h.2.1, h.2.2.1, h.2.2.2⟩
  · obtain ⟨s1, i1⟩ := h1 k (by omega)
    obtain ⟨s2, i2⟩ := h2 k (by omega)
    unfold spec_PartyOk.f impl_PartyOk.f
    rw [s1, i1, s2, i2, in_eqP, in_eqP']
    cases b1 <;> cases b2 <;> exact ⟨rfl, rfl⟩

theorem FnExactPartyOk : laws_FnExactPartyOk.Pure := by
  intro s a g hs _ hg
  refine ⟨1048577, ?_⟩
  obtain ⟨t1, t10, t11, t12, t13⟩ := sz_ok s hs.1 hs.2 1048576 (by omega) (by omega)
  unfold laws_FnExactPartyOk.f laws_szParty.f
  rw [t13 1048577 (by omega), Option.bind_some]
  by_cases c1 : t1 < 0
  · rw [if_pos c1, Option.bind_some, if_pos (by omega)]
  · rw [if_neg c1]
    obtain ⟨t2, t20, t21, t22, t23⟩ := sz_ok g hg.1 hg.2 t1 (by omega) (by omega)
    rw [t23 1048577 (by omega), Option.bind_some]
    by_cases c2 : t2 < 0
    · rw [if_pos c2, Option.bind_some, if_pos (by omega)]
    · rw [if_neg c2, Option.bind_some, if_neg c2]
      have l1 := (t12 (by omega)).1
      have l2 := (t22 (by omega)).1
      have hp : laws_toParty.f 1048577 s a g = some (s, a, g) := by
        unfold laws_toParty.f
        rw [toS_ok s (by omega) _ (by omega), Option.bind_some, toS_ok g (by omega) _ (by omega), Option.bind_some]
      obtain ⟨b, _, hb⟩ := party_same s a g (by omega) (by omega)
      obtain ⟨b1, b2⟩ := hb 1048577 (by omega)
      have he : laws_eqParty.f 1048577 s a g s a g = some true := by
        unfold laws_eqParty.f
        rw [eqS_ok s (by omega) _ (by omega), Option.bind_some, if_pos rfl, if_pos rfl, eqS_ok g (by omega) _ (by omega), Option.bind_some, if_pos rfl]
      rw [hp, Option.bind_some]
      dsimp only
      rw [b1, Option.bind_some, Option.bind_some]
      dsimp only
      rw [b2, Option.bind_some, if_neg (by simp), Option.bind_some]
      dsimp only
      rw [he, Option.bind_some, if_pos rfl]

end Go.Proofs.Ytmglilikmbbidaa.Pure
