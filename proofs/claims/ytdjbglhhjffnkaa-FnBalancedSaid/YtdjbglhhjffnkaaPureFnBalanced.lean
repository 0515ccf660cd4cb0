/- Of drawn weights a book borne strip by strip is balanced; twice the weight on one more strip is not; the greatest of the bending is one of it: for each byte list as code. -/
import Derived.Test.YtdjbglhhjffnkaaPFnBalancedx3
import Derived.Test.YtdjbglhhjffnkaaKit
set_option linter.unusedVariables false
set_option linter.unusedSimpArgs false
namespace Go.Proofs.Ytdjbglhhjffnkaa.Pure
open Go.RowKit Go.Proofs.Ytdjbglhhjffnkaa.PFnBalanced Go.Proofs.YtdjbglhhjffnkaaW.PrintWords Go.Proofs.YtdjbglhhjffnkaaW.PrintLast Go.Proofs.YtdjbglhhjffnkaaW.PrintMore Go.Proofs.YtdjbglhhjffnkaaW.Kit

/-! ### shear and bending, as plain sums -/
def Sh (w b : List Int) : Nat → Int
  | 0 => 0
  | i + 1 => Sh w b i + 2 * w.getD i 0 - b.getD i 0
def Bd (w b : List Int) (s : Int) : Nat → Int
  | 0 => 0
  | i + 1 => Bd w b s i + s * (Sh w b i + Sh w b (i + 1))
def InR (l : List Int) (m : Int) : Prop := ∀ x ∈ l, 0 ≤ x ∧ x ≤ m
theorem getD_rd (l : List Int) (i : Nat) : rd l (i : Int) = l.getD i 0 := rd_nat l i
theorem InR_get {l : List Int} {m : Int} (h : InR l m) (hm : 0 ≤ m) (i : Nat) : 0 ≤ l.getD i 0 ∧ l.getD i 0 ≤ m := by
  by_cases c : i < l.length
  · have : l.getD i 0 = l[i] := by simp [List.getD_eq_getElem?_getD, List.getElem?_eq_getElem c]
    rw [this]; exact h _ (List.getElem_mem c)
  · have : l.getD i 0 = 0 := by simp [List.getD_eq_getElem?_getD, List.getElem?_eq_none (Nat.le_of_not_lt c)]
    rw [this]; omega
theorem Sh_range {w b : List Int} (hw : InR w 1000000) (hb : InR b 2000000) (i : Nat) : -(2000000 * (i : Int)) ≤ Sh w b i ∧ Sh w b i ≤ 2000000 * (i : Int) := by
  induction i with
  | zero => simp [Sh]
  | succ i ih =>
    have h1 := InR_get hw (by omega) i
    have h2 := InR_get hb (by omega) i
    simp only [Sh]
    omega
theorem all_ok {l : List Int} {m : Int} (h : InR l m) : impl_all.f l 0 m = some true := by
  unfold impl_all.f
  congr 1
  rw [List.all_eq_true]
  intro x hx
  have := h x hx
  simp only [Bool.and_eq_true, decide_eq_true_eq]
  exact this
theorem shear_loop (w b : List Int) (hn : w.length ≤ 40) (he : w.length = b.length) (hw : InR w 1000000) (hb : InR b 2000000) (d : Nat) : ∀ (l : List Int) (i : Nat), i + d = w.length → l.length = w.length + 1 → (∀ j : Nat, j ≤ i → rd l (j : Int) = Sh w b j) →
    ∃ L : List Int, L.length = w.length + 1 ∧ (∀ j : Nat, j ≤ w.length → rd L (j : Int) = Sh w b j) ∧ ∀ k, d < k → impl_Shear2.l0 k b l w (w.length : Int) (i : Int) = some (L, true) := by
  induction d with
  | zero =>
    intro l i hi hl h
    refine ⟨l, hl, fun j hj => h j (by omega), fun k hk => ?_⟩
    obtain ⟨k, rfl⟩ := pos_round (show 0 < k by omega)
    simp only [impl_Shear2.l0]
    rw [if_neg (by omega)]
  | succ d ih =>
    intro l i hi hl h
    have h1 := InR_get hw (by omega) i
    have h2 := InR_get hb (by omega) i
    have h3 := Sh_range hw hb i
    have e1 : rd l ((i : Int) + 1) = rd l ((i + 1 : Nat) : Int) := by rw [Int.natCast_succ]
    have hv : Sh w b (i + 1) = Sh w b i + 2 * rd w (i : Int) - rd b (i : Int) := by rw [getD_rd, getD_rd]; rfl
    obtain ⟨L, hL, hr, hk⟩ := ih (l.set ((i : Int) + 1).toNat (Sh w b (i + 1))) (i + 1) (by omega) (by simpa using hl) (by
      intro j hj
      by_cases e : j = i + 1
      · subst e
        rw [show (((i + 1 : Nat)) : Int) = (i : Int) + 1 by omega, rd_set_eq (by omega) (by omega)]
      · rw [rd_set_ne (by omega) (by omega) (by omega)]
        exact h j (by omega))
    refine ⟨L, hL, hr, fun k hk' => ?_⟩
    obtain ⟨k, rfl⟩ := pos_round (show 0 < k by omega)
    have hk2 := hk k (by omega)
    rw [show (((i + 1 : Nat)) : Int) = (i : Int) + 1 by omega] at hk2
    simp only [impl_Shear2.l0]
    rw [getD_rd] at hv
    rw [getD_rd] at hv
    rw [if_pos (by omega), if_pos (by omega), if_pos (by omega), if_pos (by omega), if_pos (by omega), w64 (x := (i : Int) + 1) (by omega) (by omega), if_pos (by omega), if_pos (by omega), h i (Nat.le_refl i), getD_rd, getD_rd, w64 (x := 2 * w.getD i 0) (by omega) (by omega), w64 (x := Sh w b i + 2 * w.getD i 0) (by omega) (by omega), w64 (x := Sh w b i + 2 * w.getD i 0 - b.getD i 0) (by omega) (by omega), ← hv]
    exact hk2
theorem shear_ok (w b : List Int) (hn : w.length ≤ 40) (he : w.length = b.length) (hw : InR w 1000000) (hb : InR b 2000000) :
    ∃ L : List Int, L.length = w.length + 1 ∧ (∀ j : Nat, j ≤ w.length → rd L (j : Int) = Sh w b j) ∧ ∀ k, 50 < k → impl_Shear2.f k w b = some (L, true) := by
  obtain ⟨L, hL, hr, hk⟩ := shear_loop w b hn he hw hb w.length (List.replicate (w.length + 1) 0) 0 (by omega) (by simp) (by
    intro j hj
    rw [rd_replicate (by omega) (by omega), show j = 0 by omega]; rfl)
  refine ⟨L, hL, hr, fun k hk' => ?_⟩
  obtain ⟨k, rfl⟩ := pos_round (show 0 < k by omega)
  unfold impl_Shear2.f
  rw [if_neg (by omega), if_pos (by omega), all_ok hw, Option.bind_some, if_pos rfl, all_ok hb, Option.bind_some]
  simp only [impl_Shear2.j0]
  rw [if_neg (by simp), w64 (x := (w.length : Int) + 1) (by omega) (by omega), if_pos (by omega), if_pos (by omega), show ((w.length : Int) + 1).toNat = w.length + 1 by omega]
  exact hk k (by omega)
theorem bend_loop (w b : List Int) (s : Int) (hs0 : 1 ≤ s) (hs1 : s ≤ 100) (hn : w.length ≤ 40) (hw : InR w 1000000) (hb : InR b 2000000) (S : List Int) (hS : S.length = w.length + 1) (hr : ∀ j : Nat, j ≤ w.length → rd S (j : Int) = Sh w b j) (d : Nat) : ∀ (l : List Int) (i : Nat), i + d = w.length → l.length = w.length + 1 → (∀ j : Nat, j ≤ i → rd l (j : Int) = Bd w b s j) → (-(20000000000 * (i : Int)) ≤ Bd w b s i ∧ Bd w b s i ≤ 20000000000 * (i : Int)) →
    ∃ L : List Int, L.length = w.length + 1 ∧ (∀ j : Nat, j ≤ w.length → rd L (j : Int) = Bd w b s j) ∧ ∀ k, d < k → impl_Bending4.l0 k s S l ((i : Int) + 1) = some (L, true) := by
  induction d with
  | zero =>
    intro l i hi hl h _
    refine ⟨l, hl, fun j hj => h j (by omega), fun k hk => ?_⟩
    obtain ⟨k, rfl⟩ := pos_round (show 0 < k by omega)
    simp only [impl_Bending4.l0]
    rw [if_neg (by omega)]
  | succ d ih =>
    intro l i hi hl h hbd
    have h3 := Sh_range hw hb i
    have h4 := Sh_range hw hb (i + 1)
    have hv : Bd w b s (i + 1) = Bd w b s i + s * (Sh w b i + Sh w b (i + 1)) := rfl
    have hm : -20000000000 ≤ s * (Sh w b i + Sh w b (i + 1)) ∧ s * (Sh w b i + Sh w b (i + 1)) ≤ 20000000000 := by
      have a1 : -200000000 ≤ Sh w b i + Sh w b (i + 1) := by omega
      have a2 : Sh w b i + Sh w b (i + 1) ≤ 200000000 := by omega
      generalize Sh w b i + Sh w b (i + 1) = y at a1 a2 ⊢
      have b1 := Int.mul_le_mul_of_nonneg_left a2 (show 0 ≤ s by omega)
      have b2 := Int.mul_le_mul_of_nonneg_left a1 (show 0 ≤ s by omega)
      omega
    obtain ⟨L, hL, hr', hk⟩ := ih (l.set ((i : Int) + 1).toNat (Bd w b s (i + 1))) (i + 1) (by omega) (by simpa using hl) (by
      intro j hj
      by_cases e : j = i + 1
      · subst e
        rw [show (((i + 1 : Nat)) : Int) = (i : Int) + 1 by omega, rd_set_eq (by omega) (by omega)]
      · rw [rd_set_ne (by omega) (by omega) (by omega)]
        exact h j (by omega)) (by rw [hv]; omega)
    refine ⟨L, hL, hr', fun k hk' => ?_⟩
    obtain ⟨k, rfl⟩ := pos_round (show 0 < k by omega)
    have hk2 := hk k (by omega)
    rw [show (((i + 1 : Nat)) : Int) = (i : Int) + 1 by omega] at hk2
    have e2 : rd S ((i : Int) + 1) = Sh w b (i + 1) := by
      have := hr (i + 1) (by omega)
      rwa [show (((i + 1 : Nat)) : Int) = (i : Int) + 1 by omega] at this
    simp only [impl_Bending4.l0]
    rw [if_pos (by omega), w64 (x := (i : Int) + 1 - 1) (by omega) (by omega), show (i : Int) + 1 - 1 = i by omega, if_pos (by omega), if_pos (by omega), if_pos (by omega), if_pos (by omega), if_pos (by omega), h i (Nat.le_refl i), hr i (by omega), e2, w64 (x := Sh w b i + Sh w b (i + 1)) (by omega) (by omega), w64 (x := s * _) (by omega) (by omega), w64 (x := Bd w b s i + _) (by omega) (by omega), ← hv, w64 (x := (i : Int) + 1 + 1) (by omega) (by omega)]
    exact hk2
theorem bend_ok (w b : List Int) (s : Int) (hs0 : 1 ≤ s) (hs1 : s ≤ 100) (hn : w.length ≤ 40) (he : w.length = b.length) (hw : InR w 1000000) (hb : InR b 2000000) :
    ∃ L : List Int, L.length = w.length + 1 ∧ (∀ j : Nat, j ≤ w.length → rd L (j : Int) = Bd w b s j) ∧ ∀ k, 60 < k → impl_Bending4.f k w b s = some (L, true) := by
  obtain ⟨S, hS, hr, hk⟩ := shear_ok w b hn he hw hb
  obtain ⟨L, hL, hr2, hk2⟩ := bend_loop w b s hs0 hs1 hn hw hb S hS hr w.length (List.replicate (w.length + 1) 0) 0 (by omega) (by simp) (by
    intro j hj
    rw [rd_replicate (by omega) (by omega), show j = 0 by omega]; rfl) (by simp [Bd])
  refine ⟨L, hL, hr2, fun k hk' => ?_⟩
  obtain ⟨k, rfl⟩ := pos_round (show 0 < k by omega)
  unfold impl_Bending4.f
  rw [hk (k + 1) (by omega), Option.bind_some]
  dsimp only
  rw [if_pos rfl, show impl_in.f s 1 100 = some (decide (1 ≤ s ∧ s ≤ 100)) from in_some s 1 100, decide_eq_true (by omega), Option.bind_some]
  simp only [impl_Bending4.j0]
  rw [if_neg (by simp), if_pos (by omega), if_pos (by omega), show ((S.length : Int)).toNat = w.length + 1 by omega]
  have := hk2 k (by omega)
  rwa [show ((0 : Nat) : Int) + 1 = 1 by omega] at this
theorem balanced_ok (w b : List Int) (s : Int) (hs0 : 1 ≤ s) (hs1 : s ≤ 100) (h0 : 0 < w.length) (hn : w.length ≤ 40) (he : w.length = b.length) (hw : InR w 1000000) (hb : InR b 2000000) (k : Nat) (hk : 60 < k) :
    impl_Balanced.f k w b s = some (decide (Sh w b w.length = 0) && decide (Bd w b s w.length = 0)) := by
  obtain ⟨S, hS, hr, hk1⟩ := shear_ok w b hn he hw hb
  obtain ⟨L, hL, hr2, hk2⟩ := bend_ok w b s hs0 hs1 hn he hw hb
  unfold impl_Balanced.f
  rw [hk2 k hk, Option.bind_some]
  dsimp only
  rw [if_pos rfl, if_neg (by omega), hk1 k (by omega), Option.bind_some]
  dsimp only
  rw [if_pos (by omega), if_pos (by omega), hr w.length (Nat.le_refl _), hr2 w.length (Nat.le_refl _)]
  by_cases c : Sh w b w.length = 0
  · rw [if_pos c, if_pos (by omega), decide_eq_true c, Bool.true_and]
    by_cases c2 : Bd w b s w.length = 0
    · rw [decide_eq_true c2, beq_iff_eq.2 c2]
    · rw [decide_eq_false c2, beq_eq_false_iff_ne.2 c2]
  · rw [if_neg c, decide_eq_false c, Bool.false_and]
theorem balanced_nil (s : Int) (hs0 : 1 ≤ s) (hs1 : s ≤ 100) (k : Nat) (hk : 60 < k) : impl_Balanced.f k [] [] s = some false := by
  obtain ⟨L, hL, hr2, hk2⟩ := bend_ok [] [] s hs0 hs1 (by simp) rfl (fun x hx => by cases hx) (fun x hx => by cases hx)
  unfold impl_Balanced.f
  rw [hk2 k hk, Option.bind_some]
  dsimp only
  rw [if_pos rfl, if_pos (by simp)]
/-! ### the greatest -/
def ab (x : Int) : Int := if x < 0 then -x else x
theorem u64_pos {x : Int} (h0 : 0 ≤ x) (h1 : x ≤ 9223372036854775807) : IntKind.u64.wrap x = x := by
  rw [IntKind.wrap_u64]
  omega
theorem u64_neg {x : Int} (h0 : x < 0) (h1 : -9223372036854775807 ≤ x) : IntKind.u64.wrap (-(IntKind.u64.wrap x)) = -x := by
  rw [IntKind.wrap_u64, IntKind.wrap_u64]
  omega
theorem size_ab {x : Int} (h0 : -9223372036854775807 ≤ x) (h1 : x ≤ 9223372036854775807) : laws_size.f x = some (ab x) := by
  unfold laws_size.f ab
  by_cases c : x < 0
  · rw [if_pos c, if_pos c, w64 (by omega) (by omega)]
  · rw [if_neg c, if_neg c]
theorem greatest_loop (l : List Int) (hl : 0 < l.length) (hl2 : l.length ≤ 1000) (hb : ∀ i : Int, 0 ≤ i → i < l.length → -1000000000000 ≤ rd l i ∧ rd l i ≤ 1000000000000) (d : Nat) : ∀ (i a m : Int), 0 ≤ i → i + d = l.length → ((i = 0 ∧ a = -1 ∧ m = 0) ∨ (0 ≤ a ∧ a < i ∧ m = ab (rd l a) ∧ ∀ j : Int, 0 ≤ j → j < i → ab (rd l j) ≤ m)) →
    ∃ g : Int, 0 ≤ g ∧ g < l.length ∧ (∀ j : Int, 0 ≤ j → j < l.length → ab (rd l j) ≤ ab (rd l g)) ∧ ∀ k, d < k → impl_Greatest.l0 k l a m l (l.length : Int) i = some (g, rd l g) := by
  induction d with
  | zero =>
    intro i a m h0 hi h
    obtain ⟨h1, h2, h3, h4⟩ := h.resolve_left (by omega)
    refine ⟨a, h1, by omega, fun j j0 j1 => by rw [← h3]; exact h4 j j0 (by omega), fun k hk => ?_⟩
    obtain ⟨k, rfl⟩ := pos_round (show 0 < k by omega)
    simp only [impl_Greatest.l0]
    rw [if_neg (by omega), if_neg (by omega), if_pos h1, if_pos (by omega)]
  | succ d ih =>
    intro i a m h0 hi h
    have hlt : i < (l.length : Int) := by omega
    obtain ⟨b0, b1⟩ := hb i h0 hlt
    have hs : (if rd l i < 0 then IntKind.u64.wrap (-(IntKind.u64.wrap (rd l i))) else IntKind.u64.wrap (rd l i)) = ab (rd l i) := by
      unfold ab
      by_cases c : rd l i < 0
      · rw [if_pos c, if_pos c, u64_neg c (by omega)]
      · rw [if_neg c, if_neg c, u64_pos (by omega) (by omega)]
    have step : ∀ k, impl_Greatest.l0 (k + 1) l a m l (l.length : Int) i = if a < 0 ∨ ab (rd l i) > m then impl_Greatest.l0 k l i (ab (rd l i)) l (l.length : Int) (i + 1) else impl_Greatest.l0 k l a m l (l.length : Int) (i + 1) := by
      intro k
      simp only [impl_Greatest.l0]
      rw [if_pos hlt, if_pos h0, if_pos hlt, w64 (x := i + 1) (by omega) (by omega)]
      by_cases c : rd l i < 0
      · rw [if_pos c] at hs
        rw [if_pos c, hs]
        by_cases c1 : a < 0
        · rw [if_pos c1, if_pos (.inl c1)]
        · rw [if_neg c1]
          by_cases c2 : ab (rd l i) > m
          · rw [if_pos c2, if_pos (.inr c2)]
          · rw [if_neg c2, if_neg (fun h => h.elim c1 c2)]
      · rw [if_neg c] at hs
        rw [if_neg c, hs]
        by_cases c1 : a < 0
        · rw [if_pos c1, if_pos (.inl c1)]
        · rw [if_neg c1]
          by_cases c2 : ab (rd l i) > m
          · rw [if_pos c2, if_pos (.inr c2)]
          · rw [if_neg c2, if_neg (fun h => h.elim c1 c2)]
    by_cases c : a < 0 ∨ ab (rd l i) > m
    · obtain ⟨g, g0, g1, g2, g3⟩ := ih (i + 1) i (ab (rd l i)) (by omega) (by omega) (.inr ⟨h0, by omega, rfl, fun j j0 j1 => by
        by_cases e : j = i
        · subst e; exact Int.le_refl _
        · rcases h with h | h
          · omega
          · have := h.2.2.2 j j0 (by omega)
            rcases c with c | c <;> omega⟩)
      refine ⟨g, g0, g1, g2, fun k hk => ?_⟩
      obtain ⟨k, rfl⟩ := pos_round (show 0 < k by omega)
      rw [step, if_pos c]
      exact g3 k (by omega)
    · obtain ⟨h1, h2, h3, h4⟩ := h.resolve_left (by omega)
      obtain ⟨g, g0, g1, g2, g3⟩ := ih (i + 1) a m (by omega) (by omega) (.inr ⟨h1, by omega, h3, fun j j0 j1 => by
        by_cases e : j = i
        · subst e; omega
        · exact h4 j j0 (by omega)⟩)
      refine ⟨g, g0, g1, g2, fun k hk => ?_⟩
      obtain ⟨k, rfl⟩ := pos_round (show 0 < k by omega)
      rw [step, if_neg c]
      exact g3 k (by omega)
/-! ### the law -/
theorem Bd_range {w b : List Int} (s : Int) (hs0 : 1 ≤ s) (hs1 : s ≤ 100) (hw : InR w 1000000) (hb : InR b 2000000) (i : Nat) : i ≤ 40 → -(20000000000 * (i : Int)) ≤ Bd w b s i ∧ Bd w b s i ≤ 20000000000 * (i : Int) := by
  induction i with
  | zero => intro _; simp [Bd]
  | succ i ih =>
    intro hi
    have h0 := ih (by omega)
    have h3 := Sh_range hw hb i
    have h4 := Sh_range hw hb (i + 1)
    simp only [Bd]
    have hm : -20000000000 ≤ s * (Sh w b i + Sh w b (i + 1)) ∧ s * (Sh w b i + Sh w b (i + 1)) ≤ 20000000000 := by
      have a1 : -200000000 ≤ Sh w b i + Sh w b (i + 1) := by omega
      have a2 : Sh w b i + Sh w b (i + 1) ≤ 200000000 := by omega
      generalize Sh w b i + Sh w b (i + 1) = y at a1 a2 ⊢
      have b1 := Int.mul_le_mul_of_nonneg_left a2 (show 0 ≤ s by omega)
      have b2 := Int.mul_le_mul_of_nonneg_left a1 (show 0 ≤ s by omega)
      omega
    omega
theorem map2_get (w : List Int) (i : Nat) : (w.map (2 * ·)).getD i 0 = 2 * w.getD i 0 := by
  simp only [List.getD_eq_getElem?_getD, List.getElem?_map]
  cases w[i]? <;> simp
theorem Sh_zero (w : List Int) (i : Nat) : Sh w (w.map (2 * ·)) i = 0 := by
  induction i with
  | zero => rfl
  | succ i ih => simp only [Sh]; rw [ih, map2_get]; omega
theorem Bd_zero (w : List Int) (s : Int) (i : Nat) : Bd w (w.map (2 * ·)) s i = 0 := by
  induction i with
  | zero => rfl
  | succ i ih => simp only [Bd]; rw [ih, Sh_zero, Sh_zero]; simp
theorem Sh_congr (w b w' b' : List Int) (i : Nat) : (∀ j, j < i → w.getD j 0 = w'.getD j 0 ∧ b.getD j 0 = b'.getD j 0) → Sh w b i = Sh w' b' i := by
  induction i with
  | zero => intro _; rfl
  | succ i ih =>
    intro h
    simp only [Sh]
    rw [ih fun j hj => h j (by omega), (h i (by omega)).1, (h i (by omega)).2]
theorem snoc_get (l : List Int) (x : Int) (j : Nat) (h : j < l.length) : (l ++ [x]).getD j 0 = l.getD j 0 := by
  simp [List.getD_eq_getElem?_getD, List.getElem?_append_left h]
theorem snoc_last (l : List Int) (x : Int) : (l ++ [x]).getD l.length 0 = x := by
  simp [List.getD_eq_getElem?_getD]
theorem Sh_more (w : List Int) : Sh (w ++ [5]) (w.map (2 * ·) ++ [0]) (w.length + 1) = 10 := by
  simp only [Sh]
  have hl : (w.map (2 * ·)).length = w.length := List.length_map ..
  have h1 : Sh (w ++ [5]) (w.map (2 * ·) ++ [0]) w.length = Sh w (w.map (2 * ·)) w.length := Sh_congr _ _ _ _ _ fun j hj => ⟨snoc_get _ _ _ hj, snoc_get _ _ _ (by omega)⟩
  have h2 : (w.map (2 * ·) ++ [0]).getD w.length 0 = 0 := by
    have := snoc_last (w.map (2 * ·)) 0
    rwa [hl] at this
  rw [h1, Sh_zero, snoc_last, h2]; omega
theorem set_get (l : List Int) (x : Int) (j : Nat) : (l.set 0 x).getD (j + 1) 0 = l.getD (j + 1) 0 := by
  simp [List.getD_eq_getElem?_getD, List.getElem?_set]
theorem Sh_set (w : List Int) (v : Int) (h0 : 0 < w.length) (i : Nat) : Sh w ((w.map (2 * ·)).set 0 v) (i + 1) = 2 * w.getD 0 0 - v := by
  induction i with
  | zero =>
    simp only [Sh]
    have : ((w.map (2 * ·)).set 0 v).getD 0 0 = v := by
      cases w with
      | nil => simp at h0
      | cons x l => simp
    rw [this]; omega
  | succ i ih =>
    rw [Sh, ih, set_get, map2_get]; omega
theorem InR_mono {l : List Int} {m m' : Int} (h : InR l m) (hm : m ≤ m') : InR l m' := fun x hx => by have := h x hx; omega
theorem InR_map {l : List Int} (h : InR l 255) : InR (l.map (2 * ·)) 2000000 := by
  intro x hx
  obtain ⟨y, hy, rfl⟩ := List.mem_map.1 hx
  have := h y hy
  omega
theorem InR_snoc {l : List Int} {m x : Int} (h : InR l m) (h0 : 0 ≤ x) (h1 : x ≤ m) : InR (l ++ [x]) m := by
  intro y hy
  rcases List.mem_append.1 hy with hy | hy
  · exact h y hy
  · rw [List.mem_singleton.1 hy]; exact ⟨h0, h1⟩
theorem InR_set {l : List Int} {m x : Int} (h : InR l m) (h0 : 0 ≤ x) (h1 : x ≤ m) : InR (l.set 0 x) m := by
  intro y hy
  rcases List.mem_or_eq_of_mem_set hy with hy | rfl
  · exact h y hy
  · exact ⟨h0, h1⟩
theorem last_loop (l : List Int) (g : Int) (hl2 : l.length ≤ 1000) (g0 : 0 ≤ g) (g1 : g < l.length) (hb : ∀ i : Int, 0 ≤ i → i < l.length → -1000000000000 ≤ rd l i ∧ rd l i ≤ 1000000000000) (hg : ∀ j : Int, 0 ≤ j → j < l.length → ab (rd l j) ≤ ab (rd l g)) (d : Nat) : ∀ (i : Int), 0 ≤ i → i + d = l.length → ∀ k, d < k → laws_FnBalanced.l1 k l (rd l g) i = some true := by
  induction d with
  | zero =>
    intro i h0 hi k hk
    obtain ⟨k, rfl⟩ := pos_round (show 0 < k by omega)
    simp only [laws_FnBalanced.l1]
    rw [if_neg (by omega)]
  | succ d ih =>
    intro i h0 hi k hk
    obtain ⟨k, rfl⟩ := pos_round (show 0 < k by omega)
    have b1 := hb i h0 (by omega)
    have b2 := hb g g0 g1
    have b3 := hg i h0 (by omega)
    simp only [laws_FnBalanced.l1]
    rw [if_pos (by omega), if_pos h0, size_ab (by omega) (by omega), size_ab (by omega) (by omega), Option.bind_some, Option.bind_some, if_neg (by omega), w64 (x := i + 1) (by omega) (by omega)]
    exact ih (i + 1) (by omega) (by omega) k (by omega)
theorem at_ok {l : List Int} (hb : Bytes l) (hl : l.length ≤ 1048576) {i : Int} (h0 : 0 ≤ i) (h1 : i ≤ 1000000000) : laws_at.f l i = some (atV l i) := at_some hb hl h0 h1
theorem behind (c : List Int) (hb : Bytes c) (hc : c.length ≤ 1048576) (w : List Int) (s : Int) (hs0 : 1 ≤ s) (hs1 : s ≤ 100) (h0 : 0 < w.length) (hn : w.length ≤ 8) (hw : InR w 255) (k : Nat) (hk : 1000 < k) : laws_FnBalanced.j1 k c w (w.map (2 * ·)) s false = some true := by
  obtain ⟨t0, t1⟩ := atV_range hb (i := 21) (by omega)
  have hl : (w.map (2 * ·)).length = w.length := List.length_map ..
  have hbs : InR ((w.map (2 * ·)).set 0 (atV c 21 * 3)) 2000000 := InR_set (InR_map hw) (by omega) (by omega)
  have hws : InR w 1000000 := InR_mono hw (by omega)
  have hll : ((w.map (2 * ·)).set 0 (atV c 21 * 3)).length = w.length := by rw [List.length_set, hl]
  obtain ⟨S, hS, hr, hk1⟩ := shear_ok w _ (by omega) hll.symm hws hbs
  obtain ⟨M, hM, hr2, hk2⟩ := bend_ok w _ s hs0 hs1 (by omega) hll.symm hws hbs
  have hMb : ∀ i : Int, 0 ≤ i → i < M.length → -1000000000000 ≤ rd M i ∧ rd M i ≤ 1000000000000 := by
    intro i i0 i1
    have h1 := hr2 i.toNat (by omega)
    rw [show ((i.toNat : Nat) : Int) = i by omega] at h1
    have h2 := Bd_range s hs0 hs1 hws hbs i.toNat (by omega)
    rw [h1]
    omega
  obtain ⟨g, g0, g1, g2, g3⟩ := greatest_loop M (by omega) (by omega) hMb M.length 0 (-1) 0 (by omega) (by omega) (.inl ⟨rfl, rfl, rfl⟩)
  obtain ⟨k, rfl⟩ : ∃ j, k = j + 3 := ⟨k - 3, by omega⟩
  have hlast : rd S (w.length : Int) = 2 * w.getD 0 0 - atV c 21 * 3 := by
    rw [hr w.length (Nat.le_refl _)]
    have := Sh_set w (atV c 21 * 3) h0 (w.length - 1)
    rwa [show w.length - 1 + 1 = w.length by omega] at this
  have hw0 := InR_get hw (by omega) 0
  have hy0 : rd ((w.map (2 * ·)).set 0 (atV c 21 * 3)) 0 = atV c 21 * 3 := by
    have := rd_set_eq (l := w.map (2 * ·)) (i := 0) (x := atV c 21 * 3) (by omega) (by omega)
    simpa using this
  have hw1 : rd w 0 = w.getD 0 0 := getD_rd w 0
  simp only [laws_FnBalanced.j1]
  rw [if_neg (by simp), at_ok hb hc (by omega) (by omega), Option.bind_some, if_pos (by omega), w64 (x := atV c 21 * 3) (by omega) (by omega), Option.bind_some, show (0 : Int).toNat = 0 from rfl, hk1 _ (by omega), Option.bind_some, hk2 _ (by omega), Option.bind_some]
  dsimp only
  rw [if_pos rfl, if_pos rfl, w64 (x := (w.length : Int) + 1) (by omega) (by omega), if_pos (by omega), if_pos (by omega), w64 (x := (S.length : Int) - 1) (by omega) (by omega), if_pos (by omega), if_pos (by omega), if_pos (by omega), show (S.length : Int) - 1 = w.length by omega, hlast, hy0, hw1, w64 (x := 2 * w.getD 0 0) (by omega) (by omega), w64 (x := 2 * w.getD 0 0 - atV c 21 * 3) (by omega) (by omega), bne_self_eq_false]
  simp only [laws_FnBalanced.j2]
  rw [if_neg (by simp)]
  unfold impl_Greatest.f
  rw [g3 _ (by omega), Option.bind_some]
  dsimp only
  rw [if_neg (by omega), if_neg (by omega), if_pos g0, if_pos g1, bne_self_eq_false]
  simp only [laws_FnBalanced.j3]
  rw [if_neg (by simp)]
  exact last_loop M g (by omega) g0 g1 hMb g2 M.length 0 (by omega) (by omega) k (by omega)
theorem law_loop (c : List Int) (hb : Bytes c) (hc : c.length ≤ 1048576) (n : Nat) (hn : (n : Int) = 1 + atV c 0 % 8) (d : Nat) : ∀ (w : List Int), w.length + d = n → InR w 255 → ∀ k, 2000 + d < k → laws_FnBalanced.l0 k c w (w.map (2 * ·)) (w.length : Int) = some true := by
  obtain ⟨a0, a1⟩ := atV_range hb (i := 0) (by omega)
  obtain ⟨s0, s1⟩ := atV_range hb (i := 20) (by omega)
  induction d with
  | zero =>
    intro w hw hr k hk
    obtain ⟨k, rfl⟩ := pos_round (show 0 < k by omega)
    have hl : (w.map (2 * ·)).length = w.length := List.length_map ..
    have hws : InR w 1000000 := InR_mono hr (by omega)
    have e1 := balanced_ok w (w.map (2 * ·)) (1 + atV c 20 % 100) (by omega) (by omega) (by omega) (by omega) hl.symm hws (InR_map hr) k (by omega)
    have e2 := balanced_ok (w ++ [5]) (w.map (2 * ·) ++ [0]) (1 + atV c 20 % 100) (by omega) (by omega) (by simp) (by simp; omega) (by simp) (InR_snoc hws (by omega) (by omega)) (InR_snoc (InR_map hr) (by omega) (by omega)) k (by omega)
    rw [Sh_zero, Bd_zero] at e1
    rw [List.length_append, List.length_singleton, Sh_more] at e2
    simp only [laws_FnBalanced.l0]
    rw [at_ok hb hc (by omega) (by omega), Option.bind_some, tm a0, w64 (x := 1 + atV c 0 % 8) (by omega) (by omega), if_neg (by omega), at_ok hb hc (by omega) (by omega), Option.bind_some, tm s0, w64 (x := 1 + atV c 20 % 100) (by omega) (by omega), e1, Option.bind_some, if_pos (by simp), if_pos (by omega), if_pos (by omega), e2, Option.bind_some, if_neg (by simp), balanced_nil _ (by omega) (by omega) k (by omega), Option.bind_some]
    exact behind c hb hc w _ (by omega) (by omega) (by omega) (by omega) hr k (by omega)
  | succ d ih =>
    intro w hw hr k hk
    obtain ⟨k, rfl⟩ := pos_round (show 0 < k by omega)
    obtain ⟨t0, t1⟩ := atV_range hb (i := (w.length : Int) + 1) (by omega)
    have := ih (w ++ [atV c ((w.length : Int) + 1)]) (by simp; omega) (InR_snoc hr t0 t1) k (by omega)
    rw [List.map_append, List.map_singleton, List.length_append, List.length_singleton, Int.natCast_succ] at this
    simp only [laws_FnBalanced.l0]
    rw [at_ok hb hc (by omega) (by omega), Option.bind_some, tm a0, w64 (x := 1 + atV c 0 % 8) (by omega) (by omega), if_pos (by omega), w64 (x := (w.length : Int) + 1) (by omega) (by omega), at_ok hb hc (by omega) (by omega), Option.bind_some, if_pos (by omega), Option.bind_some, if_pos (by omega), if_pos (by rw [List.length_append, List.length_singleton]; omega), if_pos (by rw [List.length_map]; omega), rd_last, w64 (x := 2 * atV c ((w.length : Int) + 1)) (by omega) (by omega)]
    exact this
theorem FnBalanced : laws_FnBalanced.Pure := by
  intro l _ _ hw
  have hb := bytes_of hw
  obtain ⟨a0, a1⟩ := atV_range hb (i := 0) (by omega)
  refine ⟨3000, ?_⟩
  unfold laws_FnBalanced.f laws_big.f
  by_cases hn : (l.length : Int) > 1048576
  · rw [Option.bind_some, if_pos (by simpa using hn)]
  · rw [Option.bind_some, if_neg (by simpa using hn)]
    exact law_loop l hb (by omega) (1 + atV l 0 % 8).toNat (by omega) (1 + atV l 0 % 8).toNat [] (by simp) (fun x hx => by cases hx) 3000 (by omega)

end Go.Proofs.Ytdjbglhhjffnkaa.Pure
