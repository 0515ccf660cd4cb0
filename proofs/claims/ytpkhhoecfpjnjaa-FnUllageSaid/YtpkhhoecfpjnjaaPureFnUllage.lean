/- The law of ullage: the more cargo the less ullage, where the table tells it it is the table's, above the table's end it is refused; a survey of three alike drafts is the draft times the weight. For every byte list as code. -/
import Derived.Test.YtpkhhoecfpjnjaaPFnUllagex2
import Derived.Test.YtpkhhoecfpjnjaaKit
set_option linter.unusedVariables false
namespace Go.Proofs.Ytpkhhoecfpjnjaa.Pure
open Go.RowKit Go.Proofs.Ytpkhhoecfpjnjaa.PFnUllage Go.Proofs.YtpkhhoecfpjnjaaW.PrintWords Go.Proofs.YtpkhhoecfpjnjaaW.PrintLast Go.Proofs.YtpkhhoecfpjnjaaW.Kit

theorem at_eqU (l : List Int) (i : Int) : laws_at.f l i = atK l i := rfl
theorem in_eqU (a b c : Int) : impl_in.f a b c = some (decide (b ≤ a ∧ a ≤ c)) := in_some a b c

/-- A table that falls. -/
structure Falls (l : List Int) : Prop where
  low : ∀ x ∈ l, 0 ≤ x ∧ x ≤ 100000
  down : ∀ i : Int, 0 ≤ i → i + 1 < l.length → rd l (i + 1) < rd l i
theorem all_ok {l : List Int} (h : ∀ x ∈ l, 0 ≤ x ∧ x ≤ 100000) : impl_all.f l 0 100000 = some true := by
  unfold impl_all.f
  congr 1
  rw [List.all_eq_true]
  intro x hx
  have := h x hx
  simp; omega
theorem falls_le {l : List Int} (h : Falls l) (i : Int) (h0 : 0 ≤ i) (d : Nat) : i + d < l.length → rd l (i + d) ≤ rd l i := by
  induction d with
  | zero => intro _; simp
  | succ d ih =>
    intro hd
    have h1 := ih (by omega)
    have h2 := h.down (i + d) (by omega) (by omega)
    rw [show i + ((d + 1 : Nat) : Int) = i + d + 1 by omega]
    omega
theorem falls_le' {l : List Int} (h : Falls l) {i j : Int} (h0 : 0 ≤ i) (h1 : i ≤ j) (h2 : j < l.length) : rd l j ≤ rd l i := by
  have := falls_le h i h0 (j - i).toNat (by omega)
  rwa [show i + ((j - i).toNat : Int) = j by omega] at this
/-- The ullage. -/
def ul (l : List Int) (h : Int) : Int := if h % 100 = 0 then rd l (h / 100) else rd l (h / 100) - h % 100 * (rd l (h / 100) - rd l (h / 100 + 1)) / 100
theorem ul_bounds {l : List Int} (hf : Falls l) {h : Int} (h0 : 0 ≤ h) (h1 : h ≤ 100 * (l.length - 1)) (hl : 1 ≤ l.length) : ul l h ≤ rd l (h / 100) ∧ (h / 100 + 1 < l.length → rd l (h / 100 + 1) ≤ ul l h) := by
  unfold ul
  split
  · refine ⟨Int.le_refl _, fun h2 => ?_⟩
    have := hf.down (h / 100) (by omega) h2
    omega
  · rename_i c
    have hd := hf.down (h / 100) (by omega) (by omega)
    have hp := Int.mul_nonneg (show 0 ≤ h % 100 by omega) (show 0 ≤ rd l (h / 100) - rd l (h / 100 + 1) by omega)
    have hq := mul_le2 (show h % 100 ≤ 100 by omega) (Int.le_refl (rd l (h / 100) - rd l (h / 100 + 1))) (by omega) (by omega)
    generalize h % 100 * (rd l (h / 100) - rd l (h / 100 + 1)) = p at hp hq ⊢
    exact ⟨by omega, fun _ => by omega⟩
theorem ul_mono {l : List Int} (hf : Falls l) {g h : Int} (h0 : 0 ≤ g) (hg : g ≤ h) (h1 : h ≤ 100 * (l.length - 1)) (hl : 1 ≤ l.length) : ul l h ≤ ul l g := by
  by_cases e : g / 100 = h / 100
  · unfold ul
    rw [e]
    by_cases c : h % 100 = 0
    · rw [if_pos c, if_pos (by omega)]; omega
    · have hd := hf.down (h / 100) (by omega) (by omega)
      rw [if_neg c]
      have hp := mul_le2 (show g % 100 ≤ h % 100 by omega) (Int.le_refl (rd l (h / 100) - rd l (h / 100 + 1))) (by omega) (by omega)
      have hq := Int.mul_nonneg (show 0 ≤ g % 100 by omega) (show 0 ≤ rd l (h / 100) - rd l (h / 100 + 1) by omega)
      split
      · generalize h % 100 * (rd l (h / 100) - rd l (h / 100 + 1)) = p at hp ⊢
        generalize g % 100 * (rd l (h / 100) - rd l (h / 100 + 1)) = q at hp hq
        omega
      · generalize h % 100 * (rd l (h / 100) - rd l (h / 100 + 1)) = p at hp ⊢
        generalize g % 100 * (rd l (h / 100) - rd l (h / 100 + 1)) = q at hp hq ⊢
        omega
  · have h2 := (ul_bounds hf (h := h) (by omega) h1 hl).1
    have h3 := (ul_bounds hf (h := g) (by omega) (by omega) hl).2 (by omega)
    have h4 := falls_le' hf (i := g / 100 + 1) (j := h / 100) (by omega) (by omega) (by omega)
    omega
theorem ul_loop {l : List Int} (hf : Falls l) (hl : 2 ≤ l.length) (hl2 : l.length ≤ 30) {h : Int} (h0 : 0 ≤ h) (h1 : h ≤ 100 * (l.length - 1)) (d : Nat) : ∀ (k : Nat) (i : Int), 1 ≤ i → i ≤ l.length → (l.length : Int) - i = d → d < k → impl_Ullage.l0 k l h i = some (ul l h, true) := by
  induction d with
  | zero =>
    intro k i hi0 hi1 hd hk
    obtain ⟨k, rfl⟩ := pos_round (show 0 < k by omega)
    simp only [impl_Ullage.l0]
    rw [if_neg (by omega), tm h0, td h0, w64 (x := h / 100) (by omega) (by omega)]
    unfold ul
    by_cases c : h % 100 = 0
    · rw [if_pos c, if_pos c, if_pos (by omega), if_pos (by omega)]
    · have hd := hf.down (h / 100) (by omega) (by omega)
      have m1 := hf.low _ (rd_mem (l := l) (i := h / 100) (by omega) (by omega))
      have m2 := hf.low _ (rd_mem (l := l) (i := h / 100 + 1) (by omega) (by omega))
      have hp := Int.mul_nonneg (show 0 ≤ h % 100 by omega) (show 0 ≤ rd l (h / 100) - rd l (h / 100 + 1) by omega)
      have hq := mul_le2 (show h % 100 ≤ 100 by omega) (show rd l (h / 100) - rd l (h / 100 + 1) ≤ 100000 by omega) (by omega) (by omega)
      rw [if_neg c, if_neg c, if_pos (by omega), if_pos (by omega), w64 (x := h / 100 + 1) (by omega) (by omega), if_pos (by omega), if_pos (by omega), w64 (x := rd l (h / 100) - rd l (h / 100 + 1)) (by omega) (by omega), w64 (x := h % 100 * _) (by omega) (by omega), td hp]
      generalize h % 100 * (rd l (h / 100) - rd l (h / 100 + 1)) = p at hp hq ⊢
      rw [w64 (x := p / 100) (by omega) (by omega), w64 (by omega) (by omega)]
  | succ d ih =>
    intro k i hi0 hi1 hd hk
    obtain ⟨k, rfl⟩ := pos_round (show 0 < k by omega)
    have hdn := hf.down (i - 1) (by omega) (by omega)
    rw [show i - 1 + 1 = i by omega] at hdn
    simp only [impl_Ullage.l0]
    rw [if_pos (by omega), if_pos (by omega), w64 (x := i - 1) (by omega) (by omega), if_pos (by omega), if_pos (by omega), if_neg (by omega), w64 (x := i + 1) (by omega) (by omega)]
    exact ih k (i + 1) (by omega) (by omega) (by omega) (by omega)
theorem ul_yes {l : List Int} (hf : Falls l) (hl : 2 ≤ l.length) (hl2 : l.length ≤ 30) {h : Int} (h0 : 0 ≤ h) (h1 : h ≤ 100 * (l.length - 1)) (k : Nat) (hk : 40 ≤ k) : impl_Ullage.f k l h = some (ul l h, true) := by
  obtain ⟨k, rfl⟩ := pos_round (show 0 < k by omega)
  unfold impl_Ullage.f
  rw [in_eqU, decide_eq_true (by omega)]
  simp only [Option.bind_some, if_true]
  rw [all_ok hf.low]
  simp only [Option.bind_some, if_true]
  rw [in_eqU, w64 (x := (l.length : Int) - 1) (by omega) (by omega), w64 (by omega) (by omega), decide_eq_true (by omega)]
  simp only [Option.bind_some, Bool.not_true, impl_Ullage.j0]
  rw [if_neg (by simp)]
  exact ul_loop hf hl hl2 h0 h1 (l.length - 1) k 1 (by omega) (by omega) (by omega) (by omega)
theorem ul_no {l : List Int} (hf : Falls l) (hl : 2 ≤ l.length) (hl2 : l.length ≤ 30) {h : Int} (h1 : h = 100 * (l.length - 1) + 1) (k : Nat) (hk : 1 ≤ k) : impl_Ullage.f k l h = some (0, false) := by
  obtain ⟨k, rfl⟩ := pos_round (show 0 < k by omega)
  unfold impl_Ullage.f
  rw [in_eqU, decide_eq_true (by omega)]
  simp only [Option.bind_some, if_true]
  rw [all_ok hf.low]
  simp only [Option.bind_some, if_true]
  rw [in_eqU, w64 (x := (l.length : Int) - 1) (by omega) (by omega), w64 (by omega) (by omega), decide_eq_false (by omega)]
  simp [impl_Ullage.j0]
theorem survey (a b c p : Int) (ha : 0 ≤ a ∧ a ≤ 20000) (hb : 0 ≤ b ∧ b ≤ 20000) (hc : 0 ≤ c ∧ c ≤ 20000) (hp : p = 1 ∨ p = 3) : impl_DraftSurvey.f a b c p = some (((a + 6 * b + c) * p + 4) / 8, true) := by
  unfold impl_DraftSurvey.f impl_all.f
  have : ([a, b, c].all fun x => decide (0 ≤ x) && decide (x ≤ 20000)) = true := by simp; omega
  rw [this]
  simp only [Option.bind_some, if_true]
  rw [in_eqU, decide_eq_true (by omega)]
  simp only [Option.bind_some, if_true]
  rcases hp with rfl | rfl
  · rw [w64 (x := 6 * b) (by omega) (by omega), w64 (x := a + 6 * b) (by omega) (by omega), w64 (x := a + 6 * b + c) (by omega) (by omega), w64 (x := (a + 6 * b + c) * 1) (by omega) (by omega), w64 (x := (a + 6 * b + c) * 1 + 4) (by omega) (by omega), td (by omega), w64 (by omega) (by omega)]
  · rw [w64 (x := 6 * b) (by omega) (by omega), w64 (x := a + 6 * b) (by omega) (by omega), w64 (x := a + 6 * b + c) (by omega) (by omega), w64 (x := (a + 6 * b + c) * 3) (by omega) (by omega), w64 (x := (a + 6 * b + c) * 3 + 4) (by omega) (by omega), td (by omega), w64 (by omega) (by omega)]

theorem ullage_end (c l : List Int) (x : Int) (hb : Bytes c) (hc : c.length ≤ 1048576) (hf : Falls l) (hl : 2 ≤ l.length) (hl2 : l.length ≤ 7) (k : Nat) (hk : 50 ≤ k) (i : Int) (hi : 2 + atV c 0 % 6 ≤ i) :
    laws_FnUllage.l0 k c l x i = some true := by
  obtain ⟨k, rfl⟩ := pos_round (show 0 < k by omega)
  have h0 := atV_range hb (i := 0) (by omega)
  have h20 := atV_range hb (i := 20) (by omega)
  have h21 := atV_range hb (i := 21) (by omega)
  have eL : wrap64 ((l.length : Int) - 1) = (l.length : Int) - 1 := w64 (by omega) (by omega)
  have eT : wrap64 (100 * ((l.length : Int) - 1)) = 100 * ((l.length : Int) - 1) := w64 (by omega) (by omega)
  have eU : wrap64 (100 * ((l.length : Int) - 1) + 1) = 100 * ((l.length : Int) - 1) + 1 := w64 (by omega) (by omega)
  have hs0 := Int.emod_nonneg (atV c 20 * 7) (show 100 * ((l.length : Int) - 1) + 1 ≠ 0 by omega)
  have hs1 := Int.emod_lt_of_pos (atV c 20 * 7) (show 0 < 100 * ((l.length : Int) - 1) + 1 by omega)
  simp only [laws_FnUllage.l0]
  rw [at_eqU, at_some hb hc (by omega) (by omega)]
  simp only [Option.bind_some]
  rw [tm (by omega), w64 (x := 2 + _) (by omega) (by omega), if_neg (by omega), at_eqU, at_some hb hc (by omega) (by omega)]
  simp only [Option.bind_some]
  rw [eL, eT, eU, if_neg (by omega), w64 (x := atV c 20 * 7) (by omega) (by omega), tm (by omega)]
  generalize hs : atV c 20 * 7 % (100 * ((l.length : Int) - 1) + 1) = s at hs0 hs1 ⊢
  rw [ul_yes hf hl (by omega) hs0 (by omega) k (by omega)]
  simp only [Option.bind_some]
  rw [w64 (x := s + _) (by omega) (by omega), td (by omega), w64 (x := (s + _) / 2) (by omega) (by omega), ul_yes hf hl (by omega) (by omega) (by omega) k (by omega)]
  simp only [Option.bind_some]
  rw [td hs0, w64 (x := s / 100) (by omega) (by omega), w64 (x := s / 100 * 100) (by omega) (by omega), ul_yes hf hl (by omega) (by omega) (by omega) k (by omega)]
  simp only [Option.bind_some]
  rw [ul_no hf hl (by omega) rfl k (by omega)]
  simp only [Option.bind_some]
  rw [at_eqU, at_some hb hc (by omega) (by omega)]
  simp only [Option.bind_some]
  rw [w64 (x := atV c 21 * 8) (by omega) (by omega), survey _ _ _ _ (by omega) (by omega) (by omega) (.inr rfl)]
  simp only [Option.bind_some]
  rw [survey _ _ _ _ (by omega) (by omega) (by omega) (.inl rfl)]
  simp only [Option.bind_some, if_true]
  have hm := ul_mono hf hs0 (show s ≤ (s + 100 * ((l.length : Int) - 1)) / 2 by omega) (by omega) (by omega)
  have he : ul l (s / 100 * 100) = rd l (s / 100) := by
    unfold ul
    rw [if_pos (by omega), show s / 100 * 100 / 100 = s / 100 by omega]
  have hle := (ul_bounds hf hs0 (by omega) (by omega)).1
  rw [if_pos (by omega), if_pos (by omega), if_pos (by omega), he, if_pos rfl, if_pos hle, if_neg (by simp), w64 (x := 3 * _) (by omega) (by omega), if_pos (by omega)]
  decide

theorem ullage_loop (c : List Int) (hb : Bytes c) (hc : c.length ≤ 1048576) (d : Nat) : ∀ (k : Nat) (l : List Int) (x i : Int), 0 ≤ i → (l.length : Int) = i → i ≤ 2 + atV c 0 % 6 → 2 + atV c 0 % 6 - i = d → Falls l → 90000 - 256 * i ≤ x → x ≤ 90000 → (i = 0 ∨ x = rd l (i - 1)) → d + 60 < k →
    laws_FnUllage.l0 k c l x i = some true := by
  have h6 := atV_range hb (i := 0) (by omega)
  induction d with
  | zero =>
    intro k l x i h0 hl hi hd hf hx0 hx1 hx hk
    exact ullage_end c l x hb hc hf (by omega) (by omega) k (by omega) i (by omega)
  | succ d ih =>
    intro k l x i h0 hl hi hd hf hx0 hx1 hx hk
    obtain ⟨k, rfl⟩ := pos_round (show 0 < k by omega)
    have ha := atV_range hb (i := i + 1) (by omega)
    simp only [laws_FnUllage.l0]
    rw [at_eqU, at_some hb hc (by omega) (by omega)]
    simp only [Option.bind_some]
    rw [tm (by omega), w64 (x := 2 + _) (by omega) (by omega), if_pos (by omega), w64 (x := i + 1) (by omega) (by omega), at_eqU, at_some hb hc (by omega) (by omega)]
    simp only [Option.bind_some]
    rw [if_pos (by omega), w64 (x := x - 1) (by omega) (by omega), w64 (x := x - 1 - _) (by omega) (by omega)]
    refine ih k (l ++ [x - 1 - atV c (i + 1)]) (x - 1 - atV c (i + 1)) (i + 1) (by omega) (by simp; omega) (by omega) (by omega) ⟨?_, ?_⟩ (by omega) (by omega) (.inr ?_) (by omega)
    · intro y hy
      rcases List.mem_append.1 hy with hy | hy
      · exact hf.low y hy
      · rw [List.mem_singleton.1 hy]; omega
    · intro j hj0 hj1
      have hj1' : j + 1 < i + 1 := by simpa [hl] using hj1
      by_cases e : j + 1 < i
      · rw [rd_append_left hj0 (by omega), rd_append_left (by omega) (by omega)]
        exact hf.down j hj0 (by omega)
      · have ej : j + 1 = (l.length : Int) := by omega
        rw [rd_append_left hj0 (by omega), ej, rd_last]
        rcases hx with hx | hx
        · omega
        · rw [show j = i - 1 by omega, ← hx]; omega
    · rw [show i + 1 - 1 = (l.length : Int) by omega, rd_last]

theorem FnUllage : laws_FnUllage.Pure := by
  intro c _ _ hwf
  have hb := bytes_of hwf
  refine ⟨200, ?_⟩
  unfold laws_FnUllage.f laws_big.f
  simp only [Option.bind_some]
  by_cases hc : (c.length : Int) > 1048576
  · rw [if_pos (by simpa using hc)]
  · rw [if_neg (by simpa using hc)]
    have h6 := atV_range hb (i := 0) (by omega)
    exact ullage_loop c hb (by omega) (2 + atV c 0 % 6).toNat 200 [] 90000 0 (by omega) rfl (by omega) (by omega) ⟨(fun x hx => by cases hx), (fun i h0 h1 => by simp at h1; omega)⟩ (by omega) (by omega) (.inl rfl) (by omega)

end Go.Proofs.Ytpkhhoecfpjnjaa.Pure
