/- The law of what is burnt: for twice as long it is twice as much but for what is rounded, at a speed between two it is no less than at the lower one, and at the top speed an hour burns the curve's last value. For every byte list as code. -/
import Derived.Test.YtpkhhoecfpjnjaaPFnBurnx1
import Derived.Test.YtpkhhoecfpjnjaaKit
set_option linter.unusedVariables false
namespace Go.Proofs.Ytpkhhoecfpjnjaa.Pure
open Go.RowKit Go.Proofs.Ytpkhhoecfpjnjaa.PFnBurn Go.Proofs.YtpkhhoecfpjnjaaW.PrintWords Go.Proofs.YtpkhhoecfpjnjaaW.PrintLast Go.Proofs.YtpkhhoecfpjnjaaW.Kit

theorem at_eqB (l : List Int) (i : Int) : laws_at.f l i = atK l i := rfl
theorem in_eqB (a b c : Int) : impl_in.f a b c = some (decide (b ≤ a ∧ a ≤ c)) := in_some a b c

/-- A curve that never falls. -/
structure Curve (l : List Int) : Prop where
  low : ∀ x ∈ l, 0 ≤ x ∧ x ≤ 3000
  up : ∀ i : Int, 0 ≤ i → i + 1 < l.length → rd l i ≤ rd l (i + 1)
theorem all_fine {l : List Int} (h : Curve l) : impl_all.f l 0 100000 = some true := by
  unfold impl_all.f
  congr 1
  rw [List.all_eq_true]
  intro x hx
  have := h.low x hx
  simp; omega
/-- Tenths an hour at a speed. -/
def tens (l : List Int) (s : Int) : Int := 10 * rd l (s / 10) + (if s % 10 > 0 then s % 10 * (rd l (s / 10 + 1) - rd l (s / 10)) else 0)
theorem tens_range {l : List Int} (h : Curve l) {s : Int} (h0 : 0 ≤ s) (h1 : s ≤ 10 * (l.length - 1)) (hl : 1 ≤ l.length) : 10 * rd l (s / 10) ≤ tens l s ∧ tens l s ≤ 70000 ∧ 0 ≤ rd l (s / 10) ∧ rd l (s / 10) ≤ 3000 := by
  have hm := h.low _ (rd_mem (l := l) (i := s / 10) (by omega) (by omega))
  refine ⟨?_, ?_, hm.1, hm.2⟩
  · unfold tens
    split
    · rename_i c
      have hu := h.up (s / 10) (by omega) (by omega)
      have := Int.mul_nonneg (show 0 ≤ s % 10 by omega) (show 0 ≤ rd l (s / 10 + 1) - rd l (s / 10) by omega)
      omega
    · omega
  · unfold tens
    split
    · rename_i c
      have hu := h.up (s / 10) (by omega) (by omega)
      have hm2 := h.low _ (rd_mem (l := l) (i := s / 10 + 1) (by omega) (by omega))
      have := mul_le2 (show s % 10 ≤ 10 by omega) (show rd l (s / 10 + 1) - rd l (s / 10) ≤ 3000 by omega) (by omega) (by omega)
      omega
    · omega
theorem burn_yes {l : List Int} (h : Curve l) (hl : 2 ≤ l.length) (hl2 : l.length ≤ 30) {s m : Int} (h0 : 0 ≤ s) (h1 : s ≤ 10 * (l.length - 1)) (hm : 0 ≤ m) (hm1 : m ≤ 100000) (k : Nat) (hk : 1 ≤ k) :
    impl_Burn.f k l s m = some (tens l s * m / 600, true) := by
  obtain ⟨k, rfl⟩ := pos_round (show 0 < k by omega)
  have ht := tens_range h h0 h1 (by omega)
  have hp : 0 ≤ tens l s * m := Int.mul_nonneg (by omega) hm
  have hp2 := mul_le2 ht.2.1 hm1 hm (by omega)
  unfold impl_Burn.f
  rw [in_eqB, decide_eq_true (by omega)]
  simp only [Option.bind_some, if_true]
  rw [all_fine h]
  simp only [Option.bind_some, if_true]
  rw [in_eqB, decide_eq_true (by omega)]
  simp only [Option.bind_some, if_true]
  rw [in_eqB, w64 (x := (l.length : Int) - 1) (by omega) (by omega), w64 (by omega) (by omega), decide_eq_true (by omega)]
  simp only [Option.bind_some, Bool.not_true, impl_Burn.j0]
  rw [if_neg (by simp), td h0, w64 (x := s / 10) (by omega) (by omega), tm h0, if_pos (by omega), if_pos (by omega)]
  unfold tens at hp hp2 ht ⊢
  rw [w64 (x := 10 * rd l (s / 10)) (by omega) (by omega)]
  by_cases c : s % 10 > 0
  · have hu := h.up (s / 10) (by omega) (by omega)
    have hm2 := h.low _ (rd_mem (l := l) (i := s / 10 + 1) (by omega) (by omega))
    rw [if_pos c] at hp hp2 ht ⊢
    have hq := mul_le2 (show s % 10 ≤ 10 by omega) (show rd l (s / 10 + 1) - rd l (s / 10) ≤ 3000 by omega) (by omega) (by omega)
    have hq0 := Int.mul_nonneg (show 0 ≤ s % 10 by omega) (show 0 ≤ rd l (s / 10 + 1) - rd l (s / 10) by omega)
    rw [if_pos c, w64 (x := s / 10 + 1) (by omega) (by omega), if_pos (by omega), if_pos (by omega), w64 (x := rd l (s / 10 + 1) - rd l (s / 10)) (by omega) (by omega), w64 (x := s % 10 * _) (by omega) (by omega), w64 (x := 10 * rd l (s / 10) + _) (by omega) (by omega), w64 (x := _ * m) (by omega) (by omega), td hp, w64 (by omega) (by omega)]
  · rw [if_neg c, Int.add_zero] at hp hp2
    rw [if_neg c, if_neg c, Int.add_zero, w64 (x := _ * m) (by omega) (by omega), td hp, w64 (by omega) (by omega)]
theorem burn_no {l : List Int} (h : Curve l) (hl : 2 ≤ l.length) (hl2 : l.length ≤ 30) {s m : Int} (h1 : s = 10 * (l.length - 1) + 1) (hm : 0 ≤ m) (hm1 : m ≤ 100000) (k : Nat) (hk : 1 ≤ k) :
    impl_Burn.f k l s m = some (0, false) := by
  obtain ⟨k, rfl⟩ := pos_round (show 0 < k by omega)
  unfold impl_Burn.f
  rw [in_eqB, decide_eq_true (by omega)]
  simp only [Option.bind_some, if_true]
  rw [all_fine h]
  simp only [Option.bind_some, if_true]
  rw [in_eqB, decide_eq_true (by omega)]
  simp only [Option.bind_some, if_true]
  rw [in_eqB, w64 (x := (l.length : Int) - 1) (by omega) (by omega), w64 (by omega) (by omega), decide_eq_false (by omega)]
  simp [impl_Burn.j0]

/-- The end of the law, behind the curve's loop. -/
theorem burn_end (c l : List Int) (x : Int) (hb : Bytes c) (hc : c.length ≤ 1048576) (h : Curve l) (hl : 2 ≤ l.length) (hl2 : l.length ≤ 7) (hx : x = rd l ((l.length : Int) - 1)) (k : Nat) (hk : 2 ≤ k) (i : Int) (hi : 2 + atV c 0 % 6 ≤ i) (hi2 : i ≤ 100) :
    laws_FnBurn.l0 k c l x i = some true := by
  obtain ⟨k, rfl⟩ := pos_round (show 0 < k by omega)
  have h0 := atV_range hb (i := 0) (by omega)
  have h9 := atV_range hb (i := 9) (by omega)
  have h10 := atV_range hb (i := 10) (by omega)
  have eL : wrap64 ((l.length : Int) - 1) = (l.length : Int) - 1 := w64 (by omega) (by omega)
  have eT : wrap64 (10 * ((l.length : Int) - 1)) = 10 * ((l.length : Int) - 1) := w64 (by omega) (by omega)
  have eU : wrap64 (10 * ((l.length : Int) - 1) + 1) = 10 * ((l.length : Int) - 1) + 1 := w64 (by omega) (by omega)
  have hs0 := Int.emod_nonneg (atV c 9) (show 10 * ((l.length : Int) - 1) + 1 ≠ 0 by omega)
  have hs1 := Int.emod_lt_of_pos (atV c 9) (show 0 < 10 * ((l.length : Int) - 1) + 1 by omega)
  simp only [laws_FnBurn.l0]
  rw [at_eqB, at_some hb hc (by omega) (by omega)]
  simp only [Option.bind_some]
  rw [tm (by omega), w64 (x := 2 + _) (by omega) (by omega), if_neg (by omega), at_eqB, at_some hb hc (by omega) (by omega)]
  simp only [Option.bind_some]
  rw [eL, eT, eU, if_neg (by omega), at_eqB, at_some hb hc (by omega) (by omega)]
  simp only [Option.bind_some]
  rw [tm (by omega), w64 (x := atV c 10 * 3) (by omega) (by omega), w64 (x := 2 * _) (by omega) (by omega)]
  generalize hs : atV c 9 % (10 * ((l.length : Int) - 1) + 1) = s at hs0 hs1 ⊢
  rw [burn_yes h hl (by omega) hs0 (by omega) (by omega) (by omega) k (by omega)]
  simp only [Option.bind_some]
  rw [burn_yes h hl (by omega) hs0 (by omega) (by omega) (by omega) k (by omega)]
  simp only [Option.bind_some]
  rw [td hs0, w64 (x := s / 10) (by omega) (by omega), w64 (x := s / 10 * 10) (by omega) (by omega)]
  rw [burn_yes h hl (by omega) (s := s / 10 * 10) (by omega) (by omega) (by omega) (by omega) k (by omega)]
  simp only [Option.bind_some]
  rw [burn_no h hl (by omega) rfl (by omega) (by omega) k (by omega)]
  simp only [Option.bind_some]
  rw [burn_yes h hl (by omega) (s := 10 * ((l.length : Int) - 1)) (by omega) (by omega) (m := 60) (by omega) (by omega) k (by omega)]
  simp only [Option.bind_some, if_true]
  have ht := tens_range h hs0 (by omega) (by omega)
  have hp : 0 ≤ tens l s * (atV c 10 * 3) := Int.mul_nonneg (by omega) (by omega)
  have hp2 := mul_le2 ht.2.1 (show atV c 10 * 3 ≤ 765 by omega) (by omega) (by omega)
  have e2 : tens l s * (2 * (atV c 10 * 3)) = 2 * (tens l s * (atV c 10 * 3)) := by rw [← Int.mul_assoc, Int.mul_comm _ 2, Int.mul_assoc]
  have elow : tens l (s / 10 * 10) = 10 * rd l (s / 10) := by
    unfold tens
    rw [if_neg (by omega), show s / 10 * 10 / 10 = s / 10 by omega, Int.add_zero]
  have hlow : 10 * rd l (s / 10) * (atV c 10 * 3) ≤ tens l s * (atV c 10 * 3) := Int.mul_le_mul_of_nonneg_right ht.1 (by omega)
  have hlow0 : 0 ≤ 10 * rd l (s / 10) * (atV c 10 * 3) := Int.mul_nonneg (by omega) (by omega)
  have etop : tens l (10 * ((l.length : Int) - 1)) = 10 * x := by
    unfold tens
    rw [if_neg (by omega), show 10 * ((l.length : Int) - 1) / 10 = (l.length : Int) - 1 by omega, Int.add_zero, hx]
  rw [e2, elow, etop]
  generalize tens l s * (atV c 10 * 3) = p at hp hp2 hlow ⊢
  generalize 10 * rd l (s / 10) * (atV c 10 * 3) = q at hlow hlow0 ⊢
  rw [w64 (x := 2 * (p / 600)) (by omega) (by omega), w64 (by omega) (by omega), if_pos (by omega), if_pos (by omega), if_pos (by omega), if_neg (by simp)]
  have : 10 * x * 60 / 600 = x := by omega
  rw [this]; simp

theorem burn_loop (c : List Int) (hb : Bytes c) (hc : c.length ≤ 1048576) (d : Nat) : ∀ (k : Nat) (l : List Int) (x i : Int), 0 ≤ i → (l.length : Int) = i → i ≤ 2 + atV c 0 % 6 → 2 + atV c 0 % 6 - i = d → Curve l → 0 ≤ x → x ≤ 255 * i → (i = 0 ∨ x = rd l (i - 1)) → (∀ y ∈ l, y ≤ 255 * i) → d + 2 < k →
    laws_FnBurn.l0 k c l x i = some true := by
  have h6 := atV_range hb (i := 0) (by omega)
  induction d with
  | zero =>
    intro k l x i h0 hl hi hd hcu hx0 hx1 hx hmax hk
    exact burn_end c l x hb hc hcu (by omega) (by omega) (by rcases hx with hx | hx; omega; rw [hl]; exact hx) k (by omega) i (by omega) (by omega)
  | succ d ih =>
    intro k l x i h0 hl hi hd hcu hx0 hx1 hx hmax hk
    obtain ⟨k, rfl⟩ := pos_round (show 0 < k by omega)
    have ha := atV_range hb (i := i + 1) (by omega)
    simp only [laws_FnBurn.l0]
    rw [at_eqB, at_some hb hc (by omega) (by omega)]
    simp only [Option.bind_some]
    rw [tm (by omega), w64 (x := 2 + _) (by omega) (by omega), if_pos (by omega), w64 (x := i + 1) (by omega) (by omega), at_eqB, at_some hb hc (by omega) (by omega)]
    simp only [Option.bind_some]
    rw [if_pos (by omega), w64 (x := x + _) (by omega) (by omega)]
    refine ih k (l ++ [x + atV c (i + 1)]) (x + atV c (i + 1)) (i + 1) (by omega) (by simp; omega) (by omega) (by omega) ⟨?_, ?_⟩ (by omega) (by omega) (.inr ?_) ?_ (by omega)
    · intro y hy
      rcases List.mem_append.1 hy with hy | hy
      · exact hcu.low y hy
      · rw [List.mem_singleton.1 hy]; omega
    · intro j hj0 hj1
      have hj1' : j + 1 < i + 1 := by simpa [hl] using hj1
      by_cases e : j + 1 < i
      · rw [rd_append_left hj0 (by omega), rd_append_left (by omega) (by omega)]
        exact hcu.up j hj0 (by omega)
      · have ej : j + 1 = (l.length : Int) := by omega
        rw [rd_append_left hj0 (by omega), ej, rd_last]
        rcases hx with hx | hx
        · omega
        · rw [show j = i - 1 by omega, ← hx]; omega
    · rw [show i + 1 - 1 = (l.length : Int) by omega, rd_last]
    · intro y hy
      rcases List.mem_append.1 hy with hy | hy
      · have := hmax y hy; omega
      · rw [List.mem_singleton.1 hy]; omega

theorem FnBurn : laws_FnBurn.Pure := by
  intro c _ _ hwf
  have hb := bytes_of hwf
  refine ⟨100, ?_⟩
  unfold laws_FnBurn.f laws_big.f
  simp only [Option.bind_some]
  by_cases hc : (c.length : Int) > 1048576
  · rw [if_pos (by simpa using hc)]
  · rw [if_neg (by simpa using hc)]
    have h6 := atV_range hb (i := 0) (by omega)
    exact burn_loop c hb (by omega) (2 + atV c 0 % 6).toNat 100 [] 0 0 (by omega) rfl (by omega) (by omega) ⟨(fun x hx => by cases hx), (fun i h0 h1 => by simp at h1; omega)⟩ (by omega) (by omega) (.inl rfl) (fun y hy => by cases hy) (by omega)

end Go.Proofs.Ytpkhhoecfpjnjaa.Pure
