/- Along drawn moves cranes stay in order, and only the one that is named moves; a push to the same place moves none that is far enough: for each byte list as code. -/
import Derived.Test.YtbaiiaabanhilaaPFnCranesx7
import Derived.Test.YtbaiiaabanhilaaVCranesKit
set_option linter.unusedVariables false
set_option linter.unusedSimpArgs false
namespace Go.Proofs.Ytbaiiaabanhilaa.Pure
open Go.RowKit Go.Proofs.Ytbaiiaabanhilaa.PFnCranes Go.Proofs.YtbaiiaabanhilaaW.PrintWords Go.Proofs.YtbaiiaabanhilaaW.PrintLast Go.Proofs.YtbaiiaabanhilaaW.PrintMore Go.Proofs.YtbaiiaabanhilaaW.Kit

theorem rd34_lt {l : List S34} {i : Int} (h0 : 0 ≤ i) (h1 : i < l.length) : ∃ h : i.toNat < l.length, rd_T34 l i = l[i.toNat]'h := by
  have h : i.toNat < l.length := by omega
  exact ⟨h, by simp [rd_T34, List.getD_eq_getElem?_getD, List.getElem?_eq_getElem h]⟩
theorem rd34_mem {l : List S34} {i : Int} (h0 : 0 ≤ i) (h1 : i < l.length) : rd_T34 l i ∈ l := by
  obtain ⟨h, e⟩ := rd34_lt h0 h1
  rw [e]; exact List.getElem_mem h
theorem rd34_drop {l : List S34} {i : Int} (h0 : 0 ≤ i) (h1 : i < l.length) : l.drop i.toNat = rd_T34 l i :: l.drop (i + 1).toNat := by
  obtain ⟨h, e⟩ := rd34_lt h0 h1
  rw [e, show (i + 1).toNat = i.toNat + 1 by omega, List.drop_eq_getElem_cons h]
theorem rd34_take {l : List S34} {i : Int} (h0 : 0 ≤ i) (h1 : i < l.length) : l.take (i + 1).toNat = l.take i.toNat ++ [rd_T34 l i] := by
  obtain ⟨h, e⟩ := rd34_lt h0 h1
  rw [e, show (i + 1).toNat = i.toNat + 1 by omega, List.take_succ_eq_append_getElem h]
theorem rd34_set_eq {l : List S34} {i : Int} {x : S34} (h0 : 0 ≤ i) (h1 : i < l.length) : rd_T34 (l.set i.toNat x) i = x := by
  simp [rd_T34, List.getD_eq_getElem?_getD, List.getElem?_set, show i.toNat < l.length by omega]
theorem rd34_set_ne {l : List S34} {i j : Int} {x : S34} (h0 : 0 ≤ i) (hj : 0 ≤ j) (h : i ≠ j) : rd_T34 (l.set i.toNat x) j = rd_T34 l j := by
  simp [rd_T34, List.getD_eq_getElem?_getD, List.getElem?_set, show ¬ i.toNat = j.toNat by omega]
theorem rd34_append_left {l m : List S34} {i : Int} (h0 : 0 ≤ i) (h1 : i < l.length) : rd_T34 (l ++ m) i = rd_T34 l i := by
  simp [rd_T34, List.getD_eq_getElem?_getD, List.getElem?_append_left (show i.toNat < l.length by omega)]
theorem rd34_last {l : List S34} {x : S34} : rd_T34 (l ++ [x]) (l.length : Int) = x := by
  simp [rd_T34, List.getD_eq_getElem?_getD]
theorem ext34 {l m : List S34} (h : l.length = m.length) (hr : ∀ i : Int, 0 ≤ i → i < l.length → rd_T34 l i = rd_T34 m i) : l = m := by
  apply List.ext_getElem h
  intro i h1 h2
  have := hr i (by omega) (by omega)
  simpa [rd_T34, List.getD_eq_getElem?_getD, List.getElem?_eq_getElem h1, List.getElem?_eq_getElem h2] using this
theorem rd31_lt {l : List S31} {i : Int} (h0 : 0 ≤ i) (h1 : i < l.length) : ∃ h : i.toNat < l.length, rd_T31 l i = l[i.toNat]'h := by
  have h : i.toNat < l.length := by omega
  exact ⟨h, by simp [rd_T31, List.getD_eq_getElem?_getD, List.getElem?_eq_getElem h]⟩
theorem rd31_mem {l : List S31} {i : Int} (h0 : 0 ≤ i) (h1 : i < l.length) : rd_T31 l i ∈ l := by
  obtain ⟨h, e⟩ := rd31_lt h0 h1
  rw [e]; exact List.getElem_mem h
theorem rd31_drop {l : List S31} {i : Int} (h0 : 0 ≤ i) (h1 : i < l.length) : l.drop i.toNat = rd_T31 l i :: l.drop (i + 1).toNat := by
  obtain ⟨h, e⟩ := rd31_lt h0 h1
  rw [e, show (i + 1).toNat = i.toNat + 1 by omega, List.drop_eq_getElem_cons h]
theorem rd31_take {l : List S31} {i : Int} (h0 : 0 ≤ i) (h1 : i < l.length) : l.take (i + 1).toNat = l.take i.toNat ++ [rd_T31 l i] := by
  obtain ⟨h, e⟩ := rd31_lt h0 h1
  rw [e, show (i + 1).toNat = i.toNat + 1 by omega, List.take_succ_eq_append_getElem h]
theorem rd31_set_eq {l : List S31} {i : Int} {x : S31} (h0 : 0 ≤ i) (h1 : i < l.length) : rd_T31 (l.set i.toNat x) i = x := by
  simp [rd_T31, List.getD_eq_getElem?_getD, List.getElem?_set, show i.toNat < l.length by omega]
theorem rd31_set_ne {l : List S31} {i j : Int} {x : S31} (h0 : 0 ≤ i) (hj : 0 ≤ j) (h : i ≠ j) : rd_T31 (l.set i.toNat x) j = rd_T31 l j := by
  simp [rd_T31, List.getD_eq_getElem?_getD, List.getElem?_set, show ¬ i.toNat = j.toNat by omega]
theorem rd31_append_left {l m : List S31} {i : Int} (h0 : 0 ≤ i) (h1 : i < l.length) : rd_T31 (l ++ m) i = rd_T31 l i := by
  simp [rd_T31, List.getD_eq_getElem?_getD, List.getElem?_append_left (show i.toNat < l.length by omega)]
theorem rd31_last {l : List S31} {x : S31} : rd_T31 (l ++ [x]) (l.length : Int) = x := by
  simp [rd_T31, List.getD_eq_getElem?_getD]
theorem ext31 {l m : List S31} (h : l.length = m.length) (hr : ∀ i : Int, 0 ≤ i → i < l.length → rd_T31 l i = rd_T31 m i) : l = m := by
  apply List.ext_getElem h
  intro i h1 h2
  have := hr i (by omega) (by omega)
  simpa [rd_T31, List.getD_eq_getElem?_getD, List.getElem?_eq_getElem h1, List.getElem?_eq_getElem h2] using this
theorem mask_nat (x : Int) (i : Nat) (hi : i ≤ 62) : Go.bits .and .i64 x ((2 ^ i - 1 : Nat) : Int) = x % ((2 ^ i : Nat) : Int) := by
  have hp : 0 < 2 ^ i := Nat.two_pow_pos i
  have h62 : 2 ^ i ≤ 2 ^ 62 := Nat.pow_le_pow_right (by decide) hi
  have e62 : (2 : Nat) ^ 62 = 4611686018427387904 := by decide
  rw [e62] at h62
  have hm : (2 ^ i - 1) % 2 ^ 64 = 2 ^ i - 1 := Nat.mod_eq_of_lt (by have : (2:Nat)^64 = 18446744073709551616 := by decide
                                                                     omega)
  have hd : ((2 ^ i : Nat) : Int) ∣ 18446744073709551616 := by
    have : (2 : Nat) ^ i ∣ 2 ^ 64 := Nat.pow_dvd_pow 2 (by omega)
    have h2 : (2 : Nat) ^ 64 = 18446744073709551616 := by decide
    rw [h2] at this
    exact Int.natCast_dvd_natCast.2 this
  show IntKind.i64.wrap ((BitVec.ofInt 64 x &&& BitVec.ofInt 64 ((2 ^ i - 1 : Nat) : Int)).toNat : Int) = _
  rw [BitVec.toNat_and, BitVec.ofInt_natCast, BitVec.toNat_ofNat, hm, Nat.and_two_pow_sub_one_eq_mod, BitVec.toNat_ofInt, IntKind.wrap_i64]
  have hx : 0 ≤ x % 18446744073709551616 := Int.emod_nonneg _ (by decide)
  have e : (((x % ((2 ^ 64 : Nat) : Int)).toNat % 2 ^ i : Nat) : Int) = x % ((2 ^ i : Nat) : Int) := by
    rw [Int.natCast_emod, show (((2 ^ 64 : Nat) : Int)) = 18446744073709551616 by decide, Int.toNat_of_nonneg hx, Int.emod_emod_of_dvd _ hd]
  rw [e]
  have h1 := Int.emod_nonneg x (show ((2 ^ i : Nat) : Int) ≠ 0 by omega)
  have h2 := Int.emod_lt_of_pos x (show (0 : Int) < ((2 ^ i : Nat) : Int) by omega)
  generalize x % ((2 ^ i : Nat) : Int) = r at h1 h2 ⊢
  omega
theorem mask24 (x : Int) : Go.bits .and .i64 x 16777215 = x % 16777216 := mask_nat x 24 (by decide)
theorem mask16 (x : Int) : Go.bits .and .i64 x 65535 = x % 65536 := mask_nat x 16 (by decide)
theorem mask8 (x : Int) : Go.bits .and .i64 x 255 = x % 256 := mask_nat x 8 (by decide)
theorem mask30 (x : Int) : Go.bits .and .i64 x 1073741823 = x % 1073741824 := mask_nat x 30 (by decide)
/-! ### the drawn values: a place in the bytes that stays in its row, and values that stay in their range -/
/-- The cursor's place is in the row. -/
def InRow (c : List Int) (p : Int) : Prop := 0 ≤ p ∧ p ≤ (c.length : Int)
theorem new_loop (c : List Int) (hc : c.length ≤ 1048576) (d : Nat) : ∀ (s i : Int), 0 ≤ i → i ≤ 4000 → 4000 - i = d → ∃ r, ∀ k, d < k → spec_l1New.l0 k c s i = some (c, 0, r) := by
  induction d with
  | zero =>
    intro s i h0 h1 hd
    refine ⟨s, fun k hk => ?_⟩
    obtain ⟨k, rfl⟩ := pos_round (show 0 < k by omega)
    simp only [spec_l1New.l0]
    by_cases h : i < (c.length : Int)
    · rw [if_pos h, if_neg (by omega)]
    · rw [if_neg h]
  | succ d ih =>
    intro s i h0 h1 hd
    by_cases h : i < (c.length : Int)
    · obtain ⟨r, hr⟩ := ih (Go.bits .and .i64 (wrap64 ((wrap64 ((wrap64 (s * 131)) + (wrap64 (rd c i)))) + 7)) 1073741823) (i + 1) (by omega) (by omega) (by omega)
      refine ⟨r, fun k hk => ?_⟩
      obtain ⟨k, rfl⟩ := pos_round (show 0 < k by omega)
      simp only [spec_l1New.l0]
      rw [if_pos h, if_pos (by omega), if_pos h0, w64 (x := i + 1) (by omega) (by omega)]
      exact hr k (by omega)
    · refine ⟨s, fun k hk => ?_⟩
      obtain ⟨k, rfl⟩ := pos_round (show 0 < k by omega)
      simp only [spec_l1New.l0]
      rw [if_neg h]
theorem new_ok (c : List Int) (hc : c.length ≤ 1048576) : ∃ r, ∀ k, 4000 < k → spec_l1New.f k c = some (c, 0, r) := by
  obtain ⟨r, hr⟩ := new_loop c hc 4000 (wrap64 (59059 + (c.length : Int))) 0 (by omega) (by omega) (by omega)
  exact ⟨r, hr⟩
theorem byte_ok (c : List Int) (hc : c.length ≤ 1048576) {p : Int} (hp : InRow c p) (s : Int) : ∃ b p' s', spec_l1Byte.f c p s = some (b, p', s') ∧ 0 ≤ b ∧ b ≤ 255 ∧ InRow c p' := by
  unfold spec_l1Byte.f
  obtain ⟨h0, h1⟩ := hp
  by_cases h : p < (c.length : Int)
  · rw [if_pos h, if_pos h0, w64 (x := p + 1) (by omega) (by omega)]
    refine ⟨_, _, _, rfl, ?_, ?_, by constructor <;> omega⟩ <;> rw [mask8] <;> omega
  · rw [if_neg h]
    refine ⟨_, _, _, rfl, ?_, ?_, by constructor <;> omega⟩ <;> rw [mask8] <;> omega
theorem below_ok (c : List Int) (hc : c.length ≤ 1048576) {p : Int} (hp : InRow c p) (s : Int) (n : Int) : ∃ r p' s', spec_l1Below.f c p s n = some (r, p', s') ∧ 0 ≤ r ∧ (0 < n → r < n) ∧ (n ≤ 0 → r = 0) ∧ InRow c p' := by
  unfold spec_l1Below.f
  by_cases h : n ≤ 0
  · rw [if_pos h]
    exact ⟨0, p, s, rfl, by omega, by omega, fun _ => rfl, hp⟩
  · rw [if_neg h]
    by_cases h2 : n ≤ 256
    · obtain ⟨b, p1, s1, e, b0, b1, hp1⟩ := byte_ok c hc hp s
      rw [if_pos h2, e, Option.bind_some, if_neg (by omega)]
      refine ⟨_, _, _, rfl, ?_, ?_, fun _ => by omega, hp1⟩ <;> rw [tm b0]
      · exact Int.emod_nonneg _ (by omega)
      · intro _; exact Int.emod_lt_of_pos _ (by omega)
    · obtain ⟨b, p1, s1, e, b0, b1, hp1⟩ := byte_ok c hc hp s
      obtain ⟨b', p2, s2, e2, b0', b1', hp2⟩ := byte_ok c hc hp1 s1
      obtain ⟨b'', p3, s3, e3, b0'', b1'', hp3⟩ := byte_ok c hc hp2 s2
      obtain ⟨b3, p4, s4, e4, b03, b13, hp4⟩ := byte_ok c hc hp3 s3
      rw [if_neg h2, e, Option.bind_some]
      dsimp only
      rw [e2, Option.bind_some]
      dsimp only
      rw [e3, Option.bind_some]
      dsimp only
      rw [e4, Option.bind_some, if_neg (by omega)]
      dsimp only
      rw [w64 (x := b * 16777216) (by omega) (by omega), w64 (x := b' * 65536) (by omega) (by omega), w64 (x := b'' * 256) (by omega) (by omega), w64 (x := b * 16777216 + b' * 65536) (by omega) (by omega), w64 (x := b * 16777216 + b' * 65536 + b'' * 256) (by omega) (by omega), w64 (by omega) (by omega), tm (by omega)]
      exact ⟨_, _, _, rfl, Int.emod_nonneg _ (by omega), fun _ => Int.emod_lt_of_pos _ (by omega), fun _ => by omega, hp4⟩
/-! ### what a row of cranes must be -/
theorem in_eqC (a b c : Int) : impl_in.f a b c = some (decide (b ≤ a ∧ a ≤ c)) := in_some a b c
theorem own_sameC (l : List S34) (h : l.length ≤ 1048576) : impl_Crane.f l = some l := by
  unfold impl_Crane.f
  rw [if_pos (by omega), if_pos (by omega), Option.bind_some, if_pos (by simp; omega)]; rfl
/-- A crane is on its rail. -/
def Rail (l : List S34) (j : Int) : Prop := (0 ≤ (rd_T34 l j).f1 ∧ (rd_T34 l j).f1 ≤ (rd_T34 l j).f0) ∧ (rd_T34 l j).f0 ≤ (rd_T34 l j).f2 ∧ (rd_T34 l j).f2 ≤ 1000
/-- .. and far enough from the one before it. -/
def Fine (l : List S34) (gap j : Int) : Prop := Rail l j ∧ (0 < j → (rd_T34 l (j - 1)).f0 + gap ≤ (rd_T34 l j).f0)
def Ends (l : List S34) (gap : Int) : Prop := (1 ≤ (l.length : Int) ∧ (l.length : Int) ≤ 8) ∧ 1 ≤ gap ∧ gap ≤ 20
def Valid (l : List S34) (gap : Int) : Prop := Ends l gap ∧ ∀ j : Int, 0 ≤ j → j < l.length → Fine l gap j
theorem okI_good (l : List S34) (gap : Int) (he : Ends l gap) (d : Nat) : ∀ (i : Int), 0 ≤ i → i ≤ l.length → (l.length : Int) - i = d → (0 < i → 0 ≤ (rd_T34 l (i - 1)).f0 ∧ (rd_T34 l (i - 1)).f0 ≤ 1000) →
    ∃ b : Bool, (b = true ↔ ∀ j : Int, i ≤ j → j < l.length → Fine l gap j) ∧ ∀ k, d < k → impl_CranesOk.l0 k l gap l (l.length : Int) i = some b := by
  obtain ⟨hlen, hgap⟩ := he
  induction d with
  | zero =>
    intro i h0 h1 hd hp
    refine ⟨true, ⟨fun _ j h2 h3 => by omega, fun _ => rfl⟩, fun k hk => ?_⟩
    obtain ⟨k, rfl⟩ := pos_round (show 0 < k by omega)
    simp only [impl_CranesOk.l0]
    rw [if_neg (by omega)]
  | succ d ih =>
    intro i h0 h1 hd hp
    have hlt : i < (l.length : Int) := by omega
    have hw : wrap64 (i + 1) = i + 1 := w64 (by omega) (by omega)
    by_cases hc : Rail l i
    · have hc1 := hc.1
      have hc2 := hc.2
      obtain ⟨b, hbi, hb⟩ := ih (i + 1) (by omega) (by omega) (by omega) (fun _ => by rw [show i + 1 - 1 = i by omega]; omega)
      by_cases hg : 0 < i ∧ (rd_T34 l i).f0 < (rd_T34 l (i - 1)).f0 + gap
      · refine ⟨false, ⟨(fun h => by cases h), fun h => ?_⟩, fun k hk => ?_⟩
        · have := (h i (by omega) hlt).2 hg.1
          omega
        · obtain ⟨k, rfl⟩ := pos_round (show 0 < k by omega)
          have := hp hg.1
          simp only [impl_CranesOk.l0]
          rw [if_pos hlt, if_pos h0, if_pos hlt, in_eqC, in_eqC, in_eqC, decide_eq_true (show 0 ≤ (rd_T34 l i).f1 ∧ (rd_T34 l i).f1 ≤ 1000 by omega), decide_eq_true (show 0 ≤ (rd_T34 l i).f2 ∧ (rd_T34 l i).f2 ≤ 1000 by omega), decide_eq_true (show (rd_T34 l i).f1 ≤ (rd_T34 l i).f0 ∧ (rd_T34 l i).f0 ≤ (rd_T34 l i).f2 by omega)]
          simp only [Option.bind_some, if_true]
          rw [if_pos hg.1, w64 (x := i - 1) (by omega) (by omega), if_pos (show 0 ≤ i - 1 by omega), if_pos (show i - 1 < (l.length : Int) by omega), w64 (x := (rd_T34 l (i - 1)).f0 + gap) (by omega) (by omega), if_pos hg.2]
      · refine ⟨b, hbi.trans ⟨fun h j h2 h3 => ?_, fun h j h2 h3 => h j (by omega) h3⟩, fun k hk => ?_⟩
        · by_cases e : j = i
          · subst e
            exact ⟨hc, fun h4 => by
              by_cases h5 : (rd_T34 l j).f0 < (rd_T34 l (j - 1)).f0 + gap
              · exact absurd ⟨h4, h5⟩ hg
              · omega⟩
          · exact h j (by omega) h3
        · obtain ⟨k, rfl⟩ := pos_round (show 0 < k by omega)
          have hi := hb k (by omega)
          simp only [impl_CranesOk.l0]
          rw [if_pos hlt, if_pos h0, if_pos hlt, in_eqC, in_eqC, in_eqC, decide_eq_true (show 0 ≤ (rd_T34 l i).f1 ∧ (rd_T34 l i).f1 ≤ 1000 by omega), decide_eq_true (show 0 ≤ (rd_T34 l i).f2 ∧ (rd_T34 l i).f2 ≤ 1000 by omega), decide_eq_true (show (rd_T34 l i).f1 ≤ (rd_T34 l i).f0 ∧ (rd_T34 l i).f0 ≤ (rd_T34 l i).f2 by omega), hw, hi]
          simp only [Option.bind_some, if_true]
          by_cases c0 : i > 0
          · have := hp c0
            rw [if_pos c0, w64 (x := i - 1) (by omega) (by omega), if_pos (show 0 ≤ i - 1 by omega), if_pos (show i - 1 < (l.length : Int) by omega), w64 (x := (rd_T34 l (i - 1)).f0 + gap) (by omega) (by omega), if_neg (fun h => hg ⟨c0, h⟩)]
          · rw [if_neg c0]
    · refine ⟨false, ⟨(fun h => by cases h), fun h => absurd (h i (by omega) hlt).1 hc⟩, fun k hk => ?_⟩
      obtain ⟨k, rfl⟩ := pos_round (show 0 < k by omega)
      unfold Rail at hc
      simp only [impl_CranesOk.l0]
      rw [if_pos hlt, if_pos h0, if_pos hlt, in_eqC, in_eqC, in_eqC]
      simp only [Option.bind_some]
      by_cases c1 : 0 ≤ (rd_T34 l i).f1 ∧ (rd_T34 l i).f1 ≤ 1000
      · rw [if_pos (decide_eq_true c1)]
        by_cases c2 : 0 ≤ (rd_T34 l i).f2 ∧ (rd_T34 l i).f2 ≤ 1000
        · rw [if_pos (decide_eq_true c2), if_neg (by simp; omega)]
        · rw [if_neg (by simpa using c2)]
      · rw [if_neg (by simpa using c1)]
theorem okI (l : List S34) (gap : Int) (h : Ends l gap) : ∃ b : Bool, (b = true ↔ Valid l gap) ∧ ∀ k, l.length + 1 < k → impl_CranesOk.f k l gap = some b := by
  obtain ⟨b, hbi, hb⟩ := okI_good l gap h l.length 0 (by omega) (by omega) (by omega) (fun h => by omega)
  refine ⟨b, hbi.trans ⟨fun g => ⟨h, g⟩, fun g => g.2⟩, fun k hk => ?_⟩
  obtain ⟨k, rfl⟩ := pos_round (show 0 < k by omega)
  have hi := hb k (by omega)
  have hj : impl_CranesOk.j0 (k + 1) l gap false = some b := by
    simp only [impl_CranesOk.j0]
    rw [if_neg (by simp)]
    exact hi
  unfold impl_CranesOk.f
  rw [in_eqC, in_eqC, decide_eq_true h.1, decide_eq_true h.2, Option.bind_some, if_pos rfl, Option.bind_some]
  exact hj
theorem ok_yes {l : List S34} {gap : Int} (h : Valid l gap) (k : Nat) (hk : 10 < k) : impl_CranesOk.f k l gap = some true := by
  obtain ⟨b, hb, e⟩ := okI l gap h.1
  have := h.1.1
  rw [e k (by omega), hb.2 h]
theorem ends_len {l x : List S34} {gap : Int} (h : Ends l gap) (e : x.length = l.length) : Ends x gap := by unfold Ends at *; rw [e]; exact h
/-! ### one move -/
theorem move_ok (l : List S34) (gap c t : Int) (hv : Valid l gap) : ∃ (l' : List S34) (x : Int), (∀ k, 20 < k → impl_DoMove.f k l gap c t = some (l', x)) ∧ Valid l' gap ∧ l'.length = l.length ∧
    ((x = 0 ∧ (0 ≤ c ∧ c < l.length) ∧ ((rd_T34 l c).f1 ≤ t ∧ t ≤ (rd_T34 l c).f2) ∧ l' = l.set c.toNat (⟨t, (rd_T34 l c).f1, (rd_T34 l c).f2⟩ : S34)) ∨ (x ≠ 0 ∧ l' = l)) := by
  have hl := hv.1.1
  by_cases hc : 0 ≤ c ∧ c < (l.length : Int)
  · by_cases ht : (rd_T34 l c).f1 ≤ t ∧ t ≤ (rd_T34 l c).f2
    · obtain ⟨b, hb, eb⟩ := okI (l.set c.toNat (⟨t, (rd_T34 l c).f1, (rd_T34 l c).f2⟩ : S34)) gap (ends_len hv.1 (by simp))
      have go : ∀ k, 20 < k → impl_DoMove.f k l gap c t = some (if b = true then (l.set c.toNat (⟨t, (rd_T34 l c).f1, (rd_T34 l c).f2⟩ : S34), 0) else (l, 3)) := fun k hk => by
        obtain ⟨k, rfl⟩ := pos_round (show 0 < k by omega)
        unfold impl_DoMove.f
        rw [own_sameC l (by omega), Option.bind_some, ok_yes hv _ (by omega), Option.bind_some, if_pos rfl, w64 (x := (l.length : Int) - 1) (by omega) (by omega), in_eqC, decide_eq_true (by omega), Option.bind_some]
        simp only [impl_DoMove.j0, Bool.not_true, Bool.false_eq_true, if_false]
        rw [if_pos hc.1, if_pos hc.2, in_eqC, decide_eq_true ht, Option.bind_some, if_pos rfl, Option.bind_some, eb k (by simp; omega), Option.bind_some]
        cases b with
        | true => rfl
        | false => rw [if_neg (by decide), own_sameC l (by omega), Option.bind_some, if_neg (by decide)]
      cases b with
      | true => exact ⟨_, _, go, hb.1 rfl, by simp, .inl ⟨rfl, hc, ht, rfl⟩⟩
      | false => exact ⟨_, _, go, hv, rfl, .inr ⟨by decide, rfl⟩⟩
    · refine ⟨l, 2, fun k hk => ?_, hv, rfl, .inr ⟨by decide, rfl⟩⟩
      obtain ⟨k, rfl⟩ := pos_round (show 0 < k by omega)
      unfold impl_DoMove.f
      rw [own_sameC l (by omega), Option.bind_some, ok_yes hv _ (by omega), Option.bind_some, if_pos rfl, w64 (x := (l.length : Int) - 1) (by omega) (by omega), in_eqC, decide_eq_true (by omega), Option.bind_some]
      simp only [impl_DoMove.j0, Bool.not_true, Bool.false_eq_true, if_false]
      rw [if_pos hc.1, if_pos hc.2, in_eqC, decide_eq_false ht, Option.bind_some, if_neg (by decide)]
  · refine ⟨l, 1, fun k hk => ?_, hv, rfl, .inr ⟨by decide, rfl⟩⟩
    obtain ⟨k, rfl⟩ := pos_round (show 0 < k by omega)
    unfold impl_DoMove.f
    rw [own_sameC l (by omega), Option.bind_some, ok_yes hv _ (by omega), Option.bind_some, if_pos rfl, w64 (x := (l.length : Int) - 1) (by omega) (by omega), in_eqC, decide_eq_false (by omega), Option.bind_some]
    simp only [impl_DoMove.j0, Bool.not_false, if_true]
/-! ### a push -/
theorem cmp_eq (a b : Int) : cmp_Compare_int.f a b = some (if a < b then -1 else if a > b then 1 else 0) := by
  unfold cmp_Compare_int.f cmp_isNaN_int.f
  rw [Option.bind_some, Option.bind_some, show (a != a) = false by simp, show (b != b) = false by simp, if_neg (by simp), if_neg (by simp)]
  split
  · rfl
  · split <;> rfl
theorem size_eq (a : Int) (h0 : -1000000 ≤ a) (h1 : a ≤ 1000000) : impl_size.f a = some (if a < 0 then -a else a) := by
  unfold impl_size.f
  split
  · rw [w64 (by omega) (by omega)]
  · rfl
/-- The rails are the old ones. -/
def Rails (l x : List S34) : Prop := x.length = l.length ∧ ∀ j : Int, 0 ≤ j → j < l.length → (rd_T34 x j).f1 = (rd_T34 l j).f1 ∧ (rd_T34 x j).f2 = (rd_T34 l j).f2
theorem rails_set {l x : List S34} (h : Rails l x) {i v : Int} (h0 : 0 ≤ i) (h1 : i < l.length) : Rails l (x.set i.toNat (⟨v, (rd_T34 x i).f1, (rd_T34 x i).f2⟩ : S34)) := by
  obtain ⟨e, hr⟩ := h
  refine ⟨by simp [e], fun j h2 h3 => ?_⟩
  by_cases ej : j = i
  · subst ej
    rw [rd34_set_eq h2 (by omega)]
    exact hr j h2 h3
  · rw [rd34_set_ne h0 h2 (Ne.symm ej)]
    exact hr j h2 h3
/-- What a push ends in. -/
def Pushed (l : List S34) (gap : Int) (r : List S34 × Bool) : Prop := Valid r.1 gap ∧ r.1.length = l.length
theorem mk_valid {l x : List S34} {gap : Int} (hv : Valid l gap) (hx : Rails l x) (h : ∀ j : Int, 0 ≤ j → j < l.length → Rail x j ∧ (0 < j → (rd_T34 x (j - 1)).f0 + gap ≤ (rd_T34 x j).f0)) : Valid x gap :=
  ⟨ends_len hv.1 hx.1, fun j h0 h1 => h j h0 (by have := hx.1; omega)⟩
theorem up_go (l : List S34) (gap c t : Int) (hv : Valid l gap) (d : Nat) : ∀ (x : List S34) (tg i : Int), Rails l x → c < i → 1 ≤ i → i ≤ l.length → (l.length : Int) - i = d → (∀ j : Int, i ≤ j → j < l.length → rd_T34 x j = rd_T34 l j) → (∀ j : Int, 0 ≤ j → j < i → Fine x gap j) → tg = (rd_T34 x (i - 1)).f0 + gap →
    ∃ r : List S34 × Bool, Pushed l gap r ∧ ∀ k, 2 * d + 2 < k → impl_PushMove.l0 k gap l x 1 tg i c t = some r := by
  have hl := hv.1.1
  have hg := hv.1.2
  induction d with
  | zero =>
    intro x tg i hx hci hi0 h1 hd ha hf ht
    refine ⟨(x, true), ⟨mk_valid hv hx (fun j h0 h2 => hf j h0 (by omega)), hx.1⟩, fun k hk => ?_⟩
    obtain ⟨k, rfl⟩ := pos_round (show 0 < k by omega)
    simp only [impl_PushMove.l0]
    rw [hx.1, w64 (x := (l.length : Int) - 1) (by omega) (by omega), in_eqC, decide_eq_false (by omega), Option.bind_some, if_neg (by decide)]
  | succ d ih =>
    intro x tg i hx hci hi0 h1 hd ha hf ht
    have hxl := hx.1
    have hf1 := (hf (i - 1) (by omega) (by omega)).1
    have hli := hv.2 i (by omega) (by omega)
    have hai := ha i (by omega) (by omega)
    have b1 : 0 ≤ (rd_T34 x (i - 1)).f0 ∧ (rd_T34 x (i - 1)).f0 ≤ 1000 := by unfold Rail at hf1; omega
    have b2 : 0 ≤ (rd_T34 x i).f0 ∧ (rd_T34 x i).f0 ≤ 1000 := by have := hli.1; unfold Rail at this; rw [hai]; omega
    by_cases hb : (rd_T34 x (i - 1)).f0 + gap ≤ (rd_T34 x i).f0
    · -- far enough already
      refine ⟨(x, true), ⟨mk_valid hv hx (fun j h0 h2 => ?_), hxl⟩, fun k hk => ?_⟩
      · by_cases c1 : j < i
        · exact hf j h0 c1
        · have hvj := hv.2 j h0 h2
          by_cases c2 : j = i
          · subst c2
            exact ⟨by have := hvj.1; unfold Rail at *; rw [hai]; exact this, fun _ => hb⟩
          · refine ⟨by have := hvj.1; unfold Rail at *; rw [ha j (by omega) h2]; exact this, fun h3 => ?_⟩
            rw [ha j (by omega) h2, ha (j - 1) (by omega) (by omega)]
            exact hvj.2 h3
      · obtain ⟨k, rfl⟩ : ∃ m, k = m + 2 := ⟨k - 2, by omega⟩
        simp only [impl_PushMove.l0]
        rw [hxl, w64 (x := (l.length : Int) - 1) (by omega) (by omega), in_eqC, decide_eq_true (by omega), Option.bind_some, if_pos rfl, if_neg (by omega), if_pos (by omega), if_pos (by omega), w64 (x := i - 1) (by omega) (by omega), if_pos (by omega), if_pos (by omega), w64 (x := (rd_T34 x i).f0 - (rd_T34 x (i - 1)).f0) (by omega) (by omega), size_eq _ (by omega) (by omega), Option.bind_some, if_neg (show ¬ (rd_T34 x i).f0 - (rd_T34 x (i - 1)).f0 < 0 by omega), if_pos (by omega), cmp_eq, Option.bind_some, if_neg (show ¬ (rd_T34 x i).f0 < (rd_T34 x (i - 1)).f0 by omega), if_pos (show (rd_T34 x i).f0 > (rd_T34 x (i - 1)).f0 by omega)]
        simp only [impl_PushMove.j2]
        rw [if_pos (by decide)]
    · -- it is pushed, too
      have enter : ∀ k, impl_PushMove.l0 (k + 2) gap l x 1 tg i c t = impl_PushMove.j2 (k + 1) gap l x 1 tg i false c t := fun k => by
        simp only [impl_PushMove.l0]
        rw [hxl, w64 (x := (l.length : Int) - 1) (by omega) (by omega), in_eqC, decide_eq_true (by omega), Option.bind_some, if_pos rfl, if_neg (by omega), if_pos (by omega), if_pos (by omega), w64 (x := i - 1) (by omega) (by omega), if_pos (by omega), if_pos (by omega), w64 (x := (rd_T34 x i).f0 - (rd_T34 x (i - 1)).f0) (by omega) (by omega), size_eq _ (by omega) (by omega), Option.bind_some]
        by_cases q : (if (rd_T34 x i).f0 - (rd_T34 x (i - 1)).f0 < 0 then -((rd_T34 x i).f0 - (rd_T34 x (i - 1)).f0) else (rd_T34 x i).f0 - (rd_T34 x (i - 1)).f0) ≥ gap
        · rw [if_pos q, cmp_eq, Option.bind_some]
          have : (rd_T34 x i).f0 < (rd_T34 x (i - 1)).f0 := by
            by_cases q2 : (rd_T34 x i).f0 - (rd_T34 x (i - 1)).f0 < 0
            · omega
            · rw [if_neg q2] at q; omega
          rw [if_pos this]; rfl
        · rw [if_neg q]
      by_cases hr : (rd_T34 x i).f1 ≤ tg ∧ tg ≤ (rd_T34 x i).f2
      · have hset := rails_set (v := tg) hx (i := i) (by omega) (by omega)
        have heq : rd_T34 (x.set i.toNat (⟨tg, (rd_T34 x i).f1, (rd_T34 x i).f2⟩ : S34)) i = ⟨tg, (rd_T34 x i).f1, (rd_T34 x i).f2⟩ := rd34_set_eq (by omega) (by omega)
        have hne : ∀ j : Int, 0 ≤ j → j ≠ i → rd_T34 (x.set i.toNat (⟨tg, (rd_T34 x i).f1, (rd_T34 x i).f2⟩ : S34)) j = rd_T34 x j := fun j h0 hj => rd34_set_ne (by omega) h0 (Ne.symm hj)
        obtain ⟨r, hp, hk⟩ := ih _ (tg + gap) (i + 1) hset (by omega) (by omega) (by omega) (by omega) (fun j h2 h3 => by rw [hne j (by omega) (by omega)]; exact ha j (by omega) h3) (fun j h0 h2 => by
          by_cases c1 : j = i
          · subst c1
            refine ⟨?_, fun _ => ?_⟩
            · have := hli.1
              unfold Rail at *
              rw [heq]
              rw [← hai] at this
              exact ⟨⟨this.1.1, hr.1⟩, hr.2, this.2.2⟩
            · rw [heq, hne (j - 1) (by omega) (by omega)]
              show (rd_T34 x (j - 1)).f0 + gap ≤ tg
              omega
          · have hfj := hf j h0 (by omega)
            refine ⟨?_, fun h3 => ?_⟩
            · have := hfj.1
              unfold Rail at *
              rw [hne j h0 c1]; exact this
            · rw [hne j h0 c1, hne (j - 1) (by omega) (by omega)]; exact hfj.2 h3) (by rw [show i + 1 - 1 = i by omega, heq])
        refine ⟨r, hp, fun k hk2 => ?_⟩
        obtain ⟨k, rfl⟩ : ∃ m, k = m + 2 := ⟨k - 2, by omega⟩
        rw [enter]
        simp only [impl_PushMove.j2]
        rw [if_neg (by decide), if_pos (by omega), if_pos (by omega), in_eqC, decide_eq_true hr, Option.bind_some, if_pos rfl, Option.bind_some, if_neg (by decide), w64 (x := 1 * gap) (by omega) (by omega), w64 (x := tg + 1 * gap) (by omega) (by omega), w64 (x := i + 1) (by omega) (by omega), show tg + 1 * gap = tg + gap by omega]
        exact hk k (by omega)
      · refine ⟨(l, false), ⟨hv, rfl⟩, fun k hk2 => ?_⟩
        obtain ⟨k, rfl⟩ : ∃ m, k = m + 2 := ⟨k - 2, by omega⟩
        rw [enter]
        simp only [impl_PushMove.j2]
        rw [if_neg (by decide), if_pos (by omega), if_pos (by omega), in_eqC, decide_eq_false hr, Option.bind_some, if_neg (by decide)]
theorem down_go (l : List S34) (gap c t : Int) (hv : Valid l gap) (hc : c < l.length) (d : Nat) : ∀ (x : List S34) (tg i : Int), Rails l x → i < c → -1 ≤ i → i + 1 = d → (∀ j : Int, 0 ≤ j → j ≤ i → rd_T34 x j = rd_T34 l j) → (∀ j : Int, i < j → j < l.length → Rail x j ∧ (i + 1 < j → (rd_T34 x (j - 1)).f0 + gap ≤ (rd_T34 x j).f0)) → tg = (rd_T34 x (i + 1)).f0 - gap →
    ∃ r : List S34 × Bool, Pushed l gap r ∧ ∀ k, 2 * d + 2 < k → impl_PushMove.l0 k gap l x (-1) tg i c t = some r := by
  have hl := hv.1.1
  have hg := hv.1.2
  induction d with
  | zero =>
    intro x tg i hx hci hi0 hd ha hf ht
    refine ⟨(x, true), ⟨mk_valid hv hx (fun j h0 h2 => ⟨(hf j (by omega) h2).1, fun h3 => (hf j (by omega) h2).2 (by omega)⟩), hx.1⟩, fun k hk => ?_⟩
    obtain ⟨k, rfl⟩ := pos_round (show 0 < k by omega)
    simp only [impl_PushMove.l0]
    rw [hx.1, w64 (x := (l.length : Int) - 1) (by omega) (by omega), in_eqC, decide_eq_false (by omega), Option.bind_some, if_neg (by decide)]
  | succ d ih =>
    intro x tg i hx hci hi0 hd ha hf ht
    have hxl := hx.1
    have hf1 := (hf (i + 1) (by omega) (by omega)).1
    have hli := hv.2 i (by omega) (by omega)
    have hai := ha i (by omega) (by omega)
    have b1 : 0 ≤ (rd_T34 x (i + 1)).f0 ∧ (rd_T34 x (i + 1)).f0 ≤ 1000 := by unfold Rail at hf1; omega
    have b2 : 0 ≤ (rd_T34 x i).f0 ∧ (rd_T34 x i).f0 ≤ 1000 := by have := hli.1; unfold Rail at this; rw [hai]; omega
    by_cases hb : (rd_T34 x i).f0 + gap ≤ (rd_T34 x (i + 1)).f0
    · refine ⟨(x, true), ⟨mk_valid hv hx (fun j h0 h2 => ?_), hxl⟩, fun k hk => ?_⟩
      · by_cases c1 : i < j
        · have hfj := hf j c1 h2
          refine ⟨hfj.1, fun h3 => ?_⟩
          by_cases c2 : j = i + 1
          · subst c2; rw [show i + 1 - 1 = i by omega]; exact hb
          · exact hfj.2 (by omega)
        · have hvj := hv.2 j h0 h2
          refine ⟨by have := hvj.1; unfold Rail at *; rw [ha j h0 (by omega)]; exact this, fun h3 => ?_⟩
          rw [ha j h0 (by omega), ha (j - 1) (by omega) (by omega)]
          exact hvj.2 h3
      · obtain ⟨k, rfl⟩ : ∃ m, k = m + 2 := ⟨k - 2, by omega⟩
        simp only [impl_PushMove.l0]
        rw [hxl, w64 (x := (l.length : Int) - 1) (by omega) (by omega), in_eqC, decide_eq_true (by omega), Option.bind_some, if_pos rfl, if_neg (by omega), if_pos (by omega), if_pos (by omega), show i - (-1) = i + 1 by omega, w64 (x := i + 1) (by omega) (by omega), if_pos (by omega), if_pos (by omega), w64 (x := (rd_T34 x i).f0 - (rd_T34 x (i + 1)).f0) (by omega) (by omega), size_eq _ (by omega) (by omega), Option.bind_some, if_pos (show (rd_T34 x i).f0 - (rd_T34 x (i + 1)).f0 < 0 by omega), if_pos (by omega), cmp_eq, Option.bind_some, if_pos (show (rd_T34 x i).f0 < (rd_T34 x (i + 1)).f0 by omega)]
        simp only [impl_PushMove.j2]
        rw [if_pos (by decide)]
    · have enter : ∀ k, impl_PushMove.l0 (k + 2) gap l x (-1) tg i c t = impl_PushMove.j2 (k + 1) gap l x (-1) tg i false c t := fun k => by
        simp only [impl_PushMove.l0]
        rw [hxl, w64 (x := (l.length : Int) - 1) (by omega) (by omega), in_eqC, decide_eq_true (by omega), Option.bind_some, if_pos rfl, if_neg (by omega), if_pos (by omega), if_pos (by omega), show i - (-1) = i + 1 by omega, w64 (x := i + 1) (by omega) (by omega), if_pos (by omega), if_pos (by omega), w64 (x := (rd_T34 x i).f0 - (rd_T34 x (i + 1)).f0) (by omega) (by omega), size_eq _ (by omega) (by omega), Option.bind_some]
        by_cases q : (if (rd_T34 x i).f0 - (rd_T34 x (i + 1)).f0 < 0 then -((rd_T34 x i).f0 - (rd_T34 x (i + 1)).f0) else (rd_T34 x i).f0 - (rd_T34 x (i + 1)).f0) ≥ gap
        · rw [if_pos q, cmp_eq, Option.bind_some]
          have q3 : ¬ (rd_T34 x i).f0 < (rd_T34 x (i + 1)).f0 := by
            intro q2
            rw [if_pos (show (rd_T34 x i).f0 - (rd_T34 x (i + 1)).f0 < 0 by omega)] at q; omega
          rw [if_neg q3]
          by_cases q4 : (rd_T34 x i).f0 > (rd_T34 x (i + 1)).f0
          · rw [if_pos q4]; rfl
          · rw [if_neg q4]; rfl
        · rw [if_neg q]
      by_cases hr : (rd_T34 x i).f1 ≤ tg ∧ tg ≤ (rd_T34 x i).f2
      · have hset := rails_set (v := tg) hx (i := i) (by omega) (by omega)
        have heq : rd_T34 (x.set i.toNat (⟨tg, (rd_T34 x i).f1, (rd_T34 x i).f2⟩ : S34)) i = ⟨tg, (rd_T34 x i).f1, (rd_T34 x i).f2⟩ := rd34_set_eq (by omega) (by omega)
        have hne : ∀ j : Int, 0 ≤ j → j ≠ i → rd_T34 (x.set i.toNat (⟨tg, (rd_T34 x i).f1, (rd_T34 x i).f2⟩ : S34)) j = rd_T34 x j := fun j h0 hj => rd34_set_ne (by omega) h0 (Ne.symm hj)
        obtain ⟨r, hp, hk⟩ := ih _ (tg - gap) (i - 1) hset (by omega) (by omega) (by omega) (fun j h0 h2 => by rw [hne j h0 (by omega)]; exact ha j h0 (by omega)) (fun j h2 h3 => by
          by_cases c1 : j = i
          · subst c1
            refine ⟨?_, fun h4 => by omega⟩
            have := hli.1
            unfold Rail at *
            rw [heq]
            rw [← hai] at this
            exact ⟨⟨this.1.1, hr.1⟩, hr.2, this.2.2⟩
          · have hfj := hf j (by omega) h3
            refine ⟨?_, fun h4 => ?_⟩
            · have := hfj.1
              unfold Rail at *
              rw [hne j (by omega) c1]; exact this
            · rw [hne j (by omega) c1]
              by_cases c2 : j = i + 1
              · subst c2
                rw [show i + 1 - 1 = i by omega, heq]
                show tg + gap ≤ _
                omega
              · rw [hne (j - 1) (by omega) (by omega)]; exact hfj.2 (by omega)) (by rw [show i - 1 + 1 = i by omega, heq])
        refine ⟨r, hp, fun k hk2 => ?_⟩
        obtain ⟨k, rfl⟩ : ∃ m, k = m + 2 := ⟨k - 2, by omega⟩
        rw [enter]
        simp only [impl_PushMove.j2]
        rw [if_neg (by decide), if_pos (by omega), if_pos (by omega), in_eqC, decide_eq_true hr, Option.bind_some, if_pos rfl, Option.bind_some, if_neg (by decide), w64 (x := -1 * gap) (by omega) (by omega), w64 (x := tg + -1 * gap) (by omega) (by omega), w64 (x := i + -1) (by omega) (by omega), show tg + -1 * gap = tg - gap by omega, show i + -1 = i - 1 by omega]
        exact hk k (by omega)
      · refine ⟨(l, false), ⟨hv, rfl⟩, fun k hk2 => ?_⟩
        obtain ⟨k, rfl⟩ : ∃ m, k = m + 2 := ⟨k - 2, by omega⟩
        rw [enter]
        simp only [impl_PushMove.j2]
        rw [if_neg (by decide), if_pos (by omega), if_pos (by omega), in_eqC, decide_eq_false hr, Option.bind_some, if_neg (by decide)]
/-- What a push comes to; and where the move alone would do, it is the move. -/
theorem push_ok (l : List S34) (gap c t : Int) (hv : Valid l gap) : ∃ r : List S34 × Bool, Pushed l gap r ∧ (∀ k, 60 < k → impl_PushMove.f k l gap c t = some r) ∧
    ((0 ≤ c ∧ c < l.length) → ((rd_T34 l c).f1 ≤ t ∧ t ≤ (rd_T34 l c).f2) → Valid (l.set c.toNat (⟨t, (rd_T34 l c).f1, (rd_T34 l c).f2⟩ : S34)) gap → r = (l.set c.toNat (⟨t, (rd_T34 l c).f1, (rd_T34 l c).f2⟩ : S34), true)) := by
  have hl := hv.1.1
  have hg := hv.1.2
  by_cases hc : 0 ≤ c ∧ c < (l.length : Int)
  rotate_left
  · refine ⟨(l, false), ⟨hv, rfl⟩, fun k hk => ?_, fun h => absurd h hc⟩
    obtain ⟨k, rfl⟩ := pos_round (show 0 < k by omega)
    unfold impl_PushMove.f
    rw [own_sameC l (by omega), Option.bind_some, ok_yes hv _ (by omega), Option.bind_some, if_pos rfl, w64 (x := (l.length : Int) - 1) (by omega) (by omega), in_eqC, decide_eq_false (by omega), Option.bind_some]
    simp only [impl_PushMove.j0, Bool.not_false, if_true]
  have hlc := hv.2 c hc.1 hc.2
  have hrl := hlc.1
  have bc : 0 ≤ (rd_T34 l c).f0 ∧ (rd_T34 l c).f0 ≤ 1000 := by unfold Rail at hrl; omega
  -- to the first crane
  have enter : ∀ k sd, 30 < k → sd = (if t < (rd_T34 l c).f0 then -1 else if t > (rd_T34 l c).f0 then 1 else (0 : Int)) → impl_PushMove.f (k + 3) l gap c t = impl_PushMove.j2 (k + 1) gap l l sd t c false c t := fun k sd hk hsd => by
    unfold impl_PushMove.f
    rw [own_sameC l (by omega), Option.bind_some, ok_yes hv _ (by omega), Option.bind_some, if_pos rfl, w64 (x := (l.length : Int) - 1) (by omega) (by omega), in_eqC, decide_eq_true (by omega), Option.bind_some]
    simp only [impl_PushMove.j0, Bool.not_true, Bool.false_eq_true, if_false]
    rw [own_sameC l (by omega), Option.bind_some, if_pos hc.1, if_pos hc.2, cmp_eq, Option.bind_some, ← hsd]
    simp only [impl_PushMove.l0]
    rw [w64 (x := (l.length : Int) - 1) (by omega) (by omega), in_eqC, decide_eq_true (by omega), Option.bind_some, if_pos rfl, if_pos trivial]
  by_cases hr : (rd_T34 l c).f1 ≤ t ∧ t ≤ (rd_T34 l c).f2
  rotate_left
  · refine ⟨(l, false), ⟨hv, rfl⟩, fun k hk => ?_, fun _ h => absurd h hr⟩
    obtain ⟨k, rfl⟩ : ∃ m, k = m + 3 := ⟨k - 3, by omega⟩
    rw [enter k _ (by omega) rfl]
    simp only [impl_PushMove.j2]
    rw [if_neg (by decide), if_pos hc.1, if_pos hc.2, in_eqC, decide_eq_false hr, Option.bind_some, if_neg (by decide)]
  have b3 : 0 ≤ t ∧ t ≤ 1000 := by unfold Rail at hrl; omega
  have hrl0 : Rails l l := ⟨rfl, fun _ _ _ => ⟨rfl, rfl⟩⟩
  have hset := rails_set (v := t) hrl0 (i := c) hc.1 hc.2
  have heq : rd_T34 (l.set c.toNat (⟨t, (rd_T34 l c).f1, (rd_T34 l c).f2⟩ : S34)) c = ⟨t, (rd_T34 l c).f1, (rd_T34 l c).f2⟩ := rd34_set_eq hc.1 hc.2
  have hne : ∀ j : Int, 0 ≤ j → j ≠ c → rd_T34 (l.set c.toNat (⟨t, (rd_T34 l c).f1, (rd_T34 l c).f2⟩ : S34)) j = rd_T34 l j := fun j h0 hj => rd34_set_ne hc.1 h0 (Ne.symm hj)
  have hrc : Rail (l.set c.toNat (⟨t, (rd_T34 l c).f1, (rd_T34 l c).f2⟩ : S34)) c := by
    unfold Rail at *
    rw [heq]
    exact ⟨⟨hrl.1.1, hr.1⟩, hr.2, hrl.2.2⟩
  have hro : ∀ j : Int, 0 ≤ j → j < l.length → j ≠ c → Rail (l.set c.toNat (⟨t, (rd_T34 l c).f1, (rd_T34 l c).f2⟩ : S34)) j := fun j h0 h1 h2 => by
    have := (hv.2 j h0 h1).1
    unfold Rail at *
    rw [hne j h0 h2]; exact this
  have hlen : (l.set c.toNat (⟨t, (rd_T34 l c).f1, (rd_T34 l c).f2⟩ : S34)).length = l.length := by simp
  have step : ∀ k sd, sd = (if t < (rd_T34 l c).f0 then -1 else if t > (rd_T34 l c).f0 then 1 else (0 : Int)) → impl_PushMove.j2 (k + 1) gap l l sd t c false c t = if sd = 0 then some (l.set c.toNat (⟨t, (rd_T34 l c).f1, (rd_T34 l c).f2⟩ : S34), true) else impl_PushMove.l0 k gap l (l.set c.toNat (⟨t, (rd_T34 l c).f1, (rd_T34 l c).f2⟩ : S34)) sd (t + sd * gap) (c + sd) c t := fun k sd hsd => by
    have hs : -1 ≤ sd ∧ sd ≤ 1 := by rw [hsd]; split <;> (first | omega | (split <;> omega))
    have hm : -20 ≤ sd * gap ∧ sd * gap ≤ 20 := by
      have : sd = -1 ∨ sd = 0 ∨ sd = 1 := by omega
      rcases this with rfl | rfl | rfl <;> omega
    simp only [impl_PushMove.j2]
    rw [if_neg (by decide), if_pos hc.1, if_pos hc.2, in_eqC, decide_eq_true hr, Option.bind_some, if_pos rfl, Option.bind_some, w64 (x := sd * gap) (by omega) (by omega), w64 (x := t + sd * gap) (by omega) (by omega), w64 (x := c + sd) (by omega) (by omega)]
  by_cases h1 : t > (rd_T34 l c).f0
  · -- up
    have hsd : (1 : Int) = (if t < (rd_T34 l c).f0 then -1 else if t > (rd_T34 l c).f0 then 1 else (0 : Int)) := by rw [if_neg (by omega), if_pos h1]
    obtain ⟨r, hp, hk⟩ := up_go l gap c t hv (l.length - (c.toNat + 1)) _ (t + gap) (c + 1) hset (by omega) (by omega) (by omega) (by omega) (fun j h2 h3 => hne j (by omega) (by omega)) (fun j h0 h2 => by
      by_cases e : j = c
      · subst e
        refine ⟨hrc, fun h3 => ?_⟩
        rw [heq, hne (j - 1) (by omega) (by omega)]
        have := hlc.2 h3
        show _ ≤ t
        omega
      · refine ⟨hro j h0 (by omega) e, fun h3 => ?_⟩
        rw [hne j h0 e, hne (j - 1) (by omega) (by omega)]
        exact (hv.2 j h0 (by omega)).2 h3) (by rw [show c + 1 - 1 = c by omega, heq])
    have hf : ∀ k, 60 < k → impl_PushMove.f k l gap c t = some r := fun k hk2 => by
      obtain ⟨k, rfl⟩ : ∃ m, k = m + 3 := ⟨k - 3, by omega⟩
      rw [enter k 1 (by omega) hsd, step k 1 hsd, if_neg (by decide), show t + 1 * gap = t + gap by omega]
      exact hk k (by omega)
    refine ⟨r, hp, hf, fun _ _ hv' => ?_⟩
    -- where the move would do: the next one is far enough
    have hend : impl_PushMove.l0 100 gap l (l.set c.toNat (⟨t, (rd_T34 l c).f1, (rd_T34 l c).f2⟩ : S34)) 1 (t + gap) (c + 1) c t = some (l.set c.toNat (⟨t, (rd_T34 l c).f1, (rd_T34 l c).f2⟩ : S34), true) := by
      by_cases hcl : c + 1 < (l.length : Int)
      · have hn := (hv'.2 (c + 1) (by omega) (by rw [hlen]; omega)).2 (by omega)
        rw [show c + 1 - 1 = c by omega, heq] at hn
        have hn : t + gap ≤ (rd_T34 (l.set c.toNat (⟨t, (rd_T34 l c).f1, (rd_T34 l c).f2⟩ : S34)) (c + 1)).f0 := hn
        have hb := (hv'.2 (c + 1) (by omega) (by rw [hlen]; omega)).1
        unfold Rail at hb
        rw [show (100 : Nat) = 98 + 2 from rfl]
        simp only [impl_PushMove.l0]
        rw [hlen, w64 (x := (l.length : Int) - 1) (by omega) (by omega), in_eqC, decide_eq_true (by omega), Option.bind_some, if_pos rfl, if_neg (by omega), if_pos (by omega), if_pos (by omega), show c + 1 - 1 = c by omega, w64 (x := c) (by omega) (by omega), if_pos (by omega), if_pos (by omega), heq]
        dsimp only
        rw [w64 (x := (rd_T34 (l.set c.toNat (⟨t, (rd_T34 l c).f1, (rd_T34 l c).f2⟩ : S34)) (c + 1)).f0 - t) (by omega) (by omega), size_eq _ (by omega) (by omega), Option.bind_some, if_neg (show ¬ (rd_T34 (l.set c.toNat (⟨t, (rd_T34 l c).f1, (rd_T34 l c).f2⟩ : S34)) (c + 1)).f0 - t < 0 by omega), if_pos (by omega), cmp_eq, Option.bind_some, if_neg (show ¬ (rd_T34 (l.set c.toNat (⟨t, (rd_T34 l c).f1, (rd_T34 l c).f2⟩ : S34)) (c + 1)).f0 < t by omega), if_pos (show (rd_T34 (l.set c.toNat (⟨t, (rd_T34 l c).f1, (rd_T34 l c).f2⟩ : S34)) (c + 1)).f0 > t by omega)]
        simp only [impl_PushMove.j2]
        rw [if_pos (by decide)]
      · rw [show (100 : Nat) = 99 + 1 from rfl]
        simp only [impl_PushMove.l0]
        rw [hlen, w64 (x := (l.length : Int) - 1) (by omega) (by omega), in_eqC, decide_eq_false (by omega), Option.bind_some, if_neg (by decide)]
    have := hk 100 (by omega)
    rw [hend] at this
    exact (Option.some.inj this).symm
  by_cases h2 : t < (rd_T34 l c).f0
  · -- down
    have hsd : (-1 : Int) = (if t < (rd_T34 l c).f0 then -1 else if t > (rd_T34 l c).f0 then 1 else (0 : Int)) := by rw [if_pos h2]
    obtain ⟨r, hp, hk⟩ := down_go l gap c t hv hc.2 c.toNat _ (t - gap) (c - 1) hset (by omega) (by omega) (by omega) (fun j h3 h4 => hne j h3 (by omega)) (fun j h3 h4 => by
      by_cases e : j = c
      · subst e
        exact ⟨hrc, fun h5 => by omega⟩
      · refine ⟨hro j (by omega) h4 e, fun h5 => ?_⟩
        rw [hne j (by omega) e]
        by_cases e2 : j - 1 = c
        · rw [e2, heq]
          have := (hv.2 j (by omega) h4).2 (by omega)
          rw [e2] at this
          show t + gap ≤ _
          omega
        · rw [hne (j - 1) (by omega) e2]
          exact (hv.2 j (by omega) h4).2 (by omega)) (by rw [show c - 1 + 1 = c by omega, heq])
    have hf : ∀ k, 60 < k → impl_PushMove.f k l gap c t = some r := fun k hk2 => by
      obtain ⟨k, rfl⟩ : ∃ m, k = m + 3 := ⟨k - 3, by omega⟩
      rw [enter k (-1) (by omega) hsd, step k (-1) hsd, if_neg (by decide), show t + -1 * gap = t - gap by omega, show c + -1 = c - 1 by omega]
      exact hk k (by omega)
    refine ⟨r, hp, hf, fun _ _ hv' => ?_⟩
    have hend : impl_PushMove.l0 100 gap l (l.set c.toNat (⟨t, (rd_T34 l c).f1, (rd_T34 l c).f2⟩ : S34)) (-1) (t - gap) (c - 1) c t = some (l.set c.toNat (⟨t, (rd_T34 l c).f1, (rd_T34 l c).f2⟩ : S34), true) := by
      by_cases hcl : 0 < c
      · have hn := (hv'.2 c (by omega) (by rw [hlen]; omega)).2 hcl
        rw [heq] at hn
        have hn : (rd_T34 (l.set c.toNat (⟨t, (rd_T34 l c).f1, (rd_T34 l c).f2⟩ : S34)) (c - 1)).f0 + gap ≤ t := hn
        have hb := (hv'.2 (c - 1) (by omega) (by rw [hlen]; omega)).1
        unfold Rail at hb
        rw [show (100 : Nat) = 98 + 2 from rfl]
        simp only [impl_PushMove.l0]
        rw [hlen, w64 (x := (l.length : Int) - 1) (by omega) (by omega), in_eqC, decide_eq_true (by omega), Option.bind_some, if_pos rfl, if_neg (by omega), if_pos (by omega), if_pos (by omega), show c - 1 - (-1) = c by omega, w64 (x := c) (by omega) (by omega), if_pos (by omega), if_pos (by omega), heq]
        dsimp only
        rw [w64 (x := (rd_T34 (l.set c.toNat (⟨t, (rd_T34 l c).f1, (rd_T34 l c).f2⟩ : S34)) (c - 1)).f0 - t) (by omega) (by omega), size_eq _ (by omega) (by omega), Option.bind_some, if_pos (show (rd_T34 (l.set c.toNat (⟨t, (rd_T34 l c).f1, (rd_T34 l c).f2⟩ : S34)) (c - 1)).f0 - t < 0 by omega), if_pos (by omega), cmp_eq, Option.bind_some, if_pos (show (rd_T34 (l.set c.toNat (⟨t, (rd_T34 l c).f1, (rd_T34 l c).f2⟩ : S34)) (c - 1)).f0 < t by omega)]
        simp only [impl_PushMove.j2]
        rw [if_pos (by decide)]
      · rw [show (100 : Nat) = 99 + 1 from rfl]
        simp only [impl_PushMove.l0]
        rw [hlen, w64 (x := (l.length : Int) - 1) (by omega) (by omega), in_eqC, decide_eq_false (by omega), Option.bind_some, if_neg (by decide)]
    have := hk 100 (by omega)
    rw [hend] at this
    exact (Option.some.inj this).symm
  · -- it stands there already
    have hsd : (0 : Int) = (if t < (rd_T34 l c).f0 then -1 else if t > (rd_T34 l c).f0 then 1 else (0 : Int)) := by rw [if_neg h2, if_neg h1]
    have ht : t = (rd_T34 l c).f0 := by omega
    refine ⟨(_, true), ⟨mk_valid hv hset (fun j h0 h3 => ?_), hlen⟩, fun k hk2 => ?_, fun _ _ _ => rfl⟩
    · by_cases e : j = c
      · subst e
        refine ⟨hrc, fun h4 => ?_⟩
        rw [heq, hne (j - 1) (by omega) (by omega)]
        have := hlc.2 h4
        show _ ≤ t
        omega
      · refine ⟨hro j h0 h3 e, fun h4 => ?_⟩
        have := (hv.2 j h0 h3).2 h4
        rw [hne j h0 e]
        by_cases e2 : j - 1 = c
        · rw [e2, heq]; rw [e2] at this; show t + gap ≤ _; omega
        · rw [hne (j - 1) (by omega) e2]; exact this
    · obtain ⟨k, rfl⟩ : ∃ m, k = m + 3 := ⟨k - 3, by omega⟩
      rw [enter k 0 (by omega) hsd, step k 0 hsd, if_pos rfl]
/-! ### the drawn rail -/
theorem cranes_drawn (c : List Int) (hc : c.length ≤ 1048576) (gap : Int) (hg : 1 ≤ gap ∧ gap ≤ 6) (d : Nat) : ∀ (o : List S34) (a p s : Int), o.length + d ≤ 5 → 0 ≤ a → a ≤ 19 + 17 * (o.length : Int) → (∀ j : Int, 0 ≤ j → j < o.length → Fine o gap j) → (0 < o.length → (rd_T34 o ((o.length : Int) - 1)).f0 + gap ≤ a) → InRow c p →
    ∃ (o' : List S34) (p' s' : Int), o'.length = o.length + d ∧ (∀ j : Int, 0 ≤ j → j < o'.length → Fine o' gap j) ∧ InRow c p' ∧ ∀ k, 2 * d < k → spec_l17DrawCranes.l0 k gap o a (d : Int) c p s = some (o', gap, p', s') := by
  induction d with
  | zero =>
    intro o a p s ho ha0 ha1 hf hl hp
    refine ⟨o, p, s, rfl, hf, hp, fun k hk => ?_⟩
    obtain ⟨k, rfl⟩ := pos_round (show 0 < k by omega)
    simp only [spec_l17DrawCranes.l0]
    rw [if_neg (by decide)]
  | succ d ih =>
    intro o a p s ho ha0 ha1 hf hl hp
    obtain ⟨v1, p1, s1, e1, v10, v11, _, hp1⟩ := below_ok c hc hp s 30
    obtain ⟨v2, p2, s2, e2, v20, v21, _, hp2⟩ := below_ok c hc hp1 s1 30
    obtain ⟨v3, p3, s3, e3, v30, v31, _, hp3⟩ := below_ok c hc hp2 s2 12
    have i1 := v11 (by omega)
    have i2 := v21 (by omega)
    have i3 := v31 (by omega)
    -- the new one's low end
    obtain ⟨lo, hlo0, hlo1, hlo⟩ : ∃ lo : Int, 0 ≤ lo ∧ lo ≤ a ∧ ∀ k, spec_l17DrawCranes.l0 (k + 1) gap o a ((d + 1 : Nat) : Int) c p s = spec_l17DrawCranes.j1 k gap o a ((d + 1 : Nat) : Int) c p2 s2 a lo (a + v2) := by
      by_cases h : a - v1 < 0
      · refine ⟨0, by omega, by omega, fun k => ?_⟩
        simp only [spec_l17DrawCranes.l0]
        rw [if_pos (by omega), e1, Option.bind_some]
        dsimp only
        rw [e2, Option.bind_some]
        dsimp only
        rw [w64 (x := a - v1) (by omega) (by omega), if_pos h, w64 (x := a + v2) (by omega) (by omega)]
      · refine ⟨a - v1, by omega, by omega, fun k => ?_⟩
        simp only [spec_l17DrawCranes.l0]
        rw [if_pos (by omega), e1, Option.bind_some]
        dsimp only
        rw [e2, Option.bind_some]
        dsimp only
        rw [w64 (x := a - v1) (by omega) (by omega), if_neg h, w64 (x := a + v2) (by omega) (by omega)]
    have hlast : rd_T34 (o ++ [(⟨a, lo, a + v2⟩ : S34)]) (o.length : Int) = ⟨a, lo, a + v2⟩ := rd34_last
    obtain ⟨o', p', s', h1, h2, h3, h4⟩ := ih (o ++ [(⟨a, lo, a + v2⟩ : S34)]) (a + gap + v3) p3 s3 (by simp; omega) (by omega) (by simp; omega) (fun j h0 h1 => by
      simp at h1
      by_cases e : j = (o.length : Int)
      · subst e
        refine ⟨?_, fun h => ?_⟩
        · unfold Rail
          rw [hlast]
          dsimp only
          omega
        · rw [hlast, rd34_append_left (by omega) (by omega)]
          exact hl (by omega)
      · have := hf j h0 (by omega)
        refine ⟨?_, fun h => ?_⟩
        · have := this.1
          unfold Rail at *
          rw [rd34_append_left h0 (by omega)]; exact this
        · rw [rd34_append_left h0 (by omega), rd34_append_left (by omega) (by omega)]; exact this.2 h) (fun _ => by
      rw [show (((o ++ [(⟨a, lo, a + v2⟩ : S34)]).length : Nat) : Int) - 1 = (o.length : Int) by simp, hlast]
      show a + gap ≤ _
      omega) hp3
    refine ⟨o', p', s', by rw [h1]; simp; omega, h2, h3, fun k hk => ?_⟩
    obtain ⟨k, rfl⟩ : ∃ m, k = m + 2 := ⟨k - 2, by omega⟩
    rw [hlo]
    simp only [spec_l17DrawCranes.j1]
    rw [if_pos (by omega), e3, Option.bind_some]
    dsimp only
    rw [w64 (x := a + gap) (by omega) (by omega), w64 (x := a + gap + v3) (by omega) (by omega), w64 (x := ((d + 1 : Nat) : Int) - 1) (by omega) (by omega), show ((d + 1 : Nat) : Int) - 1 = (d : Int) by omega]
    exact h4 k (by omega)
theorem moves_drawn (c : List Int) (hc : c.length ≤ 1048576) (cr : List S34) (gap : Int) (d : Nat) : ∀ (o : List S31) (p s : Int), o.length + d ≤ 100 → InRow c p → ∃ o' : List S31, o'.length ≤ o.length + d ∧ ∀ k, d < k → spec_DrawRail.l0 k cr gap o (d : Int) c p s = some (cr, gap, o') := by
  induction d with
  | zero =>
    intro o p s ho hp
    refine ⟨o, by omega, fun k hk => ?_⟩
    obtain ⟨k, rfl⟩ := pos_round (show 0 < k by omega)
    simp only [spec_DrawRail.l0]
    rw [if_neg (by decide)]
  | succ d ih =>
    intro o p s ho hp
    obtain ⟨v1, p1, s1, e1, v10, v11, _, hp1⟩ := below_ok c hc hp s 5
    obtain ⟨v2, p2, s2, e2, v20, v21, _, hp2⟩ := below_ok c hc hp1 s1 70
    obtain ⟨o', h1, h2⟩ := ih (o ++ [(⟨v1, v2⟩ : S31)]) p2 s2 (by simp; omega) hp2
    refine ⟨o', by simp at h1; omega, fun k hk => ?_⟩
    obtain ⟨k, rfl⟩ := pos_round (show 0 < k by omega)
    simp only [spec_DrawRail.l0, spec_l17DrawMove.f]
    rw [if_pos (by omega), e1, Option.bind_some]
    dsimp only
    rw [e2, Option.bind_some, Option.bind_some]
    dsimp only
    rw [if_pos (by omega), w64 (x := ((d + 1 : Nat) : Int) - 1) (by omega) (by omega), show ((d + 1 : Nat) : Int) - 1 = (d : Int) by omega]
    exact h2 k (by omega)
theorem rail_drawn (c : List Int) (hc : c.length ≤ 1048576) : ∃ (cr : List S34) (gap : Int) (l : List S31), Valid cr gap ∧ l.length ≤ 20 ∧ ∀ k, 4100 < k → spec_DrawRail.f k c = some (cr, gap, l) := by
  obtain ⟨s0, e0⟩ := new_ok c hc
  obtain ⟨v1, p1, s1, e1, v10, v11, _, hp1⟩ := below_ok c hc (p := 0) (by constructor <;> omega) s0 6
  obtain ⟨v2, p2, s2, e2, v20, v21, _, hp2⟩ := below_ok c hc hp1 s1 20
  obtain ⟨v3, p3, s3, e3, v30, v31, _, hp3⟩ := below_ok c hc hp2 s2 5
  have i1 := v11 (by omega)
  have i2 := v21 (by omega)
  have i3 := v31 (by omega)
  obtain ⟨n, hn⟩ : ∃ n : Nat, 1 + v3 = n := ⟨(1 + v3).toNat, by omega⟩
  obtain ⟨cr, p4, s4, h1, h2, h3, h4⟩ := cranes_drawn c hc (1 + v1) (by omega) n [] v2 p3 s3 (by simp; omega) v20 (by simp; omega) (fun j h0 h1 => by simp at h1; omega) (fun h => by simp at h) hp3
  obtain ⟨v5, p5, s5, e5, v50, v51, _, hp5⟩ := below_ok c hc h3 s4 20
  have i5 := v51 (by omega)
  obtain ⟨m, hm⟩ : ∃ m : Nat, v5 = m := ⟨v5.toNat, by omega⟩
  obtain ⟨l, q1, q2⟩ := moves_drawn c hc cr (1 + v1) m [] p5 s5 (by simp; omega) hp5
  refine ⟨cr, 1 + v1, l, ⟨⟨by rw [h1]; simp; omega, by omega⟩, h2⟩, by simp at q1; omega, fun k hk => ?_⟩
  unfold spec_DrawRail.f spec_l17DrawCranes.f
  rw [e0 k (by omega), Option.bind_some]
  dsimp only
  rw [e1, Option.bind_some]
  dsimp only
  rw [e2, Option.bind_some]
  dsimp only
  rw [e3, Option.bind_some]
  dsimp only
  rw [w64 (x := 1 + v1) (by omega) (by omega), w64 (x := 1 + v3) (by omega) (by omega), hn, h4 k (by omega), Option.bind_some]
  dsimp only
  rw [e5, Option.bind_some]
  dsimp only
  rw [hm]
  exact q2 k (by omega)
/-! ### the law's loops -/
/-- The moves one after the other. -/
def Runs (gap : Int) : List S31 → List S34 → List S34 → Prop
  | [], l, r => r = l
  | m :: ms, l, r => ∃ (l1 : List S34) (x : Int), (∀ k, 20 < k → impl_DoMove.f k l gap m.f0 m.f1 = some (l1, x)) ∧ Runs gap ms l1 r
theorem runs_ex (gap : Int) (ms : List S31) : ∀ l, Valid l gap → ∃ r, Runs gap ms l r ∧ Valid r gap ∧ r.length = l.length := by
  induction ms with
  | nil => intro l h; exact ⟨l, rfl, h, rfl⟩
  | cons m ms ih =>
    intro l h
    obtain ⟨l1, x, h1, h2, h3, _⟩ := move_ok l gap m.f0 m.f1 h
    obtain ⟨r, h4, h5, h6⟩ := ih l1 h2
    exact ⟨r, ⟨l1, x, h1, h4⟩, h5, by omega⟩
theorem own_intC (l : List Int) (h : l.length ≤ 1048576) : impl_own_int.f l = some l := by
  unfold impl_own_int.f
  rw [if_pos (by omega), if_pos (by omega), Option.bind_some, if_pos (by simp; omega)]; rfl
theorem run_loop (gap : Int) (ms : List S31) (hm : ms.length ≤ 20) (r : List S34) (d : Nat) : ∀ (l : List S34) (o : List Int) (i : Int), 0 ≤ i → i ≤ ms.length → (ms.length : Int) - i = d → o.length + d = ms.length → Runs gap (ms.drop i.toNat) l r → ∃ o' : List Int, o'.length = ms.length ∧ ∀ k, d + 30 < k → impl_RunMoves.l0 k gap l o ms (ms.length : Int) i = some (r, o') := by
  induction d with
  | zero =>
    intro l o i h0 h1 hd ho hr
    rw [List.drop_eq_nil_of_le (by omega)] at hr
    have hr : r = l := hr
    subst hr
    refine ⟨o, by omega, fun k hk => ?_⟩
    obtain ⟨k, rfl⟩ := pos_round (show 0 < k by omega)
    simp only [impl_RunMoves.l0]
    rw [if_neg (by omega), own_intC o (by omega), Option.bind_some]
  | succ d ih =>
    intro l o i h0 h1 hd ho hr
    rw [rd31_drop h0 (by omega)] at hr
    obtain ⟨l1, x, e, hr'⟩ := hr
    obtain ⟨o', h2, h3⟩ := ih l1 (o ++ [x]) (i + 1) (by omega) (by omega) (by omega) (by simp; omega) hr'
    refine ⟨o', h2, fun k hk => ?_⟩
    obtain ⟨k, rfl⟩ := pos_round (show 0 < k by omega)
    simp only [impl_RunMoves.l0]
    rw [if_pos (by omega), if_pos h0, if_pos (by omega), e k (by omega), Option.bind_some]
    dsimp only
    rw [if_pos (by omega), w64 (x := i + 1) (by omega) (by omega)]
    exact h3 k (by omega)
theorem run_ok (cr : List S34) (gap : Int) (ms : List S31) (hc : cr.length ≤ 8) (hm : ms.length ≤ 20) (r : List S34) (h : Runs gap ms cr r) : ∃ o : List Int, o.length = ms.length ∧ ∀ k, 60 < k → impl_RunMoves.f k cr gap ms = some (r, o) := by
  obtain ⟨o, h1, h2⟩ := run_loop gap ms hm r ms.length cr [] 0 (by omega) (by omega) (by omega) (by simp) (by simpa using h)
  refine ⟨o, h1, fun k hk => ?_⟩
  unfold impl_RunMoves.f
  rw [own_sameC cr (by omega), Option.bind_some, if_neg (by omega)]
  exact h2 k (by omega)
theorem same_ne (a b c : Int) : ((!(a == a)) || ((!(b == b)) || (!(c == c)))) = false := by simp
/-- None but the named one has moved. -/
theorem l1_go (cr : List S34) (gap : Int) (ms : List S31) (l l' : List S34) (i x : Int) (h0 : 0 ≤ i) (h1 : i < ms.length) (he : l'.length = l.length) (hl : l.length ≤ 8)
    (hx : (x = 0 ∧ (0 ≤ (rd_T31 ms i).f0 ∧ (rd_T31 ms i).f0 < l.length) ∧ l' = l.set (rd_T31 ms i).f0.toNat (⟨(rd_T31 ms i).f1, (rd_T34 l (rd_T31 ms i).f0).f1, (rd_T34 l (rd_T31 ms i).f0).f2⟩ : S34)) ∨ (x ≠ 0 ∧ l' = l)) (d : Nat) : ∀ (j : Int), 0 ≤ j → j ≤ l.length → (l.length : Int) - j = d → ∀ k, laws_FnCranes.l1 (k + d + 1) cr gap ms l i l' x j = laws_FnCranes.l1 (k + 1) cr gap ms l i l' x (l.length : Int) := by
  induction d with
  | zero => intro j h2 h3 hd k; obtain rfl : j = (l.length : Int) := by omega
            rfl
  | succ d ih =>
    intro j h2 h3 hd k
    have hI := ih (j + 1) (by omega) (by omega) (by omega) k
    rw [show k + (d + 1) + 1 = (k + d + 1) + 1 by omega, laws_FnCranes.l1, if_pos (by omega), if_pos h2, if_pos (by omega), w64 (x := j + 1) (by omega) (by omega), hI]
    rcases hx with ⟨hx0, hc, e⟩ | ⟨hx0, e⟩
    · by_cases c1 : j = (rd_T31 ms i).f0
      · rw [if_pos hx0, if_pos h0, if_pos h1, if_pos c1, if_pos (show (rd_T34 l' j).f0 = (rd_T31 ms i).f1 from by rw [e, c1]; exact congrArg S34.f0 (rd34_set_eq hc.1 hc.2)), ite_self]
      · rw [e, rd34_set_ne hc.1 h2 (Ne.symm c1), if_neg (by simp)]
    · rw [e, if_neg (by simp)]
theorem l2_go (cr : List S34) (gap : Int) (ms : List S31) (l l' : List S34) (i : Int) (he : l'.length = l.length) (hl : l.length ≤ 8) (d : Nat) : ∀ (j : Int), 0 ≤ j → j ≤ l.length → (l.length : Int) - j = d → ∀ k, laws_FnCranes.l2 (k + 2 * d + 2) cr gap ms l i l' 0 l' j = laws_FnCranes.l0 k cr gap ms l' (wrap64 (i + 1)) := by
  induction d with
  | zero =>
    intro j h2 h3 hd k
    rw [show k + 2 * 0 + 2 = (k + 1) + 1 by omega, laws_FnCranes.l2, if_neg (by omega), laws_FnCranes.j5, if_neg (by decide)]
  | succ d ih =>
    intro j h2 h3 hd k
    rw [show k + 2 * (d + 1) + 2 = ((k + 2 * d + 2) + 1) + 1 by omega, laws_FnCranes.l2, if_pos (by omega), show ((0 : Int) == 0) = true from rfl, laws_FnCranes.j5, if_pos rfl, if_pos h2, if_pos (by omega), if_pos (by omega), if_neg (by simp), w64 (x := j + 1) (by omega) (by omega), ih (j + 1) (by omega) (by omega) (by omega) k]
theorem law_go (cr : List S34) (gap : Int) (ms : List S31) (hm : ms.length ≤ 20) (r : List S34) (B : Nat) (hend : ∀ k, B < k → laws_FnCranes.l0 k cr gap ms r (ms.length : Int) = some true) (d : Nat) : ∀ (l : List S34) (i : Int), Valid l gap → 0 ≤ i → i ≤ ms.length → (ms.length : Int) - i = d → Runs gap (ms.drop i.toNat) l r → ∀ k, B + 200 * d < k → laws_FnCranes.l0 k cr gap ms l i = some true := by
  induction d with
  | zero =>
    intro l i hv h0 h1 hd hr k hk
    obtain rfl : i = (ms.length : Int) := by omega
    rw [List.drop_eq_nil_of_le (by omega)] at hr
    have hr : r = l := hr
    subst hr
    exact hend k (by omega)
  | succ d ih =>
    intro l i hv h0 h1 hd hr k hk
    have hi' : i < (ms.length : Int) := by omega
    have hl := hv.1.1
    rw [rd31_drop h0 hi'] at hr
    obtain ⟨l1, x, e, hr'⟩ := hr
    obtain ⟨l', x', e', hv', hl', hx'⟩ := move_ok l gap (rd_T31 ms i).f0 (rd_T31 ms i).f1 hv
    have ee := (e 30 (by omega)).symm.trans (e' 30 (by omega))
    simp only [Option.some.injEq, Prod.mk.injEq] at ee
    obtain ⟨rfl, rfl⟩ := ee
    obtain ⟨⟨q, b⟩, hp, hk1, hk2⟩ := push_ok l gap (rd_T31 ms i).f0 (rd_T31 ms i).f1 hv
    obtain ⟨hq, hql⟩ := hp
    dsimp only at hq hql
    have hI := ih l1 (i + 1) hv' (by omega) (by omega) (by omega) hr'
    obtain ⟨k, rfl⟩ : ∃ m, k = m + l.length + 5 := ⟨k - l.length - 5, by omega⟩
    rw [show k + l.length + 5 = ((k + 2) + l.length + 1 + 1) + 1 by omega, laws_FnCranes.l0, if_pos hi', if_pos h0, e _ (by omega), Option.bind_some]
    dsimp only
    rw [ok_yes hv' _ (by omega), Option.bind_some, if_pos rfl, hl', show ((l.length : Int) != (l.length : Int)) = false by simp, laws_FnCranes.j1, if_neg (by decide)]
    have hx2 : (x = 0 ∧ (0 ≤ (rd_T31 ms i).f0 ∧ (rd_T31 ms i).f0 < l.length) ∧ l1 = l.set (rd_T31 ms i).f0.toNat (⟨(rd_T31 ms i).f1, (rd_T34 l (rd_T31 ms i).f0).f1, (rd_T34 l (rd_T31 ms i).f0).f2⟩ : S34)) ∨ (x ≠ 0 ∧ l1 = l) := by
      rcases hx' with ⟨a1, a2, a3, a4⟩ | a
      · exact .inl ⟨a1, a2, a4⟩
      · exact .inr a
    rw [l1_go cr gap ms l l1 i x h0 hi' hl' (by omega) hx2 l.length 0 (by omega) (by omega) (by omega) (k + 2), laws_FnCranes.l1, if_neg (by omega), if_pos h0, if_pos hi', hk1 _ (by omega), Option.bind_some]
    dsimp only
    rw [if_pos (by omega)]
    rcases hx' with ⟨a1, a2, a3, a4⟩ | ⟨a1, a4⟩
    · have hv2 := hv'
      rw [a4] at hv2
      have hqe := hk2 a2 a3 hv2
      simp only [Prod.mk.injEq] at hqe
      obtain ⟨rfl, rfl⟩ := hqe
      rw [if_pos a1, if_pos rfl, if_pos a2.1, if_pos (by omega), if_pos (by rw [rd34_set_eq a2.1 a2.2]), ← a4, ok_yes hv' _ (by omega), Option.bind_some, Bool.not_true]
      obtain ⟨k, rfl⟩ : ∃ m, k = m + 2 * l.length + 2 := ⟨k - 2 * l.length - 2, by omega⟩
      rw [show k + 2 * l.length + 2 + 2 = ((k + 1) + 2 * l.length + 2) + 1 by omega, laws_FnCranes.j3, if_neg (by decide), a1, l2_go cr gap ms l l1 i hl' (by omega) l.length 0 (by omega) (by omega) (by omega) (k + 1), w64 (x := i + 1) (by omega) (by omega)]
      exact hI (k + 1) (by omega)
    · rw [if_neg a1, ok_yes hq _ (by omega), Option.bind_some, Bool.not_true]
      obtain ⟨k, rfl⟩ : ∃ m, k = m + 1 := ⟨k - 1, by omega⟩
      rw [show k + 1 + 2 = (k + 1 + 1) + 1 by omega, laws_FnCranes.j3, if_neg (by decide), laws_FnCranes.l2]
      have fin : laws_FnCranes.j5 (k + 1) cr gap ms l i l1 x q 0 false = some true := by
        rw [laws_FnCranes.j5, if_neg (by decide), w64 (x := i + 1) (by omega) (by omega)]
        exact hI k (by omega)
      rw [if_pos (by omega), show (x == 0) = false by simpa using a1]
      exact fin
theorem l3_go (ms : List S31) (r : List S34) (o : List Int) (ho : o.length = ms.length) (hr : r.length ≤ 8) (d : Nat) : ∀ (j : Int), 0 ≤ j → j ≤ r.length → (r.length : Int) - j = d → ∀ k, d < k → laws_FnCranes.l3 k ms r r o j = some true := by
  induction d with
  | zero =>
    intro j h2 h3 hd k hk
    obtain ⟨k, rfl⟩ := pos_round (show 0 < k by omega)
    rw [laws_FnCranes.l3, if_neg (by omega), ho]
    simp
  | succ d ih =>
    intro j h2 h3 hd k hk
    obtain ⟨k, rfl⟩ := pos_round (show 0 < k by omega)
    rw [laws_FnCranes.l3, if_pos (by omega), if_pos h2, if_pos (by omega), if_neg (by simp), w64 (x := j + 1) (by omega) (by omega)]
    exact ih (j + 1) (by omega) (by omega) (by omega) k (by omega)

theorem FnCranes : laws_FnCranes.Pure := by
  intro l _ _ _
  by_cases hn : (l.length : Int) > 1048576
  · refine ⟨0, ?_⟩
    unfold laws_FnCranes.f laws_big.f
    rw [Option.bind_some, if_pos (by simpa using hn)]
  · obtain ⟨cr, gap, ms, hv, hm, hd⟩ := rail_drawn l (by omega)
    obtain ⟨r, hr, hvr, hrl⟩ := runs_ex gap ms cr hv
    have hl := hv.1.1
    obtain ⟨o, ho, ho2⟩ := run_ok cr gap ms (by omega) hm r hr
    refine ⟨10000, ?_⟩
    unfold laws_FnCranes.f laws_big.f
    rw [Option.bind_some, if_neg (by simpa using hn), hd _ (by omega), Option.bind_some]
    refine law_go cr gap ms hm r 100 (fun k hk => ?_) ms.length cr 0 hv (by omega) (by omega) (by omega) (by simpa using hr) 10000 (by omega)
    obtain ⟨k, rfl⟩ := pos_round (show 0 < k by omega)
    rw [laws_FnCranes.l0, if_neg (by omega), ho2 k (by omega), Option.bind_some, if_pos rfl]
    exact l3_go ms r o ho (by omega) r.length 0 (by omega) (by omega) (by omega) k (by omega)

end Go.Proofs.Ytbaiiaabanhilaa.Pure
