/- Over drawn pumps, what came less what went is what the tanks have more; what is refused changes nothing. -/
import Derived.Test.YtlphfhibnbhkfaaPFnFuelx5
import Derived.Test.YtlphfhibnbhkfaaKit
set_option linter.unusedVariables false
set_option linter.unusedSimpArgs false
namespace Go.Proofs.Ytlphfhibnbhkfaa.Pure
open Go.RowKit Go.Proofs.Ytlphfhibnbhkfaa.PFnFuel Go.Proofs.YtlphfhibnbhkfaaW.PrintWords Go.Proofs.YtlphfhibnbhkfaaW.PrintLast Go.Proofs.YtlphfhibnbhkfaaW.Kit

theorem mask_nat (x : Int) (i : Nat) (hi : i ≤ 62) : Go.bits .and .i64 x ((2 ^ i - 1 : Nat) : Int) = x % ((2 ^ i : Nat) : Int) := by
  have hp : 0 < 2 ^ i := Nat.two_pow_pos i
  have h62 : 2 ^ i ≤ 2 ^ 62 := Nat.pow_le_pow_right (by decide) hi
  have e62 : (2 : Nat) ^ 62 = 4611686018427387904 := by decide
  rw [e62] at h62
  have hm : (2 ^ i - 1) % 2 ^ 64 = 2 ^ i - 1 := Nat.mod_eq_of_lt (by have : (2:Nat)^64 = 18446744073709551616 := by decide
                                                                     omega)
  have hd : ((2 ^ i : Nat) : Int) ∣ 18446744073709551616 := by
    have : (2 : Nat) ^ i ∣ 2 ^ 64 := Nat.pow_dvd_pow 2 (by omega)
    have h2 : (2 : Nat) ^ 64 = 18446744073709551616 := by decide
    rw [h2] at this
    exact Int.natCast_dvd_natCast.2 this
  show IntKind.i64.wrap ((BitVec.ofInt 64 x &&& BitVec.ofInt 64 ((2 ^ i - 1 : Nat) : Int)).toNat : Int) = _
  rw [BitVec.toNat_and, BitVec.ofInt_natCast, BitVec.toNat_ofNat, hm, Nat.and_two_pow_sub_one_eq_mod, BitVec.toNat_ofInt, IntKind.wrap_i64]
  have hx : 0 ≤ x % 18446744073709551616 := Int.emod_nonneg _ (by decide)
  have e : (((x % ((2 ^ 64 : Nat) : Int)).toNat % 2 ^ i : Nat) : Int) = x % ((2 ^ i : Nat) : Int) := by
    rw [Int.natCast_emod, show (((2 ^ 64 : Nat) : Int)) = 18446744073709551616 by decide, Int.toNat_of_nonneg hx, Int.emod_emod_of_dvd _ hd]
  rw [e]
  have h1 := Int.emod_nonneg x (show ((2 ^ i : Nat) : Int) ≠ 0 by omega)
  have h2 := Int.emod_lt_of_pos x (show (0 : Int) < ((2 ^ i : Nat) : Int) by omega)
  generalize x % ((2 ^ i : Nat) : Int) = r at h1 h2 ⊢
  omega
theorem mask24 (x : Int) : Go.bits .and .i64 x 16777215 = x % 16777216 := mask_nat x 24 (by decide)
theorem mask16 (x : Int) : Go.bits .and .i64 x 65535 = x % 65536 := mask_nat x 16 (by decide)
theorem mask8 (x : Int) : Go.bits .and .i64 x 255 = x % 256 := mask_nat x 8 (by decide)
theorem mask30 (x : Int) : Go.bits .and .i64 x 1073741823 = x % 1073741824 := mask_nat x 30 (by decide)
/-! ### the drawn values: a place in the bytes that stays in its row, and values that stay in their range -/
/-- The cursor's place is in the row. -/
def InRow (c : List Int) (p : Int) : Prop := 0 ≤ p ∧ p ≤ (c.length : Int)
theorem new_loop (c : List Int) (hc : c.length ≤ 1048576) (d : Nat) : ∀ (s i : Int), 0 ≤ i → i ≤ 4000 → 4000 - i = d → ∃ r, ∀ k, d < k → spec_l1New.l0 k c s i = some (c, 0, r) := by
  induction d with
  | zero =>
    intro s i h0 h1 hd
    refine ⟨s, fun k hk => ?_⟩
    obtain ⟨k, rfl⟩ := pos_round (show 0 < k by omega)
    simp only [spec_l1New.l0]
    by_cases h : i < (c.length : Int)
    · rw [if_pos h, if_neg (by omega)]
    · rw [if_neg h]
  | succ d ih =>
    intro s i h0 h1 hd
    by_cases h : i < (c.length : Int)
    · obtain ⟨r, hr⟩ := ih (Go.bits .and .i64 (wrap64 ((wrap64 ((wrap64 (s * 131)) + (wrap64 (rd c i)))) + 7)) 1073741823) (i + 1) (by omega) (by omega) (by omega)
      refine ⟨r, fun k hk => ?_⟩
      obtain ⟨k, rfl⟩ := pos_round (show 0 < k by omega)
      simp only [spec_l1New.l0]
      rw [if_pos h, if_pos (by omega), if_pos h0, w64 (x := i + 1) (by omega) (by omega)]
      exact hr k (by omega)
    · refine ⟨s, fun k hk => ?_⟩
      obtain ⟨k, rfl⟩ := pos_round (show 0 < k by omega)
      simp only [spec_l1New.l0]
      rw [if_neg h]
theorem new_ok (c : List Int) (hc : c.length ≤ 1048576) : ∃ r, ∀ k, 4000 < k → spec_l1New.f k c = some (c, 0, r) := by
  obtain ⟨r, hr⟩ := new_loop c hc 4000 (wrap64 (59059 + (c.length : Int))) 0 (by omega) (by omega) (by omega)
  exact ⟨r, hr⟩
theorem byte_ok (c : List Int) (hc : c.length ≤ 1048576) {p : Int} (hp : InRow c p) (s : Int) : ∃ b p' s', spec_l1Byte.f c p s = some (b, p', s') ∧ 0 ≤ b ∧ b ≤ 255 ∧ InRow c p' := by
  unfold spec_l1Byte.f
  obtain ⟨h0, h1⟩ := hp
  by_cases h : p < (c.length : Int)
  · rw [if_pos h, if_pos h0, w64 (x := p + 1) (by omega) (by omega)]
    refine ⟨_, _, _, rfl, ?_, ?_, by constructor <;> omega⟩ <;> rw [mask8] <;> omega
  · rw [if_neg h]
    refine ⟨_, _, _, rfl, ?_, ?_, by constructor <;> omega⟩ <;> rw [mask8] <;> omega
theorem below_ok (c : List Int) (hc : c.length ≤ 1048576) {p : Int} (hp : InRow c p) (s : Int) (n : Int) : ∃ r p' s', spec_l1Below.f c p s n = some (r, p', s') ∧ 0 ≤ r ∧ (0 < n → r < n) ∧ (n ≤ 0 → r = 0) ∧ InRow c p' := by
  unfold spec_l1Below.f
  by_cases h : n ≤ 0
  · rw [if_pos h]
    exact ⟨0, p, s, rfl, by omega, by omega, fun _ => rfl, hp⟩
  · rw [if_neg h]
    by_cases h2 : n ≤ 256
    · obtain ⟨b, p1, s1, e, b0, b1, hp1⟩ := byte_ok c hc hp s
      rw [if_pos h2, e, Option.bind_some, if_neg (by omega)]
      refine ⟨_, _, _, rfl, ?_, ?_, fun _ => by omega, hp1⟩ <;> rw [tm b0]
      · exact Int.emod_nonneg _ (by omega)
      · intro _; exact Int.emod_lt_of_pos _ (by omega)
    · obtain ⟨b, p1, s1, e, b0, b1, hp1⟩ := byte_ok c hc hp s
      obtain ⟨b', p2, s2, e2, b0', b1', hp2⟩ := byte_ok c hc hp1 s1
      obtain ⟨b'', p3, s3, e3, b0'', b1'', hp3⟩ := byte_ok c hc hp2 s2
      obtain ⟨b3, p4, s4, e4, b03, b13, hp4⟩ := byte_ok c hc hp3 s3
      rw [if_neg h2, e, Option.bind_some]
      dsimp only
      rw [e2, Option.bind_some]
      dsimp only
      rw [e3, Option.bind_some]
      dsimp only
      rw [e4, Option.bind_some, if_neg (by omega)]
      dsimp only
      rw [w64 (x := b * 16777216) (by omega) (by omega), w64 (x := b' * 65536) (by omega) (by omega), w64 (x := b'' * 256) (by omega) (by omega), w64 (x := b * 16777216 + b' * 65536) (by omega) (by omega), w64 (x := b * 16777216 + b' * 65536 + b'' * 256) (by omega) (by omega), w64 (by omega) (by omega), tm (by omega)]
      exact ⟨_, _, _, rfl, Int.emod_nonneg _ (by omega), fun _ => Int.emod_lt_of_pos _ (by omega), fun _ => by omega, hp4⟩
theorem pickI_ok (c : List Int) (hc : c.length ≤ 1048576) {p : Int} (hp : InRow c p) (s : Int) (l : List Int) (hl : 0 < l.length) : ∃ r p' s', spec_l1PickInt.f c p s l = some (r, p', s') ∧ r ∈ l ∧ InRow c p' := by
  obtain ⟨b, p1, s1, e, b0, b1, _, hp1⟩ := below_ok c hc hp s (l.length : Int)
  have := b1 (by omega)
  unfold spec_l1PickInt.f
  rw [e, Option.bind_some]
  dsimp only
  rw [if_pos b0, if_pos this]
  exact ⟨_, _, _, rfl, rd_mem b0 this, hp1⟩
theorem once_ok (c : List Int) (hc : c.length ≤ 1048576) {p : Int} (hp : InRow c p) (s : Int) (n : Int) : ∃ r p' s', spec_l1Once.f c p s n = some (r, p', s') ∧ InRow c p' := by
  obtain ⟨b, p1, s1, e, _, _, _, hp1⟩ := below_ok c hc hp s n
  unfold spec_l1Once.f
  rw [e, Option.bind_some]
  exact ⟨_, _, _, rfl, hp1⟩
theorem size_ok (c : List Int) (hc : c.length ≤ 1048576) (n : Int) (hn : 2 ≤ n) : ∃ r, spec_l1Size.f c n = some r ∧ 2 ≤ r ∧ r ≤ n := by
  unfold spec_l1Size.f
  rw [w64 (x := (c.length : Int) / 20) (by omega) (by omega), w64 (x := 2 + _) (by omega) (by omega)]
  by_cases h : 2 + (c.length : Int) / 20 > n
  · rw [if_pos h]; exact ⟨_, rfl, by omega, by omega⟩
  · rw [if_neg h]; exact ⟨_, rfl, by omega, by omega⟩
theorem rd32_lt {l : List S32} {i : Int} (h0 : 0 ≤ i) (h1 : i < l.length) : ∃ h : i.toNat < l.length, rd_T32 l i = l[i.toNat]'h := by
  have h : i.toNat < l.length := by omega
  exact ⟨h, by simp [rd_T32, List.getD_eq_getElem?_getD, List.getElem?_eq_getElem h]⟩
theorem rd32_mem {l : List S32} {i : Int} (h0 : 0 ≤ i) (h1 : i < l.length) : rd_T32 l i ∈ l := by
  obtain ⟨h, e⟩ := rd32_lt h0 h1
  rw [e]; exact List.getElem_mem h
theorem rd32_drop {l : List S32} {i : Int} (h0 : 0 ≤ i) (h1 : i < l.length) : l.drop i.toNat = rd_T32 l i :: l.drop (i + 1).toNat := by
  obtain ⟨h, e⟩ := rd32_lt h0 h1
  rw [e, show (i + 1).toNat = i.toNat + 1 by omega, List.drop_eq_getElem_cons h]
theorem rd32_take {l : List S32} {i : Int} (h0 : 0 ≤ i) (h1 : i < l.length) : l.take (i + 1).toNat = l.take i.toNat ++ [rd_T32 l i] := by
  obtain ⟨h, e⟩ := rd32_lt h0 h1
  rw [e, show (i + 1).toNat = i.toNat + 1 by omega, List.take_succ_eq_append_getElem h]
theorem rd32_set_eq {l : List S32} {i : Int} {x : S32} (h0 : 0 ≤ i) (h1 : i < l.length) : rd_T32 (l.set i.toNat x) i = x := by
  simp [rd_T32, List.getD_eq_getElem?_getD, List.getElem?_set, show i.toNat < l.length by omega]
theorem rd32_set_ne {l : List S32} {i j : Int} {x : S32} (h0 : 0 ≤ i) (hj : 0 ≤ j) (h : i ≠ j) : rd_T32 (l.set i.toNat x) j = rd_T32 l j := by
  simp [rd_T32, List.getD_eq_getElem?_getD, List.getElem?_set, show ¬ i.toNat = j.toNat by omega]
theorem rd32_append_left {l m : List S32} {i : Int} (h0 : 0 ≤ i) (h1 : i < l.length) : rd_T32 (l ++ m) i = rd_T32 l i := by
  simp [rd_T32, List.getD_eq_getElem?_getD, List.getElem?_append_left (show i.toNat < l.length by omega)]
theorem rd32_last {l : List S32} {x : S32} : rd_T32 (l ++ [x]) (l.length : Int) = x := by
  simp [rd_T32, List.getD_eq_getElem?_getD]
theorem ext32 {l m : List S32} (h : l.length = m.length) (hr : ∀ i : Int, 0 ≤ i → i < l.length → rd_T32 l i = rd_T32 m i) : l = m := by
  apply List.ext_getElem h
  intro i h1 h2
  have := hr i (by omega) (by omega)
  simpa [rd_T32, List.getD_eq_getElem?_getD, List.getElem?_eq_getElem h1, List.getElem?_eq_getElem h2] using this
theorem rd37_lt {l : List S37} {i : Int} (h0 : 0 ≤ i) (h1 : i < l.length) : ∃ h : i.toNat < l.length, rd_T37 l i = l[i.toNat]'h := by
  have h : i.toNat < l.length := by omega
  exact ⟨h, by simp [rd_T37, List.getD_eq_getElem?_getD, List.getElem?_eq_getElem h]⟩
theorem rd37_mem {l : List S37} {i : Int} (h0 : 0 ≤ i) (h1 : i < l.length) : rd_T37 l i ∈ l := by
  obtain ⟨h, e⟩ := rd37_lt h0 h1
  rw [e]; exact List.getElem_mem h
theorem rd37_drop {l : List S37} {i : Int} (h0 : 0 ≤ i) (h1 : i < l.length) : l.drop i.toNat = rd_T37 l i :: l.drop (i + 1).toNat := by
  obtain ⟨h, e⟩ := rd37_lt h0 h1
  rw [e, show (i + 1).toNat = i.toNat + 1 by omega, List.drop_eq_getElem_cons h]
theorem rd37_take {l : List S37} {i : Int} (h0 : 0 ≤ i) (h1 : i < l.length) : l.take (i + 1).toNat = l.take i.toNat ++ [rd_T37 l i] := by
  obtain ⟨h, e⟩ := rd37_lt h0 h1
  rw [e, show (i + 1).toNat = i.toNat + 1 by omega, List.take_succ_eq_append_getElem h]
theorem rd37_set_eq {l : List S37} {i : Int} {x : S37} (h0 : 0 ≤ i) (h1 : i < l.length) : rd_T37 (l.set i.toNat x) i = x := by
  simp [rd_T37, List.getD_eq_getElem?_getD, List.getElem?_set, show i.toNat < l.length by omega]
theorem rd37_set_ne {l : List S37} {i j : Int} {x : S37} (h0 : 0 ≤ i) (hj : 0 ≤ j) (h : i ≠ j) : rd_T37 (l.set i.toNat x) j = rd_T37 l j := by
  simp [rd_T37, List.getD_eq_getElem?_getD, List.getElem?_set, show ¬ i.toNat = j.toNat by omega]
theorem rd37_append_left {l m : List S37} {i : Int} (h0 : 0 ≤ i) (h1 : i < l.length) : rd_T37 (l ++ m) i = rd_T37 l i := by
  simp [rd_T37, List.getD_eq_getElem?_getD, List.getElem?_append_left (show i.toNat < l.length by omega)]
theorem rd37_last {l : List S37} {x : S37} : rd_T37 (l ++ [x]) (l.length : Int) = x := by
  simp [rd_T37, List.getD_eq_getElem?_getD]
theorem ext37 {l m : List S37} (h : l.length = m.length) (hr : ∀ i : Int, 0 ≤ i → i < l.length → rd_T37 l i = rd_T37 m i) : l = m := by
  apply List.ext_getElem h
  intro i h1 h2
  have := hr i (by omega) (by omega)
  simpa [rd_T37, List.getD_eq_getElem?_getD, List.getElem?_eq_getElem h1, List.getElem?_eq_getElem h2] using this
/-! ### what the draws make: so many tanks and pumps at most -/
theorem tanks_drawn_loop (c : List Int) (hc : c.length ≤ 1048576) (d : Nat) : ∀ (o : List S32) (i p s : Int), 0 ≤ i → i = d → InRow c p → 1 ≤ (o.length : Int) + i → (o.length : Int) + i ≤ 9 →
    ∃ r : List S32, ∃ p' s', r.length ≤ 9 ∧ InRow c p' ∧ ∀ k, d < k → spec_l10DrawTanks.l0 k o i c p s = some (r, p', s') := by
  induction d with
  | zero =>
    intro o i p s h0 hd hp h1 h2
    obtain ⟨b, p1, s1, e1, b0, b1, _, hp1⟩ := below_ok c hc hp s 30
    have main : ∃ r : List S32, ∃ p' s', r.length ≤ 9 ∧ InRow c p' ∧ (if b = 0 then ((spec_l1PickInt.f c p1 s1 (([(-1), 5, 1000000] : List Int))).bind fun bt145 => ((spec_l1PickInt.f c bt145.2.1 bt145.2.2 (([4, 1000000, 1000001] : List Int))).bind fun bt151 => (if 0 < (o.length : Int) then (some ((o.set (0 : Int).toNat (⟨bt145.1, bt151.1⟩ : S32)), bt151.2.1, bt151.2.2)) else (none)))) else (if b = 1 then ((spec_l1Below.f c p1 s1 2).bind fun bt155 => (if 0 ≤ (wrap64 (8 + bt155.1)) then (if (wrap64 (8 + bt155.1) : Int).toNat ≤ 17592186044416 then (some ((List.replicate (wrap64 (8 + bt155.1) : Int).toNat z32), bt155.2.1, bt155.2.2)) else (none)) else (none))) else (some (o, p1, s1)))) = some (r, p', s') := by
      by_cases c0 : b = 0
      · obtain ⟨v, p2, s2, e2, _, hp2⟩ := pickI_ok c hc hp1 s1 [(-1), 5, 1000000] (by simp)
        obtain ⟨v', p3, s3, e3, _, hp3⟩ := pickI_ok c hc hp2 s2 [4, 1000000, 1000001] (by simp)
        rw [if_pos c0, e2, Option.bind_some]
        dsimp only
        rw [e3, Option.bind_some, if_pos (by omega)]
        exact ⟨_, _, _, by simp; omega, hp3, rfl⟩
      · rw [if_neg c0]
        by_cases c1 : b = 1
        · obtain ⟨v, p2, s2, e2, v0, v1, _, hp2⟩ := below_ok c hc hp1 s1 2
          have := v1 (by omega)
          rw [if_pos c1, e2, Option.bind_some]
          dsimp only
          rw [w64 (x := 8 + v) (by omega) (by omega), if_pos (by omega), if_pos (by omega)]
          exact ⟨_, _, _, by simp; omega, hp2, rfl⟩
        · rw [if_neg c1]
          exact ⟨_, _, _, by omega, hp1, rfl⟩
    obtain ⟨r, p', s', hr, hp', e⟩ := main
    refine ⟨r, p', s', hr, hp', fun k hk => ?_⟩
    obtain ⟨k, rfl⟩ := pos_round (show 0 < k by omega)
    simp only [spec_l10DrawTanks.l0]
    rw [if_neg (by omega), e1, Option.bind_some]
    exact e
  | succ d ih =>
    intro o i p s h0 hd hp h1 h2
    obtain ⟨b, p1, s1, e1, b0, b1, _, hp1⟩ := below_ok c hc hp s 50
    have := b1 (by omega)
    obtain ⟨b', p2, s2, e2, b0', b1', _, hp2⟩ := below_ok c hc hp1 s1 (b + 1)
    obtain ⟨r, p', s', hr, hp', e⟩ := ih (o ++ [(⟨b', b⟩ : S32)]) (i - 1) p2 s2 (by omega) (by omega) hp2 (by simp; omega) (by simp; omega)
    refine ⟨r, p', s', hr, hp', fun k hk => ?_⟩
    obtain ⟨k, rfl⟩ := pos_round (show 0 < k by omega)
    simp only [spec_l10DrawTanks.l0]
    rw [if_pos (by omega), e1, Option.bind_some]
    dsimp only
    rw [w64 (x := b + 1) (by omega) (by omega), e2, Option.bind_some, if_pos (by omega), w64 (x := i - 1) (by omega) (by omega)]
    exact e k (by omega)
theorem tanks_drawn (c : List Int) (hc : c.length ≤ 1048576) {p : Int} (hp : InRow c p) (s : Int) : ∃ r : List S32, ∃ p' s', r.length ≤ 9 ∧ InRow c p' ∧ ∀ k, 4 < k → spec_l10DrawTanks.f k c p s = some (r, p', s') := by
  obtain ⟨b, p1, s1, e1, b0, b1, _, hp1⟩ := below_ok c hc hp s 4
  have := b1 (by omega)
  obtain ⟨r, p', s', hr, hp', e⟩ := tanks_drawn_loop c hc (1 + b).toNat [] (1 + b) p1 s1 (by omega) (by omega) hp1 (by simp; omega) (by simp; omega)
  refine ⟨r, p', s', hr, hp', fun k hk => ?_⟩
  unfold spec_l10DrawTanks.f
  rw [e1, Option.bind_some]
  dsimp only
  rw [w64 (x := 1 + b) (by omega) (by omega)]
  exact e k (by omega)
theorem pump_drawn (c : List Int) (hc : c.length ≤ 1048576) {p : Int} (hp : InRow c p) (s : Int) : ∃ a b m p' s', spec_l10DrawPump.f c p s = some (a, b, m, p', s') ∧ InRow c p' := by
  obtain ⟨b, p1, s1, e1, b0, b1, _, hp1⟩ := below_ok c hc hp s 5
  obtain ⟨b', p2, s2, e2, b0', b1', _, hp2⟩ := below_ok c hc hp1 s1 5
  obtain ⟨b'', p3, s3, e3, b0'', b1'', _, hp3⟩ := below_ok c hc hp2 s2 20
  obtain ⟨y, p4, s4, e4, hp4⟩ := once_ok c hc hp3 s3 30
  unfold spec_l10DrawPump.f
  rw [e1, Option.bind_some]
  dsimp only
  rw [e2, Option.bind_some]
  dsimp only
  rw [e3, Option.bind_some]
  dsimp only
  rw [e4, Option.bind_some]
  dsimp only
  cases y with
  | true =>
    obtain ⟨v, p5, s5, e5, _, hp5⟩ := pickI_ok c hc hp4 s4 [0, (-1), 1000000, 1000001] (by simp)
    rw [if_pos rfl, e5, Option.bind_some]
    exact ⟨_, _, _, _, _, rfl, hp5⟩
  | false =>
    rw [if_neg (by simp)]
    exact ⟨_, _, _, _, _, rfl, hp4⟩
theorem all_drawn_loop (c : List Int) (hc : c.length ≤ 1048576) (t : List S32) (d : Nat) : ∀ (o : List S37) (i p s : Int), 0 ≤ i → i = d → InRow c p → (o.length : Int) + i ≤ 60 →
    ∃ r : List S37, r.length ≤ 61 ∧ ∀ k, d < k → spec_DrawPumpAll.l0 k t o i c p s = some (t, r) := by
  induction d with
  | zero =>
    intro o i p s h0 hd hp h2
    obtain ⟨y, p1, s1, e1, hp1⟩ := once_ok c hc hp s 40
    cases y with
    | true =>
      obtain ⟨v, p2, s2, e2, v0, v1, _, hp2⟩ := below_ok c hc hp1 s1 2
      have := v1 (by omega)
      refine ⟨List.replicate (60 + v).toNat z37, by simp; omega, fun k hk => ?_⟩
      obtain ⟨k, rfl⟩ := pos_round (show 0 < k by omega)
      simp only [spec_DrawPumpAll.l0]
      rw [if_neg (by omega), e1, Option.bind_some, if_pos rfl]
      dsimp only
      rw [e2, Option.bind_some]
      dsimp only
      rw [w64 (x := 60 + v) (by omega) (by omega), if_pos (by omega), if_pos (by omega)]
    | false =>
      refine ⟨o, by omega, fun k hk => ?_⟩
      obtain ⟨k, rfl⟩ := pos_round (show 0 < k by omega)
      simp only [spec_DrawPumpAll.l0]
      rw [if_neg (by omega), e1, Option.bind_some, if_neg (by simp)]
  | succ d ih =>
    intro o i p s h0 hd hp h2
    obtain ⟨a, b, m, p1, s1, e1, hp1⟩ := pump_drawn c hc hp s
    obtain ⟨r, hr, e⟩ := ih (o ++ [(⟨a, b, m⟩ : S37)]) (i - 1) p1 s1 (by omega) (by omega) hp1 (by simp; omega)
    refine ⟨r, hr, fun k hk => ?_⟩
    obtain ⟨k, rfl⟩ := pos_round (show 0 < k by omega)
    simp only [spec_DrawPumpAll.l0]
    rw [if_pos (by omega), e1, Option.bind_some, if_pos (by omega), w64 (x := i - 1) (by omega) (by omega)]
    exact e k (by omega)
theorem all_drawn (c : List Int) (hc : c.length ≤ 1048576) : ∃ (t : List S32) (r : List S37), t.length ≤ 9 ∧ r.length ≤ 61 ∧ ∀ k, 4000 < k → spec_DrawPumpAll.f k c = some (t, r) := by
  obtain ⟨s0, e0⟩ := new_ok c hc
  obtain ⟨t, p1, s1, ht, hp1, e1⟩ := tanks_drawn c hc (p := 0) (by constructor <;> omega) s0
  obtain ⟨n, e2, n0, n1⟩ := size_ok c hc 20 (by omega)
  obtain ⟨v, p2, s2, e3, v0, v1, _, hp2⟩ := below_ok c hc hp1 s1 n
  have := v1 (by omega)
  obtain ⟨r, hr, e4⟩ := all_drawn_loop c hc t v.toNat [] v p2 s2 v0 (by omega) hp2 (by simp; omega)
  refine ⟨t, r, ht, hr, fun k hk => ?_⟩
  unfold spec_DrawPumpAll.f
  rw [e0 k hk, Option.bind_some]
  dsimp only
  rw [e1 k (by omega), Option.bind_some, e2, Option.bind_some]
  dsimp only
  rw [e3, Option.bind_some]
  exact e4 k (by omega)
/-! ### sums, as the machine adds them -/
/-- What the tanks hold, all in all. -/
def sumF : List S32 → Int
  | [] => 0
  | x :: l => x.f0 + sumF l
/-- Equal to the machine. -/
def Same (a b : Int) : Prop := ∃ q : Int, a = b + 18446744073709551616 * q
theorem same_wrap (a : Int) : Same (wrap64 a) a := by
  unfold wrap64 Same
  exact ⟨-((a + 9223372036854775808) / 18446744073709551616), by omega⟩
theorem wrap_same {a b : Int} (h : Same a b) : wrap64 a = wrap64 b := by
  obtain ⟨q, rfl⟩ := h
  unfold wrap64
  omega
theorem sum_set (l : List S32) : ∀ (i : Nat) (x : S32) (h : i < l.length), sumF (l.set i x) = sumF l - (l[i]'h).f0 + x.f0 := by
  induction l with
  | nil => intro i x h; simp at h
  | cons y l ih =>
    intro i x h
    cases i with
    | zero => simp [sumF]; omega
    | succ i => simp only [List.set_cons_succ, sumF, List.getElem_cons_succ]; rw [ih i x (by simpa using h)]; omega
theorem sum_setI {l : List S32} {i : Int} {x : S32} (h0 : 0 ≤ i) (h1 : i < l.length) : sumF (l.set i.toNat x) = sumF l - (rd_T32 l i).f0 + x.f0 := by
  obtain ⟨h, e⟩ := rd32_lt h0 h1
  rw [sum_set l _ _ h, e]
theorem sum_app (l m : List S32) : sumF (l ++ m) = sumF l + sumF m := by
  induction l with
  | nil => simp [sumF]
  | cons x l ih => simp only [List.cons_append, sumF]; rw [ih]; omega
/-! ### one pump -/
theorem in_eqQ (a b c : Int) : impl_in.f a b c = some (decide (b ≤ a ∧ a ≤ c)) := in_some a b c
theorem right_loop (l : List S32) (hn : l.length ≤ 1048576) (d : Nat) : ∀ (i : Int), 0 ≤ i → i ≤ l.length → (l.length : Int) - i = d →
    ∃ r : Int, ∀ k, d < k → impl_Fuel_at_impl_tanksRight_1_96.l0 k l (l.length : Int) i = some r := by
  induction d with
  | zero =>
    intro i h0 h1 hd
    refine ⟨-1, fun k hk => ?_⟩
    obtain ⟨k, rfl⟩ := pos_round (show 0 < k by omega)
    simp only [impl_Fuel_at_impl_tanksRight_1_96.l0]
    rw [if_neg (by omega)]
  | succ d ih =>
    intro i h0 h1 hd
    have hlt : i < (l.length : Int) := by omega
    obtain ⟨b, hb⟩ : ∃ b, impl_tanksRight_1.f ((rd_T32 l i).f0) ((rd_T32 l i).f1) = some b := by
      unfold impl_tanksRight_1.f
      rw [in_eqQ, Option.bind_some]
      split
      · exact ⟨_, rfl⟩
      · exact ⟨_, rfl⟩
    cases b with
    | true =>
      refine ⟨i, fun k hk => ?_⟩
      obtain ⟨k, rfl⟩ := pos_round (show 0 < k by omega)
      simp only [impl_Fuel_at_impl_tanksRight_1_96.l0]
      rw [if_pos hlt, if_pos h0, if_pos hlt, hb, Option.bind_some, if_pos rfl]
    | false =>
      obtain ⟨r, hr⟩ := ih (i + 1) (by omega) (by omega) (by omega)
      refine ⟨r, fun k hk => ?_⟩
      obtain ⟨k, rfl⟩ := pos_round (show 0 < k by omega)
      simp only [impl_Fuel_at_impl_tanksRight_1_96.l0]
      rw [if_pos hlt, if_pos h0, if_pos hlt, hb, Option.bind_some, if_neg (by simp), w64 (x := i + 1) (by omega) (by omega)]
      exact hr k (by omega)
theorem right_ok (l : List S32) (hn : l.length ≤ 1048576) : ∃ b : Bool, ∀ k, l.length < k → impl_tanksRight.f k l = some b := by
  obtain ⟨r, hr⟩ := right_loop l hn l.length 0 (by omega) (by omega) (by omega)
  unfold impl_tanksRight.f impl_Fuel_at_impl_tanksRight_1.f impl_Fuel_at_impl_tanksRight_1_96.f
  by_cases c : (l.length : Int) ≤ 8
  · exact ⟨_, fun k hk => by rw [if_pos c, hr k hk, Option.bind_some, Option.bind_some]⟩
  · exact ⟨false, fun k hk => by rw [if_neg c]⟩
theorem own_sameQ (l : List S32) (h : l.length ≤ 1048576) : impl_Fuel_45.f l = some l := by
  unfold impl_Fuel_45.f
  rw [if_pos (by omega), if_pos (by omega), Option.bind_some, if_pos (by simp; omega)]; rfl
/-- What a pump does to the sum: nothing where it is refused; else what went from one tank and into the other. -/
def Moved (l : List S32) (f t m : Int) (res : List S32 × Int) : Prop :=
  res.1.length = l.length ∧ (res.2 ≠ 0 → res.1 = l) ∧ (res.2 = 0 → Same (sumF res.1) (sumF l - (if f ≥ 0 then m else 0) + (if t ≥ 0 then m else 0)))
theorem same_add {a b : Int} (h : Same a b) (c : Int) : Same (a + c) (b + c) := by
  obtain ⟨q, rfl⟩ := h
  exact ⟨q, by omega⟩
theorem same_trans {a b c : Int} (h : Same a b) (g : Same b c) : Same a c := by
  obtain ⟨q, rfl⟩ := h
  obtain ⟨r, rfl⟩ := g
  exact ⟨q + r, by omega⟩
theorem set_same {l : List S32} {i : Int} (x y : Int) (h0 : 0 ≤ i) (h1 : i < l.length) : Same (sumF (l.set i.toNat (⟨wrap64 ((rd_T32 l i).f0 + x), y⟩ : S32))) (sumF l + x) := by
  rw [sum_setI h0 h1]
  obtain ⟨q, hq⟩ := same_wrap ((rd_T32 l i).f0 + x)
  exact ⟨q, by dsimp only; rw [hq]; omega⟩
theorem steps_moved (l : List S32) (f t m : Int) (hf : f < (l.length : Int)) (ht : t < (l.length : Int)) : ∃ res : List S32 × Int, Moved l f t m res ∧ ∀ k, impl_Pumped.j0 (k + 3) l false f t m = some res := by
  have e2 : ∃ res : List S32 × Int, Moved l f t m res ∧ ∀ k, impl_Pumped.j2 (k + 1) l f t m = some res := by
    simp only [impl_Pumped.j2]
    by_cases c1 : f ≥ 0 <;> by_cases c2 : t ≥ 0
    · refine ⟨_, ?_, fun k => by rw [if_pos c1, if_pos c1, if_pos hf, Option.bind_some, if_pos c2, if_pos c2, if_pos (by simpa using ht)]⟩
      refine ⟨by simp, fun h => absurd rfl h, fun _ => ?_⟩
      rw [if_pos c1, if_pos c2]
      refine same_trans (set_same m _ c2 (by simpa using ht)) (same_add ?_ _)
      exact set_same (-m) _ c1 hf
    · refine ⟨_, ?_, fun k => by rw [if_pos c1, if_pos c1, if_pos hf, Option.bind_some, if_neg c2]⟩
      refine ⟨by simp, fun h => absurd rfl h, fun _ => ?_⟩
      rw [if_pos c1, if_neg c2]
      refine same_trans (set_same (-m) _ c1 hf) ⟨0, by omega⟩
    · refine ⟨_, ?_, fun k => by rw [if_neg c1, if_pos c2, if_pos c2, if_pos ht]⟩
      refine ⟨by simp, fun h => absurd rfl h, fun _ => ?_⟩
      rw [if_neg c1, if_pos c2]
      refine same_trans (set_same m _ c2 ht) ⟨0, by omega⟩
    · refine ⟨(l, 0), ?_, fun k => by rw [if_neg c1, if_neg c2]⟩
      refine ⟨rfl, fun h => absurd rfl h, fun _ => ?_⟩
      rw [if_neg c1, if_neg c2]
      exact ⟨0, by dsimp only; omega⟩
  have no : ∀ e : Int, e ≠ 0 → Moved l f t m (l, e) := fun e he => ⟨rfl, fun _ => rfl, fun h => absurd h he⟩
  have e1 : ∀ b : Bool, ∃ res : List S32 × Int, Moved l f t m res ∧ ∀ k, impl_Pumped.j1 (k + 2) l b f t m = some res := by
    intro b
    obtain ⟨res, hr, hk⟩ := e2
    cases b with
    | true => exact ⟨(l, 2), no 2 (by decide), fun k => by simp [impl_Pumped.j1]⟩
    | false =>
      simp only [impl_Pumped.j1]
      by_cases c2 : t ≥ 0
      · by_cases c3 : wrap64 ((rd_T32 l t).f0 + m) > (rd_T32 l t).f1
        · exact ⟨(l, 3), no 3 (by decide), fun k => by rw [if_neg (by simp), if_pos c2, if_pos c2, if_pos ht, if_pos c3]⟩
        · exact ⟨res, hr, fun k => by rw [if_neg (by simp), if_pos c2, if_pos c2, if_pos ht, if_neg c3]; exact hk k⟩
      · exact ⟨res, hr, fun k => by rw [if_neg (by simp), if_neg c2]; exact hk k⟩
  simp only [impl_Pumped.j0]
  by_cases c1 : f ≥ 0
  · obtain ⟨res, hr, hk⟩ := e1 (decide ((rd_T32 l f).f0 < m))
    exact ⟨res, hr, fun k => by rw [if_neg (by simp), if_pos c1, if_pos c1, if_pos hf]; exact hk k⟩
  · obtain ⟨res, hr, hk⟩ := e1 false
    exact ⟨res, hr, fun k => by rw [if_neg (by simp), if_neg c1]; exact hk k⟩
theorem pumped_moves (l : List S32) (f t m : Int) (hn : l.length ≤ 1048576) : ∃ res : List S32 × Int, Moved l f t m res ∧ ∀ k, l.length + 3 < k → impl_Pumped.f k l f t m = some res := by
  obtain ⟨b, hb⟩ := right_ok l hn
  have hw : wrap64 ((l.length : Int) - 1) = (l.length : Int) - 1 := w64 (by omega) (by omega)
  have bad : ∀ k, impl_Pumped.j0 (k + 1) l true f t m = some (l, 1) := fun k => by
    simp only [impl_Pumped.j0, if_true]
  have no : Moved l f t m (l, 1) := ⟨rfl, fun _ => rfl, fun h => absurd h (show ¬ (1 : Int) = 0 by decide)⟩
  by_cases hc : b = true ∧ (-1 ≤ f ∧ f ≤ (l.length : Int) - 1) ∧ (-1 ≤ t ∧ t ≤ (l.length : Int) - 1) ∧ ¬ f = t ∧ (1 ≤ m ∧ m ≤ 1000000)
  · obtain ⟨rfl, h1, h2, h3, h4⟩ := hc
    obtain ⟨res, hr, hk⟩ := steps_moved l f t m (by omega) (by omega)
    refine ⟨res, hr, fun k hk' => ?_⟩
    obtain ⟨k, rfl⟩ : ∃ j, k = j + 3 := ⟨k - 3, by omega⟩
    have hi := hb (k + 3) (by omega)
    unfold impl_Pumped.f
    rw [own_sameQ l hn, hi, in_eqQ, in_eqQ, in_eqQ, hw, decide_eq_true h1, decide_eq_true h2, decide_eq_true h4]
    simp only [Option.bind_some, if_true, if_neg h3, Bool.not_true]
    exact hk k
  · refine ⟨(l, 1), no, fun k hk' => ?_⟩
    obtain ⟨k, rfl⟩ := pos_round (show 0 < k by omega)
    have hi := hb (k + 1) (by omega)
    have b2 := bad k
    unfold impl_Pumped.f
    rw [own_sameQ l hn, hi, in_eqQ, in_eqQ, in_eqQ, hw]
    simp only [Option.bind_some]
    cases b with
    | false => simp only [Bool.false_eq_true, if_false]; exact b2
    | true =>
      by_cases h1 : -1 ≤ f ∧ f ≤ (l.length : Int) - 1
      · by_cases h2 : -1 ≤ t ∧ t ≤ (l.length : Int) - 1
        · by_cases h3 : f = t
          · rw [decide_eq_true h1, decide_eq_true h2]
            simp only [if_true, if_pos h3]; exact b2
          · by_cases h4 : 1 ≤ m ∧ m ≤ 1000000
            · exact absurd ⟨rfl, h1, h2, h3, h4⟩ hc
            · rw [decide_eq_true h1, decide_eq_true h2, decide_eq_false h4]
              simp only [if_true, if_neg h3, Bool.not_false]; exact b2
        · rw [decide_eq_true h1, decide_eq_false h2]
          simp only [if_true, Bool.false_eq_true, if_false]; exact b2
      · rw [decide_eq_false h1]
        simp only [if_true, Bool.false_eq_true, if_false]; exact b2
/-! ### all pumps -/
theorem own_ints (l : List Int) (h : l.length ≤ 1048576) : impl_own_int.f l = some l := by
  unfold impl_own_int.f
  rw [if_pos (by omega), if_pos (by omega), Option.bind_some, if_pos (by simp; omega)]; rfl
theorem pumps_loop (ps : List S37) (hps : ps.length ≤ 1048576) (l0 : List S32) (hl0 : l0.length ≤ 1048576) (d : Nat) : ∀ (l : List S32) (cs : List Int) (came went i : Int), 0 ≤ i → i ≤ ps.length → (ps.length : Int) - i = d → l.length = l0.length → (cs.length : Int) = i → Same (sumF l - sumF l0) (came - went) →
    ∃ (l' : List S32) (cs' : List Int) (came' went' : Int), l'.length = l0.length ∧ cs'.length = ps.length ∧ Same (sumF l' - sumF l0) (came' - went') ∧ ∀ k, l0.length + 4 + 2 * d < k → impl_PumpAll.l0 k l cs came went ps (ps.length : Int) i = some (l', cs', came', went') := by
  induction d with
  | zero =>
    intro l cs came went i h0 h1 hd hl hcs hs
    refine ⟨l, cs, came, went, hl, by omega, hs, fun k hk => ?_⟩
    obtain ⟨k, rfl⟩ := pos_round (show 0 < k by omega)
    simp only [impl_PumpAll.l0]
    rw [if_neg (by omega), own_ints cs (by omega), Option.bind_some]
  | succ d ih =>
    intro l cs came went i h0 h1 hd hl hcs hs
    have hlt : i < (ps.length : Int) := by omega
    obtain ⟨res, ⟨m1, m2, m3⟩, hres⟩ := pumped_moves l (rd_T37 ps i).f0 (rd_T37 ps i).f1 (rd_T37 ps i).f2 (by omega)
    -- what came and went behind this pump
    obtain ⟨came2, went2, hs2, hj⟩ : ∃ came2 went2, Same (sumF res.1 - sumF l0) (came2 - went2) ∧ ∀ k, (if res.2 = 0 then (impl_PumpAll.j1 (k + 1) res.1 (cs ++ [res.2]) came went res.2 ps (ps.length : Int) i (decide (((rd_T37 ps i).f0) < 0)) ((rd_T37 ps i).f0) ((rd_T37 ps i).f1) ((rd_T37 ps i).f2)) else (impl_PumpAll.j1 (k + 1) res.1 (cs ++ [res.2]) came went res.2 ps (ps.length : Int) i false ((rd_T37 ps i).f0) ((rd_T37 ps i).f1) ((rd_T37 ps i).f2))) = impl_PumpAll.l0 k res.1 (cs ++ [res.2]) came2 went2 ps (ps.length : Int) (wrap64 (i + 1)) := by
      generalize (rd_T37 ps i).f0 = f at *
      generalize (rd_T37 ps i).f1 = t at *
      generalize (rd_T37 ps i).f2 = m at *
      simp only [impl_PumpAll.j1]
      by_cases c0 : res.2 = 0
      · have hm := m3 c0
        obtain ⟨q, hq⟩ := hm
        obtain ⟨q1, hq1⟩ := hs
        obtain ⟨u, hu⟩ := same_wrap (came + m)
        obtain ⟨v, hv⟩ := same_wrap (went + m)
        by_cases c1 : f < 0 <;> by_cases c2 : t < 0
        · refine ⟨wrap64 (came + m), wrap64 (went + m), ?_, fun k => by simp only [c0, c1, c2, if_true, decide_true, decide_false, if_false, Bool.false_eq_true]⟩
          rw [if_neg (by omega), if_neg (by omega)] at hq
          exact ⟨q + q1 - u + v, by omega⟩
        · refine ⟨wrap64 (came + m), went, ?_, fun k => by simp only [c0, c1, c2, if_true, decide_true, decide_false, if_false, Bool.false_eq_true]⟩
          rw [if_neg (by omega), if_pos (by omega)] at hq
          exact ⟨q + q1 - u, by omega⟩
        · refine ⟨came, wrap64 (went + m), ?_, fun k => by simp only [c0, c1, c2, if_true, decide_true, decide_false, if_false, Bool.false_eq_true]⟩
          rw [if_pos (by omega), if_neg (by omega)] at hq
          exact ⟨q + q1 + v, by omega⟩
        · refine ⟨came, went, ?_, fun k => by simp only [c0, c1, c2, if_true, decide_true, decide_false, if_false, Bool.false_eq_true]⟩
          rw [if_pos (by omega), if_pos (by omega)] at hq
          exact ⟨q + q1, by omega⟩
      · refine ⟨came, went, by rw [m2 c0]; exact hs, fun k => by rw [if_neg c0, if_neg (by simp), if_neg c0]⟩
    obtain ⟨l', cs', ca', we', h3, h4, h5, h6⟩ := ih res.1 (cs ++ [res.2]) came2 went2 (i + 1) (by omega) (by omega) (by omega) (by omega) (by simp; omega) hs2
    refine ⟨l', cs', ca', we', h3, h4, h5, fun k hk => ?_⟩
    obtain ⟨k, rfl⟩ : ∃ j, k = j + 2 := ⟨k - 2, by omega⟩
    simp only [impl_PumpAll.l0]
    rw [if_pos hlt, if_pos h0, if_pos hlt, hres (k + 1) (by omega), Option.bind_some, if_pos (by omega), Option.bind_some]
    rw [hj k, w64 (x := i + 1) (by omega) (by omega)]
    exact h6 k (by omega)
/-! ### the law -/
theorem at_eqQ (l : List Int) (i : Int) : laws_at.f l i = atK l i := rfl
theorem two_right (k : Nat) : impl_tanksRight.f (k + 5) [(⟨5, 9⟩ : S32), (⟨1, 3⟩ : S32)] = some true := by
  simp [impl_tanksRight.f, impl_Fuel_at_impl_tanksRight_1.f, impl_Fuel_at_impl_tanksRight_1_96.f, impl_Fuel_at_impl_tanksRight_1_96.l0, impl_tanksRight_1.f, impl_in.f, rd_T32, wrap64]
theorem two_pumped (k : Nat) (m : Int) (h0 : 1 ≤ m) (h1 : m ≤ 5) : impl_Pumped.f (k + 19) [(⟨5, 9⟩ : S32), (⟨1, 3⟩ : S32)] 0 1 m = some (if m ≤ 2 then ([(⟨5 - m, 9⟩ : S32), (⟨1 + m, 3⟩ : S32)], 0) else ([(⟨5, 9⟩ : S32), (⟨1, 3⟩ : S32)], 3)) := by
  unfold impl_Pumped.f
  rw [own_sameQ _ (by simp), two_right (k + 14), Option.bind_some, Option.bind_some, if_pos rfl, in_eqQ, in_eqQ, in_eqQ, decide_eq_true (by simp [wrap64]), decide_eq_true (by simp [wrap64]), decide_eq_true (by omega)]
  simp only [Option.bind_some, if_true, Bool.not_true]
  rw [if_neg (by omega)]
  simp only [impl_Pumped.j0, impl_Pumped.j1, impl_Pumped.j2]
  have e0 : rd_T32 [(⟨5, 9⟩ : S32), (⟨1, 3⟩ : S32)] 0 = ⟨5, 9⟩ := rfl
  have e1 : rd_T32 [(⟨5, 9⟩ : S32), (⟨1, 3⟩ : S32)] 1 = ⟨1, 3⟩ := rfl
  rw [if_neg (by simp), if_pos (by decide), if_pos (by decide), if_pos (by decide), e0, e1]
  dsimp only
  rw [decide_eq_false (by omega), if_neg (by simp), if_pos (by decide), if_pos (by decide), if_pos (by decide), w64 (x := 1 + m) (by omega) (by omega), w64 (x := 5 - m) (by omega) (by omega)]
  by_cases c : m ≤ 2
  · rw [if_neg (by omega), if_pos (by decide), if_pos (by decide), if_pos (by decide), Option.bind_some, if_pos (by decide), if_pos (by decide), if_pos (by simp), if_pos c]
    have e2 : rd_T32 ([(⟨5, 9⟩ : S32), (⟨1, 3⟩ : S32)].set (0 : Int).toNat (⟨5 - m, 9⟩ : S32)) 1 = ⟨1, 3⟩ := rfl
    rw [e2]
    dsimp only
    rw [w64 (x := 1 + m) (by omega) (by omega)]
    rfl
  · rw [if_pos (by omega), if_neg c]
theorem last_pump (c : List Int) (hb : Bytes c) (hc : c.length ≤ 1048576) (k : Nat) : laws_FnFuel.j1 (k + 20) c false = some true := by
  obtain ⟨a0, a1⟩ := atV_range hb (i := 0) (by omega)
  simp only [laws_FnFuel.j1]
  rw [if_neg (by simp), at_eqQ, at_some hb hc (by omega) (by omega)]
  simp only [Option.bind_some, tm a0]
  have hm0 : 0 ≤ atV c 0 % 5 := Int.emod_nonneg _ (by decide)
  have hm1 : atV c 0 % 5 < 5 := Int.emod_lt_of_pos _ (by decide)
  generalize atV c 0 % 5 = v at *
  rw [w64 (x := 1 + v) (by omega) (by omega), two_pumped k (1 + v) (by omega) (by omega), Option.bind_some]
  by_cases h : v < 2
  · rw [if_pos (show 1 + v ≤ 2 by omega)]
    have hl : ((((([⟨5 - (1 + v), 9⟩, ⟨1 + (1 + v), 3⟩] : List S32), (0 : Int)).1.length : Nat)) : Int) = 2 := rfl
    rw [if_pos h, if_pos rfl, hl, if_pos rfl, if_pos (by decide), if_pos (by decide)]
    have e0 : rd_T32 [(⟨5 - (1 + v), 9⟩ : S32), (⟨1 + (1 + v), 3⟩ : S32)] 0 = ⟨5 - (1 + v), 9⟩ := rfl
    have e1 : rd_T32 [(⟨5 - (1 + v), 9⟩ : S32), (⟨1 + (1 + v), 3⟩ : S32)] 1 = ⟨1 + (1 + v), 3⟩ := rfl
    dsimp only
    rw [e0, e1]
    dsimp only
    rw [w64 (by omega) (by omega), if_pos (by omega), decide_eq_true (by omega)]
  · rw [if_neg (show ¬ 1 + v ≤ 2 by omega)]
    have hl : ((((([⟨5, 9⟩, ⟨1, 3⟩] : List S32), (3 : Int)).1.length : Nat)) : Int) = 2 := rfl
    rw [if_neg h, if_pos rfl, hl, if_pos rfl, if_pos (by decide)]
    rfl
theorem fuel_sums (c : List Int) (hb : Bytes c) (hc : c.length ≤ 1048576) (ts : List S32) (ps : List S37) (l : List S32) (cs : List Int) (came went : Int) (hts : ts.length ≤ 1048576) (hl : l.length = ts.length) (hcs : cs.length = ps.length) (hs : Same (sumF l - sumF ts) (came - went)) (d : Nat) : ∀ (a b i : Int), 0 ≤ i → i ≤ ts.length → (ts.length : Int) - i = d → Same a (sumF (ts.take i.toNat)) → Same b (sumF (l.take i.toNat)) →
    ∀ k, laws_FnFuel.l0 (k + 22 + d) c ts ps l cs came went a b i = some true := by
  induction d with
  | zero =>
    intro a b i h0 h1 hd ha hb' k
    simp only [laws_FnFuel.l0]
    rw [if_neg (by omega), if_pos (by omega)]
    rw [List.take_of_length_le (by omega)] at ha hb'
    have : wrap64 (b - a) = wrap64 (came - went) := by
      apply wrap_same
      obtain ⟨q, hq⟩ := ha
      obtain ⟨r, hr⟩ := hb'
      obtain ⟨u, hu⟩ := hs
      exact ⟨u + r - q, by omega⟩
    rw [this, show (wrap64 (came - went) != wrap64 (came - went)) = false by simp]
    exact last_pump c hb hc (k + 1)
  | succ d ih =>
    intro a b i h0 h1 hd ha hb' k
    rw [show k + 22 + (d + 1) = (k + 22 + d) + 1 by omega]
    simp only [laws_FnFuel.l0]
    rw [if_pos (by omega), if_pos h0, if_pos (by omega), w64 (x := i + 1) (by omega) (by omega)]
    refine ih _ _ (i + 1) (by omega) (by omega) (by omega) ?_ ?_ k
    · rw [rd32_take h0 (by omega), sum_app]
      refine same_trans (same_wrap _) ?_
      obtain ⟨q, hq⟩ := ha
      exact ⟨q, by simp only [sumF]; omega⟩
    · rw [rd32_take h0 (by omega), sum_app]
      refine same_trans (same_wrap _) ?_
      obtain ⟨q, hq⟩ := hb'
      exact ⟨q, by simp only [sumF]; omega⟩
theorem FnFuel : laws_FnFuel.Pure := by
  intro c _ _ hbytes
  have hb := bytes_of hbytes
  refine ⟨5000, ?_⟩
  unfold laws_FnFuel.f laws_big.f
  rw [Option.bind_some]
  by_cases hc : c.length ≤ 1048576
  · rw [if_neg (by simp; omega)]
    obtain ⟨ts, ps, hts, hps, e1⟩ := all_drawn c hc
    rw [e1 5000 (by omega), Option.bind_some]
    dsimp only
    unfold impl_PumpAll.f
    rw [own_sameQ ts (by omega), Option.bind_some]
    by_cases h60 : (ps.length : Int) > 60
    · rw [if_pos h60, Option.bind_some, if_pos h60]
      rfl
    · rw [if_neg h60]
      obtain ⟨l', cs', ca, we, h3, h4, h5, h6⟩ := pumps_loop ps (by omega) ts (by omega) ps.length ts [] 0 0 0 (by omega) (by omega) (by omega) rfl rfl ⟨0, by omega⟩
      rw [h6 5000 (by omega), Option.bind_some, if_neg h60]
      dsimp only
      rw [if_pos (by omega)]
      have := fuel_sums c hb hc ts ps l' cs' ca we (by omega) h3 h4 h5 ts.length 0 0 0 (by omega) (by omega) (by omega) ⟨0, by simp [sumF]⟩ ⟨0, by simp [sumF]⟩ (5000 - 22 - ts.length)
      rw [show 5000 - 22 - ts.length + 22 + ts.length = 5000 by omega] at this
      exact this
  · rw [if_pos (by simp; omega)]

end Go.Proofs.Ytlphfhibnbhkfaa.Pure
