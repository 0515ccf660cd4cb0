/- Along drawn signals a drawn hoist that is not going up with too much stays between its ends, never goes up with too much, and behind a stop stands till it was reset and let go: for each byte list as code. -/
import Derived.Test.YtpkhhoecfpjnjaaPFnHoistsx8
import Derived.Test.YtpkhhoecfpjnjaaVHoistsKit
set_option linter.unusedVariables false
set_option linter.unusedSimpArgs false
namespace Go.Proofs.Ytpkhhoecfpjnjaa.Pure
open Go.RowKit Go.Proofs.Ytpkhhoecfpjnjaa.PFnHoists Go.Proofs.YtpkhhoecfpjnjaaW.PrintWords Go.Proofs.YtpkhhoecfpjnjaaW.PrintLast Go.Proofs.YtpkhhoecfpjnjaaW.PrintMore Go.Proofs.YtpkhhoecfpjnjaaW.Kit

theorem mask_nat (x : Int) (i : Nat) (hi : i ≤ 62) : Go.bits .and .i64 x ((2 ^ i - 1 : Nat) : Int) = x % ((2 ^ i : Nat) : Int) := by
  have hp : 0 < 2 ^ i := Nat.two_pow_pos i
  have h62 : 2 ^ i ≤ 2 ^ 62 := Nat.pow_le_pow_right (by decide) hi
  have e62 : (2 : Nat) ^ 62 = 4611686018427387904 := by decide
  rw [e62] at h62
  have hm : (2 ^ i - 1) % 2 ^ 64 = 2 ^ i - 1 := Nat.mod_eq_of_lt (by have : (2:Nat)^64 = 18446744073709551616 := by decide
                                                                     omega)
  have hd : ((2 ^ i : Nat) : Int) ∣ 18446744073709551616 := by
    have : (2 : Nat) ^ i ∣ 2 ^ 64 := Nat.pow_dvd_pow 2 (by omega)
    have h2 : (2 : Nat) ^ 64 = 18446744073709551616 := by decide
    rw [h2] at this
    exact Int.natCast_dvd_natCast.2 this
  show IntKind.i64.wrap ((BitVec.ofInt 64 x &&& BitVec.ofInt 64 ((2 ^ i - 1 : Nat) : Int)).toNat : Int) = _
  rw [BitVec.toNat_and, BitVec.ofInt_natCast, BitVec.toNat_ofNat, hm, Nat.and_two_pow_sub_one_eq_mod, BitVec.toNat_ofInt, IntKind.wrap_i64]
  have hx : 0 ≤ x % 18446744073709551616 := Int.emod_nonneg _ (by decide)
  have e : (((x % ((2 ^ 64 : Nat) : Int)).toNat % 2 ^ i : Nat) : Int) = x % ((2 ^ i : Nat) : Int) := by
    rw [Int.natCast_emod, show (((2 ^ 64 : Nat) : Int)) = 18446744073709551616 by decide, Int.toNat_of_nonneg hx, Int.emod_emod_of_dvd _ hd]
  rw [e]
  have h1 := Int.emod_nonneg x (show ((2 ^ i : Nat) : Int) ≠ 0 by omega)
  have h2 := Int.emod_lt_of_pos x (show (0 : Int) < ((2 ^ i : Nat) : Int) by omega)
  generalize x % ((2 ^ i : Nat) : Int) = r at h1 h2 ⊢
  omega
theorem mask24 (x : Int) : Go.bits .and .i64 x 16777215 = x % 16777216 := mask_nat x 24 (by decide)
theorem mask16 (x : Int) : Go.bits .and .i64 x 65535 = x % 65536 := mask_nat x 16 (by decide)
theorem mask8 (x : Int) : Go.bits .and .i64 x 255 = x % 256 := mask_nat x 8 (by decide)
theorem mask30 (x : Int) : Go.bits .and .i64 x 1073741823 = x % 1073741824 := mask_nat x 30 (by decide)
/-! ### the drawn values: a place in the bytes that stays in its row, and values that stay in their range -/
/-- The cursor's place is in the row. -/
def InRow (c : List Int) (p : Int) : Prop := 0 ≤ p ∧ p ≤ (c.length : Int)
theorem new_loop (c : List Int) (hc : c.length ≤ 1048576) (d : Nat) : ∀ (s i : Int), 0 ≤ i → i ≤ 4000 → 4000 - i = d → ∃ r, ∀ k, d < k → spec_l1New.l0 k c s i = some (c, 0, r) := by
  induction d with
  | zero =>
    intro s i h0 h1 hd
    refine ⟨s, fun k hk => ?_⟩
    obtain ⟨k, rfl⟩ := pos_round (show 0 < k by omega)
    simp only [spec_l1New.l0]
    by_cases h : i < (c.length : Int)
    · rw [if_pos h, if_neg (by omega)]
    · rw [if_neg h]
  | succ d ih =>
    intro s i h0 h1 hd
    by_cases h : i < (c.length : Int)
    · obtain ⟨r, hr⟩ := ih (Go.bits .and .i64 (wrap64 ((wrap64 ((wrap64 (s * 131)) + (wrap64 (rd c i)))) + 7)) 1073741823) (i + 1) (by omega) (by omega) (by omega)
      refine ⟨r, fun k hk => ?_⟩
      obtain ⟨k, rfl⟩ := pos_round (show 0 < k by omega)
      simp only [spec_l1New.l0]
      rw [if_pos h, if_pos (by omega), if_pos h0, w64 (x := i + 1) (by omega) (by omega)]
      exact hr k (by omega)
    · refine ⟨s, fun k hk => ?_⟩
      obtain ⟨k, rfl⟩ := pos_round (show 0 < k by omega)
      simp only [spec_l1New.l0]
      rw [if_neg h]
theorem new_ok (c : List Int) (hc : c.length ≤ 1048576) : ∃ r, ∀ k, 4000 < k → spec_l1New.f k c = some (c, 0, r) := by
  obtain ⟨r, hr⟩ := new_loop c hc 4000 (wrap64 (59059 + (c.length : Int))) 0 (by omega) (by omega) (by omega)
  exact ⟨r, hr⟩
theorem byte_ok (c : List Int) (hc : c.length ≤ 1048576) {p : Int} (hp : InRow c p) (s : Int) : ∃ b p' s', spec_l1Byte.f c p s = some (b, p', s') ∧ 0 ≤ b ∧ b ≤ 255 ∧ InRow c p' := by
  unfold spec_l1Byte.f
  obtain ⟨h0, h1⟩ := hp
  by_cases h : p < (c.length : Int)
  · rw [if_pos h, if_pos h0, w64 (x := p + 1) (by omega) (by omega)]
    refine ⟨_, _, _, rfl, ?_, ?_, by constructor <;> omega⟩ <;> rw [mask8] <;> omega
  · rw [if_neg h]
    refine ⟨_, _, _, rfl, ?_, ?_, by constructor <;> omega⟩ <;> rw [mask8] <;> omega
theorem below_ok (c : List Int) (hc : c.length ≤ 1048576) {p : Int} (hp : InRow c p) (s : Int) (n : Int) : ∃ r p' s', spec_l1Below.f c p s n = some (r, p', s') ∧ 0 ≤ r ∧ (0 < n → r < n) ∧ (n ≤ 0 → r = 0) ∧ InRow c p' := by
  unfold spec_l1Below.f
  by_cases h : n ≤ 0
  · rw [if_pos h]
    exact ⟨0, p, s, rfl, by omega, by omega, fun _ => rfl, hp⟩
  · rw [if_neg h]
    by_cases h2 : n ≤ 256
    · obtain ⟨b, p1, s1, e, b0, b1, hp1⟩ := byte_ok c hc hp s
      rw [if_pos h2, e, Option.bind_some, if_neg (by omega)]
      refine ⟨_, _, _, rfl, ?_, ?_, fun _ => by omega, hp1⟩ <;> rw [tm b0]
      · exact Int.emod_nonneg _ (by omega)
      · intro _; exact Int.emod_lt_of_pos _ (by omega)
    · obtain ⟨b, p1, s1, e, b0, b1, hp1⟩ := byte_ok c hc hp s
      obtain ⟨b', p2, s2, e2, b0', b1', hp2⟩ := byte_ok c hc hp1 s1
      obtain ⟨b'', p3, s3, e3, b0'', b1'', hp3⟩ := byte_ok c hc hp2 s2
      obtain ⟨b3, p4, s4, e4, b03, b13, hp4⟩ := byte_ok c hc hp3 s3
      rw [if_neg h2, e, Option.bind_some]
      dsimp only
      rw [e2, Option.bind_some]
      dsimp only
      rw [e3, Option.bind_some]
      dsimp only
      rw [e4, Option.bind_some, if_neg (by omega)]
      dsimp only
      rw [w64 (x := b * 16777216) (by omega) (by omega), w64 (x := b' * 65536) (by omega) (by omega), w64 (x := b'' * 256) (by omega) (by omega), w64 (x := b * 16777216 + b' * 65536) (by omega) (by omega), w64 (x := b * 16777216 + b' * 65536 + b'' * 256) (by omega) (by omega), w64 (by omega) (by omega), tm (by omega)]
      exact ⟨_, _, _, rfl, Int.emod_nonneg _ (by omega), fun _ => Int.emod_lt_of_pos _ (by omega), fun _ => by omega, hp4⟩
theorem pickI_ok (c : List Int) (hc : c.length ≤ 1048576) {p : Int} (hp : InRow c p) (s : Int) (l : List Int) (hl : 0 < l.length) : ∃ r p' s', spec_l1PickInt.f c p s l = some (r, p', s') ∧ r ∈ l ∧ InRow c p' := by
  obtain ⟨b, p1, s1, e, b0, b1, _, hp1⟩ := below_ok c hc hp s (l.length : Int)
  have := b1 (by omega)
  unfold spec_l1PickInt.f
  rw [e, Option.bind_some]
  dsimp only
  rw [if_pos b0, if_pos this]
  exact ⟨_, _, _, rfl, rd_mem b0 this, hp1⟩
/-! ### the numbers behind the draws: from each state each other is come to -/
/-- One step, without bounds. -/
def Fn : Nat → Int → Int
  | 0, x => x
  | n + 1, x => Fn n (6364136223846793005 * x + 1442695040888963407)
theorem Fn_add (n m : Nat) : ∀ x, Fn (n + m) x = Fn m (Fn n x) := by
  induction n with
  | zero => intro x; rw [Nat.zero_add]; rfl
  | succ n ih => intro x; rw [Nat.succ_add]; exact ih _
theorem Fn_off (n : Nat) : ∀ x d, Fn n (x + d) = Fn n x + 6364136223846793005 ^ n * d := by
  induction n with
  | zero => intro x d; simp [Fn]
  | succ n ih =>
    intro x d
    show Fn n (6364136223846793005 * (x + d) + 1442695040888963407) = Fn n (6364136223846793005 * x + 1442695040888963407) + _
    rw [show 6364136223846793005 * (x + d) + 1442695040888963407 = (6364136223846793005 * x + 1442695040888963407) + 6364136223846793005 * d by omega, ih, Int.pow_succ, Int.mul_assoc]
theorem pow_four (n : Nat) : ∃ w : Int, 6364136223846793005 ^ n = 1 + 4 * w := by
  induction n with
  | zero => exact ⟨0, by simp⟩
  | succ n ih =>
    obtain ⟨w, hw⟩ := ih
    refine ⟨w + 1591034055961698251 + 4 * (w * 1591034055961698251), ?_⟩
    rw [Int.pow_succ, hw]
    omega
theorem Fn_dbl (k : Nat) : ∀ x : Int, ∃ u : Int, Fn (2 ^ k) x = x + 2 ^ k * u ∧ u % 2 = 1 := by
  induction k with
  | zero =>
    intro x
    refine ⟨6364136223846793004 * x + 1442695040888963407, ?_, by omega⟩
    show 6364136223846793005 * x + 1442695040888963407 = x + 1 * _
    omega
  | succ k ih =>
    intro x
    obtain ⟨u, hu, h1⟩ := ih x
    obtain ⟨w, hw⟩ := pow_four (2 ^ k)
    refine ⟨u * (1 + 2 * w), ?_, ?_⟩
    · rw [Nat.pow_succ, Nat.mul_two, Fn_add, hu, Fn_off, hu, hw, Int.pow_succ]
      generalize (2 : Int) ^ k = P
      rw [show (1 + 4 * w) * (P * u) = P * u + 4 * (w * (P * u)) by rw [Int.add_mul, Int.one_mul, Int.mul_assoc], show P * 2 * (u * (1 + 2 * w)) = 2 * (P * u) + 4 * (w * (P * u)) by
        rw [Int.mul_add, Int.mul_one, Int.mul_add, show P * 2 * u = 2 * (P * u) by rw [Int.mul_comm P 2, Int.mul_assoc], show P * 2 * (u * (2 * w)) = 4 * (w * (P * u)) by
          rw [Int.mul_comm P 2, Int.mul_assoc, ← Int.mul_assoc u 2 w, Int.mul_comm u 2, Int.mul_assoc 2 u w, ← Int.mul_assoc P 2, Int.mul_comm P 2, Int.mul_assoc 2 P, ← Int.mul_assoc P u w, Int.mul_comm (P * u) w]
          omega]]
      omega
    · obtain ⟨p, rfl⟩ : ∃ p, u = 2 * p + 1 := ⟨u / 2, by omega⟩
      rw [show (2 * p + 1) * (1 + 2 * w) = 2 * (p * (1 + 2 * w) + w) + 1 by
        rw [Int.add_mul, Int.mul_assoc]; omega]
      omega
theorem Fn_reach (k : Nat) : ∀ x t : Int, ∃ (n : Nat) (q : Int), Fn n x = t + 2 ^ k * q := by
  induction k with
  | zero => intro x t; exact ⟨0, x - t, by show x = t + 1 * (x - t); omega⟩
  | succ k ih =>
    intro x t
    obtain ⟨n, q, h⟩ := ih x t
    by_cases e : q % 2 = 0
    · obtain ⟨p, rfl⟩ : ∃ p, q = 2 * p := ⟨q / 2, by omega⟩
      exact ⟨n, p, by rw [h, Int.pow_succ, Int.mul_assoc]⟩
    · obtain ⟨u, hu, h1⟩ := Fn_dbl k (Fn n x)
      obtain ⟨p, hp⟩ : ∃ p, q + u = 2 * p := ⟨(q + u) / 2, by omega⟩
      refine ⟨n + 2 ^ k, p, ?_⟩
      rw [Fn_add, hu, h, Int.pow_succ, Int.mul_assoc, ← hp, Int.mul_add, Int.add_assoc]
/-- The state behind one byte. -/
def nx (s : Int) : Int := wrap64 ((wrap64 (s * 6364136223846793005)) + 1442695040888963407)
def nxn : Nat → Int → Int
  | 0, s => s
  | n + 1, s => nxn n (nx s)
theorem nxn_add (n m : Nat) : ∀ s, nxn (n + m) s = nxn m (nxn n s) := by
  induction n with
  | zero => intro s; rw [Nat.zero_add]; rfl
  | succ n ih => intro s; rw [Nat.succ_add]; exact ih _
def In64 (s : Int) : Prop := -9223372036854775808 ≤ s ∧ s ≤ 9223372036854775807
theorem nx_in (s : Int) : In64 (nx s) := by unfold nx wrap64 In64; omega
theorem nx_F (s : Int) : ∃ q : Int, nx s = (6364136223846793005 * s + 1442695040888963407) + 18446744073709551616 * q := by
  unfold nx wrap64
  exact ⟨((s * 6364136223846793005 + 9223372036854775808) % 18446744073709551616 - 9223372036854775808 + 1442695040888963407 + 9223372036854775808) % 18446744073709551616 / 18446744073709551616 - (s * 6364136223846793005 + 9223372036854775808) / 18446744073709551616 - ((s * 6364136223846793005 + 9223372036854775808) % 18446744073709551616 - 9223372036854775808 + 1442695040888963407 + 9223372036854775808) / 18446744073709551616, by omega⟩
theorem nxn_F (n : Nat) : ∀ s, In64 s → In64 (nxn n s) ∧ ∃ q : Int, nxn n s = Fn n s + 18446744073709551616 * q := by
  induction n with
  | zero => intro s hs; exact ⟨hs, 0, by simp [nxn, Fn]⟩
  | succ n ih =>
    intro s _
    obtain ⟨h, q, hq⟩ := ih (nx s) (nx_in s)
    refine ⟨h, ?_⟩
    obtain ⟨p, hp⟩ := nx_F s
    refine ⟨q + 6364136223846793005 ^ n * p, ?_⟩
    show nxn n (nx s) = Fn n (6364136223846793005 * s + 1442695040888963407) + _
    rw [hq, hp, Fn_off, Int.mul_add, show (6364136223846793005 : Int) ^ n * (18446744073709551616 * p) = 18446744073709551616 * (6364136223846793005 ^ n * p) by rw [← Int.mul_assoc, Int.mul_comm _ 18446744073709551616, Int.mul_assoc]]
    omega
theorem nx_reach (s t : Int) (ht : In64 t) : ∃ n, nxn n (nx s) = t := by
  obtain ⟨n, q, h⟩ := Fn_reach 64 (nx s) t
  obtain ⟨hr, p, hp⟩ := nxn_F n (nx s) (nx_in s)
  refine ⟨n, ?_⟩
  rw [h] at hp
  have : (2 : Int) ^ 64 = 18446744073709551616 := by decide
  rw [this] at hp
  unfold In64 at *
  omega
/-! ### the draws, step by step: each byte is one step of the numbers -/
def adv (c : List Int) : Nat → Int → Int
  | 0, p => p
  | n + 1, p => adv c n (if p < (c.length : Int) then p + 1 else p)
theorem adv_in (c : List Int) (n : Nat) : ∀ p, InRow c p → InRow c (adv c n p) := by
  induction n with
  | zero => intro p h; exact h
  | succ n ih =>
    intro p h
    refine ih _ ?_
    unfold InRow at *
    split <;> omega
theorem adv_add (c : List Int) (n m : Nat) : ∀ p, adv c (n + m) p = adv c m (adv c n p) := by
  induction n with
  | zero => intro p; rw [Nat.zero_add]; rfl
  | succ n ih => intro p; rw [Nat.succ_add]; exact ih _
theorem adv_len (c : List Int) (n : Nat) : adv c n (c.length : Int) = (c.length : Int) := by
  induction n with
  | zero => rfl
  | succ n ih => show adv c n (if _ then _ else _) = _; rw [if_neg (by omega), ih]
theorem adv_le (c : List Int) (n : Nat) : ∀ p, p ≤ adv c n p := by
  induction n with
  | zero => intro p; exact Int.le_refl _
  | succ n ih =>
    intro p
    have := ih (if p < (c.length : Int) then p + 1 else p)
    show p ≤ adv c n (if p < (c.length : Int) then p + 1 else p)
    split at this
    · rename_i h; rw [if_pos h]; omega
    · rename_i h; rw [if_neg h]; exact this
theorem adv_lt (c : List Int) (n : Nat) (p : Int) (h : p < (c.length : Int)) : p < adv c (n + 1) p := by
  show p < adv c n (if p < (c.length : Int) then p + 1 else p)
  rw [if_pos h]
  have := adv_le c n (p + 1)
  omega
/-- The byte that a state yields where the code's bytes are used up. -/
def by8 (s : Int) : Int := Go.bits .and .i64 (Go.bits .xor .i64 ((nx s) / 8589934592) ((nx s) / 35184372088832)) 255
theorem byte_st (c : List Int) (hc : c.length ≤ 1048576) {p : Int} (hp : InRow c p) (s : Int) : ∃ b, spec_l1Byte.f c p s = some (b, adv c 1 p, nx s) ∧ 0 ≤ b ∧ b ≤ 255 ∧ (p = (c.length : Int) → b = by8 s) := by
  unfold spec_l1Byte.f
  obtain ⟨h0, h1⟩ := hp
  by_cases h : p < (c.length : Int)
  · rw [if_pos h, if_pos h0, w64 (x := p + 1) (by omega) (by omega)]
    refine ⟨_, by show some (_, _, _) = some (_, adv c 0 (if _ then _ else _), _); rw [if_pos h]; rfl, ?_, ?_, fun e => by omega⟩ <;> rw [mask8] <;> omega
  · rw [if_neg h]
    refine ⟨_, by show some (_, _, _) = some (_, adv c 0 (if _ then _ else _), _); rw [if_neg h]; rfl, ?_, ?_, fun _ => rfl⟩ <;> unfold by8 <;> rw [mask8] <;> omega
theorem below_st (c : List Int) (hc : c.length ≤ 1048576) {p : Int} (hp : InRow c p) (s n : Int) (h1 : 1 ≤ n) (h2 : n ≤ 256) : ∃ r, spec_l1Below.f c p s n = some (r, adv c 1 p, nx s) ∧ 0 ≤ r ∧ r < n ∧ (p = (c.length : Int) → r = by8 s % n) := by
  obtain ⟨b, e, b0, b1, b2⟩ := byte_st c hc hp s
  unfold spec_l1Below.f
  rw [if_neg (by omega), if_pos h2, e, Option.bind_some, if_neg (by omega)]
  dsimp only
  rw [tm b0]
  exact ⟨_, rfl, Int.emod_nonneg _ (by omega), Int.emod_lt_of_pos _ (by omega), fun h => by rw [b2 h]⟩
theorem below_at (c : List Int) (hc : c.length ≤ 1048576) {p : Int} (hp : InRow c p) (s : Int) (j : Nat) (n : Int) (h1 : 1 ≤ n) (h2 : n ≤ 256) : ∃ r, spec_l1Below.f c (adv c j p) (nxn j s) n = some (r, adv c (j + 1) p, nxn (j + 1) s) ∧ 0 ≤ r ∧ r < n ∧ (p = (c.length : Int) → r = by8 (nxn j s) % n) := by
  obtain ⟨r, e, r0, r1, r2⟩ := below_st c hc (adv_in c j p hp) (nxn j s) n h1 h2
  refine ⟨r, ?_, r0, r1, fun h => r2 (by rw [h, adv_len])⟩
  rw [e, adv_add, nxn_add]; rfl
theorem pickI_at (c : List Int) (hc : c.length ≤ 1048576) {p : Int} (hp : InRow c p) (s : Int) (j : Nat) (l : List Int) (hl : 0 < l.length) (hl2 : l.length ≤ 256) : ∃ r, spec_l1PickInt.f c (adv c j p) (nxn j s) l = some (r, adv c (j + 1) p, nxn (j + 1) s) := by
  obtain ⟨b, e, b0, b1, _⟩ := below_at c hc hp s j (l.length : Int) (by omega) (by omega)
  unfold spec_l1PickInt.f
  rw [e, Option.bind_some]
  dsimp only
  rw [if_pos b0, if_pos b1]
  exact ⟨_, rfl⟩
/-- A state from which a hoist is drawn that is taken. -/
def goodS (s : Int) : Bool := decide (5 ≤ by8 (nxn 7 s) % 30) && !(decide (by8 (nxn 1 s) % 4 = 1) && decide (by8 (nxn 2 s) % 30 > 10 + by8 (nxn 4 s) % 15))
/-- What a hoist must be, and what it must not do. -/
def HOK (st ld he lo hi li re : Int) : Prop := (0 ≤ st ∧ st ≤ 3) ∧ (0 ≤ lo ∧ lo ≤ he) ∧ (he ≤ hi ∧ hi ≤ 10000) ∧ (0 ≤ ld ∧ ld ≤ 1000000) ∧ (0 ≤ li ∧ li ≤ 1000000) ∧ (0 ≤ re ∧ re ≤ 1)
def Takes (st ld he lo hi li re : Int) : Prop := HOK st ld he lo hi li re ∧ ¬ (st = 1 ∧ ld > li)
theorem hoist_st (c : List Int) (hc : c.length ≤ 1048576) {p : Int} (hp : InRow c p) (s : Int) : ∃ st ld he lo hi li re m, spec_l20DrawHoist.f c p s = some (st, ld, he, lo, hi, li, re, adv c m p, nxn m s) ∧ (m = 8 ∨ m = 9) ∧ (p = (c.length : Int) → goodS s = true → Takes st ld he lo hi li re) := by
  obtain ⟨v1, e1, l1, u1, x1⟩ := below_at c hc hp s 0 5 (by omega) (by omega)
  obtain ⟨v2, e2, l2, u2, x2⟩ := below_at c hc hp s 1 4 (by omega) (by omega)
  obtain ⟨v3, e3, l3, u3, x3⟩ := below_at c hc hp s 2 30 (by omega) (by omega)
  obtain ⟨v4, e4, l4, u4, x4⟩ := below_at c hc hp s 3 5 (by omega) (by omega)
  obtain ⟨v5, e5, l5, u5, x5⟩ := below_at c hc hp s 4 15 (by omega) (by omega)
  obtain ⟨v6, e6, l6, u6, x6⟩ := below_at c hc hp s 5 2 (by omega) (by omega)
  obtain ⟨v7, e7, l7, u7, x7⟩ := below_at c hc hp s 6 4 (by omega) (by omega)
  obtain ⟨v8, e8, l8, u8, x8⟩ := below_at c hc hp s 7 30 (by omega) (by omega)
  obtain ⟨p1, q1⟩ := pickI_at c hc hp s 8 [(-1), 4] (by decide) (by decide)
  obtain ⟨p2, q2⟩ := pickI_at c hc hp s 8 [(-1), 1000000, 1000001] (by decide) (by decide)
  obtain ⟨p3, q3⟩ := pickI_at c hc hp s 8 [10000, 10001] (by decide) (by decide)
  rw [show spec_l20DrawHoist.f c p s = spec_l20DrawHoist.f c (adv c 0 p) (nxn 0 s) from rfl]
  simp only [Nat.reduceAdd] at e1 e2 e3 e4 e5 e6 e7 e8 q1 q2 q3
  have fin : ∀ e : v8 = 0 ∨ v8 = 1 ∨ v8 = 2 ∨ v8 = 3 ∨ v8 = 4, ∀ {R : Prop}, p = (c.length : Int) → goodS s = true → R := by
    intro e R h g
    exfalso
    have := x8 h
    unfold goodS at g
    simp only [Bool.and_eq_true, decide_eq_true_eq] at g
    have g1 := g.1
    omega
  unfold spec_l20DrawHoist.f
  rw [e1, Option.bind_some]; dsimp only
  rw [e2, Option.bind_some]; dsimp only
  rw [e3, Option.bind_some]; dsimp only
  rw [e4, Option.bind_some]; dsimp only
  rw [e5, Option.bind_some]; dsimp only
  rw [e6, Option.bind_some]; dsimp only
  rw [e7, Option.bind_some]; dsimp only
  rw [e8, Option.bind_some]; dsimp only
  by_cases c0 : v8 = 0
  · rw [if_pos c0, q1, Option.bind_some]
    exact ⟨_, _, _, _, _, _, _, 9, rfl, .inr rfl, fun h g => fin (by omega) h g⟩
  rw [if_neg c0]
  by_cases c1 : v8 = 1
  · rw [if_pos c1]
    exact ⟨_, _, _, _, _, _, _, 8, rfl, .inl rfl, fun h g => fin (by omega) h g⟩
  rw [if_neg c1]
  by_cases c2 : v8 = 2
  · rw [if_pos c2, q2, Option.bind_some]
    exact ⟨_, _, _, _, _, _, _, 9, rfl, .inr rfl, fun h g => fin (by omega) h g⟩
  rw [if_neg c2]
  by_cases c3 : v8 = 3
  · rw [if_pos c3]
    exact ⟨_, _, _, _, _, _, _, 8, rfl, .inl rfl, fun h g => fin (by omega) h g⟩
  rw [if_neg c3]
  by_cases c4 : v8 = 4
  · rw [if_pos c4, q3, Option.bind_some]
    exact ⟨_, _, _, _, _, _, _, 9, rfl, .inr rfl, fun h g => fin (by omega) h g⟩
  rw [if_neg c4, w64 (x := v1 + v4) (by omega) (by omega), w64 (x := v1 + v4 + v7) (by omega) (by omega), w64 (x := 10 + v5) (by omega) (by omega)]
  refine ⟨_, _, _, _, _, _, _, 8, rfl, .inl rfl, fun h g => ⟨by unfold HOK; omega, ?_⟩⟩
  have y2 := x2 h
  have y3 := x3 h
  have y5 := x5 h
  unfold goodS at g
  simp only [Bool.and_eq_true, Bool.not_eq_true', Bool.and_eq_false_iff, decide_eq_false_iff_not, decide_eq_true_eq] at g
  have g2 := g.2
  omega
theorem in_okH (a b c : Int) : spec_l1In.f a b c = some (decide (b ≤ a ∧ a ≤ c)) := in_some a b c
theorem inI_okH (a b c : Int) : impl_in.f a b c = some (decide (b ≤ a ∧ a ≤ c)) := in_some a b c
theorem hok_spec (st ld he lo hi li re : Int) : ∃ b, spec_HoistOk.f st ld he lo hi li re = some b ∧ (b = true ↔ HOK st ld he lo hi li re) := by
  unfold spec_HoistOk.f HOK
  simp only [in_okH, Option.bind_some, decide_eq_true_eq]
  by_cases c1 : 0 ≤ st ∧ st ≤ 3
  · rw [if_pos c1]
    by_cases c2 : 0 ≤ lo ∧ lo ≤ he
    · rw [if_pos c2]
      by_cases c3 : he ≤ hi ∧ hi ≤ 10000
      · rw [if_pos c3]
        by_cases c4 : 0 ≤ ld ∧ ld ≤ 1000000
        · rw [if_pos c4]
          by_cases c5 : 0 ≤ li ∧ li ≤ 1000000
          · rw [if_pos c5]; exact ⟨_, rfl, (by simp only [decide_eq_true_eq]; exact ⟨fun h => ⟨c1, c2, c3, c4, c5, h⟩, fun h => h.2.2.2.2.2⟩)⟩
          · rw [if_neg c5]; exact ⟨_, rfl, ⟨(fun h => by cases h), fun h => absurd h.2.2.2.2.1 c5⟩⟩
        · rw [if_neg c4]; exact ⟨_, rfl, ⟨(fun h => by cases h), fun h => absurd h.2.2.2.1 c4⟩⟩
      · rw [if_neg c3]; exact ⟨_, rfl, ⟨(fun h => by cases h), fun h => absurd h.2.2.1 c3⟩⟩
    · rw [if_neg c2]; exact ⟨_, rfl, ⟨(fun h => by cases h), fun h => absurd h.2.1 c2⟩⟩
  · rw [if_neg c1]; exact ⟨_, rfl, ⟨(fun h => by cases h), fun h => absurd h.1 c1⟩⟩
theorem hok_impl {st ld he lo hi li re : Int} (h : HOK st ld he lo hi li re) : impl_HoistOk.f st ld he lo hi li re = some true := by
  obtain ⟨h1, h2, h3, h4, h5, h6⟩ := h
  unfold impl_HoistOk.f
  simp only [inI_okH, Option.bind_some, decide_eq_true_eq]
  rw [if_pos h1, if_pos h2, if_pos (by omega), if_pos h3.2, if_pos h4, if_pos h5, decide_eq_true h6]
/-! ### the list of signals, and a hoist that is taken in the end -/
theorem signal_ok (c : List Int) (hc : c.length ≤ 1048576) {p : Int} (hp : InRow c p) (s : Int) : ∃ a b p' s', spec_l20DrawSignal.f c p s = some (a, b, p', s') ∧ InRow c p' := by
  unfold spec_l20DrawSignal.f
  obtain ⟨v1, p1, s1, e1, _, _, _, h1⟩ := below_ok c hc hp s 7
  obtain ⟨v2, p2, s2, e2, _, _, _, h2⟩ := below_ok c hc h1 s1 30
  obtain ⟨v3, p3, s3, e3, _, _, _, h3⟩ := below_ok c hc h2 s2 30
  obtain ⟨v4, p4, s4, e4, _, h4⟩ := pickI_ok c hc h3 s3 [0, 8] (by decide)
  obtain ⟨v5, p5, s5, e5, _, h5⟩ := pickI_ok c hc h3 s3 [(-1), 1000000, 1000001] (by decide)
  rw [e1, Option.bind_some]; dsimp only
  rw [e2, Option.bind_some]; dsimp only
  rw [e3, Option.bind_some]; dsimp only
  by_cases c0 : v3 = 0
  · rw [if_pos c0, e4, Option.bind_some]; exact ⟨_, _, _, _, rfl, h4⟩
  · rw [if_neg c0]
    by_cases c1 : v3 = 1
    · rw [if_pos c1, e5, Option.bind_some]; exact ⟨_, _, _, _, rfl, h5⟩
    · rw [if_neg c1]; exact ⟨_, _, _, _, rfl, h3⟩
theorem signals_ok (c : List Int) (hc : c.length ≤ 1048576) (st ld he lo hi li re : Int) (d : Nat) : ∀ (l : List S56) (i p s : Int), 0 ≤ i → i = d → InRow c p → l.length + d ≤ 1000 → ∃ l', l'.length ≤ 1000 ∧ ∀ k, d < k → spec_DrawHoist.l1 k l i c p s st ld he lo hi li re = some (st, ld, he, lo, hi, li, re, l') := by
  induction d with
  | zero =>
    intro l i p s h0 hd hp hl
    refine ⟨l, by omega, fun k hk => ?_⟩
    obtain ⟨k, rfl⟩ := pos_round (show 0 < k by omega)
    simp only [spec_DrawHoist.l1]
    rw [if_neg (by omega)]
  | succ d ih =>
    intro l i p s h0 hd hp hl
    obtain ⟨a, b, p', s', e, hp'⟩ := signal_ok c hc hp s
    obtain ⟨l', hl', hk'⟩ := ih (l ++ [(⟨a, b⟩ : S56)]) (i - 1) p' s' (by omega) (by omega) hp' (by simp; omega)
    refine ⟨l', hl', fun k hk => ?_⟩
    obtain ⟨k, rfl⟩ := pos_round (show 0 < k by omega)
    simp only [spec_DrawHoist.l1]
    rw [if_pos (by omega), e, Option.bind_some]
    dsimp only
    rw [if_pos (by omega), w64 (x := i - 1) (by omega) (by omega)]
    exact hk' k (by omega)
/-- The loop comes to a hoist that is taken. -/
def Ends (c : List Int) (p s st ld he lo hi li re : Int) : Prop :=
  ∃ (K : Nat) (st' ld' he' lo' hi' li' re' : Int) (l : List S56), Takes st' ld' he' lo' hi' li' re' ∧ l.length ≤ 1000 ∧ ∀ k, K < k → spec_DrawHoist.l0 k c p s st ld he lo hi li re = some (st', ld', he', lo', hi', li', re', l)
theorem ends_now (c : List Int) (hc : c.length ≤ 1048576) {p s st ld he lo hi li re : Int} (hp : InRow c p) (h : Takes st ld he lo hi li re) : Ends c p s st ld he lo hi li re := by
  obtain ⟨v, p', s', e, v0, v1, _, hp'⟩ := below_ok c hc hp s 40
  obtain ⟨l, hl, hk⟩ := signals_ok c hc st ld he lo hi li re v.toNat [] v p' s' v0 (by omega) hp' (by simp; omega)
  refine ⟨100, st, ld, he, lo, hi, li, re, l, h, hl, fun k hk2 => ?_⟩
  obtain ⟨k, rfl⟩ : ∃ j, k = j + 2 := ⟨k - 2, by omega⟩
  obtain ⟨b, hb, hb1⟩ := hok_spec st ld he lo hi li re
  have : b = true := hb1.2 h.1
  subst this
  have hj : spec_DrawHoist.j1 (k + 1) c p s st ld he lo hi li re = some (st, ld, he, lo, hi, li, re, l) := by
    simp only [spec_DrawHoist.j1]
    rw [e, Option.bind_some]
    exact hk k (by omega)
  simp only [spec_DrawHoist.l0]
  rw [hb, Option.bind_some, if_pos rfl, hj]
  by_cases c1 : st = 1
  · rw [if_pos c1, if_neg (fun h2 => h.2 ⟨c1, h2⟩)]
  · rw [if_neg c1]
theorem ends_next (c : List Int) {p s st ld he lo hi li re p' s' st' ld' he' lo' hi' li' re' : Int} (hn : ¬ Takes st ld he lo hi li re) (e : spec_l20DrawHoist.f c p s = some (st', ld', he', lo', hi', li', re', p', s')) (h : Ends c p' s' st' ld' he' lo' hi' li' re') : Ends c p s st ld he lo hi li re := by
  obtain ⟨K, a1, a2, a3, a4, a5, a6, a7, l, ht, hl, hk⟩ := h
  refine ⟨K + 1, a1, a2, a3, a4, a5, a6, a7, l, ht, hl, fun k hk2 => ?_⟩
  obtain ⟨k, rfl⟩ := pos_round (show 0 < k by omega)
  obtain ⟨b, hb, hb1⟩ := hok_spec st ld he lo hi li re
  simp only [spec_DrawHoist.l0]
  rw [hb, Option.bind_some, e, Option.bind_some]
  dsimp only
  rw [hk k (by omega)]
  by_cases cb : b = true
  · rw [if_pos cb]
    have h1 := hb1.1 cb
    by_cases c1 : st = 1
    · rw [if_pos c1]
      by_cases c2 : ld > li
      · rw [if_pos c2]
      · exact absurd ⟨h1, fun h => c2 h.2⟩ hn
    · exact absurd ⟨h1, fun h => c1 h.1⟩ hn
  · rw [if_neg cb]
theorem good_all : ∀ j : Nat, j < 9 → goodS (nxn j 38) = true := by decide +kernel
/-- Where the bytes are used up: the numbers come by a stretch of good ones. -/
theorem ends_used (c : List Int) (hc : c.length ≤ 1048576) (n : Nat) : ∀ (s st ld he lo hi li re : Int), nxn n s = 38 → Ends c (c.length : Int) s st ld he lo hi li re := by
  have hp : InRow c (c.length : Int) := ⟨by omega, by omega⟩
  -- from a state of the stretch: the hoist drawn there is taken
  have stretch : ∀ j : Nat, j < 9 → ∀ (st ld he lo hi li re : Int), Ends c (c.length : Int) (nxn j 38) st ld he lo hi li re := by
    intro j hj st ld he lo hi li re
    by_cases h : Takes st ld he lo hi li re
    · exact ends_now c hc hp h
    · obtain ⟨a1, a2, a3, a4, a5, a6, a7, m, e, hm, ht⟩ := hoist_st c hc hp (nxn j 38)
      rw [adv_len] at e
      exact ends_next c h e (ends_now c hc hp (ht rfl (good_all j hj)))
  induction n using Nat.strongRecOn with
  | _ n ih =>
    intro s st ld he lo hi li re hs
    by_cases h : Takes st ld he lo hi li re
    · exact ends_now c hc hp h
    · cases n with
      | zero =>
        have : s = 38 := hs
        subst this
        exact stretch 0 (by omega) st ld he lo hi li re
      | succ n =>
        obtain ⟨a1, a2, a3, a4, a5, a6, a7, m, e, hm, ht⟩ := hoist_st c hc hp s
        rw [adv_len] at e
        by_cases hnm : m ≤ n + 1
        · refine ends_next c h e (ih (n + 1 - m) (by omega) _ _ _ _ _ _ _ _ ?_)
          have : n + 1 = m + (n + 1 - m) := by omega
          rw [this, nxn_add] at hs
          exact hs
        · have : m = (n + 1) + (m - (n + 1)) := by omega
          rw [this, nxn_add, hs] at e
          exact ends_next c h e (stretch (m - (n + 1)) (by omega) _ _ _ _ _ _ _)
theorem ends_all (c : List Int) (hc : c.length ≤ 1048576) (d : Nat) : ∀ (p s st ld he lo hi li re : Int), InRow c p → (c.length : Int) - p ≤ d → Ends c p s st ld he lo hi li re := by
  induction d with
  | zero =>
    intro p s st ld he lo hi li re hp hd
    have : p = (c.length : Int) := by unfold InRow at hp; omega
    subst this
    by_cases h : Takes st ld he lo hi li re
    · exact ends_now c hc hp h
    · obtain ⟨a1, a2, a3, a4, a5, a6, a7, m, e, hm, ht⟩ := hoist_st c hc hp s
      rw [adv_len] at e
      obtain ⟨m, rfl⟩ : ∃ j, m = j + 1 := ⟨m - 1, by omega⟩
      have e2 : nxn (m + 1) s = nx (nxn m s) := nxn_add m 1 s
      obtain ⟨n, hn⟩ := nx_reach (nxn m s) 38 (by unfold In64; omega)
      rw [e2] at e
      exact ends_next c h e (ends_used c hc n _ _ _ _ _ _ _ _ hn)
  | succ d ih =>
    intro p s st ld he lo hi li re hp hd
    by_cases h : Takes st ld he lo hi li re
    · exact ends_now c hc hp h
    · obtain ⟨a1, a2, a3, a4, a5, a6, a7, m, e, hm, ht⟩ := hoist_st c hc hp s
      refine ends_next c h e (ih _ _ _ _ _ _ _ _ _ (adv_in c m p hp) ?_)
      by_cases hl : p < (c.length : Int)
      · obtain ⟨m, rfl⟩ : ∃ j, m = j + 1 := ⟨m - 1, by omega⟩
        have := adv_lt c m p hl
        omega
      · have := adv_le c m p
        omega
theorem drawn (c : List Int) (hc : c.length ≤ 1048576) : ∃ (K : Nat) (st ld he lo hi li re : Int) (l : List S56), Takes st ld he lo hi li re ∧ l.length ≤ 1000 ∧ ∀ k, K < k → spec_DrawHoist.f k c = some (st, ld, he, lo, hi, li, re, l) := by
  obtain ⟨r, hr⟩ := new_ok c hc
  obtain ⟨a1, a2, a3, a4, a5, a6, a7, m, e, hm, ht⟩ := hoist_st c hc (p := 0) ⟨by omega, by omega⟩ r
  obtain ⟨K, st, ld, he, lo, hi, li, re, l, h1, h2, h3⟩ := ends_all c hc c.length (adv c m 0) (nxn m r) a1 a2 a3 a4 a5 a6 a7 (adv_in c m 0 ⟨by omega, by omega⟩) (by have := adv_le c m 0; omega)
  refine ⟨K + 4001, st, ld, he, lo, hi, li, re, l, h1, h2, fun k hk => ?_⟩
  unfold spec_DrawHoist.f
  rw [hr k (by omega), Option.bind_some]
  dsimp only
  rw [e, Option.bind_some]
  exact h3 k (by omega)
/-! ### one signal -/
/-- What a signal brings about. -/
def SigP (st ld he lo hi li re kd : Int) (r : Int × Int × Int × Int × Int × Int × Int × Bool) : Prop :=
  Takes r.1 r.2.1 r.2.2.1 r.2.2.2.1 r.2.2.2.2.1 r.2.2.2.2.2.1 r.2.2.2.2.2.2.1 ∧
  (r.2.2.2.2.2.2.2 = false → r.1 = st ∧ r.2.1 = ld ∧ r.2.2.1 = he ∧ r.2.2.2.1 = lo ∧ r.2.2.2.2.1 = hi ∧ r.2.2.2.2.2.1 = li ∧ r.2.2.2.2.2.2.1 = re) ∧
  (r.2.2.1 = he ∨ kd = 7 ∧ (st = 1 ∨ st = 2)) ∧ (st = 3 → r.1 = 3 ∨ kd = 3 ∧ re = 1) ∧ (kd = 4 → r.1 = 3)
theorem sigP_mk {st ld he lo hi li re kd a b c d e f g : Int} {o : Bool} (h1 : Takes a b c d e f g) (h2 : o = true ∨ (a = st ∧ b = ld ∧ c = he ∧ d = lo ∧ e = hi ∧ f = li ∧ g = re)) (h3 : c = he ∨ kd = 7 ∧ (st = 1 ∨ st = 2)) (h4 : st = 3 → a = 3 ∨ kd = 3 ∧ re = 1) (h5 : kd = 4 → a = 3) : SigP st ld he lo hi li re kd (a, b, c, d, e, f, g, o) :=
  ⟨h1, fun h => h2.elim (fun h' => by rw [show o = false from h] at h'; cases h') id, h3, h4, h5⟩
theorem sig_ok {st ld he lo hi li re : Int} (kd mn_ : Int) (h : Takes st ld he lo hi li re) (k : Nat) : ∃ r, impl_DoSignal.f (k + 5) st ld he lo hi li re kd mn_ = some r ∧ SigP st ld he lo hi li re kd r := by
  obtain ⟨h0, hu⟩ := h
  have hh := h0
  obtain ⟨g1, g2, g3, g4, g5, g6⟩ := hh
  have same : ∀ o : Bool, kd ≠ 4 → SigP st ld he lo hi li re kd (st, ld, he, lo, hi, li, re, o) := fun o hk => sigP_mk ⟨h0, hu⟩ (.inr ⟨rfl, rfl, rfl, rfl, rfl, rfl, rfl⟩) (.inl rfl) (fun h => .inl h) (fun h => absurd h hk)
  unfold impl_DoSignal.f
  rw [hok_impl h0, Option.bind_some, if_pos rfl, inI_okH, Option.bind_some]
  have bad : ¬ kd = 4 → ∃ r, impl_DoSignal.j0 (k + 5) true st ld he lo hi li re kd mn_ = some r ∧ SigP st ld he lo hi li re kd r := fun hk => by
    simp only [impl_DoSignal.j0, if_true]
    exact ⟨_, rfl, same _ hk⟩
  have main : (1 ≤ kd ∧ kd ≤ 7) → (kd = 6 → 0 ≤ mn_ ∧ mn_ ≤ 1000000) → ∃ r, impl_DoSignal.j0 (k + 5) false st ld he lo hi li re kd mn_ = some r ∧ SigP st ld he lo hi li re kd r := fun hk hm => by
    simp only [impl_DoSignal.j0, impl_DoSignal.j1, Bool.false_eq_true, if_false]
    by_cases c4 : kd = 4
    · rw [if_pos (by simpa using c4)]
      exact ⟨_, rfl, sigP_mk (by unfold Takes HOK; omega) (.inl rfl) (.inl rfl) (fun _ => .inl rfl) (fun _ => rfl)⟩
    rw [if_neg (by simpa using c4)]
    by_cases c6 : kd = 6
    · have hm := hm c6
      rw [if_pos c6]
      by_cases c7 : mn_ > li
      · rw [if_pos c7]
        by_cases c8 : st = 1
        · rw [if_pos c8]; exact ⟨_, rfl, sigP_mk (by unfold Takes HOK; omega) (.inl rfl) (.inl rfl) (by omega) (by omega)⟩
        · rw [if_neg c8]; exact ⟨_, rfl, sigP_mk (by unfold Takes HOK; omega) (.inl rfl) (.inl rfl) (by omega) (by omega)⟩
      · rw [if_neg c7]; exact ⟨_, rfl, sigP_mk (by unfold Takes HOK; omega) (.inl rfl) (.inl rfl) (by omega) (by omega)⟩
    rw [if_neg c6]
    -- what stands stays, unless it is reset and let go
    by_cases s3 : st = 3
    · rw [if_pos s3]
      by_cases c5 : kd = 5
      · rw [if_pos c5]
        by_cases r0 : re = 0
        · rw [show (re == 0) = true by simpa using r0]
          simp only [impl_DoSignal.j2, if_true]
          exact ⟨_, rfl, sigP_mk (by unfold Takes HOK; omega) (.inl rfl) (.inl rfl) (by omega) (by omega)⟩
        · rw [show (re == 0) = false by simpa using r0]
          simp only [impl_DoSignal.j2, Bool.false_eq_true, if_false]
          rw [if_pos s3, if_neg (by omega)]
          simp only [impl_DoSignal.j3, Bool.false_eq_true, if_false]
          rw [if_pos s3]
          simp only [impl_DoSignal.j4, if_true]
          exact ⟨_, rfl, same _ c4⟩
      · rw [if_neg c5]
        simp only [impl_DoSignal.j2, Bool.false_eq_true, if_false]
        rw [if_pos s3]
        by_cases c3 : kd = 3
        · rw [if_pos c3]
          by_cases r1 : re = 1
          · rw [show (re == 1) = true by simpa using r1]
            simp only [impl_DoSignal.j3, if_true]
            exact ⟨_, rfl, sigP_mk (by unfold Takes HOK; omega) (.inl rfl) (.inl rfl) (by omega) (by omega)⟩
          · rw [show (re == 1) = false by simpa using r1]
            simp only [impl_DoSignal.j3, Bool.false_eq_true, if_false]
            rw [if_pos s3]
            simp only [impl_DoSignal.j4, if_true]
            exact ⟨_, rfl, same _ c4⟩
        · rw [if_neg c3]
          simp only [impl_DoSignal.j3, Bool.false_eq_true, if_false]
          rw [if_pos s3]
          simp only [impl_DoSignal.j4, if_true]
          exact ⟨_, rfl, same _ c4⟩
    rw [if_neg s3]
    simp only [impl_DoSignal.j2, Bool.false_eq_true, if_false]
    rw [if_neg s3]
    simp only [impl_DoSignal.j3, Bool.false_eq_true, if_false]
    rw [if_neg s3]
    by_cases c5 : kd = 5
    · rw [show (kd == 5) = true by simpa using c5]
      simp only [impl_DoSignal.j4, if_true]
      exact ⟨_, rfl, same _ c4⟩
    rw [show (kd == 5) = false by simpa using c5]
    simp only [impl_DoSignal.j4, Bool.false_eq_true, if_false]
    by_cases c3 : kd = 3
    · rw [if_pos c3]; exact ⟨_, rfl, sigP_mk (by unfold Takes HOK; omega) (.inl rfl) (.inl rfl) (by omega) (by omega)⟩
    rw [if_neg c3]
    by_cases c1 : kd = 1
    · rw [if_pos c1]
      by_cases d1 : ld > li
      · rw [if_pos d1]; exact ⟨_, rfl, same _ c4⟩
      rw [if_neg d1]
      by_cases d2 : he = hi
      · rw [if_pos d2]; exact ⟨_, rfl, same _ c4⟩
      rw [if_neg d2]
      by_cases d3 : st = 2
      · rw [if_pos d3]; exact ⟨_, rfl, same _ c4⟩
      rw [if_neg d3]
      exact ⟨_, rfl, sigP_mk (by unfold Takes HOK; omega) (.inl rfl) (.inl rfl) (by omega) (by omega)⟩
    rw [if_neg c1]
    by_cases c2 : kd = 2
    · rw [if_pos c2]
      by_cases d1 : he = lo
      · rw [if_pos d1]; exact ⟨_, rfl, same _ c4⟩
      rw [if_neg d1]
      by_cases d2 : st = 1
      · rw [if_pos d2]; exact ⟨_, rfl, same _ c4⟩
      rw [if_neg d2]
      exact ⟨_, rfl, sigP_mk (by unfold Takes HOK; omega) (.inl rfl) (.inl rfl) (by omega) (by omega)⟩
    rw [if_neg c2]
    have c7 : kd = 7 := by omega
    by_cases s1 : st = 1
    · rw [if_pos s1, w64 (x := he + 1) (by omega) (by omega)]
      have e : he ≤ mn (he + 1) hi ∧ mn (he + 1) hi ≤ hi := by unfold mn; omega
      by_cases d1 : mn (he + 1) hi = hi
      · rw [if_pos d1]; exact ⟨_, rfl, sigP_mk (by unfold Takes HOK; omega) (.inl rfl) (.inr ⟨c7, .inl s1⟩) (by omega) (by omega)⟩
      · rw [if_neg d1]; exact ⟨_, rfl, sigP_mk (by unfold Takes HOK; omega) (.inl rfl) (.inr ⟨c7, .inl s1⟩) (by omega) (by omega)⟩
    rw [if_neg s1]
    by_cases s2 : st = 2
    · rw [if_pos s2, w64 (x := he - 1) (by omega) (by omega)]
      have e : lo ≤ mx (he - 1) lo ∧ mx (he - 1) lo ≤ he := by unfold mx; omega
      by_cases d1 : mx (he - 1) lo = lo
      · rw [if_pos d1]; exact ⟨_, rfl, sigP_mk (by unfold Takes HOK; omega) (.inl rfl) (.inr ⟨c7, .inr s2⟩) (by omega) (by omega)⟩
      · rw [if_neg d1]; exact ⟨_, rfl, sigP_mk (by unfold Takes HOK; omega) (.inl rfl) (.inr ⟨c7, .inr s2⟩) (by omega) (by omega)⟩
    rw [if_neg s2]
    exact ⟨_, rfl, same _ c4⟩
  by_cases ck : 1 ≤ kd ∧ kd ≤ 7
  · rw [decide_eq_true ck, if_pos rfl]
    by_cases c6 : kd = 6
    · rw [if_pos c6, inI_okH, Option.bind_some]
      by_cases cm : 0 ≤ mn_ ∧ mn_ ≤ 1000000
      · rw [decide_eq_true cm]; exact main ck (fun _ => cm)
      · rw [decide_eq_false cm]; exact bad (by omega)
    · rw [if_neg c6]; exact main ck (fun h => absurd h c6)
  · rw [decide_eq_false ck, if_neg (by decide)]
    exact bad (by omega)
/-! ### the four signals at the end -/
theorem run_end {st ld he lo hi li re : Int} (h : Takes st ld he lo hi li re) (k : Nat) (hk : 20 < k) : impl_RunSignals.f k st ld he lo hi li re [(⟨4, 0⟩ : S56), (⟨1, 0⟩ : S56), (⟨5, 0⟩ : S56), (⟨3, 0⟩ : S56)] = some (0, ld, he, lo, hi, li, 0, [true, false, true, true]) := by
  obtain ⟨k, rfl⟩ : ∃ j, k = j + 12 := ⟨k - 12, by omega⟩
  obtain ⟨h0, hu⟩ := h
  have hs : ∀ re', 0 ≤ re' ∧ re' ≤ 1 → HOK 3 ld he lo hi li re' := fun re' hr => by unfold HOK at *; omega
  have e1 : impl_DoSignal.f (k + 11) st ld he lo hi li re 4 0 = some (3, ld, he, lo, hi, li, 0, true) := by
    unfold impl_DoSignal.f
    rw [hok_impl h0, inI_okH, decide_eq_true (by omega)]
    simp only [Option.bind_some, if_true, impl_DoSignal.j0, impl_DoSignal.j1, Bool.false_eq_true, if_false, if_neg (show ¬ (4 : Int) = 6 by decide), if_pos (show ((4 : Int) == 4) = true by decide)]
  have e2 : impl_DoSignal.f (k + 10) 3 ld he lo hi li 0 1 0 = some (3, ld, he, lo, hi, li, 0, false) := by
    unfold impl_DoSignal.f
    rw [hok_impl (hs 0 (by omega)), inI_okH, decide_eq_true (by omega)]
    simp only [Option.bind_some, if_true, impl_DoSignal.j0, impl_DoSignal.j1, impl_DoSignal.j2, impl_DoSignal.j3, impl_DoSignal.j4, Bool.false_eq_true, if_false, if_neg (show ¬ (1 : Int) = 6 by decide), if_neg (show ¬ ((1 : Int) == 4) = true by decide), if_neg (show ¬ (1 : Int) = 5 by decide), if_neg (show ¬ (1 : Int) = 3 by decide)]
  have e3 : impl_DoSignal.f (k + 9) 3 ld he lo hi li 0 5 0 = some (3, ld, he, lo, hi, li, 1, true) := by
    unfold impl_DoSignal.f
    rw [hok_impl (hs 0 (by omega)), inI_okH, decide_eq_true (by omega)]
    simp only [Option.bind_some, if_true, impl_DoSignal.j0, impl_DoSignal.j1, impl_DoSignal.j2, Bool.false_eq_true, if_false, if_neg (show ¬ (5 : Int) = 6 by decide), if_neg (show ¬ ((5 : Int) == 4) = true by decide), show ((0 : Int) == 0) = true by decide]
  have e4 : impl_DoSignal.f (k + 8) 3 ld he lo hi li 1 3 0 = some (0, ld, he, lo, hi, li, 0, true) := by
    unfold impl_DoSignal.f
    rw [hok_impl (hs 1 (by omega)), inI_okH, decide_eq_true (by omega)]
    simp only [Option.bind_some, if_true, impl_DoSignal.j0, impl_DoSignal.j1, impl_DoSignal.j2, impl_DoSignal.j3, Bool.false_eq_true, if_false, if_neg (show ¬ (3 : Int) = 6 by decide), if_neg (show ¬ ((3 : Int) == 4) = true by decide), if_neg (show ¬ (3 : Int) = 5 by decide), show ((1 : Int) == 1) = true by decide]
  unfold impl_RunSignals.f
  rw [if_neg (by decide)]
  simp only [impl_RunSignals.l0]
  rw [if_pos (by decide), if_pos (by decide), if_pos (by decide), show rd_T56 [(⟨4, 0⟩ : S56), (⟨1, 0⟩ : S56), (⟨5, 0⟩ : S56), (⟨3, 0⟩ : S56)] 0 = ⟨4, 0⟩ from rfl, e1, Option.bind_some, if_pos (by decide), w64 (x := 0 + 1) (by omega) (by omega)]
  dsimp only
  rw [if_pos (by decide), if_pos (by decide), if_pos (by decide), show rd_T56 [(⟨4, 0⟩ : S56), (⟨1, 0⟩ : S56), (⟨5, 0⟩ : S56), (⟨3, 0⟩ : S56)] (0 + 1) = ⟨1, 0⟩ from rfl, e2, Option.bind_some, if_pos (by decide), w64 (x := 0 + 1 + 1) (by omega) (by omega)]
  dsimp only
  rw [if_pos (by decide), if_pos (by decide), if_pos (by decide), show rd_T56 [(⟨4, 0⟩ : S56), (⟨1, 0⟩ : S56), (⟨5, 0⟩ : S56), (⟨3, 0⟩ : S56)] (0 + 1 + 1) = ⟨5, 0⟩ from rfl, e3, Option.bind_some, if_pos (by decide), w64 (x := 0 + 1 + 1 + 1) (by omega) (by omega)]
  dsimp only
  rw [if_pos (by decide), if_pos (by decide), if_pos (by decide), show rd_T56 [(⟨4, 0⟩ : S56), (⟨1, 0⟩ : S56), (⟨5, 0⟩ : S56), (⟨3, 0⟩ : S56)] (0 + 1 + 1 + 1) = ⟨3, 0⟩ from rfl, e4, Option.bind_some, if_pos (by decide), w64 (x := 0 + 1 + 1 + 1 + 1) (by omega) (by omega)]
  dsimp only
  rw [if_neg (by decide)]
  rfl
/-! ### the law's loop -/
theorem law_loop (l : List S56) (hl : l.length ≤ 1000) (d : Nat) : ∀ (k : Nat) (i st ld he lo hi li re : Int), Takes st ld he lo hi li re → 0 ≤ i → i ≤ l.length → (l.length : Int) - i = d → 4 * d + 40 < k → laws_FnHoists.l0 k l i st ld he lo hi li re = some true := by
  induction d with
  | zero =>
    intro k i st ld he lo hi li re h h0 h1 hd hk
    obtain ⟨k, rfl⟩ := pos_round (show 0 < k by omega)
    simp only [laws_FnHoists.l0]
    rw [if_neg (by omega), run_end h k (by omega), Option.bind_some]
    rfl
  | succ d ih =>
    intro k i st ld he lo hi li re h h0 h1 hd hk
    obtain ⟨k, rfl⟩ : ∃ j, k = j + 9 := ⟨k - 9, by omega⟩
    obtain ⟨⟨a, b, c, e, f, g, m, o⟩, hr, hp⟩ := sig_ok ((rd_T56 l i).f0) ((rd_T56 l i).f1) h (k + 3)
    obtain ⟨p1, p2, p3, p4, p5⟩ := hp
    dsimp only at p1 p2 p3 p4 p5
    have hi' : i < (l.length : Int) := by omega
    have n3 : laws_FnHoists.j3 (k + 6) l i false a b c e f g m = some true := by
      simp only [laws_FnHoists.j3, Bool.false_eq_true, if_false]
      rw [if_pos h0, if_pos hi', w64 (x := i + 1) (by omega) (by omega), ih (k + 5) (i + 1) a b c e f g m p1 (by omega) (by omega) (by omega) (by omega)]
      by_cases c4 : (rd_T56 l i).f0 = 4
      · rw [if_pos c4, if_pos (p5 c4)]
      · rw [if_neg c4]
    have n2 : laws_FnHoists.j2 (k + 7) l i false st ld he lo hi li re a b c e f g m = some true := by
      simp only [laws_FnHoists.j2, Bool.false_eq_true, if_false]
      by_cases s3 : st = 3
      · rw [if_pos s3]
        by_cases a3 : a = 3
        · rw [if_pos a3]; exact n3
        · obtain ⟨q1, q2⟩ := (p4 s3).resolve_left a3
          rw [if_neg a3, if_pos h0, if_pos hi', if_pos q1, show (re != 1) = false by simpa using q2]; exact n3
      · rw [if_neg s3]; exact n3
    have n1 : laws_FnHoists.j1 (k + 8) l i false st ld he lo hi li re a b c e f g m = some true := by
      simp only [laws_FnHoists.j1, Bool.false_eq_true, if_false]
      by_cases ch : c = he
      · rw [if_pos ch]; exact n2
      · obtain ⟨q1, q2⟩ := p3.resolve_left ch
        rw [if_neg ch, if_pos h0, if_pos hi', if_pos q1]
        by_cases s1 : st = 1
        · rw [if_pos s1]; exact n2
        · rw [if_neg s1, show (st != 2) = false by simp; omega]; exact n2
    have nu : ¬ (a = 1 ∧ b > g) := p1.2
    simp only [laws_FnHoists.l0]
    rw [if_pos hi', if_pos h0, hr, Option.bind_some]
    dsimp only
    rw [hok_impl p1.1, Option.bind_some, if_pos rfl]
    have both : (if a = 1 then (laws_FnHoists.j1 (k + 8) l i (decide (b > g)) st ld he lo hi li re a b c e f g m) else (laws_FnHoists.j1 (k + 8) l i false st ld he lo hi li re a b c e f g m)) = some true := by
      by_cases a1 : a = 1
      · rw [if_pos a1, decide_eq_false (fun h => nu ⟨a1, h⟩)]; exact n1
      · rw [if_neg a1]; exact n1
    by_cases oo : o = true
    · rw [if_pos oo]; exact both
    · obtain ⟨q1, q2, q3, q4, q5, q6, q7⟩ := p2 (Bool.eq_false_iff.2 oo)
      rw [if_neg oo, if_neg (by rw [q1, q2, q3, q4, q5, q6, q7]; simp)]; exact both

theorem FnHoists : laws_FnHoists.Pure := by
  intro l _ _ _
  by_cases hn : (l.length : Int) > 1048576
  · refine ⟨0, ?_⟩
    unfold laws_FnHoists.f laws_big.f
    rw [Option.bind_some, if_pos (by simpa using hn)]
  · obtain ⟨K, st, ld, he, lo, hi, li, re, m, h1, h2, h3⟩ := drawn l (by omega)
    refine ⟨K + 5000, ?_⟩
    unfold laws_FnHoists.f laws_big.f
    rw [Option.bind_some, if_neg (by simpa using hn), h3 _ (by omega), Option.bind_some]
    exact law_loop m h2 m.length _ 0 st ld he lo hi li re h1 (by omega) (by omega) (by omega) (by omega)

end Go.Proofs.Ytpkhhoecfpjnjaa.Pure
