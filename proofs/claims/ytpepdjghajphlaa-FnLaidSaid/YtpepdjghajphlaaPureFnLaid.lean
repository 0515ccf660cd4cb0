/- Of a drawn charter what counts and what does not are all minutes; a call in two parts that touch comes to the whole; owed is never both ways: for each byte list as code. -/
import Derived.Test.YtpepdjghajphlaaPFnLaidx11
import Derived.Test.YtpepdjghajphlaaVLaidKit
set_option linter.unusedVariables false
set_option linter.unusedSimpArgs false
namespace Go.Proofs.Ytpepdjghajphlaa.Pure
open Go.RowKit Go.Proofs.Ytpepdjghajphlaa.PFnLaid Go.Proofs.YtpepdjghajphlaaW.PrintWords Go.Proofs.YtpepdjghajphlaaW.PrintLast Go.Proofs.YtpepdjghajphlaaW.PrintMore Go.Proofs.YtpepdjghajphlaaW.Kit

theorem mask_nat (x : Int) (i : Nat) (hi : i ≤ 62) : Go.bits .and .i64 x ((2 ^ i - 1 : Nat) : Int) = x % ((2 ^ i : Nat) : Int) := by
  have hp : 0 < 2 ^ i := Nat.two_pow_pos i
  have h62 : 2 ^ i ≤ 2 ^ 62 := Nat.pow_le_pow_right (by decide) hi
  have e62 : (2 : Nat) ^ 62 = 4611686018427387904 := by decide
  rw [e62] at h62
  have hm : (2 ^ i - 1) % 2 ^ 64 = 2 ^ i - 1 := Nat.mod_eq_of_lt (by have : (2:Nat)^64 = 18446744073709551616 := by decide
                                                                     omega)
  have hd : ((2 ^ i : Nat) : Int) ∣ 18446744073709551616 := by
    have : (2 : Nat) ^ i ∣ 2 ^ 64 := Nat.pow_dvd_pow 2 (by omega)
    have h2 : (2 : Nat) ^ 64 = 18446744073709551616 := by decide
    rw [h2] at this
    exact Int.natCast_dvd_natCast.2 this
  show IntKind.i64.wrap ((BitVec.ofInt 64 x &&& BitVec.ofInt 64 ((2 ^ i - 1 : Nat) : Int)).toNat : Int) = _
  rw [BitVec.toNat_and, BitVec.ofInt_natCast, BitVec.toNat_ofNat, hm, Nat.and_two_pow_sub_one_eq_mod, BitVec.toNat_ofInt, IntKind.wrap_i64]
  have hx : 0 ≤ x % 18446744073709551616 := Int.emod_nonneg _ (by decide)
  have e : (((x % ((2 ^ 64 : Nat) : Int)).toNat % 2 ^ i : Nat) : Int) = x % ((2 ^ i : Nat) : Int) := by
    rw [Int.natCast_emod, show (((2 ^ 64 : Nat) : Int)) = 18446744073709551616 by decide, Int.toNat_of_nonneg hx, Int.emod_emod_of_dvd _ hd]
  rw [e]
  have h1 := Int.emod_nonneg x (show ((2 ^ i : Nat) : Int) ≠ 0 by omega)
  have h2 := Int.emod_lt_of_pos x (show (0 : Int) < ((2 ^ i : Nat) : Int) by omega)
  generalize x % ((2 ^ i : Nat) : Int) = r at h1 h2 ⊢
  omega
theorem mask24 (x : Int) : Go.bits .and .i64 x 16777215 = x % 16777216 := mask_nat x 24 (by decide)
theorem mask16 (x : Int) : Go.bits .and .i64 x 65535 = x % 65536 := mask_nat x 16 (by decide)
theorem mask8 (x : Int) : Go.bits .and .i64 x 255 = x % 256 := mask_nat x 8 (by decide)
theorem mask30 (x : Int) : Go.bits .and .i64 x 1073741823 = x % 1073741824 := mask_nat x 30 (by decide)
/-! ### the drawn values: a place in the bytes that stays in its row, and values that stay in their range -/
/-- The cursor's place is in the row. -/
def InRow (c : List Int) (p : Int) : Prop := 0 ≤ p ∧ p ≤ (c.length : Int)
theorem new_loop (c : List Int) (hc : c.length ≤ 1048576) (d : Nat) : ∀ (s i : Int), 0 ≤ i → i ≤ 4000 → 4000 - i = d → ∃ r, ∀ k, d < k → spec_l1New.l0 k c s i = some (c, 0, r) := by
  induction d with
  | zero =>
    intro s i h0 h1 hd
    refine ⟨s, fun k hk => ?_⟩
    obtain ⟨k, rfl⟩ := pos_round (show 0 < k by omega)
    simp only [spec_l1New.l0]
    by_cases h : i < (c.length : Int)
    · rw [if_pos h, if_neg (by omega)]
    · rw [if_neg h]
  | succ d ih =>
    intro s i h0 h1 hd
    by_cases h : i < (c.length : Int)
    · obtain ⟨r, hr⟩ := ih (Go.bits .and .i64 (wrap64 ((wrap64 ((wrap64 (s * 131)) + (wrap64 (rd c i)))) + 7)) 1073741823) (i + 1) (by omega) (by omega) (by omega)
      refine ⟨r, fun k hk => ?_⟩
      obtain ⟨k, rfl⟩ := pos_round (show 0 < k by omega)
      simp only [spec_l1New.l0]
      rw [if_pos h, if_pos (by omega), if_pos h0, w64 (x := i + 1) (by omega) (by omega)]
      exact hr k (by omega)
    · refine ⟨s, fun k hk => ?_⟩
      obtain ⟨k, rfl⟩ := pos_round (show 0 < k by omega)
      simp only [spec_l1New.l0]
      rw [if_neg h]
theorem new_ok (c : List Int) (hc : c.length ≤ 1048576) : ∃ r, ∀ k, 4000 < k → spec_l1New.f k c = some (c, 0, r) := by
  obtain ⟨r, hr⟩ := new_loop c hc 4000 (wrap64 (59059 + (c.length : Int))) 0 (by omega) (by omega) (by omega)
  exact ⟨r, hr⟩
theorem byte_ok (c : List Int) (hc : c.length ≤ 1048576) {p : Int} (hp : InRow c p) (s : Int) : ∃ b p' s', spec_l1Byte.f c p s = some (b, p', s') ∧ 0 ≤ b ∧ b ≤ 255 ∧ InRow c p' := by
  unfold spec_l1Byte.f
  obtain ⟨h0, h1⟩ := hp
  by_cases h : p < (c.length : Int)
  · rw [if_pos h, if_pos h0, w64 (x := p + 1) (by omega) (by omega)]
    refine ⟨_, _, _, rfl, ?_, ?_, by constructor <;> omega⟩ <;> rw [mask8] <;> omega
  · rw [if_neg h]
    refine ⟨_, _, _, rfl, ?_, ?_, by constructor <;> omega⟩ <;> rw [mask8] <;> omega
theorem below_ok (c : List Int) (hc : c.length ≤ 1048576) {p : Int} (hp : InRow c p) (s : Int) (n : Int) : ∃ r p' s', spec_l1Below.f c p s n = some (r, p', s') ∧ 0 ≤ r ∧ (0 < n → r < n) ∧ (n ≤ 0 → r = 0) ∧ InRow c p' := by
  unfold spec_l1Below.f
  by_cases h : n ≤ 0
  · rw [if_pos h]
    exact ⟨0, p, s, rfl, by omega, by omega, fun _ => rfl, hp⟩
  · rw [if_neg h]
    by_cases h2 : n ≤ 256
    · obtain ⟨b, p1, s1, e, b0, b1, hp1⟩ := byte_ok c hc hp s
      rw [if_pos h2, e, Option.bind_some, if_neg (by omega)]
      refine ⟨_, _, _, rfl, ?_, ?_, fun _ => by omega, hp1⟩ <;> rw [tm b0]
      · exact Int.emod_nonneg _ (by omega)
      · intro _; exact Int.emod_lt_of_pos _ (by omega)
    · obtain ⟨b, p1, s1, e, b0, b1, hp1⟩ := byte_ok c hc hp s
      obtain ⟨b', p2, s2, e2, b0', b1', hp2⟩ := byte_ok c hc hp1 s1
      obtain ⟨b'', p3, s3, e3, b0'', b1'', hp3⟩ := byte_ok c hc hp2 s2
      obtain ⟨b3, p4, s4, e4, b03, b13, hp4⟩ := byte_ok c hc hp3 s3
      rw [if_neg h2, e, Option.bind_some]
      dsimp only
      rw [e2, Option.bind_some]
      dsimp only
      rw [e3, Option.bind_some]
      dsimp only
      rw [e4, Option.bind_some, if_neg (by omega)]
      dsimp only
      rw [w64 (x := b * 16777216) (by omega) (by omega), w64 (x := b' * 65536) (by omega) (by omega), w64 (x := b'' * 256) (by omega) (by omega), w64 (x := b * 16777216 + b' * 65536) (by omega) (by omega), w64 (x := b * 16777216 + b' * 65536 + b'' * 256) (by omega) (by omega), w64 (by omega) (by omega), tm (by omega)]
      exact ⟨_, _, _, rfl, Int.emod_nonneg _ (by omega), fun _ => Int.emod_lt_of_pos _ (by omega), fun _ => by omega, hp4⟩
theorem pickI_ok (c : List Int) (hc : c.length ≤ 1048576) {p : Int} (hp : InRow c p) (s : Int) (l : List Int) (hl : 0 < l.length) : ∃ r p' s', spec_l1PickInt.f c p s l = some (r, p', s') ∧ r ∈ l ∧ InRow c p' := by
  obtain ⟨b, p1, s1, e, b0, b1, _, hp1⟩ := below_ok c hc hp s (l.length : Int)
  have := b1 (by omega)
  unfold spec_l1PickInt.f
  rw [e, Option.bind_some]
  dsimp only
  rw [if_pos b0, if_pos this]
  exact ⟨_, _, _, rfl, rd_mem b0 this, hp1⟩
/-! ### the numbers behind the draws: from each state each other is come to -/
/-- One step, without bounds. -/
def Fn : Nat → Int → Int
  | 0, x => x
  | n + 1, x => Fn n (6364136223846793005 * x + 1442695040888963407)
theorem Fn_add (n m : Nat) : ∀ x, Fn (n + m) x = Fn m (Fn n x) := by
  induction n with
  | zero => intro x; rw [Nat.zero_add]; rfl
  | succ n ih => intro x; rw [Nat.succ_add]; exact ih _
theorem Fn_off (n : Nat) : ∀ x d, Fn n (x + d) = Fn n x + 6364136223846793005 ^ n * d := by
  induction n with
  | zero => intro x d; simp [Fn]
  | succ n ih =>
    intro x d
    show Fn n (6364136223846793005 * (x + d) + 1442695040888963407) = Fn n (6364136223846793005 * x + 1442695040888963407) + _
    rw [show 6364136223846793005 * (x + d) + 1442695040888963407 = (6364136223846793005 * x + 1442695040888963407) + 6364136223846793005 * d by omega, ih, Int.pow_succ, Int.mul_assoc]
theorem pow_four (n : Nat) : ∃ w : Int, 6364136223846793005 ^ n = 1 + 4 * w := by
  induction n with
  | zero => exact ⟨0, by simp⟩
  | succ n ih =>
    obtain ⟨w, hw⟩ := ih
    refine ⟨w + 1591034055961698251 + 4 * (w * 1591034055961698251), ?_⟩
    rw [Int.pow_succ, hw]
    omega
theorem Fn_dbl (k : Nat) : ∀ x : Int, ∃ u : Int, Fn (2 ^ k) x = x + 2 ^ k * u ∧ u % 2 = 1 := by
  induction k with
  | zero =>
    intro x
    refine ⟨6364136223846793004 * x + 1442695040888963407, ?_, by omega⟩
    show 6364136223846793005 * x + 1442695040888963407 = x + 1 * _
    omega
  | succ k ih =>
    intro x
    obtain ⟨u, hu, h1⟩ := ih x
    obtain ⟨w, hw⟩ := pow_four (2 ^ k)
    refine ⟨u * (1 + 2 * w), ?_, ?_⟩
    · rw [Nat.pow_succ, Nat.mul_two, Fn_add, hu, Fn_off, hu, hw, Int.pow_succ]
      generalize (2 : Int) ^ k = P
      rw [show (1 + 4 * w) * (P * u) = P * u + 4 * (w * (P * u)) by rw [Int.add_mul, Int.one_mul, Int.mul_assoc], show P * 2 * (u * (1 + 2 * w)) = 2 * (P * u) + 4 * (w * (P * u)) by
        rw [Int.mul_add, Int.mul_one, Int.mul_add, show P * 2 * u = 2 * (P * u) by rw [Int.mul_comm P 2, Int.mul_assoc], show P * 2 * (u * (2 * w)) = 4 * (w * (P * u)) by
          rw [Int.mul_comm P 2, Int.mul_assoc, ← Int.mul_assoc u 2 w, Int.mul_comm u 2, Int.mul_assoc 2 u w, ← Int.mul_assoc P 2, Int.mul_comm P 2, Int.mul_assoc 2 P, ← Int.mul_assoc P u w, Int.mul_comm (P * u) w]
          omega]]
      omega
    · obtain ⟨p, rfl⟩ : ∃ p, u = 2 * p + 1 := ⟨u / 2, by omega⟩
      rw [show (2 * p + 1) * (1 + 2 * w) = 2 * (p * (1 + 2 * w) + w) + 1 by
        rw [Int.add_mul, Int.mul_assoc]; omega]
      omega
theorem Fn_reach (k : Nat) : ∀ x t : Int, ∃ (n : Nat) (q : Int), Fn n x = t + 2 ^ k * q := by
  induction k with
  | zero => intro x t; exact ⟨0, x - t, by show x = t + 1 * (x - t); omega⟩
  | succ k ih =>
    intro x t
    obtain ⟨n, q, h⟩ := ih x t
    by_cases e : q % 2 = 0
    · obtain ⟨p, rfl⟩ : ∃ p, q = 2 * p := ⟨q / 2, by omega⟩
      exact ⟨n, p, by rw [h, Int.pow_succ, Int.mul_assoc]⟩
    · obtain ⟨u, hu, h1⟩ := Fn_dbl k (Fn n x)
      obtain ⟨p, hp⟩ : ∃ p, q + u = 2 * p := ⟨(q + u) / 2, by omega⟩
      refine ⟨n + 2 ^ k, p, ?_⟩
      rw [Fn_add, hu, h, Int.pow_succ, Int.mul_assoc, ← hp, Int.mul_add, Int.add_assoc]
/-- The state behind one byte. -/
def nx (s : Int) : Int := wrap64 ((wrap64 (s * 6364136223846793005)) + 1442695040888963407)
def nxn : Nat → Int → Int
  | 0, s => s
  | n + 1, s => nxn n (nx s)
theorem nxn_add (n m : Nat) : ∀ s, nxn (n + m) s = nxn m (nxn n s) := by
  induction n with
  | zero => intro s; rw [Nat.zero_add]; rfl
  | succ n ih => intro s; rw [Nat.succ_add]; exact ih _
def In64 (s : Int) : Prop := -9223372036854775808 ≤ s ∧ s ≤ 9223372036854775807
theorem nx_in (s : Int) : In64 (nx s) := by unfold nx wrap64 In64; omega
theorem nx_F (s : Int) : ∃ q : Int, nx s = (6364136223846793005 * s + 1442695040888963407) + 18446744073709551616 * q := by
  unfold nx wrap64
  exact ⟨((s * 6364136223846793005 + 9223372036854775808) % 18446744073709551616 - 9223372036854775808 + 1442695040888963407 + 9223372036854775808) % 18446744073709551616 / 18446744073709551616 - (s * 6364136223846793005 + 9223372036854775808) / 18446744073709551616 - ((s * 6364136223846793005 + 9223372036854775808) % 18446744073709551616 - 9223372036854775808 + 1442695040888963407 + 9223372036854775808) / 18446744073709551616, by omega⟩
theorem nxn_F (n : Nat) : ∀ s, In64 s → In64 (nxn n s) ∧ ∃ q : Int, nxn n s = Fn n s + 18446744073709551616 * q := by
  induction n with
  | zero => intro s hs; exact ⟨hs, 0, by simp [nxn, Fn]⟩
  | succ n ih =>
    intro s _
    obtain ⟨h, q, hq⟩ := ih (nx s) (nx_in s)
    refine ⟨h, ?_⟩
    obtain ⟨p, hp⟩ := nx_F s
    refine ⟨q + 6364136223846793005 ^ n * p, ?_⟩
    show nxn n (nx s) = Fn n (6364136223846793005 * s + 1442695040888963407) + _
    rw [hq, hp, Fn_off, Int.mul_add, show (6364136223846793005 : Int) ^ n * (18446744073709551616 * p) = 18446744073709551616 * (6364136223846793005 ^ n * p) by rw [← Int.mul_assoc, Int.mul_comm _ 18446744073709551616, Int.mul_assoc]]
    omega
theorem nx_reach (s t : Int) (ht : In64 t) : ∃ n, nxn n (nx s) = t := by
  obtain ⟨n, q, h⟩ := Fn_reach 64 (nx s) t
  obtain ⟨hr, p, hp⟩ := nxn_F n (nx s) (nx_in s)
  refine ⟨n, ?_⟩
  rw [h] at hp
  have : (2 : Int) ^ 64 = 18446744073709551616 := by decide
  rw [this] at hp
  unfold In64 at *
  omega
/-! ### the draws, step by step: each byte is one step of the numbers -/
def adv (c : List Int) : Nat → Int → Int
  | 0, p => p
  | n + 1, p => adv c n (if p < (c.length : Int) then p + 1 else p)
theorem adv_in (c : List Int) (n : Nat) : ∀ p, InRow c p → InRow c (adv c n p) := by
  induction n with
  | zero => intro p h; exact h
  | succ n ih =>
    intro p h
    refine ih _ ?_
    unfold InRow at *
    split <;> omega
theorem adv_add (c : List Int) (n m : Nat) : ∀ p, adv c (n + m) p = adv c m (adv c n p) := by
  induction n with
  | zero => intro p; rw [Nat.zero_add]; rfl
  | succ n ih => intro p; rw [Nat.succ_add]; exact ih _
theorem adv_len (c : List Int) (n : Nat) : adv c n (c.length : Int) = (c.length : Int) := by
  induction n with
  | zero => rfl
  | succ n ih => show adv c n (if _ then _ else _) = _; rw [if_neg (by omega), ih]
theorem adv_le (c : List Int) (n : Nat) : ∀ p, p ≤ adv c n p := by
  induction n with
  | zero => intro p; exact Int.le_refl _
  | succ n ih =>
    intro p
    have := ih (if p < (c.length : Int) then p + 1 else p)
    show p ≤ adv c n (if p < (c.length : Int) then p + 1 else p)
    split at this
    · rename_i h; rw [if_pos h]; omega
    · rename_i h; rw [if_neg h]; exact this
theorem adv_lt (c : List Int) (n : Nat) (p : Int) (h : p < (c.length : Int)) : p < adv c (n + 1) p := by
  show p < adv c n (if p < (c.length : Int) then p + 1 else p)
  rw [if_pos h]
  have := adv_le c n (p + 1)
  omega
/-- The byte that a state yields where the code's bytes are used up. -/
def by8 (s : Int) : Int := Go.bits .and .i64 (Go.bits .xor .i64 ((nx s) / 8589934592) ((nx s) / 35184372088832)) 255
theorem byte_st (c : List Int) (hc : c.length ≤ 1048576) {p : Int} (hp : InRow c p) (s : Int) : ∃ b, spec_l1Byte.f c p s = some (b, adv c 1 p, nx s) ∧ 0 ≤ b ∧ b ≤ 255 ∧ (p = (c.length : Int) → b = by8 s) := by
  unfold spec_l1Byte.f
  obtain ⟨h0, h1⟩ := hp
  by_cases h : p < (c.length : Int)
  · rw [if_pos h, if_pos h0, w64 (x := p + 1) (by omega) (by omega)]
    refine ⟨_, by show some (_, _, _) = some (_, adv c 0 (if _ then _ else _), _); rw [if_pos h]; rfl, ?_, ?_, fun e => by omega⟩ <;> rw [mask8] <;> omega
  · rw [if_neg h]
    refine ⟨_, by show some (_, _, _) = some (_, adv c 0 (if _ then _ else _), _); rw [if_neg h]; rfl, ?_, ?_, fun _ => rfl⟩ <;> unfold by8 <;> rw [mask8] <;> omega
theorem below_st (c : List Int) (hc : c.length ≤ 1048576) {p : Int} (hp : InRow c p) (s n : Int) (h1 : 1 ≤ n) (h2 : n ≤ 256) : ∃ r, spec_l1Below.f c p s n = some (r, adv c 1 p, nx s) ∧ 0 ≤ r ∧ r < n ∧ (p = (c.length : Int) → r = by8 s % n) := by
  obtain ⟨b, e, b0, b1, b2⟩ := byte_st c hc hp s
  unfold spec_l1Below.f
  rw [if_neg (by omega), if_pos h2, e, Option.bind_some, if_neg (by omega)]
  dsimp only
  rw [tm b0]
  exact ⟨_, rfl, Int.emod_nonneg _ (by omega), Int.emod_lt_of_pos _ (by omega), fun h => by rw [b2 h]⟩
theorem below_at (c : List Int) (hc : c.length ≤ 1048576) {p : Int} (hp : InRow c p) (s : Int) (j : Nat) (n : Int) (h1 : 1 ≤ n) (h2 : n ≤ 256) : ∃ r, spec_l1Below.f c (adv c j p) (nxn j s) n = some (r, adv c (j + 1) p, nxn (j + 1) s) ∧ 0 ≤ r ∧ r < n ∧ (p = (c.length : Int) → r = by8 (nxn j s) % n) := by
  obtain ⟨r, e, r0, r1, r2⟩ := below_st c hc (adv_in c j p hp) (nxn j s) n h1 h2
  refine ⟨r, ?_, r0, r1, fun h => r2 (by rw [h, adv_len])⟩
  rw [e, adv_add, nxn_add]; rfl
theorem pickI_at (c : List Int) (hc : c.length ≤ 1048576) {p : Int} (hp : InRow c p) (s : Int) (j : Nat) (l : List Int) (hl : 0 < l.length) (hl2 : l.length ≤ 256) : ∃ r, spec_l1PickInt.f c (adv c j p) (nxn j s) l = some (r, adv c (j + 1) p, nxn (j + 1) s) := by
  obtain ⟨b, e, b0, b1, _⟩ := below_at c hc hp s j (l.length : Int) (by omega) (by omega)
  unfold spec_l1PickInt.f
  rw [e, Option.bind_some]
  dsimp only
  rw [if_pos b0, if_pos b1]
  exact ⟨_, rfl⟩
theorem rd42_lt {l : List S42} {i : Int} (h0 : 0 ≤ i) (h1 : i < l.length) : ∃ h : i.toNat < l.length, rd_T42 l i = l[i.toNat]'h := by
  have h : i.toNat < l.length := by omega
  exact ⟨h, by simp [rd_T42, List.getD_eq_getElem?_getD, List.getElem?_eq_getElem h]⟩
theorem rd42_mem {l : List S42} {i : Int} (h0 : 0 ≤ i) (h1 : i < l.length) : rd_T42 l i ∈ l := by
  obtain ⟨h, e⟩ := rd42_lt h0 h1
  rw [e]; exact List.getElem_mem h
theorem rd42_drop {l : List S42} {i : Int} (h0 : 0 ≤ i) (h1 : i < l.length) : l.drop i.toNat = rd_T42 l i :: l.drop (i + 1).toNat := by
  obtain ⟨h, e⟩ := rd42_lt h0 h1
  rw [e, show (i + 1).toNat = i.toNat + 1 by omega, List.drop_eq_getElem_cons h]
theorem rd42_take {l : List S42} {i : Int} (h0 : 0 ≤ i) (h1 : i < l.length) : l.take (i + 1).toNat = l.take i.toNat ++ [rd_T42 l i] := by
  obtain ⟨h, e⟩ := rd42_lt h0 h1
  rw [e, show (i + 1).toNat = i.toNat + 1 by omega, List.take_succ_eq_append_getElem h]
theorem rd42_set_eq {l : List S42} {i : Int} {x : S42} (h0 : 0 ≤ i) (h1 : i < l.length) : rd_T42 (l.set i.toNat x) i = x := by
  simp [rd_T42, List.getD_eq_getElem?_getD, List.getElem?_set, show i.toNat < l.length by omega]
theorem rd42_set_ne {l : List S42} {i j : Int} {x : S42} (h0 : 0 ≤ i) (hj : 0 ≤ j) (h : i ≠ j) : rd_T42 (l.set i.toNat x) j = rd_T42 l j := by
  simp [rd_T42, List.getD_eq_getElem?_getD, List.getElem?_set, show ¬ i.toNat = j.toNat by omega]
theorem rd42_append_left {l m : List S42} {i : Int} (h0 : 0 ≤ i) (h1 : i < l.length) : rd_T42 (l ++ m) i = rd_T42 l i := by
  simp [rd_T42, List.getD_eq_getElem?_getD, List.getElem?_append_left (show i.toNat < l.length by omega)]
theorem rd42_last {l : List S42} {x : S42} : rd_T42 (l ++ [x]) (l.length : Int) = x := by
  simp [rd_T42, List.getD_eq_getElem?_getD]
theorem ext42 {l m : List S42} (h : l.length = m.length) (hr : ∀ i : Int, 0 ≤ i → i < l.length → rd_T42 l i = rd_T42 m i) : l = m := by
  apply List.ext_getElem h
  intro i h1 h2
  have := hr i (by omega) (by omega)
  simpa [rd_T42, List.getD_eq_getElem?_getD, List.getElem?_eq_getElem h1, List.getElem?_eq_getElem h2] using this
/-! ### the drawn spells -/
theorem pickM_at (c : List Int) (hc : c.length ≤ 1048576) {p : Int} (hp : InRow c p) (s : Int) (j : Nat) (l : List Int) (hl : 0 < l.length) (hl2 : l.length ≤ 256) : ∃ r, spec_l1PickInt.f c (adv c j p) (nxn j s) l = some (r, adv c (j + 1) p, nxn (j + 1) s) ∧ r ∈ l := by
  obtain ⟨b, e, b0, b1, _⟩ := below_at c hc hp s j (l.length : Int) (by omega) (by omega)
  unfold spec_l1PickInt.f
  rw [e, Option.bind_some]
  dsimp only
  rw [if_pos b0, if_pos b1]
  exact ⟨_, rfl, rd_mem b0 b1⟩
theorem byte_at (c : List Int) (hc : c.length ≤ 1048576) {p : Int} (hp : InRow c p) (s : Int) (j : Nat) : ∃ b, spec_l1Byte.f c (adv c j p) (nxn j s) = some (b, adv c (j + 1) p, nxn (j + 1) s) ∧ 0 ≤ b ∧ b ≤ 255 := by
  obtain ⟨b, e, b0, b1, _⟩ := byte_st c hc (adv_in c j p hp) (nxn j s)
  refine ⟨b, ?_, b0, b1⟩
  rw [e, adv_add, nxn_add]; rfl
theorem below4_at (c : List Int) (hc : c.length ≤ 1048576) {p : Int} (hp : InRow c p) (s : Int) (j : Nat) (n : Int) (h : 256 < n) : ∃ r, spec_l1Below.f c (adv c j p) (nxn j s) n = some (r, adv c (j + 4) p, nxn (j + 4) s) ∧ 0 ≤ r ∧ r < n := by
  obtain ⟨b1, e1, l1, u1⟩ := byte_at c hc hp s j
  obtain ⟨b2, e2, l2, u2⟩ := byte_at c hc hp s (j + 1)
  obtain ⟨b3, e3, l3, u3⟩ := byte_at c hc hp s (j + 2)
  obtain ⟨b4, e4, l4, u4⟩ := byte_at c hc hp s (j + 3)
  unfold spec_l1Below.f
  rw [if_neg (by omega), if_neg (by omega), e1, Option.bind_some]
  dsimp only
  rw [e2, Option.bind_some]
  dsimp only
  rw [e3, Option.bind_some]
  dsimp only
  rw [e4, Option.bind_some, if_neg (by omega)]
  dsimp only
  rw [w64 (x := b1 * 16777216) (by omega) (by omega), w64 (x := b2 * 65536) (by omega) (by omega), w64 (x := b3 * 256) (by omega) (by omega), w64 (x := b1 * 16777216 + b2 * 65536) (by omega) (by omega), w64 (x := b1 * 16777216 + b2 * 65536 + b3 * 256) (by omega) (by omega), w64 (by omega) (by omega), tm (by omega)]
  exact ⟨_, rfl, Int.emod_nonneg _ (by omega), Int.emod_lt_of_pos _ (by omega)⟩
/-- One byte or four. -/
theorem belowAny_at (c : List Int) (hc : c.length ≤ 1048576) {p : Int} (hp : InRow c p) (s : Int) (j : Nat) (n : Int) (h : 1 ≤ n) : ∃ r m, j ≤ m ∧ m ≤ j + 4 ∧ spec_l1Below.f c (adv c j p) (nxn j s) n = some (r, adv c m p, nxn m s) ∧ 0 ≤ r ∧ r < n := by
  by_cases c1 : n ≤ 256
  · obtain ⟨r, e, r0, r1, _⟩ := below_at c hc hp s j n h c1
    exact ⟨r, j + 1, by omega, by omega, e, r0, r1⟩
  · obtain ⟨r, e, r0, r1⟩ := below4_at c hc hp s j n (by omega)
    exact ⟨r, j + 4, by omega, by omega, e, r0, r1⟩
/-- A spell that is over soon, or begins late. -/
def FarS (x : S42) : Prop := x.f1 ≤ 100000 ∨ x.f0 ≥ 99999990
def Far (l : List S42) : Prop := ∀ x ∈ l, FarS x
theorem Far_snoc {l : List S42} {x : S42} (h : Far l) (hx : FarS x) : Far (l ++ [x]) := by
  intro y hy
  rcases List.mem_append.1 hy with hy | hy
  · exact h y hy
  · rw [List.mem_singleton.1 hy]; exact hx
theorem anys_at (c : List Int) (hc : c.length ≤ 1048576) {p : Int} (hp : InRow c p) (s n : Int) (hn0 : 1 ≤ n) (hn1 : n ≤ 1500) (d : Nat) : ∀ (l : List S42) (t i : Int) (j : Nat), i = d → 0 ≤ t → t + 2160 * d ≤ 90000 → Far l → l.length + d ≤ 1000 →
    ∃ l' m, j ≤ m ∧ m ≤ j + 8 * d ∧ Far l' ∧ l'.length = l.length + d ∧ ∀ k, d < k → spec_l10DrawSpells.l0 k n l t i c (adv c j p) (nxn j s) = some (l', adv c m p, nxn m s) := by
  induction d with
  | zero =>
    intro l t i j hi ht0 ht1 hf hl
    refine ⟨l, j, by omega, by omega, hf, by omega, fun k hk => ?_⟩
    obtain ⟨k, rfl⟩ := pos_round (show 0 < k by omega)
    simp only [spec_l10DrawSpells.l0]
    rw [if_neg (by omega)]
  | succ d ih =>
    intro l t i j hi ht0 ht1 hf hl
    obtain ⟨a, e1, a0, a1⟩ := below4_at c hc hp s j 600 (by omega)
    obtain ⟨b, m1, h1, h2, e2, b0, b1⟩ := belowAny_at c hc hp s (j + 4) n hn0
    have hx : FarS (⟨t, t + 60 + a⟩ : S42) := by unfold FarS; dsimp only; omega
    obtain ⟨l', m, g1, g2, g3, g4, g5⟩ := ih (l ++ [(⟨t, t + 60 + a⟩ : S42)]) (t + 60 + a + b) (i - 1) m1 (by omega) (by omega) (by omega) (Far_snoc hf hx) (by simp; omega)
    refine ⟨l', m, by omega, by omega, g3, by simp at g4; omega, fun k hk => ?_⟩
    obtain ⟨k, rfl⟩ := pos_round (show 0 < k by omega)
    simp only [spec_l10DrawSpells.l0]
    rw [if_pos (by omega), e1, Option.bind_some, if_pos (by omega)]
    dsimp only
    rw [e2, Option.bind_some]
    dsimp only
    rw [w64 (x := t + 60) (by omega) (by omega), w64 (x := t + 60 + a) (by omega) (by omega), w64 (x := t + 60 + a + b) (by omega) (by omega), w64 (x := i - 1) (by omega) (by omega)]
    exact g5 k (by omega)
theorem any_loop (c : List Int) (hc : c.length ≤ 1048576) {p : Int} (hp : InRow c p) (s : Int) (d : Nat) : ∀ (l : List S42) (i : Int) (j : Nat), 0 ≤ i → i + d = 101 → Far l → l.length = i →
    ∃ l' m, j ≤ m ∧ m ≤ j + d + 1 ∧ Far l' ∧ l'.length ≤ 1000 ∧ ∀ k, d < k → spec_l10DrawAny.l0 k l i c (adv c j p) (nxn j s) = some (l', adv c m p, nxn m s) := by
  induction d with
  | zero =>
    intro l i j h0 hi hf hl
    obtain ⟨a, e1, a0, a1, _⟩ := below_at c hc hp s j 2 (by omega) (by omega)
    refine ⟨l, j + 1, by omega, by omega, hf, by omega, fun k hk => ?_⟩
    obtain ⟨k, rfl⟩ := pos_round (show 0 < k by omega)
    simp only [spec_l10DrawAny.l0]
    rw [e1, Option.bind_some]
    dsimp only
    rw [w64 (x := 100 + a) (by omega) (by omega), if_neg (by omega)]
  | succ d ih =>
    intro l i j h0 hi hf hl
    obtain ⟨a, e1, a0, a1, _⟩ := below_at c hc hp s j 2 (by omega) (by omega)
    by_cases c1 : i < 100 + a
    · have hx : FarS (⟨3 * i, 3 * i + 1⟩ : S42) := by unfold FarS; dsimp only; omega
      obtain ⟨l', m, g1, g2, g3, g4, g5⟩ := ih (l ++ [(⟨3 * i, 3 * i + 1⟩ : S42)]) (i + 1) (j + 1) (by omega) (by omega) (Far_snoc hf hx) (by simp; omega)
      refine ⟨l', m, by omega, by omega, g3, g4, fun k hk => ?_⟩
      obtain ⟨k, rfl⟩ := pos_round (show 0 < k by omega)
      simp only [spec_l10DrawAny.l0]
      rw [e1, Option.bind_some]
      dsimp only
      rw [w64 (x := 100 + a) (by omega) (by omega), if_pos c1, if_pos (by omega), w64 (x := 3 * i) (by omega) (by omega), w64 (x := 3 * i + 1) (by omega) (by omega), w64 (x := i + 1) (by omega) (by omega)]
      exact g5 k (by omega)
    · refine ⟨l, j + 1, by omega, by omega, hf, by omega, fun k hk => ?_⟩
      obtain ⟨k, rfl⟩ := pos_round (show 0 < k by omega)
      simp only [spec_l10DrawAny.l0]
      rw [e1, Option.bind_some]
      dsimp only
      rw [w64 (x := 100 + a) (by omega) (by omega), if_neg (by omega)]
theorem spells_at (c : List Int) (hc : c.length ≤ 1048576) {p : Int} (hp : InRow c p) (s n : Int) (hn0 : 1 ≤ n) (hn1 : n ≤ 1500) (j : Nat) :
    ∃ l m, j ≤ m ∧ m ≤ j + 237 ∧ Far l ∧ l.length ≤ 1000 ∧ ∀ k, 30 < k → spec_l10DrawSpells.f k c (adv c j p) (nxn j s) n = some (l, adv c m p, nxn m s) := by
  obtain ⟨a, e1, a0, a1⟩ := below4_at c hc hp s j 300 (by omega)
  obtain ⟨b, e2, b0, b1, _⟩ := below_at c hc hp s (j + 4) 30 (by omega) (by omega)
  obtain ⟨l, m, g1, g2, g3, g4, g5⟩ := anys_at c hc hp s n hn0 hn1 b.toNat [] a b (j + 4 + 1) (by omega) a0 (by omega) (fun x hx => by cases hx) (by simp; omega)
  refine ⟨l, m, by omega, by omega, g3, by simp at g4; omega, fun k hk => ?_⟩
  unfold spec_l10DrawSpells.f
  rw [e1, Option.bind_some]
  dsimp only
  rw [e2, Option.bind_some]
  exact g5 k (by omega)
theorem any_at (c : List Int) (hc : c.length ≤ 1048576) {p : Int} (hp : InRow c p) (s : Int) (j : Nat) :
    ∃ l m, j ≤ m ∧ m ≤ j + 341 ∧ Far l ∧ l.length ≤ 1001 ∧ ∀ k, 110 < k → spec_l10DrawAny.f k c (adv c j p) (nxn j s) = some (l, adv c m p, nxn m s) := by
  obtain ⟨n, e1, hn⟩ := pickM_at c hc hp s j [100, 600, 900, 1500] (by decide) (by decide)
  have hn0 : 1 ≤ n ∧ n ≤ 1500 := by simp at hn; omega
  obtain ⟨l, m, g1, g2, g3, g4, g5⟩ := spells_at c hc hp s n hn0.1 hn0.2 (j + 1)
  obtain ⟨q, e2, q0, q1, _⟩ := below_at c hc hp s m 30 (by omega) (by omega)
  obtain ⟨x1, f1, x10, x11, _⟩ := below_at c hc hp s (m + 1) 100 (by omega) (by omega)
  obtain ⟨x2, f2, x20, x21, _⟩ := below_at c hc hp s (m + 1 + 1) 100 (by omega) (by omega)
  obtain ⟨y1, f3, y10, y11, _⟩ := below_at c hc hp s (m + 1) 3 (by omega) (by omega)
  obtain ⟨y2, f4, y20, y21, _⟩ := below_at c hc hp s (m + 1 + 1) 3 (by omega) (by omega)
  obtain ⟨z1, f5, z10, z11, _⟩ := below_at c hc hp s (m + 1) 2 (by omega) (by omega)
  obtain ⟨l3, m3, i1, i2, i3, i4, i5⟩ := any_loop c hc hp s 101 [] 0 (m + 1) (by omega) (by omega) (fun x hx => by cases hx) (by simp)
  have st : ∀ k, 110 < k → ∀ r, (if q = 0 then ((spec_l1Below.f c (adv c (m + 1) p) (nxn (m + 1) s) 100).bind fun bt160 => ((spec_l1Below.f c bt160.2.1 bt160.2.2 100).bind fun bt163 => (if l.length < 8796093022208 then (some ((l ++ [(⟨bt160.1, bt163.1⟩ : S42)]), bt163.2.1, bt163.2.2)) else (none)))) else (if q = 1 then ((spec_l1Below.f c (adv c (m + 1) p) (nxn (m + 1) s) 3).bind fun bt169 => ((spec_l1Below.f c bt169.2.1 bt169.2.2 3).bind fun bt172 => ((some (([(⟨wrap64 (bt169.1 - 1), bt172.1⟩ : S42)] : List (S42)) : List (S42))).bind fun y175 => (if y175.length + l.length < 8796093022208 then (some ((y175 ++ l), bt172.2.1, bt172.2.2)) else (none))))) else (if q = 2 then ((spec_l1Below.f c (adv c (m + 1) p) (nxn (m + 1) s) 2).bind fun bt181 => (if l.length < 8796093022208 then (some ((l ++ [(⟨99999995, wrap64 (100000000 + bt181.1)⟩ : S42)]), bt181.2.1, bt181.2.2)) else (none))) else (if q = 3 then (spec_l10DrawAny.l0 k ([] : List (S42)) 0 c (adv c (m + 1) p) (nxn (m + 1) s)) else (some (l, adv c (m + 1) p, nxn (m + 1) s)))))) = r → spec_l10DrawAny.f k c (adv c j p) (nxn j s) = r := by
    intro k hk r hr
    unfold spec_l10DrawAny.f
    rw [e1, Option.bind_some]
    dsimp only
    rw [g5 k (by omega), Option.bind_some]
    dsimp only
    rw [e2, Option.bind_some]
    exact hr
  by_cases c0 : q = 0
  · refine ⟨l ++ [(⟨x1, x2⟩ : S42)], m + 1 + 1 + 1, by omega, by omega, Far_snoc g3 (.inl (by dsimp only; omega)), by simp; omega, fun k hk => st k hk _ ?_⟩
    rw [if_pos c0, f1, Option.bind_some]
    dsimp only
    rw [f2, Option.bind_some, if_pos (by omega)]
  by_cases c1 : q = 1
  · refine ⟨[(⟨y1 - 1, y2⟩ : S42)] ++ l, m + 1 + 1 + 1, by omega, by omega, ?_, by simp; omega, fun k hk => st k hk _ ?_⟩
    · intro x hx
      rcases List.mem_append.1 hx with hx | hx
      · rw [List.mem_singleton.1 hx]; exact .inl (by dsimp only; omega)
      · exact g3 x hx
    rw [if_neg c0, if_pos c1, f3, Option.bind_some]
    dsimp only
    rw [f4, Option.bind_some, Option.bind_some, if_pos (by simp; omega), w64 (x := y1 - 1) (by omega) (by omega)]
  by_cases c2 : q = 2
  · refine ⟨l ++ [(⟨99999995, 100000000 + z1⟩ : S42)], m + 1 + 1, by omega, by omega, Far_snoc g3 (.inr (by dsimp only; omega)), by simp; omega, fun k hk => st k hk _ ?_⟩
    rw [if_neg c0, if_neg c1, if_pos c2, f5, Option.bind_some, if_pos (by omega)]
    dsimp only
    rw [w64 (x := 100000000 + z1) (by omega) (by omega)]
  by_cases c3 : q = 3
  · refine ⟨l3, m3, by omega, by omega, i3, by omega, fun k hk => st k hk _ ?_⟩
    rw [if_neg c0, if_neg c1, if_neg c2, if_pos c3]
    exact i5 k (by omega)
  · refine ⟨l, m + 1, by omega, by omega, g3, by omega, fun k hk => st k hk _ ?_⟩
    rw [if_neg c0, if_neg c1, if_neg c2, if_neg c3]
/-! ### the looks at the arguments -/
theorem in_eqC (a b c : Int) : impl_in.f a b c = some (decide (b ≤ a ∧ a ≤ c)) := in_some a b c
theorem in_eqC' (a b c : Int) : spec_l1In.f a b c = some (decide (b ≤ a ∧ a ≤ c)) := in_some a b c
theorem minute_eq (a : Int) : impl_minuteOk.f a = some (decide (0 ≤ a ∧ a ≤ 100000000)) := by
  unfold impl_minuteOk.f; rw [in_eqC, Option.bind_some]
theorem minute_eq' (a : Int) : spec_l1Minute.f a = some (decide (0 ≤ a ∧ a ≤ 100000000)) := by
  unfold spec_l1Minute.f; rw [in_eqC', Option.bind_some]
/-- What a spell must be. -/
def Good (l : List S42) (j : Int) : Prop := 0 ≤ (rd_T42 l j).f0 ∧ (rd_T42 l j).f0 < (rd_T42 l j).f1 ∧ (rd_T42 l j).f1 ≤ 100000000 ∧ (0 < j → (rd_T42 l (j - 1)).f1 ≤ (rd_T42 l j).f0)
theorem own_sameC (l : List S42) (h : l.length ≤ 1048576) : impl_Spell.f l = some l := by
  unfold impl_Spell.f
  rw [if_pos (by omega), if_pos (by omega), Option.bind_some, if_pos (by simp; omega)]; rfl
/-! ### the work in a time -/
/-- What a spell takes of the time from b to e. -/
def ov (b e : Int) (x : S42) : Int := if (if x.f0 < b then b else x.f0) < (if x.f1 > e then e else x.f1) then (if x.f1 > e then e else x.f1) - (if x.f0 < b then b else x.f0) else 0
def ovs (b e : Int) : List S42 → Int
  | [] => 0
  | x :: l => ov b e x + ovs b e l
theorem ov_range {b e : Int} (h : b ≤ e) (x : S42) : 0 ≤ ov b e x ∧ ov b e x ≤ e - b := by
  unfold ov
  split <;> (try split) <;> (try split) <;> omega
theorem ovs_range {b e : Int} (h : b ≤ e) (l : List S42) : 0 ≤ ovs b e l ∧ ovs b e l ≤ (e - b) * l.length := by
  induction l with
  | nil => simp [ovs]
  | cons x l ih =>
    obtain ⟨h1, h2⟩ := ov_range h x
    simp only [ovs, List.length_cons]
    have : (e - b) * ((l.length + 1 : Nat) : Int) = (e - b) * (l.length : Int) + (e - b) := by rw [Int.natCast_succ, Int.mul_add, Int.mul_one]
    omega
theorem ovs_small {b e : Int} (h : b ≤ e) (h0 : 0 ≤ b) (h1 : e ≤ 100000000) (l : List S42) (hl : l.length ≤ 100) : 0 ≤ ovs b e l ∧ ovs b e l ≤ 10000000000 := by
  obtain ⟨h2, h3⟩ := ovs_range h l
  have : (e - b) * (l.length : Int) ≤ 100000000 * 100 := mul_le2 (by omega) (by omega) (by omega) (by omega)
  omega
theorem work_loop (l : List S42) (hl : l.length ≤ 100) (b e : Int) (h : b ≤ e) (hb0 : 0 ≤ b) (he1 : e ≤ 100000000) (hg : ∀ j : Int, 0 ≤ j → j < l.length → Good l j) (d : Nat) : ∀ (i a : Int), 0 ≤ i → i ≤ l.length → (l.length : Int) - i = d → 0 ≤ a → a ≤ 100000000 * i → ∀ k, 2 * d < k → spec_l10Work.l0 k l b e a i = some (a + ovs b e (l.drop i.toNat)) := by
  induction d with
  | zero =>
    intro i a h0 h1 hd ha0 ha1 k hk
    obtain ⟨k, rfl⟩ := pos_round (show 0 < k by omega)
    simp only [spec_l10Work.l0]
    rw [if_neg (by omega), List.drop_eq_nil_of_le (by omega)]
    simp [ovs]
  | succ d ih =>
    intro i a h0 h1 hd ha0 ha1 k hk
    obtain ⟨k, rfl⟩ : ∃ j, k = j + 2 := ⟨k - 2, by omega⟩
    have hlt : i < (l.length : Int) := by omega
    obtain ⟨g1, g2, g3, g4⟩ := hg i h0 hlt
    obtain ⟨o1, o2⟩ := ov_range h (rd_T42 l i)
    have key : spec_l10Work.l0 (k + 2) l b e a i = spec_l10Work.l0 k l b e (a + ov b e (rd_T42 l i)) (i + 1) := by
      have hj : ∀ p : Int, 0 ≤ p → p ≤ 100000000 → spec_l10Work.j1 (k + 1) l b e a i p (rd_T42 l i).f1 = spec_l10Work.l0 k l b e (a + (if p < (if (rd_T42 l i).f1 > e then e else (rd_T42 l i).f1) then (if (rd_T42 l i).f1 > e then e else (rd_T42 l i).f1) - p else 0)) (i + 1) := by
        intro p p0 p1
        simp only [spec_l10Work.j1]
        rw [w64 (x := i + 1) (by omega) (by omega)]
        by_cases c1 : (rd_T42 l i).f1 > e
        · rw [if_pos c1, if_pos c1]
          by_cases c2 : p < e
          · rw [if_pos c2, if_pos c2, w64 (x := a + e) (by omega) (by omega), w64 (x := a + e - p) (by omega) (by omega), show a + e - p = a + (e - p) by omega]
          · rw [if_neg c2, if_neg c2, Int.add_zero]
        · rw [if_neg c1, if_neg c1]
          by_cases c2 : p < (rd_T42 l i).f1
          · rw [if_pos c2, if_pos c2, w64 (x := a + _) (by omega) (by omega), w64 (x := a + _ - p) (by omega) (by omega), show a + (rd_T42 l i).f1 - p = a + ((rd_T42 l i).f1 - p) by omega]
          · rw [if_neg c2, if_neg c2, Int.add_zero]
      simp only [spec_l10Work.l0]
      rw [if_pos hlt, if_pos h0]
      unfold ov
      by_cases c : (rd_T42 l i).f0 < b
      · rw [if_pos c, if_pos c]; exact hj b hb0 (by omega)
      · rw [if_neg c, if_neg c]; exact hj _ g1 (by omega)
    rw [key, ih (i + 1) _ (by omega) (by omega) (by omega) (by omega) (by omega) k (by omega), rd42_drop h0 hlt]
    simp only [ovs]
    congr 1; omega
theorem work_ok (l : List S42) (hl : l.length ≤ 100) (b e : Int) (h : b ≤ e) (hb0 : 0 ≤ b) (he1 : e ≤ 100000000) (hg : ∀ j : Int, 0 ≤ j → j < l.length → Good l j) (k : Nat) (hk : 200 < k) : spec_l10Work.f k l b e = some (ovs b e l) := by
  unfold spec_l10Work.f
  rw [work_loop l hl b e h hb0 he1 hg l.length 0 0 (by omega) (by omega) (by omega) (by omega) (by omega) k (by omega)]
  simp
/-- Sorted: what begins later begins behind all that ends earlier. -/
theorem good_sorted {l : List S42} (hg : ∀ j : Int, 0 ≤ j → j < l.length → Good l j) (i : Int) (h0 : 0 ≤ i) (d : Nat) : i + d + 1 < l.length → (rd_T42 l i).f1 ≤ (rd_T42 l (i + d + 1)).f0 := by
  induction d with
  | zero =>
    intro h
    obtain ⟨_, _, _, g⟩ := hg (i + ((0 : Nat) : Int) + 1) (by omega) h
    have := g (by omega)
    rw [show i + ((0 : Nat) : Int) + 1 - 1 = i by omega] at this
    exact this
  | succ d ih =>
    intro h
    obtain ⟨_, _, _, g⟩ := hg (i + ((d + 1 : Nat) : Int) + 1) (by omega) h
    have h2 := g (by omega)
    rw [show i + ((d + 1 : Nat) : Int) + 1 - 1 = i + d + 1 by omega] at h2
    obtain ⟨_, g2, _, _⟩ := hg (i + d + 1) (by omega) (by omega)
    have := ih (by omega)
    omega
theorem good_sorted' {l : List S42} (hg : ∀ j : Int, 0 ≤ j → j < l.length → Good l j) {i j : Int} (h0 : 0 ≤ i) (hij : i < j) (hj : j < l.length) : (rd_T42 l i).f1 ≤ (rd_T42 l j).f0 := by
  have := good_sorted hg i h0 (j - i - 1).toNat (by omega)
  rwa [show i + ((j - i - 1).toNat : Int) + 1 = j by omega] at this
/-- What begins at the end or later takes nothing. -/
theorem ovs_past (l : List S42) (b e : Int) (d : Nat) : ∀ (i : Int), 0 ≤ i → i ≤ l.length → (l.length : Int) - i = d → (∀ j : Int, i ≤ j → j < l.length → e ≤ b ∨ e ≤ (rd_T42 l j).f0) → ovs b e (l.drop i.toNat) = 0 := by
  induction d with
  | zero =>
    intro i h0 h1 hd _
    rw [List.drop_eq_nil_of_le (by omega)]; rfl
  | succ d ih =>
    intro i h0 h1 hd hp
    have hlt : i < (l.length : Int) := by omega
    rw [rd42_drop h0 hlt]
    simp only [ovs]
    rw [ih (i + 1) (by omega) (by omega) (by omega) (fun j h2 h3 => hp j (by omega) h3)]
    have := hp i (by omega) hlt
    unfold ov
    split <;> (try split) <;> (try split) <;> omega
/-! ### what counts, over the spells alone -/
/-- How the count ends, where nothing is left or the end is reached. -/
def stopR (A e at_ used : Int) : Int × Int × Int := if used = A ∧ at_ < e then (used, e - at_, at_) else (used, 0, -1)
/-- The minutes that are used in the free time up to `F`. -/
def use1 (A F e at_ used : Int) : Int := if (if F < e then F else e) - at_ ≤ A - used then (if F < e then F else e) - at_ else A - used
def G (A e : Int) : List S42 → Int → Int → Int × Int × Int
  | [], at_, used => if used = A ∨ at_ ≥ e then stopR A e at_ used else stopR A e (at_ + use1 A e e at_ used) (used + use1 A e e at_ used)
  | x :: l, at_, used =>
    if used = A ∨ at_ ≥ e then stopR A e at_ used
    else if x.f1 ≤ at_ then G A e l at_ used
    else if x.f0 ≤ at_ then G A e l x.f1 used
    else if used + use1 A x.f0 e at_ used < A then G A e l x.f1 (used + use1 A x.f0 e at_ used)
    else G A e l (at_ + use1 A x.f0 e at_ used) (used + use1 A x.f0 e at_ used)
theorem G_stop (A e : Int) (l : List S42) (at_ used : Int) (h : used = A ∨ at_ ≥ e) : G A e l at_ used = stopR A e at_ used := by
  cases l <;> simp only [G] <;> rw [if_pos h]
/-- What has been used ahead only adds to it. -/
theorem G_shift (A e u : Int) (l : List S42) : ∀ (at_ used : Int), G A e l at_ (u + used) = (u + (G (A - u) e l at_ used).1, (G (A - u) e l at_ used).2.1, (G (A - u) e l at_ used).2.2) := by
  have st : ∀ at_ used : Int, stopR A e at_ (u + used) = (u + (stopR (A - u) e at_ used).1, (stopR (A - u) e at_ used).2.1, (stopR (A - u) e at_ used).2.2) := by
    intro at_ used
    unfold stopR
    by_cases c : used = A - u ∧ at_ < e
    · rw [if_pos (by omega), if_pos c]
    · rw [if_neg (by omega), if_neg c]
  have us : ∀ F at_ used : Int, use1 A F e at_ (u + used) = use1 (A - u) F e at_ used := by
    intro F at_ used
    unfold use1
    rw [show A - (u + used) = A - u - used by omega]
  induction l with
  | nil =>
    intro at_ used
    simp only [G, us]
    by_cases c : used = A - u ∨ at_ ≥ e
    · rw [if_pos (by omega), if_pos c, st]
    · rw [if_neg (by omega), if_neg c, show u + used + use1 (A - u) e e at_ used = u + (used + use1 (A - u) e e at_ used) by omega, st]
  | cons x l ih =>
    intro at_ used
    simp only [G, us]
    by_cases c : used = A - u ∨ at_ ≥ e
    · rw [if_pos (by omega), if_pos c, st]
    · rw [if_neg (by omega), if_neg c]
      by_cases c1 : x.f1 ≤ at_
      · rw [if_pos c1, if_pos c1, ih]
      · rw [if_neg c1, if_neg c1]
        by_cases c2 : x.f0 ≤ at_
        · rw [if_pos c2, if_pos c2, ih]
        · rw [if_neg c2, if_neg c2, show u + used + use1 (A - u) x.f0 e at_ used = u + (used + use1 (A - u) x.f0 e at_ used) by omega]
          by_cases c3 : used + use1 (A - u) x.f0 e at_ used < A - u
          · rw [if_pos (by omega), if_pos c3, ih]
          · rw [if_neg (by omega), if_neg c3, ih]
/-- Two parts that touch come to the whole. -/
def Joined (A m e : Int) (l : List S42) (at_ used : Int) : Prop :=
  G A e l at_ used = ((G A m l at_ used).1 + (G (A - (G A m l at_ used).1) e l m 0).1, (G A m l at_ used).2.1 + (G (A - (G A m l at_ used).1) e l m 0).2.1, if (G A m l at_ used).2.2 < 0 then (G (A - (G A m l at_ used).1) e l m 0).2.2 else (G A m l at_ used).2.2)
theorem G_parts (A m e : Int) (hme : m < e) (hm0 : 0 ≤ m) (l : List S42) : (∀ x ∈ l, x.f0 < x.f1) → ∀ (at_ used : Int), 0 ≤ at_ → at_ ≤ m → used ≤ A → Joined A m e l at_ used := by
  -- all is used up ahead of the cut
  have up : ∀ (l l' : List S42) (at_ : Int), 0 ≤ at_ → at_ ≤ m → stopR A e at_ A = ((stopR A m at_ A).1 + (G (A - (stopR A m at_ A).1) e l' m 0).1, (stopR A m at_ A).2.1 + (G (A - (stopR A m at_ A).1) e l' m 0).2.1, if (stopR A m at_ A).2.2 < 0 then (G (A - (stopR A m at_ A).1) e l' m 0).2.2 else (stopR A m at_ A).2.2) := by
    intro l l' at_ h0 h1
    have e1 : (stopR A m at_ A).1 = A := by unfold stopR; split <;> rfl
    rw [e1, G_stop _ _ _ _ _ (.inl (by omega))]
    unfold stopR
    rw [if_pos (show A = A ∧ at_ < e by omega), if_pos (show (0 : Int) = A - A ∧ m < e by omega)]
    by_cases c : at_ < m
    · rw [if_pos ⟨rfl, c⟩]
      dsimp only
      rw [if_neg (by omega), show A + 0 = A by omega, show m - at_ + (e - m) = e - at_ by omega]
    · rw [if_neg (fun h => c h.2)]
      dsimp only
      rw [if_pos (by omega), show A + 0 = A by omega, show at_ = m by omega, show 0 + (e - m) = e - m by omega]
  -- the cut is reached
  have cut : ∀ (l l' : List S42) (at_ used : Int), m ≤ at_ → used < A → ∀ (r : Int × Int × Int), G (A - used) e l' m 0 = r → (used + r.1, r.2.1, r.2.2) = ((G A m l at_ used).1 + (G (A - (G A m l at_ used).1) e l' m 0).1, (G A m l at_ used).2.1 + (G (A - (G A m l at_ used).1) e l' m 0).2.1, if (G A m l at_ used).2.2 < 0 then (G (A - (G A m l at_ used).1) e l' m 0).2.2 else (G A m l at_ used).2.2) := by
    intro l l' at_ used h0 h1 r hr
    have e1 : G A m l at_ used = (used, 0, -1) := by rw [G_stop _ _ _ _ _ (.inr h0)]; unfold stopR; rw [if_neg (by omega)]
    rw [e1]
    dsimp only
    rw [hr, if_pos (by omega), Int.zero_add]
  induction l with
  | nil =>
    intro _ at_ used h0 h1 hu
    unfold Joined
    by_cases c : used = A
    · subst c
      rw [G_stop _ _ _ _ _ (.inl rfl), G_stop _ m _ at_ _ (.inl rfl)]
      exact up [] [] at_ h0 h1
    · have hw : G A e [] at_ used = stopR A e (at_ + use1 A e e at_ used) (used + use1 A e e at_ used) := by simp only [G]; rw [if_neg (by omega)]
      by_cases c1 : m - at_ < A - used
      · have hm1 : used + (m - at_) = (if at_ < m then used + use1 A m m at_ used else used) := by
          by_cases c2 : at_ < m
          · rw [if_pos c2]; unfold use1; rw [if_neg (Int.lt_irrefl m), if_pos (by omega)]
          · rw [if_neg c2]; omega
        have hp : G A m [] at_ used = (used + (m - at_), 0, -1) := by
          simp only [G]
          by_cases c2 : at_ < m
          · rw [if_neg (by omega)]
            have e1 : use1 A m m at_ used = m - at_ := by unfold use1; rw [if_neg (Int.lt_irrefl m), if_pos (by omega)]
            rw [e1]; unfold stopR; rw [if_neg (by omega)]
          · rw [if_pos (by omega)]; unfold stopR; rw [if_neg (by omega), show used + (m - at_) = used by omega]
        rw [hp]
        dsimp only
        have hs : G (A - (used + (m - at_))) e [] m 0 = stopR (A - (used + (m - at_))) e (m + use1 (A - (used + (m - at_))) e e m 0) (0 + use1 (A - (used + (m - at_))) e e m 0) := by simp only [G]; rw [if_neg (by omega)]
        rw [hw, hs, if_pos (by omega)]
        have e2 : use1 A e e at_ used = (m - at_) + use1 (A - (used + (m - at_))) e e m 0 := by
          unfold use1; rw [if_neg (Int.lt_irrefl e)]
          by_cases c2 : e - at_ ≤ A - used
          · rw [if_pos c2, if_pos (by omega)]; omega
          · rw [if_neg c2, if_neg (by omega)]; omega
        rw [e2]
        generalize use1 (A - (used + (m - at_))) e e m 0 = v
        unfold stopR
        by_cases c3 : used + (m - at_ + v) = A ∧ at_ + (m - at_ + v) < e
        · rw [if_pos c3, if_pos (by omega)]
          dsimp only
          rw [show used + (m - at_ + v) = used + (m - at_) + (0 + v) by omega, show e - (at_ + (m - at_ + v)) = 0 + (e - (m + v)) by omega, show at_ + (m - at_ + v) = m + v by omega]
        · rw [if_neg c3, if_neg (by omega)]
          dsimp only
          rw [show used + (m - at_ + v) = used + (m - at_) + (0 + v) by omega, Int.add_zero]
      · have e1 : use1 A m m at_ used = A - used := by unfold use1; rw [if_neg (Int.lt_irrefl m)]; split <;> omega
        have e2 : use1 A e e at_ used = A - used := by unfold use1; rw [if_neg (Int.lt_irrefl e)]; split <;> omega
        have hp : G A m [] at_ used = stopR A m (at_ + (A - used)) A := by
          simp only [G]
          rw [if_neg (by omega), e1, show used + (A - used) = A by omega]
        rw [hw, hp, e2, show used + (A - used) = A by omega]
        exact up [] [] _ (by omega) (by omega)
  | cons x l ih =>
    intro hx at_ used h0 h1 hu
    have hxx := hx x (by simp)
    replace ih := ih fun y hy => hx y (by simp [hy])
    unfold Joined
    by_cases c : used = A
    · subst c
      rw [G_stop _ _ _ _ _ (.inl rfl), G_stop _ m _ at_ _ (.inl rfl)]
      exact up (x :: l) (x :: l) at_ h0 h1
    · by_cases cm : at_ = m
      · -- the cut is here
        subst cm
        have hr := G_shift A e used (x :: l) at_ 0
        rw [Int.add_zero] at hr
        rw [hr]
        exact cut (x :: l) (x :: l) at_ used (by omega) (by omega) _ rfl
      have sk : x.f1 ≤ m → ∀ A', G A' e (x :: l) m 0 = G A' e l m 0 := by
        intro h A'
        by_cases c5 : (0 : Int) = A'
        · rw [G_stop _ _ _ _ _ (.inl c5), G_stop _ _ _ _ _ (.inl c5)]
        · simp only [G]; rw [if_neg (by omega), if_pos h]
      have hw : G A e (x :: l) at_ used = if x.f1 ≤ at_ then G A e l at_ used else if x.f0 ≤ at_ then G A e l x.f1 used else if used + use1 A x.f0 e at_ used < A then G A e l x.f1 (used + use1 A x.f0 e at_ used) else G A e l (at_ + use1 A x.f0 e at_ used) (used + use1 A x.f0 e at_ used) := by
        simp only [G]; rw [if_neg (by omega)]
      have hp : G A m (x :: l) at_ used = if x.f1 ≤ at_ then G A m l at_ used else if x.f0 ≤ at_ then G A m l x.f1 used else if used + use1 A x.f0 m at_ used < A then G A m l x.f1 (used + use1 A x.f0 m at_ used) else G A m l (at_ + use1 A x.f0 m at_ used) (used + use1 A x.f0 m at_ used) := by
        simp only [G]; rw [if_neg (by omega)]
      by_cases c1 : x.f1 ≤ at_
      · rw [hw, hp, if_pos c1, if_pos c1, sk (by omega)]
        exact ih at_ used h0 h1 hu
      · by_cases c2 : x.f0 ≤ at_
        · rw [hw, hp, if_neg c1, if_neg c1, if_pos c2, if_pos c2]
          by_cases c3 : x.f1 ≤ m
          · rw [sk c3]
            exact ih x.f1 used (by omega) c3 hu
          · have hr := G_shift A e used l x.f1 0
            rw [Int.add_zero] at hr
            rw [hr]
            refine cut l (x :: l) x.f1 used (by omega) (by omega) _ ?_
            simp only [G]; rw [if_neg (by omega), if_neg c3, if_pos (by omega)]
        · rw [hw, hp, if_neg c1, if_neg c1, if_neg c2, if_neg c2]
          by_cases c4 : A - used ≤ (if x.f0 < m then x.f0 else m) - at_
          · -- all is used up here
            have e1 : use1 A x.f0 m at_ used = A - used := by unfold use1; split <;> split at c4 <;> split <;> omega
            have e2 : use1 A x.f0 e at_ used = A - used := by unfold use1; split <;> split at c4 <;> split <;> omega
            have hat : at_ + (A - used) ≤ m := by split at c4 <;> omega
            rw [e1, e2, if_neg (by omega), if_neg (by omega), show used + (A - used) = A by omega, G_stop A e l _ _ (.inl rfl), G_stop A m l _ _ (.inl rfl)]
            exact up l (x :: l) _ (by omega) hat
          · by_cases c5 : x.f0 < m
            · rw [if_pos c5] at c4
              have e1 : use1 A x.f0 m at_ used = x.f0 - at_ := by unfold use1; rw [if_pos c5, if_pos (by omega)]
              have e2 : use1 A x.f0 e at_ used = x.f0 - at_ := by unfold use1; rw [if_pos (by omega), if_pos (by omega)]
              rw [e1, e2, if_pos (by omega), if_pos (by omega)]
              by_cases c3 : x.f1 ≤ m
              · rw [sk c3]
                exact ih x.f1 _ (by omega) c3 (by omega)
              · have hr := G_shift A e (used + (x.f0 - at_)) l x.f1 0
                rw [Int.add_zero] at hr
                rw [hr]
                refine cut l (x :: l) x.f1 _ (by omega) (by omega) _ ?_
                simp only [G]; rw [if_neg (by omega), if_neg c3, if_pos (by omega)]
            · rw [if_neg c5] at c4
              have e1 : use1 A x.f0 m at_ used = m - at_ := by unfold use1; rw [if_neg c5, if_pos (by omega)]
              have e2 : use1 A x.f0 e at_ used = (m - at_) + use1 (A - (used + (m - at_))) x.f0 e m 0 := by
                unfold use1
                generalize (if x.f0 < e then x.f0 else e) = w
                by_cases c6 : w - at_ ≤ A - used
                · rw [if_pos c6, if_pos (by omega)]; omega
                · rw [if_neg c6, if_neg (by omega)]; omega
              rw [e1, e2, if_pos (show used + (m - at_) < A by omega)]
              generalize hv : use1 (A - (used + (m - at_))) x.f0 e m 0 = v
              have c7 : ¬ x.f1 ≤ m := by omega
              have hs : ∀ r, (if 0 + v < A - (used + (m - at_)) then G (A - (used + (m - at_))) e l x.f1 (0 + v) else G (A - (used + (m - at_))) e l (m + v) (0 + v)) = r → G (A - (used + (m - at_))) e (x :: l) m 0 = r := by
                intro r hr
                simp only [G]
                by_cases c8 : x.f0 ≤ m
                · have : v = 0 := by rw [← hv]; unfold use1; rw [if_pos (by omega), if_pos (by omega)]; omega
                  rw [if_neg (by omega), if_neg c7, if_pos c8, ← hr, this, if_pos (by omega), Int.add_zero]
                · rw [if_neg (by omega), if_neg c7, if_neg c8, hv]; exact hr
              by_cases c9 : 0 + v < A - (used + (m - at_))
              · rw [if_pos (by omega)]
                have hr := G_shift A e (used + (m - at_)) l x.f1 (0 + v)
                rw [show used + (m - at_ + v) = used + (m - at_) + (0 + v) by omega, hr]
                exact cut l (x :: l) x.f1 _ (by omega) (by omega) _ (hs _ (if_pos c9))
              · rw [if_neg (by omega)]
                have hr := G_shift A e (used + (m - at_)) l (m + v) (0 + v)
                rw [show used + (m - at_ + v) = used + (m - at_) + (0 + v) by omega, show at_ + (m - at_ + v) = m + v by omega, hr]
                exact cut l (x :: l) x.f1 _ (by omega) (by omega) _ (hs _ (if_neg c9))
theorem stopR_facts (A e at_ used : Int) (h : used ≤ A) (h2 : used = A ∨ at_ ≥ e) : (stopR A e at_ used).1 ≤ A ∧ used ≤ (stopR A e at_ used).1 ∧ 0 ≤ (stopR A e at_ used).2.1 ∧ (0 < (stopR A e at_ used).2.1 → (stopR A e at_ used).1 = A ∧ (stopR A e at_ used).2.2 = e - (stopR A e at_ used).2.1 ∧ at_ ≤ (stopR A e at_ used).2.2) := by
  unfold stopR
  by_cases c : used = A ∧ at_ < e
  · rw [if_pos c]
    dsimp only
    omega
  · rw [if_neg c]
    dsimp only
    omega
theorem use1_range (A F e at_ used : Int) (h : used ≤ A) (h1 : at_ < F) (h2 : at_ < e) : 0 ≤ use1 A F e at_ used ∧ use1 A F e at_ used ≤ A - used ∧ use1 A F e at_ used ≤ F - at_ ∧ use1 A F e at_ used ≤ e - at_ := by
  unfold use1
  split <;> split <;> omega
theorem G_facts (A e : Int) (l : List S42) : ∀ (at_ used : Int), used ≤ A → (G A e l at_ used).1 ≤ A ∧ used ≤ (G A e l at_ used).1 ∧ 0 ≤ (G A e l at_ used).2.1 ∧ (0 < (G A e l at_ used).2.1 → (G A e l at_ used).1 = A ∧ (G A e l at_ used).2.2 = e - (G A e l at_ used).2.1 ∧ at_ ≤ (G A e l at_ used).2.2) := by
  induction l with
  | nil =>
    intro at_ used hu
    by_cases c : used = A ∨ at_ ≥ e
    · rw [G_stop _ _ _ _ _ c]
      exact stopR_facts A e at_ used hu c
    · simp only [G]
      rw [if_neg c]
      obtain ⟨u0, u1, u2, u3⟩ := use1_range A e e at_ used hu (by omega) (by omega)
      have hst : used + use1 A e e at_ used = A ∨ at_ + use1 A e e at_ used ≥ e := by unfold use1; rw [if_neg (Int.lt_irrefl e)]; split <;> omega
      obtain ⟨a, b, d, f⟩ := stopR_facts A e (at_ + use1 A e e at_ used) (used + use1 A e e at_ used) (by omega) hst
      exact ⟨a, by omega, d, fun h => ⟨(f h).1, (f h).2.1, by have := (f h).2.2; omega⟩⟩
  | cons x l ih =>
    intro at_ used hu
    by_cases c : used = A ∨ at_ ≥ e
    · rw [G_stop _ _ _ _ _ c]
      exact stopR_facts A e at_ used hu c
    · simp only [G]
      rw [if_neg c]
      by_cases c1 : x.f1 ≤ at_
      · rw [if_pos c1]
        exact ih at_ used hu
      · rw [if_neg c1]
        by_cases c2 : x.f0 ≤ at_
        · rw [if_pos c2]
          obtain ⟨a, b, d, f⟩ := ih x.f1 used hu
          exact ⟨a, by omega, d, fun h => ⟨(f h).1, (f h).2.1, by have := (f h).2.2; omega⟩⟩
        · rw [if_neg c2]
          obtain ⟨u0, u1, u2, u3⟩ := use1_range A x.f0 e at_ used hu (by omega) (by omega)
          by_cases c3 : used + use1 A x.f0 e at_ used < A
          · rw [if_pos c3]
            obtain ⟨a, b, d, f⟩ := ih x.f1 (used + use1 A x.f0 e at_ used) (by omega)
            exact ⟨a, by omega, d, fun h => ⟨(f h).1, (f h).2.1, by have := (f h).2.2; omega⟩⟩
          · rw [if_neg c3]
            obtain ⟨a, b, d, f⟩ := ih (at_ + use1 A x.f0 e at_ used) (used + use1 A x.f0 e at_ used) (by omega)
            exact ⟨a, by omega, d, fun h => ⟨(f h).1, (f h).2.1, by have := (f h).2.2; omega⟩⟩
/-- In order, and each of some length. -/
def Srt : List S42 → Prop
  | [] => True
  | x :: l => x.f0 < x.f1 ∧ (∀ y ∈ l, x.f1 ≤ y.f0) ∧ Srt l
theorem Srt_len {l : List S42} (h : Srt l) : ∀ x ∈ l, x.f0 < x.f1 := by
  induction l with
  | nil => simp
  | cons x l ih =>
    intro y hy
    rcases List.mem_cons.1 hy with rfl | hy
    · exact h.1
    · exact ih h.2.2 y hy
theorem ovs_from (b b' e : Int) (l : List S42) (hb : b ≤ b') (h : ∀ y ∈ l, b' ≤ y.f0) : ovs b e l = ovs b' e l := by
  induction l with
  | nil => rfl
  | cons x l ih =>
    have hx := h x (by simp)
    simp only [ovs]
    rw [ih fun y hy => h y (by simp [hy])]
    unfold ov
    rw [if_neg (show ¬ x.f0 < b by omega), if_neg (show ¬ x.f0 < b' by omega)]
theorem ovs_zero (b e : Int) (l : List S42) (h : b ≥ e ∨ ∀ y ∈ l, e ≤ y.f0) : ovs b e l = 0 := by
  induction l with
  | nil => rfl
  | cons x l ih =>
    simp only [ovs]
    rw [ih (by
      rcases h with h | h
      · exact .inl h
      · exact .inr fun y hy => h y (by simp [hy]))]
    have hx : b ≥ e ∨ e ≤ x.f0 := by
      rcases h with h | h
      · exact .inl h
      · exact .inr (h x (by simp))
    unfold ov
    split <;> (try split) <;> (try split) <;> (try split) <;> omega
/-- Where nothing is over: all the minutes that are free. -/
theorem G_free (A e : Int) (l : List S42) : Srt l → ∀ (at_ used : Int), used ≤ A → (G A e l at_ used).2.1 = 0 → (G A e l at_ used).1 = used + (if at_ < e then e - at_ else 0) - ovs at_ e l := by
  have stp : ∀ (l : List S42) (at_ used : Int), (at_ ≥ e) → (stopR A e at_ used).1 = used + (if at_ < e then e - at_ else 0) - ovs at_ e l := by
    intro l at_ used h
    unfold stopR
    rw [if_neg (by omega), if_neg (by omega), ovs_zero at_ e l (.inl h)]
    omega
  have over : ∀ (at_ : Int), at_ < e → ∀ (l : List S42), ¬ (G A e l at_ A).2.1 = 0 := by
    intro at_ h l
    rw [G_stop _ _ _ _ _ (.inl rfl)]
    unfold stopR
    rw [if_pos ⟨rfl, h⟩]
    dsimp only
    omega
  have fin : ∀ (l : List S42) (at_ used : Int), at_ ≥ e → (G A e l at_ used).1 = used := by
    intro l at_ used h
    rw [G_stop _ _ _ _ _ (.inr h)]
    unfold stopR
    rw [if_neg (by omega)]
  induction l with
  | nil =>
    intro _ at_ used hu h
    by_cases c : used = A ∨ at_ ≥ e
    · by_cases c2 : at_ ≥ e
      · rw [G_stop _ _ _ _ _ c]
        exact stp [] at_ used c2
      · obtain rfl : used = A := by omega
        exact absurd h (over at_ (by omega) [])
    · simp only [G] at h ⊢
      rw [if_neg c] at h ⊢
      unfold use1 at h ⊢
      rw [if_neg (Int.lt_irrefl e)] at h ⊢
      by_cases c2 : e - at_ ≤ A - used
      · rw [if_pos c2] at h ⊢
        unfold stopR
        rw [if_neg (by omega), if_pos (by omega)]
        simp only [ovs]
        omega
      · rw [if_neg c2, show used + (A - used) = A by omega] at h
        unfold stopR at h
        rw [if_pos (by omega)] at h
        dsimp only at h
        omega
  | cons x l ih =>
    intro hs at_ used hu h
    obtain ⟨s1, s2, s3⟩ := hs
    by_cases c : used = A ∨ at_ ≥ e
    · by_cases c2 : at_ ≥ e
      · rw [G_stop _ _ _ _ _ c]
        exact stp (x :: l) at_ used c2
      · obtain rfl : used = A := by omega
        exact absurd h (over at_ (by omega) (x :: l))
    · simp only [G] at h ⊢
      rw [if_neg c] at h ⊢
      simp only [ovs]
      rw [if_pos (show at_ < e by omega)]
      by_cases c1 : x.f1 ≤ at_
      · rw [if_pos c1] at h ⊢
        rw [ih s3 at_ used hu h, if_pos (by omega), show ov at_ e x = 0 by unfold ov; split <;> (try split) <;> (try split) <;> (try split) <;> omega]
        omega
      · rw [if_neg c1] at h ⊢
        by_cases c2 : x.f0 ≤ at_
        · rw [if_pos c2] at h ⊢
          rw [ih s3 x.f1 used hu h, ovs_from at_ x.f1 e l (by omega) s2, show ov at_ e x = (if x.f1 < e then x.f1 else e) - at_ by unfold ov; split <;> (try split) <;> (try split) <;> (try split) <;> (try split) <;> omega]
          split <;> omega
        · rw [if_neg c2] at h ⊢
          have hov : ov at_ e x = if x.f0 < e then (if x.f1 < e then x.f1 else e) - x.f0 else 0 := by
            unfold ov; split <;> (try split) <;> (try split) <;> (try split) <;> (try split) <;> omega
          rw [hov]
          by_cases c3 : x.f0 < e
          · by_cases c4 : x.f0 - at_ < A - used
            · have e1 : use1 A x.f0 e at_ used = x.f0 - at_ := by unfold use1; rw [if_pos c3, if_pos (by omega)]
              rw [e1] at h ⊢
              rw [if_pos (by omega)] at h ⊢
              rw [ih s3 x.f1 _ (by omega) h, if_pos c3, ovs_from at_ x.f1 e l (by omega) s2]
              split <;> omega
            · have e1 : use1 A x.f0 e at_ used = A - used := by unfold use1; rw [if_pos c3]; split <;> omega
              rw [e1, show used + (A - used) = A by omega] at h
              rw [if_neg (by omega)] at h
              exact absurd h (over _ (by omega) l)
          · rw [if_neg c3, ovs_zero at_ e l (.inr fun y hy => by have := s2 y hy; omega)]
            by_cases c4 : e - at_ < A - used
            · have e1 : use1 A x.f0 e at_ used = e - at_ := by unfold use1; rw [if_neg c3, if_pos (by omega)]
              rw [e1] at h ⊢
              rw [if_pos (by omega)] at h ⊢
              rw [fin l x.f1 _ (by omega)]
              omega
            · have e1 : use1 A x.f0 e at_ used = A - used := by unfold use1; rw [if_neg c3]; split <;> omega
              rw [e1, show used + (A - used) = A by omega] at h ⊢
              rw [if_neg (by omega)] at h ⊢
              by_cases c5 : at_ + (A - used) < e
              · exact absurd h (over _ c5 l)
              · rw [fin l _ _ (by omega)]
                omega
/-! ### spells that are right -/
def AllGood (l : List S42) : Prop := l.length ≤ 100 ∧ ∀ j : Int, 0 ≤ j → j < l.length → Good l j
theorem spec_stepS (k : Nat) (l : List S42) (i : Int) (h0 : 0 ≤ i) (h1 : i < l.length) (hn : l.length ≤ 1048576) : (Good l i → spec_SpellsOk.l0 (k + 1) l i = spec_SpellsOk.l0 k l (i + 1)) ∧ (¬ Good l i → spec_SpellsOk.l0 (k + 1) l i = some false) := by
  unfold Good
  simp only [spec_SpellsOk.l0]
  rw [if_pos h1, if_pos h0, minute_eq', minute_eq', Option.bind_some, Option.bind_some, w64 (x := i + 1) (by omega) (by omega)]
  by_cases c1 : 0 ≤ (rd_T42 l i).f0 ∧ (rd_T42 l i).f0 ≤ 100000000
  · rw [decide_eq_true c1, if_pos rfl]
    by_cases c2 : 0 ≤ (rd_T42 l i).f1 ∧ (rd_T42 l i).f1 ≤ 100000000
    · rw [decide_eq_true c2, if_pos rfl]
      by_cases c3 : (rd_T42 l i).f0 ≥ (rd_T42 l i).f1
      · rw [if_pos c3]
        exact ⟨fun h => by omega, fun _ => rfl⟩
      · rw [if_neg c3]
        by_cases c4 : i > 0
        · rw [if_pos c4, w64 (x := i - 1) (by omega) (by omega), if_pos (by omega), if_pos (by omega)]
          by_cases c5 : (rd_T42 l i).f0 < (rd_T42 l (i - 1)).f1
          · rw [if_pos c5]
            exact ⟨fun h => absurd (h.2.2.2 c4) (by omega), fun _ => rfl⟩
          · rw [if_neg c5]
            exact ⟨fun _ => rfl, fun h => absurd ⟨c1.1, by omega, c2.2, fun _ => by omega⟩ h⟩
        · rw [if_neg c4]
          exact ⟨fun _ => rfl, fun h => absurd ⟨c1.1, by omega, c2.2, fun h => absurd h c4⟩ h⟩
    · rw [decide_eq_false c2, if_neg (by simp)]
      exact ⟨fun h => by omega, fun _ => rfl⟩
  · rw [decide_eq_false c1, if_neg (by simp)]
    exact ⟨fun h => by omega, fun _ => rfl⟩
theorem impl_stepS (k : Nat) (l : List S42) (i : Int) (h0 : 0 ≤ i) (h1 : i < l.length) (hn : l.length ≤ 1048576) : (Good l i → impl_SpellsOk.l0 (k + 1) l l (l.length : Int) i = impl_SpellsOk.l0 k l l (l.length : Int) (i + 1)) ∧ (¬ Good l i → impl_SpellsOk.l0 (k + 1) l l (l.length : Int) i = some false) := by
  unfold Good
  simp only [impl_SpellsOk.l0]
  rw [if_pos h1, if_pos h0, if_pos h1, minute_eq, minute_eq, Option.bind_some, Option.bind_some, w64 (x := i + 1) (by omega) (by omega)]
  by_cases c1 : 0 ≤ (rd_T42 l i).f0 ∧ (rd_T42 l i).f0 ≤ 100000000
  · rw [decide_eq_true c1, if_pos rfl]
    by_cases c2 : 0 ≤ (rd_T42 l i).f1 ∧ (rd_T42 l i).f1 ≤ 100000000
    · rw [decide_eq_true c2, if_pos rfl]
      by_cases c3 : (rd_T42 l i).f0 ≥ (rd_T42 l i).f1
      · rw [if_pos c3]
        exact ⟨fun h => by omega, fun _ => rfl⟩
      · rw [if_neg c3]
        by_cases c4 : i > 0
        · rw [if_pos c4, w64 (x := i - 1) (by omega) (by omega), if_pos (by omega), if_pos (by omega)]
          by_cases c5 : (rd_T42 l i).f0 < (rd_T42 l (i - 1)).f1
          · rw [if_pos c5]
            exact ⟨fun h => absurd (h.2.2.2 c4) (by omega), fun _ => rfl⟩
          · rw [if_neg c5]
            exact ⟨fun _ => rfl, fun h => absurd ⟨c1.1, by omega, c2.2, fun _ => by omega⟩ h⟩
        · rw [if_neg c4]
          exact ⟨fun _ => rfl, fun h => absurd ⟨c1.1, by omega, c2.2, fun h => absurd h c4⟩ h⟩
    · rw [decide_eq_false c2, if_neg (by simp)]
      exact ⟨fun h => by omega, fun _ => rfl⟩
  · rw [decide_eq_false c1, if_neg (by simp)]
    exact ⟨fun h => by omega, fun _ => rfl⟩
theorem spells_iff (l : List S42) (hn : l.length ≤ 1048576) (d : Nat) : ∀ (i : Int), 0 ≤ i → i ≤ l.length → (l.length : Int) - i = d →
    ∃ r : Bool, (r = true ↔ ∀ j : Int, i ≤ j → j < l.length → Good l j) ∧ ∀ k, d < k → impl_SpellsOk.l0 k l l (l.length : Int) i = some r ∧ spec_SpellsOk.l0 k l i = some (r && decide ((l.length : Int) ≤ 100)) := by
  induction d with
  | zero =>
    intro i h0 h1 hd
    refine ⟨true, ⟨fun _ j h2 h3 => by omega, fun _ => rfl⟩, fun k hk => ?_⟩
    obtain ⟨k, rfl⟩ := pos_round (show 0 < k by omega)
    simp only [impl_SpellsOk.l0, spec_SpellsOk.l0]
    rw [if_neg (by omega), if_neg (by omega)]
    exact ⟨rfl, by simp⟩
  | succ d ih =>
    intro i h0 h1 hd
    have hlt : i < (l.length : Int) := by omega
    by_cases g : Good l i
    · obtain ⟨r, hr, hk⟩ := ih (i + 1) (by omega) (by omega) (by omega)
      refine ⟨r, hr.trans ⟨fun h j h2 h3 => ?_, fun h j h2 h3 => h j (by omega) h3⟩, fun k hk' => ?_⟩
      · by_cases e : j = i
        · subst e; exact g
        · exact h j (by omega) h3
      · obtain ⟨k, rfl⟩ := pos_round (show 0 < k by omega)
        rw [(impl_stepS k l i h0 hlt hn).1 g, (spec_stepS k l i h0 hlt hn).1 g]
        exact hk k (by omega)
    · refine ⟨false, ⟨fun h => by simp at h, fun h => absurd (h i (by omega) hlt) g⟩, fun k hk' => ?_⟩
      obtain ⟨k, rfl⟩ := pos_round (show 0 < k by omega)
      rw [(impl_stepS k l i h0 hlt hn).2 g, (spec_stepS k l i h0 hlt hn).2 g]
      exact ⟨rfl, by simp⟩
theorem spells_bool (l : List S42) (hn : l.length ≤ 1048576) : ∃ b : Bool, (b = true ↔ AllGood l) ∧ ∀ k, l.length < k → spec_SpellsOk.f k l = some b ∧ impl_SpellsOk.f k l = some b := by
  obtain ⟨r, hr, hk⟩ := spells_iff l hn l.length 0 (by omega) (by omega) (by omega)
  refine ⟨r && decide ((l.length : Int) ≤ 100), ?_, fun k hk' => ⟨(hk k hk').2, ?_⟩⟩
  · unfold AllGood
    simp only [Bool.and_eq_true, decide_eq_true_eq]
    rw [hr]
    exact ⟨fun h => ⟨by omega, h.1⟩, fun h => ⟨h.2, by omega⟩⟩
  · unfold impl_SpellsOk.f
    by_cases c : (l.length : Int) > 100
    · rw [if_pos c, decide_eq_false (by omega), Bool.and_false]
    · rw [if_neg c, (hk k hk').1, decide_eq_true (by omega), Bool.and_true]
/-! ### the spells of the charter -/
def offTail (k : Nat) (l : List S42) (c : List Int) (p s : Int) : Option ((List (S42)) × Int × Int) := ((spec_l1Once.f c p s 30).bind fun bt214 => (if bt214.1 = true then ((spec_l1Below.f c bt214.2.1 bt214.2.2 2).bind fun bt217 => (if l.length < 8796093022208 then (spec_l15DrawOff.j1 k (l ++ [(⟨99999990, wrap64 (100000000 + bt217.1)⟩ : S42)]) c bt217.2.1 bt217.2.2) else (none))) else (spec_l15DrawOff.j1 k l c bt214.2.1 bt214.2.2)))
/-- Spells in order, all over at t. -/
def Kept (l : List S42) (t : Int) : Prop := (∀ j : Int, 0 ≤ j → j < l.length → Good l j) ∧ (∀ j : Int, 0 ≤ j → j < l.length → (rd_T42 l j).f1 ≤ t) ∧ Far l
theorem Kept_snoc {l : List S42} {t t' u : Int} (h : Kept l t) (h0 : 0 ≤ t) (h1 : t < u) (hu : u ≤ 100000000) (h2 : u ≤ t') (hf : FarS ⟨t, u⟩) : Kept (l ++ [(⟨t, u⟩ : S42)]) t' := by
  obtain ⟨k1, k2, k3⟩ := h
  refine ⟨fun j j0 j1 => ?_, fun j j0 j1 => ?_, Far_snoc k3 hf⟩
  · simp at j1
    by_cases e : j = l.length
    · subst e
      unfold Good
      rw [rd42_last]
      refine ⟨h0, h1, hu, fun h => ?_⟩
      rw [rd42_append_left (by omega) (by omega)]
      exact k2 _ (by omega) (by omega)
    · have := k1 j j0 (by omega)
      unfold Good at this ⊢
      rw [rd42_append_left j0 (by omega)]
      refine ⟨this.1, this.2.1, this.2.2.1, fun h => ?_⟩
      rw [rd42_append_left (by omega) (by omega)]
      exact this.2.2.2 h
  · simp at j1
    by_cases e : j = l.length
    · subst e; rw [rd42_last]; exact h2
    · rw [rd42_append_left j0 (by omega)]
      have := k2 j j0 (by omega)
      omega
theorem off_loop (c : List Int) (hc : c.length ≤ 1048576) {p : Int} (hp : InRow c p) (s : Int) (d : Nat) : ∀ (l : List S42) (t i : Int) (j : Nat), i = d → 0 ≤ t → t + 1500 * d ≤ 90000 → Kept l t → l.length + d ≤ 50 →
    ∃ l' t', 0 ≤ t' ∧ t' ≤ 90000 ∧ Kept l' t' ∧ l'.length = l.length + d ∧ ∀ k, spec_l15DrawOff.l0 (k + d + 1) l t i c (adv c j p) (nxn j s) = offTail k l' c (adv c (j + 9 * d) p) (nxn (j + 9 * d) s) := by
  induction d with
  | zero =>
    intro l t i j hi ht0 ht1 hf hl
    refine ⟨l, t, ht0, by omega, hf, by omega, fun k => ?_⟩
    simp only [spec_l15DrawOff.l0]
    rw [if_neg (by omega)]
    rfl
  | succ d ih =>
    intro l t i j hi ht0 ht1 hf hl
    obtain ⟨a, e1, a0, a1⟩ := below4_at c hc hp s j 700 (by omega)
    obtain ⟨b, e2, b0, b1⟩ := below4_at c hc hp s (j + 4) 800 (by omega)
    obtain ⟨x, e3, x0, x1, _⟩ := below_at c hc hp s (j + 4 + 4) 2 (by omega) (by omega)
    have hbx : 0 ≤ b * x ∧ b * x ≤ 799 := by
      rcases (show x = 0 ∨ x = 1 by omega) with rfl | rfl <;> omega
    have hx : FarS (⟨t, t + 1 + a⟩ : S42) := by unfold FarS; dsimp only; omega
    obtain ⟨l', t', g1, g2, g3, g4, g5⟩ := ih (l ++ [(⟨t, t + 1 + a⟩ : S42)]) (t + 1 + a + b * x) (i - 1) (j + 4 + 4 + 1) (by omega) (by omega) (by omega) (Kept_snoc hf ht0 (by omega) (by omega) (by omega) hx) (by simp; omega)
    refine ⟨l', t', g1, g2, g3, by simp at g4; omega, fun k => ?_⟩
    have g6 := g5 k
    rw [show k + (d + 1) + 1 = (k + d + 1) + 1 by omega]
    generalize k + d + 1 = K at g6 ⊢
    simp only [spec_l15DrawOff.l0]
    rw [if_pos (by omega), e1, Option.bind_some, if_pos (by omega)]
    dsimp only
    rw [e2, Option.bind_some]
    dsimp only
    rw [e3, Option.bind_some]
    dsimp only
    rw [w64 (x := t + 1) (by omega) (by omega), w64 (x := t + 1 + a) (by omega) (by omega), w64 (x := b * x) (by omega) (by omega), w64 (x := t + 1 + a + b * x) (by omega) (by omega), w64 (x := i - 1) (by omega) (by omega), g6, show j + 4 + 4 + 1 + 9 * d = j + 9 * (d + 1) by omega]
/-- What the tail's numbers must be, that what was drawn is taken. -/
def goodT (s : Int) : Bool := if by8 s % 30 = 0 then decide (by8 (nx s) % 2 = 0) && decide (by8 (nx (nx s)) % 30 ≠ 0) else decide (by8 (nx s) % 30 ≠ 0)
theorem once_at (c : List Int) (hc : c.length ≤ 1048576) {p : Int} (hp : InRow c p) (s : Int) (j : Nat) : ∃ r, spec_l1Once.f c (adv c j p) (nxn j s) 30 = some (r == 0, adv c (j + 1) p, nxn (j + 1) s) ∧ (p = (c.length : Int) → r = by8 (nxn j s) % 30) := by
  obtain ⟨r, e, r0, r1, r2⟩ := below_at c hc hp s j 30 (by omega) (by omega)
  refine ⟨r, ?_, r2⟩
  unfold spec_l1Once.f
  rw [e, Option.bind_some]
theorem nxn_s (j : Nat) (s : Int) : nxn (j + 1) s = nx (nxn j s) := nxn_add j 1 s
theorem tail_at (c : List Int) (hc : c.length ≤ 1048576) {p : Int} (hp : InRow c p) (s : Int) (j : Nat) (l : List S42) (t : Int) (ht0 : 0 ≤ t) (ht1 : t ≤ 90000) (hl : Kept l t) (hlen : l.length ≤ 50) :
    ∃ L m, j + 1 ≤ m ∧ m ≤ j + 344 ∧ Far L ∧ L.length ≤ 1001 ∧ (p = (c.length : Int) → goodT (nxn j s) = true → AllGood L) ∧ ∀ k, 120 < k → offTail k l c (adv c j p) (nxn j s) = some (L, adv c m p, nxn m s) := by
  have j1t : ∀ (l : List S42) (q : Nat), Far l → l.length ≤ 51 → (∀ i : Int, 0 ≤ i → i < l.length → Good l i) ∨ True → ∃ L m, q + 1 ≤ m ∧ m ≤ q + 342 ∧ Far L ∧ L.length ≤ 1001 ∧ (p = (c.length : Int) → by8 (nxn q s) % 30 ≠ 0 → L = l) ∧ ∀ k, 120 < k → spec_l15DrawOff.j1 k l c (adv c q p) (nxn q s) = some (L, adv c m p, nxn m s) := by
    intro l q hf hlen _
    obtain ⟨r, e, hr⟩ := once_at c hc hp s q
    obtain ⟨L, m, g1, g2, g3, g4, g5⟩ := any_at c hc hp s (q + 1)
    by_cases c1 : r = 0
    · refine ⟨L, m, by omega, by omega, g3, g4, fun h h2 => absurd (hr h ▸ c1) h2, fun k hk => ?_⟩
      obtain ⟨k, rfl⟩ := pos_round (show 0 < k by omega)
      simp only [spec_l15DrawOff.j1]
      rw [e, Option.bind_some]
      dsimp only
      rw [if_pos (by simpa using c1), g5 k (by omega), Option.bind_some]
    · refine ⟨l, q + 1, by omega, by omega, hf, by omega, fun _ _ => rfl, fun k hk => ?_⟩
      obtain ⟨k, rfl⟩ := pos_round (show 0 < k by omega)
      simp only [spec_l15DrawOff.j1]
      rw [e, Option.bind_some]
      dsimp only
      rw [if_neg (by simpa using c1)]
  obtain ⟨r, e, hr⟩ := once_at c hc hp s j
  obtain ⟨z, e2, z0, z1, z2⟩ := below_at c hc hp s (j + 1) 2 (by omega) (by omega)
  by_cases c1 : r = 0
  · have hx : FarS (⟨99999990, 100000000 + z⟩ : S42) := .inr (by dsimp only; omega)
    obtain ⟨L, m, g1, g2, g3, g4, g5, g6⟩ := j1t (l ++ [(⟨99999990, 100000000 + z⟩ : S42)]) (j + 1 + 1) (Far_snoc hl.2.2 hx) (by simp; omega) (.inr trivial)
    refine ⟨L, m, by omega, by omega, g3, g4, fun h g => ?_, fun k hk => ?_⟩
    · unfold goodT at g
      rw [if_pos (hr h ▸ c1)] at g
      simp only [Bool.and_eq_true, decide_eq_true_eq] at g
      have h2 := z2 h
      rw [nxn_s] at h2
      rw [g5 h (by rw [nxn_s, nxn_s]; exact g.2)]
      obtain ⟨k1, k2, k3⟩ := Kept_snoc (t' := 100000000) (u := 100000000 + z) (t := 99999990) (l := l) ⟨hl.1, fun j j0 j1 => by have := hl.2.1 j j0 j1; omega, hl.2.2⟩ (by omega) (by omega) (by omega) (by omega) hx
      exact ⟨by simp; omega, k1⟩
    · unfold offTail
      rw [e, Option.bind_some]
      dsimp only
      rw [if_pos (by simpa using c1), e2, Option.bind_some, if_pos (by omega)]
      dsimp only
      rw [w64 (x := 100000000 + z) (by omega) (by omega)]
      exact g6 k hk
  · obtain ⟨L, m, g1, g2, g3, g4, g5, g6⟩ := j1t l (j + 1) hl.2.2 (by omega) (.inr trivial)
    refine ⟨L, m, by omega, by omega, g3, g4, fun h g => ?_, fun k hk => ?_⟩
    · unfold goodT at g
      rw [if_neg (hr h ▸ c1)] at g
      simp only [decide_eq_true_eq] at g
      rw [g5 h (by rw [nxn_s]; exact g)]
      exact ⟨by omega, hl.1⟩
    · unfold offTail
      rw [e, Option.bind_some]
      dsimp only
      rw [if_neg (by simpa using c1)]
      exact g6 k hk
/-- A state from which spells are drawn that are taken. -/
def goodS (s : Int) : Bool := goodT (nxn (5 + 9 * (by8 (nxn 4 s) % 8).toNat) s)
theorem off_st (c : List Int) (hc : c.length ≤ 1048576) {p : Int} (hp : InRow c p) (s : Int) :
    ∃ L m, 1 ≤ m ∧ m ≤ 412 ∧ Far L ∧ L.length ≤ 1001 ∧ (p = (c.length : Int) → goodS s = true → AllGood L) ∧ ∀ k, 200 < k → spec_l15DrawOff.f k c p s = some (L, adv c m p, nxn m s) := by
  obtain ⟨a, e1, a0, a1⟩ := below4_at c hc hp s 0 500 (by omega)
  obtain ⟨b, e2, b0, b1, b2⟩ := below_at c hc hp s 4 8 (by omega) (by omega)
  obtain ⟨l', t', g1, g2, g3, g4, g5⟩ := off_loop c hc hp s b.toNat [] a b 5 (by omega) a0 (by omega) ⟨fun j j0 j1 => by simp at j1; omega, fun j j0 j1 => by simp at j1; omega, fun x hx => by cases hx⟩ (by simp; omega)
  obtain ⟨L, m, t1, t2, t3, t4, t5, t6⟩ := tail_at c hc hp s (5 + 9 * b.toNat) l' t' g1 g2 g3 (by simp at g4; omega)
  refine ⟨L, m, by omega, by omega, t3, t4, fun h g => t5 h ?_, fun k hk => ?_⟩
  · unfold goodS at g
    rw [← b2 h] at g
    exact g
  · rw [show spec_l15DrawOff.f k c p s = spec_l15DrawOff.f k c (adv c 0 p) (nxn 0 s) from rfl]
    unfold spec_l15DrawOff.f
    rw [e1, Option.bind_some]
    dsimp only
    rw [show (0 + 4 : Nat) = 4 from rfl, e2, Option.bind_some]
    dsimp only
    obtain ⟨k, rfl⟩ : ∃ q, k = q + b.toNat + 1 := ⟨k - b.toNat - 1, by omega⟩
    rw [g5 k]
    exact t6 k (by omega)
/-! ### spells that are right come in the end -/
def goodRun : Nat → Int → Bool
  | 0, _ => true
  | n + 1, s => goodS s && goodRun n (nx s)
theorem goodRun_at (n : Nat) : ∀ s, goodRun n s = true → ∀ j, j < n → goodS (nxn j s) = true := by
  induction n with
  | zero => intro s _ j h; omega
  | succ n ih =>
    intro s h j hj
    simp only [goodRun, Bool.and_eq_true] at h
    cases j with
    | zero => exact h.1
    | succ j => exact ih (nx s) h.2 j (by omega)
theorem good_run : goodRun 414 (-8414835731979646640) = true := by decide +kernel
def Ends (c : List Int) (l : List S42) (p s a b d e : Int) : Prop :=
  ∃ (K : Nat) (l' : List S42), AllGood l' ∧ Far l' ∧ ∀ k, K < k → spec_DrawLay.l0 k l c p s a b d e = some (a, b, d, e, l')
theorem ends_now (c : List Int) {l : List S42} {p s a b d e : Int} (h : AllGood l) (hf : Far l) : Ends c l p s a b d e := by
  refine ⟨l.length + 1, l, h, hf, fun k hk => ?_⟩
  obtain ⟨k, rfl⟩ := pos_round (show 0 < k by omega)
  obtain ⟨y, hy, hk2⟩ := spells_bool l (by have := h.1; omega)
  obtain rfl : y = true := hy.2 h
  simp only [spec_DrawLay.l0]
  rw [(hk2 k (by omega)).1, Option.bind_some, if_pos rfl]
theorem ends_next (c : List Int) {l l' : List S42} {p s p' s' a b d e : Int} (hl : l.length ≤ 1001) (hn : ¬ AllGood l) (hd : ∀ k, 200 < k → spec_l15DrawOff.f k c p s = some (l', p', s')) (h : Ends c l' p' s' a b d e) : Ends c l p s a b d e := by
  obtain ⟨K, l2, h1, h2, h3⟩ := h
  refine ⟨K + 2000, l2, h1, h2, fun k hk => ?_⟩
  obtain ⟨k, rfl⟩ := pos_round (show 0 < k by omega)
  obtain ⟨y, hy, hk2⟩ := spells_bool l (by omega)
  have : ¬ y = true := fun h => hn (hy.1 h)
  simp only [spec_DrawLay.l0]
  rw [(hk2 k (by omega)).1, Option.bind_some, if_neg this, hd k (by omega), Option.bind_some]
  exact h3 k (by omega)
/-- Where the bytes are used up: the numbers come by a stretch of good ones. -/
theorem ends_used (c : List Int) (hc : c.length ≤ 1048576) (a b d e : Int) (n : Nat) : ∀ (s : Int) (l : List S42), l.length ≤ 1001 → Far l → nxn n s = -8414835731979646640 → Ends c l (c.length : Int) s a b d e := by
  have hp : InRow c (c.length : Int) := ⟨by omega, by omega⟩
  have stretch : ∀ j : Nat, j < 414 → ∀ (l : List S42), l.length ≤ 1001 → Far l → Ends c l (c.length : Int) (nxn j (-8414835731979646640)) a b d e := by
    intro j hj l hl hf
    by_cases h : AllGood l
    · exact ends_now c h hf
    · obtain ⟨L, m, m1, m2, f, len, g, e⟩ := off_st c hc hp (nxn j (-8414835731979646640))
      exact ends_next c hl h e (ends_now c (g rfl (goodRun_at 414 _ good_run j hj)) f)
  induction n using Nat.strongRecOn with
  | _ n ih =>
    intro s l hl hf hs
    by_cases h : AllGood l
    · exact ends_now c h hf
    · obtain ⟨L, m, m1, m2, f, len, g, e⟩ := off_st c hc hp s
      by_cases hnm : m ≤ n
      · refine ends_next c hl h e ?_
        rw [adv_len]
        refine ih (n - m) (by omega) _ _ len f ?_
        rw [show n = m + (n - m) by omega, nxn_add] at hs
        exact hs
      · refine ends_next c hl h e ?_
        rw [adv_len, show m = n + (m - n) by omega, nxn_add, hs]
        exact stretch (m - n) (by omega) L len f
theorem ends_all (c : List Int) (hc : c.length ≤ 1048576) (a b d e : Int) (n : Nat) : ∀ (p s : Int) (l : List S42), l.length ≤ 1001 → Far l → InRow c p → (c.length : Int) - p ≤ n → Ends c l p s a b d e := by
  induction n with
  | zero =>
    intro p s l hl hf hp hd
    have : p = (c.length : Int) := by unfold InRow at hp; omega
    subst this
    by_cases h : AllGood l
    · exact ends_now c h hf
    · obtain ⟨L, m, m1, m2, f, len, g, e⟩ := off_st c hc hp s
      refine ends_next c hl h e ?_
      rw [adv_len]
      obtain ⟨m, rfl⟩ : ∃ j, m = j + 1 := ⟨m - 1, by omega⟩
      obtain ⟨n, hn⟩ := nx_reach (nxn m s) (-8414835731979646640) (by unfold In64; omega)
      rw [← nxn_s] at hn
      exact ends_used c hc _ _ _ _ n _ L len f hn
  | succ n ih =>
    intro p s l hl hf hp hd
    by_cases h : AllGood l
    · exact ends_now c h hf
    · obtain ⟨L, m, m1, m2, f, len, g, e⟩ := off_st c hc hp s
      refine ends_next c hl h e (ih _ _ L len f (adv_in c m p hp) ?_)
      by_cases hlt : p < (c.length : Int)
      · obtain ⟨m, rfl⟩ : ∃ j, m = j + 1 := ⟨m - 1, by omega⟩
        have := adv_lt c m p hlt
        omega
      · have := adv_le c m p
        omega
theorem drawn (c : List Int) (hc : c.length ≤ 1048576) : ∃ (K : Nat) (a b d e : Int) (l : List S42), (0 ≤ a ∧ a < 400) ∧ (0 ≤ b ∧ b < 4000) ∧ (0 ≤ d ∧ d < 20000) ∧ (0 ≤ e ∧ e < 10000) ∧ AllGood l ∧ Far l ∧ ∀ k, K < k → spec_DrawLay.f k c = some (a, b, d, e, l) := by
  obtain ⟨r, hr⟩ := new_ok c hc
  have hp : InRow c 0 := ⟨by omega, by omega⟩
  obtain ⟨a, e1, a0, a1⟩ := below4_at c hc hp r 0 400 (by omega)
  obtain ⟨b, e2, b0, b1⟩ := below4_at c hc hp r 4 4000 (by omega)
  obtain ⟨d, e3, d0, d1⟩ := below4_at c hc hp r 8 20000 (by omega)
  obtain ⟨e, e4, e0, e1'⟩ := below4_at c hc hp r 12 10000 (by omega)
  obtain ⟨L, m, m1, m2, f, len, g, e5⟩ := off_st c hc (adv_in c 16 0 hp) (nxn 16 r)
  obtain ⟨K, l, h1, h2, h3⟩ := ends_all c hc a b d e c.length (adv c m (adv c 16 0)) (nxn m (nxn 16 r)) L len f (adv_in c _ _ (adv_in c _ _ hp)) (by have := adv_le c m (adv c 16 0); have := adv_le c 16 0; omega)
  refine ⟨K + 4300, a, b, d, e, l, ⟨a0, a1⟩, ⟨b0, b1⟩, ⟨d0, d1⟩, ⟨e0, e1'⟩, h1, h2, fun k hk => ?_⟩
  unfold spec_DrawLay.f
  rw [hr k (by omega), Option.bind_some]
  dsimp only
  rw [show spec_l1Below.f c 0 r 400 = spec_l1Below.f c (adv c 0 0) (nxn 0 r) 400 from rfl, e1, Option.bind_some]
  dsimp only
  simp only [Nat.reduceAdd]
  rw [e2, Option.bind_some]
  dsimp only
  rw [e3, Option.bind_some]
  dsimp only
  rw [e4, Option.bind_some]
  dsimp only
  rw [e5 k (by omega), Option.bind_some]
  exact h3 k (by omega)
/-! ### the program's count is the plain one -/
theorem rd42_sent {l : List S42} {x : S42} : rd_T42 (l ++ [x]) (l.length : Int) = x := by
  simp [rd_T42, List.getD_eq_getElem?_getD]
theorem Srt_drop {l : List S42} (hg : ∀ j : Int, 0 ≤ j → j < l.length → Good l j) (d : Nat) : ∀ i : Int, 0 ≤ i → i ≤ l.length → (l.length : Int) - i = d → Srt (l.drop i.toNat) := by
  induction d with
  | zero =>
    intro i h0 h1 hd
    rw [List.drop_eq_nil_of_le (by omega)]
    trivial
  | succ d ih =>
    intro i h0 h1 hd
    have hlt : i < (l.length : Int) := by omega
    rw [rd42_drop h0 hlt]
    refine ⟨(hg i h0 hlt).2.1, fun y hy => ?_, ih (i + 1) (by omega) (by omega) (by omega)⟩
    obtain ⟨n, hn, e⟩ := List.mem_iff_getElem.1 hy
    rw [List.getElem_drop] at e
    rw [List.length_drop] at hn
    obtain ⟨h, e2⟩ := rd42_lt (l := l) (i := i + 1 + n) (by omega) (by omega)
    have : y = rd_T42 l (i + 1 + n) := by rw [e2, ← e]; congr 1; omega
    rw [this]
    exact good_sorted' hg h0 (by omega) (by omega)
theorem Srt_of {l : List S42} (h : AllGood l) : Srt l := by
  have := Srt_drop h.2 l.length 0 (by omega) (by omega) (by omega)
  simpa using this
theorem impl_stopG (c0 A c2 c3 e : Int) (l : List S42) (m used i : Int) (h0 : 0 ≤ i) (h1 : i ≤ l.length) (hl : l.length ≤ 100) (hm : 0 ≤ m) (hm1 : m ≤ 100000000) (he0 : 0 ≤ e) (he1 : e ≤ 100000000) (hst : used = A ∨ m ≥ e) (k : Nat) :
    impl_Counted.l0 (k + 2) e m (l ++ [(⟨e, e + 1⟩ : S42)]) (((l ++ [(⟨e, e + 1⟩ : S42)]).length : Nat) : Int) i c0 A c2 c3 used 0 (-1) = some ((stopR A e m used).1, (stopR A e m used).2.1, (stopR A e m used).2.2, true) := by
  have hx : (((l ++ [(⟨e, e + 1⟩ : S42)]).length : Nat) : Int) = (l.length : Int) + 1 := by simp
  have hw : wrap64 (e - m) = e - m := w64 (by omega) (by omega)
  unfold stopR
  simp only [impl_Counted.l0, impl_Counted.j2]
  rw [if_pos (by omega), if_pos h0, if_pos (by omega), hw]
  by_cases c1 : used = A
  · rw [if_pos c1, if_pos trivial, if_pos c1]
    by_cases c2' : m < e
    · rw [if_pos c2', if_pos ⟨c1, c2'⟩]
    · rw [if_neg c2', if_neg (fun h => c2' h.2)]
  · rw [if_neg c1, if_pos (decide_eq_true (by omega)), if_neg c1, if_neg (fun h => c1 h.1)]
theorem use_eq (A F e m used : Int) (hu : used ≤ A) (hF : m < F) (he : m < e) (hA1 : A ≤ 100000) (hu0 : 0 ≤ used) (hm : 0 ≤ m) (he1 : e ≤ 100000000) : mn (mx 0 (wrap64 ((mn F e) - m))) (wrap64 (A - used)) = use1 A F e m used := by
  have e0 : mn F e = if F < e then F else e := by unfold mn; split <;> split <;> omega
  have hp : 0 < (if F < e then F else e) - m := by split <;> omega
  have hp1 : (if F < e then F else e) - m ≤ 100000000 := by split <;> omega
  rw [e0]
  unfold use1
  generalize (if F < e then F else e) - m = v at hp hp1 ⊢
  rw [w64 (x := v) (by omega) (by omega), w64 (x := A - used) (by omega) (by omega), show mx 0 v = v by unfold mx; rw [if_pos hp]]
  unfold mn; split <;> split <;> omega
theorem impl_G (c0 A c2 c3 e : Int) (l : List S42) (hl : l.length ≤ 100) (he0 : 0 ≤ e) (he1 : e ≤ 100000000) (hA1 : A ≤ 100000) (hg : ∀ j : Int, 0 ≤ j → j < l.length → Good l j) (d : Nat) : ∀ (m used i : Int), 0 ≤ i → i ≤ l.length → (l.length : Int) - i = d → 0 ≤ used → used ≤ A → 0 ≤ m → m ≤ 100000000 →
    ∀ k, 5 + 2 * d < k → impl_Counted.l0 k e m (l ++ [(⟨e, e + 1⟩ : S42)]) (((l ++ [(⟨e, e + 1⟩ : S42)]).length : Nat) : Int) i c0 A c2 c3 used 0 (-1) = some ((G A e (l.drop i.toNat) m used).1, (G A e (l.drop i.toNat) m used).2.1, (G A e (l.drop i.toNat) m used).2.2, true) := by
  have hx : (((l ++ [(⟨e, e + 1⟩ : S42)]).length : Nat) : Int) = (l.length : Int) + 1 := by simp
  induction d with
  | zero =>
    intro m used i h0 h1 hd hu0 hu1 hm0 hm1 k hk
    by_cases hst : used = A ∨ m ≥ e
    · obtain ⟨k, rfl⟩ : ∃ j, k = j + 2 := ⟨k - 2, by omega⟩
      rw [G_stop _ _ _ _ _ hst]
      exact impl_stopG c0 A c2 c3 e l m used i h0 h1 hl hm0 hm1 he0 he1 hst k
    · have hil : i = (l.length : Int) := by omega
      have e1 := use_eq A e e m used hu1 (by omega) (by omega) hA1 hu0 hm0 he1
      have e2 : G A e (l.drop i.toNat) m used = stopR A e (m + use1 A e e m used) (used + use1 A e e m used) := by
        rw [List.drop_eq_nil_of_le (by omega)]
        simp only [G]
        rw [if_neg hst]
      have hr : use1 A e e m used = A - used ∨ m + use1 A e e m used ≥ e := by unfold use1; rw [if_neg (Int.lt_irrefl e)]; split <;> omega
      obtain ⟨v0, v1, v2, v3⟩ := use1_range A e e m used hu1 (by omega) (by omega)
      rw [e2]
      generalize use1 A e e m used = v at e1 hr v0 v1 v2 v3 ⊢
      obtain ⟨k, rfl⟩ : ∃ j, k = j + 3 := ⟨k - 3, by omega⟩
      simp only [impl_Counted.l0, impl_Counted.j2]
      rw [if_pos (by omega), if_pos h0, if_pos (by omega), if_neg (by omega), if_neg (by simp; omega), hil, rd42_sent]
      dsimp only
      rw [if_neg (by omega), e1, w64 (x := used + v) (by omega) (by omega), w64 (x := (l.length : Int) + 1) (by omega) (by omega), w64 (x := m + v) (by omega) (by omega)]
      unfold stopR
      by_cases c : used + v < A
      · rw [if_pos c, if_neg (by omega), if_neg (by omega), if_neg (by omega)]
      · have hv : used + v = A := by omega
        rw [if_neg c, if_neg (by omega), if_pos hv]
        by_cases c4 : m + v < e
        · rw [if_pos c4, if_pos ⟨hv, c4⟩, w64 (by omega) (by omega)]
        · rw [if_neg c4, if_neg (fun h => c4 h.2)]
  | succ d ih =>
    intro m used i h0 h1 hd hu0 hu1 hm0 hm1 k hk
    by_cases hst : used = A ∨ m ≥ e
    · obtain ⟨k, rfl⟩ : ∃ j, k = j + 2 := ⟨k - 2, by omega⟩
      rw [G_stop _ _ _ _ _ hst]
      exact impl_stopG c0 A c2 c3 e l m used i h0 h1 hl hm0 hm1 he0 he1 hst k
    · have hlt : i < (l.length : Int) := by omega
      obtain ⟨g1, g2, g3, g4⟩ := hg i h0 hlt
      have hrd : rd_T42 (l ++ [(⟨e, e + 1⟩ : S42)]) i = rd_T42 l i := rd42_append_left h0 hlt
      have hG : G A e (l.drop i.toNat) m used = if (rd_T42 l i).f1 ≤ m then G A e (l.drop (i + 1).toNat) m used else if (rd_T42 l i).f0 ≤ m then G A e (l.drop (i + 1).toNat) (rd_T42 l i).f1 used else if used + use1 A (rd_T42 l i).f0 e m used < A then G A e (l.drop (i + 1).toNat) (rd_T42 l i).f1 (used + use1 A (rd_T42 l i).f0 e m used) else G A e (l.drop (i + 1).toNat) (m + use1 A (rd_T42 l i).f0 e m used) (used + use1 A (rd_T42 l i).f0 e m used) := by
        rw [rd42_drop h0 hlt]
        simp only [G]
        rw [if_neg hst]
      rw [hG]
      generalize hF : (rd_T42 l i).f0 = F at *
      generalize hT : (rd_T42 l i).f1 = T at *
      obtain ⟨k, rfl⟩ : ∃ j, k = j + 2 := ⟨k - 2, by omega⟩
      rw [impl_Counted.l0, if_pos (by omega), if_pos h0, if_pos (by omega), if_neg (by omega), impl_Counted.j2, if_neg (by simp; omega), hrd, hF, hT, w64 (x := i + 1) (by omega) (by omega)]
      by_cases c1 : T ≤ m
      · rw [if_pos c1, if_pos c1]
        exact ih m used (i + 1) (by omega) (by omega) (by omega) hu0 hu1 hm0 hm1 k (by omega)
      · rw [if_neg c1, if_neg c1]
        by_cases c2' : F ≤ m
        · have ed : mn (mx 0 (wrap64 ((mn F e) - m))) (wrap64 (A - used)) = 0 := by
            rw [show mn F e = F by unfold mn; rw [if_neg (by omega)], w64 (x := F - m) (by omega) (by omega), w64 (x := A - used) (by omega) (by omega), show mx 0 (F - m) = 0 by unfold mx; rw [if_neg (by omega)]]
            unfold mn; rw [if_neg (by omega)]
          rw [ed, Int.add_zero, Int.add_zero, w64 (x := used) (by omega) (by omega), w64 (x := m) (by omega) (by omega), if_pos (show used < A by omega), show mx m T = T by unfold mx; rw [if_pos (by omega)], if_pos c2']
          exact ih T used (i + 1) (by omega) (by omega) (by omega) hu0 hu1 (by omega) g3 k (by omega)
        · rw [use_eq A F e m used hu1 (by omega) (by omega) hA1 hu0 hm0 he1, if_neg c2']
          obtain ⟨v0, v1, v2, v3⟩ := use1_range A F e m used hu1 (by omega) (by omega)
          generalize use1 A F e m used = v at v0 v1 v2 v3 ⊢
          rw [w64 (x := used + v) (by omega) (by omega), w64 (x := m + v) (by omega) (by omega)]
          by_cases c3' : used + v < A
          · rw [if_pos c3', if_pos c3', show mx (m + v) T = T by unfold mx; rw [if_pos (by omega)]]
            exact ih T (used + v) (i + 1) (by omega) (by omega) (by omega) (by omega) (by omega) (by omega) g3 k (by omega)
          · rw [if_neg c3', if_neg c3']
            exact ih (m + v) (used + v) (i + 1) (by omega) (by omega) (by omega) (by omega) (by omega) (by omega) (by omega) k (by omega)
/-- What a drawn charter is. -/
def ChOk (a b c d : Int) : Prop := (0 ≤ a ∧ a ≤ 100000) ∧ (0 ≤ b ∧ b ≤ 100000) ∧ (0 ≤ c ∧ c ≤ 1000000000) ∧ (0 ≤ d ∧ d ≤ 1000000000)
theorem charter_ok {a b c d : Int} (h : ChOk a b c d) : impl_CharterOk.f a b c d = some true := by
  obtain ⟨h1, h2, h3, h4⟩ := h
  unfold impl_CharterOk.f
  simp only [in_eqC, Option.bind_some]
  rw [decide_eq_true h1, if_pos rfl, decide_eq_true h2, if_pos rfl, decide_eq_true h3, if_pos rfl, decide_eq_true h4]
theorem spells_true {l : List S42} (h : AllGood l) (k : Nat) (hk : 100 < k) : spec_SpellsOk.f k l = some true ∧ impl_SpellsOk.f k l = some true := by
  obtain ⟨b, hb, h2⟩ := spells_bool l (by have := h.1; omega)
  obtain rfl : b = true := hb.2 h
  exact h2 k (by have := h.1; omega)
theorem counted_G (c0 A c2 c3 b e : Int) (l : List S42) (hch : ChOk c0 A c2 c3) (hg : AllGood l) (hb0 : 0 ≤ b) (hbe : b ≤ e) (he1 : e ≤ 100000000) (k : Nat) (hk : 1000 < k) : impl_Counted.f k c0 A c2 c3 b e l = some ((G A e l b 0).1, (G A e l b 0).2.1, (G A e l b 0).2.2, true) := by
  have hl := hg.1
  obtain ⟨k, rfl⟩ := pos_round (show 0 < k by omega)
  unfold impl_Counted.f
  rw [charter_ok hch, Option.bind_some, if_pos rfl, minute_eq, minute_eq, decide_eq_true (show 0 ≤ b ∧ b ≤ 100000000 by omega), decide_eq_true (show 0 ≤ e ∧ e ≤ 100000000 by omega), Option.bind_some, if_pos rfl, Option.bind_some, if_pos rfl, if_neg (by omega), (spells_true hg (k + 1) (by omega)).2, Option.bind_some]
  simp only [impl_Counted.j0]
  rw [if_neg (by simp), own_sameC l (by omega), Option.bind_some, if_pos (by omega), Option.bind_some, w64 (x := e + 1) (by omega) (by omega)]
  have := impl_G c0 A c2 c3 e l hl (by omega) he1 hch.2.1.2 hg.2 l.length b 0 0 (by omega) (by omega) (by omega) (by omega) hch.2.1.1 hb0 (by omega) k (by omega)
  simpa using this
/-! ### the start -/
theorem starts_loop (l : List S42) (hg : AllGood l) (hf : Far l) (d : Nat) : ∀ (m i : Int), 0 ≤ i → i ≤ l.length → (l.length : Int) - i = d → 0 ≤ m → m ≤ 100000 → ∃ r, m ≤ r ∧ r ≤ 100000 ∧ ∀ k, d < k → impl_Starts.l0 k m l (l.length : Int) i = some (r, true) := by
  have hl := hg.1
  induction d with
  | zero =>
    intro m i h0 h1 hd hm0 hm1
    refine ⟨m, by omega, hm1, fun k hk => ?_⟩
    obtain ⟨k, rfl⟩ := pos_round (show 0 < k by omega)
    simp only [impl_Starts.l0]
    rw [if_neg (by omega), minute_eq, decide_eq_true (by omega), Option.bind_some, if_pos rfl]
  | succ d ih =>
    intro m i h0 h1 hd hm0 hm1
    have hlt : i < (l.length : Int) := by omega
    obtain ⟨g1, g2, g3, g4⟩ := hg.2 i h0 hlt
    have hfs := hf _ (rd42_mem h0 hlt)
    unfold FarS at hfs
    by_cases c : (rd_T42 l i).f0 ≤ m ∧ m ≤ (rd_T42 l i).f1 - 1
    · obtain ⟨r, r1, r2, r3⟩ := ih (rd_T42 l i).f1 (i + 1) (by omega) (by omega) (by omega) (by omega) (by omega)
      refine ⟨r, by omega, r2, fun k hk => ?_⟩
      obtain ⟨k, rfl⟩ := pos_round (show 0 < k by omega)
      simp only [impl_Starts.l0]
      rw [if_pos hlt, if_pos h0, if_pos hlt, w64 (x := (rd_T42 l i).f1 - 1) (by omega) (by omega), in_eqC, decide_eq_true c, Option.bind_some, if_pos rfl, w64 (x := i + 1) (by omega) (by omega)]
      exact r3 k (by omega)
    · obtain ⟨r, r1, r2, r3⟩ := ih m (i + 1) (by omega) (by omega) (by omega) (by omega) (by omega)
      refine ⟨r, by omega, r2, fun k hk => ?_⟩
      obtain ⟨k, rfl⟩ := pos_round (show 0 < k by omega)
      simp only [impl_Starts.l0]
      rw [if_pos hlt, if_pos h0, if_pos hlt, w64 (x := (rd_T42 l i).f1 - 1) (by omega) (by omega), in_eqC, decide_eq_false c, Option.bind_some, if_neg (by simp), w64 (x := i + 1) (by omega) (by omega)]
      exact r3 k (by omega)
theorem starts_ok (c0 A c2 c3 a : Int) (l : List S42) (hch : ChOk c0 A c2 c3) (hg : AllGood l) (hf : Far l) (h0 : 0 ≤ a) (h1 : a ≤ 10000) (h2 : c0 < 400) : ∃ r, a + c0 ≤ r ∧ r ≤ 100000 ∧ ∀ k, 1000 < k → impl_Starts.f k c0 A c2 c3 a l = some (r, true) := by
  have hl := hg.1
  have h3 := hch.1.1
  obtain ⟨r, r1, r2, r3⟩ := starts_loop l hg hf l.length (a + c0) 0 (by omega) (by omega) (by omega) (by omega) (by omega)
  refine ⟨r, r1, r2, fun k hk => ?_⟩
  obtain ⟨k, rfl⟩ := pos_round (show 0 < k by omega)
  unfold impl_Starts.f
  rw [charter_ok hch, Option.bind_some, if_pos rfl, minute_eq, decide_eq_true (by omega), Option.bind_some, if_pos rfl, (spells_true hg (k + 1) (by omega)).2, Option.bind_some]
  simp only [impl_Starts.j0]
  rw [if_neg (by simp), w64 (x := a + c0) (by omega) (by omega)]
  exact r3 k (by omega)
/-! ### the law -/
theorem two_good {b m e : Int} (h0 : 0 ≤ b) (h1 : b < m) (h2 : m < e) (h3 : e ≤ 100000000) : AllGood ([(⟨b, m⟩ : S42), (⟨m, e⟩ : S42)] : List S42) := by
  refine ⟨by simp, fun j j0 j1 => ?_⟩
  simp at j1
  rcases (show j = 0 ∨ j = 1 by omega) with rfl | rfl
  · exact ⟨h0, h1, show m ≤ 100000000 by omega, fun h => absurd h (by omega)⟩
  · exact ⟨show 0 ≤ m by omega, h2, h3, fun _ => show m ≤ m by omega⟩
theorem laid_G (c0 A c2 c3 b m e : Int) (l : List S42) (hch : ChOk c0 A c2 c3) (hg : AllGood l) (h0 : 0 ≤ b) (h1 : b < m) (h2 : m < e) (h3 : e ≤ 100000000) (k : Nat) (hk : 1010 < k) :
    impl_Laid.f k c0 A c2 c3 ([(⟨b, m⟩ : S42), (⟨m, e⟩ : S42)] : List S42) l = some ((G A e l b 0).1, (G A e l b 0).2.1, (G A e l b 0).2.2, true) := by
  obtain ⟨k, rfl⟩ : ∃ j, k = j + 4 := ⟨k - 4, by omega⟩
  obtain ⟨f1, f2, f3, f4⟩ := G_facts A m l b 0 hch.2.1.1
  have hj := G_parts A m e h2 (by omega) l (Srt_len (Srt_of hg)) b 0 h0 (by omega) hch.2.1.1
  unfold Joined at hj
  have hA := hch.2.1.2
  have n1 := counted_G c0 A c2 c3 b m l hch hg h0 (by omega) (by omega) (k + 2) (by omega)
  have n2 := counted_G c0 (A - (G A m l b 0).1) c2 c3 m e l ⟨hch.1, ⟨by omega, by omega⟩, hch.2.2.1, hch.2.2.2⟩ hg (by omega) (by omega) h3 (k + 1) (by omega)
  obtain ⟨q1, q2, q3, q4⟩ := G_facts (A - (G A m l b 0).1) e l m 0 (by omega)
  have o1 : (G A m l b 0).2.1 ≤ 100000000 := by
    by_cases h : 0 < (G A m l b 0).2.1
    · have := f4 h; omega
    · omega
  have o2 : (G (A - (G A m l b 0).1) e l m 0).2.1 ≤ 100000000 := by
    by_cases h : 0 < (G (A - (G A m l b 0).1) e l m 0).2.1
    · have := q4 h; omega
    · omega
  rw [hj]
  generalize G (A - (G A m l b 0).1) e l m 0 = r2 at n2 q1 q2 q3 q4 o2 ⊢
  generalize G A m l b 0 = r1 at n1 n2 f1 f2 f3 f4 q1 q2 q3 q4 o1 o2 ⊢
  unfold impl_Laid.f
  rw [charter_ok hch, Option.bind_some, if_pos rfl, if_neg (by simp), (spells_true (two_good h0 h1 h2 h3) (k + 4) (by omega)).2, Option.bind_some, if_pos rfl, (spells_true hg (k + 4) (by omega)).2, Option.bind_some]
  simp only [impl_Laid.j0]
  rw [if_neg (by simp)]
  have len : (([(⟨b, m⟩ : S42), (⟨m, e⟩ : S42)] : List S42).length : Int) = 2 := rfl
  have r0 : rd_T42 ([(⟨b, m⟩ : S42), (⟨m, e⟩ : S42)] : List S42) 0 = ⟨b, m⟩ := rfl
  have r1' : rd_T42 ([(⟨b, m⟩ : S42), (⟨m, e⟩ : S42)] : List S42) 1 = ⟨m, e⟩ := rfl
  rw [len, impl_Laid.l0, if_pos (by omega), if_pos (by omega), len, if_pos (by omega), r0]
  dsimp only
  rw [n1, Option.bind_some, if_pos (by omega)]
  dsimp only
  rw [w64 (x := (0 : Int) + 1) (by omega) (by omega), w64 (x := A - r1.1) (by omega) (by omega), w64 (x := 0 + r1.1) (by omega) (by omega), w64 (x := 0 + r1.2.1) (by omega) (by omega), show (0 : Int) + 1 = 1 from rfl, impl_Laid.l0, if_pos (by omega), if_pos (by omega), len, if_pos (by omega), r1']
  dsimp only
  rw [n2, Option.bind_some]
  dsimp only
  rw [w64 (x := (1 : Int) + 1) (by omega) (by omega), w64 (x := A - r1.1 - r2.1) (by omega) (by omega), w64 (x := 0 + r1.1 + r2.1) (by omega) (by omega), w64 (x := 0 + r1.2.1 + r2.2.1) (by omega) (by omega), Int.zero_add, Int.zero_add]
  by_cases c : r1.2.2 < 0
  · rw [if_pos c, if_pos c, impl_Laid.l0, if_neg (by omega)]
  · rw [if_neg c, if_neg c, impl_Laid.l0, if_neg (by omega)]
theorem work_in (l : List S42) (hg : AllGood l) (b e : Int) (h0 : 0 ≤ b) (h1 : b ≤ e) (h3 : e ≤ 100000000) (k : Nat) (hk : 300 < k) : spec_WorkIn.f k l b e = some (ovs b e l) := by
  unfold spec_WorkIn.f
  rw [(spells_true hg k (by omega)).1, Option.bind_some, if_pos rfl, minute_eq', minute_eq', decide_eq_true (by omega), Option.bind_some, if_pos rfl, decide_eq_true (by omega), Option.bind_some, if_pos rfl, if_neg (by omega), work_ok l hg.1 b e h1 h0 h3 hg.2 k (by omega), Option.bind_some]
theorem at_ok {l : List Int} (hb : Bytes l) (hl : l.length ≤ 1048576) {i : Int} (h0 : 0 ≤ i) (h1 : i ≤ 1000000000) : laws_at.f l i = some (atV l i) := at_some hb hl h0 h1
theorem owed_over (c0 A c2 c3 o late : Int) (hch : ChOk c0 A c2 c3) (h0 : 0 < o) (h1 : o ≤ 1000000) (k : Nat) : ∃ r, impl_Owed.f (k + 1) c0 A c2 c3 A o late = some (r, true) ∧ 0 ≤ r := by
  obtain ⟨a1, a2, a3, a4⟩ := hch
  have hm : 0 ≤ o * c2 := Int.mul_nonneg (by omega) a3.1
  have hm2 : o * c2 ≤ 1000000 * 1000000000 := mul_le2 (by omega) (by omega) (by omega) (by omega)
  have hd := Int.ediv_nonneg hm (show (0 : Int) ≤ 1440 by omega)
  have hd2 : o * c2 / 1440 ≤ o * c2 := by omega
  refine ⟨o * c2 / 1440, ?_, hd⟩
  unfold impl_Owed.f
  rw [charter_ok ⟨a1, a2, a3, a4⟩, Option.bind_some, if_pos rfl, in_eqC, decide_eq_true (by omega), Option.bind_some, if_pos rfl, in_eqC, decide_eq_true (by omega), Option.bind_some, if_pos rfl, if_pos (by omega), decide_eq_false (by omega)]
  simp only [impl_Owed.j0]
  rw [if_neg (by simp), if_pos (by omega), w64 (x := o * c2) (by omega) (by omega), td hm, w64 (by omega) (by omega)]
theorem owed_less (c0 A c2 c3 u late : Int) (hch : ChOk c0 A c2 c3) (h0 : 0 ≤ u) (h1 : u ≤ A) (k : Nat) : ∃ r, impl_Owed.f (k + 1) c0 A c2 c3 u 0 late = some (r, true) ∧ r ≤ 0 := by
  obtain ⟨a1, a2, a3, a4⟩ := hch
  have hm : 0 ≤ (A - u) * c3 := Int.mul_nonneg (by omega) a4.1
  have hm2 : (A - u) * c3 ≤ 100000 * 1000000000 := mul_le2 (by omega) (by omega) (by omega) (by omega)
  have hd := Int.ediv_nonneg hm (show (0 : Int) ≤ 1440 by omega)
  have hd2 : (A - u) * c3 / 1440 ≤ (A - u) * c3 := by omega
  refine ⟨-((A - u) * c3 / 1440), ?_, by omega⟩
  unfold impl_Owed.f
  rw [charter_ok ⟨a1, a2, a3, a4⟩, Option.bind_some, if_pos rfl, in_eqC, decide_eq_true (by omega), Option.bind_some, if_pos rfl, in_eqC, decide_eq_true (by omega), Option.bind_some, if_pos rfl, if_neg (by omega)]
  simp only [impl_Owed.j0]
  rw [if_neg (by simp), if_neg (by omega), w64 (x := A - u) (by omega) (by omega), w64 (x := (A - u) * c3) (by omega) (by omega), td hm, w64 (x := (A - u) * c3 / 1440) (by omega) (by omega), w64 (by omega) (by omega)]
theorem FnLaid : laws_FnLaid.Pure := by
  intro l _ _ hw
  have hb := bytes_of hw
  by_cases hn : (l.length : Int) > 1048576
  · refine ⟨0, ?_⟩
    unfold laws_FnLaid.f laws_big.f
    rw [Option.bind_some, if_pos (by simpa using hn)]
  · have hlen : l.length ≤ 1048576 := by omega
    obtain ⟨K, c0, A, c2, c3, off, a1, a2, a3, a4, hg, hf, hd⟩ := drawn l hlen
    have hch : ChOk c0 A c2 c3 := ⟨by omega, by omega, by omega, by omega⟩
    obtain ⟨t1, t1'⟩ := atV_range hb (i := 1) (by omega)
    obtain ⟨t2, t2'⟩ := atV_range hb (i := 2) (by omega)
    obtain ⟨t3, t3'⟩ := atV_range hb (i := 3) (by omega)
    obtain ⟨B, b0, b1, hB⟩ := starts_ok c0 A c2 c3 (atV l 1 * 9) off hch hg hf (by omega) (by omega) (by omega)
    refine ⟨K + 5000, ?_⟩
    unfold laws_FnLaid.f laws_big.f
    rw [Option.bind_some, if_neg (by simpa using hn), hd _ (by omega), Option.bind_some, at_ok hb hlen (by omega) (by omega), Option.bind_some]
    dsimp only
    rw [w64 (x := atV l 1 * 9) (by omega) (by omega), hB _ (by omega), Option.bind_some]
    dsimp only
    rw [if_pos rfl, Option.bind_some, w64 (x := atV l 1 * 9) (by omega) (by omega), w64 (x := atV l 1 * 9 + c0) (by omega) (by omega), if_neg (by omega), charter_ok hch, Option.bind_some, show K + 5000 = (K + 4998) + 1 + 1 by omega]
    generalize hk : K + 4998 = k
    simp only [laws_FnLaid.j0]
    rw [if_neg (by simp), at_ok hb hlen (by omega) (by omega), at_ok hb hlen (by omega) (by omega), Option.bind_some, Option.bind_some, Option.bind_some, w64 (x := atV l 2 * 7) (by omega) (by omega), w64 (x := atV l 3 * 9) (by omega) (by omega), w64 (x := B + 1) (by omega) (by omega), w64 (x := B + 2) (by omega) (by omega), w64 (x := B + 1 + atV l 2 * 7) (by omega) (by omega), w64 (x := B + 2 + atV l 2 * 7) (by omega) (by omega), w64 (x := B + 2 + atV l 2 * 7 + atV l 3 * 9) (by omega) (by omega)]
    generalize hm : B + 1 + atV l 2 * 7 = m
    generalize he : B + 2 + atV l 2 * 7 + atV l 3 * 9 = e
    obtain ⟨f1, f2, f3, f4⟩ := G_facts A e off B 0 hch.2.1.1
    have free := G_free A e off (Srt_of hg) B 0 hch.2.1.1
    rw [counted_G c0 A c2 c3 B e off hch hg (by omega) (by omega) (by omega) (k + 1) (by omega), Option.bind_some, laid_G c0 A c2 c3 B m e off hch hg (by omega) (by omega) (by omega) (by omega) (k + 1) (by omega), Option.bind_some]
    generalize G A e off B 0 = r at f1 f2 f3 f4 free ⊢
    dsimp only
    have hov := ovs_small (b := B) (e := e) (by omega) (by omega) (by omega) off hg.1
    rw [if_pos rfl, if_pos rfl, if_neg (by simp), if_neg (by omega)]
    have last : laws_FnLaid.j1 (k + 1) off B e false c0 A c2 c3 r.1 r.2.1 r.2.2 = some true := by
      simp only [laws_FnLaid.j1]
      rw [if_neg (by simp), work_in off hg B e (by omega) (by omega) (by omega) k (by omega), Option.bind_some, w64 (x := e - B) (by omega) (by omega), w64 (x := e - B - ovs B e off) (by omega) (by omega)]
      obtain ⟨k, rfl⟩ := pos_round (show 0 < k by omega)
      by_cases c : r.2.1 = 0
      · have h1 := free c
        rw [if_pos (by omega)] at h1
        obtain ⟨w, e1, e2⟩ := owed_less c0 A c2 c3 r.1 r.2.2 hch (by omega) f1 k
        rw [if_pos c, if_pos (by omega), if_neg (by omega), c, e1, Option.bind_some]
        dsimp only
        rw [if_pos rfl, decide_eq_true e2]
      · obtain ⟨g1, g2, g3⟩ := f4 (by omega)
        obtain ⟨w, e1, e2⟩ := owed_over c0 A c2 c3 r.2.1 r.2.2 hch (by omega) (by omega) k
        rw [if_neg c, if_pos (by omega), w64 (x := e - r.2.1) (by omega) (by omega), if_pos g2, if_neg (by omega), g1, e1, Option.bind_some]
        dsimp only
        rw [if_pos rfl, if_pos e2]
    by_cases c : r.2.1 > 0
    · rw [if_pos c, show (r.1 != A) = false by simp; exact (f4 c).1]
      exact last
    · rw [if_neg c]
      exact last

end Go.Proofs.Ytpepdjghajphlaa.Pure
