/- Drawn radios with as many coins settle, no two that hear each other having one slot; who did not clash keeps its slot; a call comes to each neighbour once later: for each byte list as code. -/
import Derived.Test.YtbhdnhpkpbhilaaPFnSettledx8
import Derived.Test.YtbhdnhpkpbhilaaVSettledKit
set_option linter.unusedVariables false
set_option linter.unusedSimpArgs false
namespace Go.Proofs.Ytbhdnhpkpbhilaa.Pure
open Go.RowKit Go.Proofs.Ytbhdnhpkpbhilaa.PFnSettled Go.Proofs.YtbhdnhpkpbhilaaW.PrintWords Go.Proofs.YtbhdnhpkpbhilaaW.PrintLast Go.Proofs.YtbhdnhpkpbhilaaW.PrintMore Go.Proofs.YtbhdnhpkpbhilaaW.Kit

theorem rd58_lt {l : List S58} {i : Int} (h0 : 0 ≤ i) (h1 : i < l.length) : ∃ h : i.toNat < l.length, rd_T58 l i = l[i.toNat]'h := by
  have h : i.toNat < l.length := by omega
  exact ⟨h, by simp [rd_T58, List.getD_eq_getElem?_getD, List.getElem?_eq_getElem h]⟩
theorem rd58_mem {l : List S58} {i : Int} (h0 : 0 ≤ i) (h1 : i < l.length) : rd_T58 l i ∈ l := by
  obtain ⟨h, e⟩ := rd58_lt h0 h1
  rw [e]; exact List.getElem_mem h
theorem rd58_drop {l : List S58} {i : Int} (h0 : 0 ≤ i) (h1 : i < l.length) : l.drop i.toNat = rd_T58 l i :: l.drop (i + 1).toNat := by
  obtain ⟨h, e⟩ := rd58_lt h0 h1
  rw [e, show (i + 1).toNat = i.toNat + 1 by omega, List.drop_eq_getElem_cons h]
theorem rd58_take {l : List S58} {i : Int} (h0 : 0 ≤ i) (h1 : i < l.length) : l.take (i + 1).toNat = l.take i.toNat ++ [rd_T58 l i] := by
  obtain ⟨h, e⟩ := rd58_lt h0 h1
  rw [e, show (i + 1).toNat = i.toNat + 1 by omega, List.take_succ_eq_append_getElem h]
theorem rd58_set_eq {l : List S58} {i : Int} {x : S58} (h0 : 0 ≤ i) (h1 : i < l.length) : rd_T58 (l.set i.toNat x) i = x := by
  simp [rd_T58, List.getD_eq_getElem?_getD, List.getElem?_set, show i.toNat < l.length by omega]
theorem rd58_set_ne {l : List S58} {i j : Int} {x : S58} (h0 : 0 ≤ i) (hj : 0 ≤ j) (h : i ≠ j) : rd_T58 (l.set i.toNat x) j = rd_T58 l j := by
  simp [rd_T58, List.getD_eq_getElem?_getD, List.getElem?_set, show ¬ i.toNat = j.toNat by omega]
theorem rd58_append_left {l m : List S58} {i : Int} (h0 : 0 ≤ i) (h1 : i < l.length) : rd_T58 (l ++ m) i = rd_T58 l i := by
  simp [rd_T58, List.getD_eq_getElem?_getD, List.getElem?_append_left (show i.toNat < l.length by omega)]
theorem rd58_last {l : List S58} {x : S58} : rd_T58 (l ++ [x]) (l.length : Int) = x := by
  simp [rd_T58, List.getD_eq_getElem?_getD]
theorem ext58 {l m : List S58} (h : l.length = m.length) (hr : ∀ i : Int, 0 ≤ i → i < l.length → rd_T58 l i = rd_T58 m i) : l = m := by
  apply List.ext_getElem h
  intro i h1 h2
  have := hr i (by omega) (by omega)
  simpa [rd_T58, List.getD_eq_getElem?_getD, List.getElem?_eq_getElem h1, List.getElem?_eq_getElem h2] using this
theorem mask_nat (x : Int) (i : Nat) (hi : i ≤ 62) : Go.bits .and .i64 x ((2 ^ i - 1 : Nat) : Int) = x % ((2 ^ i : Nat) : Int) := by
  have hp : 0 < 2 ^ i := Nat.two_pow_pos i
  have h62 : 2 ^ i ≤ 2 ^ 62 := Nat.pow_le_pow_right (by decide) hi
  have e62 : (2 : Nat) ^ 62 = 4611686018427387904 := by decide
  rw [e62] at h62
  have hm : (2 ^ i - 1) % 2 ^ 64 = 2 ^ i - 1 := Nat.mod_eq_of_lt (by have : (2:Nat)^64 = 18446744073709551616 := by decide
                                                                     omega)
  have hd : ((2 ^ i : Nat) : Int) ∣ 18446744073709551616 := by
    have : (2 : Nat) ^ i ∣ 2 ^ 64 := Nat.pow_dvd_pow 2 (by omega)
    have h2 : (2 : Nat) ^ 64 = 18446744073709551616 := by decide
    rw [h2] at this
    exact Int.natCast_dvd_natCast.2 this
  show IntKind.i64.wrap ((BitVec.ofInt 64 x &&& BitVec.ofInt 64 ((2 ^ i - 1 : Nat) : Int)).toNat : Int) = _
  rw [BitVec.toNat_and, BitVec.ofInt_natCast, BitVec.toNat_ofNat, hm, Nat.and_two_pow_sub_one_eq_mod, BitVec.toNat_ofInt, IntKind.wrap_i64]
  have hx : 0 ≤ x % 18446744073709551616 := Int.emod_nonneg _ (by decide)
  have e : (((x % ((2 ^ 64 : Nat) : Int)).toNat % 2 ^ i : Nat) : Int) = x % ((2 ^ i : Nat) : Int) := by
    rw [Int.natCast_emod, show (((2 ^ 64 : Nat) : Int)) = 18446744073709551616 by decide, Int.toNat_of_nonneg hx, Int.emod_emod_of_dvd _ hd]
  rw [e]
  have h1 := Int.emod_nonneg x (show ((2 ^ i : Nat) : Int) ≠ 0 by omega)
  have h2 := Int.emod_lt_of_pos x (show (0 : Int) < ((2 ^ i : Nat) : Int) by omega)
  generalize x % ((2 ^ i : Nat) : Int) = r at h1 h2 ⊢
  omega
theorem mask24 (x : Int) : Go.bits .and .i64 x 16777215 = x % 16777216 := mask_nat x 24 (by decide)
theorem mask16 (x : Int) : Go.bits .and .i64 x 65535 = x % 65536 := mask_nat x 16 (by decide)
theorem mask8 (x : Int) : Go.bits .and .i64 x 255 = x % 256 := mask_nat x 8 (by decide)
theorem mask30 (x : Int) : Go.bits .and .i64 x 1073741823 = x % 1073741824 := mask_nat x 30 (by decide)
/-! ### the drawn values: a place in the bytes that stays in its row, and values that stay in their range -/
/-- The cursor's place is in the row. -/
def InRow (c : List Int) (p : Int) : Prop := 0 ≤ p ∧ p ≤ (c.length : Int)
theorem new_loop (c : List Int) (hc : c.length ≤ 1048576) (d : Nat) : ∀ (s i : Int), 0 ≤ i → i ≤ 4000 → 4000 - i = d → ∃ r, ∀ k, d < k → spec_l1New.l0 k c s i = some (c, 0, r) := by
  induction d with
  | zero =>
    intro s i h0 h1 hd
    refine ⟨s, fun k hk => ?_⟩
    obtain ⟨k, rfl⟩ := pos_round (show 0 < k by omega)
    simp only [spec_l1New.l0]
    by_cases h : i < (c.length : Int)
    · rw [if_pos h, if_neg (by omega)]
    · rw [if_neg h]
  | succ d ih =>
    intro s i h0 h1 hd
    by_cases h : i < (c.length : Int)
    · obtain ⟨r, hr⟩ := ih (Go.bits .and .i64 (wrap64 ((wrap64 ((wrap64 (s * 131)) + (wrap64 (rd c i)))) + 7)) 1073741823) (i + 1) (by omega) (by omega) (by omega)
      refine ⟨r, fun k hk => ?_⟩
      obtain ⟨k, rfl⟩ := pos_round (show 0 < k by omega)
      simp only [spec_l1New.l0]
      rw [if_pos h, if_pos (by omega), if_pos h0, w64 (x := i + 1) (by omega) (by omega)]
      exact hr k (by omega)
    · refine ⟨s, fun k hk => ?_⟩
      obtain ⟨k, rfl⟩ := pos_round (show 0 < k by omega)
      simp only [spec_l1New.l0]
      rw [if_neg h]
theorem new_ok (c : List Int) (hc : c.length ≤ 1048576) : ∃ r, ∀ k, 4000 < k → spec_l1New.f k c = some (c, 0, r) := by
  obtain ⟨r, hr⟩ := new_loop c hc 4000 (wrap64 (59059 + (c.length : Int))) 0 (by omega) (by omega) (by omega)
  exact ⟨r, hr⟩
theorem byte_ok (c : List Int) (hc : c.length ≤ 1048576) {p : Int} (hp : InRow c p) (s : Int) : ∃ b p' s', spec_l1Byte.f c p s = some (b, p', s') ∧ 0 ≤ b ∧ b ≤ 255 ∧ InRow c p' := by
  unfold spec_l1Byte.f
  obtain ⟨h0, h1⟩ := hp
  by_cases h : p < (c.length : Int)
  · rw [if_pos h, if_pos h0, w64 (x := p + 1) (by omega) (by omega)]
    refine ⟨_, _, _, rfl, ?_, ?_, by constructor <;> omega⟩ <;> rw [mask8] <;> omega
  · rw [if_neg h]
    refine ⟨_, _, _, rfl, ?_, ?_, by constructor <;> omega⟩ <;> rw [mask8] <;> omega
theorem below_ok (c : List Int) (hc : c.length ≤ 1048576) {p : Int} (hp : InRow c p) (s : Int) (n : Int) : ∃ r p' s', spec_l1Below.f c p s n = some (r, p', s') ∧ 0 ≤ r ∧ (0 < n → r < n) ∧ (n ≤ 0 → r = 0) ∧ InRow c p' := by
  unfold spec_l1Below.f
  by_cases h : n ≤ 0
  · rw [if_pos h]
    exact ⟨0, p, s, rfl, by omega, by omega, fun _ => rfl, hp⟩
  · rw [if_neg h]
    by_cases h2 : n ≤ 256
    · obtain ⟨b, p1, s1, e, b0, b1, hp1⟩ := byte_ok c hc hp s
      rw [if_pos h2, e, Option.bind_some, if_neg (by omega)]
      refine ⟨_, _, _, rfl, ?_, ?_, fun _ => by omega, hp1⟩ <;> rw [tm b0]
      · exact Int.emod_nonneg _ (by omega)
      · intro _; exact Int.emod_lt_of_pos _ (by omega)
    · obtain ⟨b, p1, s1, e, b0, b1, hp1⟩ := byte_ok c hc hp s
      obtain ⟨b', p2, s2, e2, b0', b1', hp2⟩ := byte_ok c hc hp1 s1
      obtain ⟨b'', p3, s3, e3, b0'', b1'', hp3⟩ := byte_ok c hc hp2 s2
      obtain ⟨b3, p4, s4, e4, b03, b13, hp4⟩ := byte_ok c hc hp3 s3
      rw [if_neg h2, e, Option.bind_some]
      dsimp only
      rw [e2, Option.bind_some]
      dsimp only
      rw [e3, Option.bind_some]
      dsimp only
      rw [e4, Option.bind_some, if_neg (by omega)]
      dsimp only
      rw [w64 (x := b * 16777216) (by omega) (by omega), w64 (x := b' * 65536) (by omega) (by omega), w64 (x := b'' * 256) (by omega) (by omega), w64 (x := b * 16777216 + b' * 65536) (by omega) (by omega), w64 (x := b * 16777216 + b' * 65536 + b'' * 256) (by omega) (by omega), w64 (by omega) (by omega), tm (by omega)]
      exact ⟨_, _, _, rfl, Int.emod_nonneg _ (by omega), fun _ => Int.emod_lt_of_pos _ (by omega), fun _ => by omega, hp4⟩
/-! ### the numbers behind the draws: from each state each other is come to -/
/-- One step, without bounds. -/
def Fn : Nat → Int → Int
  | 0, x => x
  | n + 1, x => Fn n (6364136223846793005 * x + 1442695040888963407)
theorem Fn_add (n m : Nat) : ∀ x, Fn (n + m) x = Fn m (Fn n x) := by
  induction n with
  | zero => intro x; rw [Nat.zero_add]; rfl
  | succ n ih => intro x; rw [Nat.succ_add]; exact ih _
theorem Fn_off (n : Nat) : ∀ x d, Fn n (x + d) = Fn n x + 6364136223846793005 ^ n * d := by
  induction n with
  | zero => intro x d; simp [Fn]
  | succ n ih =>
    intro x d
    show Fn n (6364136223846793005 * (x + d) + 1442695040888963407) = Fn n (6364136223846793005 * x + 1442695040888963407) + _
    rw [show 6364136223846793005 * (x + d) + 1442695040888963407 = (6364136223846793005 * x + 1442695040888963407) + 6364136223846793005 * d by omega, ih, Int.pow_succ, Int.mul_assoc]
theorem pow_four (n : Nat) : ∃ w : Int, 6364136223846793005 ^ n = 1 + 4 * w := by
  induction n with
  | zero => exact ⟨0, by simp⟩
  | succ n ih =>
    obtain ⟨w, hw⟩ := ih
    refine ⟨w + 1591034055961698251 + 4 * (w * 1591034055961698251), ?_⟩
    rw [Int.pow_succ, hw]
    omega
theorem Fn_dbl (k : Nat) : ∀ x : Int, ∃ u : Int, Fn (2 ^ k) x = x + 2 ^ k * u ∧ u % 2 = 1 := by
  induction k with
  | zero =>
    intro x
    refine ⟨6364136223846793004 * x + 1442695040888963407, ?_, by omega⟩
    show 6364136223846793005 * x + 1442695040888963407 = x + 1 * _
    omega
  | succ k ih =>
    intro x
    obtain ⟨u, hu, h1⟩ := ih x
    obtain ⟨w, hw⟩ := pow_four (2 ^ k)
    refine ⟨u * (1 + 2 * w), ?_, ?_⟩
    · rw [Nat.pow_succ, Nat.mul_two, Fn_add, hu, Fn_off, hu, hw, Int.pow_succ]
      generalize (2 : Int) ^ k = P
      rw [show (1 + 4 * w) * (P * u) = P * u + 4 * (w * (P * u)) by rw [Int.add_mul, Int.one_mul, Int.mul_assoc], show P * 2 * (u * (1 + 2 * w)) = 2 * (P * u) + 4 * (w * (P * u)) by
        rw [Int.mul_add, Int.mul_one, Int.mul_add, show P * 2 * u = 2 * (P * u) by rw [Int.mul_comm P 2, Int.mul_assoc], show P * 2 * (u * (2 * w)) = 4 * (w * (P * u)) by
          rw [Int.mul_comm P 2, Int.mul_assoc, ← Int.mul_assoc u 2 w, Int.mul_comm u 2, Int.mul_assoc 2 u w, ← Int.mul_assoc P 2, Int.mul_comm P 2, Int.mul_assoc 2 P, ← Int.mul_assoc P u w, Int.mul_comm (P * u) w]
          omega]]
      omega
    · obtain ⟨p, rfl⟩ : ∃ p, u = 2 * p + 1 := ⟨u / 2, by omega⟩
      rw [show (2 * p + 1) * (1 + 2 * w) = 2 * (p * (1 + 2 * w) + w) + 1 by
        rw [Int.add_mul, Int.mul_assoc]; omega]
      omega
theorem Fn_reach (k : Nat) : ∀ x t : Int, ∃ (n : Nat) (q : Int), Fn n x = t + 2 ^ k * q := by
  induction k with
  | zero => intro x t; exact ⟨0, x - t, by show x = t + 1 * (x - t); omega⟩
  | succ k ih =>
    intro x t
    obtain ⟨n, q, h⟩ := ih x t
    by_cases e : q % 2 = 0
    · obtain ⟨p, rfl⟩ : ∃ p, q = 2 * p := ⟨q / 2, by omega⟩
      exact ⟨n, p, by rw [h, Int.pow_succ, Int.mul_assoc]⟩
    · obtain ⟨u, hu, h1⟩ := Fn_dbl k (Fn n x)
      obtain ⟨p, hp⟩ : ∃ p, q + u = 2 * p := ⟨(q + u) / 2, by omega⟩
      refine ⟨n + 2 ^ k, p, ?_⟩
      rw [Fn_add, hu, h, Int.pow_succ, Int.mul_assoc, ← hp, Int.mul_add, Int.add_assoc]
/-- The state behind one byte. -/
def nx (s : Int) : Int := wrap64 ((wrap64 (s * 6364136223846793005)) + 1442695040888963407)
def nxn : Nat → Int → Int
  | 0, s => s
  | n + 1, s => nxn n (nx s)
theorem nxn_add (n m : Nat) : ∀ s, nxn (n + m) s = nxn m (nxn n s) := by
  induction n with
  | zero => intro s; rw [Nat.zero_add]; rfl
  | succ n ih => intro s; rw [Nat.succ_add]; exact ih _
def In64 (s : Int) : Prop := -9223372036854775808 ≤ s ∧ s ≤ 9223372036854775807
theorem nx_in (s : Int) : In64 (nx s) := by unfold nx wrap64 In64; omega
theorem nx_F (s : Int) : ∃ q : Int, nx s = (6364136223846793005 * s + 1442695040888963407) + 18446744073709551616 * q := by
  unfold nx wrap64
  exact ⟨((s * 6364136223846793005 + 9223372036854775808) % 18446744073709551616 - 9223372036854775808 + 1442695040888963407 + 9223372036854775808) % 18446744073709551616 / 18446744073709551616 - (s * 6364136223846793005 + 9223372036854775808) / 18446744073709551616 - ((s * 6364136223846793005 + 9223372036854775808) % 18446744073709551616 - 9223372036854775808 + 1442695040888963407 + 9223372036854775808) / 18446744073709551616, by omega⟩
theorem nxn_F (n : Nat) : ∀ s, In64 s → In64 (nxn n s) ∧ ∃ q : Int, nxn n s = Fn n s + 18446744073709551616 * q := by
  induction n with
  | zero => intro s hs; exact ⟨hs, 0, by simp [nxn, Fn]⟩
  | succ n ih =>
    intro s _
    obtain ⟨h, q, hq⟩ := ih (nx s) (nx_in s)
    refine ⟨h, ?_⟩
    obtain ⟨p, hp⟩ := nx_F s
    refine ⟨q + 6364136223846793005 ^ n * p, ?_⟩
    show nxn n (nx s) = Fn n (6364136223846793005 * s + 1442695040888963407) + _
    rw [hq, hp, Fn_off, Int.mul_add, show (6364136223846793005 : Int) ^ n * (18446744073709551616 * p) = 18446744073709551616 * (6364136223846793005 ^ n * p) by rw [← Int.mul_assoc, Int.mul_comm _ 18446744073709551616, Int.mul_assoc]]
    omega
theorem nx_reach (s t : Int) (ht : In64 t) : ∃ n, nxn n (nx s) = t := by
  obtain ⟨n, q, h⟩ := Fn_reach 64 (nx s) t
  obtain ⟨hr, p, hp⟩ := nxn_F n (nx s) (nx_in s)
  refine ⟨n, ?_⟩
  rw [h] at hp
  have : (2 : Int) ^ 64 = 18446744073709551616 := by decide
  rw [this] at hp
  unfold In64 at *
  omega
/-! ### the draws, step by step: each byte is one step of the numbers -/
def adv (c : List Int) : Nat → Int → Int
  | 0, p => p
  | n + 1, p => adv c n (if p < (c.length : Int) then p + 1 else p)
theorem adv_in (c : List Int) (n : Nat) : ∀ p, InRow c p → InRow c (adv c n p) := by
  induction n with
  | zero => intro p h; exact h
  | succ n ih =>
    intro p h
    refine ih _ ?_
    unfold InRow at *
    split <;> omega
theorem adv_add (c : List Int) (n m : Nat) : ∀ p, adv c (n + m) p = adv c m (adv c n p) := by
  induction n with
  | zero => intro p; rw [Nat.zero_add]; rfl
  | succ n ih => intro p; rw [Nat.succ_add]; exact ih _
theorem adv_len (c : List Int) (n : Nat) : adv c n (c.length : Int) = (c.length : Int) := by
  induction n with
  | zero => rfl
  | succ n ih => show adv c n (if _ then _ else _) = _; rw [if_neg (by omega), ih]
theorem adv_le (c : List Int) (n : Nat) : ∀ p, p ≤ adv c n p := by
  induction n with
  | zero => intro p; exact Int.le_refl _
  | succ n ih =>
    intro p
    have := ih (if p < (c.length : Int) then p + 1 else p)
    show p ≤ adv c n (if p < (c.length : Int) then p + 1 else p)
    split at this
    · rename_i h; rw [if_pos h]; omega
    · rename_i h; rw [if_neg h]; exact this
theorem adv_lt (c : List Int) (n : Nat) (p : Int) (h : p < (c.length : Int)) : p < adv c (n + 1) p := by
  show p < adv c n (if p < (c.length : Int) then p + 1 else p)
  rw [if_pos h]
  have := adv_le c n (p + 1)
  omega
/-- The byte that a state yields where the code's bytes are used up. -/
def by8 (s : Int) : Int := Go.bits .and .i64 (Go.bits .xor .i64 ((nx s) / 8589934592) ((nx s) / 35184372088832)) 255
theorem byte_st (c : List Int) (hc : c.length ≤ 1048576) {p : Int} (hp : InRow c p) (s : Int) : ∃ b, spec_l1Byte.f c p s = some (b, adv c 1 p, nx s) ∧ 0 ≤ b ∧ b ≤ 255 ∧ (p = (c.length : Int) → b = by8 s) := by
  unfold spec_l1Byte.f
  obtain ⟨h0, h1⟩ := hp
  by_cases h : p < (c.length : Int)
  · rw [if_pos h, if_pos h0, w64 (x := p + 1) (by omega) (by omega)]
    refine ⟨_, by show some (_, _, _) = some (_, adv c 0 (if _ then _ else _), _); rw [if_pos h]; rfl, ?_, ?_, fun e => by omega⟩ <;> rw [mask8] <;> omega
  · rw [if_neg h]
    refine ⟨_, by show some (_, _, _) = some (_, adv c 0 (if _ then _ else _), _); rw [if_neg h]; rfl, ?_, ?_, fun _ => rfl⟩ <;> unfold by8 <;> rw [mask8] <;> omega
theorem below_st (c : List Int) (hc : c.length ≤ 1048576) {p : Int} (hp : InRow c p) (s n : Int) (h1 : 1 ≤ n) (h2 : n ≤ 256) : ∃ r, spec_l1Below.f c p s n = some (r, adv c 1 p, nx s) ∧ 0 ≤ r ∧ r < n ∧ (p = (c.length : Int) → r = by8 s % n) := by
  obtain ⟨b, e, b0, b1, b2⟩ := byte_st c hc hp s
  unfold spec_l1Below.f
  rw [if_neg (by omega), if_pos h2, e, Option.bind_some, if_neg (by omega)]
  dsimp only
  rw [tm b0]
  exact ⟨_, rfl, Int.emod_nonneg _ (by omega), Int.emod_lt_of_pos _ (by omega), fun h => by rw [b2 h]⟩
theorem below_at (c : List Int) (hc : c.length ≤ 1048576) {p : Int} (hp : InRow c p) (s : Int) (j : Nat) (n : Int) (h1 : 1 ≤ n) (h2 : n ≤ 256) : ∃ r, spec_l1Below.f c (adv c j p) (nxn j s) n = some (r, adv c (j + 1) p, nxn (j + 1) s) ∧ 0 ≤ r ∧ r < n ∧ (p = (c.length : Int) → r = by8 (nxn j s) % n) := by
  obtain ⟨r, e, r0, r1, r2⟩ := below_st c hc (adv_in c j p hp) (nxn j s) n h1 h2
  refine ⟨r, ?_, r0, r1, fun h => r2 (by rw [h, adv_len])⟩
  rw [e, adv_add, nxn_add]; rfl
/-! ### radios: who hears whom -/
def hrs (L : List S58) (i : Int) : List Int := (rd_T58 L i).f2
def Asc (h : List Int) : Prop := ∀ j : Int, 0 < j → j < h.length → rd h (j - 1) < rd h j
theorem asc_snoc {h : List Int} {x : Int} (ha : Asc h) (hx : ∀ y ∈ h, y < x) : Asc (h ++ [x]) := by
  intro j h0 h1
  simp only [List.length_append, List.length_cons, List.length_nil] at h1
  rw [rd_append_left (by omega) (by omega)]
  by_cases c : j = (h.length : Int)
  · rw [c, rd_last]
    exact hx _ (rd_mem (by omega) (by omega))
  · rw [rd_append_left (by omega) (by omega)]
    exact ha j h0 (by omega)
/-- All pairs before (i, k) are told. -/
structure Net (L : List S58) (i k : Int) : Prop where
  asc : ∀ a : Int, 0 ≤ a → a < L.length → Asc (hrs L a)
  sym : ∀ a b : Int, 0 ≤ a → a < L.length → b ∈ hrs L a → 0 ≤ b ∧ b < L.length ∧ b ≠ a ∧ a ∈ hrs L b
  bef : ∀ a b : Int, 0 ≤ a → a < L.length → b ∈ hrs L a → a < b → a < i ∨ (a = i ∧ b < k)
def Ids (L : List S58) : Prop := ∀ i : Int, 0 ≤ i → i < L.length → (1 ≤ (rd_T58 L i).f0 ∧ (rd_T58 L i).f0 ≤ 50 * (i + 1)) ∧ (0 < i → (rd_T58 L (i - 1)).f0 < (rd_T58 L i).f0) ∧ (0 ≤ (rd_T58 L i).f1 ∧ (rd_T58 L i).f1 ≤ 19)
theorem net_skip {L : List S58} {i k i' k' : Int} (h : Net L i k) (hk : i < i' ∨ (i = i' ∧ k ≤ k')) : Net L i' k' :=
  ⟨h.asc, h.sym, fun a b h0 h1 hb hab => by rcases h.bef a b h0 h1 hb hab with g | g <;> omega⟩
/-- The pair hears each other. -/
def addP (L : List S58) (i k : Int) : List S58 :=
  (L.set i.toNat ⟨(rd_T58 L i).f0, (rd_T58 L i).f1, (rd_T58 L i).f2 ++ [k]⟩).set k.toNat ⟨(rd_T58 (L.set i.toNat ⟨(rd_T58 L i).f0, (rd_T58 L i).f1, (rd_T58 L i).f2 ++ [k]⟩) k).f0, (rd_T58 (L.set i.toNat ⟨(rd_T58 L i).f0, (rd_T58 L i).f1, (rd_T58 L i).f2 ++ [k]⟩) k).f1, (rd_T58 (L.set i.toNat ⟨(rd_T58 L i).f0, (rd_T58 L i).f1, (rd_T58 L i).f2 ++ [k]⟩) k).f2 ++ [i]⟩
theorem addP_len (L : List S58) (i k : Int) : (addP L i k).length = L.length := by simp [addP]
theorem addP_rd {L : List S58} {i k : Int} (h0 : 0 ≤ i) (hk : i < k) (h1 : k < L.length) (a : Int) (ha : 0 ≤ a) : (rd_T58 (addP L i k) a).f0 = (rd_T58 L a).f0 ∧ (rd_T58 (addP L i k) a).f1 = (rd_T58 L a).f1 ∧ hrs (addP L i k) a = if a = i then hrs L i ++ [k] else if a = k then hrs L k ++ [i] else hrs L a := by
  unfold addP hrs
  by_cases ci : a = i
  · subst ci
    rw [if_pos rfl, rd58_set_ne (by omega) ha (by omega), rd58_set_eq ha (by omega)]
    exact ⟨rfl, rfl, rfl⟩
  · rw [if_neg ci]
    by_cases ck : a = k
    · subst ck
      rw [if_pos rfl, rd58_set_eq (by omega) (by simp; omega), rd58_set_ne (by omega) (by omega) (by omega)]
      exact ⟨rfl, rfl, rfl⟩
    · rw [if_neg ck, rd58_set_ne (by omega) ha (by omega), rd58_set_ne (by omega) ha (by omega)]
      exact ⟨rfl, rfl, rfl⟩
theorem addP_net {L : List S58} {i k : Int} (h : Net L i k) (h0 : 0 ≤ i) (hk : i < k) (h1 : k < L.length) : Net (addP L i k) i (k + 1) := by
  have hh := fun a ha => (addP_rd h0 hk h1 a ha).2.2
  have below_i : ∀ y ∈ hrs L i, y < k := fun y hy => by
    obtain ⟨s1, s2, s3, s4⟩ := h.sym i y h0 (by omega) hy
    by_cases c : i < y
    · rcases h.bef i y h0 (by omega) hy c with g | g <;> omega
    · omega
  have below_k : ∀ y ∈ hrs L k, y < i := fun y hy => by
    obtain ⟨s1, s2, s3, s4⟩ := h.sym k y (by omega) h1 hy
    by_cases c : k < y
    · rcases h.bef k y (by omega) h1 hy c with g | g <;> omega
    · rcases h.bef y k s1 s2 s4 (by omega) with g | g <;> omega
  have mem : ∀ a b : Int, 0 ≤ a → (b ∈ hrs (addP L i k) a ↔ b ∈ hrs L a ∨ (a = i ∧ b = k) ∨ (a = k ∧ b = i)) := by
    intro a b ha
    rw [hh a ha]
    by_cases ci : a = i
    · subst ci
      rw [if_pos rfl]
      simp only [List.mem_append, List.mem_singleton]
      constructor
      · rintro (g | g)
        · exact .inl g
        · exact .inr (.inl ⟨trivial, g⟩)
      · rintro (g | g | g)
        · exact .inl g
        · exact .inr g.2
        · omega
    · rw [if_neg ci]
      by_cases ck : a = k
      · subst ck
        rw [if_pos rfl]
        simp only [List.mem_append, List.mem_singleton]
        constructor
        · rintro (g | g)
          · exact .inl g
          · exact .inr (.inr ⟨trivial, g⟩)
        · rintro (g | g | g)
          · exact .inl g
          · omega
          · exact .inr g.2
      · rw [if_neg ck]
        constructor
        · exact .inl
        · rintro (g | g | g)
          · exact g
          · omega
          · omega
  refine ⟨fun a ha hl => ?_, fun a b ha hl hb => ?_, fun a b ha hl hb hab => ?_⟩
  · rw [addP_len] at hl
    rw [hh a ha]
    by_cases ci : a = i
    · rw [if_pos ci]; exact asc_snoc (h.asc i h0 (by omega)) below_i
    · rw [if_neg ci]
      by_cases ck : a = k
      · rw [if_pos ck]; exact asc_snoc (h.asc k (by omega) h1) below_k
      · rw [if_neg ck]; exact h.asc a ha hl
  · rw [addP_len] at hl ⊢
    rcases (mem a b ha).1 hb with g | ⟨rfl, rfl⟩ | ⟨rfl, rfl⟩
    · obtain ⟨s1, s2, s3, s4⟩ := h.sym a b ha hl g
      exact ⟨s1, s2, s3, (mem b a s1).2 (.inl s4)⟩
    · exact ⟨by omega, by omega, by omega, (mem b a (by omega)).2 (.inr (.inr ⟨rfl, rfl⟩))⟩
    · exact ⟨by omega, by omega, by omega, (mem b a (by omega)).2 (.inr (.inl ⟨rfl, rfl⟩))⟩
  · rw [addP_len] at hl
    rcases (mem a b ha).1 hb with g | ⟨rfl, rfl⟩ | ⟨rfl, rfl⟩
    · rcases h.bef a b ha hl g hab with g | g <;> omega
    · right; omega
    · omega
theorem addP_ids {L : List S58} {i k : Int} (h : Ids L) (h0 : 0 ≤ i) (hk : i < k) (h1 : k < L.length) : Ids (addP L i k) := by
  intro a ha hl
  rw [addP_len] at hl
  obtain ⟨e0, e1, _⟩ := addP_rd h0 hk h1 a ha
  obtain ⟨g1, g2, g3⟩ := h a ha hl
  rw [e0, e1]
  refine ⟨g1, fun c => ?_, g3⟩
  rw [(addP_rd h0 hk h1 (a - 1) (by omega)).1]
  exact g2 c
theorem hrs_len {L : List S58} {i k : Int} (h : Net L i k) {a : Int} (h0 : 0 ≤ a) (h1 : a < L.length) (hl : L.length ≤ 24) : (hrs L a).length ≤ 24 := by
  -- ascending and in range
  have hA := h.asc a h0 h1
  have : ∀ (d : Nat) (j : Int), 0 ≤ j → j < (hrs L a).length → j.toNat = d → j ≤ rd (hrs L a) j := by
    intro d
    induction d with
    | zero =>
      intro j j0 j1 hd
      have := (h.sym a _ h0 h1 (rd_mem j0 j1)).1
      omega
    | succ d ih =>
      intro j j0 j1 hd
      have := ih (j - 1) (by omega) (by omega) (by omega)
      have := hA j (by omega) j1
      omega
  by_cases c : (hrs L a).length = 0
  · omega
  · have g := this _ ((hrs L a).length - 1) (by omega) (by omega) rfl
    have := (h.sym a _ h0 h1 (rd_mem (l := hrs L a) (i := (hrs L a).length - 1) (by omega) (by omega))).2.1
    omega
/-! ### the draw, byte for byte -/
theorem once_at (c : List Int) (hc : c.length ≤ 1048576) {p : Int} (hp : InRow c p) (s : Int) (j : Nat) (n : Int) (h1 : 1 ≤ n) (h2 : n ≤ 256) : ∃ r : Int, spec_l1Once.f c (adv c j p) (nxn j s) n = some ((r == 0), adv c (j + 1) p, nxn (j + 1) s) ∧ (p = (c.length : Int) → r = by8 (nxn j s) % n) := by
  obtain ⟨r, e, _, _, h⟩ := below_at c hc hp s j n h1 h2
  refine ⟨r, ?_, h⟩
  unfold spec_l1Once.f
  rw [e, Option.bind_some]
theorem nxn_s (j : Nat) (s : Int) : nxn (j + 1) s = nx (nxn j s) := nxn_add j 1 s
/-- The state behind d pairs, where there are 24 radios. -/
def pr (few : Int) : Nat → Int → Int
  | 0, s => s
  | d + 1, s => if by8 s % few = 0 then pr few d (nx s) else pr few d (nx (nx s))
def prs (few : Int) : Nat → Int → Int
  | 0, s => s
  | d + 1, s => prs few d (pr few d s)
def tri : Nat → Nat
  | 0 => 0
  | d + 1 => 2 * d + tri d
theorem l2_at (c : List Int) (hc : c.length ≤ 1048576) {p : Int} (hp : InRow c p) (s : Int) (n : Nat) (hn : n ≤ 24) (few : Int) (f0 : 2 ≤ few) (f1 : few ≤ 4) (i : Int) (hi : 0 ≤ i) (d : Nat) : ∀ (L : List S58) (k : Int) (q : Nat), i < k → k ≤ n → (n : Int) - k = d → L.length = n → Net L i k → Ids L →
    ∃ (L' : List S58) (m : Nat), q ≤ m ∧ m ≤ q + 2 * d ∧ L'.length = n ∧ Net L' i n ∧ Ids L' ∧ (p = (c.length : Int) → n = 24 → nxn m s = pr few d (nxn q s)) ∧ ∀ K, spec_l9DrawRadios.l2 (K + d + 1) (n : Int) L few i k c (adv c q p) (nxn q s) = spec_l9DrawRadios.l1 K (n : Int) L' few (i + 1) c (adv c m p) (nxn m s) := by
  induction d with
  | zero =>
    intro L k q hk hkn hd hL hN hI
    have : k = n := by omega
    subst this
    refine ⟨L, q, by omega, by omega, hL, hN, hI, fun _ _ => rfl, fun K => ?_⟩
    simp only [spec_l9DrawRadios.l2]
    rw [if_neg (by omega), w64 (x := i + 1) (by omega) (by omega)]
  | succ d ih =>
    intro L k q hk hkn hd hL hN hI
    have hlt : k < n := by omega
    obtain ⟨r, e1, r1⟩ := once_at c hc hp s q few (by omega) (by omega)
    obtain ⟨r', e2, r2⟩ := once_at c hc hp s (q + 1) 9 (by omega) (by omega)
    have hli : (hrs L i).length ≤ 24 := hrs_len hN hi (by omega) (by omega)
    have hlk : (hrs L k).length ≤ 24 := hrs_len hN (by omega) (by omega) (by omega)
    have hadd := fun q => ih (addP L i k) (k + 1) q (by omega) (by omega) (by omega) (by rw [addP_len]; exact hL) (addP_net hN hi hk (by omega)) (addP_ids hI hi hk (by omega))
    have hskip := fun q => ih L (k + 1) q (by omega) (by omega) (by omega) hL (net_skip hN (.inr ⟨rfl, by omega⟩)) hI
    have hset : (rd_T58 (L.set i.toNat ⟨(rd_T58 L i).f0, (rd_T58 L i).f1, (rd_T58 L i).f2 ++ [k]⟩) k) = rd_T58 L k := rd58_set_ne hi (by omega) (by omega)
    by_cases c1 : r = 0
    · obtain ⟨L', m, g1, g2, g3, g4, g5, g6, g7⟩ := hadd (q + 1)
      refine ⟨L', m, by omega, by omega, g3, g4, g5, fun hpl hn24 => ?_, fun K => ?_⟩
      · rw [g6 hpl hn24]
        simp only [pr]
        rw [← r1 hpl, if_pos c1, nxn_s]
      · rw [show K + (d + 1) + 1 = (K + d + 1) + 1 from rfl]
        have g7' := g7 K
        obtain ⟨M, hM⟩ : ∃ M, M = K + d + 1 := ⟨_, rfl⟩
        rw [← hM] at g7' ⊢
        simp only [spec_l9DrawRadios.l2]
        rw [if_pos hlt, e1, Option.bind_some]
        dsimp only
        rw [if_pos (by simpa using c1), if_pos hi, if_pos (by omega), if_pos (show (rd_T58 L i).f2.length < _ by unfold hrs at hli; omega), Option.bind_some, if_pos (by omega), if_pos (by omega), if_pos (by rw [hset]; unfold hrs at hlk; omega), w64 (x := k + 1) (by omega) (by omega)]
        exact g7'
    · by_cases c2 : n = 24
      · by_cases c3 : r' = 0
        · obtain ⟨L', m, g1, g2, g3, g4, g5, g6, g7⟩ := hskip (q + 1 + 1)
          refine ⟨L', m, by omega, by omega, g3, g4, g5, fun hpl hn24 => ?_, fun K => ?_⟩
          · rw [g6 hpl hn24]
            simp only [pr]
            rw [← r1 hpl, if_neg c1, nxn_s, nxn_s]
          · rw [show K + (d + 1) + 1 = (K + d + 1) + 1 from rfl]
            have g7' := g7 K
            obtain ⟨M, hM⟩ : ∃ M, M = K + d + 1 := ⟨_, rfl⟩
            rw [← hM] at g7' ⊢
            simp only [spec_l9DrawRadios.l2]
            rw [if_pos hlt, e1, Option.bind_some]
            dsimp only
            rw [if_neg (by simpa using c1), if_pos (by omega), e2, Option.bind_some]
            dsimp only
            rw [if_pos (by simpa using c3), w64 (x := k + 1) (by omega) (by omega)]
            exact g7'
        · obtain ⟨L', m, g1, g2, g3, g4, g5, g6, g7⟩ := hadd (q + 1 + 1)
          refine ⟨L', m, by omega, by omega, g3, g4, g5, fun hpl hn24 => ?_, fun K => ?_⟩
          · rw [g6 hpl hn24]
            simp only [pr]
            rw [← r1 hpl, if_neg c1, nxn_s, nxn_s]
          · rw [show K + (d + 1) + 1 = (K + d + 1) + 1 from rfl]
            have g7' := g7 K
            obtain ⟨M, hM⟩ : ∃ M, M = K + d + 1 := ⟨_, rfl⟩
            rw [← hM] at g7' ⊢
            simp only [spec_l9DrawRadios.l2]
            rw [if_pos hlt, e1, Option.bind_some]
            dsimp only
            rw [if_neg (by simpa using c1), if_pos (by omega), e2, Option.bind_some]
            dsimp only
            rw [if_neg (by simpa using c3), if_pos hi, if_pos (by omega), if_pos (show (rd_T58 L i).f2.length < _ by unfold hrs at hli; omega), Option.bind_some, if_pos (by omega), if_pos (by omega), if_pos (by rw [hset]; unfold hrs at hlk; omega), w64 (x := k + 1) (by omega) (by omega)]
            exact g7'
      · obtain ⟨L', m, g1, g2, g3, g4, g5, g6, g7⟩ := hskip (q + 1)
        refine ⟨L', m, by omega, by omega, g3, g4, g5, fun hpl hn24 => absurd hn24 c2, fun K => ?_⟩
        rw [show K + (d + 1) + 1 = (K + d + 1) + 1 from rfl]
        have g7' := g7 K
        obtain ⟨M, hM⟩ : ∃ M, M = K + d + 1 := ⟨_, rfl⟩
        rw [← hM] at g7' ⊢
        simp only [spec_l9DrawRadios.l2]
        rw [if_pos hlt, e1, Option.bind_some]
        dsimp only
        rw [if_neg (by simpa using c1), if_neg (by omega), w64 (x := k + 1) (by omega) (by omega)]
        exact g7'
theorem l1_at (c : List Int) (hc : c.length ≤ 1048576) {p : Int} (hp : InRow c p) (s : Int) (n : Nat) (hn : n ≤ 24) (few : Int) (f0 : 2 ≤ few) (f1 : few ≤ 4) (d : Nat) : ∀ (L : List S58) (i : Int) (q : Nat), 0 ≤ i → i ≤ n → (n : Int) - i = d → L.length = n → Net L i (i + 1) → Ids L →
    ∃ (L' : List S58) (m : Nat), q ≤ m ∧ m ≤ q + tri d ∧ L'.length = n ∧ Net L' n n ∧ Ids L' ∧ (p = (c.length : Int) → n = 24 → nxn m s = prs few d (nxn q s)) ∧ ∀ K, 30 * d < K → spec_l9DrawRadios.l1 K (n : Int) L few i c (adv c q p) (nxn q s) = some (L', adv c m p, nxn m s) := by
  induction d with
  | zero =>
    intro L i q hi hin hd hL hN hI
    refine ⟨L, q, by omega, by omega, hL, ?_, hI, fun _ _ => rfl, fun K hK => ?_⟩
    · have : i = n := by omega
      subst this
      exact ⟨hN.asc, hN.sym, fun a b h0 h1 hb hab => by left; omega⟩
    · obtain ⟨K, rfl⟩ := pos_round (show 0 < K by omega)
      simp only [spec_l9DrawRadios.l1]
      rw [if_neg (by omega)]
  | succ d ih =>
    intro L i q hi hin hd hL hN hI
    obtain ⟨L1, m1, g1, g2, g3, g4, g5, g6, g7⟩ := l2_at c hc hp s n hn few f0 f1 i hi d L (i + 1) q (by omega) (by omega) (by omega) hL hN hI
    obtain ⟨L2, m2, h1, h2, h3, h4, h5, h6, h7⟩ := ih L1 (i + 1) m1 (by omega) (by omega) (by omega) g3 (net_skip g4 (.inl (by omega))) g5
    refine ⟨L2, m2, by omega, by simp only [tri]; omega, h3, h4, h5, fun hpl hn24 => ?_, fun K hK => ?_⟩
    · rw [h6 hpl hn24, g6 hpl hn24]; rfl
    · obtain ⟨K, rfl⟩ : ∃ M, K = M + d + 1 + 1 := ⟨K - d - 2, by omega⟩
      have g7' := g7 K
      obtain ⟨M, hM⟩ : ∃ M, M = K + d + 1 := ⟨_, rfl⟩
      rw [← hM] at g7' ⊢
      simp only [spec_l9DrawRadios.l1]
      rw [if_pos (by omega), w64 (x := i + 1) (by omega) (by omega), g7']
      exact h7 K (by omega)
theorem l0_at (c : List Int) (hc : c.length ≤ 1048576) {p : Int} (hp : InRow c p) (s : Int) (n : Nat) (hn : n ≤ 24) (sl : Int) (s0 : 1 ≤ sl) (s1 : sl ≤ 8) (d : Nat) : ∀ (L : List S58) (a i : Int) (q : Nat), 0 ≤ i → i ≤ n → (n : Int) - i = d → (L.length : Int) = i → Ids L → (∀ j : Int, 0 ≤ j → j < L.length → hrs L j = []) → 0 ≤ a → a ≤ 50 * i → (0 < i → (rd_T58 L (i - 1)).f0 = a) →
    ∃ L' : List S58, L'.length = n ∧ Ids L' ∧ (∀ j : Int, 0 ≤ j → j < L'.length → hrs L' j = []) ∧ ∃ few, 2 ≤ few ∧ few ≤ 4 ∧ (p = (c.length : Int) → few = 2 + by8 (nxn (q + 2 * d) s) % 3) ∧ ∀ K, spec_l9DrawRadios.l0 (K + d + 1) (n : Int) L a sl i c (adv c q p) (nxn q s) = spec_l9DrawRadios.l1 K (n : Int) L' few 0 c (adv c (q + 2 * d + 1) p) (nxn (q + 2 * d + 1) s) := by
  induction d with
  | zero =>
    intro L a i q hi hin hd hL hI hh ha ha2 hlast
    obtain ⟨r, e1, r0, r1, r2⟩ := below_at c hc hp s q 3 (by omega) (by omega)
    refine ⟨L, by omega, hI, hh, 2 + r, by omega, by omega, fun h => by rw [r2 h]; rfl, fun K => ?_⟩
    simp only [spec_l9DrawRadios.l0]
    rw [if_neg (by omega), e1, Option.bind_some]
    dsimp only
    rw [w64 (x := 2 + r) (by omega) (by omega)]
  | succ d ih =>
    intro L a i q hi hin hd hL hI hh ha ha2 hlast
    obtain ⟨r, e1, r0, r1, _⟩ := below_at c hc hp s q 50 (by omega) (by omega)
    obtain ⟨t, e2, t0, t1, _⟩ := below_at c hc hp s (q + 1) sl (by omega) (by omega)
    have hlen : ((L ++ [(⟨a + 1 + r, t, []⟩ : S58)]).length : Int) = i + 1 := by simp; omega
    have hrdl : ∀ j : Int, 0 ≤ j → j < i → rd_T58 (L ++ [(⟨a + 1 + r, t, []⟩ : S58)]) j = rd_T58 L j := fun j j0 j1 => rd58_append_left j0 (by omega)
    have hrdn : rd_T58 (L ++ [(⟨a + 1 + r, t, []⟩ : S58)]) i = ⟨a + 1 + r, t, []⟩ := by rw [← hL]; exact rd58_last
    obtain ⟨L', g1, g2, g3, few, g4, g5, g6, g7⟩ := ih (L ++ [(⟨a + 1 + r, t, []⟩ : S58)]) (a + 1 + r) (i + 1) (q + 1 + 1) (by omega) (by omega) (by omega) hlen
      (fun j j0 j1 => by
        by_cases cj : j = i
        · rw [cj, hrdn]
          refine ⟨by dsimp only; omega, fun hj => ?_, by dsimp only; omega⟩
          rw [hrdl (i - 1) (by omega) (by omega), hlast hj]
          dsimp only; omega
        · have hji : j < i := by omega
          rw [hrdl j j0 hji]
          obtain ⟨x1, x2, x3⟩ := hI j j0 (by omega)
          exact ⟨x1, fun h => by rw [hrdl (j - 1) (by omega) (by omega)]; exact x2 h, x3⟩)
      (fun j j0 j1 => by
        unfold hrs
        by_cases cj : j = i
        · rw [cj, hrdn]
        · rw [hrdl j j0 (by omega)]; exact hh j j0 (by omega)) (by omega) (by omega)
      (fun _ => by rw [show i + 1 - 1 = i by omega, hrdn])
    refine ⟨L', g1, g2, g3, few, g4, g5, fun h => by rw [g6 h, show q + 1 + 1 + 2 * d = q + 2 * (d + 1) by omega], fun K => ?_⟩
    have g7' := g7 K
    rw [show q + 1 + 1 + 2 * d + 1 = q + 2 * (d + 1) + 1 by omega] at g7'
    rw [show K + (d + 1) + 1 = (K + d + 1) + 1 from rfl]
    obtain ⟨M, hM⟩ : ∃ M, M = K + d + 1 := ⟨_, rfl⟩
    rw [← hM] at g7' ⊢
    simp only [spec_l9DrawRadios.l0]
    rw [if_pos (by omega), e1, Option.bind_some]
    dsimp only
    rw [e2, Option.bind_some, if_pos (by omega)]
    dsimp only
    rw [w64 (x := a + 1) (by omega) (by omega), w64 (x := a + 1 + r) (by omega) (by omega), w64 (x := i + 1) (by omega) (by omega)]
    exact g7'
/-- Whether from s on fewer than 24 are drawn, where the bytes are used up; and else the state behind. -/
def few9 (s : Int) : Bool := decide (by8 (nx s) % 20 ≠ 0)
def jump (s : Int) : Int := prs (2 + by8 (nxn 51 s) % 3) 24 (nxn 52 s)
theorem radios_at (c : List Int) (hc : c.length ≤ 1048576) {p : Int} (hp : InRow c p) (s : Int) :
    ∃ (L : List S58) (m : Nat), 1 ≤ m ∧ m ≤ 604 ∧ 1 ≤ L.length ∧ (L.length = 24 ∨ L.length ≤ 9) ∧ Net L L.length L.length ∧ Ids L ∧ (p = (c.length : Int) → few9 s = true → L.length ≤ 9) ∧ (p = (c.length : Int) → few9 s = false → nxn m s = jump s) ∧ ∀ K, 1000 < K → spec_l9DrawRadios.f K c p s = some (L, adv c m p, nxn m s) := by
  obtain ⟨r, e1, r0, r1, _⟩ := below_at c hc hp s 0 9 (by omega) (by omega)
  obtain ⟨u, e2, u2⟩ := once_at c hc hp s 1 20 (by omega) (by omega)
  obtain ⟨v, e3, v0, v1, _⟩ := below_at c hc hp s 2 8 (by omega) (by omega)
  have key : ∀ n : Nat, 1 ≤ n → n ≤ 24 → ∃ (L : List S58) (m : Nat), 1 ≤ m ∧ m ≤ 604 ∧ L.length = n ∧ Net L n n ∧ Ids L ∧ (p = (c.length : Int) → n = 24 → nxn m s = jump s) ∧ ∀ K, 900 < K → spec_l9DrawRadios.j0 K (n : Int) c (adv c 2 p) (nxn 2 s) = some (L, adv c m p, nxn m s) := by
    intro n n0 n1
    obtain ⟨L', g1, g2, g3, few, g4, g5, g6, g7⟩ := l0_at c hc hp s n n1 (1 + v) (by omega) (by omega) n [] 0 0 3 (by omega) (by omega) (by omega) rfl (fun j j0 j1 => by simp at j1; omega) (fun j j0 j1 => by simp at j1; omega) (by omega) (by omega) (by omega)
    have hN : Net L' 0 (0 + 1) := ⟨fun a a0 a1 => by rw [g3 a a0 a1]; intro j j0 j1; simp at j1; omega, fun a b a0 a1 hb => by rw [g3 a a0 a1] at hb; simp at hb, fun a b a0 a1 hb => by rw [g3 a a0 a1] at hb; simp at hb⟩
    obtain ⟨L2, m2, h1, h2, h3, h4, h5, h6, h7⟩ := l1_at c hc hp s n n1 few g4 g5 n L' 0 (3 + 2 * n + 1) (by omega) (by omega) (by omega) g1 hN g2
    have htri : tri n ≤ 552 := by
      have : ∀ a : Nat, a ≤ 24 → tri a ≤ 552 := by decide
      exact this n n1
    refine ⟨L2, m2, by omega, by omega, h3, h4, h5, fun hpl hn24 => ?_, fun K hK => ?_⟩
    · rw [h6 hpl hn24, g6 hpl, hn24]; rfl
    · obtain ⟨K, rfl⟩ : ∃ M, K = M + n + 1 + 1 := ⟨K - n - 2, by omega⟩
      have g7' := g7 K
      obtain ⟨M, hM⟩ : ∃ M, M = K + n + 1 := ⟨_, rfl⟩
      rw [← hM] at g7' ⊢
      simp only [spec_l9DrawRadios.j0]
      rw [e3, Option.bind_some]
      dsimp only
      rw [w64 (x := 1 + v) (by omega) (by omega), g7']
      exact h7 K (by omega)
  by_cases c1 : u = 0
  · obtain ⟨L, m, h1, h2, h3, h4, h5, h6, h7⟩ := key 24 (by omega) (by omega)
    refine ⟨L, m, h1, h2, by omega, .inl h3, by rw [h3]; exact h4, h5, fun hpl hf => ?_, fun hpl _ => h6 hpl rfl, fun K hK => ?_⟩
    · have := u2 hpl
      unfold few9 at hf
      exact absurd (this ▸ c1) (of_decide_eq_true hf)
    · unfold spec_l9DrawRadios.f
      rw [show spec_l1Below.f c p s 9 = spec_l1Below.f c (adv c 0 p) (nxn 0 s) 9 from rfl, e1, Option.bind_some]
      dsimp only
      rw [show (0 + 1 : Nat) = 1 from rfl, e2, Option.bind_some]
      dsimp only
      rw [if_pos (by simpa using c1)]
      exact h7 K (by omega)
  · obtain ⟨L, m, h1, h2, h3, h4, h5, h6, h7⟩ := key (1 + r).toNat (by omega) (by omega)
    refine ⟨L, m, h1, h2, by omega, .inr (by omega), by rw [h3]; exact h4, h5, fun hpl hf => by omega, fun hpl hf => ?_, fun K hK => ?_⟩
    · have := u2 hpl
      unfold few9 at hf
      exact absurd (this ▸ (Decidable.not_not.1 (of_decide_eq_false hf))) c1
    · have h7' := h7 K (by omega)
      rw [show (((1 + r).toNat : Nat) : Int) = 1 + r by omega] at h7'
      unfold spec_l9DrawRadios.f
      rw [show spec_l1Below.f c p s 9 = spec_l1Below.f c (adv c 0 p) (nxn 0 s) 9 from rfl, e1, Option.bind_some]
      dsimp only
      rw [show (0 + 1 : Nat) = 1 from rfl, e2, Option.bind_some]
      dsimp only
      rw [if_neg (by simpa using c1), w64 (x := 1 + r) (by omega) (by omega)]
      exact h7'
/-! ### a list of fewer than 24 comes in the end -/
def okS (s : Int) : Bool := few9 s || few9 (jump s)
def okRun : Nat → Int → Bool
  | 0, _ => true
  | n + 1, s => okS s && okRun n (nx s)
theorem okRun_at (n : Nat) : ∀ s, okRun n s = true → ∀ j, j < n → okS (nxn j s) = true := by
  induction n with
  | zero => intro s _ j h; omega
  | succ n ih =>
    intro s h j hj
    simp only [okRun, Bool.and_eq_true] at h
    cases j with
    | zero => exact h.1
    | succ j => exact ih (nx s) h.2 j (by omega)
theorem ok_run : okRun 606 159 = true := by decide +kernel
theorem coins_loop (c : List Int) (hc : c.length ≤ 1048576) (n : Nat) (hn : n ≤ 9) (d : Nat) : ∀ (o : List Int) (i p s : Int), InRow c p → 0 ≤ i → i ≤ n → (n : Int) - i = d → (o.length : Int) = i → (∀ x ∈ o, 0 ≤ x ∧ x < 1000) →
    ∃ (r : List Int) (p' s' : Int), r.length = n ∧ (∀ x ∈ r, 0 ≤ x ∧ x < 1000) ∧ ∀ k, spec_l9DrawCoins.l0 (k + d + 1) (n : Int) o i c p s = some (r, p', s') := by
  induction d with
  | zero =>
    intro o i p s hp h0 h1 hd ho hx
    refine ⟨o, p, s, by omega, hx, fun k => ?_⟩
    simp only [spec_l9DrawCoins.l0]
    rw [if_neg (by omega)]
  | succ d ih =>
    intro o i p s hp h0 h1 hd ho hx
    obtain ⟨r, p1, s1, e, r0, r1, _, hp1⟩ := below_ok c hc hp s 1000
    have := r1 (by omega)
    obtain ⟨q, p', s', g1, g2, g3⟩ := ih (o ++ [r]) (i + 1) p1 s1 hp1 (by omega) (by omega) (by omega) (by simp; omega) (fun x h => by
      rcases List.mem_append.1 h with h | h
      · exact hx x h
      · rw [List.mem_singleton] at h; rw [h]; omega)
    refine ⟨q, p', s', g1, g2, fun k => ?_⟩
    have g3' := g3 k
    rw [show k + (d + 1) + 1 = (k + d + 1) + 1 from rfl]
    obtain ⟨M, hM⟩ : ∃ M, M = k + d + 1 := ⟨_, rfl⟩
    rw [← hM] at g3' ⊢
    simp only [spec_l9DrawCoins.l0]
    rw [if_pos (by omega), e, Option.bind_some, if_pos (by omega)]
    dsimp only
    rw [w64 (x := i + 1) (by omega) (by omega)]
    exact g3'
/-- A list as it is drawn. -/
structure Lst (L : List S58) : Prop where
  pos : 1 ≤ L.length
  few : L.length ≤ 9
  net : Net L L.length L.length
  ids : Ids L
def Ends (c : List Int) (L : List S58) (p s : Int) : Prop :=
  ∃ (K : Nat) (L' : List S58) (coins : List Int), Lst L' ∧ coins.length = L'.length ∧ (∀ x ∈ coins, 0 ≤ x ∧ x < 1000) ∧ ∀ k, K < k → spec_DrawQuiet.l0 k L c p s = some (L', coins)
theorem ends_now (c : List Int) (hc : c.length ≤ 1048576) {L : List S58} {p s : Int} (hp : InRow c p) (hL : Lst L) : Ends c L p s := by
  have hf := hL.few
  obtain ⟨r, p', s', g1, g2, g3⟩ := coins_loop c hc L.length hf L.length [] 0 p s hp (by omega) (by omega) (by omega) rfl (fun x h => by simp at h)
  refine ⟨L.length + 10, L, r, hL, g1, g2, fun k hk => ?_⟩
  obtain ⟨k, rfl⟩ := pos_round (show 0 < k by omega)
  have g := g3 (k - L.length - 1)
  rw [show k - L.length - 1 + L.length + 1 = k by omega] at g
  simp only [spec_DrawQuiet.l0]
  rw [if_neg (by omega)]
  unfold spec_l9DrawCoins.f
  rw [g, Option.bind_some]
theorem ends_next (c : List Int) {L L' : List S58} {p s p' s' : Int} (hL : L.length = 24) (hd : ∀ k, 1000 < k → spec_l9DrawRadios.f k c p s = some (L', p', s')) (h : Ends c L' p' s') : Ends c L p s := by
  obtain ⟨K, L2, cs, h1, h2, h3, h4⟩ := h
  refine ⟨K + 2000, L2, cs, h1, h2, h3, fun k hk => ?_⟩
  obtain ⟨k, rfl⟩ := pos_round (show 0 < k by omega)
  simp only [spec_DrawQuiet.l0]
  rw [if_pos (by omega), hd k (by omega), Option.bind_some]
  exact h4 k (by omega)
def Lst24 (L : List S58) : Prop := Lst L ∨ L.length = 24
theorem lst24 {L : List S58} (h1 : 1 ≤ L.length) (h2 : L.length = 24 ∨ L.length ≤ 9) (h3 : Net L L.length L.length) (h4 : Ids L) : Lst24 L :=
  h2.elim .inr fun h => .inl ⟨h1, h, h3, h4⟩
theorem stretch (c : List Int) (hc : c.length ≤ 1048576) (j : Nat) (hj : j < 606) (L : List S58) (hL : Lst24 L) : Ends c L (c.length : Int) (nxn j 159) := by
  have hp : InRow c (c.length : Int) := ⟨by omega, by omega⟩
  rcases hL with hL | hL
  · exact ends_now c hc hp hL
  · have hok := okRun_at 606 159 ok_run j hj
    obtain ⟨L1, m, m1, m2, a1, a2, a3, a4, a5, a6, a7⟩ := radios_at c hc hp (nxn j 159)
    refine ends_next c hL a7 ?_
    rw [adv_len]
    by_cases hf : few9 (nxn j 159) = true
    · exact ends_now c hc hp ⟨a1, a5 rfl hf, a3, a4⟩
    · have hf' : few9 (nxn j 159) = false := by simpa using hf
      unfold okS at hok
      rw [hf', Bool.false_or] at hok
      rw [a6 rfl hf']
      rcases a2 with h24 | h9
      · obtain ⟨L2, m', m1', m2', b1, b2, b3, b4, b5, b6, b7⟩ := radios_at c hc hp (jump (nxn j 159))
        refine ends_next c h24 b7 ?_
        rw [adv_len]
        exact ends_now c hc hp ⟨b1, b5 rfl hok, b3, b4⟩
      · exact ends_now c hc hp ⟨a1, h9, a3, a4⟩
/-- Where the bytes are used up. -/
theorem ends_used (c : List Int) (hc : c.length ≤ 1048576) (n : Nat) : ∀ (s : Int) (L : List S58), Lst24 L → nxn n s = 159 → Ends c L (c.length : Int) s := by
  have hp : InRow c (c.length : Int) := ⟨by omega, by omega⟩
  induction n using Nat.strongRecOn with
  | _ n ih =>
    intro s L hL hs
    rcases hL with hL | hL
    · exact ends_now c hc hp hL
    · obtain ⟨L1, m, m1, m2, a1, a2, a3, a4, a5, a6, a7⟩ := radios_at c hc hp s
      refine ends_next c hL a7 ?_
      rw [adv_len]
      by_cases hnm : m ≤ n
      · refine ih (n - m) (by omega) _ _ (lst24 a1 a2 a3 a4) ?_
        rw [show n = m + (n - m) by omega, nxn_add] at hs
        exact hs
      · rw [show m = n + (m - n) by omega, nxn_add, hs]
        exact stretch c hc (m - n) (by omega) _ (lst24 a1 a2 a3 a4)
theorem ends_all (c : List Int) (hc : c.length ≤ 1048576) (n : Nat) : ∀ (p s : Int) (L : List S58), Lst24 L → InRow c p → (c.length : Int) - p ≤ n → Ends c L p s := by
  induction n with
  | zero =>
    intro p s L hL hp hd
    have : p = (c.length : Int) := by unfold InRow at hp; omega
    subst this
    rcases hL with hL | hL
    · exact ends_now c hc hp hL
    · obtain ⟨L1, m, m1, m2, a1, a2, a3, a4, a5, a6, a7⟩ := radios_at c hc hp s
      refine ends_next c hL a7 ?_
      rw [adv_len]
      obtain ⟨m, rfl⟩ : ∃ j, m = j + 1 := ⟨m - 1, by omega⟩
      obtain ⟨n, hn⟩ := nx_reach (nxn m s) 159 (by unfold In64; omega)
      rw [← nxn_s] at hn
      exact ends_used c hc n _ _ (lst24 a1 a2 a3 a4) hn
  | succ n ih =>
    intro p s L hL hp hd
    rcases hL with hL | hL
    · exact ends_now c hc hp hL
    · obtain ⟨L1, m, m1, m2, a1, a2, a3, a4, a5, a6, a7⟩ := radios_at c hc hp s
      refine ends_next c hL a7 (ih _ _ _ (lst24 a1 a2 a3 a4) (adv_in c m p hp) ?_)
      by_cases hlt : p < (c.length : Int)
      · obtain ⟨m, rfl⟩ : ∃ j, m = j + 1 := ⟨m - 1, by omega⟩
        have := adv_lt c m p hlt
        omega
      · have := adv_le c m p
        omega
theorem drawn (c : List Int) (hc : c.length ≤ 1048576) : ∃ (K : Nat) (L : List S58) (coins : List Int), Lst L ∧ coins.length = L.length ∧ (∀ x ∈ coins, 0 ≤ x ∧ x < 1000) ∧ ∀ k, K < k → spec_DrawQuiet.f k c = some (L, coins) := by
  obtain ⟨r, hr⟩ := new_ok c hc
  have hp : InRow c 0 := ⟨by omega, by omega⟩
  obtain ⟨L1, m, m1, m2, a1, a2, a3, a4, a5, a6, a7⟩ := radios_at c hc hp r
  obtain ⟨K, L, cs, h1, h2, h3, h4⟩ := ends_all c hc c.length (adv c m 0) (nxn m r) L1 (lst24 a1 a2 a3 a4) (adv_in c m 0 hp) (by have := adv_le c m 0; omega)
  refine ⟨K + 5000, L, cs, h1, h2, h3, fun k hk => ?_⟩
  unfold spec_DrawQuiet.f
  rw [hr k (by omega), Option.bind_some]
  dsimp only
  rw [a7 k (by omega), Option.bind_some]
  exact h4 k (by omega)
/-! ### radios that are right -/
def slot (L : List S58) (i : Int) : Int := (rd_T58 L i).f1
structure Rk (L : List S58) : Prop where
  pos : 1 ≤ L.length
  few : L.length ≤ 9
  id : ∀ i : Int, 0 ≤ i → i < L.length → (1 ≤ (rd_T58 L i).f0 ∧ (rd_T58 L i).f0 ≤ 999999999) ∧ (0 < i → (rd_T58 L (i - 1)).f0 < (rd_T58 L i).f0)
  slots : ∀ i : Int, 0 ≤ i → i < L.length → 0 ≤ slot L i ∧ slot L i ≤ 19
  asc : ∀ a : Int, 0 ≤ a → a < L.length → Asc (hrs L a)
  sym : ∀ a b : Int, 0 ≤ a → a < L.length → b ∈ hrs L a → 0 ≤ b ∧ b < L.length ∧ b ≠ a ∧ a ∈ hrs L b
theorem rk_of {L : List S58} (h : Lst L) : Rk L := by
  have hf := h.few
  refine ⟨h.pos, h.few, fun i h0 h1 => ?_, fun i h0 h1 => (h.ids i h0 h1).2.2, h.net.asc, h.net.sym⟩
  obtain ⟨g1, g2, g3⟩ := h.ids i h0 h1
  exact ⟨by omega, g2⟩
theorem rk_len {L : List S58} (h : Rk L) {a : Int} (h0 : 0 ≤ a) (h1 : a < L.length) : (hrs L a).length ≤ 24 :=
  hrs_len (i := L.length) (k := L.length) ⟨h.asc, h.sym, fun x y x0 x1 _ _ => .inl x1⟩ h0 h1 (by have := h.few; omega)
theorem rk_len9 {L : List S58} (h : Rk L) {a : Int} (h0 : 0 ≤ a) (h1 : a < L.length) : (hrs L a).length ≤ 9 := by
  have hA := h.asc a h0 h1
  have hf := h.few
  have : ∀ (d : Nat) (j : Int), 0 ≤ j → j < (hrs L a).length → j.toNat = d → j ≤ rd (hrs L a) j := by
    intro d
    induction d with
    | zero =>
      intro j j0 j1 hd
      have := (h.sym a _ h0 h1 (rd_mem j0 j1)).1
      omega
    | succ d ih =>
      intro j j0 j1 hd
      have := ih (j - 1) (by omega) (by omega) (by omega)
      have := hA j (by omega) j1
      omega
  by_cases c : (hrs L a).length = 0
  · omega
  · have g := this _ ((hrs L a).length - 1) (by omega) (by omega) rfl
    have := (h.sym a _ h0 h1 (rd_mem (l := hrs L a) (i := (hrs L a).length - 1) (by omega) (by omega))).2.1
    omega
theorem idx_loop (l : List Int) (x : Int) (hl : l.length ≤ 1000) (d : Nat) : ∀ i : Int, 0 ≤ i → i ≤ l.length → (l.length : Int) - i = d → ∃ r, (∀ k, slices_Index_int_int.l0 (k + d + 1) l x (l.length : Int) i = some r) ∧ (x ∈ l.drop i.toNat → r ≥ 0) := by
  induction d with
  | zero =>
    intro i h0 h1 hd
    refine ⟨-1, fun k => ?_, fun h => ?_⟩
    · simp only [slices_Index_int_int.l0]
      rw [if_neg (by omega)]
    · rw [List.drop_of_length_le (by omega)] at h; simp at h
  | succ d ih =>
    intro i h0 h1 hd
    have hi : i < (l.length : Int) := by omega
    obtain ⟨r, e, hr⟩ := ih (i + 1) (by omega) (by omega) (by omega)
    by_cases c : x = rd l i
    · refine ⟨i, fun k => ?_, fun _ => h0⟩
      rw [show k + (d + 1) + 1 = (k + d + 1) + 1 from rfl]
      obtain ⟨M, hM⟩ : ∃ M, M = k + d + 1 := ⟨_, rfl⟩
      rw [← hM]
      simp only [slices_Index_int_int.l0]
      rw [if_pos hi, if_pos h0, if_pos hi, if_pos c]
    · refine ⟨r, fun k => ?_, fun h => ?_⟩
      · have e' := e k
        rw [show k + (d + 1) + 1 = (k + d + 1) + 1 from rfl]
        obtain ⟨M, hM⟩ : ∃ M, M = k + d + 1 := ⟨_, rfl⟩
        rw [← hM] at e' ⊢
        simp only [slices_Index_int_int.l0]
        rw [if_pos hi, if_pos h0, if_pos hi, if_neg c, w64 (x := i + 1) (by omega) (by omega)]
        exact e'
      · rw [drop_rd h0 hi] at h
        exact hr ((List.mem_cons.1 h).resolve_left c)
theorem contains_ok (l : List Int) (x : Int) (hl : l.length ≤ 1000) (hx : x ∈ l) (k : Nat) (hk : l.length < k) : slices_Contains_int_int.f k l x = some true := by
  obtain ⟨r, e, hr⟩ := idx_loop l x hl l.length 0 (by omega) (by omega) (by omega)
  have e' := e (k - l.length - 1)
  rw [show k - l.length - 1 + l.length + 1 = k by omega] at e'
  unfold slices_Contains_int_int.f slices_Index_int_int.f
  rw [e', Option.bind_some, decide_eq_true (hr (by simpa using hx))]
theorem in_ok (a b c : Int) : impl_in.f a b c = some (decide (b ≤ a ∧ a ≤ c)) := in_some a b c
theorem rok_inner (L : List S58) (h : Rk L) (i : Int) (h0 : 0 ≤ i) (h1 : i < L.length) (u v : Int) (d : Nat) : ∀ j : Int, 0 ≤ j → j ≤ (hrs L i).length → ((hrs L i).length : Int) - j = d →
    ∀ K, 30 < K → impl_RadiosOk.l1 (K + d + 1) L i L (L.length : Int) i (hrs L i) ((hrs L i).length : Int) j u v (hrs L i) = impl_RadiosOk.l0 K L L (L.length : Int) (i + 1) := by
  have hf := h.few
  have hl9 := rk_len9 h h0 h1
  induction d with
  | zero =>
    intro j j0 j1 hd K hK
    simp only [impl_RadiosOk.l1]
    rw [if_neg (by omega), w64 (x := i + 1) (by omega) (by omega)]
  | succ d ih =>
    intro j j0 j1 hd K hK
    have hj : j < ((hrs L i).length : Int) := by omega
    obtain ⟨s1, s2, s3, s4⟩ := h.sym i _ h0 h1 (rd_mem j0 hj)
    have e := ih (j + 1) (by omega) (by omega) (by omega) K hK
    have hc := fun k hk => contains_ok (hrs L (rd (hrs L i) j)) i (by have := rk_len9 h s1 s2; omega) s4 k hk
    have hl9' := rk_len9 h s1 s2
    rw [show K + (d + 1) + 1 = (K + d + 1) + 1 from rfl]
    obtain ⟨M, hM⟩ : ∃ M, M = K + d + 1 := ⟨_, rfl⟩
    have hM2 : 30 < M := by omega
    rw [← hM] at e ⊢
    have hc' : slices_Contains_int_int.f M (rd_T58 L (rd (hrs L i) j)).f2 i = some true := hc M (by omega)
    simp only [impl_RadiosOk.l1]
    rw [if_pos hj, if_pos j0, if_pos hj, in_ok, w64 (x := (L.length : Int) - 1) (by omega) (by omega), decide_eq_true (by omega), Option.bind_some, if_pos rfl, if_neg s3, w64 (x := j + 1) (by omega) (by omega)]
    by_cases c : j > 0
    · have hA := h.asc i h0 h1 j (by omega) hj
      rw [if_pos c, w64 (x := j - 1) (by omega) (by omega), if_pos (by omega), if_pos (by omega), if_neg (by omega), if_pos s1, if_pos s2, hc', Option.bind_some, if_pos rfl]
      exact e
    · rw [if_neg c, if_pos s1, if_pos s2, hc', Option.bind_some, if_pos rfl]
      exact e
theorem rok_loop (L : List S58) (h : Rk L) (d : Nat) : ∀ i : Int, 0 ≤ i → i ≤ L.length → (L.length : Int) - i = d → ∀ K, 30 * d + 50 < K → impl_RadiosOk.l0 K L L (L.length : Int) i = some true := by
  have hf := h.few
  induction d with
  | zero =>
    intro i h0 h1 hd K hK
    obtain ⟨K, rfl⟩ := pos_round (show 0 < K by omega)
    simp only [impl_RadiosOk.l0]
    rw [if_neg (by omega)]
  | succ d ih =>
    intro i h0 h1 hd K hK
    have hi : i < (L.length : Int) := by omega
    obtain ⟨g1, g2⟩ := h.id i h0 hi
    have g3 := h.slots i h0 hi
    have hl9 := rk_len9 h h0 hi
    have e := rok_inner L h i h0 hi (rd_T58 L i).f0 (rd_T58 L i).f1 (hrs L i).length 0 (by omega) (by omega) (by omega) (K - (hrs L i).length - 3) (by omega)
    rw [ih (i + 1) (by omega) (by omega) (by omega) _ (by omega)] at e
    obtain ⟨K, rfl⟩ : ∃ M, K = M + 2 := ⟨K - 2, by omega⟩
    rw [show K + 2 - (hrs L i).length - 3 + (hrs L i).length + 1 = K by omega] at e
    have e' : impl_RadiosOk.j1 (K + 1) L i L (L.length : Int) i false (rd_T58 L i).f0 (rd_T58 L i).f1 (rd_T58 L i).f2 = some true := by
      simp only [impl_RadiosOk.j1]
      rw [if_neg (by simp)]
      exact e
    have hslot : impl_slotOk.f (rd_T58 L i).f1 = some true := by
      unfold impl_slotOk.f
      rw [in_ok, Option.bind_some, decide_eq_true]
      unfold slot at g3; exact g3
    rw [show K + 2 = (K + 1) + 1 from rfl]
    obtain ⟨M, hM⟩ : ∃ M, M = K + 1 := ⟨_, rfl⟩
    rw [← hM] at e' ⊢
    simp only [impl_RadiosOk.l0]
    unfold impl_idOk.f
    rw [if_pos hi, if_pos h0, if_pos hi, in_ok, Option.bind_some, decide_eq_true (by omega), Option.bind_some, if_pos rfl]
    by_cases c : i > 0
    · rw [if_pos c, w64 (x := i - 1) (by omega) (by omega), if_pos (by omega), if_pos (by omega), if_neg (by have := g2 c; omega), hslot, Option.bind_some]
      exact e'
    · rw [if_neg c, hslot, Option.bind_some]
      exact e'
theorem rok_ok (L : List S58) (h : Rk L) (K : Nat) (hK : 400 < K) : impl_RadiosOk.f K L = some true := by
  have hf := h.few
  have hp := h.pos
  unfold impl_RadiosOk.f
  rw [in_ok, decide_eq_true (by omega), Option.bind_some, if_pos rfl]
  exact rok_loop L h L.length 0 (by omega) (by omega) (by omega) K (by omega)
/-! ### who clashes -/
def tk (L : List S58) (H : List Int) (v : Int) : Bool := H.any fun h => slot L h == v
def InL (L : List S58) (H : List Int) : Prop := ∀ h ∈ H, 0 ≤ h ∧ h < L.length
theorem tk_iff {L : List S58} {H : List Int} {v : Int} : tk L H v = true ↔ ∃ h ∈ H, slot L h = v := by
  simp [tk]
theorem idxC (L : List S58) (R : S58) (H : List Int) (hH : InL L H) (hl : H.length ≤ 1000) (d : Nat) : ∀ i : Int, 0 ≤ i → i ≤ H.length → (H.length : Int) - i = d → ∃ r, (∀ k, slices_IndexFunc_int_int_at_impl_Clashes_1.l0 (k + d + 1) H (H.length : Int) i [L] [R] = some r) ∧ decide (r ≥ 0) = tk L (H.drop i.toNat) R.f1 := by
  induction d with
  | zero =>
    intro i h0 h1 hd
    refine ⟨-1, fun k => ?_, ?_⟩
    · simp only [slices_IndexFunc_int_int_at_impl_Clashes_1.l0]
      rw [if_neg (by omega)]
    · rw [List.drop_of_length_le (by omega)]; rfl
  | succ d ih =>
    intro i h0 h1 hd
    have hi : i < (H.length : Int) := by omega
    obtain ⟨r, e, hr⟩ := ih (i + 1) (by omega) (by omega) (by omega)
    obtain ⟨b0, b1⟩ := hH _ (rd_mem h0 hi)
    have hc : impl_Clashes_1_c.f (rd H i) [L] [R] = some (slot L (rd H i) == R.f1) := by
      unfold impl_Clashes_1_c.f
      rw [if_pos (by simp), if_pos b0, if_pos (by exact b1), if_pos (by simp)]
      rfl
    rw [drop_rd h0 hi]
    by_cases c : (slot L (rd H i) == R.f1) = true
    · refine ⟨i, fun k => ?_, ?_⟩
      · rw [show k + (d + 1) + 1 = (k + d + 1) + 1 from rfl]
        obtain ⟨M, hM⟩ : ∃ M, M = k + d + 1 := ⟨_, rfl⟩
        rw [← hM]
        simp only [slices_IndexFunc_int_int_at_impl_Clashes_1.l0]
        rw [if_pos hi, if_pos h0, if_pos hi, hc, Option.bind_some, if_pos c]
      · simp only [tk, List.any_cons, c, Bool.true_or, decide_eq_true_eq]; omega
    · refine ⟨r, fun k => ?_, ?_⟩
      · have e' := e k
        rw [show k + (d + 1) + 1 = (k + d + 1) + 1 from rfl]
        obtain ⟨M, hM⟩ : ∃ M, M = k + d + 1 := ⟨_, rfl⟩
        rw [← hM] at e' ⊢
        simp only [slices_IndexFunc_int_int_at_impl_Clashes_1.l0]
        rw [if_pos hi, if_pos h0, if_pos hi, hc, Option.bind_some, if_neg c, w64 (x := i + 1) (by omega) (by omega)]
        exact e'
      · rw [hr]
        have c' : (slot L (rd H i) == R.f1) = false := by simpa using c
        simp only [tk, List.any_cons, c', Bool.false_or]
theorem cfC (L : List S58) (R : S58) (H : List Int) (hH : InL L H) (hl : H.length ≤ 1000) (k : Nat) (hk : H.length < k) : slices_ContainsFunc_int_int_at_impl_Clashes_1.f k H [L] [R] = some (tk L H R.f1) := by
  obtain ⟨r, e, hr⟩ := idxC L R H hH hl H.length 0 (by omega) (by omega) (by omega)
  have e' := e (k - H.length - 1)
  rw [show k - H.length - 1 + H.length + 1 = k by omega] at e'
  unfold slices_ContainsFunc_int_int_at_impl_Clashes_1.f slices_IndexFunc_int_int_at_impl_Clashes_1.f
  rw [e', Option.bind_some, hr, Int.toNat_zero, List.drop_zero]
theorem idxH (L : List S58) (v : Int) (H : List Int) (hH : InL L H) (hl : H.length ≤ 1000) (d : Nat) : ∀ i : Int, 0 ≤ i → i ≤ H.length → (H.length : Int) - i = d → ∃ r, (∀ k, slices_IndexFunc_int_int_at_impl_Choose_1.l0 (k + d + 1) H (H.length : Int) i [L] [v] = some r) ∧ decide (r ≥ 0) = tk L (H.drop i.toNat) v := by
  induction d with
  | zero =>
    intro i h0 h1 hd
    refine ⟨-1, fun k => ?_, ?_⟩
    · simp only [slices_IndexFunc_int_int_at_impl_Choose_1.l0]
      rw [if_neg (by omega)]
    · rw [List.drop_of_length_le (by omega)]; rfl
  | succ d ih =>
    intro i h0 h1 hd
    have hi : i < (H.length : Int) := by omega
    obtain ⟨r, e, hr⟩ := ih (i + 1) (by omega) (by omega) (by omega)
    obtain ⟨b0, b1⟩ := hH _ (rd_mem h0 hi)
    have hc : impl_Choose_1_c.f (rd H i) [L] [v] = some (slot L (rd H i) == v) := by
      unfold impl_Choose_1_c.f
      rw [if_pos (by simp), if_pos b0, if_pos (by exact b1), if_pos (by simp)]
      rfl
    rw [drop_rd h0 hi]
    by_cases c : (slot L (rd H i) == v) = true
    · refine ⟨i, fun k => ?_, ?_⟩
      · rw [show k + (d + 1) + 1 = (k + d + 1) + 1 from rfl]
        obtain ⟨M, hM⟩ : ∃ M, M = k + d + 1 := ⟨_, rfl⟩
        rw [← hM]
        simp only [slices_IndexFunc_int_int_at_impl_Choose_1.l0]
        rw [if_pos hi, if_pos h0, if_pos hi, hc, Option.bind_some, if_pos c]
      · simp only [tk, List.any_cons, c, Bool.true_or, decide_eq_true_eq]; omega
    · refine ⟨r, fun k => ?_, ?_⟩
      · have e' := e k
        rw [show k + (d + 1) + 1 = (k + d + 1) + 1 from rfl]
        obtain ⟨M, hM⟩ : ∃ M, M = k + d + 1 := ⟨_, rfl⟩
        rw [← hM] at e' ⊢
        simp only [slices_IndexFunc_int_int_at_impl_Choose_1.l0]
        rw [if_pos hi, if_pos h0, if_pos hi, hc, Option.bind_some, if_neg c, w64 (x := i + 1) (by omega) (by omega)]
        exact e'
      · rw [hr]
        have c' : (slot L (rd H i) == v) = false := by simpa using c
        simp only [tk, List.any_cons, c', Bool.false_or]
theorem cfH (L : List S58) (v : Int) (H : List Int) (hH : InL L H) (hl : H.length ≤ 1000) (k : Nat) (hk : H.length < k) : slices_ContainsFunc_int_int_at_impl_Choose_1.f k H [L] [v] = some (tk L H v) := by
  obtain ⟨r, e, hr⟩ := idxH L v H hH hl H.length 0 (by omega) (by omega) (by omega)
  have e' := e (k - H.length - 1)
  rw [show k - H.length - 1 + H.length + 1 = k by omega] at e'
  unfold slices_ContainsFunc_int_int_at_impl_Choose_1.f slices_IndexFunc_int_int_at_impl_Choose_1.f
  rw [e', Option.bind_some, hr, Int.toNat_zero, List.drop_zero]
theorem rk_in {L : List S58} (h : Rk L) {a : Int} (h0 : 0 ≤ a) (h1 : a < L.length) : InL L (hrs L a) := fun b hb => ⟨(h.sym a b h0 h1 hb).1, (h.sym a b h0 h1 hb).2.1⟩
def clb (L : List S58) (i : Int) : Bool := tk L (hrs L i) (slot L i)
def cls (L : List S58) : Nat → Int → List Int
  | 0, _ => []
  | d + 1, i => if clb L i = true then i :: cls L d (i + 1) else cls L d (i + 1)
def CL (L : List S58) : List Int := cls L L.length 0
theorem cls_mem {L : List S58} {x : Int} (d : Nat) : ∀ i, x ∈ cls L d i ↔ i ≤ x ∧ x < i + d ∧ clb L x = true := by
  induction d with
  | zero => intro i; simp [cls]; omega
  | succ d ih =>
    intro i
    simp only [cls]
    by_cases c : clb L i = true
    · rw [if_pos c, List.mem_cons, ih]
      constructor
      · rintro (h | h)
        · rw [h]; exact ⟨by omega, by omega, c⟩
        · exact ⟨by omega, by omega, h.2.2⟩
      · rintro ⟨h1, h2, h3⟩
        by_cases e : x = i
        · exact .inl e
        · exact .inr ⟨by omega, by omega, h3⟩
    · rw [if_neg c, ih]
      constructor
      · rintro ⟨h1, h2, h3⟩; exact ⟨by omega, by omega, h3⟩
      · rintro ⟨h1, h2, h3⟩
        have : x ≠ i := fun e => c (e ▸ h3)
        exact ⟨by omega, by omega, h3⟩
theorem cls_len (L : List S58) (d : Nat) : ∀ i, (cls L d i).length ≤ d := by
  induction d with
  | zero => intro i; simp [cls]
  | succ d ih =>
    intro i
    have := ih (i + 1)
    simp only [cls]
    split <;> (try simp only [List.length_cons]) <;> omega
theorem cls_le {L L' : List S58} (d : Nat) : ∀ i : Int, (∀ x, i ≤ x → x < i + d → clb L' x = true → clb L x = true) → (cls L' d i).length ≤ (cls L d i).length := by
  induction d with
  | zero => intro i _; simp [cls]
  | succ d ih =>
    intro i h
    have := ih (i + 1) (fun x h0 h1 => h x (by omega) (by omega))
    simp only [cls]
    by_cases c : clb L' i = true
    · rw [if_pos c, if_pos (h i (by omega) (by omega) c)]; simp only [List.length_cons]; omega
    · rw [if_neg c]; split <;> (try simp only [List.length_cons]) <;> omega
theorem cls_lt {L L' : List S58} (d : Nat) : ∀ i : Int, (∀ x, i ≤ x → x < i + d → clb L' x = true → clb L x = true) → ∀ a, i ≤ a → a < i + d → clb L a = true → clb L' a ≠ true → (cls L' d i).length < (cls L d i).length := by
  induction d with
  | zero => intro i _ a h0 h1; omega
  | succ d ih =>
    intro i h a h0 h1 ha hna
    simp only [cls]
    by_cases e : a = i
    · subst e
      rw [if_pos ha, if_neg hna]
      have := cls_le (L := L) (L' := L') d (a + 1) (fun x h0 h1 => h x (by omega) (by omega))
      simp only [List.length_cons]; omega
    · have := ih (i + 1) (fun x h0 h1 => h x (by omega) (by omega)) a (by omega) (by omega) ha hna
      by_cases c : clb L' i = true
      · rw [if_pos c, if_pos (h i (by omega) (by omega) c)]; simp only [List.length_cons]; omega
      · rw [if_neg c]; split <;> (try simp only [List.length_cons]) <;> omega
theorem own_intS (l : List Int) (h : l.length ≤ 1048576) : impl_own_int.f l = some l := by
  unfold impl_own_int.f
  rw [if_pos (by omega), if_pos (by omega), Option.bind_some, if_pos (by simp; omega)]; rfl
theorem clash_loop (L : List S58) (h : Rk L) (d : Nat) : ∀ (o : List Int) (i : Int), 0 ≤ i → i ≤ L.length → (L.length : Int) - i = d → (o.length : Int) ≤ i → ∀ K, 30 < K → impl_Clashes.l0 (K + d + 1) o L (L.length : Int) i L = some (o ++ cls L d i) := by
  have hf := h.few
  induction d with
  | zero =>
    intro o i h0 h1 hd ho K hK
    simp only [impl_Clashes.l0]
    rw [if_neg (by omega), own_intS o (by omega), Option.bind_some]
    simp [cls]
  | succ d ih =>
    intro o i h0 h1 hd ho K hK
    have hi : i < (L.length : Int) := by omega
    have hl9 := rk_len9 h h0 hi
    have e1 := ih (o ++ [i]) (i + 1) (by omega) (by omega) (by omega) (by simp; omega) K hK
    have e2 := ih o (i + 1) (by omega) (by omega) (by omega) (by omega) K hK
    rw [show K + (d + 1) + 1 = (K + d + 1) + 1 from rfl]
    obtain ⟨M, hM⟩ : ∃ M, M = K + d + 1 := ⟨_, rfl⟩
    have hM2 : 30 < M := by omega
    rw [← hM] at e1 e2 ⊢
    have hc : slices_ContainsFunc_int_int_at_impl_Clashes_1.f M (rd_T58 L i).f2 [L] [(⟨(rd_T58 L i).f0, (rd_T58 L i).f1, (rd_T58 L i).f2⟩ : S58)] = some (clb L i) := cfC L _ (hrs L i) (rk_in h h0 hi) (by omega) M (by omega)
    simp only [impl_Clashes.l0, cls]
    rw [if_pos hi, if_pos h0, if_pos hi, hc, Option.bind_some, w64 (x := i + 1) (by omega) (by omega)]
    by_cases c : clb L i = true
    · rw [if_pos c, if_pos c, if_pos (by omega), e1]; simp
    · rw [if_neg c, if_neg c, e2]
theorem clash_ok (L : List S58) (h : Rk L) (K : Nat) (hK : 400 < K) : impl_Clashes.f K L = some (CL L) := by
  have hf := h.few
  unfold impl_Clashes.f
  rw [rok_ok L h K hK, Option.bind_some, if_pos rfl]
  have := clash_loop L h L.length [] 0 (by omega) (by omega) (by omega) (by simp) (K - L.length - 1) (by omega)
  rw [show K - L.length - 1 + L.length + 1 = K by omega] at this
  exact this
/-! ### a slot that is free -/
theorem all_in (n : Nat) : ∀ M : List Int, (∀ v : Int, 0 ≤ v → v < n → v ∈ M) → n ≤ M.length := by
  induction n with
  | zero => intro M _; omega
  | succ n ih =>
    intro M h
    have hm := h n (by omega) (by omega)
    have := ih (M.erase n) (fun v h0 h1 => (List.mem_erase_of_ne (by omega)).2 (h v h0 (by omega)))
    rw [List.length_erase_of_mem hm] at this
    have : 0 < M.length := List.length_pos_of_mem hm
    omega
theorem choose_loop (L : List S58) (h : Rk L) (a coin : Int) (ha0 : 0 ≤ a) (ha1 : a < L.length) (hc : 0 ≤ coin) (d : Nat) : ∀ (F : List Int) (v : Int), 0 ≤ v → v ≤ 20 → 20 - v = d → (F.length : Int) ≤ v → (∀ x ∈ F, 0 ≤ x ∧ x ≤ 19 ∧ tk L (hrs L a) x = false) → (∀ x, 0 ≤ x → x < v → tk L (hrs L a) x = false → x ∈ F) →
    ∃ r, 0 ≤ r ∧ r ≤ 19 ∧ tk L (hrs L a) r = false ∧ ∀ K, 30 < K → impl_Choose.l0 (K + d + 1) a coin F v L = some (r, true) := by
  have hl9 := rk_len9 h ha0 ha1
  induction d with
  | zero =>
    intro F v h0 h1 hd hF hin hall
    have hne : F.length ≠ 0 := by
      intro hz
      have hz' : F = [] := List.length_eq_zero_iff.1 hz
      have := all_in 20 ((hrs L a).map (slot L)) (fun v' v0 v1 => by
        by_cases c : tk L (hrs L a) v' = true
        · obtain ⟨x, hx, e⟩ := tk_iff.1 c
          exact List.mem_map.2 ⟨x, hx, e⟩
        · have := hall v' v0 (by omega) (by simpa using c)
          rw [hz'] at this; simp at this)
      rw [List.length_map] at this
      omega
    have m0 : 0 ≤ Int.tmod coin (F.length : Int) := by rw [tm hc]; exact Int.emod_nonneg _ (by omega)
    have m1 : Int.tmod coin (F.length : Int) < (F.length : Int) := by rw [tm hc]; exact Int.emod_lt_of_pos _ (by omega)
    obtain ⟨g1, g2, g3⟩ := hin _ (rd_mem m0 m1)
    refine ⟨_, g1, g2, g3, fun K hK => ?_⟩
    simp only [impl_Choose.l0]
    rw [if_neg (by omega), if_neg (by omega), if_pos m0, if_pos m1]
  | succ d ih =>
    intro F v h0 h1 hd hF hin hall
    have hcf := fun M (hM : 30 < M) => cfH L v (hrs L a) (rk_in h ha0 ha1) (by omega) M (by omega)
    by_cases c : tk L (hrs L a) v = true
    · obtain ⟨r, r0, r1, r2, e⟩ := ih F (v + 1) (by omega) (by omega) (by omega) (by omega) hin (fun x x0 x1 hx => hall x x0 (by
        have : x ≠ v := fun e => by rw [e, c] at hx; exact absurd hx (by simp)
        omega) hx)
      refine ⟨r, r0, r1, r2, fun K hK => ?_⟩
      have e' := e K hK
      rw [show K + (d + 1) + 1 = (K + d + 1) + 1 from rfl]
      obtain ⟨M, hM⟩ : ∃ M, M = K + d + 1 := ⟨_, rfl⟩
      have hM2 : 30 < M := by omega
      rw [← hM] at e' ⊢
      have hcf' : slices_ContainsFunc_int_int_at_impl_Choose_1.f M (rd_T58 L a).f2 [L] [v] = some (tk L (hrs L a) v) := hcf M hM2
      simp only [impl_Choose.l0]
      rw [if_pos (by omega), if_pos ha0, if_pos ha1, hcf', Option.bind_some, if_pos c, w64 (x := v + 1) (by omega) (by omega)]
      exact e'
    · have c' : tk L (hrs L a) v = false := by simpa using c
      obtain ⟨r, r0, r1, r2, e⟩ := ih (F ++ [v]) (v + 1) (by omega) (by omega) (by omega) (by simp; omega) (fun x hx => by
          rcases List.mem_append.1 hx with hx | hx
          · exact hin x hx
          · rw [List.mem_singleton] at hx; rw [hx]; exact ⟨h0, by omega, c'⟩) (fun x x0 x1 hx => by
          by_cases e : x = v
          · rw [e]; exact List.mem_append.2 (.inr (List.mem_singleton.2 rfl))
          · exact List.mem_append.2 (.inl (hall x x0 (by omega) hx)))
      refine ⟨r, r0, r1, r2, fun K hK => ?_⟩
      have e' := e K hK
      rw [show K + (d + 1) + 1 = (K + d + 1) + 1 from rfl]
      obtain ⟨M, hM⟩ : ∃ M, M = K + d + 1 := ⟨_, rfl⟩
      have hM2 : 30 < M := by omega
      rw [← hM] at e' ⊢
      have hcf' : slices_ContainsFunc_int_int_at_impl_Choose_1.f M (rd_T58 L a).f2 [L] [v] = some (tk L (hrs L a) v) := hcf M hM2
      simp only [impl_Choose.l0]
      rw [if_pos (by omega), if_pos ha0, if_pos ha1, hcf', Option.bind_some, if_neg c, if_pos (by omega), w64 (x := v + 1) (by omega) (by omega)]
      exact e'
theorem choose_ok (L : List S58) (h : Rk L) (a coin : Int) (ha0 : 0 ≤ a) (ha1 : a < L.length) (hc : 0 ≤ coin) : ∃ r, 0 ≤ r ∧ r ≤ 19 ∧ tk L (hrs L a) r = false ∧ ∀ K, 400 < K → impl_Choose.f K L a coin = some (r, true) := by
  have hf := h.few
  obtain ⟨r, r0, r1, r2, e⟩ := choose_loop L h a coin ha0 ha1 hc 20 [] 0 (by omega) (by omega) (by omega) (by simp) (fun x hx => by simp at hx) (fun x x0 x1 => by omega)
  refine ⟨r, r0, r1, r2, fun K hK => ?_⟩
  unfold impl_Choose.f
  rw [rok_ok L h K hK, Option.bind_some, if_pos rfl, in_ok, w64 (x := (L.length : Int) - 1) (by omega) (by omega), decide_eq_true (by omega), Option.bind_some, if_pos rfl]
  obtain ⟨K, rfl⟩ := pos_round (show 0 < K by omega)
  have e' := e (K - 21) (by omega)
  rw [show K - 21 + 20 + 1 = K by omega] at e'
  simp only [impl_Choose.j0]
  rw [decide_eq_false (by omega), if_neg (by simp)]
  exact e'
/-! ### how it settles -/
theorem own_radios (L : List S58) (h : L.length ≤ 1000) : impl_Radio.f L = some L := by
  unfold impl_Radio.f
  rw [if_pos (by omega), if_pos (by omega), Option.bind_some, if_pos (by simp; omega)]; rfl
theorem set_self58 (L : List S58) (i : Int) (h0 : 0 ≤ i) (h1 : i < L.length) : L.set i.toNat ⟨(rd_T58 L i).f0, (rd_T58 L i).f1, (rd_T58 L i).f2⟩ = L := by
  refine ext58 (by simp) fun j j0 j1 => ?_
  by_cases c : i = j
  · subst c; rw [rd58_set_eq h0 h1]
  · rw [rd58_set_ne h0 j0 c]
theorem neg_loop (l : List Int) (hl : l.length ≤ 1000) (h : ∀ x ∈ l, 0 ≤ x) (d : Nat) : ∀ i : Int, 0 ≤ i → i ≤ l.length → (l.length : Int) - i = d → ∀ k, slices_IndexFunc_int_int_at_impl_Settle_1.l0 (k + d + 1) l (l.length : Int) i = some (-1) := by
  induction d with
  | zero =>
    intro i h0 h1 hd k
    simp only [slices_IndexFunc_int_int_at_impl_Settle_1.l0]
    rw [if_neg (by omega)]
  | succ d ih =>
    intro i h0 h1 hd k
    have hi : i < (l.length : Int) := by omega
    have := h _ (rd_mem h0 hi)
    have e := ih (i + 1) (by omega) (by omega) (by omega) k
    rw [show k + (d + 1) + 1 = (k + d + 1) + 1 from rfl]
    obtain ⟨M, hM⟩ : ∃ M, M = k + d + 1 := ⟨_, rfl⟩
    rw [← hM] at e ⊢
    simp only [slices_IndexFunc_int_int_at_impl_Settle_1.l0]
    unfold impl_Settle_1.f
    rw [if_pos hi, if_pos h0, if_pos hi, Option.bind_some, decide_eq_false (by omega), if_neg (by simp), w64 (x := i + 1) (by omega) (by omega)]
    exact e
theorem neg_ok (l : List Int) (hl : l.length ≤ 1000) (h : ∀ x ∈ l, 0 ≤ x) (k : Nat) (hk : l.length < k) : slices_ContainsFunc_int_int_at_impl_Settle_1.f k l = some false := by
  have e := neg_loop l hl h l.length 0 (by omega) (by omega) (by omega) (k - l.length - 1)
  rw [show k - l.length - 1 + l.length + 1 = k by omega] at e
  unfold slices_ContainsFunc_int_int_at_impl_Settle_1.f slices_IndexFunc_int_int_at_impl_Settle_1.f
  rw [e, Option.bind_some]
  rfl
theorem copy_loop (L : List S58) (h : Rk L) (coins : List Int) (d : Nat) : ∀ i : Int, 0 ≤ i → i ≤ L.length → (L.length : Int) - i = d → ∀ k, impl_Settle.l0 (k + d + 1) coins L (L.length : Int) i = impl_Settle.l1 k coins L 0 := by
  have hf := h.few
  induction d with
  | zero =>
    intro i h0 h1 hd k
    simp only [impl_Settle.l0]
    rw [if_neg (by omega)]
  | succ d ih =>
    intro i h0 h1 hd k
    have hi : i < (L.length : Int) := by omega
    have hl := rk_len9 h h0 hi
    have e := ih (i + 1) (by omega) (by omega) (by omega) k
    rw [show k + (d + 1) + 1 = (k + d + 1) + 1 from rfl]
    obtain ⟨M, hM⟩ : ∃ M, M = k + d + 1 := ⟨_, rfl⟩
    rw [← hM] at e ⊢
    simp only [impl_Settle.l0]
    rw [if_pos hi, if_pos h0, if_pos hi, own_intS (rd_T58 L i).f2 (by unfold hrs at hl; omega), Option.bind_some, set_self58 L i h0 hi, w64 (x := i + 1) (by omega) (by omega)]
    exact e
/-- But for slots they are the same. -/
def Same (L L' : List S58) : Prop := L'.length = L.length ∧ ∀ i : Int, 0 ≤ i → i < L.length → (rd_T58 L' i).f0 = (rd_T58 L i).f0 ∧ hrs L' i = hrs L i
theorem rk_set {L : List S58} (h : Rk L) {a v : Int} (ha0 : 0 ≤ a) (ha1 : a < L.length) (hv : 0 ≤ v ∧ v ≤ 19) :
    Rk (L.set a.toNat ⟨(rd_T58 L a).f0, v, (rd_T58 L a).f2⟩) ∧ Same L (L.set a.toNat ⟨(rd_T58 L a).f0, v, (rd_T58 L a).f2⟩) ∧ ∀ i : Int, 0 ≤ i → slot (L.set a.toNat ⟨(rd_T58 L a).f0, v, (rd_T58 L a).f2⟩) i = if i = a then v else slot L i := by
  have hr : ∀ i : Int, 0 ≤ i → (rd_T58 (L.set a.toNat ⟨(rd_T58 L a).f0, v, (rd_T58 L a).f2⟩) i).f0 = (rd_T58 L i).f0 ∧ hrs (L.set a.toNat ⟨(rd_T58 L a).f0, v, (rd_T58 L a).f2⟩) i = hrs L i ∧ slot (L.set a.toNat ⟨(rd_T58 L a).f0, v, (rd_T58 L a).f2⟩) i = if i = a then v else slot L i := by
    intro i h0
    unfold hrs slot
    by_cases c : i = a
    · subst c
      rw [rd58_set_eq h0 ha1, if_pos rfl]
      exact ⟨rfl, rfl, rfl⟩
    · rw [rd58_set_ne ha0 h0 (by omega), if_neg c]
      exact ⟨rfl, rfl, rfl⟩
  generalize hL' : L.set a.toNat ⟨(rd_T58 L a).f0, v, (rd_T58 L a).f2⟩ = L' at hr ⊢
  have hlen : L'.length = L.length := by rw [← hL']; simp
  refine ⟨⟨by rw [hlen]; exact h.pos, by rw [hlen]; exact h.few, fun i h0 h1 => ?_, fun i h0 h1 => ?_, fun i h0 h1 => ?_, fun i b h0 h1 hb => ?_⟩, ⟨hlen, fun i h0 h1 => ⟨(hr i h0).1, (hr i h0).2.1⟩⟩, fun i h0 => (hr i h0).2.2⟩
  · rw [hlen] at h1
    obtain ⟨g1, g2⟩ := h.id i h0 h1
    rw [(hr i h0).1]
    exact ⟨g1, fun c => by rw [(hr (i - 1) (by omega)).1]; exact g2 c⟩
  · rw [hlen] at h1
    rw [(hr i h0).2.2]
    have := h.slots i h0 h1
    split <;> omega
  · rw [hlen] at h1
    rw [(hr i h0).2.1]
    exact h.asc i h0 h1
  · rw [hlen] at h1 ⊢
    rw [(hr i h0).2.1] at hb
    obtain ⟨s1, s2, s3, s4⟩ := h.sym i b h0 h1 hb
    exact ⟨s1, s2, s3, by rw [(hr b s1).2.1]; exact s4⟩
theorem same_trans {A B C : List S58} (h : Same A B) (g : Same B C) : Same A C :=
  ⟨g.1.trans h.1, fun i h0 h1 => ⟨(g.2 i h0 (by rw [h.1]; exact h1)).1.trans (h.2 i h0 h1).1, (g.2 i h0 (by rw [h.1]; exact h1)).2.trans (h.2 i h0 h1).2⟩⟩
theorem clb_iff {L : List S58} {i : Int} : clb L i = true ↔ ∃ h ∈ hrs L i, slot L h = slot L i := tk_iff
theorem settle_loop (L : List S58) (hL : Rk L) (coins : List Int) (hcl : coins.length = L.length) (hcoin : ∀ x ∈ coins, 0 ≤ x) (d : Nat) : ∀ (L' : List S58) (used : Int), Rk L' → Same L L' → (∀ i : Int, 0 ≤ i → i < L.length → clb L i ≠ true → slot L' i = slot L i) → (∀ i : Int, 0 ≤ i → i < L.length → clb L' i = true → clb L i = true) → (CL L').length ≤ d → 0 ≤ used → used + (CL L').length ≤ (CL L).length →
    ∃ (out : List S58) (u : Int), Rk out ∧ Same L out ∧ (∀ i : Int, 0 ≤ i → i < L.length → clb L i ≠ true → slot out i = slot L i) ∧ CL out = [] ∧ u ≤ (CL L).length ∧ ∀ k, 1000 < k → impl_Settle.l1 (k + 2 * d + 2) coins L' used = some (out, u, true) := by
  have hCL : (CL L).length ≤ L.length := cls_len L L.length 0
  have hf := hL.few
  have stop : ∀ (L' : List S58) (used : Int), Rk L' → CL L' = [] → ∀ k, 1000 < k → impl_Settle.l1 (k + 2) coins L' used = some (L', used, true) := by
    intro L' used hR hz k hk
    rw [show k + 2 = (k + 1) + 1 from rfl]
    have e1 : impl_Settle.j3 (k + 1) coins L' used [] true = some (L', used, true) := by
      simp only [impl_Settle.j3]
      rw [if_pos trivial]
      rfl
    obtain ⟨M, hM⟩ : ∃ M, M = k + 1 := ⟨_, rfl⟩
    rw [← hM] at e1 ⊢
    simp only [impl_Settle.l1]
    rw [clash_ok L' hR M (by omega), Option.bind_some, hz, if_pos (show (([] : List Int).length : Int) = 0 from rfl), e1]
  induction d with
  | zero =>
    intro L' used hR hS hK hC hd hu0 hu1
    have hz : CL L' = [] := List.length_eq_zero_iff.1 (by omega)
    exact ⟨L', used, hR, hS, hK, hz, by omega, fun k hk => stop L' used hR hz k hk⟩
  | succ d ih =>
    intro L' used hR hS hK hC hd hu0 hu1
    by_cases hz : CL L' = []
    · refine ⟨L', used, hR, hS, hK, hz, by rw [hz] at hu1; simp at hu1; omega, fun k hk => ?_⟩
      exact stop L' used hR hz (k + 2 * (d + 1)) (by omega)
    · have hpos : 0 < (CL L').length := List.length_pos_iff.2 hz
      have hlen := hS.1
      obtain ⟨a, ha⟩ : ∃ a, rd (CL L') 0 = a := ⟨_, rfl⟩
      have hmem : a ∈ CL L' := by rw [← ha]; exact rd_mem (by omega) (by omega)
      obtain ⟨a0, a1, a2⟩ := (cls_mem L'.length 0).1 hmem
      have a1' : a < (L'.length : Int) := by omega
      have hcoin' := hcoin _ (rd_mem (l := coins) (i := used) hu0 (by omega))
      obtain ⟨v, v0, v1, v2, ev⟩ := choose_ok L' hR a (rd coins used) a0 a1' hcoin'
      obtain ⟨r1, r2, r3⟩ := rk_set hR (v := v) a0 a1' ⟨v0, v1⟩
      generalize hL2 : L'.set a.toNat ⟨(rd_T58 L' a).f0, v, (rd_T58 L' a).f2⟩ = L2 at r1 r2 r3
      have hnt : ∀ h ∈ hrs L' a, slot L' h ≠ v := fun h hh e => by
        have : tk L' (hrs L' a) v = true := tk_iff.2 ⟨h, hh, e⟩
        rw [v2] at this; exact absurd this (by simp)
      have hna : clb L2 a ≠ true := fun hh => by
        obtain ⟨h, h1, h2⟩ := clb_iff.1 hh
        rw [(r2.2 a a0 a1').2] at h1
        obtain ⟨s1, s2, s3, s4⟩ := hR.sym a h a0 a1' h1
        rw [r3 h s1, r3 a a0, if_neg s3, if_pos rfl] at h2
        exact hnt h h1 h2
      have hsub : ∀ i : Int, 0 ≤ i → i < L'.length → clb L2 i = true → clb L' i = true := fun i i0 i1 hi => by
        have hia : i ≠ a := fun e => hna (e ▸ hi)
        obtain ⟨h, h1, h2⟩ := clb_iff.1 hi
        rw [(r2.2 i i0 i1).2] at h1
        obtain ⟨s1, s2, s3, s4⟩ := hR.sym i h i0 i1 h1
        rw [r3 h s1, r3 i i0, if_neg hia] at h2
        by_cases e : h = a
        · rw [if_pos e] at h2
          rw [e] at s4
          exact absurd h2.symm (hnt i s4)
        · rw [if_neg e] at h2
          exact clb_iff.2 ⟨h, h1, h2⟩
      have hlt : (CL L2).length < (CL L').length := by
        unfold CL
        rw [r2.1]
        exact cls_lt L'.length 0 (fun x x0 x1 hx => hsub x x0 (by omega) hx) a a0 (by omega) a2 hna
      obtain ⟨out, u, o1, o2, o3, o4, o5, o6⟩ := ih L2 (used + 1) r1 (same_trans hS r2)
        (fun i i0 i1 hi => by
          have hia : i ≠ a := fun e => hi (hC i i0 i1 (e ▸ a2))
          rw [r3 i i0, if_neg hia]; exact hK i i0 i1 hi)
        (fun i i0 i1 hi => hC i i0 i1 (hsub i i0 (by omega) hi)) (by omega) (by omega) (by omega)
      refine ⟨out, u, o1, o2, o3, o4, o5, fun k hk => ?_⟩
      have o6' := o6 k hk
      rw [show k + 2 * (d + 1) + 2 = (k + 2 * d + 2) + 1 + 1 by omega]
      obtain ⟨M, hM⟩ : ∃ M, M = k + 2 * d + 2 := ⟨_, rfl⟩
      rw [← hM] at o6' ⊢
      have e1 : impl_Settle.j3 (M + 1) coins L' used (CL L') false = some (out, u, true) := by
        simp only [impl_Settle.j3]
        rw [if_neg (by simp), if_pos (by omega), if_pos hu0, if_pos (by omega), ha, ev M (by omega), Option.bind_some]
        dsimp only
        rw [if_pos rfl, if_pos a0, if_pos a1', hL2, w64 (x := used + 1) (by omega) (by omega)]
        exact o6'
      obtain ⟨M', hM'⟩ : ∃ M', M' = M + 1 := ⟨_, rfl⟩
      rw [← hM'] at e1 ⊢
      simp only [impl_Settle.l1]
      rw [clash_ok L' hR M' (by omega), Option.bind_some, if_neg (by omega), show (used == (coins.length : Int)) = false from beq_eq_false_iff_ne.2 (by omega)]
      exact e1
theorem settle_ok (L : List S58) (hL : Rk L) (coins : List Int) (hcl : coins.length = L.length) (hcoin : ∀ x ∈ coins, 0 ≤ x) :
    ∃ (out : List S58) (u : Int), Rk out ∧ Same L out ∧ (∀ i : Int, 0 ≤ i → i < L.length → clb L i ≠ true → slot out i = slot L i) ∧ CL out = [] ∧ u ≤ (CL L).length ∧ ∀ k, 2000 < k → impl_Settle.f k L coins = some (out, u, true) := by
  have hf := hL.few
  have hCL : (CL L).length ≤ L.length := cls_len L L.length 0
  obtain ⟨out, u, o1, o2, o3, o4, o5, o6⟩ := settle_loop L hL coins hcl hcoin (CL L).length L 0 hL ⟨rfl, fun i _ _ => ⟨rfl, rfl⟩⟩ (fun i _ _ _ => rfl) (fun i _ _ h => h) (Nat.le_refl _) (by omega) (by omega)
  refine ⟨out, u, o1, o2, o3, o4, o5, fun k hk => ?_⟩
  unfold impl_Settle.f
  rw [rok_ok L hL k (by omega), Option.bind_some, if_pos rfl, if_neg (by omega), neg_ok coins (by omega) hcoin k (by omega), Option.bind_some]
  obtain ⟨k, rfl⟩ := pos_round (show 0 < k by omega)
  simp only [impl_Settle.j0]
  rw [if_neg (by simp), own_radios L (by omega), Option.bind_some]
  have e1 := copy_loop L hL coins L.length 0 (by omega) (by omega) (by omega) (k - L.length - 1)
  rw [show k - L.length - 1 + L.length + 1 = k by omega] at e1
  rw [e1]
  have e2 := o6 (k - L.length - 1 - 2 * (CL L).length - 2) (by omega)
  rw [show k - L.length - 1 - 2 * (CL L).length - 2 + 2 * (CL L).length + 2 = k - L.length - 1 by omega] at e2
  exact e2
/-! ### how a call comes round -/
/-- How many aren't come to. -/
def ng : List Int → Nat
  | [] => 0
  | x :: l => (if x < 0 then 1 else 0) + ng l
theorem ng_set {v : Int} (hv : 0 ≤ v) (l : List Int) : ∀ i : Nat, i < l.length → l.getD i 0 < 0 → ng (l.set i v) + 1 = ng l := by
  induction l with
  | nil => intro i h; simp at h
  | cons x l ih =>
    intro i h hx
    cases i with
    | zero =>
      have hx' : x < 0 := by simpa using hx
      simp only [List.set_cons_zero, ng]
      rw [if_neg (by omega), if_pos hx']; omega
    | succ i =>
      have := ih i (by simpa using h) (by simpa using hx)
      simp only [List.set_cons_succ, ng]
      omega
theorem ng_all (l : List Int) (h : ∀ x ∈ l, x < 0) : ng l = l.length := by
  induction l with
  | nil => rfl
  | cons x l ih =>
    simp only [ng, List.length_cons]
    rw [if_pos (h x (List.mem_cons_self ..)), ih fun y hy => h y (List.mem_cons_of_mem _ hy)]; omega
/-- The neighbour h of v is come to at most once later or sooner. -/
def Nb (D : List Int) (v h : Int) : Prop := 0 ≤ rd D h ∧ rd D h ≤ rd D v + 1 ∧ rd D v ≤ rd D h + 1
structure Bfs (L : List S58) (D q : List Int) : Prop where
  len : D.length = L.length
  lo : ∀ i : Int, 0 ≤ i → i < L.length → -1 ≤ rd D i
  z : rd D 0 = 0
  qin : ∀ x ∈ q, 0 ≤ x ∧ x < L.length ∧ 0 ≤ rd D x
  srt : q.Pairwise (fun x y => rd D x ≤ rd D y)
  top : ∀ x r, q = x :: r → ∀ v : Int, 0 ≤ v → v < L.length → rd D v ≤ rd D x + 1
  don : ∀ v : Int, 0 ≤ v → v < L.length → 0 ≤ rd D v → v ∉ q → ∀ h ∈ hrs L v, Nb D v h
  num : ∀ v : Int, 0 ≤ v → v < L.length → rd D v + ng D ≤ (L.length : Int) - 1
theorem bfs_new {L : List S58} (hL : Rk L) {D r : List Int} {u h : Int} (hB : Bfs L D (u :: r)) (h0 : 0 ≤ h) (h1 : h < L.length) (hh : rd D h < 0) :
    Bfs L (D.set h.toNat (rd D u + 1)) (u :: r ++ [h]) ∧ ng (D.set h.toNat (rd D u + 1)) + 1 = ng D ∧ (∀ v : Int, 0 ≤ v → v < L.length → 0 ≤ rd D v → rd (D.set h.toNat (rd D u + 1)) v = rd D v) ∧ rd (D.set h.toNat (rd D u + 1)) h = rd D u + 1 := by
  obtain ⟨u0, u1, u2⟩ := hB.qin u (List.mem_cons_self ..)
  have hlen := hB.len
  have eq : rd (D.set h.toNat (rd D u + 1)) h = rd D u + 1 := rd_set_eq h0 (by omega)
  have ne : ∀ v : Int, 0 ≤ v → v ≠ h → rd (D.set h.toNat (rd D u + 1)) v = rd D v := fun v v0 hv => rd_set_ne h0 v0 (by omega)
  have hng := ng_set (v := rd D u + 1) (by omega) D h.toNat (by omega) hh
  have old : ∀ v : Int, 0 ≤ v → 0 ≤ rd D v → rd (D.set h.toNat (rd D u + 1)) v = rd D v := fun v v0 hv => ne v v0 (fun e => by rw [e] at hv; omega)
  have hl' : (D.set h.toNat (rd D u + 1)).length = D.length := List.length_set
  generalize D.set h.toNat (rd D u + 1) = D' at eq ne hng old hl' ⊢
  have hpos : ∀ x ∈ u :: r, rd D' x = rd D x := fun x hx => by
    obtain ⟨x0, x1, x2⟩ := hB.qin x hx
    exact old x x0 x2
  have htop := hB.top u r rfl
  refine ⟨⟨hl'.trans hlen, fun i i0 i1 => ?_, ?_, fun x hx => ?_, ?_, fun x r' he v v0 v1 => ?_, fun v v0 v1 hv hq t ht => ?_, fun v v0 v1 => ?_⟩, hng, fun v v0 _ hv => old v v0 hv, eq⟩
  · by_cases c : i = h
    · rw [c, eq]; omega
    · rw [ne i i0 c]; exact hB.lo i i0 i1
  · have hz := hB.z
    rw [old 0 (by omega) (by omega)]; exact hz
  · rcases List.mem_append.1 hx with hx | hx
    · obtain ⟨x0, x1, x2⟩ := hB.qin x hx
      exact ⟨x0, x1, by rw [hpos x hx]; exact x2⟩
    · rw [List.mem_singleton] at hx
      rw [hx]; exact ⟨h0, h1, by rw [eq]; omega⟩
  · rw [List.pairwise_append]
    refine ⟨hB.srt.imp_of_mem fun {a b} ha hb hab => by rw [hpos a ha, hpos b hb]; exact hab, List.pairwise_singleton _ _, fun x hx y hy => ?_⟩
    rw [List.mem_singleton] at hy
    obtain ⟨x0, x1, x2⟩ := hB.qin x hx
    rw [hy, eq, hpos x hx]
    exact htop x x0 x1
  · rw [List.cons_append] at he
    injection he with e1 e2
    subst e1
    rw [old u u0 u2]
    by_cases c : v = h
    · rw [c, eq]; omega
    · rw [ne v v0 c]; exact htop v v0 v1
  · have hvh : v ≠ h := fun e => hq (by rw [e]; simp)
    rw [ne v v0 hvh] at hv
    have hd := hB.don v v0 v1 hv (fun hm => hq (List.mem_append.2 (.inl hm))) t ht
    obtain ⟨d1, d2, d3⟩ := hd
    have t0 := (hL.sym v t v0 v1 ht).1
    have et := old t t0 d1
    refine ⟨by rw [et]; exact d1, ?_, ?_⟩ <;> rw [et, ne v v0 hvh] <;> assumption
  · by_cases c : v = h
    · rw [c, eq]; have := hB.num u u0 u1; omega
    · rw [ne v v0 c]; have := hB.num v v0 v1; omega
/-- The neighbours of the head u are all come to, from the first on. -/
theorem relay_inner (L : List S58) (hL : Rk L) (u : Int) (hu0 : 0 ≤ u) (hu1 : u < L.length) (d : Nat) : ∀ (D r : List Int) (j : Int), 0 ≤ j → j ≤ (hrs L u).length → ((hrs L u).length : Int) - j = d → Bfs L D (u :: r) → (∀ i : Int, 0 ≤ i → i < j → Nb D u (rd (hrs L u) i)) → r.length + ng D ≤ 1000 →
    ∃ (D' r' : List Int), Bfs L D' (u :: r') ∧ (∀ h ∈ hrs L u, Nb D' u h) ∧ r'.length + ng D' = r.length + ng D ∧ ∀ K, impl_Relay.l2 (K + d + 1) L D (u :: r) (hrs L u) ((hrs L u).length : Int) j = impl_Relay.l1 K L D' r' := by
  have hf := hL.few
  have hl9 := rk_len9 hL hu0 hu1
  induction d with
  | zero =>
    intro D r j j0 j1 hd hB hN hm
    refine ⟨D, r, hB, fun h hh => ?_, rfl, fun K => ?_⟩
    · obtain ⟨n, hn, e⟩ := List.getElem_of_mem hh
      have := hN (n : Int) (by omega) (by omega)
      rwa [show rd (hrs L u) (n : Int) = h by simp [rd, List.getD_eq_getElem?_getD, List.getElem?_eq_getElem hn, e]] at this
    · simp only [impl_Relay.l2]
      rw [if_neg (by omega), if_pos (by simp only [List.length_cons]; omega)]
      rfl
  | succ d ih =>
    intro D r j j0 j1 hd hB hN hm
    have hj : j < ((hrs L u).length : Int) := by omega
    obtain ⟨h, hh⟩ : ∃ h, rd (hrs L u) j = h := ⟨_, rfl⟩
    have hmem : h ∈ hrs L u := by rw [← hh]; exact rd_mem j0 hj
    obtain ⟨s1, s2, s3, s4⟩ := hL.sym u h hu0 hu1 hmem
    obtain ⟨_, _, hq2⟩ := hB.qin u (List.mem_cons_self ..)
    have hlen := hB.len
    by_cases c : rd D h < 0
    · obtain ⟨b1, b2, b3, b4⟩ := bfs_new hL hB s1 s2 c
      have hnum := hB.num u hu0 hu1
      generalize hD' : D.set h.toNat (rd D u + 1) = D' at b1 b2 b3 b4
      have hu := b3 u hu0 hu1 hq2
      obtain ⟨D2, r2, g1, g2, g3, g4⟩ := ih D' (r ++ [h]) (j + 1) (by omega) (by omega) (by omega) b1 (fun i i0 i1 => by
        by_cases e : i = j
        · rw [e, hh]
          exact ⟨by rw [b4]; omega, by rw [b4, hu]; omega, by rw [b4, hu]; omega⟩
        · obtain ⟨n1, n2, n3⟩ := hN i i0 (by omega)
          have hm2 := rd_mem (l := hrs L u) (i := i) i0 (by omega)
          obtain ⟨t1, t2, _, _⟩ := hL.sym u _ hu0 hu1 hm2
          have := b3 _ t1 t2 n1
          exact ⟨by rw [this]; exact n1, by rw [this, hu]; exact n2, by rw [this, hu]; exact n3⟩) (by simp; omega)
      refine ⟨D2, r2, g1, g2, by rw [g3]; simp; omega, fun K => ?_⟩
      have g4' := g4 K
      rw [show K + (d + 1) + 1 = (K + d + 1) + 1 from rfl]
      obtain ⟨M, hM⟩ : ∃ M, M = K + d + 1 := ⟨_, rfl⟩
      rw [← hM] at g4' ⊢
      simp only [impl_Relay.l2]
      rw [if_pos hj, if_pos j0, if_pos hj, hh, if_pos s1, if_pos (by omega), if_pos c, if_pos (by simp only [List.length_cons]; omega), show rd (u :: r) 0 = u from rfl, if_pos hu0, if_pos (by omega), if_pos (by simp only [List.length_cons]; omega), w64 (x := rd D u + 1) (by omega) (by omega), hD', w64 (x := j + 1) (by omega) (by omega)]
      exact g4'
    · have hnb : Nb D u h := by
        refine ⟨by omega, hB.top u r rfl h s1 s2, ?_⟩
        by_cases e : h ∈ u :: r
        · have := List.pairwise_cons.1 hB.srt
          rcases List.mem_cons.1 e with e | e
          · exact absurd e s3
          · have := this.1 h e; omega
        · exact (hB.don h s1 s2 (by omega) e u s4).2.1
      obtain ⟨D2, r2, g1, g2, g3, g4⟩ := ih D r (j + 1) (by omega) (by omega) (by omega) hB (fun i i0 i1 => by
        by_cases e : i = j
        · rw [e, hh]; exact hnb
        · exact hN i i0 (by omega)) hm
      refine ⟨D2, r2, g1, g2, g3, fun K => ?_⟩
      have g4' := g4 K
      rw [show K + (d + 1) + 1 = (K + d + 1) + 1 from rfl]
      obtain ⟨M, hM⟩ : ∃ M, M = K + d + 1 := ⟨_, rfl⟩
      rw [← hM] at g4' ⊢
      simp only [impl_Relay.l2]
      rw [if_pos hj, if_pos j0, if_pos hj, hh, if_pos s1, if_pos (by omega), if_neg c, w64 (x := j + 1) (by omega) (by omega)]
      exact g4'
theorem bfs_pop {L : List S58} {D r : List Int} {u : Int} (hB : Bfs L D (u :: r)) (hN : ∀ h ∈ hrs L u, Nb D u h) : Bfs L D r := by
  have hp := List.pairwise_cons.1 hB.srt
  refine ⟨hB.len, hB.lo, hB.z, fun x hx => hB.qin x (List.mem_cons_of_mem _ hx), hp.2, fun x r' he v v0 v1 => ?_, fun v v0 v1 hv hq h hh => ?_, hB.num⟩
  · have := hB.top u r rfl v v0 v1
    have := hp.1 x (by rw [he]; exact List.mem_cons_self ..)
    omega
  · by_cases e : v = u
    · rw [e] at hh ⊢; exact hN h hh
    · exact hB.don v v0 v1 hv (fun hm => (List.mem_cons.1 hm).elim e hq) h hh
theorem relay_loop (L : List S58) (hL : Rk L) (n : Nat) : ∀ (D q : List Int), q.length + ng D = n → n ≤ 1000 → Bfs L D q → ∃ D', Bfs L D' [] ∧ ∀ K, 20 * n < K → impl_Relay.l1 K L D q = some (D', true) := by
  have hf := hL.few
  induction n with
  | zero =>
    intro D q hq hn hB
    obtain rfl : q = [] := List.length_eq_zero_iff.1 (by omega)
    refine ⟨D, hB, fun K hK => ?_⟩
    obtain ⟨K, rfl⟩ := pos_round (show 0 < K by omega)
    simp only [impl_Relay.l1]
    rw [if_neg (by simp)]
  | succ n ih =>
    intro D q hq hn hB
    cases q with
    | nil =>
      refine ⟨D, hB, fun K hK => ?_⟩
      obtain ⟨K, rfl⟩ := pos_round (show 0 < K by omega)
      simp only [impl_Relay.l1]
      rw [if_neg (by simp)]
    | cons u r =>
      obtain ⟨u0, u1, u2⟩ := hB.qin u (List.mem_cons_self ..)
      have hl9 := rk_len9 hL u0 u1
      simp only [List.length_cons] at hq
      obtain ⟨D1, r1, g1, g2, g3, g4⟩ := relay_inner L hL u u0 u1 (hrs L u).length D r 0 (by omega) (by omega) (by omega) hB (fun i i0 i1 => by omega) (by omega)
      obtain ⟨D2, k1, k2⟩ := ih D1 r1 (by omega) (by omega) (bfs_pop g1 g2)
      refine ⟨D2, k1, fun K hK => ?_⟩
      obtain ⟨K, rfl⟩ := pos_round (show 0 < K by omega)
      have g4' := g4 (K - (hrs L u).length - 1)
      rw [show K - (hrs L u).length - 1 + (hrs L u).length + 1 = K by omega, k2 _ (by omega)] at g4'
      simp only [impl_Relay.l1]
      rw [if_pos (by simp only [List.length_cons]; omega), if_pos (by simp only [List.length_cons]; omega), show rd (u :: r) 0 = u from rfl, if_pos u0, if_pos u1]
      exact g4'
theorem fill_loop (L : List S58) (n : Nat) (hn : n ≤ 1000) (h1 : 1 ≤ n) (d : Nat) : ∀ (D : List Int) (i : Int), 0 ≤ i → i ≤ n → (n : Int) - i = d → D.length = n → (∀ j : Int, 0 ≤ j → j < i → rd D j = -1) → ∀ K, impl_Relay.l0 (K + d + 1) L 0 D (n : Int) i = impl_Relay.l1 K L ((List.replicate n (-1)).set 0 0) [0] := by
  induction d with
  | zero =>
    intro D i i0 i1 hd hl hj K
    have e : D = List.replicate n (-1) := ext_rd (by simp [hl]) fun j j0 j1 => by rw [hj j j0 (by omega), rd_replicate j0 (by omega)]
    simp only [impl_Relay.l0]
    rw [if_neg (by omega), if_pos (by omega), if_pos (by omega), e]
    rfl
  | succ d ih =>
    intro D i i0 i1 hd hl hj K
    have e := ih (D.set i.toNat (-1)) (i + 1) (by omega) (by omega) (by omega) (by simp [hl]) (fun j j0 j1 => by
      by_cases c : i = j
      · subst c; exact rd_set_eq i0 (by omega)
      · rw [rd_set_ne i0 j0 c]; exact hj j j0 (by omega)) K
    rw [show K + (d + 1) + 1 = (K + d + 1) + 1 from rfl]
    obtain ⟨M, hM⟩ : ∃ M, M = K + d + 1 := ⟨_, rfl⟩
    rw [← hM] at e ⊢
    simp only [impl_Relay.l0]
    rw [if_pos (by omega), if_pos i0, if_pos (by omega), w64 (x := i + 1) (by omega) (by omega)]
    exact e
theorem relay_ok (L : List S58) (hL : Rk L) : ∃ D : List Int, D.length = L.length ∧ rd D 0 = 0 ∧ (∀ v : Int, 0 ≤ v → v < L.length → -1 ≤ rd D v ∧ rd D v ≤ 100 ∧ ∀ h ∈ hrs L v, (rd D v < 0 ↔ rd D h < 0) ∧ rd D h ≤ rd D v + 1 ∧ rd D v ≤ rd D h + 1) ∧ ∀ K, 2000 < K → impl_Relay.f K L 0 = some (D, true) := by
  have hf := hL.few
  have hp := hL.pos
  have hneg : ∀ x ∈ List.replicate L.length (-1 : Int), x < 0 := fun x hx => by rw [(List.mem_replicate.1 hx).2]; omega
  have hng0 := ng_all _ hneg
  rw [List.length_replicate] at hng0
  have hr := fun (j : Int) j0 j1 => rd_replicate (n := L.length) (x := -1) (i := j) j0 j1
  have hng := ng_set (v := 0) (by omega) (List.replicate L.length (-1)) 0 (by simp; omega) (by
    have := hr 0 (by omega) (by omega)
    rw [← rd_nat]; show rd _ 0 < 0; rw [this]; omega)
  have eq : rd ((List.replicate L.length (-1)).set 0 0) 0 = 0 := rd_set_eq (l := List.replicate L.length (-1)) (i := 0) (by omega) (by simp; omega)
  have ne : ∀ v : Int, 0 ≤ v → v < L.length → v ≠ 0 → rd ((List.replicate L.length (-1)).set 0 0) v = -1 := fun v v0 v1 hv => by
    have := rd_set_ne (l := List.replicate L.length (-1)) (i := 0) (j := v) (x := 0) (by omega) v0 (by omega)
    rw [show ((0 : Int).toNat) = 0 from rfl] at this
    rw [this, hr v v0 v1]
  have hlen : ((List.replicate L.length (-1 : Int)).set 0 0).length = L.length := by simp
  have hB : Bfs L ((List.replicate L.length (-1)).set 0 0) [0] := by
    generalize (List.replicate L.length (-1 : Int)).set 0 0 = D at eq ne hlen hng
    refine ⟨hlen, fun i i0 i1 => ?_, eq, fun x hx => ?_, List.pairwise_singleton _ _, fun x r he v v0 v1 => ?_, fun v v0 v1 hv hq => ?_, fun v v0 v1 => ?_⟩
    · by_cases c : i = 0
      · rw [c, eq]; omega
      · rw [ne i i0 i1 c]; omega
    · rw [List.mem_singleton] at hx
      rw [hx]; exact ⟨by omega, by omega, by rw [eq]; omega⟩
    · injection he with e1 e2
      subst e1
      rw [eq]
      by_cases c : v = 0
      · rw [c, eq]; omega
      · rw [ne v v0 v1 c]; omega
    · have : v ≠ 0 := fun e => hq (by rw [e]; simp)
      rw [ne v v0 v1 this] at hv; omega
    · by_cases c : v = 0
      · rw [c, eq]; omega
      · rw [ne v v0 v1 c]; omega
  obtain ⟨D, hD, hk⟩ := relay_loop L hL (1 + ng ((List.replicate L.length (-1)).set 0 0)) _ [0] rfl (by omega) hB
  refine ⟨D, hD.len, hD.z, fun v v0 v1 => ⟨hD.lo v v0 v1, by have := hD.num v v0 v1; omega, fun h hh => ?_⟩, fun K hK => ?_⟩
  · obtain ⟨s1, s2, s3, s4⟩ := hL.sym v h v0 v1 hh
    have l1 := hD.lo v v0 v1
    have l2 := hD.lo h s1 s2
    by_cases c : 0 ≤ rd D v
    · obtain ⟨n1, n2, n3⟩ := hD.don v v0 v1 c (by simp) h hh
      omega
    · by_cases c2 : 0 ≤ rd D h
      · obtain ⟨n1, n2, n3⟩ := hD.don h s1 s2 c2 (by simp) v s4
        omega
      · omega
  · unfold impl_Relay.f
    rw [rok_ok L hL K (by omega), Option.bind_some, if_pos rfl, in_ok, w64 (x := (L.length : Int) - 1) (by omega) (by omega), decide_eq_true (by omega), Option.bind_some]
    obtain ⟨K, rfl⟩ := pos_round (show 0 < K by omega)
    simp only [impl_Relay.j0]
    rw [if_neg (by simp), if_pos (by omega), if_pos (by omega), Option.bind_some, List.length_replicate, show ((L.length : Int)).toNat = L.length by omega]
    have e := fill_loop L L.length (by omega) hp L.length (List.replicate L.length 0) 0 (by omega) (by omega) (by omega) (by simp) (fun j j0 j1 => by omega) (K - L.length - 1)
    rw [show K - L.length - 1 + L.length + 1 = K by omega, hk _ (by omega)] at e
    exact e
/-! ### the law -/
theorem within_loop (l : List Int) (x : Int) (hl : l.length ≤ 1000) (d : Nat) : ∀ i : Int, 0 ≤ i → i ≤ l.length → (l.length : Int) - i = d → ∀ k, laws_within.l0 (k + d + 1) l x i = some (decide (x ∈ l.drop i.toNat)) := by
  induction d with
  | zero =>
    intro i h0 h1 hd k
    simp only [laws_within.l0]
    rw [if_neg (by omega), List.drop_of_length_le (by omega)]
    simp
  | succ d ih =>
    intro i h0 h1 hd k
    have hi : i < (l.length : Int) := by omega
    have e := ih (i + 1) (by omega) (by omega) (by omega) k
    rw [show k + (d + 1) + 1 = (k + d + 1) + 1 from rfl]
    obtain ⟨M, hM⟩ : ∃ M, M = k + d + 1 := ⟨_, rfl⟩
    rw [← hM] at e ⊢
    simp only [laws_within.l0]
    rw [if_pos hi, if_pos h0, w64 (x := i + 1) (by omega) (by omega), e, drop_rd h0 hi]
    by_cases c : rd l i = x
    · rw [if_pos c, decide_eq_true (by rw [c]; exact List.mem_cons_self ..)]
    · rw [if_neg c]
      congr 1
      rw [decide_eq_decide, List.mem_cons]
      constructor
      · exact .inr
      · exact fun h => h.resolve_left (fun e => c e.symm)
theorem within_ok (l : List Int) (x : Int) (hl : l.length ≤ 1000) (k : Nat) (hk : l.length < k) : laws_within.f k l x = some (decide (x ∈ l)) := by
  have e := within_loop l x hl l.length 0 (by omega) (by omega) (by omega) (k - l.length - 1)
  rw [show k - l.length - 1 + l.length + 1 = k by omega] at e
  unfold laws_within.f
  rw [e, Int.toNat_zero, List.drop_zero]
theorem law_inner (c : List Int) (L out : List S58) (C D : List Int) (hL : Rk L) (hS : Same L out) (hO : ∀ i : Int, 0 ≤ i → i < L.length → ∀ h ∈ hrs L i, slot out h ≠ slot out i) (hDl : D.length = L.length)
    (hD : ∀ v : Int, 0 ≤ v → v < L.length → -1 ≤ rd D v ∧ rd D v ≤ 100 ∧ ∀ h ∈ hrs L v, (rd D v < 0 ↔ rd D h < 0) ∧ rd D h ≤ rd D v + 1 ∧ rd D v ≤ rd D h + 1) (i : Int) (h0 : 0 ≤ i) (h1 : i < L.length) (d : Nat) : ∀ j : Int, 0 ≤ j → j ≤ (hrs L i).length → ((hrs L i).length : Int) - j = d →
    ∀ K, laws_FnSettled.l1 (K + d + 1) c L C out D i j = laws_FnSettled.l0 K c L C out D (i + 1) := by
  have hf := hL.few
  have hl9 := rk_len9 hL h0 h1
  have hSl := hS.1
  induction d with
  | zero =>
    intro j j0 j1 hd K
    simp only [laws_FnSettled.l1]
    rw [if_pos h0, if_pos h1, if_neg (by unfold hrs at hd; omega), w64 (x := i + 1) (by omega) (by omega)]
  | succ d ih =>
    intro j j0 j1 hd K
    have hj : j < ((hrs L i).length : Int) := by omega
    have e := ih (j + 1) (by omega) (by omega) (by omega) K
    obtain ⟨h, hh⟩ : ∃ h, rd (hrs L i) j = h := ⟨_, rfl⟩
    have hmem : h ∈ hrs L i := by rw [← hh]; exact rd_mem j0 hj
    obtain ⟨s1, s2, s3, s4⟩ := hL.sym i h h0 h1 hmem
    obtain ⟨d1, d2, d3⟩ := hD i h0 h1
    obtain ⟨d4, d5, d6⟩ := d3 h hmem
    obtain ⟨e1, e2, _⟩ := hD h s1 s2
    have hne := hO i h0 h1 h hmem
    have hh' : rd (rd_T58 L i).f2 j = h := hh
    have hj' : j < ((rd_T58 L i).f2.length : Int) := hj
    rw [show K + (d + 1) + 1 = (K + d + 1) + 1 from rfl]
    obtain ⟨M, hM⟩ : ∃ M, M = K + d + 1 := ⟨_, rfl⟩
    rw [← hM] at e ⊢
    simp only [laws_FnSettled.l1]
    rw [if_pos h0, if_pos h1, if_pos hj', if_pos j0, hh', if_pos s1, if_pos (by omega), if_pos (by omega), if_neg (by exact hne), if_pos (by omega), if_pos (by omega), if_neg ?_]
    · unfold laws_size.f
      rw [w64 (x := rd D i - rd D h) (by omega) (by omega), w64 (x := -(rd D i - rd D h)) (by omega) (by omega), w64 (x := j + 1) (by omega) (by omega)]
      by_cases cs : rd D i - rd D h < 0
      · rw [if_pos cs, Option.bind_some, if_neg (by omega)]; exact e
      · rw [if_neg cs, Option.bind_some, if_neg (by omega)]; exact e
    · by_cases cc : rd D i < 0
      · rw [decide_eq_true cc, decide_eq_true (d4.1 cc)]; simp
      · rw [decide_eq_false cc, decide_eq_false (fun x => cc (d4.2 x))]; simp
theorem law_loop (c : List Int) (hb : Bytes c) (hc : c.length ≤ 1048576) (L out : List S58) (D : List Int) (hL : Rk L) (hS : Same L out) (hO : ∀ i : Int, 0 ≤ i → i < L.length → ∀ h ∈ hrs L i, slot out h ≠ slot out i) (hK : ∀ i : Int, 0 ≤ i → i < L.length → clb L i ≠ true → slot out i = slot L i) (hDl : D.length = L.length)
    (hD : ∀ v : Int, 0 ≤ v → v < L.length → -1 ≤ rd D v ∧ rd D v ≤ 100 ∧ ∀ h ∈ hrs L v, (rd D v < 0 ↔ rd D h < 0) ∧ rd D h ≤ rd D v + 1 ∧ rd D v ≤ rd D h + 1) (d : Nat) : ∀ i : Int, 0 ≤ i → i ≤ L.length → (L.length : Int) - i = d →
    ∀ K, 1000 + 30 * d < K → laws_FnSettled.l0 K c L (CL L) out D i = some true := by
  have hf := hL.few
  have hp := hL.pos
  have hSl := hS.1
  have hCL : (CL L).length ≤ L.length := cls_len L L.length 0
  induction d with
  | zero =>
    intro i h0 h1 hd K hk
    obtain ⟨K, rfl⟩ := pos_round (show 0 < K by omega)
    have hat : laws_at.f c 4 = some (atV c 4) := at_some hb hc (by omega) (by omega)
    have hr := atV_range hb (i := 4) (by omega)
    obtain ⟨r, r0, r1, _, e⟩ := choose_ok L hL 0 (atV c 4) (by omega) (by omega) hr.1
    simp only [laws_FnSettled.l0]
    rw [if_neg (by omega), hat, Option.bind_some, e K (by omega), Option.bind_some]
    dsimp only
    rw [if_pos rfl, if_pos r0, decide_eq_true (by omega)]
  | succ d ih =>
    intro i h0 h1 hd K hk
    have hi : i < (L.length : Int) := by omega
    have hl9 := rk_len9 hL h0 hi
    have e := law_inner c L out (CL L) D hL hS hO hDl hD i h0 hi (hrs L i).length 0 (by omega) (by omega) (by omega) (K - (hrs L i).length - 3)
    rw [ih (i + 1) (by omega) (by omega) (by omega) _ (by omega)] at e
    obtain ⟨K, rfl⟩ : ∃ M, K = M + 2 := ⟨K - 2, by omega⟩
    rw [show K + 2 - (hrs L i).length - 3 + (hrs L i).length + 1 = K by omega] at e
    have e1 : laws_FnSettled.j3 (K + 1) c L (CL L) out D i false = some true := by
      simp only [laws_FnSettled.j3]
      rw [if_neg (by simp)]
      exact e
    have hid : ((rd_T58 out i).f0 != (rd_T58 L i).f0) = false := by
      rw [(hS.2 i h0 hi).1]; simp
    rw [show K + 2 = (K + 1) + 1 from rfl]
    obtain ⟨M, hM⟩ : ∃ M, M = K + 1 := ⟨_, rfl⟩
    rw [← hM] at e1 ⊢
    simp only [laws_FnSettled.l0]
    rw [if_pos (by omega), within_ok (CL L) i (by omega) M (by omega), Option.bind_some, hid, e1, if_pos h0, if_pos hi, if_pos h0, if_pos hi]
    by_cases cm : i ∈ CL L
    · rw [decide_eq_true cm, if_pos rfl]
    · rw [decide_eq_false cm, if_neg (by simp), if_pos]
      exact hK i h0 hi (fun hc => cm ((cls_mem L.length 0).2 ⟨h0, by omega, hc⟩))
theorem FnSettled : laws_FnSettled.Pure := by
  intro c _ _ hw
  have hb := bytes_of hw
  by_cases hn : (c.length : Int) > 1048576
  · refine ⟨1, ?_⟩
    unfold laws_FnSettled.f laws_big.f
    rw [Option.bind_some, if_pos (decide_eq_true hn)]
  · have hc : c.length ≤ 1048576 := by omega
    obtain ⟨K, L, coins, hLst, hcl, hcr, hdr⟩ := drawn c hc
    have hL := rk_of hLst
    have hf := hL.few
    have hp := hL.pos
    have hCLl : (CL L).length ≤ L.length := cls_len L L.length 0
    obtain ⟨out, u, o1, o2, o3, o4, o5, o6⟩ := settle_ok L hL coins hcl (fun x hx => (hcr x hx).1)
    obtain ⟨D, r1, r2, r3, r4⟩ := relay_ok L hL
    have hO : ∀ i : Int, 0 ≤ i → i < L.length → ∀ h ∈ hrs L i, slot out h ≠ slot out i := fun i h0 h1 h hh e => by
      have : clb out i = true := clb_iff.2 ⟨h, by rw [(o2.2 i h0 h1).2]; exact hh, e⟩
      have hm : i ∈ CL out := (cls_mem out.length 0).2 ⟨h0, by have := o2.1; omega, this⟩
      rw [o4] at hm; simp at hm
    have hl := law_loop c hb hc L out D hL o2 hO o3 r1 r3 L.length 0 (by omega) (by omega) (by omega) (K + 10000) (by omega)
    refine ⟨K + 10000 + 2, ?_⟩
    unfold laws_FnSettled.f laws_big.f
    rw [Option.bind_some, if_neg (by rw [decide_eq_false hn]; simp), hdr _ (by omega), Option.bind_some]
    dsimp only
    rw [clash_ok L hL _ (by omega), Option.bind_some, o6 _ (by omega), Option.bind_some]
    dsimp only
    rw [rok_ok L hL _ (by omega), Option.bind_some, if_pos rfl, if_pos rfl, if_pos (by have := o2.1; omega), if_neg (by omega), if_neg (by omega), clash_ok out o1 _ (by omega), Option.bind_some, o4]
    rw [show K + 10000 + 2 = (K + 10000 + 1) + 1 from rfl]
    simp only [laws_FnSettled.j0]
    rw [if_neg (by simp), r4 _ (by omega), Option.bind_some]
    dsimp only
    rw [if_pos rfl, if_pos (by omega), if_pos (by omega), r2]
    simp only [laws_FnSettled.j1]
    rw [if_neg (by simp)]
    exact hl

end Go.Proofs.Ytbhdnhpkpbhilaa.Pure
