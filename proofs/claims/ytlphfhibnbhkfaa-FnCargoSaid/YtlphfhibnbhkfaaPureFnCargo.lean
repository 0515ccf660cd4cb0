/- Over drawn ops the cargo changes by what was filled and emptied; no step that was done leaves a tank it names that may burn: for each byte list as code. -/
import Derived.Test.YtlphfhibnbhkfaaPFnCargox7
import Derived.Test.YtlphfhibnbhkfaaVCargoKit
set_option linter.unusedVariables false
set_option linter.unusedSimpArgs false
namespace Go.Proofs.Ytlphfhibnbhkfaa.Pure
open Go.RowKit Go.Proofs.Ytlphfhibnbhkfaa.PFnCargo Go.Proofs.YtlphfhibnbhkfaaW.PrintWords Go.Proofs.YtlphfhibnbhkfaaW.PrintLast Go.Proofs.YtlphfhibnbhkfaaW.PrintMore Go.Proofs.YtlphfhibnbhkfaaW.Kit

theorem rd63_lt {l : List S63} {i : Int} (h0 : 0 ≤ i) (h1 : i < l.length) : ∃ h : i.toNat < l.length, rd_T63 l i = l[i.toNat]'h := by
  have h : i.toNat < l.length := by omega
  exact ⟨h, by simp [rd_T63, List.getD_eq_getElem?_getD, List.getElem?_eq_getElem h]⟩
theorem rd63_mem {l : List S63} {i : Int} (h0 : 0 ≤ i) (h1 : i < l.length) : rd_T63 l i ∈ l := by
  obtain ⟨h, e⟩ := rd63_lt h0 h1
  rw [e]; exact List.getElem_mem h
theorem rd63_drop {l : List S63} {i : Int} (h0 : 0 ≤ i) (h1 : i < l.length) : l.drop i.toNat = rd_T63 l i :: l.drop (i + 1).toNat := by
  obtain ⟨h, e⟩ := rd63_lt h0 h1
  rw [e, show (i + 1).toNat = i.toNat + 1 by omega, List.drop_eq_getElem_cons h]
theorem rd63_take {l : List S63} {i : Int} (h0 : 0 ≤ i) (h1 : i < l.length) : l.take (i + 1).toNat = l.take i.toNat ++ [rd_T63 l i] := by
  obtain ⟨h, e⟩ := rd63_lt h0 h1
  rw [e, show (i + 1).toNat = i.toNat + 1 by omega, List.take_succ_eq_append_getElem h]
theorem rd63_set_eq {l : List S63} {i : Int} {x : S63} (h0 : 0 ≤ i) (h1 : i < l.length) : rd_T63 (l.set i.toNat x) i = x := by
  simp [rd_T63, List.getD_eq_getElem?_getD, List.getElem?_set, show i.toNat < l.length by omega]
theorem rd63_set_ne {l : List S63} {i j : Int} {x : S63} (h0 : 0 ≤ i) (hj : 0 ≤ j) (h : i ≠ j) : rd_T63 (l.set i.toNat x) j = rd_T63 l j := by
  simp [rd_T63, List.getD_eq_getElem?_getD, List.getElem?_set, show ¬ i.toNat = j.toNat by omega]
theorem rd63_append_left {l m : List S63} {i : Int} (h0 : 0 ≤ i) (h1 : i < l.length) : rd_T63 (l ++ m) i = rd_T63 l i := by
  simp [rd_T63, List.getD_eq_getElem?_getD, List.getElem?_append_left (show i.toNat < l.length by omega)]
theorem rd63_last {l : List S63} {x : S63} : rd_T63 (l ++ [x]) (l.length : Int) = x := by
  simp [rd_T63, List.getD_eq_getElem?_getD]
theorem ext63 {l m : List S63} (h : l.length = m.length) (hr : ∀ i : Int, 0 ≤ i → i < l.length → rd_T63 l i = rd_T63 m i) : l = m := by
  apply List.ext_getElem h
  intro i h1 h2
  have := hr i (by omega) (by omega)
  simpa [rd_T63, List.getD_eq_getElem?_getD, List.getElem?_eq_getElem h1, List.getElem?_eq_getElem h2] using this
theorem mask_nat (x : Int) (i : Nat) (hi : i ≤ 62) : Go.bits .and .i64 x ((2 ^ i - 1 : Nat) : Int) = x % ((2 ^ i : Nat) : Int) := by
  have hp : 0 < 2 ^ i := Nat.two_pow_pos i
  have h62 : 2 ^ i ≤ 2 ^ 62 := Nat.pow_le_pow_right (by decide) hi
  have e62 : (2 : Nat) ^ 62 = 4611686018427387904 := by decide
  rw [e62] at h62
  have hm : (2 ^ i - 1) % 2 ^ 64 = 2 ^ i - 1 := Nat.mod_eq_of_lt (by have : (2:Nat)^64 = 18446744073709551616 := by decide
                                                                     omega)
  have hd : ((2 ^ i : Nat) : Int) ∣ 18446744073709551616 := by
    have : (2 : Nat) ^ i ∣ 2 ^ 64 := Nat.pow_dvd_pow 2 (by omega)
    have h2 : (2 : Nat) ^ 64 = 18446744073709551616 := by decide
    rw [h2] at this
    exact Int.natCast_dvd_natCast.2 this
  show IntKind.i64.wrap ((BitVec.ofInt 64 x &&& BitVec.ofInt 64 ((2 ^ i - 1 : Nat) : Int)).toNat : Int) = _
  rw [BitVec.toNat_and, BitVec.ofInt_natCast, BitVec.toNat_ofNat, hm, Nat.and_two_pow_sub_one_eq_mod, BitVec.toNat_ofInt, IntKind.wrap_i64]
  have hx : 0 ≤ x % 18446744073709551616 := Int.emod_nonneg _ (by decide)
  have e : (((x % ((2 ^ 64 : Nat) : Int)).toNat % 2 ^ i : Nat) : Int) = x % ((2 ^ i : Nat) : Int) := by
    rw [Int.natCast_emod, show (((2 ^ 64 : Nat) : Int)) = 18446744073709551616 by decide, Int.toNat_of_nonneg hx, Int.emod_emod_of_dvd _ hd]
  rw [e]
  have h1 := Int.emod_nonneg x (show ((2 ^ i : Nat) : Int) ≠ 0 by omega)
  have h2 := Int.emod_lt_of_pos x (show (0 : Int) < ((2 ^ i : Nat) : Int) by omega)
  generalize x % ((2 ^ i : Nat) : Int) = r at h1 h2 ⊢
  omega
theorem mask24 (x : Int) : Go.bits .and .i64 x 16777215 = x % 16777216 := mask_nat x 24 (by decide)
theorem mask16 (x : Int) : Go.bits .and .i64 x 65535 = x % 65536 := mask_nat x 16 (by decide)
theorem mask8 (x : Int) : Go.bits .and .i64 x 255 = x % 256 := mask_nat x 8 (by decide)
theorem mask30 (x : Int) : Go.bits .and .i64 x 1073741823 = x % 1073741824 := mask_nat x 30 (by decide)
/-! ### the drawn values: a place in the bytes that stays in its row, and values that stay in their range -/
/-- The cursor's place is in the row. -/
def InRow (c : List Int) (p : Int) : Prop := 0 ≤ p ∧ p ≤ (c.length : Int)
theorem new_loop (c : List Int) (hc : c.length ≤ 1048576) (d : Nat) : ∀ (s i : Int), 0 ≤ i → i ≤ 4000 → 4000 - i = d → ∃ r, ∀ k, d < k → spec_l1New.l0 k c s i = some (c, 0, r) := by
  induction d with
  | zero =>
    intro s i h0 h1 hd
    refine ⟨s, fun k hk => ?_⟩
    obtain ⟨k, rfl⟩ := pos_round (show 0 < k by omega)
    simp only [spec_l1New.l0]
    by_cases h : i < (c.length : Int)
    · rw [if_pos h, if_neg (by omega)]
    · rw [if_neg h]
  | succ d ih =>
    intro s i h0 h1 hd
    by_cases h : i < (c.length : Int)
    · obtain ⟨r, hr⟩ := ih (Go.bits .and .i64 (wrap64 ((wrap64 ((wrap64 (s * 131)) + (wrap64 (rd c i)))) + 7)) 1073741823) (i + 1) (by omega) (by omega) (by omega)
      refine ⟨r, fun k hk => ?_⟩
      obtain ⟨k, rfl⟩ := pos_round (show 0 < k by omega)
      simp only [spec_l1New.l0]
      rw [if_pos h, if_pos (by omega), if_pos h0, w64 (x := i + 1) (by omega) (by omega)]
      exact hr k (by omega)
    · refine ⟨s, fun k hk => ?_⟩
      obtain ⟨k, rfl⟩ := pos_round (show 0 < k by omega)
      simp only [spec_l1New.l0]
      rw [if_neg h]
theorem new_ok (c : List Int) (hc : c.length ≤ 1048576) : ∃ r, ∀ k, 4000 < k → spec_l1New.f k c = some (c, 0, r) := by
  obtain ⟨r, hr⟩ := new_loop c hc 4000 (wrap64 (59059 + (c.length : Int))) 0 (by omega) (by omega) (by omega)
  exact ⟨r, hr⟩
theorem byte_ok (c : List Int) (hc : c.length ≤ 1048576) {p : Int} (hp : InRow c p) (s : Int) : ∃ b p' s', spec_l1Byte.f c p s = some (b, p', s') ∧ 0 ≤ b ∧ b ≤ 255 ∧ InRow c p' := by
  unfold spec_l1Byte.f
  obtain ⟨h0, h1⟩ := hp
  by_cases h : p < (c.length : Int)
  · rw [if_pos h, if_pos h0, w64 (x := p + 1) (by omega) (by omega)]
    refine ⟨_, _, _, rfl, ?_, ?_, by constructor <;> omega⟩ <;> rw [mask8] <;> omega
  · rw [if_neg h]
    refine ⟨_, _, _, rfl, ?_, ?_, by constructor <;> omega⟩ <;> rw [mask8] <;> omega
theorem below_ok (c : List Int) (hc : c.length ≤ 1048576) {p : Int} (hp : InRow c p) (s : Int) (n : Int) : ∃ r p' s', spec_l1Below.f c p s n = some (r, p', s') ∧ 0 ≤ r ∧ (0 < n → r < n) ∧ (n ≤ 0 → r = 0) ∧ InRow c p' := by
  unfold spec_l1Below.f
  by_cases h : n ≤ 0
  · rw [if_pos h]
    exact ⟨0, p, s, rfl, by omega, by omega, fun _ => rfl, hp⟩
  · rw [if_neg h]
    by_cases h2 : n ≤ 256
    · obtain ⟨b, p1, s1, e, b0, b1, hp1⟩ := byte_ok c hc hp s
      rw [if_pos h2, e, Option.bind_some, if_neg (by omega)]
      refine ⟨_, _, _, rfl, ?_, ?_, fun _ => by omega, hp1⟩ <;> rw [tm b0]
      · exact Int.emod_nonneg _ (by omega)
      · intro _; exact Int.emod_lt_of_pos _ (by omega)
    · obtain ⟨b, p1, s1, e, b0, b1, hp1⟩ := byte_ok c hc hp s
      obtain ⟨b', p2, s2, e2, b0', b1', hp2⟩ := byte_ok c hc hp1 s1
      obtain ⟨b'', p3, s3, e3, b0'', b1'', hp3⟩ := byte_ok c hc hp2 s2
      obtain ⟨b3, p4, s4, e4, b03, b13, hp4⟩ := byte_ok c hc hp3 s3
      rw [if_neg h2, e, Option.bind_some]
      dsimp only
      rw [e2, Option.bind_some]
      dsimp only
      rw [e3, Option.bind_some]
      dsimp only
      rw [e4, Option.bind_some, if_neg (by omega)]
      dsimp only
      rw [w64 (x := b * 16777216) (by omega) (by omega), w64 (x := b' * 65536) (by omega) (by omega), w64 (x := b'' * 256) (by omega) (by omega), w64 (x := b * 16777216 + b' * 65536) (by omega) (by omega), w64 (x := b * 16777216 + b' * 65536 + b'' * 256) (by omega) (by omega), w64 (by omega) (by omega), tm (by omega)]
      exact ⟨_, _, _, rfl, Int.emod_nonneg _ (by omega), fun _ => Int.emod_lt_of_pos _ (by omega), fun _ => by omega, hp4⟩
/-! ### the numbers behind the draws: from each state each other is come to -/
/-- One step, without bounds. -/
def Fn : Nat → Int → Int
  | 0, x => x
  | n + 1, x => Fn n (6364136223846793005 * x + 1442695040888963407)
theorem Fn_add (n m : Nat) : ∀ x, Fn (n + m) x = Fn m (Fn n x) := by
  induction n with
  | zero => intro x; rw [Nat.zero_add]; rfl
  | succ n ih => intro x; rw [Nat.succ_add]; exact ih _
theorem Fn_off (n : Nat) : ∀ x d, Fn n (x + d) = Fn n x + 6364136223846793005 ^ n * d := by
  induction n with
  | zero => intro x d; simp [Fn]
  | succ n ih =>
    intro x d
    show Fn n (6364136223846793005 * (x + d) + 1442695040888963407) = Fn n (6364136223846793005 * x + 1442695040888963407) + _
    rw [show 6364136223846793005 * (x + d) + 1442695040888963407 = (6364136223846793005 * x + 1442695040888963407) + 6364136223846793005 * d by omega, ih, Int.pow_succ, Int.mul_assoc]
theorem pow_four (n : Nat) : ∃ w : Int, 6364136223846793005 ^ n = 1 + 4 * w := by
  induction n with
  | zero => exact ⟨0, by simp⟩
  | succ n ih =>
    obtain ⟨w, hw⟩ := ih
    refine ⟨w + 1591034055961698251 + 4 * (w * 1591034055961698251), ?_⟩
    rw [Int.pow_succ, hw]
    omega
theorem Fn_dbl (k : Nat) : ∀ x : Int, ∃ u : Int, Fn (2 ^ k) x = x + 2 ^ k * u ∧ u % 2 = 1 := by
  induction k with
  | zero =>
    intro x
    refine ⟨6364136223846793004 * x + 1442695040888963407, ?_, by omega⟩
    show 6364136223846793005 * x + 1442695040888963407 = x + 1 * _
    omega
  | succ k ih =>
    intro x
    obtain ⟨u, hu, h1⟩ := ih x
    obtain ⟨w, hw⟩ := pow_four (2 ^ k)
    refine ⟨u * (1 + 2 * w), ?_, ?_⟩
    · rw [Nat.pow_succ, Nat.mul_two, Fn_add, hu, Fn_off, hu, hw, Int.pow_succ]
      generalize (2 : Int) ^ k = P
      rw [show (1 + 4 * w) * (P * u) = P * u + 4 * (w * (P * u)) by rw [Int.add_mul, Int.one_mul, Int.mul_assoc], show P * 2 * (u * (1 + 2 * w)) = 2 * (P * u) + 4 * (w * (P * u)) by
        rw [Int.mul_add, Int.mul_one, Int.mul_add, show P * 2 * u = 2 * (P * u) by rw [Int.mul_comm P 2, Int.mul_assoc], show P * 2 * (u * (2 * w)) = 4 * (w * (P * u)) by
          rw [Int.mul_comm P 2, Int.mul_assoc, ← Int.mul_assoc u 2 w, Int.mul_comm u 2, Int.mul_assoc 2 u w, ← Int.mul_assoc P 2, Int.mul_comm P 2, Int.mul_assoc 2 P, ← Int.mul_assoc P u w, Int.mul_comm (P * u) w]
          omega]]
      omega
    · obtain ⟨p, rfl⟩ : ∃ p, u = 2 * p + 1 := ⟨u / 2, by omega⟩
      rw [show (2 * p + 1) * (1 + 2 * w) = 2 * (p * (1 + 2 * w) + w) + 1 by
        rw [Int.add_mul, Int.mul_assoc]; omega]
      omega
theorem Fn_reach (k : Nat) : ∀ x t : Int, ∃ (n : Nat) (q : Int), Fn n x = t + 2 ^ k * q := by
  induction k with
  | zero => intro x t; exact ⟨0, x - t, by show x = t + 1 * (x - t); omega⟩
  | succ k ih =>
    intro x t
    obtain ⟨n, q, h⟩ := ih x t
    by_cases e : q % 2 = 0
    · obtain ⟨p, rfl⟩ : ∃ p, q = 2 * p := ⟨q / 2, by omega⟩
      exact ⟨n, p, by rw [h, Int.pow_succ, Int.mul_assoc]⟩
    · obtain ⟨u, hu, h1⟩ := Fn_dbl k (Fn n x)
      obtain ⟨p, hp⟩ : ∃ p, q + u = 2 * p := ⟨(q + u) / 2, by omega⟩
      refine ⟨n + 2 ^ k, p, ?_⟩
      rw [Fn_add, hu, h, Int.pow_succ, Int.mul_assoc, ← hp, Int.mul_add, Int.add_assoc]
/-- The state behind one byte. -/
def nx (s : Int) : Int := wrap64 ((wrap64 (s * 6364136223846793005)) + 1442695040888963407)
def nxn : Nat → Int → Int
  | 0, s => s
  | n + 1, s => nxn n (nx s)
theorem nxn_add (n m : Nat) : ∀ s, nxn (n + m) s = nxn m (nxn n s) := by
  induction n with
  | zero => intro s; rw [Nat.zero_add]; rfl
  | succ n ih => intro s; rw [Nat.succ_add]; exact ih _
def In64 (s : Int) : Prop := -9223372036854775808 ≤ s ∧ s ≤ 9223372036854775807
theorem nx_in (s : Int) : In64 (nx s) := by unfold nx wrap64 In64; omega
theorem nx_F (s : Int) : ∃ q : Int, nx s = (6364136223846793005 * s + 1442695040888963407) + 18446744073709551616 * q := by
  unfold nx wrap64
  exact ⟨((s * 6364136223846793005 + 9223372036854775808) % 18446744073709551616 - 9223372036854775808 + 1442695040888963407 + 9223372036854775808) % 18446744073709551616 / 18446744073709551616 - (s * 6364136223846793005 + 9223372036854775808) / 18446744073709551616 - ((s * 6364136223846793005 + 9223372036854775808) % 18446744073709551616 - 9223372036854775808 + 1442695040888963407 + 9223372036854775808) / 18446744073709551616, by omega⟩
theorem nxn_F (n : Nat) : ∀ s, In64 s → In64 (nxn n s) ∧ ∃ q : Int, nxn n s = Fn n s + 18446744073709551616 * q := by
  induction n with
  | zero => intro s hs; exact ⟨hs, 0, by simp [nxn, Fn]⟩
  | succ n ih =>
    intro s _
    obtain ⟨h, q, hq⟩ := ih (nx s) (nx_in s)
    refine ⟨h, ?_⟩
    obtain ⟨p, hp⟩ := nx_F s
    refine ⟨q + 6364136223846793005 ^ n * p, ?_⟩
    show nxn n (nx s) = Fn n (6364136223846793005 * s + 1442695040888963407) + _
    rw [hq, hp, Fn_off, Int.mul_add, show (6364136223846793005 : Int) ^ n * (18446744073709551616 * p) = 18446744073709551616 * (6364136223846793005 ^ n * p) by rw [← Int.mul_assoc, Int.mul_comm _ 18446744073709551616, Int.mul_assoc]]
    omega
theorem nx_reach (s t : Int) (ht : In64 t) : ∃ n, nxn n (nx s) = t := by
  obtain ⟨n, q, h⟩ := Fn_reach 64 (nx s) t
  obtain ⟨hr, p, hp⟩ := nxn_F n (nx s) (nx_in s)
  refine ⟨n, ?_⟩
  rw [h] at hp
  have : (2 : Int) ^ 64 = 18446744073709551616 := by decide
  rw [this] at hp
  unfold In64 at *
  omega
/-! ### the draws, step by step: each byte is one step of the numbers -/
def adv (c : List Int) : Nat → Int → Int
  | 0, p => p
  | n + 1, p => adv c n (if p < (c.length : Int) then p + 1 else p)
theorem adv_in (c : List Int) (n : Nat) : ∀ p, InRow c p → InRow c (adv c n p) := by
  induction n with
  | zero => intro p h; exact h
  | succ n ih =>
    intro p h
    refine ih _ ?_
    unfold InRow at *
    split <;> omega
theorem adv_add (c : List Int) (n m : Nat) : ∀ p, adv c (n + m) p = adv c m (adv c n p) := by
  induction n with
  | zero => intro p; rw [Nat.zero_add]; rfl
  | succ n ih => intro p; rw [Nat.succ_add]; exact ih _
theorem adv_len (c : List Int) (n : Nat) : adv c n (c.length : Int) = (c.length : Int) := by
  induction n with
  | zero => rfl
  | succ n ih => show adv c n (if _ then _ else _) = _; rw [if_neg (by omega), ih]
theorem adv_le (c : List Int) (n : Nat) : ∀ p, p ≤ adv c n p := by
  induction n with
  | zero => intro p; exact Int.le_refl _
  | succ n ih =>
    intro p
    have := ih (if p < (c.length : Int) then p + 1 else p)
    show p ≤ adv c n (if p < (c.length : Int) then p + 1 else p)
    split at this
    · rename_i h; rw [if_pos h]; omega
    · rename_i h; rw [if_neg h]; exact this
theorem adv_lt (c : List Int) (n : Nat) (p : Int) (h : p < (c.length : Int)) : p < adv c (n + 1) p := by
  show p < adv c n (if p < (c.length : Int) then p + 1 else p)
  rw [if_pos h]
  have := adv_le c n (p + 1)
  omega
/-- The byte that a state yields where the code's bytes are used up. -/
def by8 (s : Int) : Int := Go.bits .and .i64 (Go.bits .xor .i64 ((nx s) / 8589934592) ((nx s) / 35184372088832)) 255
theorem byte_st (c : List Int) (hc : c.length ≤ 1048576) {p : Int} (hp : InRow c p) (s : Int) : ∃ b, spec_l1Byte.f c p s = some (b, adv c 1 p, nx s) ∧ 0 ≤ b ∧ b ≤ 255 ∧ (p = (c.length : Int) → b = by8 s) := by
  unfold spec_l1Byte.f
  obtain ⟨h0, h1⟩ := hp
  by_cases h : p < (c.length : Int)
  · rw [if_pos h, if_pos h0, w64 (x := p + 1) (by omega) (by omega)]
    refine ⟨_, by show some (_, _, _) = some (_, adv c 0 (if _ then _ else _), _); rw [if_pos h]; rfl, ?_, ?_, fun e => by omega⟩ <;> rw [mask8] <;> omega
  · rw [if_neg h]
    refine ⟨_, by show some (_, _, _) = some (_, adv c 0 (if _ then _ else _), _); rw [if_neg h]; rfl, ?_, ?_, fun _ => rfl⟩ <;> unfold by8 <;> rw [mask8] <;> omega
theorem below_st (c : List Int) (hc : c.length ≤ 1048576) {p : Int} (hp : InRow c p) (s n : Int) (h1 : 1 ≤ n) (h2 : n ≤ 256) : ∃ r, spec_l1Below.f c p s n = some (r, adv c 1 p, nx s) ∧ 0 ≤ r ∧ r < n ∧ (p = (c.length : Int) → r = by8 s % n) := by
  obtain ⟨b, e, b0, b1, b2⟩ := byte_st c hc hp s
  unfold spec_l1Below.f
  rw [if_neg (by omega), if_pos h2, e, Option.bind_some, if_neg (by omega)]
  dsimp only
  rw [tm b0]
  exact ⟨_, rfl, Int.emod_nonneg _ (by omega), Int.emod_lt_of_pos _ (by omega), fun h => by rw [b2 h]⟩
theorem below_at (c : List Int) (hc : c.length ≤ 1048576) {p : Int} (hp : InRow c p) (s : Int) (j : Nat) (n : Int) (h1 : 1 ≤ n) (h2 : n ≤ 256) : ∃ r, spec_l1Below.f c (adv c j p) (nxn j s) n = some (r, adv c (j + 1) p, nxn (j + 1) s) ∧ 0 ≤ r ∧ r < n ∧ (p = (c.length : Int) → r = by8 (nxn j s) % n) := by
  obtain ⟨r, e, r0, r1, r2⟩ := below_st c hc (adv_in c j p hp) (nxn j s) n h1 h2
  refine ⟨r, ?_, r0, r1, fun h => r2 (by rw [h, adv_len])⟩
  rw [e, adv_add, nxn_add]; rfl
theorem pickI_at (c : List Int) (hc : c.length ≤ 1048576) {p : Int} (hp : InRow c p) (s : Int) (j : Nat) (l : List Int) (hl : 0 < l.length) (hl2 : l.length ≤ 256) : ∃ r, spec_l1PickInt.f c (adv c j p) (nxn j s) l = some (r, adv c (j + 1) p, nxn (j + 1) s) := by
  obtain ⟨b, e, b0, b1, _⟩ := below_at c hc hp s j (l.length : Int) (by omega) (by omega)
  unfold spec_l1PickInt.f
  rw [e, Option.bind_some]
  dsimp only
  rw [if_pos b0, if_pos b1]
  exact ⟨_, rfl⟩
/-! ### what is answered from some round on -/
def Ev {α : Type} (f : Nat → Option α) (v : α) : Prop := ∃ M, ∀ k, M < k → f k = some v
theorem Ev.of {α : Type} {f : Nat → Option α} {v : α} (h : ∀ k, f k = some v) : Ev f v := ⟨0, fun k _ => h k⟩
theorem Ev.succ {α : Type} {f : Nat → Option α} {v : α} (h : Ev (fun k => f (k + 1)) v) : Ev f v := by
  obtain ⟨M, h⟩ := h
  refine ⟨M + 1, fun k hk => ?_⟩
  obtain ⟨k, rfl⟩ := pos_round (show 0 < k by omega)
  exact h k (by omega)
theorem Ev.bind {α β : Type} {f : Nat → Option α} {g : Nat → α → Option β} {v : α} {w : β} (h1 : Ev f v) (h2 : Ev (fun k => g k v) w) : Ev (fun k => (f k).bind (g k)) w := by
  obtain ⟨M, h1⟩ := h1
  obtain ⟨N, h2⟩ := h2
  refine ⟨M + N, fun k hk => ?_⟩
  show (f k).bind (g k) = some w
  rw [h1 k (by omega)]
  exact h2 k (by omega)
theorem Ev.to {α : Type} {f g : Nat → Option α} {v : α} (h : Ev g v) (e : ∀ k, f k = g k) : Ev f v := by
  obtain ⟨M, h⟩ := h
  exact ⟨M, fun k hk => by rw [e k]; exact h k hk⟩
theorem Ev.get {α : Type} {f : Nat → Option α} {v : α} (h : Ev f v) : ∃ k, f k = some v := by
  obtain ⟨M, h⟩ := h
  exact ⟨M + 1, h _ (by omega)⟩
theorem getD_at {α : Type} {z : α} {l : List α} {i : Nat} (h : i < l.length) : l.getD i z = l[i] := by
  simp [List.getD_eq_getElem?_getD, List.getElem?_eq_getElem h]
/-- All of a list are right, told from its end. -/
theorem all_down {α : Type} (l : List α) (p : α → Bool) (L : Nat → Int → Option Bool) (b0 : Bool)
    (h : ∀ (i : Nat) (hi : i < l.length) (b : Bool), (p l[i] = true → Ev (fun k => L k ((i + 1 : Nat) : Int)) b) → Ev (fun k => L k (i : Int)) (p l[i] && b)) (d : Nat) :
    ∀ i : Nat, i ≤ l.length → l.length - i = d → ((l.drop i).all p = true → Ev (fun k => L k (l.length : Int)) b0) → Ev (fun k => L k (i : Int)) ((l.drop i).all p && b0) := by
  induction d with
  | zero =>
    intro i h1 hd hE
    obtain rfl : i = l.length := by omega
    rw [List.drop_eq_nil_of_le (Nat.le_refl _)] at hE ⊢
    exact hE rfl
  | succ d ih =>
    intro i h1 hd hE
    have hi : i < l.length := by omega
    rw [List.drop_eq_getElem_cons hi, List.all_cons, Bool.and_assoc]
    refine h i hi _ fun hp => ih (i + 1) (by omega) (by omega) fun ha => hE ?_
    rw [List.drop_eq_getElem_cons hi, List.all_cons, hp, ha]; rfl
theorem all_down0 {α : Type} (l : List α) (p : α → Bool) (L : Nat → Int → Option Bool) (b0 : Bool)
    (h : ∀ (i : Nat) (hi : i < l.length) (b : Bool), (p l[i] = true → Ev (fun k => L k ((i + 1 : Nat) : Int)) b) → Ev (fun k => L k (i : Int)) (p l[i] && b))
    (hE : l.all p = true → Ev (fun k => L k (l.length : Int)) b0) : Ev (fun k => L k 0) (l.all p && b0) := by
  have := all_down l p L b0 h l.length 0 (by omega) (by omega) (by simpa using hE)
  simpa using this
theorem pickI_ok (c : List Int) (hc : c.length ≤ 1048576) {p : Int} (hp : InRow c p) (s : Int) (l : List Int) (hl : 0 < l.length) : ∃ r p' s', spec_l1PickInt.f c p s l = some (r, p', s') ∧ r ∈ l ∧ InRow c p' := by
  obtain ⟨b, p1, s1, e, b0, b1, _, hp1⟩ := below_ok c hc hp s (l.length : Int)
  have := b1 (by omega)
  unfold spec_l1PickInt.f
  rw [e, Option.bind_some]
  dsimp only
  rw [if_pos b0, if_pos this]
  exact ⟨_, _, _, rfl, rd_mem b0 this, hp1⟩
theorem wn {i : Nat} (h : i < 9223372036854775807) : wrap64 ((i : Int) + 1) = ((i + 1 : Nat) : Int) := w64 (by omega) (by omega)
theorem T_nat {l : List S63} {i : Nat} (h : i < l.length) : rd_T63 l (i : Int) = l[i] := by simp [rd_T63, List.getD_eq_getElem?_getD, List.getElem?_eq_getElem h]
theorem O_nat {l : List S61} {i : Nat} (h : i < l.length) : rd_T61 l (i : Int) = l[i] := by simp [rd_T61, List.getD_eq_getElem?_getD, List.getElem?_eq_getElem h]
/-! ### right tanks -/
def TOk (t : S63) : Prop := 0 ≤ t.f0 ∧ t.f0 ≤ t.f1 ∧ t.f1 ≤ 100000 ∧ -50 ≤ t.f2 ∧ t.f2 ≤ 50 ∧ 0 ≤ t.f3 ∧ t.f3 ≤ 1000 ∧ 0 ≤ t.f4 ∧ t.f4 ≤ 1000 ∧ t.f3 + t.f4 ≤ 1000
def tB (t : S63) : Bool := decide (0 ≤ t.f0 ∧ t.f0 ≤ t.f1 ∧ t.f1 ≤ 100000 ∧ -50 ≤ t.f2 ∧ t.f2 ≤ 50 ∧ 0 ≤ t.f3 ∧ t.f3 ≤ 1000 ∧ 0 ≤ t.f4 ∧ t.f4 ≤ 1000 ∧ t.f3 + t.f4 ≤ 1000)
theorem tB_iff (t : S63) : tB t = true ↔ TOk t := decide_eq_true_iff
def okb (L : List S63) : Bool := L.all tB && decide (1 ≤ L.length ∧ L.length ≤ 12)
def Right (L : List S63) : Prop := 1 ≤ L.length ∧ L.length ≤ 12 ∧ ∀ t ∈ L, TOk t
theorem okb_iff (L : List S63) : okb L = true ↔ Right L := by
  unfold okb Right
  rw [Bool.and_eq_true, List.all_eq_true, decide_eq_true_iff]
  constructor
  · rintro ⟨a, b, c⟩; exact ⟨b, c, fun t h => (tB_iff t).1 (a t h)⟩
  · rintro ⟨b, c, a⟩; exact ⟨fun t h => (tB_iff t).2 (a t h), b, c⟩
theorem l1In_some (a b c : Int) : spec_l1In.f a b c = some (decide (b ≤ a ∧ a ≤ c)) := by
  unfold spec_l1In.f
  by_cases h : a ≥ b
  · rw [if_pos h]; simp [show b ≤ a from h]
  · rw [if_neg h]; simp; omega
theorem in_is (a b c : Int) : impl_in.f a b c = some (decide (b ≤ a ∧ a ≤ c)) := by
  unfold impl_in.f
  by_cases h : a ≥ b
  · rw [if_pos h]; simp [show b ≤ a from h]
  · rw [if_neg h]; simp; omega
theorem tank_one (t : S63) : impl_TanksOk_1.f t.f0 t.f1 t.f2 t.f3 t.f4 = some (!tB t) := by
  unfold impl_TanksOk_1.f tB
  rw [in_is, Option.bind_some]
  by_cases c1 : 0 ≤ t.f0 ∧ t.f0 ≤ t.f1
  · rw [if_pos (decide_eq_true c1)]
    by_cases c2 : t.f1 > 100000
    · rw [if_pos c2, decide_eq_false (by omega)]; rfl
    · rw [if_neg c2, in_is, Option.bind_some]
      by_cases c3 : -50 ≤ t.f2 ∧ t.f2 ≤ 50
      · rw [if_pos (decide_eq_true c3), in_is, Option.bind_some]
        by_cases c4 : 0 ≤ t.f3 ∧ t.f3 ≤ 1000
        · rw [if_pos (decide_eq_true c4), in_is, Option.bind_some]
          by_cases c5 : 0 ≤ t.f4 ∧ t.f4 ≤ 1000
          · rw [if_pos (decide_eq_true c5), w64 (by omega) (by omega)]
            by_cases c6 : t.f3 + t.f4 > 1000
            · rw [decide_eq_true c6, decide_eq_false (by omega)]; rfl
            · rw [decide_eq_false c6, decide_eq_true (by omega)]; rfl
          · rw [if_neg (by simpa using c5), decide_eq_false (by omega)]; rfl
        · rw [if_neg (by simpa using c4), decide_eq_false (by omega)]; rfl
      · rw [if_neg (by simpa using c3), decide_eq_false (by omega)]; rfl
  · rw [if_neg (by simpa using c1), decide_eq_false (by omega)]; rfl
theorem contains_ok (l : List S63) (hn : l.length ≤ 100) : Ev (fun k => impl_CargoTank_at_impl_TanksOk_1.f k l) (!l.all tB) := by
  have h0 := all_down0 l tB (fun k i => (impl_CargoTank_at_impl_TanksOk_1_88.l0 k l (l.length : Int) i).bind fun t => some (decide (¬ t ≥ 0))) true ?_ ?_
  · obtain ⟨M, hM⟩ := h0
    refine ⟨M, fun k hk => ?_⟩
    have := hM k hk
    simp only [Bool.and_true] at this
    simp only [impl_CargoTank_at_impl_TanksOk_1.f, impl_CargoTank_at_impl_TanksOk_1_88.f]
    cases e : impl_CargoTank_at_impl_TanksOk_1_88.l0 k l (l.length : Int) 0 with
    | none => rw [e] at this; cases this
    | some t =>
      rw [e] at this
      simp only [Option.bind_some, Option.some.injEq] at this ⊢
      rw [← this, decide_not, Bool.not_not]
  · intro i hi b hb
    refine Ev.succ (Ev.to (g := fun k => if tB l[i] = true then (impl_CargoTank_at_impl_TanksOk_1_88.l0 k l (l.length : Int) ((i + 1 : Nat) : Int)).bind fun t => some (decide (¬ t ≥ 0)) else some false) ?_ fun k => ?_)
    · by_cases c : tB l[i] = true
      · simp only [if_pos c]
        rw [c, Bool.true_and]
        exact hb c
      · rw [eq_false_of_ne_true c]
        exact Ev.of fun k => if_neg (by decide)
    · simp only [impl_CargoTank_at_impl_TanksOk_1_88.l0]
      rw [if_pos (by omega), if_pos (by omega), if_pos (by omega), T_nat hi, wn (by omega), tank_one, Option.bind_some]
      by_cases c : tB l[i] = true
      · rw [if_pos c, if_neg (by rw [c]; decide)]
      · rw [if_neg c, if_pos (by rw [eq_false_of_ne_true c]; rfl), Option.bind_some]
        simp
  · intro _
    refine Ev.succ (Ev.of fun k => ?_)
    simp only [impl_CargoTank_at_impl_TanksOk_1_88.l0]
    rw [if_neg (by omega)]; rfl
theorem tanks_ok (l : List S63) (hn : l.length ≤ 100) : Ev (fun k => impl_TanksOk.f k l) (okb l) := by
  refine Ev.to (g := fun k => if decide (1 ≤ l.length ∧ l.length ≤ 12) = true then (impl_CargoTank_at_impl_TanksOk_1.f k l).bind fun t => some (!t) else some false) ?_ fun k => ?_
  · unfold okb
    by_cases c : 1 ≤ l.length ∧ l.length ≤ 12
    · simp only [decide_eq_true c, if_true, Bool.and_true]
      exact Ev.bind (contains_ok l hn) (Ev.of fun k => by rw [Bool.not_not])
    · simp only [decide_eq_false c, Bool.and_false]
      exact Ev.of fun k => if_neg (by decide)
  · unfold impl_TanksOk.f
    rw [in_is, Option.bind_some]
    by_cases c : 1 ≤ l.length ∧ l.length ≤ 12
    · rw [decide_eq_true c, decide_eq_true (show (1 : Int) ≤ (l.length : Int) ∧ (l.length : Int) ≤ 12 by omega)]
    · rw [decide_eq_false c, decide_eq_false (show ¬ ((1 : Int) ≤ (l.length : Int) ∧ (l.length : Int) ≤ 12) by omega)]
theorem spec_ok (L : List S63) (hn : L.length ≤ 100) : Ev (fun k => spec_TanksOk.f k L) (okb L) := by
  refine all_down0 L tB (fun k i => spec_TanksOk.l0 k L i) _ (fun i hi b hb => ?_) fun _ => ?_
  · refine Ev.succ (Ev.to (g := fun k => if tB L[i] = true then spec_TanksOk.l0 k L ((i + 1 : Nat) : Int) else some false) ?_ fun k => ?_)
    · by_cases c : tB L[i] = true
      · simp only [if_pos c]
        rw [c, Bool.true_and]
        exact hb c
      · rw [eq_false_of_ne_true c]
        exact Ev.of fun k => if_neg (by decide)
    · simp only [spec_TanksOk.l0]
      rw [if_pos (by omega), if_pos (by omega), T_nat hi, wn (by omega)]
      generalize L[i] = t
      unfold tB
      rw [l1In_some, Option.bind_some]
      by_cases c1 : 0 ≤ t.f0 ∧ t.f0 ≤ t.f1
      · rw [if_pos (decide_eq_true c1)]
        by_cases c2 : t.f1 > 100000
        · rw [if_pos c2, if_neg (by simp; omega)]
        · rw [if_neg c2, l1In_some, Option.bind_some]
          by_cases c3 : -50 ≤ t.f2 ∧ t.f2 ≤ 50
          · rw [if_pos (decide_eq_true c3), l1In_some, Option.bind_some]
            by_cases c4 : 0 ≤ t.f3 ∧ t.f3 ≤ 1000
            · rw [if_pos (decide_eq_true c4), l1In_some, Option.bind_some]
              by_cases c5 : 0 ≤ t.f4 ∧ t.f4 ≤ 1000
              · rw [if_pos (decide_eq_true c5), w64 (x := t.f3 + t.f4) (by omega) (by omega)]
                by_cases c6 : t.f3 + t.f4 > 1000
                · rw [if_pos c6, if_neg (by simp; omega)]
                · rw [if_neg c6, if_pos (by simp; omega)]
              · rw [if_neg (by simpa using c5), if_neg (by simp; omega)]
            · rw [if_neg (by simpa using c4), if_neg (by simp; omega)]
          · rw [if_neg (by simpa using c3), if_neg (by simp; omega)]
      · rw [if_neg (by simpa using c1), if_neg (by simp; omega)]
  · refine Ev.succ (Ev.of fun k => ?_)
    simp only [spec_TanksOk.l0]
    rw [if_neg (by omega), l1In_some, Option.bind_some]
    by_cases c : 1 ≤ L.length ∧ L.length ≤ 12
    · rw [decide_eq_true c, decide_eq_true (show (1 : Int) ≤ (L.length : Int) ∧ (L.length : Int) ≤ 12 by omega)]
    · rw [decide_eq_false c, decide_eq_false (show ¬ ((1 : Int) ≤ (L.length : Int) ∧ (L.length : Int) ≤ 12) by omega)]
/-! ### drawn tanks, byte for byte -/
theorem byte_at (c : List Int) (hc : c.length ≤ 1048576) {p : Int} (hp : InRow c p) (s : Int) (j : Nat) : ∃ b, spec_l1Byte.f c (adv c j p) (nxn j s) = some (b, adv c (j + 1) p, nxn (j + 1) s) ∧ 0 ≤ b ∧ b ≤ 255 := by
  obtain ⟨b, e, b0, b1, _⟩ := byte_st c hc (adv_in c j p hp) (nxn j s)
  exact ⟨b, by rw [e, adv_add, nxn_add]; rfl, b0, b1⟩
theorem below4_at (c : List Int) (hc : c.length ≤ 1048576) {p : Int} (hp : InRow c p) (s : Int) (j : Nat) (n : Int) (h1 : 256 < n) : ∃ r, spec_l1Below.f c (adv c j p) (nxn j s) n = some (r, adv c (j + 4) p, nxn (j + 4) s) ∧ 0 ≤ r ∧ r < n := by
  obtain ⟨b, e, b0, b1⟩ := byte_at c hc hp s j
  obtain ⟨b', e2, b0', b1'⟩ := byte_at c hc hp s (j + 1)
  obtain ⟨b'', e3, b0'', b1''⟩ := byte_at c hc hp s (j + 1 + 1)
  obtain ⟨b3, e4, b03, b13⟩ := byte_at c hc hp s (j + 1 + 1 + 1)
  unfold spec_l1Below.f
  rw [if_neg (by omega), if_neg (by omega), e, Option.bind_some]
  dsimp only
  rw [e2, Option.bind_some]
  dsimp only
  rw [e3, Option.bind_some]
  dsimp only
  rw [e4, Option.bind_some, if_neg (by omega)]
  dsimp only
  rw [w64 (x := b * 16777216) (by omega) (by omega), w64 (x := b' * 65536) (by omega) (by omega), w64 (x := b'' * 256) (by omega) (by omega), w64 (x := b * 16777216 + b' * 65536) (by omega) (by omega), w64 (x := b * 16777216 + b' * 65536 + b'' * 256) (by omega) (by omega), w64 (by omega) (by omega), tm (by omega)]
  exact ⟨_, rfl, Int.emod_nonneg _ (by omega), Int.emod_lt_of_pos _ (by omega)⟩
theorem once_at (c : List Int) (hc : c.length ≤ 1048576) {p : Int} (hp : InRow c p) (s : Int) (j : Nat) (n : Int) (h1 : 1 ≤ n) (h2 : n ≤ 256) : ∃ r : Int, spec_l1Once.f c (adv c j p) (nxn j s) n = some ((r == 0), adv c (j + 1) p, nxn (j + 1) s) ∧ (p = (c.length : Int) → r = by8 (nxn j s) % n) := by
  obtain ⟨r, e, _, _, h⟩ := below_at c hc hp s j n h1 h2
  refine ⟨r, ?_, h⟩
  unfold spec_l1Once.f
  rw [e, Option.bind_some]
def tj (s : Int) : Int := if by8 s % 2 = 0 then nxn 6 s else nxn 1 s
def tk (s : Int) : Int := tj (if by8 (nxn 3 s) % 2 = 0 then nxn 12 s else nxn 4 s)
def tkn : Nat → Int → Int
  | 0, s => s
  | n + 1, s => tkn n (tk s)
theorem j1_at (c : List Int) (hc : c.length ≤ 1048576) {p : Int} (hp : InRow c p) (s : Int) (q : Nat) (L : List S63) (d : Nat) (hL : L.length ≤ 5) (hd : d ≤ 10) (t : S63) (ht : TOk t) :
    ∃ (t' : S63) (m : Nat), TOk t' ∧ q + 1 ≤ m ∧ m ≤ q + 6 ∧ (p = (c.length : Int) → nxn m s = tj (nxn q s)) ∧ ∀ K, spec_l13DrawTanks.j1 (K + 1) L ((d + 1 : Nat) : Int) c (adv c q p) (nxn q s) t.f0 t.f1 t.f2 t.f3 t.f4 = spec_l13DrawTanks.l0 K (L ++ [t']) (d : Int) c (adv c m p) (nxn m s) := by
  obtain ⟨r, e1, r1⟩ := once_at c hc hp s q 2 (by omega) (by omega)
  obtain ⟨a, e2, a0, a1, _⟩ := below_at c hc hp s (q + 1) 120 (by omega) (by omega)
  obtain ⟨g, e3, g0, g1⟩ := below4_at c hc hp s (q + 1 + 1) 800 (by omega)
  have hlen : L.length < 3518437208883 := by omega
  unfold TOk at ht
  by_cases c1 : r = 0
  · refine ⟨⟨t.f0, t.f1, t.f2, g, a⟩, q + 6, by unfold TOk; dsimp only; omega, by omega, by omega, fun h => ?_, fun K => ?_⟩
    · unfold tj
      rw [← r1 h, if_pos c1, ← nxn_add]
    · simp only [spec_l13DrawTanks.j1]
      rw [e1, Option.bind_some]
      dsimp only
      rw [if_pos (by simpa using c1), e2, Option.bind_some]
      dsimp only
      rw [e3, Option.bind_some, if_pos hlen]
      dsimp only
      rw [w64 (x := ((d + 1 : Nat) : Int) - 1) (by omega) (by omega), show ((d + 1 : Nat) : Int) - 1 = (d : Int) by omega]
  · refine ⟨t, q + 1, by unfold TOk; omega, by omega, by omega, fun h => ?_, fun K => ?_⟩
    · unfold tj
      rw [← r1 h, if_neg c1, ← nxn_add]
    · simp only [spec_l13DrawTanks.j1]
      rw [e1, Option.bind_some]
      dsimp only
      rw [if_neg (by simpa using c1), if_pos hlen, w64 (x := ((d + 1 : Nat) : Int) - 1) (by omega) (by omega), show ((d + 1 : Nat) : Int) - 1 = (d : Int) by omega]
theorem tank_at (c : List Int) (hc : c.length ≤ 1048576) {p : Int} (hp : InRow c p) (s : Int) (q : Nat) (L : List S63) (d : Nat) (hL : L.length ≤ 5) (hd : d ≤ 10) :
    ∃ (t' : S63) (m : Nat), TOk t' ∧ q + 1 ≤ m ∧ m ≤ q + 18 ∧ (p = (c.length : Int) → nxn m s = tk (nxn q s)) ∧ ∀ K, spec_l13DrawTanks.l0 (K + 1 + 1) L ((d + 1 : Nat) : Int) c (adv c q p) (nxn q s) = spec_l13DrawTanks.l0 K (L ++ [t']) (d : Int) c (adv c m p) (nxn m s) := by
  obtain ⟨x, e1, x0, x1, _⟩ := below_at c hc hp s q 100 (by omega) (by omega)
  obtain ⟨h, e2, h0, h1, _⟩ := below_at c hc hp s (q + 1) (20 + x + 1) (by omega) (by omega)
  obtain ⟨y, e3, y0, y1, _⟩ := below_at c hc hp s (q + 1 + 1) 5 (by omega) (by omega)
  obtain ⟨r, e4, r1⟩ := once_at c hc hp s (q + 1 + 1 + 1) 2 (by omega) (by omega)
  obtain ⟨g, e5, g0, g1⟩ := below4_at c hc hp s (q + 1 + 1 + 1 + 1) 700 (by omega)
  obtain ⟨a, e6, a0, a1⟩ := below4_at c hc hp s (q + 1 + 1 + 1 + 1 + 4) (1001 - g) (by omega)
  have hm : ∀ K : Nat, K + 1 + 1 = (K + 1) + 1 := fun _ => rfl
  by_cases c1 : r = 0
  · obtain ⟨t', m, k1, k2, k3, k4, k5⟩ := j1_at c hc hp s (q + 1 + 1 + 1 + 1 + 4 + 4) L d hL hd ⟨h, 20 + x, 5 * (y - 2), g, a⟩ (by unfold TOk; dsimp only; omega)
    refine ⟨t', m, k1, by omega, by omega, fun hpl => ?_, fun K => ?_⟩
    · rw [k4 hpl]
      unfold tk
      rw [← nxn_add, ← nxn_add, ← r1 hpl, if_pos c1]
    · rw [← k5 K]
      obtain ⟨N, hN⟩ : ∃ N, N = K + 1 := ⟨_, rfl⟩
      rw [← hN]
      simp only [spec_l13DrawTanks.l0]
      rw [if_pos (by omega), e1, Option.bind_some]
      dsimp only
      rw [w64 (x := 20 + x) (by omega) (by omega), w64 (x := 20 + x + 1) (by omega) (by omega), e2, Option.bind_some]
      dsimp only
      rw [e3, Option.bind_some]
      dsimp only
      rw [e4, Option.bind_some]
      dsimp only
      rw [if_pos (by simpa using c1), e5, Option.bind_some]
      dsimp only
      rw [w64 (x := 1001 - g) (by omega) (by omega), e6, Option.bind_some]
      dsimp only
      rw [w64 (x := y - 2) (by omega) (by omega), w64 (x := 5 * (y - 2)) (by omega) (by omega)]
  · obtain ⟨t', m, k1, k2, k3, k4, k5⟩ := j1_at c hc hp s (q + 1 + 1 + 1 + 1) L d hL hd ⟨h, 20 + x, 5 * (y - 2), 0, 0⟩ (by unfold TOk; dsimp only; omega)
    refine ⟨t', m, k1, by omega, by omega, fun hpl => ?_, fun K => ?_⟩
    · rw [k4 hpl]
      unfold tk
      rw [← nxn_add, ← nxn_add, ← nxn_add, ← r1 hpl, if_neg c1]
    · rw [← k5 K]
      obtain ⟨N, hN⟩ : ∃ N, N = K + 1 := ⟨_, rfl⟩
      rw [← hN]
      simp only [spec_l13DrawTanks.l0]
      rw [if_pos (by omega), e1, Option.bind_some]
      dsimp only
      rw [w64 (x := 20 + x) (by omega) (by omega), w64 (x := 20 + x + 1) (by omega) (by omega), e2, Option.bind_some]
      dsimp only
      rw [e3, Option.bind_some]
      dsimp only
      rw [e4, Option.bind_some]
      dsimp only
      rw [if_neg (by simpa using c1), w64 (x := y - 2) (by omega) (by omega), w64 (x := 5 * (y - 2)) (by omega) (by omega)]
theorem tail_at (c : List Int) (hc : c.length ≤ 1048576) {p : Int} (hp : InRow c p) (s : Int) (q : Nat) (L : List S63) (h0 : 1 ≤ L.length) (hL : L.length ≤ 5) (hT : ∀ t ∈ L, TOk t) :
    ∃ (L' : List S63) (m : Nat), q + 1 ≤ m ∧ m ≤ q + 2 ∧ L'.length ≤ 13 ∧ (p = (c.length : Int) → 5 ≤ by8 (nxn q s) % 30 → Right L') ∧ ∀ K, spec_l13DrawTanks.l0 (K + 1) L 0 c (adv c q p) (nxn q s) = some (L', adv c m p, nxn m s) := by
  obtain ⟨r, e1, r0, r1, r2⟩ := below_at c hc hp s q 30 (by omega) (by omega)
  obtain ⟨u0, f0⟩ := pickI_at c hc hp s (q + 1) [(-1), 100000, 100001] (by decide) (by decide)
  obtain ⟨u1, f1⟩ := pickI_at c hc hp s (q + 1) [(-1), 1000, 1001] (by decide) (by decide)
  obtain ⟨u2, f2⟩ := pickI_at c hc hp s (q + 1) [(-51), (-50), 50, 51] (by decide) (by decide)
  obtain ⟨u3, f3, u30, u31, _⟩ := below_at c hc hp s (q + 1) 2 (by omega) (by omega)
  have hbad : ∀ L' : List S63, r < 5 → p = (c.length : Int) → 5 ≤ by8 (nxn q s) % 30 → Right L' := fun L' h hpl h5 => by have := r2 hpl; omega
  have hst : ∀ K, spec_l13DrawTanks.l0 (K + 1) L 0 c (adv c q p) (nxn q s) = _ := fun K => by
    simp only [spec_l13DrawTanks.l0]
    rw [if_neg (by omega), e1, Option.bind_some]
  by_cases c0 : r = 0
  · refine ⟨L.set (0 : Int).toNat ⟨(rd_T63 L 0).f0, u0, (rd_T63 L 0).f2, (rd_T63 L 0).f3, (rd_T63 L 0).f4⟩, q + 1 + 1, by omega, by omega, ?_, hbad _ (by omega), fun K => ?_⟩
    rotate_left
    · rw [hst K]
      dsimp only
      rw [if_pos c0, f0, Option.bind_some]
      dsimp only
      rw [if_pos (by omega)]
    · simp; omega
  · by_cases c1 : r = 1
    · refine ⟨L.set (0 : Int).toNat ⟨(rd_T63 L 0).f0, (rd_T63 L 0).f1, (rd_T63 L 0).f2, u1, (rd_T63 L 0).f4⟩, q + 1 + 1, by omega, by omega, ?_, hbad _ (by omega), fun K => ?_⟩
      rotate_left
      · rw [hst K]
        dsimp only
        rw [if_neg c0, if_pos c1, f1, Option.bind_some]
        dsimp only
        rw [if_pos (by omega)]
      · simp; omega
    · by_cases c2 : r = 2
      · refine ⟨L.set (0 : Int).toNat ⟨(rd_T63 L 0).f0, (rd_T63 L 0).f1, u2, (rd_T63 L 0).f3, (rd_T63 L 0).f4⟩, q + 1 + 1, by omega, by omega, ?_, hbad _ (by omega), fun K => ?_⟩
        rotate_left
        · rw [hst K]
          dsimp only
          rw [if_neg c0, if_neg c1, if_pos c2, f2, Option.bind_some]
          dsimp only
          rw [if_pos (by omega)]
        · simp; omega
      · by_cases c3 : r = 3
        · refine ⟨List.replicate (12 + u3).toNat z63, q + 1 + 1, by omega, by omega, ?_, hbad _ (by omega), fun K => ?_⟩
          rotate_left
          · rw [hst K]
            dsimp only
            rw [if_neg c0, if_neg c1, if_neg c2, if_pos c3, f3, Option.bind_some]
            dsimp only
            rw [w64 (x := 12 + u3) (by omega) (by omega), if_pos (by omega), if_pos (by omega)]
          · simp; omega
        · by_cases c4 : r = 4
          · refine ⟨[], q + 1, by omega, by omega, ?_, hbad _ (by omega), fun K => ?_⟩
            rotate_left
            · rw [hst K]
              dsimp only
              rw [if_neg c0, if_neg c1, if_neg c2, if_neg c3, if_pos c4]
            · simp
          · refine ⟨L, q + 1, by omega, by omega, by omega, fun _ _ => ⟨h0, by omega, hT⟩, fun K => ?_⟩
            rw [hst K]
            dsimp only
            rw [if_neg c0, if_neg c1, if_neg c2, if_neg c3, if_neg c4]
theorem loop_at (c : List Int) (hc : c.length ≤ 1048576) {p : Int} (hp : InRow c p) (s : Int) (d : Nat) : ∀ (q : Nat) (L : List S63), 1 ≤ L.length + d → L.length + d ≤ 5 → (∀ t ∈ L, TOk t) →
    ∃ (L' : List S63) (m : Nat), q + 1 ≤ m ∧ m ≤ q + 18 * d + 2 ∧ L'.length ≤ 13 ∧ (p = (c.length : Int) → 5 ≤ by8 (tkn d (nxn q s)) % 30 → Right L') ∧ ∀ K, spec_l13DrawTanks.l0 (K + 2 * d + 1) L (d : Int) c (adv c q p) (nxn q s) = some (L', adv c m p, nxn m s) := by
  induction d with
  | zero =>
    intro q L h0 h1 hT
    obtain ⟨L', m, k1, k2, k3, k4, k5⟩ := tail_at c hc hp s q L (by omega) (by omega) hT
    exact ⟨L', m, k1, by omega, k3, k4, k5⟩
  | succ d ih =>
    intro q L h0 h1 hT
    obtain ⟨t, m, k1, k2, k3, k4, k5⟩ := tank_at c hc hp s q L d (by omega) (by omega)
    obtain ⟨L', m', g1, g2, g3, g4, g5⟩ := ih m (L ++ [t]) (by simp; omega) (by simp; omega) (fun x hx => by
      rcases List.mem_append.1 hx with hx | hx
      · exact hT x hx
      · rw [List.mem_singleton.1 hx]; exact k1)
    refine ⟨L', m', by omega, by omega, g3, fun hpl h5 => g4 hpl ?_, fun K => ?_⟩
    · rw [k4 hpl]; exact h5
    · rw [show K + 2 * (d + 1) + 1 = (K + 2 * d + 1) + 1 + 1 by omega, k5]
      exact g5 K
def good (s : Int) : Bool := decide (5 ≤ by8 (tkn (1 + by8 s % 5).toNat (nxn 1 s)) % 30)
theorem tanks_at (c : List Int) (hc : c.length ≤ 1048576) {p : Int} (hp : InRow c p) (s : Int) :
    ∃ (L' : List S63) (m : Nat), 1 ≤ m ∧ m ≤ 93 ∧ L'.length ≤ 13 ∧ (p = (c.length : Int) → good s = true → Right L') ∧ ∀ K, 20 < K → spec_l13DrawTanks.f K c p s = some (L', adv c m p, nxn m s) := by
  obtain ⟨r, e1, r0, r1, r2⟩ := below_at c hc hp s 0 5 (by omega) (by omega)
  obtain ⟨L', m, g1, g2, g3, g4, g5⟩ := loop_at c hc hp s (1 + r).toNat 1 [] (by simp; omega) (by simp; omega) (fun t h => by cases h)
  refine ⟨L', m, by omega, by omega, g3, fun hpl hg => g4 hpl ?_, fun K hK => ?_⟩
  · unfold good at hg
    rw [r2 hpl]
    exact of_decide_eq_true hg
  · obtain ⟨k, rfl⟩ : ∃ k, K = k + 2 * (1 + r).toNat + 1 := ⟨K - 2 * (1 + r).toNat - 1, by omega⟩
    have := g5 k
    rw [show (((1 + r).toNat : Nat) : Int) = 1 + r by omega] at this
    unfold spec_l13DrawTanks.f
    rw [show spec_l1Below.f c p s 5 = spec_l1Below.f c (adv c 0 p) (nxn 0 s) 5 from rfl, e1, Option.bind_some]
    dsimp only
    rw [w64 (x := 1 + r) (by omega) (by omega)]
    exact this
/-! ### right tanks come in the end -/
def okRun : Nat → Int → Bool
  | 0, _ => true
  | n + 1, s => good s && okRun n (nx s)
theorem okRun_at (n : Nat) : ∀ s, okRun n s = true → ∀ j, j < n → good (nxn j s) = true := by
  induction n with
  | zero => intro s _ j h; omega
  | succ n ih =>
    intro s h j hj
    simp only [okRun, Bool.and_eq_true] at h
    cases j with
    | zero => exact h.1
    | succ j => exact ih (nx s) h.2 j (by omega)
theorem ok_run : okRun 96 7019 = true := by decide +kernel
theorem op_ok (c : List Int) (hc : c.length ≤ 1048576) {p : Int} (hp : InRow c p) (s : Int) : ∃ (o : S61) (p' s' : Int), InRow c p' ∧ spec_l13DrawOp.f c p s = some (o.f0, o.f1, o.f2, o.f3, p', s') := by
  obtain ⟨r1, p1, s1, e1, _, _, _, hp1⟩ := below_ok c hc hp s 5
  obtain ⟨r2, p2, s2, e2, _, _, _, hp2⟩ := below_ok c hc hp1 s1 4
  obtain ⟨r3, p3, s3, e3, _, _, _, hp3⟩ := below_ok c hc hp2 s2 4
  obtain ⟨r4, p4, s4, e4, _, _, _, hp4⟩ := below_ok c hc hp3 s3 60
  obtain ⟨r5, p5, s5, e5, _, _, _, hp5⟩ := below_ok c hc hp4 s4 30
  obtain ⟨u0, p6, s6, f0, _, hp6⟩ := pickI_ok c hc hp5 s5 [0, 6] (by decide)
  obtain ⟨u2, p8, s8, f2, _, hp8⟩ := pickI_ok c hc hp5 s5 [0, 100, 101, 100000, 100001] (by decide)
  unfold spec_l13DrawOp.f
  rw [e1, Option.bind_some]
  dsimp only
  rw [e2, Option.bind_some]
  dsimp only
  rw [e3, Option.bind_some]
  dsimp only
  rw [e4, Option.bind_some]
  dsimp only
  rw [e5, Option.bind_some]
  dsimp only
  by_cases c0 : r5 = 0
  · rw [if_pos c0, f0, Option.bind_some]
    exact ⟨⟨u0, r2, r3, wrap64 (1 + r4)⟩, p6, s6, hp6, rfl⟩
  · rw [if_neg c0]
    by_cases c1 : r5 = 1
    · rw [if_pos c1]
      exact ⟨⟨wrap64 (1 + r1), -1, r3, wrap64 (1 + r4)⟩, p5, s5, hp5, rfl⟩
    · rw [if_neg c1]
      by_cases c2 : r5 = 2
      · rw [if_pos c2, f2, Option.bind_some]
        exact ⟨⟨wrap64 (1 + r1), r2, r3, u2⟩, p8, s8, hp8, rfl⟩
      · rw [if_neg c2]
        exact ⟨⟨wrap64 (1 + r1), r2, r3, wrap64 (1 + r4)⟩, p5, s5, hp5, rfl⟩
theorem ops_loop (c : List Int) (hc : c.length ≤ 1048576) (L : List S63) (d : Nat) : ∀ (o : List S61) (p s : Int), InRow c p → o.length + d ≤ 19 →
    ∃ r : List S61, r.length ≤ 19 ∧ Ev (fun k => spec_DrawCargo.l1 k L o (d : Int) c p s) (L, r) := by
  induction d with
  | zero =>
    intro o p s hp h
    exact ⟨o, by omega, Ev.succ (Ev.of fun k => by simp only [spec_DrawCargo.l1]; rw [if_neg (by omega)])⟩
  | succ d ih =>
    intro o p s hp h
    obtain ⟨x, p', s', hp', e⟩ := op_ok c hc hp s
    obtain ⟨r, h1, h2⟩ := ih (o ++ [x]) p' s' hp' (by simp; omega)
    refine ⟨r, h1, Ev.succ (h2.to fun k => ?_)⟩
    have ho : o.length < 4398046511104 := by omega
    simp only [spec_DrawCargo.l1]
    rw [if_pos (by omega), e, Option.bind_some, if_pos ho, w64 (by omega) (by omega), show ((d + 1 : Nat) : Int) - 1 = (d : Int) by omega]
def Ends (c : List Int) (L : List S63) (p s : Int) : Prop := ∃ (L' : List S63) (ops : List S61), Right L' ∧ ops.length ≤ 19 ∧ Ev (fun k => spec_DrawCargo.l0 k L c p s) (L', ops)
theorem ends_now (c : List Int) (hc : c.length ≤ 1048576) {L : List S63} {p s : Int} (hp : InRow c p) (hL : Right L) : Ends c L p s := by
  obtain ⟨r, p', s', e, r0, r1, _, hp'⟩ := below_ok c hc hp s 20
  have r1 := r1 (by omega)
  obtain ⟨m, rfl⟩ : ∃ m : Nat, r = (m : Int) := ⟨r.toNat, by omega⟩
  obtain ⟨o, h1, h2⟩ := ops_loop c hc L m [] p' s' hp' (by simp; omega)
  have hok := spec_ok L (by have := hL.2.1; omega)
  rw [(okb_iff L).2 hL] at hok
  refine ⟨L, o, hL, h1, Ev.succ (Ev.bind hok (h2.to fun k => ?_))⟩
  show (if true = true then _ else _) = _
  rw [if_pos rfl, e, Option.bind_some]
theorem ends_next (c : List Int) {L L' : List S63} {p s p' s' : Int} (hn : L.length ≤ 13) (hL : okb L = false) (hd : ∀ k, 20 < k → spec_l13DrawTanks.f k c p s = some (L', p', s')) (h : Ends c L' p' s') : Ends c L p s := by
  obtain ⟨L2, ops, h1, h2, h3⟩ := h
  have hok := spec_ok L (by omega)
  rw [hL] at hok
  refine ⟨L2, ops, h1, h2, Ev.succ (Ev.bind hok ?_)⟩
  refine Ev.to (g := fun k => (spec_l13DrawTanks.f k c p s).bind fun b => spec_DrawCargo.l0 k b.1 c b.2.1 b.2.2) (Ev.bind (v := (L', p', s')) ⟨20, hd⟩ h3) fun k => if_neg (by decide)
theorem stretch (c : List Int) (hc : c.length ≤ 1048576) (j : Nat) (hj : j < 96) (L : List S63) (hL : L.length ≤ 13) : Ends c L (c.length : Int) (nxn j 7019) := by
  have hp : InRow c (c.length : Int) := ⟨by omega, by omega⟩
  by_cases hb : okb L = true
  · exact ends_now c hc hp ((okb_iff L).1 hb)
  · obtain ⟨L1, m, m1, m2, a1, a2, a3⟩ := tanks_at c hc hp (nxn j 7019)
    refine ends_next c hL (eq_false_of_ne_true hb) a3 ?_
    rw [adv_len]
    exact ends_now c hc hp (a2 rfl (okRun_at 96 7019 ok_run j hj))
/-- Where the bytes are used up. -/
theorem ends_used (c : List Int) (hc : c.length ≤ 1048576) (n : Nat) : ∀ (s : Int) (L : List S63), L.length ≤ 13 → nxn n s = 7019 → Ends c L (c.length : Int) s := by
  have hp : InRow c (c.length : Int) := ⟨by omega, by omega⟩
  induction n using Nat.strongRecOn with
  | _ n ih =>
    intro s L hL hs
    by_cases hb : okb L = true
    · exact ends_now c hc hp ((okb_iff L).1 hb)
    · obtain ⟨L1, m, m1, m2, a1, a2, a3⟩ := tanks_at c hc hp s
      refine ends_next c hL (eq_false_of_ne_true hb) a3 ?_
      rw [adv_len]
      by_cases hnm : m ≤ n
      · refine ih (n - m) (by omega) _ _ a1 ?_
        rw [show n = m + (n - m) by omega, nxn_add] at hs
        exact hs
      · rw [show m = n + (m - n) by omega, nxn_add, hs]
        exact stretch c hc (m - n) (by omega) _ a1
theorem ends_all (c : List Int) (hc : c.length ≤ 1048576) (n : Nat) : ∀ (p s : Int) (L : List S63), L.length ≤ 13 → InRow c p → (c.length : Int) - p ≤ n → Ends c L p s := by
  induction n with
  | zero =>
    intro p s L hL hp hd
    have : p = (c.length : Int) := by unfold InRow at hp; omega
    subst this
    by_cases hb : okb L = true
    · exact ends_now c hc hp ((okb_iff L).1 hb)
    · obtain ⟨L1, m, m1, m2, a1, a2, a3⟩ := tanks_at c hc hp s
      refine ends_next c hL (eq_false_of_ne_true hb) a3 ?_
      rw [adv_len]
      obtain ⟨m, rfl⟩ : ∃ j, m = j + 1 := ⟨m - 1, by omega⟩
      obtain ⟨n, hn⟩ := nx_reach (nxn m s) 7019 (by unfold In64; omega)
      rw [show nx (nxn m s) = nxn (m + 1) s from (nxn_add m 1 s).symm] at hn
      exact ends_used c hc n _ _ a1 hn
  | succ n ih =>
    intro p s L hL hp hd
    by_cases hb : okb L = true
    · exact ends_now c hc hp ((okb_iff L).1 hb)
    · obtain ⟨L1, m, m1, m2, a1, a2, a3⟩ := tanks_at c hc hp s
      refine ends_next c hL (eq_false_of_ne_true hb) a3 (ih _ _ _ a1 (adv_in c m p hp) ?_)
      by_cases hlt : p < (c.length : Int)
      · obtain ⟨m, rfl⟩ : ∃ j, m = j + 1 := ⟨m - 1, by omega⟩
        have := adv_lt c m p hlt
        omega
      · have := adv_le c m p
        omega
theorem drawn (c : List Int) (hc : c.length ≤ 1048576) : ∃ (L : List S63) (ops : List S61), Right L ∧ ops.length ≤ 19 ∧ Ev (fun k => spec_DrawCargo.f k c) (L, ops) := by
  obtain ⟨r, hr⟩ := new_ok c hc
  have hp : InRow c 0 := ⟨by omega, by omega⟩
  obtain ⟨L1, m, m1, m2, a1, a2, a3⟩ := tanks_at c hc hp r
  obtain ⟨L, ops, h1, h2, h3⟩ := ends_all c hc c.length (adv c m 0) (nxn m r) L1 a1 (adv_in c m 0 hp) (by have := adv_le c m 0; omega)
  exact ⟨L, ops, h1, h2, Ev.bind (v := (c, 0, r)) ⟨4000, hr⟩ (Ev.bind (v := (L1, adv c m 0, nxn m r)) ⟨20, a3⟩ h3)⟩
/-! ### one step -/
def burns (t : S63) : Prop := t.f4 > 110 ∧ 20 ≤ t.f3 ∧ t.f3 ≤ 600
def tot : List S63 → Int
  | [] => 0
  | x :: l => x.f0 + tot l
theorem tot_set (L : List S63) (x : S63) : ∀ i : Nat, (h : i < L.length) → tot (L.set i x) = tot L - L[i].f0 + x.f0 := by
  induction L with
  | nil => intro i h; cases h
  | cons y l ih =>
    intro i h
    cases i with
    | zero => simp only [List.set_cons_zero, tot, List.getElem_cons_zero]; omega
    | succ i => simp only [List.set_cons_succ, tot, List.getElem_cons_succ]; rw [ih i (by simpa using h)]; omega
theorem right_set {L : List S63} (hL : Right L) {x : S63} (hx : TOk x) (i : Nat) : Right (L.set i x) := by
  refine ⟨by rw [List.length_set]; exact hL.1, by rw [List.length_set]; exact hL.2.1, fun t ht => ?_⟩
  rcases List.mem_or_eq_of_mem_set ht with h | h
  · exact hL.2.2 t h
  · rw [h]; exact hx
def want (op : S61) : Int := if op.f0 = 1 then op.f3 else if op.f0 = 2 then -op.f3 else 0
structure Did (L : List S63) (op : S61) (N : List S63) : Prop where
  right : Right N
  len : N.length = L.length
  tot : tot N = tot L + want op
  a0 : 0 ≤ op.f1
  a1 : op.f1 < L.length
  m0 : 1 ≤ op.f3
  m1 : op.f3 ≤ 100000
  burn : ¬ burns (rd_T63 N op.f1)
  b : op.f0 = 3 → 0 ≤ op.f2 ∧ op.f2 < L.length ∧ ¬ burns (rd_T63 N op.f2)
theorem mayBurn_some (t : S63) : ∃ b : Bool, impl_CargoTank_mayBurn.f t.f0 t.f1 t.f2 t.f3 t.f4 = some b ∧ (b = false → ¬ burns t) := by
  unfold impl_CargoTank_mayBurn.f
  by_cases c : t.f4 > 110
  · rw [if_pos c, in_is, Option.bind_some]
    exact ⟨_, rfl, fun h hb => of_decide_eq_false h hb.2⟩
  · rw [if_neg c]
    exact ⟨false, rfl, fun _ hb => c hb.1⟩
theorem lean_loop (L : List S63) (hn : L.length ≤ 100) (d : Nat) : ∀ (i : Nat) (a : Int), i ≤ L.length → L.length - i = d → ∃ v, Ev (fun k => impl_leanOf.l0 k a L (L.length : Int) (i : Int)) v := by
  induction d with
  | zero =>
    intro i a hi hd
    exact ⟨a, Ev.succ (Ev.of fun k => by simp only [impl_leanOf.l0]; rw [if_neg (by omega)])⟩
  | succ d ih =>
    intro i a hi hd
    obtain ⟨v, hv⟩ := ih (i + 1) (wrap64 (a + (wrap64 (((rd_T63 L i).f0) * ((rd_T63 L i).f2))))) (by omega) (by omega)
    refine ⟨v, Ev.succ (hv.to fun k => ?_)⟩
    simp only [impl_leanOf.l0]
    rw [if_pos (by omega), if_pos (by omega), if_pos (by omega), wn (by omega)]
theorem lean_ok (L : List S63) (hn : L.length ≤ 100) : ∃ v, Ev (fun k => impl_leanOf.f k L) v := lean_loop L hn L.length 0 0 (by omega) (by omega)
theorem size_some (a : Int) : ∃ v, impl_size.f a = some v := by
  unfold impl_size.f
  by_cases c : a < 0
  · rw [if_pos c]; exact ⟨_, rfl⟩
  · rw [if_neg c]; exact ⟨_, rfl⟩
theorem j9_ok (x0 x8 x11 : List S63) (a2 : Int) (h0 : x0.length ≤ 100) (h1 : x11.length ≤ 100) : ∃ v : List S63 × Int, (v = (x8, 5) ∨ v = (x11, 0)) ∧ Ev (fun k => impl_CargoStep.j9 k x0 a2 x8 x11) v := by
  obtain ⟨v, hv⟩ := lean_ok x11 h1
  obtain ⟨w, hw⟩ := lean_ok x0 h0
  obtain ⟨sv, hsv⟩ := size_some v
  obtain ⟨sw, hsw⟩ := size_some w
  by_cases c : sv > a2
  · by_cases c2 : sv > sw
    · refine ⟨(x8, 5), .inl rfl, Ev.succ ?_⟩
      simp only [impl_CargoStep.j9]
      refine Ev.bind hv ?_
      simp only [hsv, Option.bind_some, if_pos c]
      refine Ev.bind hw (Ev.of fun k => ?_)
      rw [hsw, Option.bind_some, if_pos c2]
    · refine ⟨(x11, 0), .inr rfl, Ev.succ ?_⟩
      simp only [impl_CargoStep.j9]
      refine Ev.bind hv ?_
      simp only [hsv, Option.bind_some, if_pos c]
      refine Ev.bind hw (Ev.of fun k => ?_)
      rw [hsw, Option.bind_some, if_neg c2]
  · refine ⟨(x11, 0), .inr rfl, Ev.succ ?_⟩
    simp only [impl_CargoStep.j9]
    refine Ev.bind hv (Ev.of fun k => ?_)
    rw [hsv, Option.bind_some, if_neg c]
/-- What a step may answer. -/
def Fine (L : List S63) (op : S61) (v : List S63 × Int) : Prop := (v.2 ≠ 0 → v.1 = L) ∧ (v.2 = 0 → Did L op v.1)
theorem fine_code (L : List S63) (op : S61) {x : Int} (h : x ≠ 0) : Fine L op (L, x) := ⟨fun _ => rfl, fun h' => absurd h' h⟩
theorem fine_last {L N : List S63} {op : S61} (hd : Did L op N) {v : List S63 × Int} (h : v = (L, 5) ∨ v = (N, 0)) : Fine L op v := by
  rcases h with rfl | rfl
  · exact fine_code L op (by decide)
  · exact ⟨fun h => absurd rfl h, fun _ => hd⟩
/-- What went out of a tank. -/
def outT (t : S63) (m : Int) : S63 := ⟨wrap64 (t.f0 - m), t.f1, t.f2, wrap64 (Int.tdiv (wrap64 (t.f3 * (wrap64 ((wrap64 (t.f1 - (wrap64 (t.f0 - m)))) - m)))) (wrap64 (t.f1 - (wrap64 (t.f0 - m))))), wrap64 (Int.tdiv (wrap64 (t.f4 * (wrap64 ((wrap64 (t.f1 - (wrap64 (t.f0 - m)))) - m)))) (wrap64 (t.f1 - (wrap64 (t.f0 - m)))))⟩
theorem part_le {g r m : Int} (g0 : 0 ≤ g) (g1 : g ≤ 1000) (m0 : 1 ≤ m) (r0 : m ≤ r) (r1 : r ≤ 100000) : 0 ≤ wrap64 (Int.tdiv (wrap64 (g * (r - m))) r) ∧ wrap64 (Int.tdiv (wrap64 (g * (r - m))) r) ≤ g := by
  have h0 : 0 ≤ g * (r - m) := Int.mul_nonneg g0 (by omega)
  have h1 : g * (r - m) ≤ g * r := Int.mul_le_mul_of_nonneg_left (by omega) g0
  have h2 : g * r ≤ 1000 * 100000 := Int.mul_le_mul g1 r1 (by omega) (by omega)
  rw [w64 (x := g * (r - m)) (by omega) (by omega), td h0]
  have h3 : 0 ≤ g * (r - m) / r := Int.ediv_nonneg h0 (by omega)
  have h4 : g * (r - m) / r ≤ g := Int.ediv_le_of_le_mul (by omega) h1
  rw [w64 (by omega) (by omega)]
  exact ⟨h3, h4⟩
theorem out_ok {t : S63} (ht : TOk t) {m : Int} (m0 : 1 ≤ m) (m1 : m ≤ t.f0) : TOk (outT t m) ∧ (outT t m).f0 = t.f0 - m ∧ wrap64 (t.f1 - wrap64 (t.f0 - m)) ≠ 0 := by
  obtain ⟨a0, a1, a2, b0, b1, c0, c1, d0, d1, sm⟩ := ht
  have e1 : wrap64 (t.f0 - m) = t.f0 - m := w64 (by omega) (by omega)
  have e2 : wrap64 (t.f1 - (t.f0 - m)) = t.f1 - (t.f0 - m) := w64 (by omega) (by omega)
  have e3 : wrap64 (t.f1 - (t.f0 - m) - m) = t.f1 - (t.f0 - m) - m := w64 (by omega) (by omega)
  have p1 := part_le (g := t.f3) (r := t.f1 - (t.f0 - m)) (m := m) c0 c1 m0 (by omega) (by omega)
  have p2 := part_le (g := t.f4) (r := t.f1 - (t.f0 - m)) (m := m) d0 d1 m0 (by omega) (by omega)
  unfold outT TOk
  dsimp only
  rw [e1, e2, e3]
  exact ⟨⟨by omega, by omega, a2, b0, b1, p1.1, by omega, p2.1, by omega, by omega⟩, rfl, by omega⟩
def thin (g m : Int) : Int := wrap64 (Int.tdiv (wrap64 (g * (wrap64 (100 - m)))) 100)
theorem thin_is {g m : Int} (g0 : 0 ≤ g) (g1 : g ≤ 1000) (m0 : 1 ≤ m) (m1 : m ≤ 100) : thin g m = g * (100 - m) / 100 ∧ 0 ≤ g * (100 - m) ∧ g * (100 - m) ≤ 100 * g := by
  have h0 : 0 ≤ g * (100 - m) := Int.mul_nonneg g0 (by omega)
  have h1 : g * (100 - m) ≤ g * 100 := Int.mul_le_mul_of_nonneg_left (by omega) g0
  refine ⟨?_, h0, by omega⟩
  unfold thin
  rw [w64 (x := 100 - m) (by omega) (by omega), w64 (x := g * (100 - m)) (by omega) (by omega), td h0, w64 (by omega) (by omega)]
theorem thin_ok {t : S63} (ht : TOk t) {m : Int} (m0 : 1 ≤ m) (m1 : m ≤ 100) : TOk ⟨t.f0, t.f1, t.f2, thin t.f3 m, thin t.f4 m⟩ ∧ TOk ⟨t.f0, t.f1, t.f2, thin t.f3 m, wrap64 (thin t.f4 m + wrap64 (10 * m))⟩ := by
  obtain ⟨a0, a1, a2, b0, b1, c0, c1, d0, d1, sm⟩ := ht
  obtain ⟨e1, x0, x1⟩ := thin_is c0 c1 m0 m1
  obtain ⟨e2, y0, y1⟩ := thin_is d0 d1 m0 m1
  have hs : t.f3 * (100 - m) + t.f4 * (100 - m) ≤ 1000 * (100 - m) := by
    rw [← Int.add_mul]
    exact Int.mul_le_mul_of_nonneg_right sm (by omega)
  unfold TOk
  dsimp only
  rw [e1, e2, w64 (x := 10 * m) (by omega) (by omega), w64 (by omega) (by omega)]
  generalize t.f3 * (100 - m) = G at *
  generalize t.f4 * (100 - m) = A at *
  refine ⟨⟨a0, a1, a2, b0, b1, ?_, ?_, ?_, ?_, ?_⟩, ⟨a0, a1, a2, b0, b1, ?_, ?_, ?_, ?_, ?_⟩⟩ <;> omega
theorem own_ok (L : List S63) (hL : L.length ≤ 100) : impl_CargoTank_61.f L = some L := by
  unfold impl_CargoTank_61.f
  rw [if_pos (by omega), if_pos (by omega), Option.bind_some, if_pos (by simp; omega), List.nil_append]
theorem T_int {L : List S63} {i : Int} (h0 : 0 ≤ i) (h1 : i < L.length) : rd_T63 L i ∈ L := by
  obtain ⟨h, e⟩ := rd63_lt h0 h1
  rw [e]; exact List.getElem_mem h
theorem tot_rd {L : List S63} {i : Int} (h0 : 0 ≤ i) (h1 : i < L.length) (x : S63) : tot (L.set i.toNat x) = tot L - (rd_T63 L i).f0 + x.f0 := by
  obtain ⟨h, e⟩ := rd63_lt h0 h1
  rw [tot_set L x i.toNat h, e]
theorem j4_ok (x0 x8 x11 : List S63) (a2 : Int) (h0 : x0.length ≤ 100) (h1 : x11.length ≤ 100) (b : Bool) (F : Nat → Option (List S63 × Int)) (hF : ∀ k, F (k + 1) = if b = true then some (x8, 4) else impl_CargoStep.j9 k x0 a2 x8 x11) : ∃ v : List S63 × Int, (v = (x8, 4) ∨ (b = false ∧ (v = (x8, 5) ∨ v = (x11, 0)))) ∧ Ev F v := by
  cases b with
  | true => exact ⟨_, .inl rfl, Ev.succ (Ev.of fun k => by rw [hF, if_pos rfl])⟩
  | false =>
    obtain ⟨v, h, hv⟩ := j9_ok x0 x8 x11 a2 h0 h1
    exact ⟨v, .inr ⟨rfl, h⟩, Ev.succ (hv.to fun k => by rw [hF, if_neg (by decide)])⟩
theorem j3_ok (L : List S63) (hR : Right L) (op : S61) (x10 : Int) (h10 : (op.f0 = 4 ∨ op.f0 = 5) ∧ x10 = 100 ∨ (op.f0 = 1 ∨ op.f0 = 2 ∨ op.f0 = 3) ∧ x10 = 100000) (a0 : 0 ≤ op.f1) (a1 : op.f1 < L.length) (m0 : 1 ≤ op.f3) (m1 : op.f3 ≤ x10) (hb : op.f0 = 3 → 0 ≤ op.f2 ∧ op.f2 < L.length ∧ op.f2 ≠ op.f1) (a2 : Int) :
    ∃ v : List S63 × Int, Fine L op v ∧ Ev (fun k => impl_CargoStep.j3 k L a2 L x10 L op.f0 op.f1 op.f2 op.f3) v := by
  have hn := hR.2.1
  have hA := hR.2.2 _ (T_int a0 a1)
  have hrd : ∀ x : S63, rd_T63 (L.set op.f1.toNat x) op.f1 = x := fun x => rd63_set_eq a0 a1
  have hss : ∀ x y : S63, (L.set op.f1.toNat x).set op.f1.toNat y = L.set op.f1.toNat y := fun x y => List.set_set ..
  have hln : ∀ x : S63, (L.set op.f1.toNat x).length ≤ 100 := fun x => by rw [List.length_set]; omega
  by_cases k1 : op.f0 = 1
  · obtain ⟨t, rfl⟩ : ∃ t, t = rd_T63 L op.f1 := ⟨_, rfl⟩
    by_cases c1 : (rd_T63 L op.f1).f0 + op.f3 > (rd_T63 L op.f1).f1
    · refine ⟨(L, 3), fine_code L op (by decide), Ev.succ (Ev.of fun k => ?_)⟩
      simp only [impl_CargoStep.j3]
      rw [if_pos a0, if_pos a1, if_pos k1, if_pos (by unfold TOk at hA; rw [w64 (by omega) (by omega)]; exact c1)]
    · have hT : TOk ⟨wrap64 ((rd_T63 L op.f1).f0 + op.f3), (rd_T63 L op.f1).f1, (rd_T63 L op.f1).f2, (rd_T63 L op.f1).f3, (rd_T63 L op.f1).f4⟩ := by
        unfold TOk at hA ⊢
        dsimp only
        rw [w64 (by omega) (by omega)]
        omega
      obtain ⟨b, e, hbn⟩ := mayBurn_some ⟨wrap64 ((rd_T63 L op.f1).f0 + op.f3), (rd_T63 L op.f1).f1, (rd_T63 L op.f1).f2, (rd_T63 L op.f1).f3, (rd_T63 L op.f1).f4⟩
      obtain ⟨v, hv, hE⟩ := j4_ok L L (L.set op.f1.toNat ⟨wrap64 ((rd_T63 L op.f1).f0 + op.f3), (rd_T63 L op.f1).f1, (rd_T63 L op.f1).f2, (rd_T63 L op.f1).f3, (rd_T63 L op.f1).f4⟩) a2 (by omega) (hln _) b (fun k => impl_CargoStep.j4 k L a2 L (L.set op.f1.toNat ⟨wrap64 ((rd_T63 L op.f1).f0 + op.f3), (rd_T63 L op.f1).f1, (rd_T63 L op.f1).f2, (rd_T63 L op.f1).f3, (rd_T63 L op.f1).f4⟩) b) (fun k => by simp only [impl_CargoStep.j4])
      refine ⟨v, ?_, Ev.succ (hE.to fun k => ?_)⟩
      · rcases hv with rfl | ⟨hf, hv⟩
        · exact fine_code L op (by decide)
        · refine fine_last ⟨right_set hR hT _, by rw [List.length_set], ?_, a0, a1, m0, by omega, by rw [hrd]; exact hbn hf, fun h => by omega⟩ hv
          rw [tot_rd a0 a1]
          unfold want TOk at *
          rw [if_pos k1]
          dsimp only
          rw [w64 (by omega) (by omega)]
          omega
      · simp only [impl_CargoStep.j3]
        rw [if_pos a0, if_pos a1, if_pos k1, if_neg (by unfold TOk at hA; rw [w64 (by omega) (by omega)]; exact c1), Option.bind_some, if_neg (by omega), e, Option.bind_some]
        cases b with
        | true => rw [if_pos rfl]
        | false => rw [if_neg (by decide), if_neg (by omega)]
  · by_cases k2 : op.f0 = 2
    · by_cases c1 : (rd_T63 L op.f1).f0 < op.f3
      · refine ⟨(L, 2), fine_code L op (by decide), Ev.succ (Ev.of fun k => ?_)⟩
        simp only [impl_CargoStep.j3]
        rw [if_pos a0, if_pos a1, if_neg k1, if_pos k2, if_pos c1]
      · obtain ⟨hT, hf0, hne⟩ := out_ok hA m0 (Int.not_lt.1 c1)
        obtain ⟨b, e, hbn⟩ := mayBurn_some (outT (rd_T63 L op.f1) op.f3)
        obtain ⟨v, hv, hE⟩ := j4_ok L L (L.set op.f1.toNat (outT (rd_T63 L op.f1) op.f3)) a2 (by omega) (hln _) b (fun k => impl_CargoStep.j5 k L a2 L (L.set op.f1.toNat (outT (rd_T63 L op.f1) op.f3)) b) (fun k => by simp only [impl_CargoStep.j5])
        refine ⟨v, ?_, Ev.succ (hE.to fun k => ?_)⟩
        · rcases hv with rfl | ⟨hf, hv⟩
          · exact fine_code L op (by decide)
          · refine fine_last ⟨right_set hR hT _, by rw [List.length_set], ?_, a0, a1, m0, by omega, by rw [hrd]; exact hbn hf, fun h => by omega⟩ hv
            rw [tot_rd a0 a1, hf0]
            unfold want
            rw [if_neg k1, if_pos k2]
            omega
        · simp only [impl_CargoStep.j3]
          rw [if_pos a0, if_pos a1, if_neg k1, if_pos k2, if_neg c1, if_neg hne, Option.bind_some, if_neg (by omega)]
          show ((impl_CargoTank_mayBurn.f (rd_T63 (L.set op.f1.toNat (outT (rd_T63 L op.f1) op.f3)) op.f1).f0 (rd_T63 (L.set op.f1.toNat (outT (rd_T63 L op.f1) op.f3)) op.f1).f1 (rd_T63 (L.set op.f1.toNat (outT (rd_T63 L op.f1) op.f3)) op.f1).f2 (rd_T63 (L.set op.f1.toNat (outT (rd_T63 L op.f1) op.f3)) op.f1).f3 (rd_T63 (L.set op.f1.toNat (outT (rd_T63 L op.f1) op.f3)) op.f1).f4).bind fun t306 => _) = _
          rw [hrd, e, Option.bind_some]
          cases b with
          | true => rw [if_pos rfl]; rfl
          | false => rw [if_neg (by decide), if_neg (by omega)]; rfl
    · by_cases k3 : op.f0 = 3
      · obtain ⟨b0, b1, bne⟩ := hb k3
        have hB := hR.2.2 _ (T_int b0 b1)
        by_cases c1 : (rd_T63 L op.f1).f0 < op.f3
        · refine ⟨(L, 2), fine_code L op (by decide), Ev.succ (Ev.of fun k => ?_)⟩
          simp only [impl_CargoStep.j3]
          rw [if_pos a0, if_pos a1, if_neg k1, if_neg k2, if_pos k3, if_pos b0, if_pos b1, if_pos c1]
        · by_cases c2 : (rd_T63 L op.f2).f0 + op.f3 > (rd_T63 L op.f2).f1
          · refine ⟨(L, 3), fine_code L op (by decide), Ev.succ (Ev.of fun k => ?_)⟩
            simp only [impl_CargoStep.j3]
            rw [if_pos a0, if_pos a1, if_neg k1, if_neg k2, if_pos k3, if_pos b0, if_pos b1, if_neg c1, if_pos (by unfold TOk at hB; rw [w64 (by omega) (by omega)]; exact c2)]
          · obtain ⟨hT, hf0, hne⟩ := out_ok hA m0 (Int.not_lt.1 c1)
            have hTB : TOk ⟨wrap64 ((rd_T63 L op.f2).f0 + op.f3), (rd_T63 L op.f2).f1, (rd_T63 L op.f2).f2, (rd_T63 L op.f2).f3, (rd_T63 L op.f2).f4⟩ := by
              unfold TOk at hB ⊢
              dsimp only
              rw [w64 (by omega) (by omega)]
              omega
            obtain ⟨Y, hY⟩ : ∃ Y, Y = L.set op.f1.toNat (outT (rd_T63 L op.f1) op.f3) := ⟨_, rfl⟩
            have hYl : Y.length = L.length := by rw [hY, List.length_set]
            have hYB : rd_T63 Y op.f2 = rd_T63 L op.f2 := by rw [hY]; exact rd63_set_ne a0 b0 (Ne.symm bne)
            obtain ⟨Z, hZ⟩ : ∃ Z, Z = Y.set op.f2.toNat ⟨wrap64 ((rd_T63 Y op.f2).f0 + op.f3), (rd_T63 Y op.f2).f1, (rd_T63 Y op.f2).f2, (rd_T63 Y op.f2).f3, (rd_T63 Y op.f2).f4⟩ := ⟨_, rfl⟩
            have hZl : Z.length = L.length := by rw [hZ, List.length_set, hYl]
            have hZA : rd_T63 Z op.f1 = outT (rd_T63 L op.f1) op.f3 := by rw [hZ, rd63_set_ne b0 a0 bne, hY]; exact hrd _
            have hYR : Right Y := by rw [hY]; exact right_set hR hT _
            have hZR : Right Z := by rw [hZ, hYB]; exact right_set hYR hTB _
            obtain ⟨b, e, hbn⟩ := mayBurn_some (rd_T63 Z op.f1)
            obtain ⟨b', e', hbn'⟩ := mayBurn_some (rd_T63 Z op.f2)
            obtain ⟨v, hv, hE⟩ := j4_ok L L Z a2 (by omega) (by omega) (b || b') (fun k => impl_CargoStep.j6 k L a2 L Z (b || b')) (fun k => by simp only [impl_CargoStep.j6])
            refine ⟨v, ?_, Ev.succ (hE.to fun k => ?_)⟩
            · rcases hv with rfl | ⟨hf, hv⟩
              · exact fine_code L op (by decide)
              · rw [Bool.or_eq_false_iff] at hf
                refine fine_last ⟨hZR, hZl, ?_, a0, a1, m0, by omega, hbn hf.1, fun _ => ⟨b0, b1, hbn' hf.2⟩⟩ hv
                rw [hZ, tot_rd b0 (by omega), hYB, hY, tot_rd a0 a1, hf0]
                unfold want TOk at *
                rw [if_neg k1, if_neg k2]
                dsimp only
                rw [w64 (x := (rd_T63 L op.f2).f0 + op.f3) (by omega) (by omega)]
                omega
            · simp only [impl_CargoStep.j3]
              rw [if_pos a0, if_pos a1, if_neg k1, if_neg k2, if_pos k3, if_pos b0, if_pos b1, if_neg c1, if_neg (by unfold TOk at hB; rw [w64 (by omega) (by omega)]; exact c2), if_neg hne]
              show ((some (L.set op.f1.toNat (outT (rd_T63 L op.f1) op.f3))).bind fun y310 => _) = _
              rw [Option.bind_some, ← hY, Option.bind_some, ← hZ, if_neg (by omega), e, Option.bind_some]
              cases b with
              | true => rw [if_pos rfl]; rfl
              | false => rw [if_neg (by decide), e', Option.bind_some]; rfl
      · have hx : x10 = 100 := by omega
        subst hx
        obtain ⟨hT1, hT2⟩ := thin_ok hA m0 m1
        obtain ⟨G, hG⟩ : ∃ G, G = thin (rd_T63 L op.f1).f3 op.f3 := ⟨_, rfl⟩
        obtain ⟨A, hAi⟩ : ∃ A, A = thin (rd_T63 L op.f1).f4 op.f3 := ⟨_, rfl⟩
        rw [← hG, ← hAi] at hT1 hT2
        have hG' := hG
        have hA' := hAi
        unfold thin at hG' hA'
        by_cases k5 : op.f0 = 5
        · obtain ⟨b, e, hbn⟩ := mayBurn_some ⟨(rd_T63 L op.f1).f0, (rd_T63 L op.f1).f1, (rd_T63 L op.f1).f2, G, wrap64 (A + wrap64 (10 * op.f3))⟩
          obtain ⟨v, hv, hE⟩ := j4_ok L L (L.set op.f1.toNat ⟨(rd_T63 L op.f1).f0, (rd_T63 L op.f1).f1, (rd_T63 L op.f1).f2, G, wrap64 (A + wrap64 (10 * op.f3))⟩) a2 (by omega) (hln _) b (fun k => impl_CargoStep.j7 k L a2 L (L.set op.f1.toNat ⟨(rd_T63 L op.f1).f0, (rd_T63 L op.f1).f1, (rd_T63 L op.f1).f2, G, wrap64 (A + wrap64 (10 * op.f3))⟩) b) (fun k => by simp only [impl_CargoStep.j7])
          refine ⟨v, ?_, Ev.succ (hE.to fun k => ?_)⟩
          · rcases hv with rfl | ⟨hf, hv⟩
            · exact fine_code L op (by decide)
            · refine fine_last ⟨right_set hR hT2 _, by rw [List.length_set], ?_, a0, a1, m0, by omega, by rw [hrd]; exact hbn hf, fun h => by omega⟩ hv
              rw [tot_rd a0 a1]
              unfold want
              rw [if_neg k1, if_neg k2]
              dsimp only
              omega
          · simp only [impl_CargoStep.j3]
            rw [if_pos a0, if_pos a1, if_neg k1, if_neg k2, if_neg k3, if_pos trivial, ← hG', Option.bind_some]
            simp only [hrd, hss, Option.bind_some]
            rw [← hA', if_pos k5, e, Option.bind_some]
            cases b with
            | true => rw [if_pos rfl]
            | false => rw [if_neg (by decide)]
        · obtain ⟨b, e, hbn⟩ := mayBurn_some ⟨(rd_T63 L op.f1).f0, (rd_T63 L op.f1).f1, (rd_T63 L op.f1).f2, G, A⟩
          obtain ⟨v, hv, hE⟩ := j4_ok L L (L.set op.f1.toNat ⟨(rd_T63 L op.f1).f0, (rd_T63 L op.f1).f1, (rd_T63 L op.f1).f2, G, A⟩) a2 (by omega) (hln _) b (fun k => impl_CargoStep.j8 k L a2 L (L.set op.f1.toNat ⟨(rd_T63 L op.f1).f0, (rd_T63 L op.f1).f1, (rd_T63 L op.f1).f2, G, A⟩) b) (fun k => by simp only [impl_CargoStep.j8])
          refine ⟨v, ?_, Ev.succ (hE.to fun k => ?_)⟩
          · rcases hv with rfl | ⟨hf, hv⟩
            · exact fine_code L op (by decide)
            · refine fine_last ⟨right_set hR hT1 _, by rw [List.length_set], ?_, a0, a1, m0, by omega, by rw [hrd]; exact hbn hf, fun h => by omega⟩ hv
              rw [tot_rd a0 a1]
              unfold want
              rw [if_neg k1, if_neg k2]
              dsimp only
              omega
          · simp only [impl_CargoStep.j3]
            rw [if_pos a0, if_pos a1, if_neg k1, if_neg k2, if_neg k3, if_pos trivial, ← hG', Option.bind_some]
            simp only [hrd, hss, Option.bind_some]
            rw [← hA', if_neg k5, e, Option.bind_some]
            cases b with
            | true => rw [if_pos rfl]
            | false => rw [if_neg (by decide)]
theorem j2_bad (L : List S63) (op : S61) (a2 x10 : Int) (y0 y1 y2 y3 : Int) : Ev (fun k => impl_CargoStep.j2 k L a2 L x10 true y0 y1 y2 y3) (L, 1) :=
  Ev.succ (Ev.of fun k => by simp only [impl_CargoStep.j2]; rw [if_pos trivial])
theorem step_ok (L : List S63) (hR : Right L) (op : S61) : ∃ v : List S63 × Int, Fine L op v ∧ Ev (fun k => impl_CargoStep.f k L op.f0 op.f1 op.f2 op.f3 100000) v := by
  have hn := hR.2.1
  have hn0 := hR.1
  have hok := tanks_ok L (by omega)
  rw [(okb_iff L).2 hR] at hok
  obtain ⟨M, hM⟩ : ∃ M : Int, M = if op.f0 = 4 ∨ op.f0 = 5 then 100 else 100000 := ⟨_, rfl⟩
  -- behind the tests
  have key : ∃ v : List S63 × Int, Fine L op v ∧ Ev (fun k => impl_CargoStep.j1 k L 100000 L ((L.length : Int) - 1) M op.f0 op.f1 op.f2 op.f3) v := by
    have hbad : ∀ (G : Nat → Option (List S63 × Int)), (∀ k, G k = impl_CargoStep.j2 k L 100000 L M true op.f0 op.f1 op.f2 op.f3) → Ev G (L, 1) := fun G h => (j2_bad L op 100000 M _ _ _ _).to h
    have hj1 : ∀ v, Ev (fun k => (impl_in.f op.f0 1 5).bind fun t288 => (if t288 = true then ((impl_in.f op.f1 0 ((L.length : Int) - 1)).bind fun t289 => (if t289 = true then ((impl_in.f op.f3 1 M).bind fun t290 => (if t290 = true then (if op.f0 = 3 then ((impl_in.f op.f2 0 ((L.length : Int) - 1)).bind fun t291 => (if t291 = true then (if op.f2 = op.f1 then (impl_CargoStep.j2 k L 100000 L M true op.f0 op.f1 op.f2 op.f3) else ((impl_in.f 100000 0 100000000).bind fun t292 => (impl_CargoStep.j2 k L 100000 L M (!t292) op.f0 op.f1 op.f2 op.f3))) else (impl_CargoStep.j2 k L 100000 L M true op.f0 op.f1 op.f2 op.f3))) else ((impl_in.f 100000 0 100000000).bind fun t293 => (impl_CargoStep.j2 k L 100000 L M (!t293) op.f0 op.f1 op.f2 op.f3))) else (impl_CargoStep.j2 k L 100000 L M true op.f0 op.f1 op.f2 op.f3))) else (impl_CargoStep.j2 k L 100000 L M true op.f0 op.f1 op.f2 op.f3))) else (impl_CargoStep.j2 k L 100000 L M true op.f0 op.f1 op.f2 op.f3))) v → Ev (fun k => impl_CargoStep.j1 k L 100000 L ((L.length : Int) - 1) M op.f0 op.f1 op.f2 op.f3) v := fun v hv => by
      refine Ev.succ ?_
      simp only [impl_CargoStep.j1]
      exact Ev.bind hok (hv.to fun k => if_pos rfl)
    have hlean : impl_in.f 100000 0 100000000 = some true := by rw [in_is]; rfl
    by_cases c1 : 1 ≤ op.f0 ∧ op.f0 ≤ 5
    · by_cases c2 : 0 ≤ op.f1 ∧ op.f1 ≤ (L.length : Int) - 1
      · by_cases c3 : 1 ≤ op.f3 ∧ op.f3 ≤ M
        · have hM' : (op.f0 = 4 ∨ op.f0 = 5) ∧ M = 100 ∨ (op.f0 = 1 ∨ op.f0 = 2 ∨ op.f0 = 3) ∧ M = 100000 := by
            by_cases h : op.f0 = 4 ∨ op.f0 = 5
            · rw [if_pos h] at hM; exact .inl ⟨h, hM⟩
            · rw [if_neg h] at hM; exact .inr ⟨by omega, hM⟩
          have good : (op.f0 = 3 → 0 ≤ op.f2 ∧ op.f2 < L.length ∧ op.f2 ≠ op.f1) → ∃ v : List S63 × Int, Fine L op v ∧ Ev (fun k => impl_CargoStep.j2 k L 100000 L M false op.f0 op.f1 op.f2 op.f3) v := fun hb => by
            obtain ⟨v, hv, hE⟩ := j3_ok L hR op M hM' c2.1 (by omega) c3.1 c3.2 hb 100000
            refine ⟨v, hv, Ev.succ (hE.to fun k => ?_)⟩
            simp only [impl_CargoStep.j2]
            rw [if_neg (by decide), own_ok L (by omega), Option.bind_some]
          by_cases c4 : op.f0 = 3
          · by_cases c5 : 0 ≤ op.f2 ∧ op.f2 ≤ (L.length : Int) - 1
            · by_cases c6 : op.f2 = op.f1
              · refine ⟨(L, 1), fine_code L op (by decide), hj1 _ (hbad _ fun k => ?_)⟩
                rw [in_is, Option.bind_some, if_pos (decide_eq_true c1), in_is, Option.bind_some, if_pos (decide_eq_true c2), in_is, Option.bind_some, if_pos (decide_eq_true c3), if_pos c4, in_is, Option.bind_some, if_pos (decide_eq_true c5), if_pos c6]
              · obtain ⟨v, hv, hE⟩ := good fun _ => ⟨c5.1, by omega, c6⟩
                refine ⟨v, hv, hj1 _ (hE.to fun k => ?_)⟩
                rw [in_is op.f0, Option.bind_some, if_pos (decide_eq_true c1), in_is op.f1, Option.bind_some, if_pos (decide_eq_true c2), in_is op.f3, Option.bind_some, if_pos (decide_eq_true c3), if_pos c4, in_is op.f2, Option.bind_some, if_pos (decide_eq_true c5), if_neg c6, hlean, Option.bind_some]
                rfl
            · refine ⟨(L, 1), fine_code L op (by decide), hj1 _ (hbad _ fun k => ?_)⟩
              rw [in_is, Option.bind_some, if_pos (decide_eq_true c1), in_is, Option.bind_some, if_pos (decide_eq_true c2), in_is, Option.bind_some, if_pos (decide_eq_true c3), if_pos c4, in_is, Option.bind_some, if_neg (by simpa using c5)]
          · obtain ⟨v, hv, hE⟩ := good fun h => absurd h c4
            refine ⟨v, hv, hj1 _ (hE.to fun k => ?_)⟩
            rw [in_is op.f0, Option.bind_some, if_pos (decide_eq_true c1), in_is op.f1, Option.bind_some, if_pos (decide_eq_true c2), in_is op.f3, Option.bind_some, if_pos (decide_eq_true c3), if_neg c4, hlean, Option.bind_some]
            rfl
        · refine ⟨(L, 1), fine_code L op (by decide), hj1 _ (hbad _ fun k => ?_)⟩
          rw [in_is, Option.bind_some, if_pos (decide_eq_true c1), in_is, Option.bind_some, if_pos (decide_eq_true c2), in_is, Option.bind_some, if_neg (by simpa using c3)]
      · refine ⟨(L, 1), fine_code L op (by decide), hj1 _ (hbad _ fun k => ?_)⟩
        rw [in_is, Option.bind_some, if_pos (decide_eq_true c1), in_is, Option.bind_some, if_neg (by simpa using c2)]
    · refine ⟨(L, 1), fine_code L op (by decide), hj1 _ (hbad _ fun k => ?_)⟩
      rw [in_is, Option.bind_some, if_neg (by simpa using c1)]
  obtain ⟨v, hv, hE⟩ := key
  have hsub : wrap64 ((L.length : Int) - 1) = (L.length : Int) - 1 := w64 (by omega) (by omega)
  refine ⟨v, hv, (Ev.succ (f := fun k => impl_CargoStep.j0 k L 100000 L ((L.length : Int) - 1) 100000 (decide (op.f0 = 4 ∨ op.f0 = 5)) op.f0 op.f1 op.f2 op.f3) (hE.to fun k => ?_)).to fun k => ?_⟩
  · simp only [impl_CargoStep.j0]
    by_cases h : op.f0 = 4 ∨ op.f0 = 5
    · rw [if_pos h] at hM; rw [if_pos (decide_eq_true h), hM]
    · rw [if_neg h] at hM; rw [if_neg (by simpa using h), hM]
  · unfold impl_CargoStep.f
    rw [own_ok L (by omega), Option.bind_some, hsub]
    by_cases h4 : op.f0 = 4
    · rw [if_pos h4, decide_eq_true (show op.f0 = 4 ∨ op.f0 = 5 from .inl h4)]
    · rw [if_neg h4]
      by_cases h5 : op.f0 = 5
      · rw [decide_eq_true (show op.f0 = 4 ∨ op.f0 = 5 from .inr h5), h5]; rfl
      · rw [decide_eq_false (show ¬ (op.f0 = 4 ∨ op.f0 = 5) by omega), beq_eq_false_iff_ne.2 h5]
/-! ### the law -/
def Steps : List S61 → List S63 → List S63 → Prop
  | [], a, b => a = b
  | op :: ops, a, b => ∃ v : List S63 × Int, Fine a op v ∧ Right v.1 ∧ v.1.length = a.length ∧ Ev (fun k => impl_CargoStep.f k a op.f0 op.f1 op.f2 op.f3 100000) v ∧ Steps ops v.1 b
theorem chain (ops : List S61) : ∀ a : List S63, Right a → ∃ b, Right b ∧ Steps ops a b := by
  induction ops with
  | nil => intro a h; exact ⟨a, h, rfl⟩
  | cons op ops ih =>
    intro a h
    obtain ⟨v, hv, hE⟩ := step_ok a h op
    have hr : Right v.1 ∧ v.1.length = a.length := by
      by_cases c : v.2 = 0
      · exact ⟨(hv.2 c).right, (hv.2 c).len⟩
      · rw [hv.1 c]; exact ⟨h, rfl⟩
    obtain ⟨b, hb, hs⟩ := ih v.1 hr.1
    exact ⟨b, hb, v, hv, hr.1, hr.2, hE, hs⟩
theorem own_int (l : List Int) (hl : l.length ≤ 100) : impl_own_int.f l = some l := by
  unfold impl_own_int.f
  rw [if_pos (by omega), if_pos (by omega), Option.bind_some, if_pos (by simp; omega), List.nil_append]
theorem run_loop (ops : List S61) (hn : ops.length ≤ 100) (b : List S63) (d : Nat) : ∀ (i : Nat) (a : List S63) (cs : List Int), i ≤ ops.length → ops.length - i = d → cs.length = i → Steps (ops.drop i) a b →
    ∃ cs' : List Int, cs'.length = ops.length ∧ Ev (fun k => impl_CargoRun.l0 k 100000 a cs ops (ops.length : Int) (i : Int)) (b, cs') := by
  induction d with
  | zero =>
    intro i a cs hi hd hc hs
    obtain rfl : i = ops.length := by omega
    rw [List.drop_eq_nil_of_le (Nat.le_refl _)] at hs
    obtain rfl : a = b := hs
    refine ⟨cs, hc, Ev.succ (Ev.of fun k => ?_)⟩
    simp only [impl_CargoRun.l0]
    rw [if_neg (by omega), own_int cs (by omega), Option.bind_some]
  | succ d ih =>
    intro i a cs hi hd hc hs
    have hil : i < ops.length := by omega
    rw [List.drop_eq_getElem_cons hil] at hs
    obtain ⟨v, hv, hr, hl, hE, hs⟩ := hs
    obtain ⟨cs', h1, h2⟩ := ih (i + 1) v.1 (cs ++ [v.2]) (by omega) (by omega) (by simp; omega) hs
    have hcl : cs.length < 17592186044416 := by omega
    refine ⟨cs', h1, Ev.succ ((Ev.bind (f := fun k => impl_CargoStep.f k a ops[i].f0 ops[i].f1 ops[i].f2 ops[i].f3 100000) (g := fun k w => if cs.length < 17592186044416 then impl_CargoRun.l0 k 100000 w.1 (cs ++ [w.2]) ops (ops.length : Int) ((i + 1 : Nat) : Int) else none) hE (h2.to fun k => if_pos hcl)).to fun k => ?_)⟩
    simp only [impl_CargoRun.l0]
    rw [if_pos (by omega), if_pos (by omega), if_pos (by omega), O_nat hil, wn (by omega)]
theorem run_ok (ops : List S61) (hn : ops.length ≤ 100) {a b : List S63} (ha : Right a) (hs : Steps ops a b) : ∃ cs' : List Int, cs'.length = ops.length ∧ Ev (fun k => impl_CargoRun.f k a ops 100000) (b, cs') := by
  obtain ⟨cs', h1, h2⟩ := run_loop ops hn b ops.length 0 a [] (by omega) (by omega) rfl (by simpa using hs)
  refine ⟨cs', h1, h2.to fun k => ?_⟩
  unfold impl_CargoRun.f
  rw [own_ok a (by have := ha.2.1; omega), Option.bind_some, if_neg (by omega)]; rfl
theorem same_not (t : S63) : (!(t.f0 == t.f0) || (!(t.f1 == t.f1) || (!(t.f2 == t.f2) || (!(t.f3 == t.f3) || (!(t.f4 == t.f4)))))) = false := by simp
theorem l3_loop (ops : List S61) (b : List S63) (hb : Right b) (cs : List Int) (hc : cs.length = ops.length) (hn : ops.length ≤ 100) (d : Nat) : ∀ i : Nat, i ≤ b.length → b.length - i = d → Ev (fun k => laws_FnCargo.l3 k ops b b cs (i : Int)) true := by
  have hbl := hb.2.1
  induction d with
  | zero =>
    intro i hi hd
    have hok := tanks_ok b (by omega)
    rw [(okb_iff b).2 hb] at hok
    refine Ev.succ ((Ev.bind (g := fun _ t => some t) hok (Ev.of fun _ => rfl)).to fun k => ?_)
    simp only [laws_FnCargo.l3]
    rw [if_neg (by omega), if_pos (by omega)]
  | succ d ih =>
    intro i hi hd
    refine Ev.succ ((ih (i + 1) (by omega) (by omega)).to fun k => ?_)
    simp only [laws_FnCargo.l3]
    rw [if_pos (by omega), if_pos (by omega), if_pos (by omega), same_not, if_neg (by decide), wn (by omega)]
theorem l2_loop (tanks : List S63) (ops : List S61) (i : Nat) (hi : i < ops.length) (hn : ops.length ≤ 100) (N : List S63) (hN : Right N) (nm : List Int) (hm : nm.length ≤ 2) (hx : ∀ x ∈ nm, 0 ≤ x ∧ x < N.length ∧ ¬ burns (rd_T63 N x)) (r : Bool) (hr : Ev (fun k => laws_FnCargo.l0 k tanks ops N ((i + 1 : Nat) : Int)) r) (d : Nat) : ∀ j : Nat, j ≤ nm.length → nm.length - j = d → Ev (fun k => laws_FnCargo.l2 k tanks ops (i : Int) N nm (nm.length : Int) (j : Int)) r := by
  have hnl := hN.2.1
  induction d with
  | zero =>
    intro j hj hd
    have hok := tanks_ok N (by omega)
    rw [(okb_iff N).2 hN] at hok
    refine Ev.succ ((Ev.bind (g := fun k t => if t = true then laws_FnCargo.l0 k tanks ops N ((i + 1 : Nat) : Int) else some false) hok (hr.to fun k => if_pos rfl)).to fun k => ?_)
    simp only [laws_FnCargo.l2]
    rw [if_neg (by omega), wn (by omega)]
  | succ d ih =>
    intro j hj hd
    have hjl : j < nm.length := by omega
    obtain ⟨x0, x1, x2⟩ := hx _ (List.getElem_mem hjl)
    have e : rd nm (j : Int) = nm[j] := by simp [rd, List.getD_eq_getElem?_getD, List.getElem?_eq_getElem hjl]
    refine Ev.succ ((ih (j + 1) (by omega) (by omega)).to fun k => ?_)
    simp only [laws_FnCargo.l2]
    rw [if_pos (by omega), if_pos (by omega), if_pos (by omega), e, if_pos x0, if_pos x1, wn (by omega)]
    unfold burns at x2
    by_cases c1 : (rd_T63 N nm[j]).f4 > 110
    · rw [if_pos c1]
      by_cases c2 : (rd_T63 N nm[j]).f3 ≥ 20
      · rw [if_pos c2, if_neg (fun c3 => x2 ⟨c1, c2, c3⟩)]
      · rw [if_neg c2]
    · rw [if_neg c1]
theorem tail_rd {L : List S63} {i : Nat} (h : i < L.length) : tot (L.drop i) = (rd_T63 L i).f0 + tot (L.drop (i + 1)) := by
  rw [List.drop_eq_getElem_cons h, T_nat h]; rfl
theorem tot_bound (L : List S63) (h : ∀ t ∈ L, TOk t) : 0 ≤ tot L ∧ tot L ≤ 100000 * L.length := by
  induction L with
  | nil => simp [tot]
  | cons x l ih =>
    obtain ⟨h1, h2⟩ := ih (fun t ht => h t (List.mem_cons_of_mem _ ht))
    have := h x (List.mem_cons_self ..)
    unfold TOk at this
    simp only [tot, List.length_cons]
    omega
theorem l1_loop (tanks : List S63) (ops : List S61) (i : Nat) (hi : i < ops.length) (A N : List S63) (hA : Right A) (hN : Right N) (hl : N.length = A.length) (x : Int) (hx : x ≠ 0 → N = A) (r : Bool)
    (hr : Ev (fun k => if x = 0 then (if 0 ≤ (i : Int) then (if (i : Int) < (ops.length : Int) then (laws_FnCargo.j2 k tanks ops (i : Int) N x (tot N - tot A) 0 (((rd_T61 ops i).f0) == 1)) else none) else none) else laws_FnCargo.j2 k tanks ops (i : Int) N x (tot N - tot A) 0 false) r) (d : Nat) :
    ∀ (j : Nat) (s : Int), j ≤ A.length → A.length - j = d → s + tot (N.drop j) - tot (A.drop j) = tot N - tot A → -100000000 ≤ s → s ≤ 100000000 → Ev (fun k => laws_FnCargo.l1 k tanks ops A (i : Int) N x s (j : Int)) r := by
  have hal := hA.2.1
  induction d with
  | zero =>
    intro j s hj hd hs b0 b1
    obtain rfl : j = A.length := by omega
    rw [List.drop_eq_nil_of_le (by omega), List.drop_eq_nil_of_le (by omega)] at hs
    simp only [tot, Int.add_zero, Int.sub_zero] at hs
    refine Ev.succ (hr.to fun k => ?_)
    simp only [laws_FnCargo.l1]
    rw [if_neg (by omega), hs]
  | succ d ih =>
    intro j s hj hd hs b0 b1
    have hjA : j < A.length := by omega
    have hjN : j < N.length := by omega
    rw [tail_rd hjA, tail_rd hjN] at hs
    have tA := hA.2.2 _ (List.getElem_mem hjA)
    have tN := hN.2.2 _ (List.getElem_mem hjN)
    rw [← T_nat hjA] at tA
    rw [← T_nat hjN] at tN
    unfold TOk at tA tN
    have q1 := tot_bound (N.drop (j + 1)) (fun t ht => hN.2.2 t (List.mem_of_mem_drop ht))
    have q2 := tot_bound (A.drop (j + 1)) (fun t ht => hA.2.2 t (List.mem_of_mem_drop ht))
    have q3 := tot_bound N hN.2.2
    have q4 := tot_bound A hA.2.2
    rw [List.length_drop] at q1 q2
    refine Ev.succ ((ih (j + 1) (s + (rd_T63 N j).f0 - (rd_T63 A j).f0) (by omega) (by omega) (by omega) (by omega) (by omega)).to fun k => ?_)
    simp only [laws_FnCargo.l1]
    rw [if_pos (by omega), if_pos (by omega), if_pos (by omega), w64 (x := s + (rd_T63 N j).f0) (by omega) (by omega), w64 (x := s + (rd_T63 N j).f0 - (rd_T63 A j).f0) (by omega) (by omega), wn (by omega)]
    by_cases c : x = 0
    · rw [if_pos c]
    · rw [if_neg c, hx c, same_not, if_neg (by decide)]
theorem law_loop (tanks : List S63) (ops : List S61) (hn : ops.length ≤ 19) (b : List S63) (hb : Right b) (ht : Right tanks) (hall : Steps ops tanks b) (d : Nat) : ∀ (i : Nat) (a : List S63), i ≤ ops.length → ops.length - i = d → Right a → Steps (ops.drop i) a b → Ev (fun k => laws_FnCargo.l0 k tanks ops a (i : Int)) true := by
  induction d with
  | zero =>
    intro i a hi hd ha hs
    obtain rfl : i = ops.length := by omega
    rw [List.drop_eq_nil_of_le (Nat.le_refl _)] at hs
    obtain rfl : a = b := hs
    obtain ⟨cs, h1, h2⟩ := run_ok ops (by omega) ht hall
    refine Ev.succ ((Ev.bind (g := fun k (w : List S63 × List Int) => if (w.1.length : Int) = (a.length : Int) then laws_FnCargo.l3 k ops a w.1 w.2 0 else some false) h2 ((l3_loop ops a ha cs h1 (by omega) a.length 0 (by omega) (by omega)).to fun k => if_pos rfl)).to fun k => ?_)
    simp only [laws_FnCargo.l0]
    rw [if_neg (by omega)]
  | succ d ih =>
    intro i a hi hd ha hs
    have hil : i < ops.length := by omega
    rw [List.drop_eq_getElem_cons hil] at hs
    obtain ⟨⟨N, x⟩, hv, hr, hl, hE, hs⟩ := hs
    dsimp only at hr hl hs
    have hnext := ih (i + 1) N (by omega) (by omega) hr hs
    have hx : x ≠ 0 → N = a := hv.1
    have hj5 : ∀ w, tot N - tot a = w → Ev (fun k => laws_FnCargo.j5 k tanks ops (i : Int) N x (tot N - tot a) w) true := by
      intro w hw
      by_cases c : x = 0
      · have hd := hv.2 c
        have hnm : ∀ nm : List Int, nm.length ≤ 2 → (∀ y ∈ nm, 0 ≤ y ∧ y < N.length ∧ ¬ burns (rd_T63 N y)) → Ev (fun k => laws_FnCargo.j6 k tanks ops (i : Int) N nm) true := fun nm h1 h2 =>
          Ev.succ ((l2_loop tanks ops i hil (by omega) N hr nm h1 h2 true hnext nm.length 0 (by omega) (by omega)).to fun k => by simp only [laws_FnCargo.j6]; rfl)
        have hA : 0 ≤ ops[i].f1 ∧ ops[i].f1 < N.length ∧ ¬ burns (rd_T63 N ops[i].f1) := ⟨hd.a0, by rw [hl]; exact hd.a1, hd.burn⟩
        by_cases c3 : ops[i].f0 = 3
        · obtain ⟨g0, g1, g2⟩ := hd.b c3
          refine Ev.succ ((hnm [ops[i].f1, ops[i].f2] (by simp) (fun y hy => ?_)).to fun k => ?_)
          · rcases List.mem_cons.1 hy with rfl | hy
            · exact hA
            · rw [List.mem_singleton.1 hy]; exact ⟨g0, by rw [hl]; exact g1, g2⟩
          · simp only [laws_FnCargo.j5]
            rw [if_pos hw, if_pos c, if_pos (by omega), if_pos (by omega), O_nat hil, Option.bind_some, if_pos c3, if_pos (by simp)]; rfl
        · refine Ev.succ ((hnm [ops[i].f1] (by simp) (fun y hy => by rw [List.mem_singleton.1 hy]; exact hA)).to fun k => ?_)
          simp only [laws_FnCargo.j5]
          rw [if_pos hw, if_pos c, if_pos (by omega), if_pos (by omega), O_nat hil, Option.bind_some, if_neg c3]
      · refine Ev.succ (hnext.to fun k => ?_)
        simp only [laws_FnCargo.j5]
        rw [if_pos hw, if_neg c, wn (by omega)]
    have hj4 : ∀ (w : Int) (f : Bool), f = decide (x = 0 ∧ ops[i].f0 = 2) → (tot N - tot a = if f = true then -ops[i].f3 else w) → Ev (fun k => laws_FnCargo.j4 k tanks ops (i : Int) N x (tot N - tot a) w f) true := by
      intro w f hf hw
      cases f with
      | true =>
        obtain ⟨c, c2⟩ := of_decide_eq_true hf.symm
        have hd := hv.2 c
        rw [if_pos rfl] at hw
        refine Ev.succ ((hj5 _ hw).to fun k => ?_)
        simp only [laws_FnCargo.j4]
        rw [if_pos trivial, if_pos (by omega), if_pos (by omega), O_nat hil, w64 (by have := hd.m1; omega) (by have := hd.m0; omega)]
      | false =>
        rw [if_neg (by decide)] at hw
        refine Ev.succ ((hj5 _ hw).to fun k => ?_)
        simp only [laws_FnCargo.j4]
        rw [if_neg (by decide)]
    have hj3 : ∀ w : Int, (tot N - tot a = if x = 0 ∧ ops[i].f0 = 2 then -ops[i].f3 else w) → Ev (fun k => laws_FnCargo.j3 k tanks ops (i : Int) N x (tot N - tot a) w) true := by
      intro w hw
      refine Ev.succ ((hj4 w (decide (x = 0 ∧ ops[i].f0 = 2)) rfl (by rw [hw]; by_cases c : x = 0 ∧ ops[i].f0 = 2 <;> simp [c])).to fun k => ?_)
      simp only [laws_FnCargo.j3]
      by_cases c : x = 0
      · rw [if_pos c, if_pos (by omega), if_pos (by omega), O_nat hil]
        by_cases c2 : ops[i].f0 = 2
        · rw [c2, decide_eq_true (show x = 0 ∧ (2 : Int) = 2 from ⟨c, rfl⟩)]; rfl
        · rw [decide_eq_false (fun h => c2 h.2), beq_eq_false_iff_ne.2 c2]
      · rw [if_neg c, decide_eq_false (fun h => c h.1)]
    have hj2 : ∀ f : Bool, f = decide (x = 0 ∧ ops[i].f0 = 1) → Ev (fun k => laws_FnCargo.j2 k tanks ops (i : Int) N x (tot N - tot a) 0 f) true := by
      intro f hf
      cases f with
      | true =>
        obtain ⟨c, c1⟩ := of_decide_eq_true hf.symm
        have hd := hv.2 c
        refine Ev.succ ((hj3 ops[i].f3 ?_).to fun k => ?_)
        · rw [if_neg (by omega), hd.tot]; unfold want; rw [if_pos c1]; omega
        · simp only [laws_FnCargo.j2]
          rw [if_pos trivial, if_pos (by omega), if_pos (by omega), O_nat hil]
      | false =>
        have hc := of_decide_eq_false hf.symm
        refine Ev.succ ((hj3 0 ?_).to fun k => ?_)
        · by_cases c : x = 0
          · have hd := hv.2 c
            rw [hd.tot]; unfold want
            have c1 : ¬ ops[i].f0 = 1 := fun h => hc ⟨c, h⟩
            rw [if_neg c1]
            by_cases c2 : ops[i].f0 = 2
            · rw [if_pos c2, if_pos ⟨c, c2⟩]; omega
            · rw [if_neg c2, if_neg (fun h => c2 h.2)]; omega
          · rw [if_neg (fun h => c h.1), hx c]; omega
        · simp only [laws_FnCargo.j2]
          rw [if_neg (by decide)]
    have hl1 := l1_loop tanks ops i hil a N ha hr hl x hx true ((hj2 (decide (x = 0 ∧ ops[i].f0 = 1)) rfl).to fun k => by
      by_cases c : x = 0
      · rw [if_pos c, if_pos (by omega), if_pos (by omega), O_nat hil]
        by_cases c2 : ops[i].f0 = 1
        · rw [c2, decide_eq_true (show x = 0 ∧ (1 : Int) = 1 from ⟨c, rfl⟩)]; rfl
        · rw [decide_eq_false (fun h => c2 h.2), beq_eq_false_iff_ne.2 c2]
      · rw [if_neg c, decide_eq_false (fun h => c h.1)]) a.length 0 0 (by omega) (by omega) (by simp) (by omega) (by omega)
    refine Ev.succ ((Ev.bind (g := fun k (w : List S63 × Int) => if (w.1.length : Int) = (a.length : Int) then laws_FnCargo.l1 k tanks ops a (i : Int) w.1 w.2 0 0 else some false) hE (hl1.to fun k => if_pos (by dsimp only; omega))).to fun k => ?_)
    simp only [laws_FnCargo.l0]
    rw [if_pos (by omega), if_pos (by omega), O_nat hil]
theorem FnCargo : laws_FnCargo.Pure := by
  intro l0 _ _ hwf
  by_cases hbig : (l0.length : Int) > 1048576
  · refine ⟨0, ?_⟩
    unfold laws_FnCargo.f laws_big.f
    rw [decide_eq_true hbig, Option.bind_some, if_pos rfl]
  · obtain ⟨L, ops, hL, hn, hD⟩ := drawn l0 (by omega)
    obtain ⟨b, hb, hs⟩ := chain ops L hL
    have h := Ev.bind (g := fun k (w : List S63 × List S61) => laws_FnCargo.l0 k w.1 w.2 w.1 0) hD (law_loop L ops hn b hb hL hs ops.length 0 L (by omega) (by omega) hL (by simpa using hs))
    obtain ⟨k, hk⟩ := h.get
    refine ⟨k, ?_⟩
    unfold laws_FnCargo.f laws_big.f
    rw [decide_eq_false hbig, Option.bind_some, if_neg (by decide)]
    exact hk

end Go.Proofs.Ytlphfhibnbhkfaa.Pure
