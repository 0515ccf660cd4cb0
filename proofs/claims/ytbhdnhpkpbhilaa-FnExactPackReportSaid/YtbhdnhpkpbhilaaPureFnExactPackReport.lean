/- The program's PackReport returns what the reference's returns, for all arguments; what it hands back is new memory. -/
import Derived.Test.YtbhdnhpkpbhilaaPFnExactPackReportx2
import Derived.Test.YtbhdnhpkpbhilaaKit
import Derived.Laws.BitsLemmas
set_option linter.unusedVariables false
set_option linter.unusedSimpArgs false
namespace Go.Proofs.Ytbhdnhpkpbhilaa.Pure
open Go.RowKit Go.Proofs.Ytbhdnhpkpbhilaa.PFnExactPackReport Go.Proofs.YtbhdnhpkpbhilaaW.PrintWords Go.Proofs.YtbhdnhpkpbhilaaW.PrintLast Go.Proofs.YtbhdnhpkpbhilaaW.Kit

theorem mask_nat (x : Int) (i : Nat) (hi : i ≤ 62) : Go.bits .and .i64 x ((2 ^ i - 1 : Nat) : Int) = x % ((2 ^ i : Nat) : Int) := by
  have hp : 0 < 2 ^ i := Nat.two_pow_pos i
  have h62 : 2 ^ i ≤ 2 ^ 62 := Nat.pow_le_pow_right (by decide) hi
  have e62 : (2 : Nat) ^ 62 = 4611686018427387904 := by decide
  rw [e62] at h62
  have hm : (2 ^ i - 1) % 2 ^ 64 = 2 ^ i - 1 := Nat.mod_eq_of_lt (by have : (2:Nat)^64 = 18446744073709551616 := by decide
                                                                     omega)
  have hd : ((2 ^ i : Nat) : Int) ∣ 18446744073709551616 := by
    have : (2 : Nat) ^ i ∣ 2 ^ 64 := Nat.pow_dvd_pow 2 (by omega)
    have h2 : (2 : Nat) ^ 64 = 18446744073709551616 := by decide
    rw [h2] at this
    exact Int.natCast_dvd_natCast.2 this
  show IntKind.i64.wrap ((BitVec.ofInt 64 x &&& BitVec.ofInt 64 ((2 ^ i - 1 : Nat) : Int)).toNat : Int) = _
  rw [BitVec.toNat_and, BitVec.ofInt_natCast, BitVec.toNat_ofNat, hm, Nat.and_two_pow_sub_one_eq_mod, BitVec.toNat_ofInt, IntKind.wrap_i64]
  have hx : 0 ≤ x % 18446744073709551616 := Int.emod_nonneg _ (by decide)
  have e : (((x % ((2 ^ 64 : Nat) : Int)).toNat % 2 ^ i : Nat) : Int) = x % ((2 ^ i : Nat) : Int) := by
    rw [Int.natCast_emod, show (((2 ^ 64 : Nat) : Int)) = 18446744073709551616 by decide, Int.toNat_of_nonneg hx, Int.emod_emod_of_dvd _ hd]
  rw [e]
  have h1 := Int.emod_nonneg x (show ((2 ^ i : Nat) : Int) ≠ 0 by omega)
  have h2 := Int.emod_lt_of_pos x (show (0 : Int) < ((2 ^ i : Nat) : Int) by omega)
  generalize x % ((2 ^ i : Nat) : Int) = r at h1 h2 ⊢
  omega
theorem mask24 (x : Int) : Go.bits .and .i64 x 16777215 = x % 16777216 := mask_nat x 24 (by decide)
theorem mask16 (x : Int) : Go.bits .and .i64 x 65535 = x % 65536 := mask_nat x 16 (by decide)
theorem mask8 (x : Int) : Go.bits .and .i64 x 255 = x % 256 := mask_nat x 8 (by decide)
theorem mask30 (x : Int) : Go.bits .and .i64 x 1073741823 = x % 1073741824 := mask_nat x 30 (by decide)
/-! ### laws.eqByteS, markByteS, heldByteS -/
theorem eqB_loop (l : List Int) (hn : l.length ≤ 1000000000) (d : Nat) : ∀ (k : Nat) (i : Int), 0 ≤ i → i ≤ l.length → (l.length : Int) - i = d → d < k → laws_eqByteS.l0 k l l i = some true := by
  induction d with
  | zero =>
    intro k i h0 h1 hd hk
    obtain ⟨k, rfl⟩ := pos_round (show 0 < k by omega)
    simp only [laws_eqByteS.l0]
    rw [if_neg (by omega)]
  | succ d ih =>
    intro k i h0 h1 hd hk
    obtain ⟨k, rfl⟩ := pos_round (show 0 < k by omega)
    simp only [laws_eqByteS.l0]
    rw [if_pos (by omega), if_pos h0, if_pos (by omega), w64 (x := i + 1) (by omega) (by omega)]
    simp only [if_true]
    exact ih k (i + 1) (by omega) (by omega) (by omega) (by omega)
theorem eqB (l : List Int) (hn : l.length ≤ 1000000000) (k : Nat) (hk : l.length < k) : laws_eqByteS.f k l l = some true := by
  unfold laws_eqByteS.f
  rw [if_pos rfl]
  exact eqB_loop l hn l.length k 0 (by omega) (by omega) (by omega) hk
theorem markB_loop (d : Nat) : ∀ (k : Nat) (l : List Int) (c i : Int), l.length ≤ 1000000000 → 0 ≤ i → i ≤ l.length → (l.length : Int) - i = d → d < k → 0 ≤ c → c + d ≤ 2000000000 →
    ∃ r, laws_markByteS.l0 k l c i = some (c + d, r) ∧ r.length = l.length ∧ ∀ j : Int, 0 ≤ j → j < l.length → rd r j = if j < i then rd l j else (c + (j - i)) % 256 := by
  induction d with
  | zero =>
    intro k l c i hn h0 h1 hd hk hc hc1
    obtain ⟨k, rfl⟩ := pos_round (show 0 < k by omega)
    simp only [laws_markByteS.l0]
    rw [if_neg (by omega)]
    exact ⟨l, by simp, rfl, fun j hj hj1 => by rw [if_pos (by omega)]⟩
  | succ d ih =>
    intro k l c i hn h0 h1 hd hk hc hc1
    obtain ⟨k, rfl⟩ := pos_round (show 0 < k by omega)
    obtain ⟨r, hr, hl, hj⟩ := ih k (l.set i.toNat (c % 256)) (c + 1) (i + 1) (by simpa using hn) (by omega) (by simp; omega) (by simp; omega) (by omega) (by omega) (by omega)
    simp only [laws_markByteS.l0]
    rw [if_pos (by omega), if_pos h0, w64 (x := i + 1) (by omega) (by omega), w64 (x := c + 1) (by omega) (by omega), hr]
    refine ⟨r, ?_, by simpa using hl, fun j hj0 hj1 => ?_⟩
    · congr 2; omega
    · rw [hj j hj0 (by simpa using hj1)]
      by_cases e : j = i
      · subst e
        rw [if_pos (by omega), if_neg (by omega), rd_set_eq hj0 hj1]; congr 1; omega
      · by_cases e2 : j < i
        · rw [if_pos (by omega), if_pos e2, rd_set_ne h0 hj0 (Ne.symm e)]
        · rw [if_neg (by omega), if_neg e2]; congr 1; omega
theorem markB (l : List Int) (hn : l.length ≤ 1000000000) (k : Nat) (hk : l.length < k) :
    ∃ r, laws_markByteS.f k l 1 = some (1 + (l.length : Int), r) ∧ r.length = l.length ∧ ∀ j : Int, 0 ≤ j → j < l.length → rd r j = (1 + j) % 256 := by
  obtain ⟨r, hr, hl, hj⟩ := markB_loop l.length k l 1 0 hn (by omega) (by omega) (by omega) hk (by omega) (by omega)
  exact ⟨r, hr, hl, fun j h0 h1 => by rw [hj j h0 h1, if_neg (by omega)]; congr 1; omega⟩
theorem heldB_loop (l : List Int) (hn : l.length ≤ 1000000000) (d : Nat) : ∀ (k : Nat) (c i : Int), 0 ≤ i → i ≤ l.length → (l.length : Int) - i = d → d < k → 0 ≤ c → c + d ≤ 2000000000 → (∀ j : Int, i ≤ j → j < l.length → rd l j = (c + (j - i)) % 256) →
    laws_heldByteS.l0 k l c i = some (c + d) := by
  induction d with
  | zero =>
    intro k c i h0 h1 hd hk hc hc1 hr
    obtain ⟨k, rfl⟩ := pos_round (show 0 < k by omega)
    simp only [laws_heldByteS.l0]
    rw [if_neg (by omega)]; simp
  | succ d ih =>
    intro k c i h0 h1 hd hk hc hc1 hr
    obtain ⟨k, rfl⟩ := pos_round (show 0 < k by omega)
    simp only [laws_heldByteS.l0]
    rw [if_pos (by omega), if_pos h0, if_pos (by rw [hr i (by omega) (by omega)]; congr 1; omega), w64 (x := i + 1) (by omega) (by omega), w64 (x := c + 1) (by omega) (by omega)]
    rw [ih k (c + 1) (i + 1) (by omega) (by omega) (by omega) (by omega) (by omega) (by omega) (fun j h2 h3 => by rw [hr j (by omega) h3]; congr 1; omega)]
    congr 1; omega
theorem heldB (l : List Int) (hn : l.length ≤ 1000000000) (hr : ∀ j : Int, 0 ≤ j → j < l.length → rd l j = (1 + j) % 256) (k : Nat) (hk : l.length < k) : laws_heldByteS.f k l 1 = some (1 + (l.length : Int)) :=
  heldB_loop l hn l.length k 1 0 (by omega) (by omega) (by omega) hk (by omega) (by omega) (fun j h0 h1 => by rw [hr j h0 h1]; congr 1; omega)
/-! ### the check -/
theorem in_eqR (a b c : Int) : impl_in.f a b c = some (decide (b ≤ a ∧ a ≤ c)) := in_some a b c
theorem in_eqR' (a b c : Int) : spec_l1In.f a b c = some (decide (b ≤ a ∧ a ≤ c)) := in_some a b c
theorem checks_same (l : List Int) (hl : l.length = 14) : ∀ k : Nat, (∀ c i, impl_frameCheck.l0 k c l 14 i = spec_l9Check.l0 k l c i) ∧ (∀ c i j, impl_frameCheck.l1 k c l 14 i j = spec_l9Check.l1 k l c i j)
  | 0 => ⟨fun _ _ => rfl, fun _ _ _ => rfl⟩
  | k + 1 => by
    obtain ⟨h0, h1⟩ := checks_same l hl k
    refine ⟨fun c i => ?_, fun c i j => ?_⟩
    · simp only [impl_frameCheck.l0, spec_l9Check.l0]
      rw [h1]
    · simp only [impl_frameCheck.l1, spec_l9Check.l1]
      rw [h1, h1, h0, Int.mul_comm c 2]
theorem check_ends (l : List Int) (hl : l.length = 14) (d : Nat) : ∀ (i : Int), 0 ≤ i → i ≤ 14 → 14 - i = d → ∀ c, ∃ r, ∀ k, 10 * d < k → spec_l9Check.l0 k l c i = some r := by
  induction d with
  | zero =>
    intro i h0 h1 hd c
    refine ⟨c, fun k hk => ?_⟩
    obtain ⟨k, rfl⟩ := pos_round (show 0 < k by omega)
    simp only [spec_l9Check.l0]
    rw [if_neg (by omega)]
  | succ d ih =>
    intro i h0 h1 hd c
    have inner : ∀ (e : Nat) (j c : Int), 0 ≤ j → j ≤ 8 → 8 - j = e → ∃ r, ∀ k, 10 * d + 1 + e < k → spec_l9Check.l1 k l c i j = some r := by
      intro e
      induction e with
      | zero =>
        intro j c hj0 hj1 he
        obtain ⟨r, hr⟩ := ih (i + 1) (by omega) (by omega) (by omega) c
        refine ⟨r, fun k hk => ?_⟩
        obtain ⟨k, rfl⟩ := pos_round (show 0 < k by omega)
        simp only [spec_l9Check.l1]
        rw [if_neg (by omega), w64 (x := i + 1) (by omega) (by omega)]
        exact hr k (by omega)
      | succ e ihe =>
        intro j c hj0 hj1 he
        by_cases h : wrap64 (2 * c) > 65535
        · obtain ⟨r, hr⟩ := ihe (j + 1) (Go.bits .xor .i64 (Go.bits .and .i64 (wrap64 (2 * c)) 65535) 4129) (by omega) (by omega) (by omega)
          refine ⟨r, fun k hk => ?_⟩
          obtain ⟨k, rfl⟩ := pos_round (show 0 < k by omega)
          simp only [spec_l9Check.l1]
          rw [if_pos (by omega), if_pos h, w64 (x := j + 1) (by omega) (by omega)]
          exact hr k (by omega)
        · obtain ⟨r, hr⟩ := ihe (j + 1) (wrap64 (2 * c)) (by omega) (by omega) (by omega)
          refine ⟨r, fun k hk => ?_⟩
          obtain ⟨k, rfl⟩ := pos_round (show 0 < k by omega)
          simp only [spec_l9Check.l1]
          rw [if_pos (by omega), if_neg h, w64 (x := j + 1) (by omega) (by omega)]
          exact hr k (by omega)
    obtain ⟨r, hr⟩ := inner 8 0 (Go.bits .xor .i64 c (wrap64 ((wrap64 (rd l i)) * 256))) (by omega) (by omega) (by omega)
    refine ⟨r, fun k hk => ?_⟩
    obtain ⟨k, rfl⟩ := pos_round (show 0 < k by omega)
    simp only [spec_l9Check.l0]
    rw [if_pos (by omega), if_pos h0, if_pos (by omega)]
    exact hr k (by omega)
theorem check_some (l : List Int) (hl : l.length = 14) : ∃ r, ∀ k, 140 < k → spec_l9Check.f k l = some r ∧ impl_frameCheck.f k l = some r := by
  obtain ⟨r, hr⟩ := check_ends l hl 14 0 (by omega) (by omega) (by omega) 65535
  refine ⟨r, fun k hk => ⟨hr k (by omega), ?_⟩⟩
  unfold impl_frameCheck.f
  rw [hl]
  show impl_frameCheck.l0 k 65535 l 14 0 = some r
  rw [(checks_same l hl k).1]
  exact hr k (by omega)
theorem report_same (a b c d e f : Int) : spec_ReportOk.f a b c d e f = impl_ReportOk.f a b c d e f ∧ ∃ x, impl_ReportOk.f a b c d e f = some x := by
  have e1 : spec_ReportOk.f a b c d e f = impl_ReportOk.f a b c d e f := by
    unfold spec_ReportOk.f impl_ReportOk.f impl_idOk.f impl_slotOk.f
    simp only [in_eqR, in_eqR', Option.bind_some]
  refine ⟨e1, ?_⟩
  rw [← e1]
  unfold spec_ReportOk.f
  simp only [in_eqR', Option.bind_some]
  repeat' split
  all_goals exact ⟨_, rfl⟩
theorem own_byte (l : List Int) (h : l.length ≤ 1000000) : impl_own_byte.f l = some l := by
  unfold impl_own_byte.f
  rw [if_pos (by omega), if_pos (by omega), Option.bind_some, if_pos (by simp; omega)]; rfl
theorem pack_same (a b c d e f : Int) : ∃ res : List Int × Bool, res.1.length ≤ 16 ∧ ∀ k, 140 < k → spec_PackReport.f k a b c d e f = some res ∧ impl_PackReport.f k a b c d e f = some res := by
  obtain ⟨e1, x, hx⟩ := report_same a b c d e f
  cases x with
  | false =>
    refine ⟨([], false), by simp, fun k hk => ?_⟩
    unfold spec_PackReport.f impl_PackReport.f
    rw [e1, hx]
    exact ⟨rfl, rfl⟩
  | true =>
    have m : ∀ x : Int, ((x % 16777216) / 65536) % 256 = (x / 65536) % 256 ∧ ((x % 16777216) / 256) % 256 = (x / 256) % 256 ∧ (x % 16777216) % 256 = x % 256 := fun x => by omega
    obtain ⟨L, hL⟩ : ∃ L : List Int, L = [(a) % 256, (b / 16777216) % 256, (b / 65536) % 256, (b / 256) % 256, (b) % 256, (c / 65536) % 256, (c / 256) % 256, (c) % 256, (d / 65536) % 256, (d / 256) % 256, (d) % 256, (e) % 256, (f) % 256, 0] := ⟨_, rfl⟩
    have hl : L.length = 14 := by rw [hL]; rfl
    obtain ⟨r, hr⟩ := check_some L hl
    refine ⟨(L ++ [(r / 256) % 256, r % 256], true), by simp [hl], fun k hk => ?_⟩
    obtain ⟨hs, hi⟩ := hr k hk
    unfold spec_PackReport.f impl_PackReport.f
    rw [e1, hx, mask24, mask24, (m c).1, (m c).2.1, (m c).2.2, (m d).1, (m d).2.1, (m d).2.2, ← hL]
    constructor
    · rw [Option.bind_some, if_pos rfl, Option.bind_some, hs, Option.bind_some, Option.bind_some, if_pos (by simp [hl])]
    · rw [Option.bind_some, if_pos rfl, Option.bind_some, hi, Option.bind_some, Option.bind_some, if_pos (by simp [hl]), own_byte _ (by simp [hl]), Option.bind_some]

theorem FnExactPackReport : laws_FnExactPackReport.Pure := by
  intro a b c d e f _ _ _ _ _ _
  obtain ⟨res, hl, hr⟩ := pack_same a b c d e f
  obtain ⟨r1, hm1, hml1, hmr1⟩ := markB res.1 (by omega) 201 (by omega)
  have hh1 := heldB r1 (by omega) (fun j h0 h1 => hmr1 j h0 (by omega)) 201 (by omega)
  have hh2 := heldB r1 (by omega) (fun j h0 h1 => hmr1 j h0 (by omega)) 200 (by omega)
  refine ⟨202, ?_⟩
  have j1 : laws_FnExactPackReport.j1 201 r1 (1 + (res.1.length : Int)) false = some true := by
    simp only [laws_FnExactPackReport.j1]
    rw [if_neg (by simp), hh2, Option.bind_some, if_neg (by omega), if_pos (by omega)]
  have j0 : laws_FnExactPackReport.j0 202 res.1 res.2 res.1 false a b c d e f = some true := by
    simp only [laws_FnExactPackReport.j0]
    rw [if_neg (by simp), hm1, Option.bind_some]
    dsimp only
    rw [hh1, Option.bind_some, if_neg (by omega), if_pos (by omega)]
    simp only [laws_toReport.f]
    rw [Option.bind_some, (hr 201 (by omega)).2, Option.bind_some, eqB res.1 (by omega) 201 (by omega), Option.bind_some, if_pos rfl, show (res.2 != res.2) = false by simp]
    exact j1
  unfold laws_FnExactPackReport.f
  simp only [laws_toReport.f]
  rw [Option.bind_some, (hr 202 (by omega)).1, Option.bind_some, Option.bind_some, (hr 202 (by omega)).2, Option.bind_some, eqB res.1 (by omega) 202 (by omega), Option.bind_some, if_pos rfl, show (res.2 != res.2) = false by simp]
  exact j0

end Go.Proofs.Ytbhdnhpkpbhilaa.Pure
