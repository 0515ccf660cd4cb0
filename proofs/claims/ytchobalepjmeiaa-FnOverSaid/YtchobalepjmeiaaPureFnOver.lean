/- Whole numbers multiplied by one of size 1, 2 or i and divided again are what they were; what is barred twice is; a number over 0 is refused. -/
import Derived.Test.YtchobalepjmeiaaPFnOverx4
import Derived.Test.YtchobalepjmeiaaKit
set_option linter.unusedVariables false
set_option linter.unusedSimpArgs false
namespace Go.Proofs.Ytchobalepjmeiaa.Pure
open Go.RowKit Go.Proofs.Ytchobalepjmeiaa.PFnOver Go.Proofs.YtchobalepjmeiaaW.PrintWords Go.Proofs.YtchobalepjmeiaaW.PrintLast Go.Proofs.YtchobalepjmeiaaW.PrintMore Go.Proofs.YtchobalepjmeiaaW.Kit

/-! ### floats that stand for small fractions of two -/
abbrev F64 : Ieee.Format := FloatKind.f64.format
theorem f_sw : F64.signWeight = 2 ^ 63 := by decide +kernel
theorem f_bin : F64.binade = 2 ^ 52 := by decide +kernel
theorem f_inf : F64.infRung = 2047 * 2 ^ 52 := by decide +kernel
theorem f_lp : F64.leastPlace = -1074 := by decide +kernel
theorem f_fb : F64.fractionBits = 52 := by decide +kernel
theorem f_read_word (s : Bool) {r : Nat} (h : r < 2047 * 2 ^ 52) :
    F64.read (F64.word s r) = if r < 2 ^ 52 then .number s r (-1074) else .number s (2 ^ 52 + r % 2 ^ 52) (-1074 + (r / 2 ^ 52 - 1 : Nat)) := by
  have h1 : F64.word s r / 2 ^ 63 % 2 = s.toNat := by
    unfold Ieee.Format.word; rw [f_sw]; cases s <;> simp <;> omega
  have h2 : F64.word s r % 2 ^ 63 = r := by
    unfold Ieee.Format.word; rw [f_sw]; cases s <;> simp <;> omega
  unfold Ieee.Format.read
  rw [f_sw, f_bin, f_inf, f_lp, h1, h2]
  have h3 : (s.toNat == 1) = s := by cases s <;> rfl
  simp only [h3]
  by_cases c : r < 2 ^ 52
  · rw [if_pos c, if_pos c]
  · rw [if_neg c, if_pos h, if_neg c]
theorem cut_whole (s : Bool) (n : Nat) : Ieee.Toward.even.cut s n 0 = n := by
  unfold Ieee.Toward.cut
  have e : 1 <<< min 0 (n.log2 + 2) = 1 := by simp
  rw [e]
  simp [Nat.mod_one]
theorem cut_exact (s : Bool) (c d : Nat) (h : 0 < c) : Ieee.Toward.even.cut s (c * 2 ^ d) d = c := by
  unfold Ieee.Toward.cut
  have hl : d ≤ (c * 2 ^ d).log2 := by
    rw [Nat.le_log2 (by have := Nat.two_pow_pos d; exact Nat.ne_of_gt (Nat.mul_pos h this))]
    exact Nat.le_mul_of_pos_left _ h
  have e : 1 <<< min d ((c * 2 ^ d).log2 + 2) = 2 ^ d := by
    rw [Nat.min_eq_left (by omega), Nat.one_shiftLeft]
  rw [e]
  have hp := Nat.two_pow_pos d
  simp only [Nat.mul_mod_left, Nat.mul_div_cancel _ hp]
  simp
/-- What can be told is told. -/
theorem near_exact (s : Bool) (m : Nat) (i : Int) (v : Nat) (e : Int) (hi : -4400 ≤ i) (hv : v < 2 ^ 53) (he : -1074 ≤ e) (he2 : e ≤ 900)
    (h : m * 2 ^ (i + 4400).toNat = v * 2 ^ (e + 4400).toNat) :
    ∃ m' i', F64.read (F64.nearest s m i) = .number s m' i' ∧ -1074 ≤ i' ∧ m' * 2 ^ (i' + 4400).toNat = m * 2 ^ (i + 4400).toNat := by
  unfold Ieee.Format.nearest
  by_cases hm : m = 0
  · subst hm
    rw [if_pos rfl, f_read_word s (by omega), if_pos (by omega)]
    exact ⟨0, -1074, rfl, by omega, by rw [Nat.zero_mul, Nat.zero_mul]⟩
  rw [if_neg hm, f_fb, f_lp, f_bin, f_inf]
  have hvz : v ≠ 0 := by
    intro z; subst z
    rcases Nat.mul_eq_zero.1 (h.trans (Nat.zero_mul _)) with q | q
    · exact hm q
    · exact Nat.ne_of_gt (Nat.two_pow_pos _) q
  have hL0 := Nat.log2_self_le hm
  have hL1 := Nat.lt_log2_self (n := m)
  have hV0 := Nat.log2_self_le hvz
  have hV1 := Nat.lt_log2_self (n := v)
  have hV : v.log2 < 53 := (Nat.log2_lt hvz).2 hv
  generalize m.log2 = L at *
  generalize v.log2 = V at *
  have hLV : (L : Int) + i = V + e := by
    have a1 : 2 ^ (L + (i + 4400).toNat) < 2 ^ (V + 1 + (e + 4400).toNat) := by
      rw [Nat.pow_add, Nat.pow_add]
      calc 2 ^ L * 2 ^ (i + 4400).toNat ≤ m * 2 ^ (i + 4400).toNat := Nat.mul_le_mul_right _ hL0
        _ = v * 2 ^ (e + 4400).toNat := h
        _ < 2 ^ (V + 1) * 2 ^ (e + 4400).toNat := Nat.mul_lt_mul_of_pos_right hV1 (Nat.two_pow_pos _)
    have a2 : 2 ^ (V + (e + 4400).toNat) < 2 ^ (L + 1 + (i + 4400).toNat) := by
      rw [Nat.pow_add, Nat.pow_add]
      calc 2 ^ V * 2 ^ (e + 4400).toNat ≤ v * 2 ^ (e + 4400).toNat := Nat.mul_le_mul_right _ hV0
        _ = m * 2 ^ (i + 4400).toNat := h.symm
        _ < 2 ^ (L + 1) * 2 ^ (i + 4400).toNat := Nat.mul_lt_mul_of_pos_right hL1 (Nat.two_pow_pos _)
    have b1 := (Nat.pow_lt_pow_iff_right (a := 2) (by omega)).1 a1
    have b2 := (Nat.pow_lt_pow_iff_right (a := 2) (by omega)).1 a2
    omega
  have hlast : max (i + L - (52 : Nat)) (-1074) ≤ e := by omega
  have hl1 : -1074 ≤ max (i + L - (52 : Nat)) (-1074) := by omega
  have hl2 : i + L - 52 ≤ max (i + L - (52 : Nat)) (-1074) := by omega
  have hl3 : max (i + L - (52 : Nat)) (-1074) = i + L - 52 ∨ max (i + L - (52 : Nat)) (-1074) = -1074 := by omega
  generalize max (i + (L : Int) - (52 : Nat)) (-1074) = last at *
  have hk : ∃ kept, Ieee.Toward.even.cut s (m <<< (i - last).toNat) (last - i).toNat = kept ∧ kept * 2 ^ (last + 4400).toNat = m * 2 ^ (i + 4400).toNat := by
    by_cases c : last ≤ i
    · refine ⟨m * 2 ^ (i - last).toNat, ?_, ?_⟩
      · rw [show (last - i).toNat = 0 by omega, cut_whole, Nat.shiftLeft_eq]
      · rw [Nat.mul_assoc, ← Nat.pow_add, show (i - last).toNat + (last + 4400).toNat = (i + 4400).toNat by omega]
    · have hmv : m = v * 2 ^ (e - last).toNat * 2 ^ (last - i).toNat := by
        have hp := Nat.two_pow_pos (i + 4400).toNat
        refine Nat.eq_of_mul_eq_mul_right hp ?_
        rw [h, Nat.mul_assoc, Nat.mul_assoc, ← Nat.pow_add, ← Nat.pow_add, show (e - last).toNat + ((last - i).toNat + (i + 4400).toNat) = (e + 4400).toNat by omega]
      refine ⟨v * 2 ^ (e - last).toNat, ?_, ?_⟩
      · rw [show (i - last).toNat = 0 by omega, Nat.shiftLeft_zero, hmv]
        exact cut_exact s _ _ (Nat.mul_pos (by omega) (Nat.two_pow_pos _))
      · rw [h, Nat.mul_assoc, ← Nat.pow_add, show (e - last).toNat + (last + 4400).toNat = (e + 4400).toNat by omega]
  obtain ⟨kept, hk1, hk2⟩ := hk
  dsimp only
  rw [hk1]
  have hkb : kept < 2 ^ 53 := by
    have a : kept * 2 ^ (last + 4400).toNat < 2 ^ 53 * 2 ^ (last + 4400).toNat := by
      rw [hk2, ← Nat.pow_add]
      calc m * 2 ^ (i + 4400).toNat < 2 ^ (L + 1) * 2 ^ (i + 4400).toNat := Nat.mul_lt_mul_of_pos_right hL1 (Nat.two_pow_pos _)
        _ = 2 ^ (L + 1 + (i + 4400).toNat) := (Nat.pow_add ..).symm
        _ ≤ 2 ^ (53 + (last + 4400).toNat) := Nat.pow_le_pow_right (by omega) (by omega)
    exact Nat.lt_of_mul_lt_mul_right a
  have hka : last = i + L - 52 → 2 ^ 52 ≤ kept := by
    intro hh
    have a : 2 ^ 52 * 2 ^ (last + 4400).toNat ≤ kept * 2 ^ (last + 4400).toNat := by
      rw [hk2, ← Nat.pow_add]
      calc 2 ^ (52 + (last + 4400).toNat) = 2 ^ (L + (i + 4400).toNat) := by congr 1; omega
        _ = 2 ^ L * 2 ^ (i + 4400).toNat := Nat.pow_add ..
        _ ≤ m * 2 ^ (i + 4400).toNat := Nat.mul_le_mul_right _ hL0
    exact Nat.le_of_mul_le_mul_right a (Nat.two_pow_pos _)
  rw [show last - -1074 = last + 1074 by omega, Nat.min_eq_left (by omega), f_read_word s (by omega)]
  by_cases c : kept < 2 ^ 52
  · have e0 : last = -1074 := by
      rcases hl3 with q | q
      · have := hka q; omega
      · exact q
    subst e0
    rw [show ((-1074 : Int) + 1074).toNat = 0 from rfl, Nat.zero_mul, Nat.zero_add, if_pos c]
    exact ⟨kept, -1074, rfl, by omega, hk2⟩
  · have e1 : ((last + 1074).toNat * 2 ^ 52 + kept) / 2 ^ 52 = (last + 1074).toNat + 1 := by omega
    have e2 : ((last + 1074).toNat * 2 ^ 52 + kept) % 2 ^ 52 = kept - 2 ^ 52 := by omega
    rw [if_neg (by omega), e1, e2]
    refine ⟨2 ^ 52 + (kept - 2 ^ 52), -1074 + (((last + 1074).toNat + 1 - 1 : Nat) : Int), rfl, by omega, ?_⟩
    rw [show 2 ^ 52 + (kept - 2 ^ 52) = kept by omega, show -1074 + (((last + 1074).toNat + 1 - 1 : Nat) : Int) = last by omega]
    exact hk2

def sv (s : Bool) (m : Nat) (i : Int) : Int := if s then -((m * 2 ^ (i + 4400).toNat : Nat) : Int) else ((m * 2 ^ (i + 4400).toNat : Nat) : Int)
theorem sv_abs (s : Bool) (m : Nat) (i : Int) : (sv s m i).natAbs = m * 2 ^ (i + 4400).toNat := by
  unfold sv
  cases s
  · rw [if_neg (by decide), Int.natAbs_natCast]
  · rw [if_pos rfl, Int.natAbs_neg, Int.natAbs_natCast]
/-- b are the bits of q / 2^e. -/
def Fv (b : Nat) (q : Int) (e : Nat) : Prop := ∃ s m i, F64.read b = .number s m i ∧ -1074 ≤ i ∧ sv s m i = q * ((2 ^ (4400 - e) : Nat) : Int)
theorem fv_write {s : Bool} {m : Nat} {i : Int} {q : Int} {e : Nat} (hi : -4400 ≤ i) (he : e ≤ 1074) (hq : q.natAbs < 2 ^ 53) (h : sv s m i = q * ((2 ^ (4400 - e) : Nat) : Int)) :
    Fv (F64.write (.number s m i)) q e := by
  have hn : m * 2 ^ (i + 4400).toNat = q.natAbs * 2 ^ (-(e : Int) + 4400).toNat := by
    have := congrArg Int.natAbs h
    rw [Int.natAbs_mul] at this
    rw [show (-(e : Int) + 4400).toNat = 4400 - e by omega]
    rw [Int.natAbs_natCast, sv_abs] at this
    exact this
  obtain ⟨m', i', h1, h2, h3⟩ := near_exact s m i q.natAbs (-(e : Int)) hi hq (by omega) (by omega) hn
  refine ⟨s, m', i', h1, h2, ?_⟩
  rw [← h]; unfold sv; rw [h3]
theorem signed_scale (s : Bool) (m : Nat) (i b : Int) (hb : b ≤ i) (hb0 : -4400 ≤ b) : Ieee.signed s m (i - b).toNat * ((2 ^ (b + 4400).toNat : Nat) : Int) = sv s m i := by
  unfold Ieee.signed sv
  have : m * 2 ^ (i + 4400).toNat = m <<< (i - b).toNat * 2 ^ (b + 4400).toNat := by
    rw [Nat.shiftLeft_eq, Nat.mul_assoc, ← Nat.pow_add, show (i - b).toNat + (b + 4400).toNat = (i + 4400).toNat by omega]
  rw [this]
  cases s
  · rw [if_neg (by decide), if_neg (by decide), Int.natCast_mul]
  · rw [if_pos rfl, if_pos rfl, Int.natCast_mul, Int.neg_mul]
theorem sv_total (t : Int) (g : Bool) (b : Int) (hg : t ≠ 0 → g = decide (t < 0)) : sv g t.natAbs b = t * ((2 ^ (b + 4400).toNat : Nat) : Int) := by
  unfold sv
  by_cases z : t = 0
  · subst z; cases g <;> simp
  rw [hg z]
  by_cases c : t < 0
  · rw [decide_eq_true c, if_pos rfl, Int.natCast_mul, ← Int.neg_mul]; congr 1; omega
  · rw [decide_eq_false c, if_neg (by decide), Int.natCast_mul]; congr 1; omega
theorem fv_sum {s t : Bool} {m n : Nat} {i j : Int} {q r : Int} {e : Nat} (hi : -1074 ≤ i) (hj : -1074 ≤ j) (he : e ≤ 1074) (h1 : sv s m i = q * ((2 ^ (4400 - e) : Nat) : Int)) (h2 : sv t n j = r * ((2 ^ (4400 - e) : Nat) : Int))
    (hb : (q + r).natAbs < 2 ^ 53) : ∃ b, (((Ieee.Datum.number s m i).sum (.number t n j)).map F64.write) = some b ∧ Fv b (q + r) e := by
  refine ⟨_, rfl, ?_⟩
  refine fv_write (by omega) he hb ?_
  rw [sv_total, Int.add_mul, signed_scale s m i (min i j) (by omega) (by omega), signed_scale t n j (min i j) (by omega) (by omega), h1, h2, Int.add_mul]
  intro z; rw [if_neg z]
theorem fv_add {x y : Nat} {q r : Int} {e : Nat} (he : e ≤ 1074) (h1 : Fv x q e) (h2 : Fv y r e) (hb : (q + r).natAbs < 2 ^ 53) : ∃ b, floatBits .add .f64 x y = some b ∧ Fv b (q + r) e := by
  obtain ⟨s, m, i, a1, a2, a3⟩ := h1
  obtain ⟨t, n, j, b1, b2, b3⟩ := h2
  show ∃ b, F64.add x y = some b ∧ _
  unfold Ieee.Format.add
  rw [a1, b1]
  exact fv_sum a2 b2 he a3 b3 hb
theorem sv_not (s : Bool) (m : Nat) (i : Int) : sv (!s) m i = -sv s m i := by
  unfold sv; cases s <;> simp
theorem fv_sub {x y : Nat} {q r : Int} {e : Nat} (he : e ≤ 1074) (h1 : Fv x q e) (h2 : Fv y r e) (hb : (q - r).natAbs < 2 ^ 53) : ∃ b, floatBits .sub .f64 x y = some b ∧ Fv b (q - r) e := by
  obtain ⟨s, m, i, a1, a2, a3⟩ := h1
  obtain ⟨t, n, j, b1, b2, b3⟩ := h2
  show ∃ b, F64.sub x y = some b ∧ _
  unfold Ieee.Format.sub
  rw [a1, b1]
  exact fv_sum (r := -r) a2 b2 he a3 (by rw [sv_not, b3, Int.neg_mul]) hb
theorem two_ne (k : Nat) : ((2 ^ k : Nat) : Int) ≠ 0 := Int.ofNat_ne_zero.2 (Nat.ne_of_gt (Nat.two_pow_pos _))
theorem sv_mul {s t : Bool} {m n : Nat} {i j : Int} (a2 : -1074 ≤ i) (b2 : -1074 ≤ j) (K : Nat) (hK : K = 4400) : sv (s ^^ t) (m * n) (i + j) * ((2 ^ K : Nat) : Int) = sv s m i * sv t n j := by
  have : m * n * 2 ^ (i + j + 4400).toNat * 2 ^ K = (m * 2 ^ (i + 4400).toNat) * (n * 2 ^ (j + 4400).toNat) := by
    rw [Nat.mul_assoc, ← Nat.pow_add, Nat.mul_mul_mul_comm, ← Nat.pow_add, show (i + j + 4400).toNat + K = (i + 4400).toNat + (j + 4400).toNat by omega]
  unfold sv
  have c := congrArg (fun z : Nat => (z : Int)) this
  simp only [Int.natCast_mul] at c
  cases s <;> cases t <;> simp only [Int.natCast_mul, Bool.xor_false, Bool.xor_true, Bool.not_true, Bool.not_false, if_true, if_false, Bool.false_eq_true, Int.neg_mul, Int.mul_neg, Int.neg_neg, c]
theorem fv_mul {x y : Nat} {q r : Int} {e f : Nat} (he : e + f ≤ 1074) (h1 : Fv x q e) (h2 : Fv y r f) (hb : (q * r).natAbs < 2 ^ 53) : ∃ b, floatBits .mul .f64 x y = some b ∧ Fv b (q * r) (e + f) := by
  obtain ⟨s, m, i, a1, a2, a3⟩ := h1
  obtain ⟨t, n, j, b1, b2, b3⟩ := h2
  show ∃ b, F64.mul x y = some b ∧ _
  unfold Ieee.Format.mul
  rw [a1, b1]
  refine ⟨_, rfl, fv_write (by omega) he hb ?_⟩
  obtain ⟨K, hK⟩ : ∃ K : Nat, K = 4400 := ⟨_, rfl⟩
  refine Int.eq_of_mul_eq_mul_right (two_ne K) ?_
  rw [sv_mul a2 b2 K hK, a3, b3, Int.mul_assoc q, Int.mul_left_comm _ r, ← Int.mul_assoc q, Int.mul_assoc (q * r)]
  congr 1
  rw [← Int.natCast_mul, ← Int.natCast_mul, ← Nat.pow_add, ← Nat.pow_add, show 4400 - e + (4400 - f) = 4400 - (e + f) + K by omega]

theorem fv_order {x y : Nat} {q r : Int} {e : Nat} (h1 : Fv x q e) (h2 : Fv y r e) : F64.order x y = some (compare q r) := by
  obtain ⟨s, m, i, a1, a2, a3⟩ := h1
  obtain ⟨t, n, j, b1, b2, b3⟩ := h2
  unfold Ieee.Format.order
  rw [a1, b1]
  show some (compare (Ieee.signed s m (i - min i j).toNat) (Ieee.signed t n (j - min i j).toNat)) = _
  have h1 := signed_scale s m i (min i j) (by omega) (by omega)
  have h2 := signed_scale t n j (min i j) (by omega) (by omega)
  rw [a3] at h1; rw [b3] at h2
  have p1 : (0 : Int) < ((2 ^ (4400 - e) : Nat) : Int) := Int.ofNat_lt.2 (Nat.two_pow_pos _)
  have p2 : (0 : Int) < ((2 ^ (min i j + 4400).toNat : Nat) : Int) := Int.ofNat_lt.2 (Nat.two_pow_pos _)
  generalize ((2 ^ (4400 - e) : Nat) : Int) = U at *
  generalize ((2 ^ (min i j + 4400).toNat : Nat) : Int) = V at *
  generalize Ieee.signed s m (i - min i j).toNat = A at *
  generalize Ieee.signed t n (j - min i j).toNat = B at *
  congr 1
  have k1 : A < B ↔ q < r := by
    rw [← Int.mul_lt_mul_right p2, h1, h2, Int.mul_lt_mul_right p1]
  have k2 : B < A ↔ r < q := by
    rw [← Int.mul_lt_mul_right p2, h1, h2, Int.mul_lt_mul_right p1]
  rcases Int.lt_trichotomy q r with c | c | c
  · rw [Int.compare_eq_lt.2 (k1.2 c), Int.compare_eq_lt.2 c]
  · have : A = B := by have := k1.1; have := k2.1; omega
    rw [Int.compare_eq_eq.2 this, Int.compare_eq_eq.2 c]
  · rw [Int.compare_eq_gt.2 (k2.2 c), Int.compare_eq_gt.2 c]
theorem fv_eq {x y : Nat} {q r : Int} {e : Nat} (h1 : Fv x q e) (h2 : Fv y r e) : (F64.order x y == some .eq) = decide (q = r) := by
  rw [fv_order h1 h2]
  by_cases c : q = r
  · rw [Int.compare_eq_eq.2 c, decide_eq_true c]; rfl
  · rw [decide_eq_false c]
    rcases Int.lt_or_gt_of_ne c with c | c
    · rw [Int.compare_eq_lt.2 c]; rfl
    · rw [Int.compare_eq_gt.2 c]; rfl
theorem fv_int {n : Int} (h : n.natAbs < 2 ^ 53) : Fv (floatOfInt .f64 n) n 0 := by
  refine fv_write (s := decide (n < 0)) (m := n.natAbs) (i := 0) (by omega) (by omega) h ?_
  rw [sv_total n _ 0 (fun _ => rfl), show ((0 : Int) + 4400).toNat = 4400 - 0 from rfl]
theorem fv_up {x : Nat} {q : Int} {e : Nat} (d : Nat) (he : e + d ≤ 4400) (h : Fv x q e) : Fv x (q * ((2 ^ d : Nat) : Int)) (e + d) := by
  obtain ⟨s, m, i, a1, a2, a3⟩ := h
  refine ⟨s, m, i, a1, a2, ?_⟩
  rw [a3, Int.mul_assoc, ← Int.natCast_mul, ← Nat.pow_add, show d + (4400 - (e + d)) = 4400 - e by omega]
theorem fv_down {x : Nat} {q : Int} {e : Nat} (d : Nat) (he : e + d ≤ 4400) (h : Fv x (q * ((2 ^ d : Nat) : Int)) (e + d)) : Fv x q e := by
  obtain ⟨s, m, i, a1, a2, a3⟩ := h
  refine ⟨s, m, i, a1, a2, ?_⟩
  rw [a3, Int.mul_assoc, ← Int.natCast_mul, ← Nat.pow_add, show d + (4400 - (e + d)) = 4400 - e by omega]
theorem fv_of (b : Nat) (s : Bool) (m : Nat) (i : Int) (q : Int) (e : Nat) (h : F64.read b = .number s m i) (hi : -1074 ≤ i) (hs : sv s m i = q * ((2 ^ (4400 - e) : Nat) : Int)) : Fv b q e := ⟨s, m, i, h, hi, hs⟩
theorem fv_0 : Fv 0 0 0 := fv_of 0 false 0 (-1074) 0 0 (by decide +kernel) (by decide) (by decide +kernel)
theorem fv_1 : Fv 4607182418800017408 1 0 := fv_of _ false 4503599627370496 (-52) 1 0 (by decide +kernel) (by decide) (by decide +kernel)
theorem fv_2 : Fv 4611686018427387904 2 0 := fv_of _ false 4503599627370496 (-51) 2 0 (by decide +kernel) (by decide) (by decide +kernel)
theorem fv_half : Fv 4602678819172646912 1 1 := fv_of _ false 4503599627370496 (-53) 1 1 (by decide +kernel) (by decide) (by decide +kernel)
theorem f_read_le {b : Nat} {s : Bool} {m : Nat} {i : Int} (h : F64.read b = .number s m i) : m < 2 ^ 53 ∧ -1074 ≤ i ∧ i ≤ 971 := by
  unfold Ieee.Format.read at h
  rw [f_sw, f_bin, f_inf, f_lp] at h
  generalize hr : b % 2 ^ 63 = r at h
  generalize (b / 2 ^ 63 % 2 == 1) = g at h
  dsimp only at h
  by_cases c : r < 2 ^ 52
  · rw [if_pos c] at h
    injection h with h1 h2 h3
    omega
  · rw [if_neg c] at h
    by_cases c2 : r < 2047 * 2 ^ 52
    · rw [if_pos c2] at h
      injection h with h1 h2 h3
      omega
    · rw [if_neg c2] at h
      by_cases c3 : r = 2047 * 2 ^ 52
      · rw [if_pos c3] at h; exact absurd h (by simp)
      · rw [if_neg c3] at h; exact absurd h (by simp)
theorem div_nat {m n r A B more : Nat} (hm : m ≠ 0) (hn : n ≠ 0) (hr : r < 2 ^ 53) (h : m * 2 ^ A = r * n * 2 ^ B) (hmore : 54 + n.log2 ≤ more + m.log2) :
    ∃ c, m <<< more = c * n ∧ c * 2 ^ A = r * 2 ^ (B + more) := by
  have key : A ≤ B + more := by
    refine Nat.le_of_not_lt fun hlt => ?_
    have h2 : m * 2 ^ (A - B) = r * n := by
      refine Nat.eq_of_mul_eq_mul_right (Nat.two_pow_pos B) ?_
      rw [Nat.mul_assoc, ← Nat.pow_add, show A - B + B = A by omega, h]
    have a1 := Nat.log2_self_le hm
    have a2 := Nat.lt_log2_self (n := n)
    have a3 : 2 ^ (m.log2 + (A - B)) < 2 ^ (53 + (n.log2 + 1)) := by
      rw [Nat.pow_add, Nat.pow_add]
      calc 2 ^ m.log2 * 2 ^ (A - B) ≤ m * 2 ^ (A - B) := Nat.mul_le_mul_right _ a1
        _ = r * n := h2
        _ ≤ 2 ^ 53 * n := Nat.mul_le_mul_right _ (by omega)
        _ < 2 ^ 53 * 2 ^ (n.log2 + 1) := Nat.mul_lt_mul_of_pos_left a2 (by omega)
    have := (Nat.pow_lt_pow_iff_right (a := 2) (by omega)).1 a3
    omega
  refine ⟨r * 2 ^ (B + more - A), ?_, ?_⟩
  · refine Nat.eq_of_mul_eq_mul_right (Nat.two_pow_pos A) ?_
    rw [Nat.shiftLeft_eq, Nat.mul_right_comm, h, Nat.mul_right_comm (r * 2 ^ (B + more - A)), Nat.mul_assoc r (2 ^ _) (2 ^ A), ← Nat.pow_add, show B + more - A + A = B + more by omega, Nat.pow_add, Nat.mul_assoc (r * n), Nat.mul_right_comm]
  · rw [Nat.mul_assoc, ← Nat.pow_add, show B + more - A + A = B + more by omega]
theorem sign_div {p q r U V : Int} (hU : 0 < U) (hV : 0 < V) (h : r * q * U = p * V) (hq : q ≠ 0) : (decide (p < 0) ^^ decide (q < 0)) = decide (r < 0) ∨ r = 0 := by
  have pp : 0 < r * q → 0 < p := fun c => by
    have := Int.mul_pos c hU
    rw [h] at this
    exact Int.pos_of_mul_pos_left this hV
  have pn : 0 < -(r * q) → 0 < -p := fun c => by
    have := Int.mul_pos c hU
    rw [Int.neg_mul, h, ← Int.neg_mul] at this
    exact Int.pos_of_mul_pos_left this hV
  rcases Int.lt_trichotomy r 0 with c | c | c
  · left
    rcases Int.lt_or_gt_of_ne hq with d | d
    · have := pp (Int.mul_pos_of_neg_of_neg c d)
      rw [decide_eq_false (show ¬ p < 0 by omega), decide_eq_true d, decide_eq_true c]; rfl
    · have := pn (by rw [← Int.neg_mul]; exact Int.mul_pos (by omega) d)
      rw [decide_eq_true (show p < 0 by omega), decide_eq_false (show ¬ q < 0 by omega), decide_eq_true c]; rfl
  · right; exact c
  · left
    rcases Int.lt_or_gt_of_ne hq with d | d
    · have := pn (by rw [← Int.mul_neg]; exact Int.mul_pos c (by omega))
      rw [decide_eq_true (show p < 0 by omega), decide_eq_true d, decide_eq_false (show ¬ r < 0 by omega)]; rfl
    · have := pp (Int.mul_pos c d)
      rw [decide_eq_false (show ¬ p < 0 by omega), decide_eq_false (show ¬ q < 0 by omega), decide_eq_false (show ¬ r < 0 by omega)]; rfl
theorem sv_neg_of (s : Bool) (m : Nat) (i : Int) : sv s m i = if s then -((m * 2 ^ (i + 4400).toNat : Nat) : Int) else ((m * 2 ^ (i + 4400).toNat : Nat) : Int) := rfl
theorem fv_div {x y : Nat} {p q r : Int} {e f g : Nat} (he : e ≤ 1074) (hf : f ≤ 1074) (hg : g ≤ 1074) (h1 : Fv x p e) (h2 : Fv y q f) (hq : q ≠ 0) (hb : r.natAbs < 2 ^ 53)
    (hr : r * q * ((2 ^ e : Nat) : Int) = p * ((2 ^ (f + g) : Nat) : Int)) : ∃ b, floatBits .quo .f64 x y = some b ∧ Fv b r g := by
  obtain ⟨s, m, i, a1, a2, a3⟩ := h1
  obtain ⟨t, n, j, b1, b2, b3⟩ := h2
  obtain ⟨a4, _, a5⟩ := f_read_le a1
  obtain ⟨b4, _, b5⟩ := f_read_le b1
  have hn : n ≠ 0 := by
    intro z; subst z
    have : sv t 0 j = 0 := by unfold sv; rw [Nat.zero_mul]; cases t <;> rfl
    rw [this] at b3
    rcases Int.mul_eq_zero.1 b3.symm with c | c
    · exact hq c
    · exact two_ne _ c
  show ∃ b, F64.div x y = some b ∧ _
  unfold Ieee.Format.div
  rw [a1, b1, f_fb]
  unfold Ieee.Datum.quotient
  dsimp only
  rw [if_neg hn]
  refine ⟨_, rfl, ?_⟩
  have hlm : m.log2 < 2 ^ 53 := by
    by_cases z : m = 0
    · subst z; decide
    · exact Nat.lt_of_le_of_lt (Nat.le_of_lt (Nat.lt_of_lt_of_le (Nat.lt_two_pow_self) (Nat.log2_self_le z))) a4
  have hln : n.log2 < 53 := (Nat.log2_lt hn).2 b4
  have hmore : 54 + n.log2 ≤ (52 + 2 + n.log2 - m.log2) + m.log2 := by omega
  have hmore2 : 52 + 2 + n.log2 - m.log2 ≤ 107 := by omega
  generalize 52 + 2 + n.log2 - m.log2 = more at *
  refine fv_write (by omega) hg hb ?_
  by_cases hm : m = 0
  · subst hm
    have z1 : sv s 0 i = 0 := by unfold sv; rw [Nat.zero_mul]; cases s <;> rfl
    rw [z1] at a3
    have hp : p = 0 := by
      rcases Int.mul_eq_zero.1 a3.symm with c | c
      · exact c
      · exact absurd c (two_ne _)
    rw [hp, Int.zero_mul] at hr
    have hr0 : r = 0 := by
      rcases Int.mul_eq_zero.1 hr with c | c
      · rcases Int.mul_eq_zero.1 c with c | c
        · exact c
        · exact absurd c hq
      · exact absurd c (two_ne _)
    rw [hr0, Int.zero_mul, Nat.zero_shiftLeft, Nat.zero_div, Nat.zero_mod]
    unfold sv
    have : (2 * 0 + (0 != 0 : Bool).toNat) = 0 := rfl
    rw [this, Nat.zero_mul]
    cases s <;> cases t <;> rfl
  -- the magnitudes
  have m1 : m * 2 ^ (i + 4400).toNat = p.natAbs * 2 ^ (4400 - e) := by
    have := congrArg Int.natAbs a3
    rw [sv_abs, Int.natAbs_mul, Int.natAbs_natCast] at this; exact this
  have m2 : n * 2 ^ (j + 4400).toNat = q.natAbs * 2 ^ (4400 - f) := by
    have := congrArg Int.natAbs b3
    rw [sv_abs, Int.natAbs_mul, Int.natAbs_natCast] at this; exact this
  have m3 : r.natAbs * q.natAbs * 2 ^ e = p.natAbs * 2 ^ (f + g) := by
    have := congrArg Int.natAbs hr
    rw [Int.natAbs_mul, Int.natAbs_mul, Int.natAbs_mul, Int.natAbs_natCast, Int.natAbs_natCast] at this; exact this
  have hA : m * 2 ^ ((i + 4400).toNat + g) = r.natAbs * n * 2 ^ (j + 4400).toNat := by
    refine Nat.eq_of_mul_eq_mul_right (Nat.two_pow_pos f) ?_
    calc m * 2 ^ ((i + 4400).toNat + g) * 2 ^ f = m * 2 ^ (i + 4400).toNat * 2 ^ (f + g) := by
          rw [Nat.mul_assoc, ← Nat.pow_add, Nat.mul_assoc, ← Nat.pow_add]; congr 2; omega
      _ = p.natAbs * 2 ^ (f + g) * 2 ^ (4400 - e) := by rw [m1, Nat.mul_right_comm]
      _ = r.natAbs * q.natAbs * 2 ^ e * 2 ^ (4400 - e) := by rw [m3]
      _ = r.natAbs * (q.natAbs * 2 ^ (4400 - f)) * 2 ^ f := by
          rw [Nat.mul_assoc, ← Nat.pow_add, ← Nat.mul_assoc r.natAbs, Nat.mul_assoc (r.natAbs * q.natAbs), ← Nat.pow_add]; congr 2; omega
      _ = r.natAbs * n * 2 ^ (j + 4400).toNat * 2 ^ f := by rw [← m2]; simp only [Nat.mul_assoc]
  obtain ⟨c, c1, c2⟩ := div_nat hm hn hb hA (by omega)
  rw [c1, Nat.mul_div_cancel _ (Nat.pos_of_ne_zero hn), Nat.mul_mod_left]
  have hz : (2 * c + (0 != 0 : Bool).toNat) = 2 * c := rfl
  rw [hz]
  -- the sign
  have hs : (s ^^ t) = decide (r < 0) ∨ r = 0 := by
    have u0 : ∀ k : Nat, (0 : Int) < ((2 ^ k : Nat) : Int) := fun k => Int.ofNat_lt.2 (Nat.two_pow_pos k)
    have pm : (0 : Int) < ((m * 2 ^ (i + 4400).toNat : Nat) : Int) := Int.ofNat_lt.2 (Nat.mul_pos (Nat.pos_of_ne_zero hm) (Nat.two_pow_pos _))
    have pn : (0 : Int) < ((n * 2 ^ (j + 4400).toNat : Nat) : Int) := Int.ofNat_lt.2 (Nat.mul_pos (Nat.pos_of_ne_zero hn) (Nat.two_pow_pos _))
    have sp : s = decide (p < 0) := by
      unfold sv at a3
      cases s
      · rw [if_neg (by decide)] at a3
        rw [a3] at pm
        have := Int.pos_of_mul_pos_left pm (u0 _)
        simp; omega
      · rw [if_pos rfl] at a3
        have : 0 < -p * ((2 ^ (4400 - e) : Nat) : Int) := by rw [Int.neg_mul, ← a3]; omega
        have := Int.pos_of_mul_pos_left this (u0 _)
        simp; omega
    have tq : t = decide (q < 0) := by
      unfold sv at b3
      cases t
      · rw [if_neg (by decide)] at b3
        rw [b3] at pn
        have := Int.pos_of_mul_pos_left pn (u0 _)
        simp; omega
      · rw [if_pos rfl] at b3
        have : 0 < -q * ((2 ^ (4400 - f) : Nat) : Int) := by rw [Int.neg_mul, ← b3]; omega
        have := Int.pos_of_mul_pos_left this (u0 _)
        simp; omega
    rw [sp, tq]
    exact sign_div (u0 e) (u0 (f + g)) hr hq
  have fin : 2 * c * 2 ^ (i - j - more - 1 + 4400).toNat = r.natAbs * 2 ^ (4400 - g) := by
    refine Nat.eq_of_mul_eq_mul_right (Nat.two_pow_pos (g + (j + 4400).toNat + more)) ?_
    obtain ⟨K, hK⟩ : ∃ K : Nat, K = 4400 := ⟨_, rfl⟩
    calc 2 * c * 2 ^ (i - j - more - 1 + 4400).toNat * 2 ^ (g + (j + 4400).toNat + more) = c * 2 ^ ((i + 4400).toNat + g) * 2 ^ K := by
          rw [show 2 * c = c * 2 ^ 1 by omega, Nat.mul_assoc, Nat.mul_assoc, ← Nat.pow_add, ← Nat.pow_add, Nat.mul_assoc, ← Nat.pow_add]; congr 2; omega
      _ = r.natAbs * 2 ^ ((j + 4400).toNat + more) * 2 ^ K := by rw [c2]
      _ = r.natAbs * 2 ^ (4400 - g) * 2 ^ (g + (j + 4400).toNat + more) := by
          rw [Nat.mul_assoc, ← Nat.pow_add, Nat.mul_assoc, ← Nat.pow_add]; congr 2; omega
  unfold sv
  rw [fin, Int.natCast_mul]
  rcases hs with hs | hs
  · rw [hs]
    by_cases z : r < 0
    · rw [if_pos (decide_eq_true z), ← Int.neg_mul]; congr 1; omega
    · rw [if_neg (by simp; omega)]; congr 1; omega
  · subst hs
    cases s <;> cases t <;> simp
theorem fv_bits (b : Nat) : (Op.negFloat .f64 b) / 2 ^ 63 % 2 = 1 - b / 2 ^ 63 % 2 ∧ (Op.negFloat .f64 b) % 2 ^ 63 = b % 2 ^ 63 := by
  have e : Op.negFloat .f64 b = b ^^^ 2 ^ 63 := rfl
  rw [e, Nat.xor_div_two_pow, Nat.xor_mod_two_pow]
  constructor
  · rw [show (2 ^ 63 / 2 ^ 63 : Nat) = 1 by decide]
    have hx : ∀ a : Nat, (a ^^^ 1) % 2 = 1 - a % 2 := fun a => by
      have := Nat.xor_mod_two_pow (a := a) (b := 1) (n := 1)
      rw [Nat.pow_one] at this
      rw [this]
      rcases Nat.mod_two_eq_zero_or_one a with c | c <;> rw [c] <;> rfl
    exact hx _
  · rw [show (2 ^ 63 % 2 ^ 63 : Nat) = 0 by decide, Nat.xor_zero]
theorem fv_neg {b : Nat} {q : Int} {e : Nat} (h : Fv b q e) : Fv (Op.negFloat .f64 b) (-q) e := by
  obtain ⟨s, m, i, a1, a2, a3⟩ := h
  refine ⟨!s, m, i, ?_, a2, by rw [sv_not, a3, Int.neg_mul]⟩
  obtain ⟨c1, c2⟩ := fv_bits b
  unfold Ieee.Format.read at a1 ⊢
  rw [f_sw, f_bin, f_inf, f_lp] at a1 ⊢
  rw [c1, c2]
  have hn : ((1 - b / 2 ^ 63 % 2) == 1) = !(b / 2 ^ 63 % 2 == 1) := by
    rcases Nat.mod_two_eq_zero_or_one (b / 2 ^ 63) with c | c <;> rw [c] <;> rfl
  rw [hn]
  generalize (b / 2 ^ 63 % 2 == 1) = g at *
  generalize b % 2 ^ 63 = r at *
  dsimp only at a1 ⊢
  by_cases c : r < 2 ^ 52
  · rw [if_pos c] at a1 ⊢
    injection a1 with h1 h2 h3
    rw [h1, h2, h3]
  · rw [if_neg c] at a1 ⊢
    by_cases c2 : r < 2047 * 2 ^ 52
    · rw [if_pos c2] at a1 ⊢
      injection a1 with h1 h2 h3
      rw [h1, h2, h3]
    · rw [if_neg c2] at a1
      by_cases c3 : r = 2047 * 2 ^ 52
      · rw [if_pos c3] at a1; exact absurd a1 (by simp)
      · rw [if_neg c3] at a1; exact absurd a1 (by simp)
theorem fv_abs {b : Nat} {q : Int} {e : Nat} (h : Fv b q e) : Fv (b % 9223372036854775808) (q.natAbs : Int) e := by
  obtain ⟨s, m, i, a1, a2, a3⟩ := h
  refine ⟨false, m, i, ?_, a2, ?_⟩
  · unfold Ieee.Format.read at a1 ⊢
    rw [f_sw, f_bin, f_inf, f_lp] at a1 ⊢
    have e1 : b % 9223372036854775808 / 2 ^ 63 % 2 = 0 := by omega
    have e2 : b % 9223372036854775808 % 2 ^ 63 = b % 2 ^ 63 := by omega
    rw [e1, e2]
    generalize (b / 2 ^ 63 % 2 == 1) = g at *
    generalize b % 2 ^ 63 = r at *
    dsimp only at a1 ⊢
    by_cases c : r < 2 ^ 52
    · rw [if_pos c] at a1 ⊢
      injection a1 with h1 h2 h3
      rw [h2, h3]; rfl
    · rw [if_neg c] at a1 ⊢
      by_cases c2 : r < 2047 * 2 ^ 52
      · rw [if_pos c2] at a1 ⊢
        injection a1 with h1 h2 h3
        rw [h2, h3]; rfl
      · rw [if_neg c2] at a1
        by_cases c3 : r = 2047 * 2 ^ 52
        · rw [if_pos c3] at a1; exact absurd a1 (by simp)
        · rw [if_neg c3] at a1; exact absurd a1 (by simp)
  · have := congrArg Int.natAbs a3
    rw [sv_abs, Int.natAbs_mul, Int.natAbs_natCast] at this
    unfold sv
    rw [if_neg (by decide), this, Int.natCast_mul]
theorem fv_big : ∃ M : Int, 9007199254740992 ≤ M ∧ Fv 9218868437227405311 M 0 :=
  ⟨((9007199254740991 * 2 ^ 971 : Nat) : Int), by decide +kernel, fv_of _ false 9007199254740991 971 _ 0 (by decide +kernel) (by decide) (by decide +kernel)⟩
theorem fv_notinf {b : Nat} {q : Int} {e : Nat} (he : e ≤ 1074) (h : Fv b q e) (hq : q.natAbs < 2 ^ 53) : (F64.order (b % 9223372036854775808) 9218868437227405311 == some .gt) = false := by
  obtain ⟨M, hM, hf⟩ := fv_big
  have hf2 := fv_up e (by omega) hf
  rw [Nat.zero_add] at hf2
  rw [fv_order (fv_abs h) hf2]
  have hp : (1 : Int) ≤ ((2 ^ e : Nat) : Int) := Int.ofNat_le.2 (Nat.two_pow_pos e)
  have hlt : (q.natAbs : Int) < M * ((2 ^ e : Nat) : Int) := by
    have := Int.mul_le_mul_of_nonneg_left hp (show 0 ≤ M by omega)
    omega
  rw [Int.compare_eq_lt.2 hlt]; rfl
theorem fv_notnan {b : Nat} {q : Int} {e : Nat} (h : Fv b q e) : (F64.order b b != some .eq) = false := by
  rw [bne, fv_eq h h]; simp
theorem at_ok {l : List Int} (hb : Bytes l) (hl : l.length ≤ 1048576) {i : Int} (h0 : 0 ≤ i) (h1 : i ≤ 1000000000) : laws_at.f l i = some (atV l i) := at_some hb hl h0 h1
theorem fv_gt {x y : Nat} {q r : Int} {e : Nat} (h1 : Fv x q e) (h2 : Fv y r e) : (F64.order x y == some .gt) = decide (r < q) := by
  rw [fv_order h1 h2]
  rcases Int.lt_trichotomy q r with c | c | c
  · rw [Int.compare_eq_lt.2 c, decide_eq_false (by omega)]; rfl
  · rw [Int.compare_eq_eq.2 c, decide_eq_false (by omega)]; rfl
  · rw [Int.compare_eq_gt.2 c, decide_eq_true c]; rfl
theorem fv_lt {x y : Nat} {q r : Int} {e : Nat} (h1 : Fv x q e) (h2 : Fv y r e) : (F64.order x y == some .lt) = decide (q < r) := by
  rw [fv_order h1 h2]
  rcases Int.lt_trichotomy q r with c | c | c
  · rw [Int.compare_eq_lt.2 c, decide_eq_true c]; rfl
  · rw [Int.compare_eq_eq.2 c, decide_eq_false (by omega)]; rfl
  · rw [Int.compare_eq_gt.2 c, decide_eq_false (by omega)]; rfl
theorem fv_ne {x y : Nat} {q r : Int} {e : Nat} (h1 : Fv x q e) (h2 : Fv y r e) (h : q = r) : (F64.order x y != some .eq) = false := by
  rw [bne, fv_eq h1 h2, decide_eq_true h]; rfl
theorem fv_cast {x : Nat} {q r : Int} {e f : Nat} (h : Fv x q e) (hq : q = r) (he : e = f) : Fv x r f := by subst hq; subst he; exact h
theorem fv_4_ : Fv 4616189618054758400 4 0 := fv_of _ false 4503599627370496 (-50) 4 0 (by decide +kernel) (by decide) (by decide +kernel)
theorem fv_3_ : Fv 4613937818241073152 3 0 := fv_of _ false 6755399441055744 (-51) 3 0 (by decide +kernel) (by decide) (by decide +kernel)
/-- Whole numbers told in quarters. -/
theorem fv_q {x : Nat} {q : Int} (h : Fv x q 0) : Fv x (q * 4) 2 := fv_up 2 (by omega) h
theorem by_ok {x y : Nat} {q r : Int} {e f : Nat} (he : e + f ≤ 1074) (h1 : Fv x q e) (h2 : Fv y r f) (hb : (q * r).natAbs < 2 ^ 53) : ∃ b, impl_by.f x y = some b ∧ Fv b (q * r) (e + f) := by
  obtain ⟨b, h, hf⟩ := fv_mul he h1 h2 hb
  refine ⟨b, ?_, hf⟩
  unfold impl_by.f
  rw [h]; rfl
theorem times_ok {x y z u : Nat} {a b c d : Int} (h1 : Fv x a 0) (h2 : Fv y b 0) (h3 : Fv z c 0) (h4 : Fv u d 0)
    (b1 : (a * c).natAbs < 2 ^ 50) (b2 : (b * d).natAbs < 2 ^ 50) (b3 : (a * d).natAbs < 2 ^ 50) (b4 : (b * c).natAbs < 2 ^ 50) :
    ∃ p q, impl_Times.f x y z u = some (p, q) ∧ Fv p (a * c - b * d) 0 ∧ Fv q (a * d + b * c) 0 := by
  obtain ⟨t1, e1, f1⟩ := by_ok (by omega) h1 h3 (by omega)
  obtain ⟨t2, e2, f2⟩ := by_ok (by omega) h2 h4 (by omega)
  obtain ⟨t3, e3, f3⟩ := by_ok (by omega) h1 h4 (by omega)
  obtain ⟨t4, e4, f4⟩ := by_ok (by omega) h2 h3 (by omega)
  obtain ⟨p, e5, f5⟩ := fv_sub (by omega) f1 f2 (by omega)
  obtain ⟨q, e6, f6⟩ := fv_add (by omega) f3 f4 (by omega)
  refine ⟨p, q, ?_, f5, f6⟩
  unfold impl_Times.f
  rw [e1, Option.bind_some, e2, Option.bind_some, e5, if_pos (by rfl), e3, Option.bind_some, e4, Option.bind_some, e6, if_pos (by rfl)]
  rfl
theorem fv_m4 : Fv 13839561654909534208 (-4) 0 := fv_of _ true 4503599627370496 (-50) (-4) 0 (by decide +kernel) (by decide) (by decide +kernel)
theorem fv_m2 : Fv 13835058055282163712 (-2) 0 := fv_of _ true 4503599627370496 (-51) (-2) 0 (by decide +kernel) (by decide) (by decide +kernel)
theorem fv_div0 {x y : Nat} {p q r : Int} (h1 : Fv x p 0) (h2 : Fv y q 0) (hq : q ≠ 0) (hb : r.natAbs < 2 ^ 53) (hr : r * q = p) : ∃ b, floatBits .quo .f64 x y = some b ∧ Fv b r 0 :=
  fv_div (by omega) (by omega) (by omega) h1 h2 hq hb (by rw [hr])
theorem fin_one {x : Nat} {q : Int} (h : Fv x q 0) (hq : q.natAbs < 2 ^ 53) : math_IsNaN.f x = some false ∧ math_IsInf.f x 0 = some false := by
  constructor
  · unfold math_IsNaN.f; rw [fv_notnan h]
  · unfold math_IsInf.f math_Abs.f; rw [if_pos rfl, Option.bind_some, fv_notinf (by omega) h hq]
theorem finite_ok {x y z t : Nat} {a b c d : Int} (h1 : Fv x a 0) (h2 : Fv y b 0) (h3 : Fv z c 0) (h4 : Fv t d 0) (b1 : a.natAbs < 2 ^ 53) (b2 : b.natAbs < 2 ^ 53) (b3 : c.natAbs < 2 ^ 53) (b4 : d.natAbs < 2 ^ 53) (k : Nat) :
    impl_finite.f (k + 5) [x, y, z, t] = some true := by
  unfold impl_finite.f
  have l4 : (([x, y, z, t] : List Nat).length : Int) = 4 := rfl
  rw [l4, impl_finite.l0, l4, if_pos (by omega), if_pos (by omega), if_pos (by omega), show rdOf (0 : Nat) [x, y, z, t] 0 = x from rfl, (fin_one h1 b1).1, (fin_one h1 b1).2, Option.bind_some, if_neg (by decide), Option.bind_some, if_neg (by decide), w64 (x := (0 : Int) + 1) (by omega) (by omega), show (0 : Int) + 1 = 1 from rfl]
  rw [impl_finite.l0, l4, if_pos (by omega), if_pos (by omega), if_pos (by omega), show rdOf (0 : Nat) [x, y, z, t] 1 = y from rfl, (fin_one h2 b2).1, (fin_one h2 b2).2, Option.bind_some, if_neg (by decide), Option.bind_some, if_neg (by decide), w64 (x := (1 : Int) + 1) (by omega) (by omega), show (1 : Int) + 1 = 2 from rfl]
  rw [impl_finite.l0, l4, if_pos (by omega), if_pos (by omega), if_pos (by omega), show rdOf (0 : Nat) [x, y, z, t] 2 = z from rfl, (fin_one h3 b3).1, (fin_one h3 b3).2, Option.bind_some, if_neg (by decide), Option.bind_some, if_neg (by decide), w64 (x := (2 : Int) + 1) (by omega) (by omega), show (2 : Int) + 1 = 3 from rfl]
  rw [impl_finite.l0, l4, if_pos (by omega), if_pos (by omega), if_pos (by omega), show rdOf (0 : Nat) [x, y, z, t] 3 = t from rfl, (fin_one h4 b4).1, (fin_one h4 b4).2, Option.bind_some, if_neg (by decide), Option.bind_some, if_neg (by decide), w64 (x := (3 : Int) + 1) (by omega) (by omega), show (3 : Int) + 1 = 4 from rfl]
  rw [impl_finite.l0, if_neg (by omega)]
theorem over_none {x y : Nat} {a b : Int} (h1 : Fv x a 0) (h2 : Fv y b 0) (b1 : a.natAbs < 2 ^ 50) (b2 : b.natAbs < 2 ^ 50) (k : Nat) : impl_Over.f (k + 5) x y 0 0 = some (0, 0, false) := by
  unfold impl_Over.f
  rw [finite_ok h1 h2 fv_0 fv_0 (by omega) (by omega) (by omega) (by omega), Option.bind_some, if_pos rfl, fv_eq fv_0 fv_0, if_pos (by decide), impl_Over.j0, if_pos (by decide)]
set_option maxHeartbeats 4000000 in
theorem over_1 {x y z t : Nat} {p q c d u v r : Int} (h1 : Fv x p 0) (h2 : Fv y q 0) (h3 : Fv z c 0) (h4 : Fv t d 0) (b1 : -100000 ≤ p ∧ p ≤ 100000) (b2 : -100000 ≤ q ∧ q ≤ 100000) (b3 : -100000 ≤ c ∧ c ≤ 100000) (b4 : -100000 ≤ d ∧ d ≤ 100000) (b5 : -100000 ≤ u ∧ u ≤ 100000) (b6 : -100000 ≤ v ∧ v ≤ 100000)
    (hc : c ≠ 0) (hd : d.natAbs ≤ c.natAbs) (hr : r = 0 ∨ r = 1) (hrc : r * c = d) (hn : c + r * d ≠ 0) (hu : u * (c + r * d) = p + q * r) (hv : v * (c + r * d) = q - p * r) (k : Nat) :
    ∃ e f, impl_Over.f (k + 5) x y z t = some (e, f, true) ∧ Fv e u 0 ∧ Fv f v 0 := by
  have br : 0 ≤ r ∧ r ≤ 1 := by clear hd; omega
  have brd : -100000 ≤ r * d ∧ r * d ≤ 100000 := by clear hd; rcases hr with z | z <;> subst z <;> omega
  have bqr : -100000 ≤ q * r ∧ q * r ≤ 100000 := by clear hd; rcases hr with z | z <;> subst z <;> omega
  have bpr : -100000 ≤ p * r ∧ p * r ≤ 100000 := by clear hd; rcases hr with z | z <;> subst z <;> omega
  obtain ⟨w1, e1, f1⟩ := fv_div0 h4 h3 hc (by omega) hrc
  obtain ⟨w2, e2, f2⟩ := by_ok (by omega) f1 h4 (by omega)
  obtain ⟨w3, e3, f3⟩ := fv_add (by omega) h3 f2 (by omega)
  obtain ⟨w4, e4, f4⟩ := by_ok (by omega) h2 f1 (by omega)
  obtain ⟨w5, e5, f5⟩ := fv_add (by omega) h1 f4 (by omega)
  obtain ⟨w6, e6, f6⟩ := fv_div0 f5 f3 hn (by omega) hu
  obtain ⟨w7, e7, f7⟩ := by_ok (by omega) h1 f1 (by omega)
  obtain ⟨w8, e8, f8⟩ := fv_sub (by omega) h2 f7 (by omega)
  obtain ⟨w9, e9, f9⟩ := fv_div0 f8 f3 hn (by omega) hv
  refine ⟨w6, w9, ?_, f6, f9⟩
  unfold impl_Over.f
  rw [finite_ok h1 h2 h3 h4 (by omega) (by omega) (by omega) (by omega), Option.bind_some, if_pos rfl, fv_eq h3 fv_0, if_neg (by simp [hc]), impl_Over.j0, if_neg (by decide)]
  unfold math_Abs.f
  rw [Option.bind_some, Option.bind_some, fv_gt (fv_abs h3) (fv_abs h4), fv_eq (fv_abs h3) (fv_abs h4), if_pos (by simp; omega)]
  rw [e1, if_pos (by rfl), show (some w1).getD 0 = w1 from rfl, e2, Option.bind_some, e3, if_pos (by rfl), show (some w3).getD 0 = w3 from rfl, e4, Option.bind_some, e5, if_pos (by rfl), show (some w5).getD 0 = w5 from rfl, e6, if_pos (by rfl), e7, Option.bind_some, e8, if_pos (by rfl), show (some w8).getD 0 = w8 from rfl, e9, if_pos (by rfl)]
  rfl
set_option maxHeartbeats 4000000 in
theorem over_2 {x y z t : Nat} {p q d u v : Int} (h1 : Fv x p 0) (h2 : Fv y q 0) (h3 : Fv z 0 0) (h4 : Fv t d 0) (b1 : -100000 ≤ p ∧ p ≤ 100000) (b2 : -100000 ≤ q ∧ q ≤ 100000) (b4 : -100000 ≤ d ∧ d ≤ 100000) (b5 : -100000 ≤ u ∧ u ≤ 100000) (b6 : -100000 ≤ v ∧ v ≤ 100000)
    (hd : d ≠ 0) (hu : u * d = q) (hv : v * d = -p) (k : Nat) :
    ∃ e f, impl_Over.f (k + 5) x y z t = some (e, f, true) ∧ Fv e u 0 ∧ Fv f v 0 := by
  obtain ⟨w1, e1, f1⟩ := fv_div0 (r := 0) h3 h4 hd (by omega) (by omega)
  obtain ⟨w2, e2, f2⟩ := by_ok (by omega) f1 h3 (by omega)
  obtain ⟨w3, e3, f3⟩ := fv_add (by omega) h4 f2 (by omega)
  obtain ⟨w4, e4, f4⟩ := by_ok (by omega) h1 f1 (by omega)
  obtain ⟨w5, e5, f5⟩ := fv_add (by omega) f4 h2 (by omega)
  have f3' : Fv w3 d 0 := fv_cast f3 (by omega) rfl
  obtain ⟨w6, e6, f6⟩ := fv_div0 (r := u) f5 f3' hd (by omega) (by omega)
  obtain ⟨w7, e7, f7⟩ := by_ok (by omega) h2 f1 (by omega)
  obtain ⟨w8, e8, f8⟩ := fv_sub (by omega) f7 h1 (by omega)
  obtain ⟨w9, e9, f9⟩ := fv_div0 (r := v) f8 f3' hd (by omega) (by omega)
  refine ⟨w6, w9, ?_, f6, f9⟩
  unfold impl_Over.f
  rw [finite_ok h1 h2 h3 h4 (by omega) (by omega) (by omega) (by omega), Option.bind_some, if_pos rfl, fv_eq h3 fv_0, if_pos (by decide), fv_eq h4 fv_0, impl_Over.j0, if_neg (by simp [hd])]
  unfold math_Abs.f
  rw [Option.bind_some, Option.bind_some, fv_gt (fv_abs h3) (fv_abs h4), fv_eq (fv_abs h3) (fv_abs h4), if_neg (by simp; omega)]
  rw [e1, if_pos (by rfl), show (some w1).getD 0 = w1 from rfl, e2, Option.bind_some, e3, if_pos (by rfl), show (some w3).getD 0 = w3 from rfl, e4, Option.bind_some, e5, if_pos (by rfl), show (some w5).getD 0 = w5 from rfl, e6, if_pos (by rfl), e7, Option.bind_some, e8, if_pos (by rfl), show (some w8).getD 0 = w8 from rfl, e9, if_pos (by rfl)]
  rfl
theorem alike_ok {x y z t : Nat} {p q : Int} (h1 : Fv x p 0) (h2 : Fv y q 0) (h3 : Fv z p 0) (h4 : Fv t q 0) : impl_Alike.f x y z t = some true := by
  unfold impl_Alike.f
  rw [fv_eq h1 h3, fv_eq h2 h4, if_pos (by simp)]; simp
def units : List S28 := [⟨4607182418800017408, 0⟩, ⟨4611686018427387904, 0⟩, ⟨0, 4607182418800017408⟩, ⟨13839561654909534208, 0⟩, ⟨0, 13835058055282163712⟩, ⟨4607182418800017408, 4607182418800017408⟩]
theorem unit_ok {x y : Nat} {p q : Int} (h1 : Fv x p 0) (h2 : Fv y q 0) (b1 : p.natAbs ≤ 1000) (b2 : q.natAbs ≤ 1000) (i : Int) (i0 : 0 ≤ i) (i1 : i < 6) (k : Nat) :
    ∃ a b u v, impl_Times.f x y (rd_T28 units i).f0 (rd_T28 units i).f1 = some (a, b) ∧ impl_Over.f (k + 5) a b (rd_T28 units i).f0 (rd_T28 units i).f1 = some (u, v, true) ∧ Fv u p 0 ∧ Fv v q 0 := by
  have h6 : i = 0 ∨ i = 1 ∨ i = 2 ∨ i = 3 ∨ i = 4 ∨ i = 5 := by omega
  rcases h6 with c | c | c | c | c | c <;> subst c
  · obtain ⟨a, b, e, f, g⟩ := times_ok h1 h2 fv_1 fv_0 (by omega) (by omega) (by omega) (by omega)
    obtain ⟨u, v, e2, f2, g2⟩ := over_1 (u := p) (v := q) (r := 0) f g fv_1 fv_0 (by omega) (by omega) (by omega) (by omega) (by omega) (by omega) (by omega) (by omega) (by omega) (by omega) (by omega) (by omega) (by omega) k
    exact ⟨a, b, u, v, e, e2, f2, g2⟩
  · obtain ⟨a, b, e, f, g⟩ := times_ok h1 h2 fv_2 fv_0 (by omega) (by omega) (by omega) (by omega)
    obtain ⟨u, v, e2, f2, g2⟩ := over_1 (u := p) (v := q) (r := 0) f g fv_2 fv_0 (by omega) (by omega) (by omega) (by omega) (by omega) (by omega) (by omega) (by omega) (by omega) (by omega) (by omega) (by omega) (by omega) k
    exact ⟨a, b, u, v, e, e2, f2, g2⟩
  · obtain ⟨a, b, e, f, g⟩ := times_ok h1 h2 fv_0 fv_1 (by omega) (by omega) (by omega) (by omega)
    obtain ⟨u, v, e2, f2, g2⟩ := over_2 (u := p) (v := q) f g fv_0 fv_1 (by omega) (by omega) (by omega) (by omega) (by omega) (by omega) (by omega) (by omega) k
    exact ⟨a, b, u, v, e, e2, f2, g2⟩
  · obtain ⟨a, b, e, f, g⟩ := times_ok h1 h2 fv_m4 fv_0 (by omega) (by omega) (by omega) (by omega)
    obtain ⟨u, v, e2, f2, g2⟩ := over_1 (u := p) (v := q) (r := 0) f g fv_m4 fv_0 (by omega) (by omega) (by omega) (by omega) (by omega) (by omega) (by omega) (by omega) (by omega) (by omega) (by omega) (by omega) (by omega) k
    exact ⟨a, b, u, v, e, e2, f2, g2⟩
  · obtain ⟨a, b, e, f, g⟩ := times_ok h1 h2 fv_0 fv_m2 (by omega) (by omega) (by omega) (by omega)
    obtain ⟨u, v, e2, f2, g2⟩ := over_2 (u := p) (v := q) f g fv_0 fv_m2 (by omega) (by omega) (by omega) (by omega) (by omega) (by omega) (by omega) (by omega) k
    exact ⟨a, b, u, v, e, e2, f2, g2⟩
  · obtain ⟨a, b, e, f, g⟩ := times_ok h1 h2 fv_1 fv_1 (by omega) (by omega) (by omega) (by omega)
    obtain ⟨u, v, e2, f2, g2⟩ := over_1 (u := p) (v := q) (r := 1) f g fv_1 fv_1 (by omega) (by omega) (by omega) (by omega) (by omega) (by omega) (by omega) (by omega) (by omega) (by omega) (by omega) (by omega) (by omega) k
    exact ⟨a, b, u, v, e, e2, f2, g2⟩
theorem reply_ok {x : Nat} {p : Int} (h : Fv x p 0) (b : p.natAbs ≤ 1000) (k : Nat) : ∃ u v, impl_Reply.f (k + 5) 0 x = some (u, v, true) ∧ Fv u 1 0 := by
  obtain ⟨w1, e1, f1⟩ := by_ok (by omega) fv_0 fv_0 (by omega)
  obtain ⟨w2, e2, f2⟩ := fv_sub (by omega) fv_1 f1 (by omega)
  obtain ⟨w3, e3, f3⟩ := by_ok (by omega) fv_2 h (by omega)
  obtain ⟨w4, e4, f4⟩ := by_ok (by omega) f3 fv_0 (by omega)
  obtain ⟨u, v, e5, f5, g5⟩ := over_1 (u := 1) (v := 0) (r := 0) fv_1 fv_0 f2 f4 (by omega) (by omega) (by omega) (by omega) (by omega) (by omega) (by omega) (by omega) (by omega) (by omega) (by omega) (by omega) (by omega) k
  refine ⟨u, v, ?_, f5⟩
  unfold impl_Reply.f
  rw [e1, Option.bind_some, e2, if_pos (by rfl), show (some w2).getD 0 = w2 from rfl, e3, Option.bind_some, e4, Option.bind_some, e5, Option.bind_some]
theorem FnOver : laws_FnOver.Pure := by
  intro l _ _ hl
  have hb := bytes_of hl
  refine ⟨100, ?_⟩
  unfold laws_FnOver.f laws_big.f
  rw [Option.bind_some]
  by_cases hn : (l.length : Int) > 1048576
  · rw [if_pos (by simpa using hn)]
  · rw [if_neg (by simpa using hn), at_ok hb (by omega) (by omega) (by omega), Option.bind_some, at_ok hb (by omega) (by omega) (by omega), Option.bind_some, Option.bind_some, at_ok hb (by omega) (by omega) (by omega), Option.bind_some]
    have r0 := atV_range hb (i := 0) (by omega)
    have r1 := atV_range hb (i := 1) (by omega)
    have r2 := atV_range hb (i := 2) (by omega)
    have r3 := atV_range hb (i := 3) (by omega)
    rw [show ([⟨4607182418800017408, 0⟩, ⟨4611686018427387904, 0⟩, ⟨0, 4607182418800017408⟩, ⟨13839561654909534208, 0⟩, ⟨0, 13835058055282163712⟩, ⟨4607182418800017408, 4607182418800017408⟩] : List S28) = units from rfl, show (units.length : Int) = 6 from rfl, tm r2.1, if_neg (by omega), if_pos (by omega), if_pos (by omega), w64 (x := atV l 0 - 128) (by omega) (by omega), w64 (x := atV l 1 - 128) (by omega) (by omega)]
    have f0 : Fv (floatOfInt .f64 (atV l 0 - 128)) (atV l 0 - 128) 0 := fv_int (by omega)
    have f1 : Fv (floatOfInt .f64 (atV l 1 - 128)) (atV l 1 - 128) 0 := fv_int (by omega)
    have f3 : Fv (floatOfInt .f64 (atV l 3)) (atV l 3) 0 := fv_int (by omega)
    generalize hp : atV l 0 - 128 = p at *
    generalize hq : atV l 1 - 128 = q at *
    generalize floatOfInt .f64 p = A at *
    generalize floatOfInt .f64 q = B at *
    obtain ⟨a, b, u, v, e1, e2, g1, g2⟩ := unit_ok f0 f1 (by omega) (by omega) (atV l 2 % 6) (by omega) (by omega) 95
    rw [e1, Option.bind_some, e2, Option.bind_some, if_pos rfl, alike_ok g1 g2 f0 f1, Option.bind_some, laws_FnOver.j0, if_neg (by decide)]
    unfold impl_Barred.f
    rw [Option.bind_some, Option.bind_some, Option.bind_some]
    have sp : (p * p).natAbs ≤ 1000000 := by rw [Int.natAbs_mul]; exact Nat.mul_le_mul (show p.natAbs ≤ 1000 by omega) (show p.natAbs ≤ 1000 by omega)
    have sq : (q * q).natAbs ≤ 1000000 := by rw [Int.natAbs_mul]; exact Nat.mul_le_mul (show q.natAbs ≤ 1000 by omega) (show q.natAbs ≤ 1000 by omega)
    have spq : (p * q).natAbs ≤ 1000000 := by rw [Int.natAbs_mul]; exact Nat.mul_le_mul (show p.natAbs ≤ 1000 by omega) (show q.natAbs ≤ 1000 by omega)
    have m1 : q * -q = -(q * q) := Int.mul_neg ..
    have m2 : p * -q = -(p * q) := Int.mul_neg ..
    have m3 : q * p = p * q := Int.mul_comm ..
    obtain ⟨P, Q, e3, g3, g4⟩ := times_ok f0 f1 f0 (fv_neg f1) (by omega) (by rw [m1]; omega) (by rw [m2]; omega) (by rw [m3]; omega)
    rw [e3, Option.bind_some, over_none f0 f1 (by omega) (by omega) 94, Option.bind_some, laws_FnOver.j1, at_ok hb (by omega) (by omega) (by omega), Option.bind_some]
    obtain ⟨U, V, e4, g5⟩ := reply_ok f3 (by omega) 93
    obtain ⟨w1, e5, g6⟩ := fv_mul (by omega) f0 f0 (by omega)
    obtain ⟨w2, e6, g7⟩ := fv_mul (by omega) f1 f1 (by omega)
    obtain ⟨w3, e7, g8⟩ := fv_add (by omega) g6 g7 (by omega)
    rw [e4, Option.bind_some, alike_ok f0 (fv_cast (fv_neg (fv_neg f1)) (by omega) rfl) f0 f1, Option.bind_some, if_pos rfl, fv_eq g4 fv_0, if_pos (decide_eq_true (by rw [m2, m3]; omega)), e5, if_pos (by rfl), e6, if_pos (by rfl), show (some w1).getD 0 = w1 from rfl, show (some w2).getD 0 = w2 from rfl, e7, if_pos (by rfl), show (some w3).getD 0 = w3 from rfl, fv_eq g3 g8, if_pos (decide_eq_true (by rw [m1]; omega)), if_neg (by decide), if_pos rfl, fv_eq g5 fv_1]
    rfl

end Go.Proofs.Ytchobalepjmeiaa.Pure
