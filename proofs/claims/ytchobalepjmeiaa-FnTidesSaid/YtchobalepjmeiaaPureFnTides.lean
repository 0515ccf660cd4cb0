/- A harmonic that is 0 changes no height; one that does not turn adds its start; four quarters bring the first height back; depths are heights and soundings. -/
import Derived.Test.YtchobalepjmeiaaPFnTidesx5
import Derived.Test.YtchobalepjmeiaaKit
set_option linter.unusedVariables false
set_option linter.unusedSimpArgs false
namespace Go.Proofs.Ytchobalepjmeiaa.Pure
open Go.RowKit Go.Proofs.Ytchobalepjmeiaa.PFnTides Go.Proofs.YtchobalepjmeiaaW.PrintWords Go.Proofs.YtchobalepjmeiaaW.PrintLast Go.Proofs.YtchobalepjmeiaaW.PrintMore Go.Proofs.YtchobalepjmeiaaW.Kit

/-! ### floats that stand for small fractions of two -/
abbrev F64 : Ieee.Format := FloatKind.f64.format
theorem f_sw : F64.signWeight = 2 ^ 63 := by decide +kernel
theorem f_bin : F64.binade = 2 ^ 52 := by decide +kernel
theorem f_inf : F64.infRung = 2047 * 2 ^ 52 := by decide +kernel
theorem f_lp : F64.leastPlace = -1074 := by decide +kernel
theorem f_fb : F64.fractionBits = 52 := by decide +kernel
theorem f_read_word (s : Bool) {r : Nat} (h : r < 2047 * 2 ^ 52) :
    F64.read (F64.word s r) = if r < 2 ^ 52 then .number s r (-1074) else .number s (2 ^ 52 + r % 2 ^ 52) (-1074 + (r / 2 ^ 52 - 1 : Nat)) := by
  have h1 : F64.word s r / 2 ^ 63 % 2 = s.toNat := by
    unfold Ieee.Format.word; rw [f_sw]; cases s <;> simp <;> omega
  have h2 : F64.word s r % 2 ^ 63 = r := by
    unfold Ieee.Format.word; rw [f_sw]; cases s <;> simp <;> omega
  unfold Ieee.Format.read
  rw [f_sw, f_bin, f_inf, f_lp, h1, h2]
  have h3 : (s.toNat == 1) = s := by cases s <;> rfl
  simp only [h3]
  by_cases c : r < 2 ^ 52
  · rw [if_pos c, if_pos c]
  · rw [if_neg c, if_pos h, if_neg c]
theorem cut_whole (s : Bool) (n : Nat) : Ieee.Toward.even.cut s n 0 = n := by
  unfold Ieee.Toward.cut
  have e : 1 <<< min 0 (n.log2 + 2) = 1 := by simp
  rw [e]
  simp [Nat.mod_one]
theorem cut_exact (s : Bool) (c d : Nat) (h : 0 < c) : Ieee.Toward.even.cut s (c * 2 ^ d) d = c := by
  unfold Ieee.Toward.cut
  have hl : d ≤ (c * 2 ^ d).log2 := by
    rw [Nat.le_log2 (by have := Nat.two_pow_pos d; exact Nat.ne_of_gt (Nat.mul_pos h this))]
    exact Nat.le_mul_of_pos_left _ h
  have e : 1 <<< min d ((c * 2 ^ d).log2 + 2) = 2 ^ d := by
    rw [Nat.min_eq_left (by omega), Nat.one_shiftLeft]
  rw [e]
  have hp := Nat.two_pow_pos d
  simp only [Nat.mul_mod_left, Nat.mul_div_cancel _ hp]
  simp
/-- What can be told is told. -/
theorem near_exact (s : Bool) (m : Nat) (i : Int) (v : Nat) (e : Int) (hi : -4400 ≤ i) (hv : v < 2 ^ 53) (he : -1074 ≤ e) (he2 : e ≤ 900)
    (h : m * 2 ^ (i + 4400).toNat = v * 2 ^ (e + 4400).toNat) :
    ∃ m' i', F64.read (F64.nearest s m i) = .number s m' i' ∧ -1074 ≤ i' ∧ m' * 2 ^ (i' + 4400).toNat = m * 2 ^ (i + 4400).toNat := by
  unfold Ieee.Format.nearest
  by_cases hm : m = 0
  · subst hm
    rw [if_pos rfl, f_read_word s (by omega), if_pos (by omega)]
    exact ⟨0, -1074, rfl, by omega, by rw [Nat.zero_mul, Nat.zero_mul]⟩
  rw [if_neg hm, f_fb, f_lp, f_bin, f_inf]
  have hvz : v ≠ 0 := by
    intro z; subst z
    rcases Nat.mul_eq_zero.1 (h.trans (Nat.zero_mul _)) with q | q
    · exact hm q
    · exact Nat.ne_of_gt (Nat.two_pow_pos _) q
  have hL0 := Nat.log2_self_le hm
  have hL1 := Nat.lt_log2_self (n := m)
  have hV0 := Nat.log2_self_le hvz
  have hV1 := Nat.lt_log2_self (n := v)
  have hV : v.log2 < 53 := (Nat.log2_lt hvz).2 hv
  generalize m.log2 = L at *
  generalize v.log2 = V at *
  have hLV : (L : Int) + i = V + e := by
    have a1 : 2 ^ (L + (i + 4400).toNat) < 2 ^ (V + 1 + (e + 4400).toNat) := by
      rw [Nat.pow_add, Nat.pow_add]
      calc 2 ^ L * 2 ^ (i + 4400).toNat ≤ m * 2 ^ (i + 4400).toNat := Nat.mul_le_mul_right _ hL0
        _ = v * 2 ^ (e + 4400).toNat := h
        _ < 2 ^ (V + 1) * 2 ^ (e + 4400).toNat := Nat.mul_lt_mul_of_pos_right hV1 (Nat.two_pow_pos _)
    have a2 : 2 ^ (V + (e + 4400).toNat) < 2 ^ (L + 1 + (i + 4400).toNat) := by
      rw [Nat.pow_add, Nat.pow_add]
      calc 2 ^ V * 2 ^ (e + 4400).toNat ≤ v * 2 ^ (e + 4400).toNat := Nat.mul_le_mul_right _ hV0
        _ = m * 2 ^ (i + 4400).toNat := h.symm
        _ < 2 ^ (L + 1) * 2 ^ (i + 4400).toNat := Nat.mul_lt_mul_of_pos_right hL1 (Nat.two_pow_pos _)
    have b1 := (Nat.pow_lt_pow_iff_right (a := 2) (by omega)).1 a1
    have b2 := (Nat.pow_lt_pow_iff_right (a := 2) (by omega)).1 a2
    omega
  have hlast : max (i + L - (52 : Nat)) (-1074) ≤ e := by omega
  have hl1 : -1074 ≤ max (i + L - (52 : Nat)) (-1074) := by omega
  have hl2 : i + L - 52 ≤ max (i + L - (52 : Nat)) (-1074) := by omega
  have hl3 : max (i + L - (52 : Nat)) (-1074) = i + L - 52 ∨ max (i + L - (52 : Nat)) (-1074) = -1074 := by omega
  generalize max (i + (L : Int) - (52 : Nat)) (-1074) = last at *
  have hk : ∃ kept, Ieee.Toward.even.cut s (m <<< (i - last).toNat) (last - i).toNat = kept ∧ kept * 2 ^ (last + 4400).toNat = m * 2 ^ (i + 4400).toNat := by
    by_cases c : last ≤ i
    · refine ⟨m * 2 ^ (i - last).toNat, ?_, ?_⟩
      · rw [show (last - i).toNat = 0 by omega, cut_whole, Nat.shiftLeft_eq]
      · rw [Nat.mul_assoc, ← Nat.pow_add, show (i - last).toNat + (last + 4400).toNat = (i + 4400).toNat by omega]
    · have hmv : m = v * 2 ^ (e - last).toNat * 2 ^ (last - i).toNat := by
        have hp := Nat.two_pow_pos (i + 4400).toNat
        refine Nat.eq_of_mul_eq_mul_right hp ?_
        rw [h, Nat.mul_assoc, Nat.mul_assoc, ← Nat.pow_add, ← Nat.pow_add, show (e - last).toNat + ((last - i).toNat + (i + 4400).toNat) = (e + 4400).toNat by omega]
      refine ⟨v * 2 ^ (e - last).toNat, ?_, ?_⟩
      · rw [show (i - last).toNat = 0 by omega, Nat.shiftLeft_zero, hmv]
        exact cut_exact s _ _ (Nat.mul_pos (by omega) (Nat.two_pow_pos _))
      · rw [h, Nat.mul_assoc, ← Nat.pow_add, show (e - last).toNat + (last + 4400).toNat = (e + 4400).toNat by omega]
  obtain ⟨kept, hk1, hk2⟩ := hk
  dsimp only
  rw [hk1]
  have hkb : kept < 2 ^ 53 := by
    have a : kept * 2 ^ (last + 4400).toNat < 2 ^ 53 * 2 ^ (last + 4400).toNat := by
      rw [hk2, ← Nat.pow_add]
      calc m * 2 ^ (i + 4400).toNat < 2 ^ (L + 1) * 2 ^ (i + 4400).toNat := Nat.mul_lt_mul_of_pos_right hL1 (Nat.two_pow_pos _)
        _ = 2 ^ (L + 1 + (i + 4400).toNat) := (Nat.pow_add ..).symm
        _ ≤ 2 ^ (53 + (last + 4400).toNat) := Nat.pow_le_pow_right (by omega) (by omega)
    exact Nat.lt_of_mul_lt_mul_right a
  have hka : last = i + L - 52 → 2 ^ 52 ≤ kept := by
    intro hh
    have a : 2 ^ 52 * 2 ^ (last + 4400).toNat ≤ kept * 2 ^ (last + 4400).toNat := by
      rw [hk2, ← Nat.pow_add]
      calc 2 ^ (52 + (last + 4400).toNat) = 2 ^ (L + (i + 4400).toNat) := by congr 1; omega
        _ = 2 ^ L * 2 ^ (i + 4400).toNat := Nat.pow_add ..
        _ ≤ m * 2 ^ (i + 4400).toNat := Nat.mul_le_mul_right _ hL0
    exact Nat.le_of_mul_le_mul_right a (Nat.two_pow_pos _)
  rw [show last - -1074 = last + 1074 by omega, Nat.min_eq_left (by omega), f_read_word s (by omega)]
  by_cases c : kept < 2 ^ 52
  · have e0 : last = -1074 := by
      rcases hl3 with q | q
      · have := hka q; omega
      · exact q
    subst e0
    rw [show ((-1074 : Int) + 1074).toNat = 0 from rfl, Nat.zero_mul, Nat.zero_add, if_pos c]
    exact ⟨kept, -1074, rfl, by omega, hk2⟩
  · have e1 : ((last + 1074).toNat * 2 ^ 52 + kept) / 2 ^ 52 = (last + 1074).toNat + 1 := by omega
    have e2 : ((last + 1074).toNat * 2 ^ 52 + kept) % 2 ^ 52 = kept - 2 ^ 52 := by omega
    rw [if_neg (by omega), e1, e2]
    refine ⟨2 ^ 52 + (kept - 2 ^ 52), -1074 + (((last + 1074).toNat + 1 - 1 : Nat) : Int), rfl, by omega, ?_⟩
    rw [show 2 ^ 52 + (kept - 2 ^ 52) = kept by omega, show -1074 + (((last + 1074).toNat + 1 - 1 : Nat) : Int) = last by omega]
    exact hk2

def sv (s : Bool) (m : Nat) (i : Int) : Int := if s then -((m * 2 ^ (i + 4400).toNat : Nat) : Int) else ((m * 2 ^ (i + 4400).toNat : Nat) : Int)
theorem sv_abs (s : Bool) (m : Nat) (i : Int) : (sv s m i).natAbs = m * 2 ^ (i + 4400).toNat := by
  unfold sv
  cases s
  · rw [if_neg (by decide), Int.natAbs_natCast]
  · rw [if_pos rfl, Int.natAbs_neg, Int.natAbs_natCast]
/-- b are the bits of q / 2^e. -/
def Fv (b : Nat) (q : Int) (e : Nat) : Prop := ∃ s m i, F64.read b = .number s m i ∧ -1074 ≤ i ∧ sv s m i = q * ((2 ^ (4400 - e) : Nat) : Int)
theorem fv_write {s : Bool} {m : Nat} {i : Int} {q : Int} {e : Nat} (hi : -4400 ≤ i) (he : e ≤ 1074) (hq : q.natAbs < 2 ^ 53) (h : sv s m i = q * ((2 ^ (4400 - e) : Nat) : Int)) :
    Fv (F64.write (.number s m i)) q e := by
  have hn : m * 2 ^ (i + 4400).toNat = q.natAbs * 2 ^ (-(e : Int) + 4400).toNat := by
    have := congrArg Int.natAbs h
    rw [Int.natAbs_mul] at this
    rw [show (-(e : Int) + 4400).toNat = 4400 - e by omega]
    rw [Int.natAbs_natCast, sv_abs] at this
    exact this
  obtain ⟨m', i', h1, h2, h3⟩ := near_exact s m i q.natAbs (-(e : Int)) hi hq (by omega) (by omega) hn
  refine ⟨s, m', i', h1, h2, ?_⟩
  rw [← h]; unfold sv; rw [h3]
theorem signed_scale (s : Bool) (m : Nat) (i b : Int) (hb : b ≤ i) (hb0 : -4400 ≤ b) : Ieee.signed s m (i - b).toNat * ((2 ^ (b + 4400).toNat : Nat) : Int) = sv s m i := by
  unfold Ieee.signed sv
  have : m * 2 ^ (i + 4400).toNat = m <<< (i - b).toNat * 2 ^ (b + 4400).toNat := by
    rw [Nat.shiftLeft_eq, Nat.mul_assoc, ← Nat.pow_add, show (i - b).toNat + (b + 4400).toNat = (i + 4400).toNat by omega]
  rw [this]
  cases s
  · rw [if_neg (by decide), if_neg (by decide), Int.natCast_mul]
  · rw [if_pos rfl, if_pos rfl, Int.natCast_mul, Int.neg_mul]
theorem sv_total (t : Int) (g : Bool) (b : Int) (hg : t ≠ 0 → g = decide (t < 0)) : sv g t.natAbs b = t * ((2 ^ (b + 4400).toNat : Nat) : Int) := by
  unfold sv
  by_cases z : t = 0
  · subst z; cases g <;> simp
  rw [hg z]
  by_cases c : t < 0
  · rw [decide_eq_true c, if_pos rfl, Int.natCast_mul, ← Int.neg_mul]; congr 1; omega
  · rw [decide_eq_false c, if_neg (by decide), Int.natCast_mul]; congr 1; omega
theorem fv_sum {s t : Bool} {m n : Nat} {i j : Int} {q r : Int} {e : Nat} (hi : -1074 ≤ i) (hj : -1074 ≤ j) (he : e ≤ 1074) (h1 : sv s m i = q * ((2 ^ (4400 - e) : Nat) : Int)) (h2 : sv t n j = r * ((2 ^ (4400 - e) : Nat) : Int))
    (hb : (q + r).natAbs < 2 ^ 53) : ∃ b, (((Ieee.Datum.number s m i).sum (.number t n j)).map F64.write) = some b ∧ Fv b (q + r) e := by
  refine ⟨_, rfl, ?_⟩
  refine fv_write (by omega) he hb ?_
  rw [sv_total, Int.add_mul, signed_scale s m i (min i j) (by omega) (by omega), signed_scale t n j (min i j) (by omega) (by omega), h1, h2, Int.add_mul]
  intro z; rw [if_neg z]
theorem fv_add {x y : Nat} {q r : Int} {e : Nat} (he : e ≤ 1074) (h1 : Fv x q e) (h2 : Fv y r e) (hb : (q + r).natAbs < 2 ^ 53) : ∃ b, floatBits .add .f64 x y = some b ∧ Fv b (q + r) e := by
  obtain ⟨s, m, i, a1, a2, a3⟩ := h1
  obtain ⟨t, n, j, b1, b2, b3⟩ := h2
  show ∃ b, F64.add x y = some b ∧ _
  unfold Ieee.Format.add
  rw [a1, b1]
  exact fv_sum a2 b2 he a3 b3 hb
theorem sv_not (s : Bool) (m : Nat) (i : Int) : sv (!s) m i = -sv s m i := by
  unfold sv; cases s <;> simp
theorem fv_sub {x y : Nat} {q r : Int} {e : Nat} (he : e ≤ 1074) (h1 : Fv x q e) (h2 : Fv y r e) (hb : (q - r).natAbs < 2 ^ 53) : ∃ b, floatBits .sub .f64 x y = some b ∧ Fv b (q - r) e := by
  obtain ⟨s, m, i, a1, a2, a3⟩ := h1
  obtain ⟨t, n, j, b1, b2, b3⟩ := h2
  show ∃ b, F64.sub x y = some b ∧ _
  unfold Ieee.Format.sub
  rw [a1, b1]
  exact fv_sum (r := -r) a2 b2 he a3 (by rw [sv_not, b3, Int.neg_mul]) hb
theorem two_ne (k : Nat) : ((2 ^ k : Nat) : Int) ≠ 0 := Int.ofNat_ne_zero.2 (Nat.ne_of_gt (Nat.two_pow_pos _))
theorem sv_mul {s t : Bool} {m n : Nat} {i j : Int} (a2 : -1074 ≤ i) (b2 : -1074 ≤ j) (K : Nat) (hK : K = 4400) : sv (s ^^ t) (m * n) (i + j) * ((2 ^ K : Nat) : Int) = sv s m i * sv t n j := by
  have : m * n * 2 ^ (i + j + 4400).toNat * 2 ^ K = (m * 2 ^ (i + 4400).toNat) * (n * 2 ^ (j + 4400).toNat) := by
    rw [Nat.mul_assoc, ← Nat.pow_add, Nat.mul_mul_mul_comm, ← Nat.pow_add, show (i + j + 4400).toNat + K = (i + 4400).toNat + (j + 4400).toNat by omega]
  unfold sv
  have c := congrArg (fun z : Nat => (z : Int)) this
  simp only [Int.natCast_mul] at c
  cases s <;> cases t <;> simp only [Int.natCast_mul, Bool.xor_false, Bool.xor_true, Bool.not_true, Bool.not_false, if_true, if_false, Bool.false_eq_true, Int.neg_mul, Int.mul_neg, Int.neg_neg, c]
theorem fv_mul {x y : Nat} {q r : Int} {e f : Nat} (he : e + f ≤ 1074) (h1 : Fv x q e) (h2 : Fv y r f) (hb : (q * r).natAbs < 2 ^ 53) : ∃ b, floatBits .mul .f64 x y = some b ∧ Fv b (q * r) (e + f) := by
  obtain ⟨s, m, i, a1, a2, a3⟩ := h1
  obtain ⟨t, n, j, b1, b2, b3⟩ := h2
  show ∃ b, F64.mul x y = some b ∧ _
  unfold Ieee.Format.mul
  rw [a1, b1]
  refine ⟨_, rfl, fv_write (by omega) he hb ?_⟩
  obtain ⟨K, hK⟩ : ∃ K : Nat, K = 4400 := ⟨_, rfl⟩
  refine Int.eq_of_mul_eq_mul_right (two_ne K) ?_
  rw [sv_mul a2 b2 K hK, a3, b3, Int.mul_assoc q, Int.mul_left_comm _ r, ← Int.mul_assoc q, Int.mul_assoc (q * r)]
  congr 1
  rw [← Int.natCast_mul, ← Int.natCast_mul, ← Nat.pow_add, ← Nat.pow_add, show 4400 - e + (4400 - f) = 4400 - (e + f) + K by omega]

theorem fv_order {x y : Nat} {q r : Int} {e : Nat} (h1 : Fv x q e) (h2 : Fv y r e) : F64.order x y = some (compare q r) := by
  obtain ⟨s, m, i, a1, a2, a3⟩ := h1
  obtain ⟨t, n, j, b1, b2, b3⟩ := h2
  unfold Ieee.Format.order
  rw [a1, b1]
  show some (compare (Ieee.signed s m (i - min i j).toNat) (Ieee.signed t n (j - min i j).toNat)) = _
  have h1 := signed_scale s m i (min i j) (by omega) (by omega)
  have h2 := signed_scale t n j (min i j) (by omega) (by omega)
  rw [a3] at h1; rw [b3] at h2
  have p1 : (0 : Int) < ((2 ^ (4400 - e) : Nat) : Int) := Int.ofNat_lt.2 (Nat.two_pow_pos _)
  have p2 : (0 : Int) < ((2 ^ (min i j + 4400).toNat : Nat) : Int) := Int.ofNat_lt.2 (Nat.two_pow_pos _)
  generalize ((2 ^ (4400 - e) : Nat) : Int) = U at *
  generalize ((2 ^ (min i j + 4400).toNat : Nat) : Int) = V at *
  generalize Ieee.signed s m (i - min i j).toNat = A at *
  generalize Ieee.signed t n (j - min i j).toNat = B at *
  congr 1
  have k1 : A < B ↔ q < r := by
    rw [← Int.mul_lt_mul_right p2, h1, h2, Int.mul_lt_mul_right p1]
  have k2 : B < A ↔ r < q := by
    rw [← Int.mul_lt_mul_right p2, h1, h2, Int.mul_lt_mul_right p1]
  rcases Int.lt_trichotomy q r with c | c | c
  · rw [Int.compare_eq_lt.2 (k1.2 c), Int.compare_eq_lt.2 c]
  · have : A = B := by have := k1.1; have := k2.1; omega
    rw [Int.compare_eq_eq.2 this, Int.compare_eq_eq.2 c]
  · rw [Int.compare_eq_gt.2 (k2.2 c), Int.compare_eq_gt.2 c]
theorem fv_eq {x y : Nat} {q r : Int} {e : Nat} (h1 : Fv x q e) (h2 : Fv y r e) : (F64.order x y == some .eq) = decide (q = r) := by
  rw [fv_order h1 h2]
  by_cases c : q = r
  · rw [Int.compare_eq_eq.2 c, decide_eq_true c]; rfl
  · rw [decide_eq_false c]
    rcases Int.lt_or_gt_of_ne c with c | c
    · rw [Int.compare_eq_lt.2 c]; rfl
    · rw [Int.compare_eq_gt.2 c]; rfl
theorem fv_int {n : Int} (h : n.natAbs < 2 ^ 53) : Fv (floatOfInt .f64 n) n 0 := by
  refine fv_write (s := decide (n < 0)) (m := n.natAbs) (i := 0) (by omega) (by omega) h ?_
  rw [sv_total n _ 0 (fun _ => rfl), show ((0 : Int) + 4400).toNat = 4400 - 0 from rfl]
theorem fv_up {x : Nat} {q : Int} {e : Nat} (d : Nat) (he : e + d ≤ 4400) (h : Fv x q e) : Fv x (q * ((2 ^ d : Nat) : Int)) (e + d) := by
  obtain ⟨s, m, i, a1, a2, a3⟩ := h
  refine ⟨s, m, i, a1, a2, ?_⟩
  rw [a3, Int.mul_assoc, ← Int.natCast_mul, ← Nat.pow_add, show d + (4400 - (e + d)) = 4400 - e by omega]
theorem fv_down {x : Nat} {q : Int} {e : Nat} (d : Nat) (he : e + d ≤ 4400) (h : Fv x (q * ((2 ^ d : Nat) : Int)) (e + d)) : Fv x q e := by
  obtain ⟨s, m, i, a1, a2, a3⟩ := h
  refine ⟨s, m, i, a1, a2, ?_⟩
  rw [a3, Int.mul_assoc, ← Int.natCast_mul, ← Nat.pow_add, show d + (4400 - (e + d)) = 4400 - e by omega]
theorem fv_of (b : Nat) (s : Bool) (m : Nat) (i : Int) (q : Int) (e : Nat) (h : F64.read b = .number s m i) (hi : -1074 ≤ i) (hs : sv s m i = q * ((2 ^ (4400 - e) : Nat) : Int)) : Fv b q e := ⟨s, m, i, h, hi, hs⟩
theorem fv_0 : Fv 0 0 0 := fv_of 0 false 0 (-1074) 0 0 (by decide +kernel) (by decide) (by decide +kernel)
theorem fv_1 : Fv 4607182418800017408 1 0 := fv_of _ false 4503599627370496 (-52) 1 0 (by decide +kernel) (by decide) (by decide +kernel)
theorem fv_2 : Fv 4611686018427387904 2 0 := fv_of _ false 4503599627370496 (-51) 2 0 (by decide +kernel) (by decide) (by decide +kernel)
theorem fv_half : Fv 4602678819172646912 1 1 := fv_of _ false 4503599627370496 (-53) 1 1 (by decide +kernel) (by decide) (by decide +kernel)
theorem f_read_le {b : Nat} {s : Bool} {m : Nat} {i : Int} (h : F64.read b = .number s m i) : m < 2 ^ 53 ∧ -1074 ≤ i ∧ i ≤ 971 := by
  unfold Ieee.Format.read at h
  rw [f_sw, f_bin, f_inf, f_lp] at h
  generalize hr : b % 2 ^ 63 = r at h
  generalize (b / 2 ^ 63 % 2 == 1) = g at h
  dsimp only at h
  by_cases c : r < 2 ^ 52
  · rw [if_pos c] at h
    injection h with h1 h2 h3
    omega
  · rw [if_neg c] at h
    by_cases c2 : r < 2047 * 2 ^ 52
    · rw [if_pos c2] at h
      injection h with h1 h2 h3
      omega
    · rw [if_neg c2] at h
      by_cases c3 : r = 2047 * 2 ^ 52
      · rw [if_pos c3] at h; exact absurd h (by simp)
      · rw [if_neg c3] at h; exact absurd h (by simp)
theorem div_nat {m n r A B more : Nat} (hm : m ≠ 0) (hn : n ≠ 0) (hr : r < 2 ^ 53) (h : m * 2 ^ A = r * n * 2 ^ B) (hmore : 54 + n.log2 ≤ more + m.log2) :
    ∃ c, m <<< more = c * n ∧ c * 2 ^ A = r * 2 ^ (B + more) := by
  have key : A ≤ B + more := by
    refine Nat.le_of_not_lt fun hlt => ?_
    have h2 : m * 2 ^ (A - B) = r * n := by
      refine Nat.eq_of_mul_eq_mul_right (Nat.two_pow_pos B) ?_
      rw [Nat.mul_assoc, ← Nat.pow_add, show A - B + B = A by omega, h]
    have a1 := Nat.log2_self_le hm
    have a2 := Nat.lt_log2_self (n := n)
    have a3 : 2 ^ (m.log2 + (A - B)) < 2 ^ (53 + (n.log2 + 1)) := by
      rw [Nat.pow_add, Nat.pow_add]
      calc 2 ^ m.log2 * 2 ^ (A - B) ≤ m * 2 ^ (A - B) := Nat.mul_le_mul_right _ a1
        _ = r * n := h2
        _ ≤ 2 ^ 53 * n := Nat.mul_le_mul_right _ (by omega)
        _ < 2 ^ 53 * 2 ^ (n.log2 + 1) := Nat.mul_lt_mul_of_pos_left a2 (by omega)
    have := (Nat.pow_lt_pow_iff_right (a := 2) (by omega)).1 a3
    omega
  refine ⟨r * 2 ^ (B + more - A), ?_, ?_⟩
  · refine Nat.eq_of_mul_eq_mul_right (Nat.two_pow_pos A) ?_
    rw [Nat.shiftLeft_eq, Nat.mul_right_comm, h, Nat.mul_right_comm (r * 2 ^ (B + more - A)), Nat.mul_assoc r (2 ^ _) (2 ^ A), ← Nat.pow_add, show B + more - A + A = B + more by omega, Nat.pow_add, Nat.mul_assoc (r * n), Nat.mul_right_comm]
  · rw [Nat.mul_assoc, ← Nat.pow_add, show B + more - A + A = B + more by omega]
theorem sign_div {p q r U V : Int} (hU : 0 < U) (hV : 0 < V) (h : r * q * U = p * V) (hq : q ≠ 0) : (decide (p < 0) ^^ decide (q < 0)) = decide (r < 0) ∨ r = 0 := by
  have pp : 0 < r * q → 0 < p := fun c => by
    have := Int.mul_pos c hU
    rw [h] at this
    exact Int.pos_of_mul_pos_left this hV
  have pn : 0 < -(r * q) → 0 < -p := fun c => by
    have := Int.mul_pos c hU
    rw [Int.neg_mul, h, ← Int.neg_mul] at this
    exact Int.pos_of_mul_pos_left this hV
  rcases Int.lt_trichotomy r 0 with c | c | c
  · left
    rcases Int.lt_or_gt_of_ne hq with d | d
    · have := pp (Int.mul_pos_of_neg_of_neg c d)
      rw [decide_eq_false (show ¬ p < 0 by omega), decide_eq_true d, decide_eq_true c]; rfl
    · have := pn (by rw [← Int.neg_mul]; exact Int.mul_pos (by omega) d)
      rw [decide_eq_true (show p < 0 by omega), decide_eq_false (show ¬ q < 0 by omega), decide_eq_true c]; rfl
  · right; exact c
  · left
    rcases Int.lt_or_gt_of_ne hq with d | d
    · have := pn (by rw [← Int.mul_neg]; exact Int.mul_pos c (by omega))
      rw [decide_eq_true (show p < 0 by omega), decide_eq_true d, decide_eq_false (show ¬ r < 0 by omega)]; rfl
    · have := pp (Int.mul_pos c d)
      rw [decide_eq_false (show ¬ p < 0 by omega), decide_eq_false (show ¬ q < 0 by omega), decide_eq_false (show ¬ r < 0 by omega)]; rfl
theorem sv_neg_of (s : Bool) (m : Nat) (i : Int) : sv s m i = if s then -((m * 2 ^ (i + 4400).toNat : Nat) : Int) else ((m * 2 ^ (i + 4400).toNat : Nat) : Int) := rfl
theorem fv_div {x y : Nat} {p q r : Int} {e f g : Nat} (he : e ≤ 1074) (hf : f ≤ 1074) (hg : g ≤ 1074) (h1 : Fv x p e) (h2 : Fv y q f) (hq : q ≠ 0) (hb : r.natAbs < 2 ^ 53)
    (hr : r * q * ((2 ^ e : Nat) : Int) = p * ((2 ^ (f + g) : Nat) : Int)) : ∃ b, floatBits .quo .f64 x y = some b ∧ Fv b r g := by
  obtain ⟨s, m, i, a1, a2, a3⟩ := h1
  obtain ⟨t, n, j, b1, b2, b3⟩ := h2
  obtain ⟨a4, _, a5⟩ := f_read_le a1
  obtain ⟨b4, _, b5⟩ := f_read_le b1
  have hn : n ≠ 0 := by
    intro z; subst z
    have : sv t 0 j = 0 := by unfold sv; rw [Nat.zero_mul]; cases t <;> rfl
    rw [this] at b3
    rcases Int.mul_eq_zero.1 b3.symm with c | c
    · exact hq c
    · exact two_ne _ c
  show ∃ b, F64.div x y = some b ∧ _
  unfold Ieee.Format.div
  rw [a1, b1, f_fb]
  unfold Ieee.Datum.quotient
  dsimp only
  rw [if_neg hn]
  refine ⟨_, rfl, ?_⟩
  have hlm : m.log2 < 2 ^ 53 := by
    by_cases z : m = 0
    · subst z; decide
    · exact Nat.lt_of_le_of_lt (Nat.le_of_lt (Nat.lt_of_lt_of_le (Nat.lt_two_pow_self) (Nat.log2_self_le z))) a4
  have hln : n.log2 < 53 := (Nat.log2_lt hn).2 b4
  have hmore : 54 + n.log2 ≤ (52 + 2 + n.log2 - m.log2) + m.log2 := by omega
  have hmore2 : 52 + 2 + n.log2 - m.log2 ≤ 107 := by omega
  generalize 52 + 2 + n.log2 - m.log2 = more at *
  refine fv_write (by omega) hg hb ?_
  by_cases hm : m = 0
  · subst hm
    have z1 : sv s 0 i = 0 := by unfold sv; rw [Nat.zero_mul]; cases s <;> rfl
    rw [z1] at a3
    have hp : p = 0 := by
      rcases Int.mul_eq_zero.1 a3.symm with c | c
      · exact c
      · exact absurd c (two_ne _)
    rw [hp, Int.zero_mul] at hr
    have hr0 : r = 0 := by
      rcases Int.mul_eq_zero.1 hr with c | c
      · rcases Int.mul_eq_zero.1 c with c | c
        · exact c
        · exact absurd c hq
      · exact absurd c (two_ne _)
    rw [hr0, Int.zero_mul, Nat.zero_shiftLeft, Nat.zero_div, Nat.zero_mod]
    unfold sv
    have : (2 * 0 + (0 != 0 : Bool).toNat) = 0 := rfl
    rw [this, Nat.zero_mul]
    cases s <;> cases t <;> rfl
  -- the magnitudes
  have m1 : m * 2 ^ (i + 4400).toNat = p.natAbs * 2 ^ (4400 - e) := by
    have := congrArg Int.natAbs a3
    rw [sv_abs, Int.natAbs_mul, Int.natAbs_natCast] at this; exact this
  have m2 : n * 2 ^ (j + 4400).toNat = q.natAbs * 2 ^ (4400 - f) := by
    have := congrArg Int.natAbs b3
    rw [sv_abs, Int.natAbs_mul, Int.natAbs_natCast] at this; exact this
  have m3 : r.natAbs * q.natAbs * 2 ^ e = p.natAbs * 2 ^ (f + g) := by
    have := congrArg Int.natAbs hr
    rw [Int.natAbs_mul, Int.natAbs_mul, Int.natAbs_mul, Int.natAbs_natCast, Int.natAbs_natCast] at this; exact this
  have hA : m * 2 ^ ((i + 4400).toNat + g) = r.natAbs * n * 2 ^ (j + 4400).toNat := by
    refine Nat.eq_of_mul_eq_mul_right (Nat.two_pow_pos f) ?_
    calc m * 2 ^ ((i + 4400).toNat + g) * 2 ^ f = m * 2 ^ (i + 4400).toNat * 2 ^ (f + g) := by
          rw [Nat.mul_assoc, ← Nat.pow_add, Nat.mul_assoc, ← Nat.pow_add]; congr 2; omega
      _ = p.natAbs * 2 ^ (f + g) * 2 ^ (4400 - e) := by rw [m1, Nat.mul_right_comm]
      _ = r.natAbs * q.natAbs * 2 ^ e * 2 ^ (4400 - e) := by rw [m3]
      _ = r.natAbs * (q.natAbs * 2 ^ (4400 - f)) * 2 ^ f := by
          rw [Nat.mul_assoc, ← Nat.pow_add, ← Nat.mul_assoc r.natAbs, Nat.mul_assoc (r.natAbs * q.natAbs), ← Nat.pow_add]; congr 2; omega
      _ = r.natAbs * n * 2 ^ (j + 4400).toNat * 2 ^ f := by rw [← m2]; simp only [Nat.mul_assoc]
  obtain ⟨c, c1, c2⟩ := div_nat hm hn hb hA (by omega)
  rw [c1, Nat.mul_div_cancel _ (Nat.pos_of_ne_zero hn), Nat.mul_mod_left]
  have hz : (2 * c + (0 != 0 : Bool).toNat) = 2 * c := rfl
  rw [hz]
  -- the sign
  have hs : (s ^^ t) = decide (r < 0) ∨ r = 0 := by
    have u0 : ∀ k : Nat, (0 : Int) < ((2 ^ k : Nat) : Int) := fun k => Int.ofNat_lt.2 (Nat.two_pow_pos k)
    have pm : (0 : Int) < ((m * 2 ^ (i + 4400).toNat : Nat) : Int) := Int.ofNat_lt.2 (Nat.mul_pos (Nat.pos_of_ne_zero hm) (Nat.two_pow_pos _))
    have pn : (0 : Int) < ((n * 2 ^ (j + 4400).toNat : Nat) : Int) := Int.ofNat_lt.2 (Nat.mul_pos (Nat.pos_of_ne_zero hn) (Nat.two_pow_pos _))
    have sp : s = decide (p < 0) := by
      unfold sv at a3
      cases s
      · rw [if_neg (by decide)] at a3
        rw [a3] at pm
        have := Int.pos_of_mul_pos_left pm (u0 _)
        simp; omega
      · rw [if_pos rfl] at a3
        have : 0 < -p * ((2 ^ (4400 - e) : Nat) : Int) := by rw [Int.neg_mul, ← a3]; omega
        have := Int.pos_of_mul_pos_left this (u0 _)
        simp; omega
    have tq : t = decide (q < 0) := by
      unfold sv at b3
      cases t
      · rw [if_neg (by decide)] at b3
        rw [b3] at pn
        have := Int.pos_of_mul_pos_left pn (u0 _)
        simp; omega
      · rw [if_pos rfl] at b3
        have : 0 < -q * ((2 ^ (4400 - f) : Nat) : Int) := by rw [Int.neg_mul, ← b3]; omega
        have := Int.pos_of_mul_pos_left this (u0 _)
        simp; omega
    rw [sp, tq]
    exact sign_div (u0 e) (u0 (f + g)) hr hq
  have fin : 2 * c * 2 ^ (i - j - more - 1 + 4400).toNat = r.natAbs * 2 ^ (4400 - g) := by
    refine Nat.eq_of_mul_eq_mul_right (Nat.two_pow_pos (g + (j + 4400).toNat + more)) ?_
    obtain ⟨K, hK⟩ : ∃ K : Nat, K = 4400 := ⟨_, rfl⟩
    calc 2 * c * 2 ^ (i - j - more - 1 + 4400).toNat * 2 ^ (g + (j + 4400).toNat + more) = c * 2 ^ ((i + 4400).toNat + g) * 2 ^ K := by
          rw [show 2 * c = c * 2 ^ 1 by omega, Nat.mul_assoc, Nat.mul_assoc, ← Nat.pow_add, ← Nat.pow_add, Nat.mul_assoc, ← Nat.pow_add]; congr 2; omega
      _ = r.natAbs * 2 ^ ((j + 4400).toNat + more) * 2 ^ K := by rw [c2]
      _ = r.natAbs * 2 ^ (4400 - g) * 2 ^ (g + (j + 4400).toNat + more) := by
          rw [Nat.mul_assoc, ← Nat.pow_add, Nat.mul_assoc, ← Nat.pow_add]; congr 2; omega
  unfold sv
  rw [fin, Int.natCast_mul]
  rcases hs with hs | hs
  · rw [hs]
    by_cases z : r < 0
    · rw [if_pos (decide_eq_true z), ← Int.neg_mul]; congr 1; omega
    · rw [if_neg (by simp; omega)]; congr 1; omega
  · subst hs
    cases s <;> cases t <;> simp
theorem fv_bits (b : Nat) : (Op.negFloat .f64 b) / 2 ^ 63 % 2 = 1 - b / 2 ^ 63 % 2 ∧ (Op.negFloat .f64 b) % 2 ^ 63 = b % 2 ^ 63 := by
  have e : Op.negFloat .f64 b = b ^^^ 2 ^ 63 := rfl
  rw [e, Nat.xor_div_two_pow, Nat.xor_mod_two_pow]
  constructor
  · rw [show (2 ^ 63 / 2 ^ 63 : Nat) = 1 by decide]
    have hx : ∀ a : Nat, (a ^^^ 1) % 2 = 1 - a % 2 := fun a => by
      have := Nat.xor_mod_two_pow (a := a) (b := 1) (n := 1)
      rw [Nat.pow_one] at this
      rw [this]
      rcases Nat.mod_two_eq_zero_or_one a with c | c <;> rw [c] <;> rfl
    exact hx _
  · rw [show (2 ^ 63 % 2 ^ 63 : Nat) = 0 by decide, Nat.xor_zero]
theorem fv_neg {b : Nat} {q : Int} {e : Nat} (h : Fv b q e) : Fv (Op.negFloat .f64 b) (-q) e := by
  obtain ⟨s, m, i, a1, a2, a3⟩ := h
  refine ⟨!s, m, i, ?_, a2, by rw [sv_not, a3, Int.neg_mul]⟩
  obtain ⟨c1, c2⟩ := fv_bits b
  unfold Ieee.Format.read at a1 ⊢
  rw [f_sw, f_bin, f_inf, f_lp] at a1 ⊢
  rw [c1, c2]
  have hn : ((1 - b / 2 ^ 63 % 2) == 1) = !(b / 2 ^ 63 % 2 == 1) := by
    rcases Nat.mod_two_eq_zero_or_one (b / 2 ^ 63) with c | c <;> rw [c] <;> rfl
  rw [hn]
  generalize (b / 2 ^ 63 % 2 == 1) = g at *
  generalize b % 2 ^ 63 = r at *
  dsimp only at a1 ⊢
  by_cases c : r < 2 ^ 52
  · rw [if_pos c] at a1 ⊢
    injection a1 with h1 h2 h3
    rw [h1, h2, h3]
  · rw [if_neg c] at a1 ⊢
    by_cases c2 : r < 2047 * 2 ^ 52
    · rw [if_pos c2] at a1 ⊢
      injection a1 with h1 h2 h3
      rw [h1, h2, h3]
    · rw [if_neg c2] at a1
      by_cases c3 : r = 2047 * 2 ^ 52
      · rw [if_pos c3] at a1; exact absurd a1 (by simp)
      · rw [if_neg c3] at a1; exact absurd a1 (by simp)
theorem fv_abs {b : Nat} {q : Int} {e : Nat} (h : Fv b q e) : Fv (b % 9223372036854775808) (q.natAbs : Int) e := by
  obtain ⟨s, m, i, a1, a2, a3⟩ := h
  refine ⟨false, m, i, ?_, a2, ?_⟩
  · unfold Ieee.Format.read at a1 ⊢
    rw [f_sw, f_bin, f_inf, f_lp] at a1 ⊢
    have e1 : b % 9223372036854775808 / 2 ^ 63 % 2 = 0 := by omega
    have e2 : b % 9223372036854775808 % 2 ^ 63 = b % 2 ^ 63 := by omega
    rw [e1, e2]
    generalize (b / 2 ^ 63 % 2 == 1) = g at *
    generalize b % 2 ^ 63 = r at *
    dsimp only at a1 ⊢
    by_cases c : r < 2 ^ 52
    · rw [if_pos c] at a1 ⊢
      injection a1 with h1 h2 h3
      rw [h2, h3]; rfl
    · rw [if_neg c] at a1 ⊢
      by_cases c2 : r < 2047 * 2 ^ 52
      · rw [if_pos c2] at a1 ⊢
        injection a1 with h1 h2 h3
        rw [h2, h3]; rfl
      · rw [if_neg c2] at a1
        by_cases c3 : r = 2047 * 2 ^ 52
        · rw [if_pos c3] at a1; exact absurd a1 (by simp)
        · rw [if_neg c3] at a1; exact absurd a1 (by simp)
  · have := congrArg Int.natAbs a3
    rw [sv_abs, Int.natAbs_mul, Int.natAbs_natCast] at this
    unfold sv
    rw [if_neg (by decide), this, Int.natCast_mul]
theorem fv_big : ∃ M : Int, 9007199254740992 ≤ M ∧ Fv 9218868437227405311 M 0 :=
  ⟨((9007199254740991 * 2 ^ 971 : Nat) : Int), by decide +kernel, fv_of _ false 9007199254740991 971 _ 0 (by decide +kernel) (by decide) (by decide +kernel)⟩
theorem fv_notinf {b : Nat} {q : Int} {e : Nat} (he : e ≤ 1074) (h : Fv b q e) (hq : q.natAbs < 2 ^ 53) : (F64.order (b % 9223372036854775808) 9218868437227405311 == some .gt) = false := by
  obtain ⟨M, hM, hf⟩ := fv_big
  have hf2 := fv_up e (by omega) hf
  rw [Nat.zero_add] at hf2
  rw [fv_order (fv_abs h) hf2]
  have hp : (1 : Int) ≤ ((2 ^ e : Nat) : Int) := Int.ofNat_le.2 (Nat.two_pow_pos e)
  have hlt : (q.natAbs : Int) < M * ((2 ^ e : Nat) : Int) := by
    have := Int.mul_le_mul_of_nonneg_left hp (show 0 ≤ M by omega)
    omega
  rw [Int.compare_eq_lt.2 hlt]; rfl
theorem fv_notnan {b : Nat} {q : Int} {e : Nat} (h : Fv b q e) : (F64.order b b != some .eq) = false := by
  rw [bne, fv_eq h h]; simp
theorem at_ok {l : List Int} (hb : Bytes l) (hl : l.length ≤ 1048576) {i : Int} (h0 : 0 ≤ i) (h1 : i ≤ 1000000000) : laws_at.f l i = some (atV l i) := at_some hb hl h0 h1
theorem fv_gt {x y : Nat} {q r : Int} {e : Nat} (h1 : Fv x q e) (h2 : Fv y r e) : (F64.order x y == some .gt) = decide (r < q) := by
  rw [fv_order h1 h2]
  rcases Int.lt_trichotomy q r with c | c | c
  · rw [Int.compare_eq_lt.2 c, decide_eq_false (by omega)]; rfl
  · rw [Int.compare_eq_eq.2 c, decide_eq_false (by omega)]; rfl
  · rw [Int.compare_eq_gt.2 c, decide_eq_true c]; rfl
theorem fv_lt {x y : Nat} {q r : Int} {e : Nat} (h1 : Fv x q e) (h2 : Fv y r e) : (F64.order x y == some .lt) = decide (q < r) := by
  rw [fv_order h1 h2]
  rcases Int.lt_trichotomy q r with c | c | c
  · rw [Int.compare_eq_lt.2 c, decide_eq_true c]; rfl
  · rw [Int.compare_eq_eq.2 c, decide_eq_false (by omega)]; rfl
  · rw [Int.compare_eq_gt.2 c, decide_eq_false (by omega)]; rfl
theorem fv_ne {x y : Nat} {q r : Int} {e : Nat} (h1 : Fv x q e) (h2 : Fv y r e) (h : q = r) : (F64.order x y != some .eq) = false := by
  rw [bne, fv_eq h1 h2, decide_eq_true h]; rfl
theorem fv_cast {x : Nat} {q r : Int} {e f : Nat} (h : Fv x q e) (hq : q = r) (he : e = f) : Fv x r f := by subst hq; subst he; exact h
theorem fv_4 : Fv 4616189618054758400 4 0 := fv_of _ false 4503599627370496 (-50) 4 0 (by decide +kernel) (by decide) (by decide +kernel)
theorem fv_3 : Fv 4613937818241073152 3 0 := fv_of _ false 6755399441055744 (-51) 3 0 (by decide +kernel) (by decide) (by decide +kernel)
/-- Whole numbers told in quarters. -/
theorem fv_q {x : Nat} {q : Int} (h : Fv x q 0) : Fv x (q * 4) 2 := fv_up 2 (by omega) h
theorem by_ok {x y : Nat} {q r : Int} {e f : Nat} (he : e + f ≤ 1074) (h1 : Fv x q e) (h2 : Fv y r f) (hb : (q * r).natAbs < 2 ^ 53) : ∃ b, impl_by.f x y = some b ∧ Fv b (q * r) (e + f) := by
  obtain ⟨b, h, hf⟩ := fv_mul he h1 h2 hb
  refine ⟨b, ?_, hf⟩
  unfold impl_by.f
  rw [h]; rfl
theorem times_ok {x y z u : Nat} {a b c d : Int} (h1 : Fv x a 0) (h2 : Fv y b 0) (h3 : Fv z c 0) (h4 : Fv u d 0)
    (b1 : (a * c).natAbs < 2 ^ 50) (b2 : (b * d).natAbs < 2 ^ 50) (b3 : (a * d).natAbs < 2 ^ 50) (b4 : (b * c).natAbs < 2 ^ 50) :
    ∃ p q, impl_Times.f x y z u = some (p, q) ∧ Fv p (a * c - b * d) 0 ∧ Fv q (a * d + b * c) 0 := by
  obtain ⟨t1, e1, f1⟩ := by_ok (by omega) h1 h3 (by omega)
  obtain ⟨t2, e2, f2⟩ := by_ok (by omega) h2 h4 (by omega)
  obtain ⟨t3, e3, f3⟩ := by_ok (by omega) h1 h4 (by omega)
  obtain ⟨t4, e4, f4⟩ := by_ok (by omega) h2 h3 (by omega)
  obtain ⟨p, e5, f5⟩ := fv_sub (by omega) f1 f2 (by omega)
  obtain ⟨q, e6, f6⟩ := fv_add (by omega) f3 f4 (by omega)
  refine ⟨p, q, ?_, f5, f6⟩
  unfold impl_Times.f
  rw [e1, Option.bind_some, e2, Option.bind_some, e5, if_pos (by rfl), e3, Option.bind_some, e4, Option.bind_some, e6, if_pos (by rfl)]
  rfl
/-! ### rows of floats -/
theorem rdF_set_eq {l : List Nat} {i : Int} {x : Nat} (h0 : 0 ≤ i) (h1 : i < l.length) : rdOf (0 : Nat) (l.set i.toNat x) i = x := by
  simp [rdOf, List.getD_eq_getElem?_getD, List.getElem?_set, show i.toNat < l.length by omega]
theorem rdF_set_ne {l : List Nat} {i j : Int} {x : Nat} (h0 : 0 ≤ i) (hj : 0 ≤ j) (h : i ≠ j) : rdOf (0 : Nat) (l.set i.toNat x) j = rdOf (0 : Nat) l j := by
  simp [rdOf, List.getD_eq_getElem?_getD, List.getElem?_set, show ¬ i.toNat = j.toNat by omega]
theorem rdB_set_eq {l : List Bool} {i : Int} {x : Bool} (h0 : 0 ≤ i) (h1 : i < l.length) : rdOf false (l.set i.toNat x) i = x := by
  simp [rdOf, List.getD_eq_getElem?_getD, List.getElem?_set, show i.toNat < l.length by omega]
theorem rdB_set_ne {l : List Bool} {i j : Int} {x : Bool} (h0 : 0 ≤ i) (hj : 0 ≤ j) (h : i ≠ j) : rdOf false (l.set i.toNat x) j = rdOf false l j := by
  simp [rdOf, List.getD_eq_getElem?_getD, List.getElem?_set, show ¬ i.toNat = j.toNat by omega]
/-! ### a harmonic that stands, and one of nought -/
def hA (s t : Nat) : List S42 := [⟨⟨s, t⟩, ⟨4607182418800017408, 0⟩⟩, ⟨⟨0, 0⟩, ⟨0, 0⟩⟩]
def hB (s t : Nat) : List S42 := [⟨⟨s, t⟩, ⟨0, 4607182418800017408⟩⟩]
theorem stepA {x s t : Nat} {M a b : Int} (hx : Fv x M 2) (hM : M.natAbs ≤ 1000) {p q u v : Nat} (hp : Fv p a 0) (hq : Fv q b 0) (hu : Fv u 0 0) (hv : Fv v 0 0) (ha : a.natAbs ≤ 1000) (hb : b.natAbs ≤ 1000)
    (out : List Nat) (ho : out.length = 9) (m : Int) (h0 : 0 ≤ m) (h1 : m < 9) (k : Nat) :
    ∃ p' q' u' v' y, Fv p' a 0 ∧ Fv q' b 0 ∧ Fv u' 0 0 ∧ Fv v' 0 0 ∧ Fv y (M + a * 4) 2 ∧
      impl_TideDay.l2 (k + 3) x (hA s t) [⟨p, q⟩, ⟨u, v⟩] (out.set m.toNat x) m 9 m (hA s t) 2 0 = impl_TideDay.l1 k x (hA s t) [⟨p', q'⟩, ⟨u', v'⟩] (out.set m.toNat y) 9 (m + 1) := by
  obtain ⟨y1, e1, f1⟩ := fv_add (by omega) hx (fv_q hp) (by omega)
  obtain ⟨y2, e2, f2⟩ := fv_add (by omega) f1 (fv_q hu) (by omega)
  obtain ⟨p', q', e3, f3, f4⟩ := times_ok hp hq fv_1 fv_0 (by omega) (by omega) (by omega) (by omega)
  obtain ⟨u', v', e4, f5, f6⟩ := times_ok hu hv fv_0 fv_0 (by omega) (by omega) (by omega) (by omega)
  refine ⟨p', q', u', v', y2, fv_cast f3 (by omega) rfl, fv_cast f4 (by omega) rfl, fv_cast f5 (by omega) rfl, fv_cast f6 (by omega) rfl, fv_cast f2 (by omega) rfl, ?_⟩
  have rA0 : rd_T42 (hA s t) 0 = ⟨⟨s, t⟩, ⟨4607182418800017408, 0⟩⟩ := rfl
  have rA1 : rd_T42 (hA s t) 1 = ⟨⟨0, 0⟩, ⟨0, 0⟩⟩ := rfl
  have lA : (hA s t).length = 2 := rfl
  rw [show k + 3 = (k + 2) + 1 from rfl, impl_TideDay.l2, if_pos (by omega), if_pos (by omega), if_pos (by rw [lA]; omega), if_pos h0, if_pos (by rw [List.length_set]; omega), if_pos (by simp), rdF_set_eq h0 (by omega), rA0]
  rw [show (rd_T28 [⟨p, q⟩, ⟨u, v⟩] 0) = ⟨p, q⟩ from rfl]
  rw [e1, if_pos (by rfl), e3, Option.bind_some, w64 (x := (0 : Int) + 1) (by omega) (by omega), show (some y1).getD 0 = y1 from rfl]
  rw [show ([⟨p, q⟩, ⟨u, v⟩] : List S28).set (0 : Int).toNat ⟨p', q'⟩ = [⟨p', q'⟩, ⟨u, v⟩] from rfl, List.set_set]
  rw [show k + 2 = (k + 1) + 1 from rfl, show (0 : Int) + 1 = 1 from rfl, impl_TideDay.l2, if_pos (by omega), if_pos (by omega), if_pos (by rw [lA]; omega), if_pos h0, if_pos (by rw [List.length_set]; omega), if_pos (by simp), rdF_set_eq h0 (by omega), rA1]
  rw [show (rd_T28 [⟨p', q'⟩, ⟨u, v⟩] 1) = ⟨u, v⟩ from rfl]
  rw [e2, if_pos (by rfl), e4, Option.bind_some, w64 (x := (1 : Int) + 1) (by omega) (by omega), show (some y2).getD 0 = y2 from rfl]
  rw [show ([⟨p', q'⟩, ⟨u, v⟩] : List S28).set (1 : Int).toNat ⟨u', v'⟩ = [⟨p', q'⟩, ⟨u', v'⟩] from rfl, List.set_set]
  rw [impl_TideDay.l2, if_neg (by omega), w64 (x := m + 1) (by omega) (by omega)]
theorem loopA {x s t : Nat} {M a b : Int} (hx : Fv x M 2) (hM : M.natAbs ≤ 1000) (ha : a.natAbs ≤ 1000) (hb : b.natAbs ≤ 1000) (d : Nat) : ∀ (m : Int), 0 ≤ m → m + d = 9 → ∀ (p q u v : Nat) (out : List Nat), Fv p a 0 → Fv q b 0 → Fv u 0 0 → Fv v 0 0 → out.length = 9 →
    (∀ j : Int, 0 ≤ j → j < m → Fv (rdOf (0 : Nat) out j) (M + a * 4) 2) → ∀ k, 4 * d < k →
    ∃ r, impl_TideDay.l1 k x (hA s t) [⟨p, q⟩, ⟨u, v⟩] out 9 m = some (r, true) ∧ r.length = 9 ∧ ∀ j : Int, 0 ≤ j → j < 9 → Fv (rdOf (0 : Nat) r j) (M + a * 4) 2 := by
  induction d with
  | zero =>
    intro m h0 h1 p q u v out hp hq hu hv ho hj k hk
    obtain ⟨k, rfl⟩ := pos_round (show 0 < k by omega)
    rw [impl_TideDay.l1, if_neg (by omega)]
    exact ⟨out, rfl, ho, fun j j0 j1 => hj j j0 (by omega)⟩
  | succ d ih =>
    intro m h0 h1 p q u v out hp hq hu hv ho hj k hk
    obtain ⟨k, rfl⟩ : ∃ z, k = z + 3 + 1 := ⟨k - 4, by omega⟩
    obtain ⟨p', q', u', v', y, g1, g2, g3, g4, g5, e⟩ := stepA (s := s) (t := t) hx hM hp hq hu hv ha hb out ho m h0 (by omega) k
    obtain ⟨r, e2, r1, r2⟩ := ih (m + 1) (by omega) (by omega) p' q' u' v' (out.set m.toNat y) g1 g2 g3 g4 (by rw [List.length_set]; exact ho) (fun j j0 j1 => by
      by_cases c : j = m
      · subst c; rw [rdF_set_eq h0 (by omega)]; exact g5
      · rw [rdF_set_ne h0 j0 (Ne.symm c)]; exact hj j j0 (by omega)) k (by omega)
    refine ⟨r, ?_, r1, r2⟩
    rw [impl_TideDay.l1, if_pos (by omega), if_pos h0, if_pos (by omega)]
    exact e.trans e2
theorem in_9 : impl_in.f 9 0 1500 = some true := by decide
theorem dayA {x s t : Nat} {M a b : Int} (hx : Fv x M 2) (hM : M.natAbs ≤ 1000) (hs : Fv s a 0) (ht : Fv t b 0) (ha : a.natAbs ≤ 1000) (hb : b.natAbs ≤ 1000) (k : Nat) (hk : 50 < k) :
    ∃ r, impl_TideDay.f k x (hA s t) 9 = some (r, true) ∧ r.length = 9 ∧ ∀ j : Int, 0 ≤ j → j < 9 → Fv (rdOf (0 : Nat) r j) (M + a * 4) 2 := by
  obtain ⟨k, rfl⟩ : ∃ z, k = z + 1 + 1 + 1 + 1 := ⟨k - 4, by omega⟩
  obtain ⟨r, e, r1, r2⟩ := loopA (s := s) (t := t) hx hM ha hb 9 0 (by omega) (by omega) s t 0 0 (List.replicate 9 0) hs ht fv_0 fv_0 (by simp) (fun j j0 j1 => by omega) k (by omega)
  refine ⟨r, ?_, r1, r2⟩
  have lA : (hA s t).length = 2 := rfl
  unfold impl_TideDay.f
  rw [lA, if_neg (by omega), in_9, Option.bind_some, impl_TideDay.j0, if_neg (by decide), lA]
  rw [impl_TideDay.l0, if_pos (by omega), if_pos (by omega), if_pos (by rw [lA]; omega), if_pos (by simp), w64 (x := (0 : Int) + 1) (by omega) (by omega)]
  rw [impl_TideDay.l0, if_pos (by omega), if_pos (by omega), if_pos (by rw [lA]; omega), if_pos (by simp), w64 (x := (0 : Int) + 1 + 1) (by omega) (by omega)]
  rw [impl_TideDay.l0, if_neg (by omega), if_pos (by omega), if_pos (by decide), Option.bind_some]
  exact e
/-! ### one that turns by a quarter -/
def ph (a b : Int) : Nat → Int × Int
  | 0 => (a, b)
  | m + 1 => (-(ph a b m).2, (ph a b m).1)
theorem ph_le {a b : Int} (ha : a.natAbs ≤ 1000) (hb : b.natAbs ≤ 1000) (m : Nat) : (ph a b m).1.natAbs ≤ 1000 ∧ (ph a b m).2.natAbs ≤ 1000 := by
  induction m with
  | zero => exact ⟨ha, hb⟩
  | succ m ih => simp only [ph]; omega
theorem stepB {x s t : Nat} {M a b : Int} (hx : Fv x M 2) (hM : M.natAbs ≤ 1000) {p q : Nat} (hp : Fv p a 0) (hq : Fv q b 0) (ha : a.natAbs ≤ 1000) (hb : b.natAbs ≤ 1000)
    (out : List Nat) (ho : out.length = 9) (m : Int) (h0 : 0 ≤ m) (h1 : m < 9) (k : Nat) :
    ∃ p' q' y, Fv p' (-b) 0 ∧ Fv q' a 0 ∧ Fv y (M + a * 4) 2 ∧
      impl_TideDay.l2 (k + 2) x (hB s t) [⟨p, q⟩] (out.set m.toNat x) m 9 m (hB s t) 1 0 = impl_TideDay.l1 k x (hB s t) [⟨p', q'⟩] (out.set m.toNat y) 9 (m + 1) := by
  obtain ⟨y1, e1, f1⟩ := fv_add (by omega) hx (fv_q hp) (by omega)
  obtain ⟨p', q', e3, f3, f4⟩ := times_ok hp hq fv_0 fv_1 (by omega) (by omega) (by omega) (by omega)
  refine ⟨p', q', y1, fv_cast f3 (by omega) rfl, fv_cast f4 (by omega) rfl, f1, ?_⟩
  have rB0 : rd_T42 (hB s t) 0 = ⟨⟨s, t⟩, ⟨0, 4607182418800017408⟩⟩ := rfl
  have lB : (hB s t).length = 1 := rfl
  rw [show k + 2 = (k + 1) + 1 from rfl, impl_TideDay.l2, if_pos (by omega), if_pos (by omega), if_pos (by rw [lB]; omega), if_pos h0, if_pos (by rw [List.length_set]; omega), if_pos (by simp), rdF_set_eq h0 (by omega), rB0]
  rw [show (rd_T28 [⟨p, q⟩] 0) = ⟨p, q⟩ from rfl]
  rw [e1, if_pos (by rfl), e3, Option.bind_some, w64 (x := (0 : Int) + 1) (by omega) (by omega), show (some y1).getD 0 = y1 from rfl]
  rw [show ([⟨p, q⟩] : List S28).set (0 : Int).toNat ⟨p', q'⟩ = [⟨p', q'⟩] from rfl, List.set_set]
  rw [impl_TideDay.l2, if_neg (by omega), w64 (x := m + 1) (by omega) (by omega)]
theorem loopB {x s t : Nat} {M a b : Int} (hx : Fv x M 2) (hM : M.natAbs ≤ 1000) (ha : a.natAbs ≤ 1000) (hb : b.natAbs ≤ 1000) (d : Nat) : ∀ (m : Nat), m + d = 9 → ∀ (p q : Nat) (out : List Nat), Fv p (ph a b m).1 0 → Fv q (ph a b m).2 0 → out.length = 9 →
    (∀ j : Nat, j < m → Fv (rdOf (0 : Nat) out (j : Int)) (M + (ph a b j).1 * 4) 2) → ∀ k, 3 * d < k →
    ∃ r, impl_TideDay.l1 k x (hB s t) [⟨p, q⟩] out 9 (m : Int) = some (r, true) ∧ r.length = 9 ∧ ∀ j : Nat, j < 9 → Fv (rdOf (0 : Nat) r (j : Int)) (M + (ph a b j).1 * 4) 2 := by
  induction d with
  | zero =>
    intro m h1 p q out hp hq ho hj k hk
    obtain ⟨k, rfl⟩ := pos_round (show 0 < k by omega)
    rw [impl_TideDay.l1, if_neg (by omega)]
    exact ⟨out, rfl, ho, fun j j1 => hj j (by omega)⟩
  | succ d ih =>
    intro m h1 p q out hp hq ho hj k hk
    obtain ⟨k, rfl⟩ : ∃ z, k = z + 2 + 1 := ⟨k - 3, by omega⟩
    have hl := ph_le ha hb m
    obtain ⟨p', q', y, g1, g2, g5, e⟩ := stepB (s := s) (t := t) hx hM hp hq hl.1 hl.2 out ho m (by omega) (by omega) k
    obtain ⟨r, e2, r1, r2⟩ := ih (m + 1) (by omega) p' q' (out.set (m : Int).toNat y) g1 g2 (by rw [List.length_set]; exact ho) (fun j j1 => by
      by_cases c : j = m
      · subst c; rw [rdF_set_eq (by omega) (by omega)]; exact g5
      · rw [rdF_set_ne (by omega) (by omega) (by omega)]; exact hj j (by omega)) k (by omega)
    refine ⟨r, ?_, r1, r2⟩
    rw [impl_TideDay.l1, if_pos (by omega), if_pos (by omega), if_pos (by omega)]
    exact e.trans e2
theorem dayB {x s t : Nat} {M a b : Int} (hx : Fv x M 2) (hM : M.natAbs ≤ 1000) (hs : Fv s a 0) (ht : Fv t b 0) (ha : a.natAbs ≤ 1000) (hb : b.natAbs ≤ 1000) (k : Nat) (hk : 50 < k) :
    ∃ r, impl_TideDay.f k x (hB s t) 9 = some (r, true) ∧ r.length = 9 ∧ ∀ j : Nat, j < 9 → Fv (rdOf (0 : Nat) r (j : Int)) (M + (ph a b j).1 * 4) 2 := by
  obtain ⟨k, rfl⟩ : ∃ z, k = z + 1 + 1 + 1 := ⟨k - 3, by omega⟩
  obtain ⟨r, e, r1, r2⟩ := loopB (s := s) (t := t) hx hM ha hb 9 0 (by omega) s t (List.replicate 9 0) hs ht (by simp) (fun j j1 => by omega) k (by omega)
  refine ⟨r, ?_, r1, r2⟩
  have lB : (hB s t).length = 1 := rfl
  unfold impl_TideDay.f
  rw [lB, if_neg (by omega), in_9, Option.bind_some, impl_TideDay.j0, if_neg (by decide), lB]
  rw [impl_TideDay.l0, if_pos (by omega), if_pos (by omega), if_pos (by rw [lB]; omega), if_pos (by simp), w64 (x := (0 : Int) + 1) (by omega) (by omega)]
  rw [impl_TideDay.l0, if_neg (by omega), if_pos (by omega), if_pos (by decide), Option.bind_some]
  exact e
/-! ### depths, and what is under the keel -/
theorem depths_loop {l : List Nat} (hl : l.length = 9) {v : Nat → Int} (hv : ∀ j : Nat, j < 9 → Fv (rdOf (0 : Nat) l (j : Int)) (v j) 2) (hb : ∀ j, (v j).natAbs ≤ 10000) (d : Nat) : ∀ (m : Nat), m + d = 9 → ∀ (out : List Nat), out.length = 9 →
    (∀ j : Nat, j < m → Fv (rdOf (0 : Nat) out (j : Int)) (v j + 12) 2) → ∀ k, d < k →
    ∃ r, impl_Depths.l0 k 4613937818241073152 out l 9 (m : Int) = some r ∧ r.length = 9 ∧ ∀ j : Nat, j < 9 → Fv (rdOf (0 : Nat) r (j : Int)) (v j + 12) 2 := by
  induction d with
  | zero =>
    intro m h1 out ho hj k hk
    obtain ⟨k, rfl⟩ := pos_round (show 0 < k by omega)
    rw [impl_Depths.l0, if_neg (by omega)]
    exact ⟨out, rfl, ho, fun j j1 => hj j (by omega)⟩
  | succ d ih =>
    intro m h1 out ho hj k hk
    obtain ⟨k, rfl⟩ := pos_round (show 0 < k by omega)
    have hb' := hb m
    obtain ⟨y, e, f⟩ := fv_add (by omega) (hv m (by omega)) (fv_q fv_3) (by omega)
    obtain ⟨r, e2, r1, r2⟩ := ih (m + 1) (by omega) (out.set (m : Int).toNat y) (by rw [List.length_set]; exact ho) (fun j j1 => by
      by_cases c : j = m
      · subst c; rw [rdF_set_eq (by omega) (by omega)]; exact f
      · rw [rdF_set_ne (by omega) (by omega) (by omega)]; exact hj j (by omega)) k (by omega)
    refine ⟨r, ?_, r1, r2⟩
    rw [impl_Depths.l0, if_pos (by omega), if_pos (by omega), if_pos (by omega), e, if_pos (by rfl), if_pos (by omega), w64 (x := (m : Int) + 1) (by omega) (by omega)]
    exact e2
theorem depths_ok {l : List Nat} (hl : l.length = 9) {v : Nat → Int} (hv : ∀ j : Nat, j < 9 → Fv (rdOf (0 : Nat) l (j : Int)) (v j) 2) (hb : ∀ j, (v j).natAbs ≤ 10000) (k : Nat) (hk : 20 < k) :
    ∃ r, impl_Depths.f k l 4613937818241073152 = some r ∧ r.length = 9 ∧ ∀ j : Nat, j < 9 → Fv (rdOf (0 : Nat) r (j : Int)) (v j + 12) 2 := by
  unfold impl_Depths.f
  rw [hl, if_neg (by omega), if_pos (by omega), if_pos (by decide)]
  exact depths_loop hl hv hb 9 0 (by omega) _ (by simp) (fun j j1 => by omega) k (by omega)
/-- What a depth is found to be. -/
def keelV (x : Nat) : Bool :=
  (FloatKind.f64.format.order ((floatBits .sub .f64 ((floatBits .sub .f64 x (4607182418800017408 : Nat)).getD 0) (4602678819172646912 : Nat)).getD 0) 4611686018427387904 == some .gt || FloatKind.f64.format.order ((floatBits .sub .f64 ((floatBits .sub .f64 x (4607182418800017408 : Nat)).getD 0) (4602678819172646912 : Nat)).getD 0) 4611686018427387904 == some .eq)
theorem keel_some {x : Nat} {q : Int} (h : Fv x q 2) (hq : q.natAbs ≤ 100000) : (floatBits .sub .f64 x (4607182418800017408 : Nat)).isSome = true ∧ (floatBits .sub .f64 ((floatBits .sub .f64 x (4607182418800017408 : Nat)).getD 0) (4602678819172646912 : Nat)).isSome = true := by
  obtain ⟨y, e, f⟩ := fv_sub (by omega) h (fv_q fv_1) (by omega)
  obtain ⟨z, e2, f2⟩ := fv_sub (by omega) f (fv_up 1 (by omega) fv_half) (by omega)
  rw [e]
  refine ⟨rfl, ?_⟩
  rw [show (some y).getD 0 = y from rfl, e2]; rfl
theorem keel_loop {l : List Nat} (hl : l.length = 9) {v : Nat → Int} (hv : ∀ j : Nat, j < 9 → Fv (rdOf (0 : Nat) l (j : Int)) (v j) 2) (hb : ∀ j, (v j).natAbs ≤ 100000) (d : Nat) : ∀ (m : Nat), m + d = 9 → ∀ (out : List Bool), out.length = 9 →
    (∀ j : Nat, j < m → rdOf false out (j : Int) = keelV (rdOf (0 : Nat) l (j : Int))) → ∀ k, d < k →
    ∃ r, impl_UnderKeel.l0 k 4607182418800017408 4602678819172646912 4611686018427387904 out l 9 (m : Int) = some r ∧ r.length = 9 ∧ ∀ j : Nat, j < 9 → rdOf false r (j : Int) = keelV (rdOf (0 : Nat) l (j : Int)) := by
  induction d with
  | zero =>
    intro m h1 out ho hj k hk
    obtain ⟨k, rfl⟩ := pos_round (show 0 < k by omega)
    rw [impl_UnderKeel.l0, if_neg (by omega)]
    exact ⟨out, rfl, ho, fun j j1 => hj j (by omega)⟩
  | succ d ih =>
    intro m h1 out ho hj k hk
    obtain ⟨k, rfl⟩ := pos_round (show 0 < k by omega)
    obtain ⟨s1, s2⟩ := keel_some (hv m (by omega)) (hb m)
    obtain ⟨r, e2, r1, r2⟩ := ih (m + 1) (by omega) (out.set (m : Int).toNat (keelV (rdOf (0 : Nat) l (m : Int)))) (by rw [List.length_set]; exact ho) (fun j j1 => by
      by_cases c : j = m
      · subst c; rw [rdB_set_eq (by omega) (by omega)]
      · rw [rdB_set_ne (by omega) (by omega) (by omega)]; exact hj j (by omega)) k (by omega)
    refine ⟨r, ?_, r1, r2⟩
    rw [impl_UnderKeel.l0, if_pos (by omega), if_pos (by omega), if_pos (by omega), if_pos s1, if_pos s2, if_pos (by omega), w64 (x := (m : Int) + 1) (by omega) (by omega)]
    exact e2
theorem keel_ok {l : List Nat} (hl : l.length = 9) {v : Nat → Int} (hv : ∀ j : Nat, j < 9 → Fv (rdOf (0 : Nat) l (j : Int)) (v j) 2) (hb : ∀ j, (v j).natAbs ≤ 100000) (k : Nat) (hk : 20 < k) :
    ∃ r, impl_UnderKeel.f k l 4607182418800017408 4602678819172646912 4611686018427387904 = some r ∧ r.length = 9 ∧ ∀ j : Nat, j < 9 → rdOf false r (j : Int) = keelV (rdOf (0 : Nat) l (j : Int)) := by
  unfold impl_UnderKeel.f
  rw [hl, if_neg (by omega), if_pos (by omega), if_pos (by decide)]
  exact keel_loop hl hv hb 9 0 (by omega) _ (by simp) (fun j j1 => by omega) k (by omega)
/-! ### the highs and lows -/
theorem own_int (l : List Int) (h : l.length ≤ 1000000) : impl_own_int.f l = some l := by
  unfold impl_own_int.f
  rw [if_pos (by omega), if_pos (by omega), Option.bind_some, if_pos (by simp; omega)]; rfl
theorem pick4 {α : Type} (a b c d : Bool) (A B : α) : (if a = true then (if b = true then A else (if c = true then (if d = true then A else B) else B)) else (if c = true then (if d = true then A else B) else B)) = if ((a && b) || (c && d)) = true then A else B := by
  cases a <;> cases b <;> cases c <;> cases d <;> rfl
/-- Whether a place is told. -/
def turn (l : List Nat) (i : Int) : Bool :=
  ((FloatKind.f64.format.order (rdOf (0 : Nat) l i) (rdOf (0 : Nat) l (i - 1)) == some .gt) && (FloatKind.f64.format.order (rdOf (0 : Nat) l i) (rdOf (0 : Nat) l (i + 1)) == some .gt || FloatKind.f64.format.order (rdOf (0 : Nat) l i) (rdOf (0 : Nat) l (i + 1)) == some .eq)) ||
  ((FloatKind.f64.format.order (rdOf (0 : Nat) l i) (rdOf (0 : Nat) l (i - 1)) == some .lt) && (FloatKind.f64.format.order (rdOf (0 : Nat) l i) (rdOf (0 : Nat) l (i + 1)) == some .lt || FloatKind.f64.format.order (rdOf (0 : Nat) l i) (rdOf (0 : Nat) l (i + 1)) == some .eq))
theorem impl_step (l : List Nat) (hn : l.length ≤ 1500) (out : List Int) (ho : out.length ≤ 2000) (i : Int) (h1 : 1 ≤ i) (h2 : i < (l.length : Int) - 1) (k : Nat) : impl_HighLow.l0 (k + 1) l out i = if turn l i = true then impl_HighLow.l0 k l (out ++ [i]) (i + 1) else impl_HighLow.l0 k l out (i + 1) := by
  rw [impl_HighLow.l0, w64 (x := (l.length : Int) - 1) (by omega) (by omega), if_pos h2, if_pos (by omega), if_pos (by omega), w64 (x := i - 1) (by omega) (by omega), if_pos (by omega), if_pos (by omega), w64 (x := i + 1) (by omega) (by omega), if_pos (by omega), if_pos (by omega), if_pos (show out.length < 17592186044416 by omega), pick4]
  rfl
theorem hl_loop (l : List Nat) (hl : l.length = 9) (d : Nat) : ∀ (out : List Int) (i : Int), 1 ≤ i → i + d = 8 → out.length + d ≤ 8 → ∀ k, d < k →
    ∃ r, impl_HighLow.l0 k l out i = some r ∧ out.length ≤ r.length ∧ ∀ j : Int, i ≤ j → j < 8 → turn l j = true → out.length < r.length := by
  induction d with
  | zero =>
    intro out i h1 h2 ho k hk
    obtain ⟨k, rfl⟩ := pos_round (show 0 < k by omega)
    rw [impl_HighLow.l0, w64 (x := (l.length : Int) - 1) (by omega) (by omega), if_neg (by omega), own_int out (by omega), Option.bind_some]
    exact ⟨out, rfl, by omega, fun j j0 j1 => by omega⟩
  | succ d ih =>
    intro out i h1 h2 ho k hk
    obtain ⟨k, rfl⟩ := pos_round (show 0 < k by omega)
    rw [impl_step l (by omega) out (by omega) i h1 (by omega)]
    by_cases c : turn l i = true
    · rw [if_pos c]
      obtain ⟨r, e, r1, r2⟩ := ih (out ++ [i]) (i + 1) (by omega) (by omega) (by simp; omega) k (by omega)
      simp only [List.length_append, List.length_cons, List.length_nil] at r1
      exact ⟨r, e, by omega, fun j _ _ _ => by omega⟩
    · rw [if_neg c]
      obtain ⟨r, e, r1, r2⟩ := ih out (i + 1) (by omega) (by omega) (by omega) k (by omega)
      refine ⟨r, e, r1, fun j j0 j1 jt => ?_⟩
      by_cases z : j = i
      · subst z; exact absurd jt c
      · exact r2 j (by omega) j1 jt
theorem high_ok {l : List Nat} (hl : l.length = 9) {M a b : Int} (ha : 0 ≤ a) (hb : 0 ≤ b) (hv : ∀ j : Nat, j < 9 → Fv (rdOf (0 : Nat) l (j : Int)) (M + (ph a b j).1 * 4) 2) (k : Nat) (hk : 20 < k) :
    ∃ r, impl_HighLow.f k l = some r ∧ (a ≠ 0 ∨ b ≠ 0 → 0 < r.length) := by
  obtain ⟨r, e, _, r2⟩ := hl_loop l hl 7 [] 1 (by omega) (by omega) (by simp) k (by omega)
  refine ⟨r, ?_, fun hab => ?_⟩
  · unfold impl_HighLow.f
    rw [hl, if_neg (by omega)]
    exact e
  · have v0 : Fv (rdOf (0 : Nat) l 0) (M + a * 4) 2 := hv 0 (by omega)
    have v1 : Fv (rdOf (0 : Nat) l 1) (M + -b * 4) 2 := hv 1 (by omega)
    have v2 : Fv (rdOf (0 : Nat) l 2) (M + -a * 4) 2 := hv 2 (by omega)
    have v3 : Fv (rdOf (0 : Nat) l 3) (M + - -b * 4) 2 := hv 3 (by omega)
    by_cases c : b < a
    · refine r2 2 (by omega) (by omega) ?_
      unfold turn
      rw [show (2 : Int) - 1 = 1 from rfl, show (2 : Int) + 1 = 3 from rfl, fv_gt v2 v1, fv_gt v2 v3, fv_eq v2 v3, fv_lt v2 v1, fv_lt v2 v3, decide_eq_true (show M + -a * 4 < M + -b * 4 by omega), decide_eq_true (show M + -a * 4 < M + - -b * 4 by omega)]
      simp
    · refine r2 1 (by omega) (by omega) ?_
      unfold turn
      rw [show (1 : Int) - 1 = 0 from rfl, show (1 : Int) + 1 = 2 from rfl, fv_gt v1 v0, fv_gt v1 v2, fv_eq v1 v2, fv_lt v1 v0, fv_lt v1 v2, decide_eq_true (show M + -b * 4 < M + a * 4 by omega)]
      by_cases z : a = b
      · subst z; simp
      · rw [decide_eq_true (show M + -b * 4 < M + -a * 4 by omega)]; simp
theorem squat_ok (k : Nat) : impl_Squat.f (k + 9) 4621819117588971520 4602678819172646912 4616189618054758400 4620693217682128896 = some (4604930618986332160, true) := by kernel_rfl
/-! ### the law -/
theorem ph_per (a b : Int) (j : Nat) (h : j < 9) : (ph a b (j % 4)).1 = (ph a b j).1 ∧ (ph a b ((j + 2) % 4)).1 = -(ph a b j).1 := by
  have : j = 0 ∨ j = 1 ∨ j = 2 ∨ j = 3 ∨ j = 4 ∨ j = 5 ∨ j = 6 ∨ j = 7 ∨ j = 8 := by omega
  rcases this with c | c | c | c | c | c | c | c | c <;> subst c <;> simp [ph]
theorem last_loop {s t : Nat} {a b M : Int} (hs : Fv s a 0) (ht : Fv t b 0) (l d : List Nat) (u : List Bool) (hi : List Int) (hl : l.length = 9) (hd : d.length = 9) (hu : u.length = 9)
    (hv : ∀ j : Nat, j < 9 → Fv (rdOf (0 : Nat) l (j : Int)) (M + (ph a b j).1 * 4) 2) (hw : ∀ j : Nat, j < 9 → Fv (rdOf (0 : Nat) d (j : Int)) (M + (ph a b j).1 * 4 + 12) 2) (hk : ∀ j : Nat, j < 9 → rdOf false u (j : Int) = keelV (rdOf (0 : Nat) d (j : Int)))
    (hb : ∀ j, (M + (ph a b j).1 * 4).natAbs ≤ 10000) (hh : a ≠ 0 ∨ b ≠ 0 → 0 < hi.length) (n : Nat) : ∀ (m : Nat), m + n = 9 → ∀ k, n + 12 < k → laws_FnTides.l1 k l d u hi (m : Int) s t = some true := by
  induction n with
  | zero =>
    intro m h1 k hk
    obtain ⟨k, rfl⟩ : ∃ z, k = (z + 9) + 1 := ⟨k - 10, by omega⟩
    rw [laws_FnTides.l1, if_neg (by omega), squat_ok, Option.bind_some, if_pos (by omega), if_pos rfl]
    rw [if_pos (by decide +kernel), fv_eq hs fv_0, fv_eq ht fv_0]
    by_cases c : a = 0
    · rw [if_pos (by simp [c])]
      by_cases c2 : b = 0
      · rw [if_pos (by simp [c2])]
      · have := hh (Or.inr c2)
        rw [if_neg (by simp [c2]), decide_eq_true (by omega)]
    · have := hh (Or.inl c)
      rw [if_neg (by simp [c]), decide_eq_true (by omega)]
  | succ n ih =>
    intro m h1 k hk'
    obtain ⟨k, rfl⟩ := pos_round (show 0 < k by omega)
    have hb' := hb m
    obtain ⟨y, e, f⟩ := fv_add (by omega) (hv m (by omega)) (fv_q fv_3) (by omega)
    obtain ⟨s1, s2⟩ := keel_some (hw m (by omega)) (by omega)
    rw [laws_FnTides.l1, if_pos (by omega), if_pos (by omega), if_pos (by omega), e, if_pos (by rfl), show (some y).getD 0 = y from rfl, fv_ne (hw m (by omega)) f (by omega), if_neg (by decide), if_pos (by omega), if_pos s1, if_pos s2, hk m (by omega)]
    rw [if_neg (by unfold keelV; simp), w64 (x := (m : Int) + 1) (by omega) (by omega)]
    exact ih (m + 1) (by omega) k (by omega)
theorem first_loop {x s t : Nat} {a b M : Int} (hx : Fv x M 2) (hM : M.natAbs ≤ 1000) (hs : Fv s a 0) (ht : Fv t b 0) (ha0 : 0 ≤ a) (hb0 : 0 ≤ b) (ha : a.natAbs ≤ 1000) (hb : b.natAbs ≤ 1000) (g l : List Nat) (hg : g.length = 9) (hl : l.length = 9)
    (hgv : ∀ j : Int, 0 ≤ j → j < 9 → Fv (rdOf (0 : Nat) g j) (M + a * 4) 2) (hv : ∀ j : Nat, j < 9 → Fv (rdOf (0 : Nat) l (j : Int)) (M + (ph a b j).1 * 4) 2) (n : Nat) : ∀ (m : Nat), m + n = 9 → ∀ k, n + 60 < k → laws_FnTides.l0 k x g l (m : Int) s t = some true := by
  have hp := ph_le ha hb
  have hvb : ∀ j, (M + (ph a b j).1 * 4).natAbs ≤ 9000 := fun j => by have := (hp j).1; omega
  induction n with
  | zero =>
    intro m h1 k hk
    obtain ⟨k, rfl⟩ : ∃ z, k = z + 1 + 1 := ⟨k - 2, by omega⟩
    obtain ⟨d, e1, d1, d2⟩ := depths_ok hl hv (fun j => by have := hvb j; omega) (k + 1) (by omega)
    obtain ⟨u, e2, u1, u2⟩ := keel_ok d1 d2 (fun j => by have := hvb j; omega) (k + 1) (by omega)
    obtain ⟨r, e3, r1⟩ := high_ok hl ha0 hb0 hv (k + 1) (by omega)
    rw [laws_FnTides.l0, if_neg (by omega), e1, Option.bind_some, e2, Option.bind_some, e3, Option.bind_some, if_pos (by omega), laws_FnTides.j2, if_neg (by simp [u1])]
    exact last_loop hs ht l d u r hl d1 u1 hv d2 u2 (fun j => by have := hvb j; omega) r1 9 0 (by omega) k (by omega)
  | succ n ih =>
    intro m h1 k hk
    obtain ⟨k, rfl⟩ := pos_round (show 0 < k by omega)
    have p1 := (hp m).1
    obtain ⟨c1, c2⟩ := ph_per a b m (by omega)
    obtain ⟨y, e, f⟩ := fv_add (by omega) hx (fv_q hs) (by omega)
    have t1 : Int.tmod (m : Int) 4 = ((m % 4 : Nat) : Int) := by rw [tm (by omega)]; omega
    have t2 : Int.tmod ((m : Int) + 2) 4 = (((m + 2) % 4 : Nat) : Int) := by rw [tm (by omega)]; omega
    have v1 := hv (m % 4) (by omega)
    have v2 := hv ((m + 2) % 4) (by omega)
    rw [c1] at v1
    rw [c2] at v2
    obtain ⟨z, e2, f2⟩ := fv_add (by omega) (hv m (by omega)) v2 (by omega)
    obtain ⟨z2, e3, f3⟩ := fv_mul (by omega) fv_2 hx (by omega)
    rw [laws_FnTides.l0, if_pos (by omega), if_pos (by omega), if_pos (by omega), e, if_pos (by rfl), show (some y).getD 0 = y from rfl, fv_ne (hgv m (by omega) (by omega)) f rfl, if_neg (by decide), if_pos (by omega)]
    rw [w64 (x := (m : Int) + 2) (by omega) (by omega), t1, t2, if_pos (by omega), if_pos (by omega), fv_ne (hv m (by omega)) v1 rfl, if_neg (by decide), if_pos (by omega), if_pos (by omega), e2, if_pos (by rfl), e3, if_pos (by rfl), show (some z).getD 0 = z from rfl, show (some z2).getD 0 = z2 from rfl]
    rw [fv_ne f2 (fv_cast f3 rfl (by omega)) (by omega), if_neg (by decide), w64 (x := (m : Int) + 1) (by omega) (by omega)]
    exact ih (m + 1) (by omega) k (by omega)
theorem FnTides : laws_FnTides.Pure := by
  intro l _ _ hl
  have hb := bytes_of hl
  refine ⟨100, ?_⟩
  unfold laws_FnTides.f laws_big.f
  rw [Option.bind_some]
  by_cases hn : (l.length : Int) > 1048576
  · rw [if_pos (by simpa using hn)]
  · rw [if_neg (by simpa using hn), at_ok hb (by omega) (by omega) (by omega), Option.bind_some, at_ok hb (by omega) (by omega) (by omega), at_ok hb (by omega) (by omega) (by omega)]
    have r0 := atV_range hb (i := 0) (by omega)
    have r1 := atV_range hb (i := 1) (by omega)
    have r2 := atV_range hb (i := 2) (by omega)
    generalize atV l 0 = a0 at *
    generalize atV l 1 = a1 at *
    generalize atV l 2 = a2 at *
    rw [w64 (x := a0 - 128) (by omega) (by omega)]
    have f0 : Fv (floatOfInt .f64 (a0 - 128)) (a0 - 128) 0 := fv_int (by omega)
    have f1 : Fv (floatOfInt .f64 a1) a1 0 := fv_int (by omega)
    have f2 : Fv (floatOfInt .f64 a2) a2 0 := fv_int (by omega)
    obtain ⟨x, e, fx⟩ := fv_div (r := a0 - 128) (g := 2) (by omega) (by omega) (by omega) f0 fv_4 (by omega) (by omega) (by omega)
    obtain ⟨g, e1, g1, g2⟩ := dayA (s := floatOfInt .f64 a1) (t := floatOfInt .f64 a2) fx (by omega) f1 f2 (by omega) (by omega) 100 (by omega)
    obtain ⟨u, e2, u1, u2⟩ := dayB (s := floatOfInt .f64 a1) (t := floatOfInt .f64 a2) fx (by omega) f1 f2 (by omega) (by omega) 100 (by omega)
    rw [e, if_pos (by rfl), show (some x).getD 0 = x from rfl, Option.bind_some, Option.bind_some]
    rw [show ([⟨⟨floatOfInt .f64 a1, floatOfInt .f64 a2⟩, ⟨4607182418800017408, 0⟩⟩, ⟨⟨0, 0⟩, ⟨0, 0⟩⟩] : List S42) = hA (floatOfInt .f64 a1) (floatOfInt .f64 a2) from rfl, e1, Option.bind_some]
    rw [show ([⟨⟨floatOfInt .f64 a1, floatOfInt .f64 a2⟩, ⟨0, 4607182418800017408⟩⟩] : List S42) = hB (floatOfInt .f64 a1) (floatOfInt .f64 a2) from rfl, e2, Option.bind_some]
    rw [if_pos rfl, if_pos rfl, if_pos (by show (g.length : Int) = 9; omega), laws_FnTides.j0, if_neg (by simp [u1])]
    exact first_loop fx (by omega) f1 f2 (by omega) (by omega) (by omega) (by omega) g u g1 u1 g2 u2 9 0 (by omega) 99 (by omega)

end Go.Proofs.Ytchobalepjmeiaa.Pure
