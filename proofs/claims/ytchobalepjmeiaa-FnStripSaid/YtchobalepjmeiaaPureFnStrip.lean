/- A strip of a turn of a quarter adds the amplitudes in four directions; energies of replies add up by their squares. -/
import Derived.Test.YtchobalepjmeiaaPFnStripx2
import Derived.Test.YtchobalepjmeiaaKit
set_option linter.unusedVariables false
set_option linter.unusedSimpArgs false
namespace Go.Proofs.Ytchobalepjmeiaa.Pure
open Go.RowKit Go.Proofs.Ytchobalepjmeiaa.PFnStrip Go.Proofs.YtchobalepjmeiaaW.PrintWords Go.Proofs.YtchobalepjmeiaaW.PrintLast Go.Proofs.YtchobalepjmeiaaW.PrintMore Go.Proofs.YtchobalepjmeiaaW.Kit

/-! ### floats that stand for small fractions of two -/
abbrev F64 : Ieee.Format := FloatKind.f64.format
theorem f_sw : F64.signWeight = 2 ^ 63 := by decide +kernel
theorem f_bin : F64.binade = 2 ^ 52 := by decide +kernel
theorem f_inf : F64.infRung = 2047 * 2 ^ 52 := by decide +kernel
theorem f_lp : F64.leastPlace = -1074 := by decide +kernel
theorem f_fb : F64.fractionBits = 52 := by decide +kernel
theorem f_read_word (s : Bool) {r : Nat} (h : r < 2047 * 2 ^ 52) :
    F64.read (F64.word s r) = if r < 2 ^ 52 then .number s r (-1074) else .number s (2 ^ 52 + r % 2 ^ 52) (-1074 + (r / 2 ^ 52 - 1 : Nat)) := by
  have h1 : F64.word s r / 2 ^ 63 % 2 = s.toNat := by
    unfold Ieee.Format.word; rw [f_sw]; cases s <;> simp <;> omega
  have h2 : F64.word s r % 2 ^ 63 = r := by
    unfold Ieee.Format.word; rw [f_sw]; cases s <;> simp <;> omega
  unfold Ieee.Format.read
  rw [f_sw, f_bin, f_inf, f_lp, h1, h2]
  have h3 : (s.toNat == 1) = s := by cases s <;> rfl
  simp only [h3]
  by_cases c : r < 2 ^ 52
  · rw [if_pos c, if_pos c]
  · rw [if_neg c, if_pos h, if_neg c]
theorem cut_whole (s : Bool) (n : Nat) : Ieee.Toward.even.cut s n 0 = n := by
  unfold Ieee.Toward.cut
  have e : 1 <<< min 0 (n.log2 + 2) = 1 := by simp
  rw [e]
  simp [Nat.mod_one]
theorem cut_exact (s : Bool) (c d : Nat) (h : 0 < c) : Ieee.Toward.even.cut s (c * 2 ^ d) d = c := by
  unfold Ieee.Toward.cut
  have hl : d ≤ (c * 2 ^ d).log2 := by
    rw [Nat.le_log2 (by have := Nat.two_pow_pos d; exact Nat.ne_of_gt (Nat.mul_pos h this))]
    exact Nat.le_mul_of_pos_left _ h
  have e : 1 <<< min d ((c * 2 ^ d).log2 + 2) = 2 ^ d := by
    rw [Nat.min_eq_left (by omega), Nat.one_shiftLeft]
  rw [e]
  have hp := Nat.two_pow_pos d
  simp only [Nat.mul_mod_left, Nat.mul_div_cancel _ hp]
  simp
/-- What can be told is told. -/
theorem near_exact (s : Bool) (m : Nat) (i : Int) (v : Nat) (e : Int) (hi : -4400 ≤ i) (hv : v < 2 ^ 53) (he : -1074 ≤ e) (he2 : e ≤ 900)
    (h : m * 2 ^ (i + 4400).toNat = v * 2 ^ (e + 4400).toNat) :
    ∃ m' i', F64.read (F64.nearest s m i) = .number s m' i' ∧ -1074 ≤ i' ∧ m' * 2 ^ (i' + 4400).toNat = m * 2 ^ (i + 4400).toNat := by
  unfold Ieee.Format.nearest
  by_cases hm : m = 0
  · subst hm
    rw [if_pos rfl, f_read_word s (by omega), if_pos (by omega)]
    exact ⟨0, -1074, rfl, by omega, by rw [Nat.zero_mul, Nat.zero_mul]⟩
  rw [if_neg hm, f_fb, f_lp, f_bin, f_inf]
  have hvz : v ≠ 0 := by
    intro z; subst z
    rcases Nat.mul_eq_zero.1 (h.trans (Nat.zero_mul _)) with q | q
    · exact hm q
    · exact Nat.ne_of_gt (Nat.two_pow_pos _) q
  have hL0 := Nat.log2_self_le hm
  have hL1 := Nat.lt_log2_self (n := m)
  have hV0 := Nat.log2_self_le hvz
  have hV1 := Nat.lt_log2_self (n := v)
  have hV : v.log2 < 53 := (Nat.log2_lt hvz).2 hv
  generalize m.log2 = L at *
  generalize v.log2 = V at *
  have hLV : (L : Int) + i = V + e := by
    have a1 : 2 ^ (L + (i + 4400).toNat) < 2 ^ (V + 1 + (e + 4400).toNat) := by
      rw [Nat.pow_add, Nat.pow_add]
      calc 2 ^ L * 2 ^ (i + 4400).toNat ≤ m * 2 ^ (i + 4400).toNat := Nat.mul_le_mul_right _ hL0
        _ = v * 2 ^ (e + 4400).toNat := h
        _ < 2 ^ (V + 1) * 2 ^ (e + 4400).toNat := Nat.mul_lt_mul_of_pos_right hV1 (Nat.two_pow_pos _)
    have a2 : 2 ^ (V + (e + 4400).toNat) < 2 ^ (L + 1 + (i + 4400).toNat) := by
      rw [Nat.pow_add, Nat.pow_add]
      calc 2 ^ V * 2 ^ (e + 4400).toNat ≤ v * 2 ^ (e + 4400).toNat := Nat.mul_le_mul_right _ hV0
        _ = m * 2 ^ (i + 4400).toNat := h.symm
        _ < 2 ^ (L + 1) * 2 ^ (i + 4400).toNat := Nat.mul_lt_mul_of_pos_right hL1 (Nat.two_pow_pos _)
    have b1 := (Nat.pow_lt_pow_iff_right (a := 2) (by omega)).1 a1
    have b2 := (Nat.pow_lt_pow_iff_right (a := 2) (by omega)).1 a2
    omega
  have hlast : max (i + L - (52 : Nat)) (-1074) ≤ e := by omega
  have hl1 : -1074 ≤ max (i + L - (52 : Nat)) (-1074) := by omega
  have hl2 : i + L - 52 ≤ max (i + L - (52 : Nat)) (-1074) := by omega
  have hl3 : max (i + L - (52 : Nat)) (-1074) = i + L - 52 ∨ max (i + L - (52 : Nat)) (-1074) = -1074 := by omega
  generalize max (i + (L : Int) - (52 : Nat)) (-1074) = last at *
  have hk : ∃ kept, Ieee.Toward.even.cut s (m <<< (i - last).toNat) (last - i).toNat = kept ∧ kept * 2 ^ (last + 4400).toNat = m * 2 ^ (i + 4400).toNat := by
    by_cases c : last ≤ i
    · refine ⟨m * 2 ^ (i - last).toNat, ?_, ?_⟩
      · rw [show (last - i).toNat = 0 by omega, cut_whole, Nat.shiftLeft_eq]
      · rw [Nat.mul_assoc, ← Nat.pow_add, show (i - last).toNat + (last + 4400).toNat = (i + 4400).toNat by omega]
    · have hmv : m = v * 2 ^ (e - last).toNat * 2 ^ (last - i).toNat := by
        have hp := Nat.two_pow_pos (i + 4400).toNat
        refine Nat.eq_of_mul_eq_mul_right hp ?_
        rw [h, Nat.mul_assoc, Nat.mul_assoc, ← Nat.pow_add, ← Nat.pow_add, show (e - last).toNat + ((last - i).toNat + (i + 4400).toNat) = (e + 4400).toNat by omega]
      refine ⟨v * 2 ^ (e - last).toNat, ?_, ?_⟩
      · rw [show (i - last).toNat = 0 by omega, Nat.shiftLeft_zero, hmv]
        exact cut_exact s _ _ (Nat.mul_pos (by omega) (Nat.two_pow_pos _))
      · rw [h, Nat.mul_assoc, ← Nat.pow_add, show (e - last).toNat + (last + 4400).toNat = (e + 4400).toNat by omega]
  obtain ⟨kept, hk1, hk2⟩ := hk
  dsimp only
  rw [hk1]
  have hkb : kept < 2 ^ 53 := by
    have a : kept * 2 ^ (last + 4400).toNat < 2 ^ 53 * 2 ^ (last + 4400).toNat := by
      rw [hk2, ← Nat.pow_add]
      calc m * 2 ^ (i + 4400).toNat < 2 ^ (L + 1) * 2 ^ (i + 4400).toNat := Nat.mul_lt_mul_of_pos_right hL1 (Nat.two_pow_pos _)
        _ = 2 ^ (L + 1 + (i + 4400).toNat) := (Nat.pow_add ..).symm
        _ ≤ 2 ^ (53 + (last + 4400).toNat) := Nat.pow_le_pow_right (by omega) (by omega)
    exact Nat.lt_of_mul_lt_mul_right a
  have hka : last = i + L - 52 → 2 ^ 52 ≤ kept := by
    intro hh
    have a : 2 ^ 52 * 2 ^ (last + 4400).toNat ≤ kept * 2 ^ (last + 4400).toNat := by
      rw [hk2, ← Nat.pow_add]
      calc 2 ^ (52 + (last + 4400).toNat) = 2 ^ (L + (i + 4400).toNat) := by congr 1; omega
        _ = 2 ^ L * 2 ^ (i + 4400).toNat := Nat.pow_add ..
        _ ≤ m * 2 ^ (i + 4400).toNat := Nat.mul_le_mul_right _ hL0
    exact Nat.le_of_mul_le_mul_right a (Nat.two_pow_pos _)
  rw [show last - -1074 = last + 1074 by omega, Nat.min_eq_left (by omega), f_read_word s (by omega)]
  by_cases c : kept < 2 ^ 52
  · have e0 : last = -1074 := by
      rcases hl3 with q | q
      · have := hka q; omega
      · exact q
    subst e0
    rw [show ((-1074 : Int) + 1074).toNat = 0 from rfl, Nat.zero_mul, Nat.zero_add, if_pos c]
    exact ⟨kept, -1074, rfl, by omega, hk2⟩
  · have e1 : ((last + 1074).toNat * 2 ^ 52 + kept) / 2 ^ 52 = (last + 1074).toNat + 1 := by omega
    have e2 : ((last + 1074).toNat * 2 ^ 52 + kept) % 2 ^ 52 = kept - 2 ^ 52 := by omega
    rw [if_neg (by omega), e1, e2]
    refine ⟨2 ^ 52 + (kept - 2 ^ 52), -1074 + (((last + 1074).toNat + 1 - 1 : Nat) : Int), rfl, by omega, ?_⟩
    rw [show 2 ^ 52 + (kept - 2 ^ 52) = kept by omega, show -1074 + (((last + 1074).toNat + 1 - 1 : Nat) : Int) = last by omega]
    exact hk2

def sv (s : Bool) (m : Nat) (i : Int) : Int := if s then -((m * 2 ^ (i + 4400).toNat : Nat) : Int) else ((m * 2 ^ (i + 4400).toNat : Nat) : Int)
theorem sv_abs (s : Bool) (m : Nat) (i : Int) : (sv s m i).natAbs = m * 2 ^ (i + 4400).toNat := by
  unfold sv
  cases s
  · rw [if_neg (by decide), Int.natAbs_natCast]
  · rw [if_pos rfl, Int.natAbs_neg, Int.natAbs_natCast]
/-- b are the bits of q / 2^e. -/
def Fv (b : Nat) (q : Int) (e : Nat) : Prop := ∃ s m i, F64.read b = .number s m i ∧ -1074 ≤ i ∧ sv s m i = q * ((2 ^ (4400 - e) : Nat) : Int)
theorem fv_write {s : Bool} {m : Nat} {i : Int} {q : Int} {e : Nat} (hi : -4400 ≤ i) (he : e ≤ 1074) (hq : q.natAbs < 2 ^ 53) (h : sv s m i = q * ((2 ^ (4400 - e) : Nat) : Int)) :
    Fv (F64.write (.number s m i)) q e := by
  have hn : m * 2 ^ (i + 4400).toNat = q.natAbs * 2 ^ (-(e : Int) + 4400).toNat := by
    have := congrArg Int.natAbs h
    rw [Int.natAbs_mul] at this
    rw [show (-(e : Int) + 4400).toNat = 4400 - e by omega]
    rw [Int.natAbs_natCast, sv_abs] at this
    exact this
  obtain ⟨m', i', h1, h2, h3⟩ := near_exact s m i q.natAbs (-(e : Int)) hi hq (by omega) (by omega) hn
  refine ⟨s, m', i', h1, h2, ?_⟩
  rw [← h]; unfold sv; rw [h3]
theorem signed_scale (s : Bool) (m : Nat) (i b : Int) (hb : b ≤ i) (hb0 : -4400 ≤ b) : Ieee.signed s m (i - b).toNat * ((2 ^ (b + 4400).toNat : Nat) : Int) = sv s m i := by
  unfold Ieee.signed sv
  have : m * 2 ^ (i + 4400).toNat = m <<< (i - b).toNat * 2 ^ (b + 4400).toNat := by
    rw [Nat.shiftLeft_eq, Nat.mul_assoc, ← Nat.pow_add, show (i - b).toNat + (b + 4400).toNat = (i + 4400).toNat by omega]
  rw [this]
  cases s
  · rw [if_neg (by decide), if_neg (by decide), Int.natCast_mul]
  · rw [if_pos rfl, if_pos rfl, Int.natCast_mul, Int.neg_mul]
theorem sv_total (t : Int) (g : Bool) (b : Int) (hg : t ≠ 0 → g = decide (t < 0)) : sv g t.natAbs b = t * ((2 ^ (b + 4400).toNat : Nat) : Int) := by
  unfold sv
  by_cases z : t = 0
  · subst z; cases g <;> simp
  rw [hg z]
  by_cases c : t < 0
  · rw [decide_eq_true c, if_pos rfl, Int.natCast_mul, ← Int.neg_mul]; congr 1; omega
  · rw [decide_eq_false c, if_neg (by decide), Int.natCast_mul]; congr 1; omega
theorem fv_sum {s t : Bool} {m n : Nat} {i j : Int} {q r : Int} {e : Nat} (hi : -1074 ≤ i) (hj : -1074 ≤ j) (he : e ≤ 1074) (h1 : sv s m i = q * ((2 ^ (4400 - e) : Nat) : Int)) (h2 : sv t n j = r * ((2 ^ (4400 - e) : Nat) : Int))
    (hb : (q + r).natAbs < 2 ^ 53) : ∃ b, (((Ieee.Datum.number s m i).sum (.number t n j)).map F64.write) = some b ∧ Fv b (q + r) e := by
  refine ⟨_, rfl, ?_⟩
  refine fv_write (by omega) he hb ?_
  rw [sv_total, Int.add_mul, signed_scale s m i (min i j) (by omega) (by omega), signed_scale t n j (min i j) (by omega) (by omega), h1, h2, Int.add_mul]
  intro z; rw [if_neg z]
theorem fv_add {x y : Nat} {q r : Int} {e : Nat} (he : e ≤ 1074) (h1 : Fv x q e) (h2 : Fv y r e) (hb : (q + r).natAbs < 2 ^ 53) : ∃ b, floatBits .add .f64 x y = some b ∧ Fv b (q + r) e := by
  obtain ⟨s, m, i, a1, a2, a3⟩ := h1
  obtain ⟨t, n, j, b1, b2, b3⟩ := h2
  show ∃ b, F64.add x y = some b ∧ _
  unfold Ieee.Format.add
  rw [a1, b1]
  exact fv_sum a2 b2 he a3 b3 hb
theorem sv_not (s : Bool) (m : Nat) (i : Int) : sv (!s) m i = -sv s m i := by
  unfold sv; cases s <;> simp
theorem fv_sub {x y : Nat} {q r : Int} {e : Nat} (he : e ≤ 1074) (h1 : Fv x q e) (h2 : Fv y r e) (hb : (q - r).natAbs < 2 ^ 53) : ∃ b, floatBits .sub .f64 x y = some b ∧ Fv b (q - r) e := by
  obtain ⟨s, m, i, a1, a2, a3⟩ := h1
  obtain ⟨t, n, j, b1, b2, b3⟩ := h2
  show ∃ b, F64.sub x y = some b ∧ _
  unfold Ieee.Format.sub
  rw [a1, b1]
  exact fv_sum (r := -r) a2 b2 he a3 (by rw [sv_not, b3, Int.neg_mul]) hb
theorem two_ne (k : Nat) : ((2 ^ k : Nat) : Int) ≠ 0 := Int.ofNat_ne_zero.2 (Nat.ne_of_gt (Nat.two_pow_pos _))
theorem sv_mul {s t : Bool} {m n : Nat} {i j : Int} (a2 : -1074 ≤ i) (b2 : -1074 ≤ j) (K : Nat) (hK : K = 4400) : sv (s ^^ t) (m * n) (i + j) * ((2 ^ K : Nat) : Int) = sv s m i * sv t n j := by
  have : m * n * 2 ^ (i + j + 4400).toNat * 2 ^ K = (m * 2 ^ (i + 4400).toNat) * (n * 2 ^ (j + 4400).toNat) := by
    rw [Nat.mul_assoc, ← Nat.pow_add, Nat.mul_mul_mul_comm, ← Nat.pow_add, show (i + j + 4400).toNat + K = (i + 4400).toNat + (j + 4400).toNat by omega]
  unfold sv
  have c := congrArg (fun z : Nat => (z : Int)) this
  simp only [Int.natCast_mul] at c
  cases s <;> cases t <;> simp only [Int.natCast_mul, Bool.xor_false, Bool.xor_true, Bool.not_true, Bool.not_false, if_true, if_false, Bool.false_eq_true, Int.neg_mul, Int.mul_neg, Int.neg_neg, c]
theorem fv_mul {x y : Nat} {q r : Int} {e f : Nat} (he : e + f ≤ 1074) (h1 : Fv x q e) (h2 : Fv y r f) (hb : (q * r).natAbs < 2 ^ 53) : ∃ b, floatBits .mul .f64 x y = some b ∧ Fv b (q * r) (e + f) := by
  obtain ⟨s, m, i, a1, a2, a3⟩ := h1
  obtain ⟨t, n, j, b1, b2, b3⟩ := h2
  show ∃ b, F64.mul x y = some b ∧ _
  unfold Ieee.Format.mul
  rw [a1, b1]
  refine ⟨_, rfl, fv_write (by omega) he hb ?_⟩
  obtain ⟨K, hK⟩ : ∃ K : Nat, K = 4400 := ⟨_, rfl⟩
  refine Int.eq_of_mul_eq_mul_right (two_ne K) ?_
  rw [sv_mul a2 b2 K hK, a3, b3, Int.mul_assoc q, Int.mul_left_comm _ r, ← Int.mul_assoc q, Int.mul_assoc (q * r)]
  congr 1
  rw [← Int.natCast_mul, ← Int.natCast_mul, ← Nat.pow_add, ← Nat.pow_add, show 4400 - e + (4400 - f) = 4400 - (e + f) + K by omega]

theorem fv_order {x y : Nat} {q r : Int} {e : Nat} (h1 : Fv x q e) (h2 : Fv y r e) : F64.order x y = some (compare q r) := by
  obtain ⟨s, m, i, a1, a2, a3⟩ := h1
  obtain ⟨t, n, j, b1, b2, b3⟩ := h2
  unfold Ieee.Format.order
  rw [a1, b1]
  show some (compare (Ieee.signed s m (i - min i j).toNat) (Ieee.signed t n (j - min i j).toNat)) = _
  have h1 := signed_scale s m i (min i j) (by omega) (by omega)
  have h2 := signed_scale t n j (min i j) (by omega) (by omega)
  rw [a3] at h1; rw [b3] at h2
  have p1 : (0 : Int) < ((2 ^ (4400 - e) : Nat) : Int) := Int.ofNat_lt.2 (Nat.two_pow_pos _)
  have p2 : (0 : Int) < ((2 ^ (min i j + 4400).toNat : Nat) : Int) := Int.ofNat_lt.2 (Nat.two_pow_pos _)
  generalize ((2 ^ (4400 - e) : Nat) : Int) = U at *
  generalize ((2 ^ (min i j + 4400).toNat : Nat) : Int) = V at *
  generalize Ieee.signed s m (i - min i j).toNat = A at *
  generalize Ieee.signed t n (j - min i j).toNat = B at *
  congr 1
  have k1 : A < B ↔ q < r := by
    rw [← Int.mul_lt_mul_right p2, h1, h2, Int.mul_lt_mul_right p1]
  have k2 : B < A ↔ r < q := by
    rw [← Int.mul_lt_mul_right p2, h1, h2, Int.mul_lt_mul_right p1]
  rcases Int.lt_trichotomy q r with c | c | c
  · rw [Int.compare_eq_lt.2 (k1.2 c), Int.compare_eq_lt.2 c]
  · have : A = B := by have := k1.1; have := k2.1; omega
    rw [Int.compare_eq_eq.2 this, Int.compare_eq_eq.2 c]
  · rw [Int.compare_eq_gt.2 (k2.2 c), Int.compare_eq_gt.2 c]
theorem fv_eq {x y : Nat} {q r : Int} {e : Nat} (h1 : Fv x q e) (h2 : Fv y r e) : (F64.order x y == some .eq) = decide (q = r) := by
  rw [fv_order h1 h2]
  by_cases c : q = r
  · rw [Int.compare_eq_eq.2 c, decide_eq_true c]; rfl
  · rw [decide_eq_false c]
    rcases Int.lt_or_gt_of_ne c with c | c
    · rw [Int.compare_eq_lt.2 c]; rfl
    · rw [Int.compare_eq_gt.2 c]; rfl
theorem fv_int {n : Int} (h : n.natAbs < 2 ^ 53) : Fv (floatOfInt .f64 n) n 0 := by
  refine fv_write (s := decide (n < 0)) (m := n.natAbs) (i := 0) (by omega) (by omega) h ?_
  rw [sv_total n _ 0 (fun _ => rfl), show ((0 : Int) + 4400).toNat = 4400 - 0 from rfl]
theorem fv_up {x : Nat} {q : Int} {e : Nat} (d : Nat) (he : e + d ≤ 4400) (h : Fv x q e) : Fv x (q * ((2 ^ d : Nat) : Int)) (e + d) := by
  obtain ⟨s, m, i, a1, a2, a3⟩ := h
  refine ⟨s, m, i, a1, a2, ?_⟩
  rw [a3, Int.mul_assoc, ← Int.natCast_mul, ← Nat.pow_add, show d + (4400 - (e + d)) = 4400 - e by omega]
theorem fv_down {x : Nat} {q : Int} {e : Nat} (d : Nat) (he : e + d ≤ 4400) (h : Fv x (q * ((2 ^ d : Nat) : Int)) (e + d)) : Fv x q e := by
  obtain ⟨s, m, i, a1, a2, a3⟩ := h
  refine ⟨s, m, i, a1, a2, ?_⟩
  rw [a3, Int.mul_assoc, ← Int.natCast_mul, ← Nat.pow_add, show d + (4400 - (e + d)) = 4400 - e by omega]
theorem fv_of (b : Nat) (s : Bool) (m : Nat) (i : Int) (q : Int) (e : Nat) (h : F64.read b = .number s m i) (hi : -1074 ≤ i) (hs : sv s m i = q * ((2 ^ (4400 - e) : Nat) : Int)) : Fv b q e := ⟨s, m, i, h, hi, hs⟩
theorem fv_0 : Fv 0 0 0 := fv_of 0 false 0 (-1074) 0 0 (by decide +kernel) (by decide) (by decide +kernel)
theorem fv_1 : Fv 4607182418800017408 1 0 := fv_of _ false 4503599627370496 (-52) 1 0 (by decide +kernel) (by decide) (by decide +kernel)
theorem fv_2 : Fv 4611686018427387904 2 0 := fv_of _ false 4503599627370496 (-51) 2 0 (by decide +kernel) (by decide) (by decide +kernel)
theorem fv_half : Fv 4602678819172646912 1 1 := fv_of _ false 4503599627370496 (-53) 1 1 (by decide +kernel) (by decide) (by decide +kernel)
theorem at_ok {l : List Int} (hb : Bytes l) (hl : l.length ≤ 1048576) {i : Int} (h0 : 0 ≤ i) (h1 : i ≤ 1000000000) : laws_at.f l i = some (atV l i) := at_some hb hl h0 h1
theorem by_ok {x y : Nat} {q r : Int} {e f : Nat} (he : e + f ≤ 1074) (h1 : Fv x q e) (h2 : Fv y r f) (hb : (q * r).natAbs < 2 ^ 53) : ∃ b, impl_by.f x y = some b ∧ Fv b (q * r) (e + f) := by
  obtain ⟨b, h, hf⟩ := fv_mul he h1 h2 hb
  refine ⟨b, ?_, hf⟩
  unfold impl_by.f
  rw [h]; rfl
theorem times_ok {x y z u : Nat} {a b c d : Int} (h1 : Fv x a 0) (h2 : Fv y b 0) (h3 : Fv z c 0) (h4 : Fv u d 0)
    (b1 : (a * c).natAbs < 2 ^ 50) (b2 : (b * d).natAbs < 2 ^ 50) (b3 : (a * d).natAbs < 2 ^ 50) (b4 : (b * c).natAbs < 2 ^ 50) :
    ∃ p q, impl_Times.f x y z u = some (p, q) ∧ Fv p (a * c - b * d) 0 ∧ Fv q (a * d + b * c) 0 := by
  obtain ⟨t1, e1, f1⟩ := by_ok (by omega) h1 h3 (by omega)
  obtain ⟨t2, e2, f2⟩ := by_ok (by omega) h2 h4 (by omega)
  obtain ⟨t3, e3, f3⟩ := by_ok (by omega) h1 h4 (by omega)
  obtain ⟨t4, e4, f4⟩ := by_ok (by omega) h2 h3 (by omega)
  obtain ⟨p, e5, f5⟩ := fv_sub (by omega) f1 f2 (by omega)
  obtain ⟨q, e6, f6⟩ := fv_add (by omega) f3 f4 (by omega)
  refine ⟨p, q, ?_, f5, f6⟩
  unfold impl_Times.f
  rw [e1, Option.bind_some, e2, Option.bind_some, e5, if_pos (by rfl), e3, Option.bind_some, e4, Option.bind_some, e6, if_pos (by rfl)]
  rfl
theorem addw_ok {x y z u : Nat} {a b c d : Int} (h1 : Fv x a 0) (h2 : Fv y b 0) (h3 : Fv z c 0) (h4 : Fv u d 0) (b1 : (a + c).natAbs < 2 ^ 53) (b2 : (b + d).natAbs < 2 ^ 53) :
    ∃ p q, impl_addWave.f x y z u = some (p, q) ∧ Fv p (a + c) 0 ∧ Fv q (b + d) 0 := by
  obtain ⟨p, e5, f5⟩ := fv_add (by omega) h1 h3 b1
  obtain ⟨q, e6, f6⟩ := fv_add (by omega) h2 h4 b2
  refine ⟨p, q, ?_, f5, f6⟩
  unfold impl_addWave.f
  rw [e5, if_pos (by rfl), e6, if_pos (by rfl)]
  rfl
def cr (i : Nat) : Int := if i % 4 = 0 then 1 else if i % 4 = 2 then -1 else 0
def ci (i : Nat) : Int := if i % 4 = 1 then 1 else if i % 4 = 3 then -1 else 0
theorem cr_next (i : Nat) : cr i * 0 - ci i * 1 = cr (i + 1) := by
  unfold cr ci; split <;> split <;> split <;> (try split) <;> omega
theorem ci_next (i : Nat) : cr i * 1 + ci i * 0 = ci (i + 1) := by
  unfold cr ci; split <;> split <;> (try split) <;> (try split) <;> omega
theorem cr_cases (i : Nat) : cr i = 1 ∨ cr i = 0 ∨ cr i = -1 := by unfold cr; split <;> (try split) <;> simp
theorem ci_cases (i : Nat) : ci i = 1 ∨ ci i = 0 ∨ ci i = -1 := by unfold ci; split <;> (try split) <;> simp
theorem unit_mul {x c : Int} (h : c = 1 ∨ c = 0 ∨ c = -1) (hx : x.natAbs ≤ 128) : (x * c).natAbs ≤ 128 := by
  rcases h with h | h | h <;> subst h <;> omega
def sR (v : Nat → Int) : Nat → Int
  | 0 => 0
  | n + 1 => sR v n + v n * cr n
def sI (v : Nat → Int) : Nat → Int
  | 0 => 0
  | n + 1 => sI v n + v n * ci n
def sQ (v : Nat → Int) : Nat → Int
  | 0 => 0
  | n + 1 => sQ v n + v n * v n
theorem sR_le {v : Nat → Int} (hv : ∀ i, (v i).natAbs ≤ 128) (n : Nat) : (sR v n).natAbs ≤ 128 * n := by
  induction n with
  | zero => simp [sR]
  | succ n ih => have := unit_mul (cr_cases n) (hv n); simp only [sR]; omega
theorem sI_le {v : Nat → Int} (hv : ∀ i, (v i).natAbs ≤ 128) (n : Nat) : (sI v n).natAbs ≤ 128 * n := by
  induction n with
  | zero => simp [sI]
  | succ n ih => have := unit_mul (ci_cases n) (hv n); simp only [sI]; omega
theorem sq_le {x : Int} (h : x.natAbs ≤ 128) : 0 ≤ x * x ∧ x * x ≤ 16384 := by
  have e : x * x = ((x.natAbs * x.natAbs : Nat) : Int) := Int.natAbs_mul_self.symm
  have : x.natAbs * x.natAbs ≤ 128 * 128 := Nat.mul_le_mul h h
  omega
theorem sQ_le {v : Nat → Int} (hv : ∀ i, (v i).natAbs ≤ 128) (n : Nat) : 0 ≤ sQ v n ∧ sQ v n ≤ 16384 * n := by
  induction n with
  | zero => simp [sQ]
  | succ n ih => have := sq_le (hv n); simp only [sQ]; omega
def row (v : Nat → Int) (n : Nat) : List Nat := (List.range n).map fun i => floatOfInt .f64 (v i)
theorem row_len (v : Nat → Int) (n : Nat) : (row v n).length = n := by simp [row]
theorem row_next (v : Nat → Int) (n : Nat) : row v n ++ [floatOfInt .f64 (v n)] = row v (n + 1) := by simp [row, List.range_succ]
theorem row_get (v : Nat → Int) (n i : Nat) (h : i < n) : rdOf (0 : Nat) (row v n) (i : Int) = floatOfInt .f64 (v i) := by
  simp [rdOf, row, List.getD_eq_getElem?_getD, h]
theorem fv_v {v : Nat → Int} (hv : ∀ i, (v i).natAbs ≤ 128) (i : Nat) : Fv (floatOfInt .f64 (v i)) (v i) 0 := fv_int (by have := hv i; omega)
theorem strip_loop {v : Nat → Int} (hv : ∀ i, (v i).natAbs ≤ 128) (n : Nat) (hn : n ≤ 60) (d : Nat) : ∀ (i : Nat), i + d = n → ∀ (s t p q : Nat), Fv s (sR v i) 0 → Fv t (sI v i) 0 → Fv p (cr i) 0 → Fv q (ci i) 0 → ∀ k, d < k →
    ∃ x y, impl_Strip.l0 k (row v n) (n : Int) (i : Int) 0 4607182418800017408 s t p q = some (x, y, true) ∧ Fv x (sR v n) 0 ∧ Fv y (sI v n) 0 := by
  induction d with
  | zero =>
    intro i hi s t p q hs ht hp hq k hk
    obtain ⟨k, rfl⟩ := pos_round (show 0 < k by omega)
    obtain rfl : i = n := by omega
    simp only [impl_Strip.l0]
    rw [if_neg (by omega)]
    exact ⟨s, t, rfl, hs, ht⟩
  | succ d ih =>
    intro i hi s t p q hs ht hp hq k hk
    obtain ⟨k, rfl⟩ := pos_round (show 0 < k by omega)
    have b1 := unit_mul (cr_cases i) (hv i)
    have b2 := unit_mul (ci_cases i) (hv i)
    have b3 := sR_le hv i
    have b4 := sI_le hv i
    obtain ⟨t1, e1, f1⟩ := by_ok (by omega) (fv_v hv i) hp (by omega)
    obtain ⟨t2, e2, f2⟩ := by_ok (by omega) (fv_v hv i) hq (by omega)
    obtain ⟨s', t', e3, f3, f4⟩ := addw_ok hs ht f1 f2 (by omega) (by omega)
    have c1 := cr_cases i
    have c2 := ci_cases i
    obtain ⟨p', q', e4, f5, f6⟩ := times_ok hp hq fv_0 fv_1 (by omega) (by omega) (by omega) (by omega)
    rw [cr_next] at f5; rw [ci_next] at f6
    obtain ⟨x, y, e5, f7, f8⟩ := ih (i + 1) (by omega) s' t' p' q' f3 f4 f5 f6 k (by omega)
    refine ⟨x, y, ?_, f7, f8⟩
    simp only [impl_Strip.l0]
    rw [if_pos (by omega), if_pos (by omega), if_pos (by rw [row_len]; omega), row_get v n i (by omega), e1, Option.bind_some, e2, Option.bind_some, e3, Option.bind_some, e4, Option.bind_some, w64 (x := (i : Int) + 1) (by omega) (by omega)]
    exact e5
theorem strip_ok {v : Nat → Int} (hv : ∀ i, (v i).natAbs ≤ 128) (n : Nat) (hn : n ≤ 60) (k : Nat) (hk : n < k) :
    ∃ x y, impl_Strip.f k (row v n) 0 4607182418800017408 = some (x, y, true) ∧ Fv x (sR v n) 0 ∧ Fv y (sI v n) 0 := by
  unfold impl_Strip.f
  rw [row_len, if_neg (by omega)]
  exact strip_loop hv n hn n 0 (by omega) _ _ _ _ fv_0 fv_0 fv_1 fv_0 k hk
def wrow (v : Nat → Int) (n : Nat) : List S28 := (List.range n).map fun i => ⟨0, floatOfInt .f64 (v i)⟩
theorem wrow_len (v : Nat → Int) (n : Nat) : (wrow v n).length = n := by simp [wrow]
theorem wrow_next (v : Nat → Int) (n : Nat) : wrow v n ++ [⟨0, floatOfInt .f64 (v n)⟩] = wrow v (n + 1) := by simp [wrow, List.range_succ]
theorem wrow_get (v : Nat → Int) (n i : Nat) (h : i < n) : rd_T28 (wrow v n) (i : Int) = ⟨0, floatOfInt .f64 (v i)⟩ := by
  simp [rd_T28, wrow, List.getD_eq_getElem?_getD, h]
def trow (n : Nat) : List Nat := List.replicate n 4611686018427387904
theorem trow_len (n : Nat) : (trow n).length = n := by simp [trow]
theorem trow_next (n : Nat) : trow n ++ [4611686018427387904] = trow (n + 1) := by simp [trow, List.replicate_succ']
theorem trow_get (n i : Nat) (h : i < n) : rdOf (0 : Nat) (trow n) (i : Int) = 4611686018427387904 := by
  simp [rdOf, trow, List.getD_eq_getElem?_getD, h]
theorem energy_loop {v : Nat → Int} (hv : ∀ i, (v i).natAbs ≤ 128) (n : Nat) (hn : n ≤ 60) (d : Nat) : ∀ (i : Nat), i + d = n → ∀ s, Fv s (sQ v i) 0 → ∀ k, d < k →
    ∃ x, impl_Energy.l0 k (trow n) 4602678819172646912 s (wrow v n) (n : Int) (i : Int) = some (x, true) ∧ Fv x (sQ v n) 0 := by
  induction d with
  | zero =>
    intro i hi s hs k hk
    obtain ⟨k, rfl⟩ := pos_round (show 0 < k by omega)
    obtain rfl : i = n := by omega
    simp only [impl_Energy.l0]
    rw [if_neg (by omega)]
    exact ⟨s, rfl, hs⟩
  | succ d ih =>
    intro i hi s hs k hk
    obtain ⟨k, rfl⟩ := pos_round (show 0 < k by omega)
    have b1 := sq_le (hv i)
    have b2 := sQ_le hv i
    obtain ⟨t1, e1, f1⟩ := by_ok (by omega) fv_0 fv_0 (by omega)
    obtain ⟨t2, e2, f2⟩ := by_ok (by omega) (fv_v hv i) (fv_v hv i) (by omega)
    obtain ⟨t3, e3, f3⟩ := fv_add (by omega) f1 f2 (by omega)
    obtain ⟨t4, e4, f4⟩ := by_ok (by omega) f3 fv_2 (by omega)
    obtain ⟨t5, e5, f5⟩ := by_ok (by omega) f4 fv_half (by omega)
    have f6 : Fv t5 (v i * v i) 0 := by
      refine fv_down 1 (by omega) ?_
      have : v i * v i * ((2 ^ 1 : Nat) : Int) = (0 * 0 + v i * v i) * 2 * 1 := by omega
      rw [this]; exact f5
    obtain ⟨t7, e7, f7⟩ := fv_add (by omega) hs f6 (by omega)
    obtain ⟨x, e8, f8⟩ := ih (i + 1) (by omega) t7 f7 k (by omega)
    refine ⟨x, ?_, f8⟩
    simp only [impl_Energy.l0]
    rw [if_pos (by omega), if_pos (by omega), if_pos (by rw [wrow_len]; omega), wrow_get v n i (by omega), e1, Option.bind_some, e2, Option.bind_some, e3, if_pos (by rfl), if_pos (by rw [trow_len]; omega), trow_get n i (by omega)]
    rw [show (some t3).getD 0 = t3 from rfl, e4, Option.bind_some, e5, Option.bind_some, e7, if_pos (by rfl), w64 (x := (i : Int) + 1) (by omega) (by omega)]
    exact e8
theorem energy_ok {v : Nat → Int} (hv : ∀ i, (v i).natAbs ≤ 128) (n : Nat) (hn : n ≤ 60) (k : Nat) (hk : n + 1 < k) :
    ∃ x, impl_Energy.f k (wrow v n) (trow n) 4602678819172646912 = some (x, true) ∧ Fv x (sQ v n) 0 := by
  obtain ⟨k, rfl⟩ := pos_round (show 0 < k by omega)
  unfold impl_Energy.f
  rw [wrow_len, trow_len, if_neg (by omega)]
  simp only [impl_Energy.j0]
  rw [if_neg (by simp), wrow_len]
  exact energy_loop hv n hn n 0 (by omega) _ fv_0 k (by omega)
theorem energy_no (a : List S28) (b : List Nat) (h : a.length ≤ 60) (hb : a.length + 1 = b.length) (w : Nat) (k : Nat) : impl_Energy.f (k + 1) a b w = some (0, false) := by
  unfold impl_Energy.f
  rw [if_neg (by omega)]
  simp only [impl_Energy.j0]
  rw [if_pos (by simp; omega)]
theorem last_loop {v : Nat → Int} (hv : ∀ i, (v i).natAbs ≤ 128) (n : Nat) (hn : n ≤ 60) (d : Nat) : ∀ (i : Nat), i + d = n → ∀ k, d + n + 3 < k →
    laws_FnStrip.l1 k (row v n) (sQ v n) (wrow v i) (trow i) (i : Int) = some true := by
  induction d with
  | zero =>
    intro i hi k hk
    obtain ⟨k, rfl⟩ : ∃ m, k = m + 1 + 1 := ⟨k - 2, by omega⟩
    obtain rfl : i = n := by omega
    obtain ⟨x, e, f⟩ := energy_ok hv i hn (k + 1) (by omega)
    simp only [laws_FnStrip.l1]
    have b2 := sQ_le hv i
    rw [if_neg (by rw [row_len]; omega), e, Option.bind_some, trow_len, if_pos (by omega), energy_no _ _ (by rw [wrow_len]; omega) (by rw [wrow_len]; simp [trow]), Option.bind_some, if_pos rfl, fv_eq f (fv_int (n := sQ v i) (by omega)), if_pos (by simp)]
    rfl
  | succ d ih =>
    intro i hi k hk
    obtain ⟨k, rfl⟩ := pos_round (show 0 < k by omega)
    simp only [laws_FnStrip.l1]
    rw [if_pos (by rw [row_len]; omega), if_pos (by omega), wrow_len, if_pos (by omega), trow_len, if_pos (by omega), row_get v n i (by omega), wrow_next, trow_next, w64 (x := (i : Int) + 1) (by omega) (by omega)]
    exact ih (i + 1) (by omega) k (by omega)
def vv (l : List Int) (i : Nat) : Int := atV l ((i : Int) + 1) - 128
theorem first_loop {l : List Int} (hb : Bytes l) (hl : l.length ≤ 1048576) (n : Nat) (hn : n ≤ 60) (hn' : (n : Int) = atV l 0 % 20) (d : Nat) : ∀ (i : Nat), i + d = n → ∀ k, d + n + n + 10 < k →
    laws_FnStrip.l0 k l (row (vv l) i) (sR (vv l) i) (sI (vv l) i) (sQ (vv l) i) (i : Int) = some true := by
  have hv : ∀ i, (vv l i).natAbs ≤ 128 := by
    intro i
    have := atV_range hb (i := (i : Int) + 1) (by omega)
    unfold vv; omega
  have r0 := atV_range hb (i := 0) (by omega)
  induction d with
  | zero =>
    intro i hi k hk
    obtain ⟨k, rfl⟩ : ∃ m, k = m + 1 + 1 := ⟨k - 2, by omega⟩
    obtain rfl : i = n := by omega
    obtain ⟨x, y, e, f1, f2⟩ := strip_ok hv i hn (k + 1) (by omega)
    have b3 := sR_le hv i
    have b4 := sI_le hv i
    simp only [laws_FnStrip.l0]
    rw [at_ok hb hl (by omega) (by omega), Option.bind_some, tm r0.1, if_neg (by omega), e, Option.bind_some, if_pos rfl]
    have n1 : (F64.order x (floatOfInt .f64 (sR (vv l) i)) != some .eq) = false := by
      rw [bne, fv_eq f1 (fv_int (by omega))]; simp
    have n2 : (F64.order y (floatOfInt .f64 (sI (vv l) i)) != some .eq) = false := by
      rw [bne, fv_eq f2 (fv_int (by omega))]; simp
    rw [n1, if_neg (by simp), n2]
    simp only [laws_FnStrip.j1]
    rw [if_neg (by simp)]
    exact last_loop hv i hn i 0 (by omega) k (by omega)
  | succ d ih =>
    intro i hi k hk
    obtain ⟨k, rfl⟩ := pos_round (show 0 < k by omega)
    have ih' := ih (i + 1) (by omega) k (by omega)
    simp only [sR, sI, sQ] at ih'
    have b3 := sR_le hv i
    have b4 := sI_le hv i
    have b5 := sQ_le hv i
    have b6 := sq_le (hv i)
    have b7 := hv i
    have ev : atV l ((i : Int) + 1) - 128 = vv l i := rfl
    simp only [laws_FnStrip.l0]
    rw [at_ok hb hl (by omega) (by omega), Option.bind_some, tm r0.1, if_pos (by omega), w64 (x := (i : Int) + 1) (by omega) (by omega), at_ok hb hl (by omega) (by omega), Option.bind_some, row_len, if_pos (by omega), w64 (x := atV l ((i : Int) + 1) - 128) (by omega) (by omega), ev, row_next, Option.bind_some, tm (x := (i : Int)) (by omega), w64 (x := vv l i * vv l i) (by omega) (by omega), w64 (x := sQ (vv l) i + vv l i * vv l i) (by omega) (by omega)]
    generalize hq : vv l i * vv l i = qq at *
    have h4 : i % 4 = 0 ∨ i % 4 = 1 ∨ i % 4 = 2 ∨ i % 4 = 3 := by omega
    rcases h4 with c | c | c | c
    · rw [if_pos (by omega), w64 (x := sR (vv l) i + vv l i) (by omega) (by omega)]
      rw [show cr i = 1 by simp [cr, c], show ci i = 0 by simp [ci, c], Int.mul_one, Int.mul_zero, Int.add_zero] at ih'
      exact ih'
    · rw [if_neg (by omega), if_pos (by omega), w64 (x := sI (vv l) i + vv l i) (by omega) (by omega)]
      rw [show cr i = 0 by simp [cr, c], show ci i = 1 by simp [ci, c], Int.mul_one, Int.mul_zero, Int.add_zero] at ih'
      exact ih'
    · rw [if_neg (by omega), if_neg (by omega), if_pos (by omega), w64 (x := sR (vv l) i - vv l i) (by omega) (by omega)]
      rw [show cr i = -1 by simp [cr, c], show ci i = 0 by simp [ci, c], Int.mul_zero, Int.add_zero, show sR (vv l) i + vv l i * -1 = sR (vv l) i - vv l i by omega] at ih'
      exact ih'
    · rw [if_neg (by omega), if_neg (by omega), if_neg (by omega), w64 (x := sI (vv l) i - vv l i) (by omega) (by omega)]
      rw [show cr i = 0 by simp [cr, c], show ci i = -1 by simp [ci, c], Int.mul_zero, Int.add_zero, show sI (vv l) i + vv l i * -1 = sI (vv l) i - vv l i by omega] at ih'
      exact ih'

theorem FnStrip : laws_FnStrip.Pure := by
  intro l _ _ hl
  have hb := bytes_of hl
  refine ⟨200, ?_⟩
  unfold laws_FnStrip.f laws_big.f
  rw [Option.bind_some]
  by_cases hn : (l.length : Int) > 1048576
  · rw [if_pos (by simpa using hn)]
  · rw [if_neg (by simpa using hn)]
    have r0 := atV_range hb (i := 0) (by omega)
    exact first_loop hb (by omega) (atV l 0 % 20).toNat (by omega) (by omega) (atV l 0 % 20).toNat 0 (by omega) 200 (by omega)

end Go.Proofs.Ytchobalepjmeiaa.Pure
