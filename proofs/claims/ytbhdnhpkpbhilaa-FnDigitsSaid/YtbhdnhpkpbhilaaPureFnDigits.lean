/- A drawn name with its digit is a BoxName; with another last digit it is none, with another of the six digits at most where its last digit is 0: for each byte list as code. -/
import Derived.Test.YtbhdnhpkpbhilaaPFnDigitsx3
import Derived.Test.YtbhdnhpkpbhilaaKit
set_option linter.unusedVariables false
set_option linter.unusedSimpArgs false
namespace Go.Proofs.Ytbhdnhpkpbhilaa.Pure
open Go.RowKit Go.Proofs.Ytbhdnhpkpbhilaa.PFnDigits Go.Proofs.YtbhdnhpkpbhilaaW.PrintWords Go.Proofs.YtbhdnhpkpbhilaaW.PrintLast Go.Proofs.YtbhdnhpkpbhilaaW.PrintMore Go.Proofs.YtbhdnhpkpbhilaaW.Kit

/-! ### strings of bytes -/
theorem bt_str (l : List Int) (i : Int) (h0 : 0 ≤ i) (h1 : i < l.length) (hr : 0 ≤ rd l i ∧ rd l i ≤ 255) : bt (strOfNums l) i = rd l i := by
  obtain ⟨h, e⟩ := rd_lt h0 h1
  unfold bt
  rw [dif_pos (by rw [strOfNums_size]; omega)]
  show ((((l.map fun n => UInt8.ofNat n.toNat).toArray[i.toNat]'(by simp; omega)).toNat : Nat) : Int) = _
  rw [List.getElem_toArray, List.getElem_map, ← e, UInt8.toNat_ofNat']
  omega
theorem str_head (b : List Int) (x : Int) (hb : b.length = 10) : (strOfNums (b ++ [x])).extract 0 10 = strOfNums b := by
  apply ByteArray.ext
  rw [ByteArray.data_extract]
  apply Array.ext'
  rw [Array.toList_extract, strOfNums_data, strOfNums_data, List.map_append, List.extract_eq_take_drop]
  simp [hb]
/-! ### what a name's letters and digits count -/
def lv : Nat → Int
  | 0 => 10
  | i + 1 => if (lv i + 1) % 11 = 0 then lv i + 2 else lv i + 1
theorem lv_range (i : Nat) : 10 ≤ lv i ∧ lv i ≤ 10 + 2 * (i : Int) := by
  induction i with
  | zero => simp [lv]
  | succ i ih => simp only [lv]; split <;> omega
theorem value_loop (d : Nat) : ∀ (i : Nat), i + d ≤ 25 → ∀ k, d < k → impl_valueOf.l0 k (65 + (i : Int) + d) (lv i) (65 + (i : Int)) = some (lv (i + d)) := by
  induction d with
  | zero =>
    intro i hi k hk
    obtain ⟨k, rfl⟩ := pos_round (show 0 < k by omega)
    simp only [impl_valueOf.l0]
    rw [if_neg (by omega)]; rfl
  | succ d ih =>
    intro i hi k hk
    obtain ⟨k, rfl⟩ := pos_round (show 0 < k by omega)
    have h := lv_range i
    have := ih (i + 1) (by omega) k (by omega)
    rw [show 65 + ((i + 1 : Nat) : Int) + (d : Int) = 65 + (i : Int) + ((d + 1 : Nat) : Int) by omega, show 65 + ((i + 1 : Nat) : Int) = 65 + (i : Int) + 1 by omega, show i + 1 + d = i + (d + 1) by omega] at this
    simp only [impl_valueOf.l0]
    rw [if_pos (by omega), w64 (x := lv i + 1) (by omega) (by omega), tm (by omega), show (65 + (i : Int) + 1) % 256 = 65 + (i : Int) + 1 by omega, w64 (x := lv i + 1 + 1) (by omega) (by omega)]
    simp only [lv] at this
    by_cases c : (lv i + 1) % 11 = 0
    · rw [if_pos c] at this
      rw [if_pos c, show lv i + 1 + 1 = lv i + 2 by omega]; exact this
    · rw [if_neg c] at this
      rw [if_neg c]; exact this
theorem value_ok (c : Int) (h0 : 65 ≤ c) (h1 : c ≤ 90) (k : Nat) (hk : 30 < k) : impl_valueOf.f k c = some (lv (c - 65).toNat) := by
  have := value_loop (c - 65).toNat 0 (by omega) k (by omega)
  unfold impl_valueOf.f
  rw [show 65 + ((0 : Nat) : Int) + (((c - 65).toNat : Nat) : Int) = c by omega, Nat.zero_add] at this
  exact this
theorem letter_loop (d : Nat) : ∀ (i : Nat), i + d ≤ 25 → ∀ k, d < k → spec_l11Letter.l0 k (d : Int) (lv i) = some (lv (i + d)) := by
  induction d with
  | zero =>
    intro i hi k hk
    obtain ⟨k, rfl⟩ := pos_round (show 0 < k by omega)
    simp only [spec_l11Letter.l0]
    rw [if_neg (by omega)]; rfl
  | succ d ih =>
    intro i hi k hk
    obtain ⟨k, rfl⟩ := pos_round (show 0 < k by omega)
    have h := lv_range i
    have := ih (i + 1) (by omega) k (by omega)
    rw [show i + 1 + d = i + (d + 1) by omega] at this
    simp only [spec_l11Letter.l0]
    rw [if_pos (by omega), w64 (x := lv i + 1) (by omega) (by omega), tm (by omega), w64 (x := ((d + 1 : Nat) : Int) - 1) (by omega) (by omega), w64 (x := lv i + 1 + 1) (by omega) (by omega), show ((d + 1 : Nat) : Int) - 1 = d by omega]
    simp only [lv] at this
    by_cases c : (lv i + 1) % 11 = 0
    · rw [if_pos c] at this
      rw [if_pos c, show lv i + 1 + 1 = lv i + 2 by omega]; exact this
    · rw [if_neg c] at this
      rw [if_neg c]; exact this
theorem letter_ok (c : Int) (h0 : 65 ≤ c) (h1 : c ≤ 90) (k : Nat) (hk : 30 < k) : spec_l11Letter.f k (c - 65) = some (lv (c - 65).toNat) := by
  have := letter_loop (c - 65).toNat 0 (by omega) k (by omega)
  unfold spec_l11Letter.f
  rw [show (((c - 65).toNat : Nat) : Int) = c - 65 by omega, Nat.zero_add] at this
  exact this
/-- A name of four capitals and six digits. -/
def Name (b : List Int) : Prop := b.length = 10 ∧ (∀ i : Int, 0 ≤ i → i < 4 → 65 ≤ rd b i ∧ rd b i ≤ 90) ∧ (∀ i : Int, 4 ≤ i → i < 10 → 48 ≤ rd b i ∧ rd b i ≤ 57)
def pr (b : List Int) (i : Nat) : Int := if i < 4 then lv (rd b i - 65).toNat else rd b i - 48
def sm (b : List Int) : Nat → Int
  | 0 => 0
  | i + 1 => sm b i + pr b i * 2 ^ i
theorem pr_range {b : List Int} (h : Name b) (i : Nat) (hi : i < 10) : 0 ≤ pr b i ∧ pr b i ≤ 60 := by
  unfold pr
  by_cases c : i < 4
  · rw [if_pos c]
    have := h.2.1 i (by omega) (by omega)
    have := lv_range (rd b i - 65).toNat
    omega
  · rw [if_neg c]
    have := h.2.2 i (by omega) (by omega)
    omega
theorem sm_range {b : List Int} (h : Name b) (i : Nat) : i ≤ 10 → 0 ≤ sm b i ∧ sm b i ≤ 60 * 2 ^ i := by
  induction i with
  | zero => intro _; simp [sm]
  | succ i ih =>
    intro hi
    obtain ⟨a0, a1⟩ := ih (by omega)
    obtain ⟨b0, b1⟩ := pr_range h i (by omega)
    simp only [sm]
    have hp : (0 : Int) ≤ 2 ^ i := Int.pow_nonneg (by omega)
    have h1 : 0 ≤ pr b i * 2 ^ i := Int.mul_nonneg b0 hp
    have h2 : pr b i * 2 ^ i ≤ 60 * 2 ^ i := Int.mul_le_mul_of_nonneg_right b1 hp
    rw [Int.pow_succ]
    omega
theorem shl_ok (x : Int) (i : Nat) (h0 : 0 ≤ x) (h1 : x ≤ 60) (hi : i < 10) : shl .i64 x (i : Int) = x * 2 ^ i ∧ x * 2 ^ i ≤ 60 * 1024 ∧ 0 ≤ x * 2 ^ i := by
  have hp : (0 : Int) ≤ 2 ^ i := Int.pow_nonneg (by omega)
  have hq : (2 : Int) ^ i ≤ 1024 := by
    have : (2 : Nat) ^ i ≤ 2 ^ 10 := Nat.pow_le_pow_right (by omega) (by omega)
    have e : ((2 ^ i : Nat) : Int) = (2 : Int) ^ i := by simp
    rw [← e]
    omega
  have h2 : x * 2 ^ i ≤ 60 * 1024 := mul_le2 h1 hq hp (by omega)
  have h3 : 0 ≤ x * 2 ^ i := Int.mul_nonneg h0 hp
  refine ⟨?_, h2, h3⟩
  unfold shl
  rw [show ((i : Int)).toNat = i by omega, Nat.min_eq_left (show i ≤ IntKind.i64.bits by simp [IntKind.bits]; omega), IntKind.wrap_i64]
  omega
theorem pow_le_ (i : Nat) (h : i < 10) : (60 : Int) * 2 ^ i ≤ 60 * 1024 := by
  have : (2 : Nat) ^ i ≤ 2 ^ 10 := Nat.pow_le_pow_right (by omega) (by omega)
  have e : ((2 ^ i : Nat) : Int) = (2 : Int) ^ i := by simp
  rw [← e]
  omega
theorem two_ {s p : Int} (h0 : 0 ≤ s) (h1 : s ≤ 60 * 1024) (g0 : 0 ≤ p) (g1 : p ≤ 60 * 1024) : wrap64 (s + p) = s + p := w64 (by omega) (by omega)
theorem check_loop (n : Nat) (hn_ : n = 10) (b : List Int) (h : Name b) (d : Nat) : ∀ (i : Nat), i + d = 10 → ∀ k, 40 + 2 * d < k → impl_CheckDigit.l0 k (strOfNums b) (sm b i) (i : Int) = some (sm b n % 11 % 10) ∧ spec_CheckDigit.l0 k (strOfNums b) (sm b i) (i : Int) = some (sm b n % 11 % 10) := by
  induction d with
  | zero =>
    intro i hi k hk
    obtain rfl : i = n := by omega
    obtain ⟨k, rfl⟩ := pos_round (show 0 < k by omega)
    have hs := (sm_range h i (by omega)).1
    simp only [impl_CheckDigit.l0, spec_CheckDigit.l0]
    rw [if_neg (by omega), if_neg (by omega), tm hs, tm (Int.emod_nonneg _ (by omega))]
    exact ⟨rfl, rfl⟩
  | succ d ih =>
    intro i hi k hk
    obtain ⟨k, rfl⟩ : ∃ q, k = q + 2 := ⟨k - 2, by omega⟩
    have hz : ((strOfNums b).size : Int) = 10 := by rw [strOfNums_size, h.1]; rfl
    have hl := h.1
    have i9 : i < 10 := by omega
    have hk2 : 40 < k := by omega
    have hr : 0 ≤ rd b i ∧ rd b i ≤ 255 := by
      by_cases c : i < 4
      · have := h.2.1 i (by omega) (by omega); omega
      · have := h.2.2 i (by omega) (by omega); omega
    have A1 : (i : Int) < 10 := by omega
    have A2 : (0 : Int) ≤ i := by omega
    have A3 : (i : Int) < ((strOfNums b).size : Int) := by omega
    have A4 : wrap64 (rd b (i : Int)) = rd b (i : Int) := w64 (by omega) (by omega)
    have hbt := bt_str b i A2 (by omega) hr
    have hi1 : wrap64 ((i : Int) + 1) = ((i + 1 : Nat) : Int) := by rw [w64 (by omega) (by omega)]; omega
    have A5 : i < 4 → (i : Int) < 4 := fun _ => by omega
    have A6 : ¬ i < 4 → ¬ (i : Int) < 4 := fun _ => by omega
    have A7 : ¬ i < 4 → (i : Int) ≥ 4 := fun _ => by omega
    have B1 : i < 4 → 65 ≤ rd b (i : Int) ∧ rd b (i : Int) ≤ 90 := fun c => h.2.1 i A2 (by omega)
    have B2 : ¬ i < 4 → 48 ≤ rd b (i : Int) ∧ rd b (i : Int) ≤ 57 := fun c => h.2.2 i (by omega) (by omega)
    have B3 : wrap64 (rd b (i : Int) - 65) = rd b (i : Int) - 65 := w64 (by omega) (by omega)
    have B4 : wrap64 (rd b (i : Int) - 48) = rd b (i : Int) - 48 := w64 (by omega) (by omega)
    have B5 : ¬ i < 4 → (rd b (i : Int) - 48) % 256 = rd b (i : Int) - 48 := fun c => by have := B2 c; omega
    obtain ⟨r1, r2⟩ := ih (i + 1) (by omega) k (by omega)
    clear ih
    have hs := sm_range h i (Nat.le_of_lt i9)
    have hs2 : sm b i ≤ 60 * 1024 := Int.le_trans hs.2 (pow_le_ i i9)
    obtain ⟨p0, p1⟩ := pr_range h i i9
    obtain ⟨e1, e2, e3⟩ := shl_ok (pr b i) i p0 p1 i9
    have hsm : sm b (i + 1) = sm b i + pr b i * 2 ^ i := rfl
    have hw := two_ hs.1 hs2 e3 e2
    simp only [impl_CheckDigit.l0, spec_CheckDigit.l0]
    rw [if_pos A1, if_pos A2, if_pos A3, if_pos A1, if_pos A2, if_pos A3, hbt, A4]
    by_cases c : i < 4
    · have hc := B1 c
      have hp : pr b i = lv (rd b i - 65).toNat := by unfold pr; rw [if_pos c]
      rw [if_pos (A5 c), if_pos (A5 c), if_pos hc.1, show spec_l1In.f (rd b i) 65 90 = some (decide (65 ≤ rd b i ∧ rd b i ≤ 90)) from in_some _ _ _, Option.bind_some, decide_eq_true hc.2, decide_eq_true hc]
      simp only [impl_CheckDigit.j1, spec_CheckDigit.j1]
      rw [if_pos trivial, if_pos trivial, value_ok (rd b i) hc.1 hc.2 k (Nat.lt_trans (by decide) hk2), B3, letter_ok (rd b i) hc.1 hc.2 k (Nat.lt_trans (by decide) hk2), Option.bind_some, Option.bind_some, if_pos A2, ← hp, e1, hw, hi1, ← hsm]
      exact ⟨r1, by rw [if_pos A2]; exact r2⟩
    · have hc := B2 c
      have hp : pr b i = rd b i - 48 := by unfold pr; rw [if_neg c]
      rw [if_neg (A6 c), if_neg (A6 c)]
      simp only [impl_CheckDigit.j1, spec_CheckDigit.j1]
      simp only [Bool.false_eq_true, if_false]
      rw [if_pos (A7 c), if_pos (A7 c), if_pos hc.1, if_pos hc.2, show spec_l1In.f (rd b i) 48 57 = some (decide (48 ≤ rd b i ∧ rd b i ≤ 57)) from in_some _ _ _, Option.bind_some, decide_eq_true hc, if_pos rfl, if_pos A2, if_pos A2, B5 c, B4, ← hp, e1, hw, hi1, ← hsm]
      exact ⟨r1, r2⟩
theorem check_ok (n : Nat) (hn_ : n = 10) (b : List Int) (h : Name b) (k : Nat) (hk : 70 < k) : impl_CheckDigit.f k (strOfNums b) = some (sm b n % 11 % 10) ∧ spec_CheckDigit.f k (strOfNums b) = some (sm b n % 11 % 10) := by
  have hz : ((strOfNums b).size : Int) = 10 := by rw [strOfNums_size, h.1]; rfl
  have := check_loop n hn_ b h 10 0 (by omega) k (by omega)
  simp only [sm] at this
  unfold impl_CheckDigit.f spec_CheckDigit.f
  rw [if_pos hz, if_pos hz]
  exact this
theorem box_ok (n : Nat) (hn_ : n = 10) (b : List Int) (h : Name b) (x : Int) (h0 : 0 ≤ x) (h1 : x ≤ 255) (k : Nat) (hk : 70 < k) : impl_BoxName.f k (strOfNums (b ++ [x])) = some (decide (x = 48 + sm b n % 11 % 10)) := by
  have hz : ((strOfNums (b ++ [x])).size : Int) = 11 := by rw [strOfNums_size, List.length_append, h.1]; rfl
  have hl : ((10 : Int)) < ((b ++ [x]).length : Int) := by rw [List.length_append, h.1]; simp
  have hb : bt (strOfNums (b ++ [x])) 10 = x := by
    have e : rd (b ++ [x]) 10 = x := by
      have := rd_last (l := b) (x := x)
      rwa [h.1] at this
    rw [bt_str _ _ (by omega) hl (by rw [e]; omega), e]
  unfold impl_BoxName.f
  rw [if_pos hz, if_pos (by omega), if_pos (by omega), str_head b x h.1, (check_ok n hn_ b h k hk).1, Option.bind_some, if_pos (by omega), if_pos (by omega), hb, w64 (by omega) (by omega), show (48 + sm b n % 11 % 10) % 256 = 48 + sm b n % 11 % 10 by omega]
  rfl
theorem box_short (b : List Int) (h : b.length = 10) (k : Nat) : impl_BoxName.f k (strOfNums b) = some false := by
  have hz : ((strOfNums b).size : Int) = 10 := by rw [strOfNums_size, h]; rfl
  unfold impl_BoxName.f
  rw [if_neg (by omega)]
/-! ### the law -/
theorem pr_set (b : List Int) (K : Nat) (c : Int) (hK : 4 ≤ K) (hK2 : K < b.length) (i : Nat) : pr (b.set K c) i = if i = K then c - 48 else pr b i := by
  unfold pr
  by_cases e : i = K
  · subst e
    have := rd_set_eq (l := b) (i := (i : Int)) (x := c) (by omega) (by omega)
    rw [show ((i : Int)).toNat = i by omega] at this
    rw [if_neg (by omega), if_pos rfl, this]
  · have := rd_set_ne (l := b) (i := (K : Int)) (j := (i : Int)) (x := c) (by omega) (by omega) (by omega)
    rw [show ((K : Int)).toNat = K by omega] at this
    rw [if_neg e, this]
theorem sm_set (b : List Int) (K : Nat) (c : Int) (hK : 4 ≤ K) (hK2 : K < b.length) (i : Nat) : sm (b.set K c) i = if i ≤ K then sm b i else sm b i + (c - rd b (K : Int)) * 2 ^ K := by
  induction i with
  | zero => rw [if_pos (by omega)]; rfl
  | succ i ih =>
    simp only [sm]
    rw [ih, pr_set b K c hK hK2]
    by_cases e : i = K
    · subst e
      have hp : pr b i = rd b (i : Int) - 48 := by unfold pr; rw [if_neg (by omega)]
      rw [if_pos (Nat.le_refl i), if_pos rfl, if_neg (by omega), hp, Int.sub_mul, Int.sub_mul, Int.sub_mul]
      omega
    · rw [if_neg e]
      by_cases h : i < K
      · rw [if_pos (by omega), if_pos (by omega)]
      · rw [if_neg (by omega), if_neg (by omega)]
        omega
theorem name_set {b : List Int} (h : Name b) (K : Nat) (c : Int) (hK : 4 ≤ K) (hK2 : K < 10) (h0 : 48 ≤ c) (h1 : c ≤ 57) : Name (b.set K c) := by
  have hl := h.1
  have hset : ∀ i : Int, 0 ≤ i → rd (b.set K c) i = if i = K then c else rd b i := by
    intro i hi
    by_cases e : i = K
    · subst e
      have := rd_set_eq (l := b) (i := (K : Int)) (x := c) (by omega) (by omega)
      rw [show ((K : Int)).toNat = K by omega] at this
      rw [if_pos rfl, this]
    · have := rd_set_ne (l := b) (i := (K : Int)) (j := i) (x := c) (by omega) hi (by omega)
      rw [show ((K : Int)).toNat = K by omega] at this
      rw [if_neg e, this]
  refine ⟨by rw [List.length_set, hl], fun i i0 i1 => ?_, fun i i0 i1 => ?_⟩
  · rw [hset i i0, if_neg (by omega)]; exact h.2.1 i i0 i1
  · rw [hset i (by omega)]
    split
    · omega
    · exact h.2.2 i i0 i1
theorem differ (S x : Int) (K : Nat) (hK : 4 ≤ K) (hK2 : K < 10) (h0 : -9 ≤ x) (h1 : x ≤ 9) (hx : x ≠ 0) (h : S % 11 % 10 = (S + x * 2 ^ K) % 11 % 10) : S % 11 % 10 = 0 := by
  rcases (show K = 4 ∨ K = 5 ∨ K = 6 ∨ K = 7 ∨ K = 8 ∨ K = 9 by omega) with rfl | rfl | rfl | rfl | rfl | rfl
  · rw [show (2 : Int) ^ 4 = 16 by decide] at h; omega
  · rw [show (2 : Int) ^ 5 = 32 by decide] at h; omega
  · rw [show (2 : Int) ^ 6 = 64 by decide] at h; omega
  · rw [show (2 : Int) ^ 7 = 128 by decide] at h; omega
  · rw [show (2 : Int) ^ 8 = 256 by decide] at h; omega
  · rw [show (2 : Int) ^ 9 = 512 by decide] at h; omega
theorem at_ok {l : List Int} (hb : Bytes l) (hl : l.length ≤ 1048576) {i : Int} (h0 : 0 ≤ i) (h1 : i ≤ 1000000000) : laws_at.f l i = some (atV l i) := at_some hb hl h0 h1
theorem third (n : Nat) (hn_ : n = 10) (c : List Int) (hb : Bytes c) (hc : c.length ≤ 1048576) (b : List Int) (h : Name b) (k : Nat) (hk : 100 < k) : laws_FnDigits.j3 k c b (sm b n % 11 % 10) false = some true := by
  obtain ⟨a0, a1⟩ := atV_range hb (i := 13) (by omega)
  obtain ⟨c0, c1⟩ := atV_range hb (i := 14) (by omega)
  obtain ⟨k, rfl⟩ := pos_round (show 0 < k by omega)
  have hl := h.1
  simp only [laws_FnDigits.j3]
  rw [if_neg (by simp), at_ok hb hc (by omega) (by omega), Option.bind_some, tm a0, w64 (x := 4 + atV c 13 % 6) (by omega) (by omega), if_pos (by omega), if_pos (by omega), at_ok hb hc (by omega) (by omega), Option.bind_some, tm c0]
  generalize hK : (4 + atV c 13 % 6).toNat = K
  rw [show 4 + atV c 13 % 6 = (K : Int) by omega]
  have hd := h.2.2 (K : Int) (by omega) (by omega)
  rw [show (rd b (K : Int) - 48) % 256 = rd b (K : Int) - 48 by omega, w64 (x := rd b (K : Int) - 48 + 1 + atV c 14 % 9) (by omega) (by omega), tm (by omega), w64 (by omega) (by omega), show (48 + (rd b (K : Int) - 48 + 1 + atV c 14 % 9) % 10) % 256 = 48 + (rd b (K : Int) - 48 + 1 + atV c 14 % 9) % 10 by omega, Option.bind_some]
  generalize hC : 48 + (rd b (K : Int) - 48 + 1 + atV c 14 % 9) % 10 = C
  have hn := name_set h K C (by omega) (by omega) (by omega) (by omega)
  rw [if_pos (by omega), if_pos (by rw [List.length_set]; omega), w64 (by omega) (by omega), show (48 + sm b n % 11 % 10) % 256 = 48 + sm b n % 11 % 10 by omega, box_ok n hn_ _ hn _ (by omega) (by omega) k (by omega), Option.bind_some, sm_set b K C (by omega) (by omega), if_neg (show ¬ n ≤ K by omega)]
  by_cases e : 48 + sm b n % 11 % 10 = 48 + (sm b n + (C - rd b (K : Int)) * 2 ^ K) % 11 % 10
  · rw [decide_eq_true e, if_pos rfl, differ (sm b n) (C - rd b (K : Int)) K (by omega) (by omega) (by omega) (by omega) (by omega) (Int.add_left_cancel e)]
    rfl
  · rw [decide_eq_false e, if_neg (by simp)]
theorem second (n : Nat) (hn_ : n = 10) (c : List Int) (hb : Bytes c) (hc : c.length ≤ 1048576) (b : List Int) (h : Name b) (k : Nat) (hk : 110 < k) : laws_FnDigits.j2 k c b (sm b n % 11 % 10) false = some true := by
  obtain ⟨a0, a1⟩ := atV_range hb (i := 12) (by omega)
  obtain ⟨k, rfl⟩ := pos_round (show 0 < k by omega)
  have hl := h.1
  simp only [laws_FnDigits.j2]
  rw [if_neg (by simp), if_pos (by omega), at_ok hb hc (by omega) (by omega), Option.bind_some, if_pos (by omega), tm a0, w64 (x := sm b n % 11 % 10 + 1) (by omega) (by omega), w64 (x := sm b n % 11 % 10 + 1 + atV c 12 % 9) (by omega) (by omega), tm (by omega), w64 (by omega) (by omega), box_ok n hn_ b h _ (by omega) (by omega) k (by omega), Option.bind_some, decide_eq_false (by omega), if_neg (by simp), box_short b h.1, Option.bind_some]
  exact third n hn_ c hb hc b h k (by omega)
theorem first (n : Nat) (hn_ : n = 10) (c : List Int) (hb : Bytes c) (hc : c.length ≤ 1048576) (b : List Int) (h : Name b) (k : Nat) (hk : 120 < k) : laws_FnDigits.l1 k c b 10 = some true := by
  obtain ⟨k, rfl⟩ := pos_round (show 0 < k by omega)
  have hl := h.1
  obtain ⟨e1, e2⟩ := check_ok n hn_ b h k (by omega)
  simp only [laws_FnDigits.l1]
  rw [if_neg (by omega), e1, Option.bind_some, if_neg (by omega), if_neg (by omega), e2, Option.bind_some, if_pos rfl, if_pos (by omega), w64 (by omega) (by omega), box_ok n hn_ b h _ (by omega) (by omega) k (by omega), Option.bind_some, decide_eq_true (by omega)]
  exact second n hn_ c hb hc b h k (by omega)
/-- Digits from 4 up to i are drawn. -/
theorem digits_loop (c : List Int) (hb : Bytes c) (hc : c.length ≤ 1048576) (d : Nat) : ∀ (b : List Int) (i : Nat), i + d = 10 → 4 ≤ i → b.length = 10 → (∀ j : Int, 0 ≤ j → j < 4 → 65 ≤ rd b j ∧ rd b j ≤ 90) → (∀ j : Int, 4 ≤ j → j < i → 48 ≤ rd b j ∧ rd b j ≤ 57) → ∀ k, 130 + d < k → laws_FnDigits.l1 k c b (i : Int) = some true := by
  induction d with
  | zero =>
    intro b i hi h4 hl h1 h2 k hk
    obtain rfl : i = 10 := by omega
    exact first _ rfl c hb hc b ⟨hl, h1, fun j j0 j1 => h2 j j0 (by omega)⟩ k (by omega)
  | succ d ih =>
    intro b i hi h4 hl h1 h2 k hk
    obtain ⟨k, rfl⟩ := pos_round (show 0 < k by omega)
    obtain ⟨a0, a1⟩ := atV_range hb (i := (i : Int)) (by omega)
    have hset : ∀ (x : Int) (j : Int), 0 ≤ j → rd (b.set i x) j = if j = i then x else rd b j := by
      intro x j hj
      by_cases e : j = i
      · subst e
        have := rd_set_eq (l := b) (i := (i : Int)) (x := x) (by omega) (by omega)
        rw [show ((i : Int)).toNat = i by omega] at this
        rw [if_pos rfl, this]
      · have := rd_set_ne (l := b) (i := (i : Int)) (j := j) (x := x) (by omega) hj (by omega)
        rw [show ((i : Int)).toNat = i by omega] at this
        rw [if_neg e, this]
    have := ih (b.set i (48 + atV c i % 10)) (i + 1) (by omega) (by omega) (by rw [List.length_set, hl]) (fun j j0 j1 => by rw [hset _ j j0, if_neg (by omega)]; exact h1 j j0 j1) (fun j j0 j1 => by
      rw [hset _ j (by omega)]
      split
      · omega
      · exact h2 j j0 (by omega)) k (by omega)
    simp only [laws_FnDigits.l1]
    rw [if_pos (by omega), at_ok hb hc (by omega) (by omega), Option.bind_some, if_pos (by omega), if_pos (by omega), tm a0, w64 (x := 48 + atV c i % 10) (by omega) (by omega), show (48 + atV c i % 10) % 256 = 48 + atV c i % 10 by omega, w64 (x := (i : Int) + 1) (by omega) (by omega), show ((i : Int)).toNat = i by omega, show (i : Int) + 1 = ((i + 1 : Nat) : Int) by omega]
    exact this
theorem letters_loop (c : List Int) (hb : Bytes c) (hc : c.length ≤ 1048576) (d : Nat) : ∀ (b : List Int) (i : Nat), i + d = 4 → b.length = 10 → (∀ j : Int, 0 ≤ j → j < i → 65 ≤ rd b j ∧ rd b j ≤ 90) → ∀ k, 140 + d < k → laws_FnDigits.l0 k c b (i : Int) = some true := by
  induction d with
  | zero =>
    intro b i hi hl h1 k hk
    obtain rfl : i = 4 := by omega
    obtain ⟨k, rfl⟩ := pos_round (show 0 < k by omega)
    simp only [laws_FnDigits.l0]
    rw [if_neg (by omega)]
    exact digits_loop c hb hc 6 b 4 (by omega) (by omega) hl (fun j j0 j1 => h1 j j0 (by omega)) (fun j j0 j1 => by omega) k (by omega)
  | succ d ih =>
    intro b i hi hl h1 k hk
    obtain ⟨k, rfl⟩ := pos_round (show 0 < k by omega)
    obtain ⟨a0, a1⟩ := atV_range hb (i := (i : Int)) (by omega)
    have hset : ∀ (x : Int) (j : Int), 0 ≤ j → rd (b.set i x) j = if j = i then x else rd b j := by
      intro x j hj
      by_cases e : j = i
      · subst e
        have := rd_set_eq (l := b) (i := (i : Int)) (x := x) (by omega) (by omega)
        rw [show ((i : Int)).toNat = i by omega] at this
        rw [if_pos rfl, this]
      · have := rd_set_ne (l := b) (i := (i : Int)) (j := j) (x := x) (by omega) hj (by omega)
        rw [show ((i : Int)).toNat = i by omega] at this
        rw [if_neg e, this]
    have := ih (b.set i (65 + atV c i % 26)) (i + 1) (by omega) (by rw [List.length_set, hl]) (fun j j0 j1 => by
      rw [hset _ j (by omega)]
      split
      · omega
      · exact h1 j j0 (by omega)) k (by omega)
    simp only [laws_FnDigits.l0]
    rw [if_pos (by omega), at_ok hb hc (by omega) (by omega), Option.bind_some, if_pos (by omega), if_pos (by omega), tm a0, w64 (x := 65 + atV c i % 26) (by omega) (by omega), show (65 + atV c i % 26) % 256 = 65 + atV c i % 26 by omega, w64 (x := (i : Int) + 1) (by omega) (by omega), show ((i : Int)).toNat = i by omega, show (i : Int) + 1 = ((i + 1 : Nat) : Int) by omega]
    exact this
theorem FnDigits : laws_FnDigits.Pure := by
  intro l _ _ hw
  have hb := bytes_of hw
  refine ⟨200, ?_⟩
  unfold laws_FnDigits.f laws_big.f
  by_cases hn : (l.length : Int) > 1048576
  · rw [Option.bind_some, if_pos (by simpa using hn)]
  · rw [Option.bind_some, if_neg (by simpa using hn)]
    exact letters_loop l hb (by omega) 4 _ 0 (by omega) rfl (fun j j0 j1 => by omega) 200 (by omega)

end Go.Proofs.Ytbhdnhpkpbhilaa.Pure
