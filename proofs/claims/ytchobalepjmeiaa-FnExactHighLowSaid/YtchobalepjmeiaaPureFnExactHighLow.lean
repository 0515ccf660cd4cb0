/- The program's HighLow returns what the reference's returns, for all arguments, and changes none. -/
import Derived.Test.YtchobalepjmeiaaPFnExactHighLowx4
import Derived.Test.YtchobalepjmeiaaKit
set_option linter.unusedVariables false
set_option linter.unusedSimpArgs false
namespace Go.Proofs.Ytchobalepjmeiaa.Pure
open Go.RowKit Go.Proofs.Ytchobalepjmeiaa.PFnExactHighLow Go.Proofs.YtchobalepjmeiaaW.PrintWords Go.Proofs.YtchobalepjmeiaaW.PrintLast Go.Proofs.YtchobalepjmeiaaW.PrintMore Go.Proofs.YtchobalepjmeiaaW.Kit

/-! ### laws.eqIntS, markIntS, heldIntS -/
theorem eqI_loop (l : List Int) (hn : l.length ≤ 1000000000) (d : Nat) : ∀ (k : Nat) (i : Int), 0 ≤ i → i ≤ l.length → (l.length : Int) - i = d → d < k → laws_eqIntS.l0 k l l i = some true := by
  induction d with
  | zero =>
    intro k i h0 h1 hd hk
    obtain ⟨k, rfl⟩ := pos_round (show 0 < k by omega)
    simp only [laws_eqIntS.l0]
    rw [if_neg (by omega)]
  | succ d ih =>
    intro k i h0 h1 hd hk
    obtain ⟨k, rfl⟩ := pos_round (show 0 < k by omega)
    simp only [laws_eqIntS.l0]
    rw [if_pos (by omega), if_pos h0, if_pos (by omega), w64 (x := i + 1) (by omega) (by omega)]
    simp only [if_true]
    exact ih k (i + 1) (by omega) (by omega) (by omega) (by omega)
theorem eqI (l : List Int) (hn : l.length ≤ 1000000000) (k : Nat) (hk : l.length < k) : laws_eqIntS.f k l l = some true := by
  unfold laws_eqIntS.f
  rw [if_pos rfl]
  exact eqI_loop l hn l.length k 0 (by omega) (by omega) (by omega) hk
theorem markI_loop (d : Nat) : ∀ (k : Nat) (l : List Int) (c i : Int), l.length ≤ 1000000000 → 0 ≤ i → i ≤ l.length → (l.length : Int) - i = d → d < k → 0 ≤ c → c + d ≤ 2000000000 →
    ∃ r, laws_markIntS.l0 k l c i = some (c + d, r) ∧ r.length = l.length ∧ ∀ j : Int, 0 ≤ j → j < l.length → rd r j = if j < i then rd l j else c + (j - i) := by
  induction d with
  | zero =>
    intro k l c i hn h0 h1 hd hk hc hc1
    obtain ⟨k, rfl⟩ := pos_round (show 0 < k by omega)
    simp only [laws_markIntS.l0]
    rw [if_neg (by omega)]
    exact ⟨l, by simp, rfl, fun j hj hj1 => by rw [if_pos (by omega)]⟩
  | succ d ih =>
    intro k l c i hn h0 h1 hd hk hc hc1
    obtain ⟨k, rfl⟩ := pos_round (show 0 < k by omega)
    obtain ⟨r, hr, hl, hj⟩ := ih k (l.set i.toNat c) (c + 1) (i + 1) (by simpa using hn) (by omega) (by simp; omega) (by simp; omega) (by omega) (by omega) (by omega)
    simp only [laws_markIntS.l0]
    rw [if_pos (by omega), if_pos h0, w64 (x := i + 1) (by omega) (by omega), w64 (x := c + 1) (by omega) (by omega), hr]
    refine ⟨r, ?_, by simpa using hl, fun j hj0 hj1 => ?_⟩
    · congr 2; omega
    · rw [hj j hj0 (by simpa using hj1)]
      by_cases e : j = i
      · subst e
        rw [if_pos (by omega), if_neg (by omega), rd_set_eq hj0 hj1]; omega
      · by_cases e2 : j < i
        · rw [if_pos (by omega), if_pos e2, rd_set_ne h0 hj0 (Ne.symm e)]
        · rw [if_neg (by omega), if_neg e2]; omega
theorem markI (l : List Int) (hn : l.length ≤ 1000000000) (k : Nat) (hk : l.length < k) :
    ∃ r, laws_markIntS.f k l 1 = some (1 + (l.length : Int), r) ∧ r.length = l.length ∧ ∀ j : Int, 0 ≤ j → j < l.length → rd r j = 1 + j := by
  obtain ⟨r, hr, hl, hj⟩ := markI_loop l.length k l 1 0 hn (by omega) (by omega) (by omega) hk (by omega) (by omega)
  exact ⟨r, hr, hl, fun j h0 h1 => by rw [hj j h0 h1, if_neg (by omega)]; omega⟩
theorem heldI_loop (l : List Int) (hn : l.length ≤ 1000000000) (d : Nat) : ∀ (k : Nat) (c i : Int), 0 ≤ i → i ≤ l.length → (l.length : Int) - i = d → d < k → 0 ≤ c → c + d ≤ 2000000000 → (∀ j : Int, i ≤ j → j < l.length → rd l j = c + (j - i)) →
    laws_heldIntS.l0 k l c i = some (c + d) := by
  induction d with
  | zero =>
    intro k c i h0 h1 hd hk hc hc1 hr
    obtain ⟨k, rfl⟩ := pos_round (show 0 < k by omega)
    simp only [laws_heldIntS.l0]
    rw [if_neg (by omega)]; simp
  | succ d ih =>
    intro k c i h0 h1 hd hk hc hc1 hr
    obtain ⟨k, rfl⟩ := pos_round (show 0 < k by omega)
    simp only [laws_heldIntS.l0]
    rw [if_pos (by omega), if_pos h0, if_pos (by rw [hr i (by omega) (by omega)]; omega), w64 (x := i + 1) (by omega) (by omega), w64 (x := c + 1) (by omega) (by omega)]
    rw [ih k (c + 1) (i + 1) (by omega) (by omega) (by omega) (by omega) (by omega) (by omega) (fun j h2 h3 => by rw [hr j (by omega) h3]; omega)]
    congr 1; omega
theorem heldI (l : List Int) (hn : l.length ≤ 1000000000) (hr : ∀ j : Int, 0 ≤ j → j < l.length → rd l j = 1 + j) (k : Nat) (hk : l.length < k) : laws_heldIntS.f k l 1 = some (1 + (l.length : Int)) :=
  heldI_loop l hn l.length k 1 0 (by omega) (by omega) (by omega) hk (by omega) (by omega) (fun j h0 h1 => by rw [hr j h0 h1]; omega)
/-! ### rows of floats -/
theorem rdF_get (l : List Nat) (i : Nat) : rdOf (0 : Nat) l (i : Int) = l.getD i 0 := by simp [rdOf]
theorem rdF_set_eq {l : List Nat} {i : Int} {x : Nat} (h0 : 0 ≤ i) (h1 : i < l.length) : rdOf (0 : Nat) (l.set i.toNat x) i = x := by
  simp [rdOf, List.getD_eq_getElem?_getD, List.getElem?_set, show i.toNat < l.length by omega]
theorem rdF_set_ne {l : List Nat} {i j : Int} {x : Nat} (h0 : 0 ≤ i) (hj : 0 ≤ j) (h : i ≠ j) : rdOf (0 : Nat) (l.set i.toNat x) j = rdOf (0 : Nat) l j := by
  simp [rdOf, List.getD_eq_getElem?_getD, List.getElem?_set, show ¬ i.toNat = j.toNat by omega]
theorem extF {l m : List Nat} (h : l.length = m.length) (hr : ∀ i : Int, 0 ≤ i → i < l.length → rdOf (0 : Nat) l i = rdOf (0 : Nat) m i) : l = m := by
  apply List.ext_getElem h
  intro i h1 h2
  have := hr i (by omega) (by omega)
  simpa [rdOf, List.getD_eq_getElem?_getD, List.getElem?_eq_getElem h1, List.getElem?_eq_getElem h2] using this
theorem toF_loop (l : List Nat) (hn : l.length ≤ 1048576) (d : Nat) : ∀ (m : List Nat) (i : Int), 0 ≤ i → i + d = l.length → m.length = l.length → (∀ j : Int, 0 ≤ j → j < i → rdOf (0 : Nat) m j = rdOf (0 : Nat) l j) → ∀ k, d < k → laws_toFloat64S.l0 k l m i = some l := by
  induction d with
  | zero =>
    intro m i h0 hi hm hj k hk
    obtain ⟨k, rfl⟩ := pos_round (show 0 < k by omega)
    simp only [laws_toFloat64S.l0]
    rw [if_neg (by omega), extF hm fun j j0 j1 => hj j j0 (by omega)]
  | succ d ih =>
    intro m i h0 hi hm hj k hk
    obtain ⟨k, rfl⟩ := pos_round (show 0 < k by omega)
    simp only [laws_toFloat64S.l0]
    rw [if_pos (by omega), if_pos h0, if_pos (by omega), w64 (x := i + 1) (by omega) (by omega)]
    refine ih _ (i + 1) (by omega) (by omega) (by rw [List.length_set, hm]) (fun j j0 j1 => ?_) k (by omega)
    by_cases e : j = i
    · subst e; rw [rdF_set_eq h0 (by omega)]
    · rw [rdF_set_ne h0 j0 (by omega)]; exact hj j j0 (by omega)
theorem toF_ok (l : List Nat) (hn : l.length ≤ 1048576) (k : Nat) (hk : l.length < k) : laws_toFloat64S.f k l = some l := by
  unfold laws_toFloat64S.f
  rw [if_pos (by omega), if_pos (by omega)]
  exact toF_loop l hn l.length _ 0 (by omega) (by omega) (by simp) (fun j j0 j1 => by omega) k hk
/-- One over what stands to nought as equal is told. -/
theorem div_some (x : Nat) (h : (FloatKind.f64.format.order x (0 : Nat) == some .eq) = true) : (floatBits .quo .f64 (4607182418800017408 : Nat) x).isSome = true := by
  have e1 : FloatKind.f64.format.read 4607182418800017408 = .number false 4503599627370496 (-52) := by decide +kernel
  have e0 : ∃ s m i, FloatKind.f64.format.read 0 = .number s m i := ⟨false, 0, -1074, by decide +kernel⟩
  obtain ⟨s0, m0, i0, e0⟩ := e0
  show (FloatKind.f64.format.div 4607182418800017408 x).isSome = true
  unfold Ieee.Format.div
  unfold Ieee.Format.order at h
  rw [e0] at h
  rw [e1]
  cases hx : FloatKind.f64.format.read x with
  | nan => rw [hx] at h; simp [Ieee.Datum.order] at h
  | infinity s => rw [hx] at h; cases s <;> simp [Ieee.Datum.order] at h
  | number s m i =>
    simp only [Ieee.Datum.quotient]
    split <;> simp
theorem same_self (x : Nat) (k : Nat) : laws_sameFloat.f (k + 1) x x = some true := by
  unfold laws_sameFloat.f
  by_cases c : (FloatKind.f64.format.order x x != some .eq) = true
  · rw [if_pos c]
    simp only [laws_sameFloat.j0]
    rw [if_pos trivial, if_pos c, c]
  · rw [if_neg c]
    have cf := Bool.eq_false_iff.2 c
    rw [cf]
    simp only [laws_sameFloat.j0]
    have ce : (FloatKind.f64.format.order x x == some .eq) = true := by
      simp only [bne, Bool.not_eq_false'] at cf
      exact cf
    rw [if_neg (by simp)]
    by_cases c0 : (FloatKind.f64.format.order x (0 : Nat) == some .eq) = true
    · rw [if_pos c0, if_pos c0, if_pos (div_some x c0), if_pos (div_some x c0), beq_self_eq_true]
    · rw [if_neg c0, ce]
theorem eqF_loop (l : List Nat) (hn : l.length ≤ 1048576) (d : Nat) : ∀ (i : Int), 0 ≤ i → i + d = l.length → ∀ k, d + 1 < k → laws_eqFloat64S.l0 k l l i = some true := by
  induction d with
  | zero =>
    intro i h0 hi k hk
    obtain ⟨k, rfl⟩ := pos_round (show 0 < k by omega)
    simp only [laws_eqFloat64S.l0]
    rw [if_neg (by omega)]
  | succ d ih =>
    intro i h0 hi k hk
    obtain ⟨k, rfl⟩ : ∃ q, k = q + 1 + 1 := ⟨k - 2, by omega⟩
    simp only [laws_eqFloat64S.l0]
    rw [if_pos (by omega), if_pos h0, if_pos (by omega), same_self, Option.bind_some, if_pos rfl, w64 (x := i + 1) (by omega) (by omega)]
    exact ih (i + 1) (by omega) (by omega) (k + 1) (by omega)
theorem eqF_ok (l : List Nat) (hn : l.length ≤ 1048576) (k : Nat) (hk : l.length + 1 < k) : laws_eqFloat64S.f k l l = some true := by
  unfold laws_eqFloat64S.f
  rw [if_pos rfl]
  exact eqF_loop l hn l.length 0 (by omega) (by omega) k hk
theorem markF_loop (d : Nat) : ∀ (l : List Nat) (c i : Int), l.length ≤ 1048576 → 0 ≤ i → i + d = l.length → 0 ≤ c → c ≤ 1 + i → ∀ k, d < k → ∃ m, laws_markFloat64S.l0 k l c i = some (c + d, m) := by
  induction d with
  | zero =>
    intro l c i hn h0 hi hc0 hc1 k hk
    obtain ⟨k, rfl⟩ := pos_round (show 0 < k by omega)
    simp only [laws_markFloat64S.l0]
    rw [if_neg (by omega)]
    exact ⟨l, by simp⟩
  | succ d ih =>
    intro l c i hn h0 hi hc0 hc1 k hk
    obtain ⟨k, rfl⟩ := pos_round (show 0 < k by omega)
    obtain ⟨m, hm⟩ := ih (l.set i.toNat (floatOfInt .f64 c)) (c + 1) (i + 1) (by rw [List.length_set]; exact hn) (by omega) (by rw [List.length_set]; omega) (by omega) (by omega) k (by omega)
    refine ⟨m, ?_⟩
    simp only [laws_markFloat64S.l0]
    rw [if_pos (by omega), if_pos h0, w64 (x := c + 1) (by omega) (by omega), w64 (x := i + 1) (by omega) (by omega), hm]
    congr 2
    omega
/-! ### the highs and lows -/
theorem own_int (l : List Int) (h : l.length ≤ 1000000) : impl_own_int.f l = some l := by
  unfold impl_own_int.f
  rw [if_pos (by omega), if_pos (by omega), Option.bind_some, if_pos (by simp; omega)]; rfl
theorem pick4 {α : Type} (a b c d : Bool) (A B : α) : (if a = true then (if b = true then A else (if c = true then (if d = true then A else B) else B)) else (if c = true then (if d = true then A else B) else B)) = if ((a && b) || (c && d)) = true then A else B := by
  cases a <;> cases b <;> cases c <;> cases d <;> rfl
/-- Whether a place is told. -/
def turn (l : List Nat) (i : Int) : Bool :=
  ((FloatKind.f64.format.order (rdOf (0 : Nat) l i) (rdOf (0 : Nat) l (i - 1)) == some .gt) && (FloatKind.f64.format.order (rdOf (0 : Nat) l i) (rdOf (0 : Nat) l (i + 1)) == some .gt || FloatKind.f64.format.order (rdOf (0 : Nat) l i) (rdOf (0 : Nat) l (i + 1)) == some .eq)) ||
  ((FloatKind.f64.format.order (rdOf (0 : Nat) l i) (rdOf (0 : Nat) l (i - 1)) == some .lt) && (FloatKind.f64.format.order (rdOf (0 : Nat) l i) (rdOf (0 : Nat) l (i + 1)) == some .lt || FloatKind.f64.format.order (rdOf (0 : Nat) l i) (rdOf (0 : Nat) l (i + 1)) == some .eq))
theorem impl_step (l : List Nat) (hn : l.length ≤ 1500) (out : List Int) (ho : out.length ≤ 2000) (i : Int) (h1 : 1 ≤ i) (h2 : i < (l.length : Int) - 1) (k : Nat) : impl_HighLow.l0 (k + 1) l out i = if turn l i = true then impl_HighLow.l0 k l (out ++ [i]) (i + 1) else impl_HighLow.l0 k l out (i + 1) := by
  rw [impl_HighLow.l0, w64 (x := (l.length : Int) - 1) (by omega) (by omega), if_pos h2, if_pos (by omega), if_pos (by omega), w64 (x := i - 1) (by omega) (by omega), if_pos (by omega), if_pos (by omega), w64 (x := i + 1) (by omega) (by omega), if_pos (by omega), if_pos (by omega), if_pos (show out.length < 17592186044416 by omega), pick4]
  rfl
theorem spec_step (l : List Nat) (hn : l.length ≤ 1500) (out : List Int) (ho : out.length ≤ 2000) (i : Int) (h1 : 1 ≤ i) (h2 : i < (l.length : Int) - 1) (k : Nat) : spec_HighLow.l0 (k + 2) l out i = if turn l i = true then spec_HighLow.l0 k l (out ++ [i]) (i + 1) else spec_HighLow.l0 k l out (i + 1) := by
  rw [spec_HighLow.l0, w64 (x := i + 1) (by omega) (by omega), if_pos (by omega), decide_eq_true (by omega), spec_HighLow.j1, if_pos rfl, w64 (x := i - 1) (by omega) (by omega), if_pos (by omega), if_pos (by omega), if_pos (by omega), if_pos (by omega), w64 (x := i + 1) (by omega) (by omega), if_pos (by omega), if_pos (by omega), if_pos (show out.length < 17592186044416 by omega), pick4]
  rfl
theorem hl_loop (l : List Nat) (hn : l.length ≤ 1500) (d : Nat) : ∀ (out : List Int) (i : Int), 1 ≤ i → i ≤ 1501 → (l.length : Int) - 1 - i ≤ d → (out.length : Int) ≤ i →
    ∃ r, r.length ≤ 1501 ∧ ∀ k, 2 * d + 2 < k → impl_HighLow.l0 k l out i = some r ∧ spec_HighLow.l0 k l out i = some r := by
  have done : ∀ (out : List Int) (i : Int), 1 ≤ i → i ≤ 1501 → ¬ i < (l.length : Int) - 1 → (out.length : Int) ≤ i → ∃ r, r.length ≤ 1501 ∧ ∀ k, 2 < k → impl_HighLow.l0 k l out i = some r ∧ spec_HighLow.l0 k l out i = some r := by
    intro out i h1 h3 h2 ho
    refine ⟨out, by omega, fun k hk => ?_⟩
    obtain ⟨k, rfl⟩ : ∃ q, k = q + 2 := ⟨k - 2, by omega⟩
    rw [impl_HighLow.l0, spec_HighLow.l0, w64 (x := (l.length : Int) - 1) (by omega) (by omega), if_neg h2, w64 (x := i + 1) (by omega) (by omega), if_neg (by omega), spec_HighLow.j1, if_neg (by simp), own_int out (by omega), Option.bind_some]
    exact ⟨rfl, rfl⟩
  induction d with
  | zero =>
    intro out i h1 h3 hd ho
    obtain ⟨r, r0, hr⟩ := done out i h1 h3 (by omega) ho
    exact ⟨r, r0, fun k hk => hr k (by omega)⟩
  | succ d ih =>
    intro out i h1 h3 hd ho
    by_cases h2 : i < (l.length : Int) - 1
    · by_cases c : turn l i = true
      · obtain ⟨r, r0, hr⟩ := ih (out ++ [i]) (i + 1) (by omega) (by omega) (by omega) (by simp; omega)
        refine ⟨r, r0, fun k hk => ?_⟩
        obtain ⟨k, rfl⟩ : ∃ q, k = q + 2 := ⟨k - 2, by omega⟩
        rw [impl_step l hn out (by omega) i h1 h2, spec_step l hn out (by omega) i h1 h2, if_pos c, if_pos c]
        exact ⟨(hr (k + 1) (by omega)).1, (hr k (by omega)).2⟩
      · obtain ⟨r, r0, hr⟩ := ih out (i + 1) (by omega) (by omega) (by omega) (by omega)
        refine ⟨r, r0, fun k hk => ?_⟩
        obtain ⟨k, rfl⟩ : ∃ q, k = q + 2 := ⟨k - 2, by omega⟩
        rw [impl_step l hn out (by omega) i h1 h2, spec_step l hn out (by omega) i h1 h2, if_neg c, if_neg c]
        exact ⟨(hr (k + 1) (by omega)).1, (hr k (by omega)).2⟩
    · obtain ⟨r, r0, hr⟩ := done out i h1 h3 h2 ho
      exact ⟨r, r0, fun k hk => hr k (by omega)⟩
theorem hl_same (l : List Nat) (hn : l.length ≤ 1048576) : ∃ r, r.length ≤ 1501 ∧ ∀ k, 4000 < k → impl_HighLow.f k l = some r ∧ spec_HighLow.f k l = some r := by
  by_cases c : (l.length : Int) > 1500
  · refine ⟨[], by simp, fun k hk => ?_⟩
    obtain ⟨k, rfl⟩ : ∃ q, k = q + 2 := ⟨k - 2, by omega⟩
    unfold impl_HighLow.f spec_HighLow.f
    rw [if_pos c, spec_HighLow.l0, w64 (x := (1 : Int) + 1) (by omega) (by omega), if_pos (by omega), decide_eq_false (by omega), spec_HighLow.j1, if_neg (by simp)]
    exact ⟨rfl, rfl⟩
  · obtain ⟨r, r0, hr⟩ := hl_loop l (by omega) l.length [] 1 (by omega) (by omega) (by omega) (by simp)
    refine ⟨r, r0, fun k hk => ?_⟩
    unfold impl_HighLow.f spec_HighLow.f
    rw [if_neg c]
    exact hr k (by omega)
theorem FnExactHighLow : laws_FnExactHighLow.Pure := by
  intro l _
  refine ⟨1060001, ?_⟩
  unfold laws_FnExactHighLow.f
  by_cases c : (l.length : Int) > 1048576
  · rw [if_pos c]
  · have hn : l.length ≤ 1048576 := by omega
    obtain ⟨r, r0, hr⟩ := hl_same l hn
    obtain ⟨m, hm⟩ := markF_loop l.length l 1 0 hn (by omega) (by omega) (by omega) (by omega) 1060001 (by omega)
    have hmf : laws_markFloat64S.f 1060001 l 1 = some (1 + (l.length : Int), m) := hm
    obtain ⟨w, w1, w2, w3⟩ := markI r (by omega) 1060000 (by omega)
    have hh := heldI w (by omega) (fun j j0 j1 => w3 j j0 (by omega)) 1060000 (by omega)
    rw [w2] at hh
    rw [if_neg c, toF_ok l hn _ (by omega), Option.bind_some, (hr _ (by omega)).2, Option.bind_some, Option.bind_some, (hr _ (by omega)).1, Option.bind_some, eqI r (by omega) _ (by omega), Option.bind_some, if_pos rfl, Option.bind_some, eqF_ok l hn _ (by omega), Option.bind_some, if_pos rfl, hmf, Option.bind_some]
    dsimp only
    rw [if_neg (by omega), Option.bind_some, show (1060001 : Nat) = 1060000 + 1 from rfl]
    simp only [laws_FnExactHighLow.j0]
    rw [if_neg (by simp), w1, Option.bind_some]
    dsimp only
    rw [hh, Option.bind_some, if_neg (by omega), if_pos rfl, toF_ok l hn _ (by omega), Option.bind_some, (hr _ (by omega)).1, Option.bind_some, eqI r (by omega) _ (by omega), Option.bind_some, if_pos rfl, Option.bind_some, if_neg (by omega), if_pos rfl]

end Go.Proofs.Ytchobalepjmeiaa.Pure
