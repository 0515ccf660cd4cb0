/- The program's WindowsOf returns what the reference's returns, for all arguments, and changes none. -/
import Derived.Test.YtdjbglhhjffnkaaPFnExactWindowsOfx3
import Derived.Test.YtdjbglhhjffnkaaKit
set_option linter.unusedVariables false
set_option linter.unusedSimpArgs false
namespace Go.Proofs.Ytdjbglhhjffnkaa.Pure
open Go.RowKit Go.Proofs.Ytdjbglhhjffnkaa.PFnExactWindowsOf Go.Proofs.YtdjbglhhjffnkaaW.PrintWords Go.Proofs.YtdjbglhhjffnkaaW.PrintLast Go.Proofs.YtdjbglhhjffnkaaW.PrintMore Go.Proofs.YtdjbglhhjffnkaaW.Kit

theorem rd52_lt {l : List S52} {i : Int} (h0 : 0 ≤ i) (h1 : i < l.length) : ∃ h : i.toNat < l.length, rd_T52 l i = l[i.toNat]'h := by
  have h : i.toNat < l.length := by omega
  exact ⟨h, by simp [rd_T52, List.getD_eq_getElem?_getD, List.getElem?_eq_getElem h]⟩
theorem rd52_mem {l : List S52} {i : Int} (h0 : 0 ≤ i) (h1 : i < l.length) : rd_T52 l i ∈ l := by
  obtain ⟨h, e⟩ := rd52_lt h0 h1
  rw [e]; exact List.getElem_mem h
theorem rd52_drop {l : List S52} {i : Int} (h0 : 0 ≤ i) (h1 : i < l.length) : l.drop i.toNat = rd_T52 l i :: l.drop (i + 1).toNat := by
  obtain ⟨h, e⟩ := rd52_lt h0 h1
  rw [e, show (i + 1).toNat = i.toNat + 1 by omega, List.drop_eq_getElem_cons h]
theorem rd52_take {l : List S52} {i : Int} (h0 : 0 ≤ i) (h1 : i < l.length) : l.take (i + 1).toNat = l.take i.toNat ++ [rd_T52 l i] := by
  obtain ⟨h, e⟩ := rd52_lt h0 h1
  rw [e, show (i + 1).toNat = i.toNat + 1 by omega, List.take_succ_eq_append_getElem h]
theorem rd52_set_eq {l : List S52} {i : Int} {x : S52} (h0 : 0 ≤ i) (h1 : i < l.length) : rd_T52 (l.set i.toNat x) i = x := by
  simp [rd_T52, List.getD_eq_getElem?_getD, List.getElem?_set, show i.toNat < l.length by omega]
theorem rd52_set_ne {l : List S52} {i j : Int} {x : S52} (h0 : 0 ≤ i) (hj : 0 ≤ j) (h : i ≠ j) : rd_T52 (l.set i.toNat x) j = rd_T52 l j := by
  simp [rd_T52, List.getD_eq_getElem?_getD, List.getElem?_set, show ¬ i.toNat = j.toNat by omega]
theorem rd52_append_left {l m : List S52} {i : Int} (h0 : 0 ≤ i) (h1 : i < l.length) : rd_T52 (l ++ m) i = rd_T52 l i := by
  simp [rd_T52, List.getD_eq_getElem?_getD, List.getElem?_append_left (show i.toNat < l.length by omega)]
theorem rd52_last {l : List S52} {x : S52} : rd_T52 (l ++ [x]) (l.length : Int) = x := by
  simp [rd_T52, List.getD_eq_getElem?_getD]
theorem ext52 {l m : List S52} (h : l.length = m.length) (hr : ∀ i : Int, 0 ≤ i → i < l.length → rd_T52 l i = rd_T52 m i) : l = m := by
  apply List.ext_getElem h
  intro i h1 h2
  have := hr i (by omega) (by omega)
  simpa [rd_T52, List.getD_eq_getElem?_getD, List.getElem?_eq_getElem h1, List.getElem?_eq_getElem h2] using this
theorem eqWindow_loop (l : List S52) (hn : l.length ≤ 1000000000) (d : Nat) : ∀ (k : Nat) (i : Int), 0 ≤ i → i ≤ l.length → (l.length : Int) - i = d → d < k → laws_eqWindowS.l0 k l l i = some true := by
  induction d with
  | zero =>
    intro k i h0 h1 hd hk
    obtain ⟨k, rfl⟩ := pos_round (show 0 < k by omega)
    simp only [laws_eqWindowS.l0]
    rw [if_neg (by omega)]
  | succ d ih =>
    intro k i h0 h1 hd hk
    obtain ⟨k, rfl⟩ := pos_round (show 0 < k by omega)
    simp only [laws_eqWindowS.l0]
    rw [if_pos (by omega), if_pos h0, if_pos (by omega), w64 (x := i + 1) (by omega) (by omega)]
    simp only [laws_eqWindow.f, if_true, Option.bind_some]
    exact ih k (i + 1) (by omega) (by omega) (by omega) (by omega)
theorem eqWindow_ok (l : List S52) (hn : l.length ≤ 1000000000) (k : Nat) (hk : l.length < k) : laws_eqWindowS.f k l l = some true := by
  unfold laws_eqWindowS.f
  rw [if_pos rfl]
  exact eqWindow_loop l hn l.length k 0 (by omega) (by omega) (by omega) hk
theorem markWindow_loop (d : Nat) : ∀ (k : Nat) (l : List S52) (c i : Int), l.length ≤ 100000000 → 0 ≤ i → i ≤ l.length → (l.length : Int) - i = d → d < k → c = 1 + 2 * i → (∀ j : Int, 0 ≤ j → j < i → rd_T52 l j = ((⟨1 + 2 * j, 1 + 2 * j + 1⟩) : S52)) →
    ∃ r, laws_markWindowS.l0 k l c i = some (1 + 2 * (l.length : Int), r) ∧ r.length = l.length ∧ ∀ j : Int, 0 ≤ j → j < l.length → rd_T52 r j = ((⟨1 + 2 * j, 1 + 2 * j + 1⟩) : S52) := by
  induction d with
  | zero =>
    intro k l c i hn h0 h1 hd hk hc hj
    obtain ⟨k, rfl⟩ := pos_round (show 0 < k by omega)
    simp only [laws_markWindowS.l0]
    rw [if_neg (by omega)]
    exact ⟨l, by rw [hc, show i = (l.length : Int) by omega], rfl, fun j h2 h3 => hj j h2 (by omega)⟩
  | succ d ih =>
    intro k l c i hn h0 h1 hd hk hc hj
    obtain ⟨k, rfl⟩ := pos_round (show 0 < k by omega)
    have hlt : i < (l.length : Int) := by omega
    obtain ⟨r, hr, hl, hrj⟩ := ih k (l.set i.toNat (⟨c, c + 1⟩ : S52)) (c + 1 + 1) (i + 1) (by simpa using hn) (by omega) (by simp; omega) (by simp; omega) (by omega) (by omega) (fun j h2 h3 => by
      by_cases e : j = i
      · subst e
        rw [rd52_set_eq h2 hlt]
        congr 1 <;> omega
      · rw [rd52_set_ne h0 h2 (Ne.symm e)]
        exact hj j h2 (by omega))
    rw [List.length_set] at hr hl hrj
    refine ⟨r, ?_, hl, hrj⟩
    simp only [laws_markWindowS.l0]
    rw [if_pos hlt, if_pos h0]
    simp only [Option.bind_some]
    rw [w64 (x := c + 1) (by omega) (by omega), w64 (x := c + 1 + 1) (by omega) (by omega), w64 (x := i + 1) (by omega) (by omega)]
    have hset : ∀ x y : S52, (l.set i.toNat x).set i.toNat y = l.set i.toNat y := fun x y => List.set_set ..
    simp only [rd52_set_eq h0 hlt, hset]
    exact hr
theorem markWindow_ok (l : List S52) (hn : l.length ≤ 100000000) (k : Nat) (hk : l.length < k) :
    ∃ r, laws_markWindowS.f k l 1 = some (1 + 2 * (l.length : Int), r) ∧ r.length = l.length ∧ ∀ j : Int, 0 ≤ j → j < l.length → rd_T52 r j = ((⟨1 + 2 * j, 1 + 2 * j + 1⟩) : S52) :=
  markWindow_loop l.length k l 1 0 hn (by omega) (by omega) (by omega) hk (by omega) (fun j h2 h3 => by omega)
theorem heldWindow_loop (l : List S52) (hn : l.length ≤ 100000000) (hr : ∀ j : Int, 0 ≤ j → j < l.length → rd_T52 l j = ((⟨1 + 2 * j, 1 + 2 * j + 1⟩) : S52)) (d : Nat) : ∀ (k : Nat) (c i : Int), 0 ≤ i → i ≤ l.length → (l.length : Int) - i = d → d < k → c = 1 + 2 * i →
    laws_heldWindowS.l0 k l c i = some (1 + 2 * (l.length : Int)) := by
  induction d with
  | zero =>
    intro k c i h0 h1 hd hk hc
    obtain ⟨k, rfl⟩ := pos_round (show 0 < k by omega)
    simp only [laws_heldWindowS.l0]
    rw [if_neg (by omega), hc, show i = (l.length : Int) by omega]
  | succ d ih =>
    intro k c i h0 h1 hd hk hc
    obtain ⟨k, rfl⟩ := pos_round (show 0 < k by omega)
    simp only [laws_heldWindowS.l0]
    rw [if_pos (by omega), if_pos h0, hr i h0 (by omega)]
    dsimp only
    rw [w64 (x := c + 1) (by omega) (by omega), w64 (x := c + 1 + 1) (by omega) (by omega), w64 (x := i + 1) (by omega) (by omega), if_pos (by omega), if_pos (by omega)]
    exact ih k _ (i + 1) (by omega) (by omega) (by omega) (by omega) (by omega)
theorem heldWindow_ok (l : List S52) (hn : l.length ≤ 100000000) (hr : ∀ j : Int, 0 ≤ j → j < l.length → rd_T52 l j = ((⟨1 + 2 * j, 1 + 2 * j + 1⟩) : S52)) (k : Nat) (hk : l.length < k) :
    laws_heldWindowS.f k l 1 = some (1 + 2 * (l.length : Int)) :=
  heldWindow_loop l hn hr l.length k 1 0 (by omega) (by omega) (by omega) hk (by omega)
/-! ### rows of floats -/
theorem rdF_get (l : List Nat) (i : Nat) : rdOf (0 : Nat) l (i : Int) = l.getD i 0 := by simp [rdOf]
theorem rdF_set_eq {l : List Nat} {i : Int} {x : Nat} (h0 : 0 ≤ i) (h1 : i < l.length) : rdOf (0 : Nat) (l.set i.toNat x) i = x := by
  simp [rdOf, List.getD_eq_getElem?_getD, List.getElem?_set, show i.toNat < l.length by omega]
theorem rdF_set_ne {l : List Nat} {i j : Int} {x : Nat} (h0 : 0 ≤ i) (hj : 0 ≤ j) (h : i ≠ j) : rdOf (0 : Nat) (l.set i.toNat x) j = rdOf (0 : Nat) l j := by
  simp [rdOf, List.getD_eq_getElem?_getD, List.getElem?_set, show ¬ i.toNat = j.toNat by omega]
theorem extF {l m : List Nat} (h : l.length = m.length) (hr : ∀ i : Int, 0 ≤ i → i < l.length → rdOf (0 : Nat) l i = rdOf (0 : Nat) m i) : l = m := by
  apply List.ext_getElem h
  intro i h1 h2
  have := hr i (by omega) (by omega)
  simpa [rdOf, List.getD_eq_getElem?_getD, List.getElem?_eq_getElem h1, List.getElem?_eq_getElem h2] using this
theorem toF_loop (l : List Nat) (hn : l.length ≤ 1048576) (d : Nat) : ∀ (m : List Nat) (i : Int), 0 ≤ i → i + d = l.length → m.length = l.length → (∀ j : Int, 0 ≤ j → j < i → rdOf (0 : Nat) m j = rdOf (0 : Nat) l j) → ∀ k, d < k → laws_toFloat64S.l0 k l m i = some l := by
  induction d with
  | zero =>
    intro m i h0 hi hm hj k hk
    obtain ⟨k, rfl⟩ := pos_round (show 0 < k by omega)
    simp only [laws_toFloat64S.l0]
    rw [if_neg (by omega), extF hm fun j j0 j1 => hj j j0 (by omega)]
  | succ d ih =>
    intro m i h0 hi hm hj k hk
    obtain ⟨k, rfl⟩ := pos_round (show 0 < k by omega)
    simp only [laws_toFloat64S.l0]
    rw [if_pos (by omega), if_pos h0, if_pos (by omega), w64 (x := i + 1) (by omega) (by omega)]
    refine ih _ (i + 1) (by omega) (by omega) (by rw [List.length_set, hm]) (fun j j0 j1 => ?_) k (by omega)
    by_cases e : j = i
    · subst e; rw [rdF_set_eq h0 (by omega)]
    · rw [rdF_set_ne h0 j0 (by omega)]; exact hj j j0 (by omega)
theorem toF_ok (l : List Nat) (hn : l.length ≤ 1048576) (k : Nat) (hk : l.length < k) : laws_toFloat64S.f k l = some l := by
  unfold laws_toFloat64S.f
  rw [if_pos (by omega), if_pos (by omega)]
  exact toF_loop l hn l.length _ 0 (by omega) (by omega) (by simp) (fun j j0 j1 => by omega) k hk
/-- One over what stands to nought as equal is told. -/
theorem div_some (x : Nat) (h : (FloatKind.f64.format.order x (0 : Nat) == some .eq) = true) : (floatBits .quo .f64 (4607182418800017408 : Nat) x).isSome = true := by
  have e1 : FloatKind.f64.format.read 4607182418800017408 = .number false 4503599627370496 (-52) := by decide +kernel
  have e0 : ∃ s m i, FloatKind.f64.format.read 0 = .number s m i := ⟨false, 0, -1074, by decide +kernel⟩
  obtain ⟨s0, m0, i0, e0⟩ := e0
  show (FloatKind.f64.format.div 4607182418800017408 x).isSome = true
  unfold Ieee.Format.div
  unfold Ieee.Format.order at h
  rw [e0] at h
  rw [e1]
  cases hx : FloatKind.f64.format.read x with
  | nan => rw [hx] at h; simp [Ieee.Datum.order] at h
  | infinity s => rw [hx] at h; cases s <;> simp [Ieee.Datum.order] at h
  | number s m i =>
    simp only [Ieee.Datum.quotient]
    split <;> simp
theorem same_self (x : Nat) (k : Nat) : laws_sameFloat.f (k + 1) x x = some true := by
  unfold laws_sameFloat.f
  by_cases c : (FloatKind.f64.format.order x x != some .eq) = true
  · rw [if_pos c]
    simp only [laws_sameFloat.j0]
    rw [if_pos trivial, if_pos c, c]
  · rw [if_neg c]
    have cf := Bool.eq_false_iff.2 c
    rw [cf]
    simp only [laws_sameFloat.j0]
    have ce : (FloatKind.f64.format.order x x == some .eq) = true := by
      simp only [bne, Bool.not_eq_false'] at cf
      exact cf
    rw [if_neg (by simp)]
    by_cases c0 : (FloatKind.f64.format.order x (0 : Nat) == some .eq) = true
    · rw [if_pos c0, if_pos c0, if_pos (div_some x c0), if_pos (div_some x c0), beq_self_eq_true]
    · rw [if_neg c0, ce]
theorem eqF_loop (l : List Nat) (hn : l.length ≤ 1048576) (d : Nat) : ∀ (i : Int), 0 ≤ i → i + d = l.length → ∀ k, d + 1 < k → laws_eqFloat64S.l0 k l l i = some true := by
  induction d with
  | zero =>
    intro i h0 hi k hk
    obtain ⟨k, rfl⟩ := pos_round (show 0 < k by omega)
    simp only [laws_eqFloat64S.l0]
    rw [if_neg (by omega)]
  | succ d ih =>
    intro i h0 hi k hk
    obtain ⟨k, rfl⟩ : ∃ q, k = q + 1 + 1 := ⟨k - 2, by omega⟩
    simp only [laws_eqFloat64S.l0]
    rw [if_pos (by omega), if_pos h0, if_pos (by omega), same_self, Option.bind_some, if_pos rfl, w64 (x := i + 1) (by omega) (by omega)]
    exact ih (i + 1) (by omega) (by omega) (k + 1) (by omega)
theorem eqF_ok (l : List Nat) (hn : l.length ≤ 1048576) (k : Nat) (hk : l.length + 1 < k) : laws_eqFloat64S.f k l l = some true := by
  unfold laws_eqFloat64S.f
  rw [if_pos rfl]
  exact eqF_loop l hn l.length 0 (by omega) (by omega) k hk
theorem markF_loop (d : Nat) : ∀ (l : List Nat) (c i : Int), l.length ≤ 1048576 → 0 ≤ i → i + d = l.length → 0 ≤ c → c ≤ 1 + i → ∀ k, d < k → ∃ m, laws_markFloat64S.l0 k l c i = some (c + d, m) := by
  induction d with
  | zero =>
    intro l c i hn h0 hi hc0 hc1 k hk
    obtain ⟨k, rfl⟩ := pos_round (show 0 < k by omega)
    simp only [laws_markFloat64S.l0]
    rw [if_neg (by omega)]
    exact ⟨l, by simp⟩
  | succ d ih =>
    intro l c i hn h0 hi hc0 hc1 k hk
    obtain ⟨k, rfl⟩ := pos_round (show 0 < k by omega)
    obtain ⟨m, hm⟩ := ih (l.set i.toNat (floatOfInt .f64 c)) (c + 1) (i + 1) (by rw [List.length_set]; exact hn) (by omega) (by rw [List.length_set]; omega) (by omega) (by omega) k (by omega)
    refine ⟨m, ?_⟩
    simp only [laws_markFloat64S.l0]
    rw [if_pos (by omega), if_pos h0, w64 (x := c + 1) (by omega) (by omega), w64 (x := i + 1) (by omega) (by omega), hm]
    congr 2
    omega
/-! ### the windows -/
def ge (l : List Nat) (a : Nat) (i : Int) : Bool := FloatKind.f64.format.order (rdOf (0 : Nat) l i) a == some .gt || FloatKind.f64.format.order (rdOf (0 : Nat) l i) a == some .eq
theorem own_win (l : List S52) (h : l.length ≤ 1000000) : impl_Window.f l = some l := by
  unfold impl_Window.f
  rw [if_pos (by omega), if_pos (by omega), Option.bind_some, if_pos (by simp; omega)]; rfl
/-- What holds of the windows told so far. -/
def Told (out : List S52) (o : Bool) (i : Int) : Prop := (out.length : Int) ≤ i ∧ (0 < out.length → (rd_T52 out ((out.length : Int) - 1)).f1 ≤ i - 1) ∧ (o = true ↔ (0 < out.length ∧ (rd_T52 out ((out.length : Int) - 1)).f1 = i - 1))
theorem win_loop (l : List Nat) (a : Nat) (hn : l.length ≤ 1500) (d : Nat) : ∀ (out : List S52) (o : Bool) (i : Int), 0 ≤ i → i + d = l.length → Told out o i →
    ∃ r, r.length ≤ 1500 ∧ ∀ k, 3 * d < k → impl_WindowsOf.l0 k a out l (l.length : Int) i = some r ∧ spec_WindowsOf.l0 k l a out o i = some r := by
  induction d with
  | zero =>
    intro out o i h0 hi ht
    refine ⟨out, by have := ht.1; omega, fun k hk => ?_⟩
    obtain ⟨k, rfl⟩ := pos_round (show 0 < k by omega)
    simp only [impl_WindowsOf.l0, spec_WindowsOf.l0]
    rw [if_neg (by omega), if_neg (by omega), own_win out (by have := ht.1; omega), Option.bind_some]
    exact ⟨rfl, rfl⟩
  | succ d ih =>
    intro out o i h0 hi ht
    obtain ⟨t1, t2, t3⟩ := ht
    have hlt : i < (l.length : Int) := by omega
    have hw1 : wrap64 (i + 1) = i + 1 := w64 (by omega) (by omega)
    have hwi : wrap64 (i - 1) = i - 1 := w64 (by omega) (by omega)
    have hwl : wrap64 ((out.length : Int) - 1) = (out.length : Int) - 1 := w64 (by omega) (by omega)
    have hspec : ∀ k, spec_WindowsOf.l0 (k + 2) l a out o i = if ge l a i = true then spec_WindowsOf.j2 k l a out o i (ge l a i) o else spec_WindowsOf.j2 k l a out o i (ge l a i) false := by
      intro k
      rw [spec_WindowsOf.l0, if_pos hlt, if_pos h0]
      show spec_WindowsOf.j1 (k + 1) l a out o i (ge l a i) = _
      rw [spec_WindowsOf.j1]
    have himpl : ∀ k, impl_WindowsOf.l0 (k + 1) a out l (l.length : Int) i = if ge l a i = true then (if (out.length : Int) - 1 ≥ 0 then (if 0 ≤ (out.length : Int) - 1 then (if (out.length : Int) - 1 < (out.length : Int) then (if (rd_T52 out ((out.length : Int) - 1)).f1 = i - 1 then impl_WindowsOf.l0 k a (out.set ((out.length : Int) - 1).toNat ⟨(rd_T52 out ((out.length : Int) - 1)).f0, i⟩) l (l.length : Int) (i + 1) else (if out.length < 8796093022208 then impl_WindowsOf.l0 k a (out ++ [⟨i, i⟩]) l (l.length : Int) (i + 1) else none)) else none) else none) else (if out.length < 8796093022208 then impl_WindowsOf.l0 k a (out ++ [⟨i, i⟩]) l (l.length : Int) (i + 1) else none)) else impl_WindowsOf.l0 k a out l (l.length : Int) (i + 1) := by
      intro k
      simp only [impl_WindowsOf.l0]
      rw [if_pos hlt, if_pos h0, if_pos hlt, hwl, hw1, hwi]
      rfl
    by_cases g : ge l a i = true
    · by_cases ho : o = true
      · -- the last window goes on
        subst ho
        obtain ⟨p1, p2⟩ := t3.1 rfl
        have hT : Told (out.set ((out.length : Int) - 1).toNat ⟨(rd_T52 out ((out.length : Int) - 1)).f0, i⟩) true (i + 1) := by
          refine ⟨by rw [List.length_set]; omega, fun _ => ?_, ⟨fun _ => ⟨by rw [List.length_set]; exact p1, ?_⟩, fun _ => rfl⟩⟩ <;> rw [List.length_set, rd52_set_eq (by omega) (by omega)]
          · show i ≤ i + 1 - 1; omega
          · show i = i + 1 - 1; omega
        obtain ⟨r, r0, hr⟩ := ih _ true (i + 1) (by omega) (by omega) hT
        refine ⟨r, r0, fun k hk => ?_⟩
        obtain ⟨k, rfl⟩ : ∃ q, k = q + 3 := ⟨k - 3, by omega⟩
        rw [himpl, hspec, if_pos g, if_pos g, if_pos (by omega), if_pos (by omega), if_pos (by omega), if_pos p2]
        refine ⟨(hr (k + 2) (by omega)).1, ?_⟩
        simp only [spec_WindowsOf.j2]
        rw [if_pos trivial, hwl, if_pos (by omega), if_pos (by omega), Option.bind_some, if_pos g, if_pos trivial, hw1, g]
        exact (hr k (by omega)).2
      · -- a new window
        have ho' : o = false := Bool.eq_false_iff.2 ho
        subst ho'
        have hT : Told (out ++ [(⟨i, i⟩ : S52)]) true (i + 1) := by
          refine ⟨by simp; omega, fun _ => ?_, ⟨fun _ => ⟨by simp, ?_⟩, fun _ => rfl⟩⟩ <;> rw [List.length_append, List.length_singleton, show ((out.length + 1 : Nat) : Int) - 1 = out.length by omega, rd52_last]
          · show i ≤ i + 1 - 1; omega
          · show i = i + 1 - 1; omega
        obtain ⟨r, r0, hr⟩ := ih _ true (i + 1) (by omega) (by omega) hT
        refine ⟨r, r0, fun k hk => ?_⟩
        obtain ⟨k, rfl⟩ : ∃ q, k = q + 3 := ⟨k - 3, by omega⟩
        have hs : spec_WindowsOf.l0 (k + 3) l a out false i = some r := by
          rw [hspec, if_pos g]
          simp only [spec_WindowsOf.j2]
          rw [if_neg (by simp), if_pos g, if_neg (by simp), if_pos (by omega), hw1, g]
          exact (hr k (by omega)).2
        refine ⟨?_, hs⟩
        rw [himpl, if_pos g]
        by_cases c : (out.length : Int) - 1 ≥ 0
        · rw [if_pos c, if_pos (by omega), if_pos (by omega), if_neg (fun h => by have := t3.2 ⟨by omega, h⟩; simp at this), if_pos (by omega)]
          exact (hr (k + 2) (by omega)).1
        · rw [if_neg c, if_pos (by omega)]
          exact (hr (k + 2) (by omega)).1
    · have gf := Bool.eq_false_iff.2 g
      have hT : Told out false (i + 1) := by
        refine ⟨by omega, fun h => by have := t2 h; omega, ⟨fun h => by simp at h, fun h => ?_⟩⟩
        have := t2 h.1
        have := h.2
        omega
      obtain ⟨r, r0, hr⟩ := ih _ false (i + 1) (by omega) (by omega) hT
      refine ⟨r, r0, fun k hk => ?_⟩
      obtain ⟨k, rfl⟩ : ∃ q, k = q + 3 := ⟨k - 3, by omega⟩
      rw [himpl, hspec, if_neg g, if_neg g]
      refine ⟨(hr (k + 2) (by omega)).1, ?_⟩
      simp only [spec_WindowsOf.j2]
      rw [if_neg (by simp), if_neg g, hw1, gf]
      exact (hr k (by omega)).2
theorem win_same (l : List Nat) (a : Nat) (hn : l.length ≤ 1048576) : ∃ r, r.length ≤ 1500 ∧ ∀ k, 4600 < k → impl_WindowsOf.f k l a = some r ∧ spec_WindowsOf.f k l a = some r := by
  by_cases c : (l.length : Int) > 1500
  · refine ⟨[], by simp, fun k hk => ?_⟩
    unfold impl_WindowsOf.f spec_WindowsOf.f
    rw [if_pos c, Option.bind_some, if_pos c]
    exact ⟨rfl, rfl⟩
  · obtain ⟨r, r0, hr⟩ := win_loop l a (by omega) l.length [] false 0 (by omega) (by omega) ⟨by simp, fun h => by simp at h, ⟨fun h => by simp at h, fun h => by simp at h⟩⟩
    refine ⟨r, r0, fun k hk => ?_⟩
    unfold impl_WindowsOf.f spec_WindowsOf.f
    rw [if_neg c, Option.bind_some, if_neg c]
    exact hr k (by omega)
theorem FnExactWindowsOf : laws_FnExactWindowsOf.Pure := by
  intro l a _ _
  refine ⟨1060001, ?_⟩
  unfold laws_FnExactWindowsOf.f
  by_cases c : (l.length : Int) > 1048576
  · rw [if_pos c]
  · have hn : l.length ≤ 1048576 := by omega
    obtain ⟨r, r0, hr⟩ := win_same l a hn
    obtain ⟨m, hm⟩ := markF_loop l.length l 1 0 hn (by omega) (by omega) (by omega) (by omega) 1060001 (by omega)
    have hmf : laws_markFloat64S.f 1060001 l 1 = some (1 + (l.length : Int), m) := hm
    obtain ⟨w, w1, w2, w3⟩ := markWindow_ok r (by omega) 1060000 (by omega)
    have hh := heldWindow_ok w (by omega) (fun j j0 j1 => w3 j j0 (by omega)) 1060000 (by omega)
    rw [w2] at hh
    rw [if_neg c, toF_ok l hn _ (by omega), Option.bind_some, (hr _ (by omega)).2, Option.bind_some, Option.bind_some, (hr _ (by omega)).1, Option.bind_some, eqWindow_ok r (by omega) _ (by omega), Option.bind_some, if_pos rfl, Option.bind_some, eqF_ok l hn _ (by omega), Option.bind_some, if_pos rfl, hmf, Option.bind_some]
    dsimp only
    rw [if_neg (by omega), Option.bind_some, show (1060001 : Nat) = 1060000 + 1 from rfl]
    simp only [laws_FnExactWindowsOf.j0]
    rw [if_neg (by simp), w1, Option.bind_some]
    dsimp only
    rw [hh, Option.bind_some, if_neg (by omega), if_pos rfl, toF_ok l hn _ (by omega), Option.bind_some, (hr _ (by omega)).1, Option.bind_some, eqWindow_ok r (by omega) _ (by omega), Option.bind_some, if_pos rfl, Option.bind_some, if_neg (by omega), if_pos rfl]

end Go.Proofs.Ytdjbglhhjffnkaa.Pure
