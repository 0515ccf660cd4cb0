/- The program's Pumped returns what the reference's returns, for all arguments; it changes none of them, and what it hands back is new memory. -/
import Derived.Test.YtlphfhibnbhkfaaPFnExactPumpedx6
import Derived.Test.YtlphfhibnbhkfaaKit
set_option linter.unusedVariables false
set_option linter.unusedSimpArgs false
namespace Go.Proofs.Ytlphfhibnbhkfaa.Pure
open Go.RowKit Go.Proofs.Ytlphfhibnbhkfaa.PFnExactPumped Go.Proofs.YtlphfhibnbhkfaaW.PrintWords Go.Proofs.YtlphfhibnbhkfaaW.PrintLast Go.Proofs.YtlphfhibnbhkfaaW.Kit

theorem rd112_lt {l : List S112} {i : Int} (h0 : 0 ≤ i) (h1 : i < l.length) : ∃ h : i.toNat < l.length, rd_T112 l i = l[i.toNat]'h := by
  have h : i.toNat < l.length := by omega
  exact ⟨h, by simp [rd_T112, List.getD_eq_getElem?_getD, List.getElem?_eq_getElem h]⟩
theorem rd112_mem {l : List S112} {i : Int} (h0 : 0 ≤ i) (h1 : i < l.length) : rd_T112 l i ∈ l := by
  obtain ⟨h, e⟩ := rd112_lt h0 h1
  rw [e]; exact List.getElem_mem h
theorem rd112_drop {l : List S112} {i : Int} (h0 : 0 ≤ i) (h1 : i < l.length) : l.drop i.toNat = rd_T112 l i :: l.drop (i + 1).toNat := by
  obtain ⟨h, e⟩ := rd112_lt h0 h1
  rw [e, show (i + 1).toNat = i.toNat + 1 by omega, List.drop_eq_getElem_cons h]
theorem rd112_take {l : List S112} {i : Int} (h0 : 0 ≤ i) (h1 : i < l.length) : l.take (i + 1).toNat = l.take i.toNat ++ [rd_T112 l i] := by
  obtain ⟨h, e⟩ := rd112_lt h0 h1
  rw [e, show (i + 1).toNat = i.toNat + 1 by omega, List.take_succ_eq_append_getElem h]
theorem rd112_set_eq {l : List S112} {i : Int} {x : S112} (h0 : 0 ≤ i) (h1 : i < l.length) : rd_T112 (l.set i.toNat x) i = x := by
  simp [rd_T112, List.getD_eq_getElem?_getD, List.getElem?_set, show i.toNat < l.length by omega]
theorem rd112_set_ne {l : List S112} {i j : Int} {x : S112} (h0 : 0 ≤ i) (hj : 0 ≤ j) (h : i ≠ j) : rd_T112 (l.set i.toNat x) j = rd_T112 l j := by
  simp [rd_T112, List.getD_eq_getElem?_getD, List.getElem?_set, show ¬ i.toNat = j.toNat by omega]
theorem rd112_append_left {l m : List S112} {i : Int} (h0 : 0 ≤ i) (h1 : i < l.length) : rd_T112 (l ++ m) i = rd_T112 l i := by
  simp [rd_T112, List.getD_eq_getElem?_getD, List.getElem?_append_left (show i.toNat < l.length by omega)]
theorem rd112_last {l : List S112} {x : S112} : rd_T112 (l ++ [x]) (l.length : Int) = x := by
  simp [rd_T112, List.getD_eq_getElem?_getD]
theorem ext112 {l m : List S112} (h : l.length = m.length) (hr : ∀ i : Int, 0 ≤ i → i < l.length → rd_T112 l i = rd_T112 m i) : l = m := by
  apply List.ext_getElem h
  intro i h1 h2
  have := hr i (by omega) (by omega)
  simpa [rd_T112, List.getD_eq_getElem?_getD, List.getElem?_eq_getElem h1, List.getElem?_eq_getElem h2] using this
theorem rd32_lt {l : List S32} {i : Int} (h0 : 0 ≤ i) (h1 : i < l.length) : ∃ h : i.toNat < l.length, rd_T32 l i = l[i.toNat]'h := by
  have h : i.toNat < l.length := by omega
  exact ⟨h, by simp [rd_T32, List.getD_eq_getElem?_getD, List.getElem?_eq_getElem h]⟩
theorem rd32_mem {l : List S32} {i : Int} (h0 : 0 ≤ i) (h1 : i < l.length) : rd_T32 l i ∈ l := by
  obtain ⟨h, e⟩ := rd32_lt h0 h1
  rw [e]; exact List.getElem_mem h
theorem rd32_drop {l : List S32} {i : Int} (h0 : 0 ≤ i) (h1 : i < l.length) : l.drop i.toNat = rd_T32 l i :: l.drop (i + 1).toNat := by
  obtain ⟨h, e⟩ := rd32_lt h0 h1
  rw [e, show (i + 1).toNat = i.toNat + 1 by omega, List.drop_eq_getElem_cons h]
theorem rd32_take {l : List S32} {i : Int} (h0 : 0 ≤ i) (h1 : i < l.length) : l.take (i + 1).toNat = l.take i.toNat ++ [rd_T32 l i] := by
  obtain ⟨h, e⟩ := rd32_lt h0 h1
  rw [e, show (i + 1).toNat = i.toNat + 1 by omega, List.take_succ_eq_append_getElem h]
theorem rd32_set_eq {l : List S32} {i : Int} {x : S32} (h0 : 0 ≤ i) (h1 : i < l.length) : rd_T32 (l.set i.toNat x) i = x := by
  simp [rd_T32, List.getD_eq_getElem?_getD, List.getElem?_set, show i.toNat < l.length by omega]
theorem rd32_set_ne {l : List S32} {i j : Int} {x : S32} (h0 : 0 ≤ i) (hj : 0 ≤ j) (h : i ≠ j) : rd_T32 (l.set i.toNat x) j = rd_T32 l j := by
  simp [rd_T32, List.getD_eq_getElem?_getD, List.getElem?_set, show ¬ i.toNat = j.toNat by omega]
theorem rd32_append_left {l m : List S32} {i : Int} (h0 : 0 ≤ i) (h1 : i < l.length) : rd_T32 (l ++ m) i = rd_T32 l i := by
  simp [rd_T32, List.getD_eq_getElem?_getD, List.getElem?_append_left (show i.toNat < l.length by omega)]
theorem rd32_last {l : List S32} {x : S32} : rd_T32 (l ++ [x]) (l.length : Int) = x := by
  simp [rd_T32, List.getD_eq_getElem?_getD]
theorem ext32 {l m : List S32} (h : l.length = m.length) (hr : ∀ i : Int, 0 ≤ i → i < l.length → rd_T32 l i = rd_T32 m i) : l = m := by
  apply List.ext_getElem h
  intro i h1 h2
  have := hr i (by omega) (by omega)
  simpa [rd_T32, List.getD_eq_getElem?_getD, List.getElem?_eq_getElem h1, List.getElem?_eq_getElem h2] using this
/-- What the law's list is as the program's. -/
def toFuel (l : List S112) : List S32 := l.map fun x => ⟨x.f0, x.f1⟩
theorem toFuel_loop (l : List S112) (hn : l.length ≤ 1048576) (d : Nat) : ∀ (k : Nat) (o : List S32) (i : Int), 0 ≤ i → i ≤ l.length → (l.length : Int) - i = d → d < k → o.length = l.length → o.take i.toNat = (toFuel l).take i.toNat → laws_toFuelS.l0 k l o i = some (toFuel l) := by
  induction d with
  | zero =>
    intro k o i h0 h1 hd hk ho ht
    obtain ⟨k, rfl⟩ := pos_round (show 0 < k by omega)
    simp only [laws_toFuelS.l0]
    rw [if_neg (by omega)]
    rw [List.take_of_length_le (by omega), List.take_of_length_le (by simp [toFuel]; omega)] at ht
    rw [ht]
  | succ d ih =>
    intro k o i h0 h1 hd hk ho ht
    obtain ⟨k, rfl⟩ := pos_round (show 0 < k by omega)
    obtain ⟨hl, e⟩ := rd112_lt h0 (show i < (l.length : Int) by omega)
    simp only [laws_toFuelS.l0]
    rw [if_pos (by omega), if_pos h0]
    simp only [laws_toFuel.f, Option.bind_some]
    rw [if_pos (by omega), w64 (x := i + 1) (by omega) (by omega)]
    refine ih k _ (i + 1) (by omega) (by omega) (by omega) (by omega) (by simpa using ho) ?_
    rw [show (i + 1).toNat = i.toNat + 1 by omega, List.take_succ_eq_append_getElem (by simp; omega), List.take_succ_eq_append_getElem (by simp [toFuel]; omega), List.take_set_of_le (Nat.le_refl _), ht]
    simp [toFuel, e]
theorem toFuel_ok (l : List S112) (hn : l.length ≤ 1048576) (k : Nat) (hk : l.length < k) : laws_toFuelS.f k l = some (toFuel l) := by
  unfold laws_toFuelS.f
  rw [if_pos (by omega), if_pos (by omega)]
  exact toFuel_loop l hn l.length k _ 0 (by omega) (by omega) (by omega) hk (by simp) (by simp)
theorem toFuel_length (l : List S112) : (toFuel l).length = l.length := by simp [toFuel]
theorem eqFuel_loop (l : List S32) (hn : l.length ≤ 1000000000) (d : Nat) : ∀ (k : Nat) (i : Int), 0 ≤ i → i ≤ l.length → (l.length : Int) - i = d → d < k → laws_eqFuelS.l0 k l l i = some true := by
  induction d with
  | zero =>
    intro k i h0 h1 hd hk
    obtain ⟨k, rfl⟩ := pos_round (show 0 < k by omega)
    simp only [laws_eqFuelS.l0]
    rw [if_neg (by omega)]
  | succ d ih =>
    intro k i h0 h1 hd hk
    obtain ⟨k, rfl⟩ := pos_round (show 0 < k by omega)
    simp only [laws_eqFuelS.l0]
    rw [if_pos (by omega), if_pos h0, if_pos (by omega), w64 (x := i + 1) (by omega) (by omega)]
    simp only [laws_eqFuel.f, if_true, Option.bind_some]
    exact ih k (i + 1) (by omega) (by omega) (by omega) (by omega)
theorem eqFuel_ok (l : List S32) (hn : l.length ≤ 1000000000) (k : Nat) (hk : l.length < k) : laws_eqFuelS.f k l l = some true := by
  unfold laws_eqFuelS.f
  rw [if_pos rfl]
  exact eqFuel_loop l hn l.length k 0 (by omega) (by omega) (by omega) hk
theorem markFuel_loop (d : Nat) : ∀ (k : Nat) (l : List S32) (c i : Int), l.length ≤ 100000000 → 0 ≤ i → i ≤ l.length → (l.length : Int) - i = d → d < k → c = 1 + 2 * i → (∀ j : Int, 0 ≤ j → j < i → rd_T32 l j = ((⟨1 + 2 * j, 1 + 2 * j + 1⟩) : S32)) →
    ∃ r, laws_markFuelS.l0 k l c i = some (1 + 2 * (l.length : Int), r) ∧ r.length = l.length ∧ ∀ j : Int, 0 ≤ j → j < l.length → rd_T32 r j = ((⟨1 + 2 * j, 1 + 2 * j + 1⟩) : S32) := by
  induction d with
  | zero =>
    intro k l c i hn h0 h1 hd hk hc hj
    obtain ⟨k, rfl⟩ := pos_round (show 0 < k by omega)
    simp only [laws_markFuelS.l0]
    rw [if_neg (by omega)]
    exact ⟨l, by rw [hc, show i = (l.length : Int) by omega], rfl, fun j h2 h3 => hj j h2 (by omega)⟩
  | succ d ih =>
    intro k l c i hn h0 h1 hd hk hc hj
    obtain ⟨k, rfl⟩ := pos_round (show 0 < k by omega)
    have hlt : i < (l.length : Int) := by omega
    obtain ⟨r, hr, hl, hrj⟩ := ih k (l.set i.toNat (⟨c, c + 1⟩ : S32)) (c + 1 + 1) (i + 1) (by simpa using hn) (by omega) (by simp; omega) (by simp; omega) (by omega) (by omega) (fun j h2 h3 => by
      by_cases e : j = i
      · subst e
        rw [rd32_set_eq h2 hlt]
        congr 1 <;> omega
      · rw [rd32_set_ne h0 h2 (Ne.symm e)]
        exact hj j h2 (by omega))
    rw [List.length_set] at hr hl hrj
    refine ⟨r, ?_, hl, hrj⟩
    simp only [laws_markFuelS.l0]
    rw [if_pos hlt, if_pos h0]
    simp only [Option.bind_some]
    rw [w64 (x := c + 1) (by omega) (by omega), w64 (x := c + 1 + 1) (by omega) (by omega), w64 (x := i + 1) (by omega) (by omega)]
    have hset : ∀ x y : S32, (l.set i.toNat x).set i.toNat y = l.set i.toNat y := fun x y => List.set_set ..
    simp only [rd32_set_eq h0 hlt, hset]
    exact hr
theorem markFuel_ok (l : List S32) (hn : l.length ≤ 100000000) (k : Nat) (hk : l.length < k) :
    ∃ r, laws_markFuelS.f k l 1 = some (1 + 2 * (l.length : Int), r) ∧ r.length = l.length ∧ ∀ j : Int, 0 ≤ j → j < l.length → rd_T32 r j = ((⟨1 + 2 * j, 1 + 2 * j + 1⟩) : S32) :=
  markFuel_loop l.length k l 1 0 hn (by omega) (by omega) (by omega) hk (by omega) (fun j h2 h3 => by omega)
theorem heldFuel_loop (l : List S32) (hn : l.length ≤ 100000000) (hr : ∀ j : Int, 0 ≤ j → j < l.length → rd_T32 l j = ((⟨1 + 2 * j, 1 + 2 * j + 1⟩) : S32)) (d : Nat) : ∀ (k : Nat) (c i : Int), 0 ≤ i → i ≤ l.length → (l.length : Int) - i = d → d < k → c = 1 + 2 * i →
    laws_heldFuelS.l0 k l c i = some (1 + 2 * (l.length : Int)) := by
  induction d with
  | zero =>
    intro k c i h0 h1 hd hk hc
    obtain ⟨k, rfl⟩ := pos_round (show 0 < k by omega)
    simp only [laws_heldFuelS.l0]
    rw [if_neg (by omega), hc, show i = (l.length : Int) by omega]
  | succ d ih =>
    intro k c i h0 h1 hd hk hc
    obtain ⟨k, rfl⟩ := pos_round (show 0 < k by omega)
    simp only [laws_heldFuelS.l0]
    rw [if_pos (by omega), if_pos h0, hr i h0 (by omega)]
    dsimp only
    rw [w64 (x := c + 1) (by omega) (by omega), w64 (x := c + 1 + 1) (by omega) (by omega), w64 (x := i + 1) (by omega) (by omega), if_pos (by omega), if_pos (by omega)]
    exact ih k _ (i + 1) (by omega) (by omega) (by omega) (by omega) (by omega)
theorem heldFuel_ok (l : List S32) (hn : l.length ≤ 100000000) (hr : ∀ j : Int, 0 ≤ j → j < l.length → rd_T32 l j = ((⟨1 + 2 * j, 1 + 2 * j + 1⟩) : S32)) (k : Nat) (hk : l.length < k) :
    laws_heldFuelS.f k l 1 = some (1 + 2 * (l.length : Int)) :=
  heldFuel_loop l hn hr l.length k 1 0 (by omega) (by omega) (by omega) hk (by omega)
/-! ### the tanks, and one pump -/
theorem in_eqQ (a b c : Int) : impl_in.f a b c = some (decide (b ≤ a ∧ a ≤ c)) := in_some a b c
theorem in_eqQ' (a b c : Int) : spec_l1In.f a b c = some (decide (b ≤ a ∧ a ≤ c)) := in_some a b c
theorem tanks_loops (l : List S32) (hn : l.length ≤ 1048576) (d : Nat) : ∀ (i : Int), 0 ≤ i → i ≤ l.length → (l.length : Int) - i = d →
    ∃ r : Int, -1 ≤ r ∧ ∀ k, d < k → impl_Fuel_at_impl_tanksRight_1_96.l0 k l (l.length : Int) i = some r ∧ spec_l10Fuels.l0 k l i = some (decide (r < 0) && decide ((l.length : Int) ≤ 8)) := by
  induction d with
  | zero =>
    intro i h0 h1 hd
    refine ⟨-1, by omega, fun k hk => ?_⟩
    obtain ⟨k, rfl⟩ := pos_round (show 0 < k by omega)
    simp only [impl_Fuel_at_impl_tanksRight_1_96.l0, spec_l10Fuels.l0]
    rw [if_neg (by omega), if_neg (by omega)]
    exact ⟨rfl, by simp⟩
  | succ d ih =>
    intro i h0 h1 hd
    have hlt : i < (l.length : Int) := by omega
    by_cases c : (0 ≤ (rd_T32 l i).f0 ∧ (rd_T32 l i).f0 ≤ (rd_T32 l i).f1) ∧ ¬ (rd_T32 l i).f1 > 1000000
    · obtain ⟨r, hr, hk⟩ := ih (i + 1) (by omega) (by omega) (by omega)
      refine ⟨r, hr, fun k hk' => ?_⟩
      obtain ⟨k, rfl⟩ := pos_round (show 0 < k by omega)
      obtain ⟨ha, hb⟩ := hk k (by omega)
      simp only [impl_Fuel_at_impl_tanksRight_1_96.l0, spec_l10Fuels.l0, impl_tanksRight_1.f]
      constructor
      · rw [if_pos hlt, if_pos h0, if_pos hlt, in_eqQ, decide_eq_true c.1, Option.bind_some, if_pos rfl, Option.bind_some, if_neg (by simpa using c.2), w64 (x := i + 1) (by omega) (by omega)]
        exact ha
      · rw [if_pos hlt, if_pos h0, in_eqQ', decide_eq_true c.1, Option.bind_some, if_pos rfl, if_neg c.2, w64 (x := i + 1) (by omega) (by omega)]
        exact hb
    · refine ⟨i, by omega, fun k hk => ?_⟩
      obtain ⟨k, rfl⟩ := pos_round (show 0 < k by omega)
      have hf : (decide (i < 0) && decide ((l.length : Int) ≤ 8)) = false := by simp; omega
      simp only [impl_Fuel_at_impl_tanksRight_1_96.l0, spec_l10Fuels.l0, impl_tanksRight_1.f]
      rw [hf]
      by_cases c1 : 0 ≤ (rd_T32 l i).f0 ∧ (rd_T32 l i).f0 ≤ (rd_T32 l i).f1
      · have c2 : (rd_T32 l i).f1 > 1000000 := by
          by_cases h : (rd_T32 l i).f1 > 1000000
          · exact h
          · exact absurd ⟨c1, h⟩ c
        constructor
        · rw [if_pos hlt, if_pos h0, if_pos hlt, in_eqQ, decide_eq_true c1, Option.bind_some, if_pos rfl, Option.bind_some, if_pos (decide_eq_true c2)]
        · rw [if_pos hlt, if_pos h0, in_eqQ', decide_eq_true c1, Option.bind_some, if_pos rfl, if_pos c2]
      · constructor
        · rw [if_pos hlt, if_pos h0, if_pos hlt, in_eqQ, decide_eq_false c1, Option.bind_some, if_neg (by simp), Option.bind_some, if_pos rfl]
        · rw [if_pos hlt, if_pos h0, in_eqQ', decide_eq_false c1, Option.bind_some, if_neg (by simp)]
theorem tanks_same (l : List S32) (hn : l.length ≤ 1048576) : ∃ b : Bool, (b = true → l.length ≤ 8) ∧ ∀ k, l.length < k → spec_l10Fuels.f k l = some b ∧ impl_tanksRight.f k l = some b := by
  obtain ⟨r, hr, hk⟩ := tanks_loops l hn l.length 0 (by omega) (by omega) (by omega)
  refine ⟨decide (r < 0) && decide ((l.length : Int) ≤ 8), fun h => by simp at h; omega, fun k hk' => ⟨(hk k hk').2, ?_⟩⟩
  unfold impl_tanksRight.f
  by_cases c : (l.length : Int) ≤ 8
  · rw [if_pos c]
    unfold impl_Fuel_at_impl_tanksRight_1.f impl_Fuel_at_impl_tanksRight_1_96.f
    rw [(hk k hk').1, Option.bind_some, Option.bind_some, decide_eq_true c, Bool.and_true]
    congr 1
    by_cases e : r < 0
    · rw [decide_eq_true e, decide_eq_false (by omega)]; rfl
    · rw [decide_eq_false e, decide_eq_true (by omega)]; rfl
  · rw [if_neg c, decide_eq_false c, Bool.and_false]
theorem own_sameQ (l : List S32) (h : l.length ≤ 1048576) : impl_Fuel_45.f l = some l := by
  unfold impl_Fuel_45.f
  rw [if_pos (by omega), if_pos (by omega), Option.bind_some, if_pos (by simp; omega)]; rfl
/-- Behind the looks at the arguments. -/
theorem steps_same (l : List S32) (f t m : Int) (hf : f < (l.length : Int)) (ht : t < (l.length : Int)) : ∃ res : List S32 × Int, res.1.length = l.length ∧ ∀ k, spec_Pumped.j0 (k + 3) l false f t m = some res ∧ impl_Pumped.j0 (k + 3) l false f t m = some res := by
  have e2 : ∃ res : List S32 × Int, res.1.length = l.length ∧ ∀ k, spec_Pumped.j2 (k + 1) l false f t m = some res ∧ impl_Pumped.j2 (k + 1) l f t m = some res := by
    simp only [spec_Pumped.j2, impl_Pumped.j2]
    by_cases c1 : f ≥ 0 <;> by_cases c2 : t ≥ 0
    · refine ⟨_, ?_, fun k => ⟨by rw [if_neg (by simp), if_pos c1, if_pos c1, if_pos hf, Option.bind_some, if_pos c2, if_pos c2, if_pos ht], by rw [if_pos c1, if_pos c1, if_pos hf, Option.bind_some, if_pos c2, if_pos c2, if_pos ht]⟩⟩
      simp
    · refine ⟨_, ?_, fun k => ⟨by rw [if_neg (by simp), if_pos c1, if_pos c1, if_pos hf, Option.bind_some, if_neg c2], by rw [if_pos c1, if_pos c1, if_pos hf, Option.bind_some, if_neg c2]⟩⟩
      simp
    · refine ⟨_, ?_, fun k => ⟨by rw [if_neg (by simp), if_neg c1, if_pos c2, if_pos c2, if_pos ht], by rw [if_neg c1, if_pos c2, if_pos c2, if_pos ht]⟩⟩
      simp
    · exact ⟨(l, 0), rfl, fun k => ⟨by rw [if_neg (by simp), if_neg c1, if_neg c2], by rw [if_neg c1, if_neg c2]⟩⟩
  have e1 : ∀ b : Bool, ∃ res : List S32 × Int, res.1.length = l.length ∧ ∀ k, spec_Pumped.j1 (k + 2) l b f t m = some res ∧ impl_Pumped.j1 (k + 2) l b f t m = some res := by
    intro b
    obtain ⟨res, hr, hk⟩ := e2
    cases b with
    | true => exact ⟨(l, 2), rfl, fun k => ⟨by simp [spec_Pumped.j1], by simp [impl_Pumped.j1]⟩⟩
    | false =>
      simp only [spec_Pumped.j1, impl_Pumped.j1]
      by_cases c2 : t ≥ 0
      · by_cases c3 : wrap64 ((rd_T32 l t).f0 + m) > (rd_T32 l t).f1
        · refine ⟨(l, 3), rfl, fun k => ⟨?_, by rw [if_neg (by simp), if_pos c2, if_pos c2, if_pos ht, if_pos c3]⟩⟩
          rw [if_neg (by simp), if_pos c2, if_pos c2, if_pos ht, decide_eq_true c3]
          simp [spec_Pumped.j2]
        · refine ⟨res, hr, fun k => ⟨?_, by rw [if_neg (by simp), if_pos c2, if_pos c2, if_pos ht, if_neg c3]; exact (hk k).2⟩⟩
          rw [if_neg (by simp), if_pos c2, if_pos c2, if_pos ht, decide_eq_false c3]
          exact (hk k).1
      · exact ⟨res, hr, fun k => ⟨by rw [if_neg (by simp), if_neg c2]; exact (hk k).1, by rw [if_neg (by simp), if_neg c2]; exact (hk k).2⟩⟩
  simp only [spec_Pumped.j0, impl_Pumped.j0]
  by_cases c1 : f ≥ 0
  · obtain ⟨res, hr, hk⟩ := e1 (decide ((rd_T32 l f).f0 < m))
    exact ⟨res, hr, fun k => ⟨by rw [if_neg (by simp), if_pos c1, if_pos c1, if_pos hf]; exact (hk k).1, by rw [if_neg (by simp), if_pos c1, if_pos c1, if_pos hf]; exact (hk k).2⟩⟩
  · obtain ⟨res, hr, hk⟩ := e1 false
    exact ⟨res, hr, fun k => ⟨by rw [if_neg (by simp), if_neg c1]; exact (hk k).1, by rw [if_neg (by simp), if_neg c1]; exact (hk k).2⟩⟩
theorem pumped_same (l : List S32) (f t m : Int) (hn : l.length ≤ 1048576) : ∃ res : List S32 × Int, res.1.length = l.length ∧ ∀ k, l.length + 3 < k → spec_Pumped.f k l f t m = some res ∧ impl_Pumped.f k l f t m = some res := by
  obtain ⟨b, hbl, hb⟩ := tanks_same l hn
  have hw : wrap64 ((l.length : Int) - 1) = (l.length : Int) - 1 := w64 (by omega) (by omega)
  have bad : ∀ k, spec_Pumped.j0 (k + 1) l true f t m = some (l, 1) ∧ impl_Pumped.j0 (k + 1) l true f t m = some (l, 1) := fun k => by
    simp only [spec_Pumped.j0, impl_Pumped.j0, if_true]; exact ⟨trivial, trivial⟩
  have start : ∀ (k : Nat) (o : Option (List S32 × Int)), True → spec_Pumped.f k l f t m = (spec_l10Fuels.f k l).bind fun t141 => (if t141 = true then ((spec_l1In.f f (-1) (wrap64 ((l.length : Int) - 1))).bind fun t142 => (if t142 = true then ((spec_l1In.f t (-1) (wrap64 ((l.length : Int) - 1))).bind fun t143 => (if t143 = true then (if f = t then (spec_Pumped.j0 k l true f t m) else ((spec_l1In.f m 1 1000000).bind fun t144 => (spec_Pumped.j0 k l (!t144) f t m))) else (spec_Pumped.j0 k l true f t m))) else (spec_Pumped.j0 k l true f t m))) else (spec_Pumped.j0 k l true f t m)) := by
    intro k o _
    unfold spec_Pumped.f
    rw [Option.bind_some, if_pos (by simp; omega), Option.bind_some]
    rfl
  by_cases hc : b = true ∧ (-1 ≤ f ∧ f ≤ (l.length : Int) - 1) ∧ (-1 ≤ t ∧ t ≤ (l.length : Int) - 1) ∧ ¬ f = t ∧ (1 ≤ m ∧ m ≤ 1000000)
  · obtain ⟨rfl, h1, h2, h3, h4⟩ := hc
    obtain ⟨res, hr, hk⟩ := steps_same l f t m (by omega) (by omega)
    refine ⟨res, hr, fun k hk' => ?_⟩
    obtain ⟨k, rfl⟩ : ∃ j, k = j + 3 := ⟨k - 3, by omega⟩
    obtain ⟨hs, hi⟩ := hb (k + 3) (by omega)
    rw [start _ none trivial]
    unfold impl_Pumped.f
    rw [own_sameQ l hn, hs, hi, in_eqQ, in_eqQ, in_eqQ, in_eqQ', in_eqQ', in_eqQ', hw, decide_eq_true h1, decide_eq_true h2, decide_eq_true h4]
    simp only [Option.bind_some, if_true, if_neg h3, Bool.not_true]
    exact hk k
  · refine ⟨(l, 1), rfl, fun k hk' => ?_⟩
    obtain ⟨k, rfl⟩ := pos_round (show 0 < k by omega)
    obtain ⟨hs, hi⟩ := hb (k + 1) (by omega)
    obtain ⟨b1, b2⟩ := bad k
    rw [start _ none trivial]
    unfold impl_Pumped.f
    rw [own_sameQ l hn, hs, hi, in_eqQ, in_eqQ, in_eqQ, in_eqQ', in_eqQ', in_eqQ', hw]
    simp only [Option.bind_some]
    cases b with
    | false => simp only [Bool.false_eq_true, if_false]; exact ⟨b1, b2⟩
    | true =>
      by_cases h1 : -1 ≤ f ∧ f ≤ (l.length : Int) - 1
      · by_cases h2 : -1 ≤ t ∧ t ≤ (l.length : Int) - 1
        · by_cases h3 : f = t
          · rw [decide_eq_true h1, decide_eq_true h2]
            simp only [if_true, if_pos h3]; exact ⟨b1, b2⟩
          · by_cases h4 : 1 ≤ m ∧ m ≤ 1000000
            · exact absurd ⟨rfl, h1, h2, h3, h4⟩ hc
            · rw [decide_eq_true h1, decide_eq_true h2, decide_eq_false h4]
              simp only [if_true, if_neg h3, Bool.not_false]; exact ⟨b1, b2⟩
        · rw [decide_eq_true h1, decide_eq_false h2]
          simp only [if_true, Bool.false_eq_true, if_false]; exact ⟨b1, b2⟩
      · rw [decide_eq_false h1]
        simp only [if_true, Bool.false_eq_true, if_false]; exact ⟨b1, b2⟩

theorem FnExactPumped : laws_FnExactPumped.Pure := by
  intro l f t m _ _ _ _
  by_cases hn : (l.length : Int) ≤ 1048576
  · have hl := toFuel_length l
    obtain ⟨res, hrl, hr⟩ := pumped_same (toFuel l) f t m (by omega)
    obtain ⟨K, hK⟩ : ∃ K, K = l.length + 10 := ⟨_, rfl⟩
    obtain ⟨r0, hm0, hml0, hmr0⟩ := markFuel_ok (toFuel l) (by omega) (K + 2) (by omega)
    obtain ⟨r1, hm1, hml1, hmr1⟩ := markFuel_ok res.1 (by omega) (K + 1) (by omega)
    have hh1 := heldFuel_ok r1 (by omega) (fun j h0 h1 => hmr1 j h0 (by omega)) (K + 1) (by omega)
    have hh2 := heldFuel_ok r1 (by omega) (fun j h0 h1 => hmr1 j h0 (by omega)) K (by omega)
    have t0 : ∀ k, l.length < k → laws_toFuelS.f k l = some (toFuel l) := fun k hk => toFuel_ok l (by omega) k hk
    have e0 : ∀ k, l.length < k → laws_eqFuelS.f k res.1 res.1 = some true := fun k hk => eqFuel_ok res.1 (by omega) k (by omega)
    refine ⟨K + 3, ?_⟩
    have j2 : laws_FnExactPumped.j2 (K + 1) r1 (1 + 2 * (res.1.length : Int)) false = some true := by
      simp only [laws_FnExactPumped.j2]
      rw [if_neg (by simp), hh2, Option.bind_some, if_neg (by omega), if_pos (by omega)]
    have j1 : laws_FnExactPumped.j1 (K + 2) l res.1 res.2 res.1 false f t m = some true := by
      simp only [laws_FnExactPumped.j1]
      rw [if_neg (by simp), hm1, Option.bind_some]
      dsimp only
      rw [hh1, Option.bind_some, if_neg (by omega), if_pos (by omega), t0 (K + 1) (by omega), Option.bind_some]
      simp only [laws_toPump.f]
      rw [Option.bind_some, (hr (K + 1) (by omega)).2, Option.bind_some, e0 (K + 1) (by omega), Option.bind_some, if_pos rfl, show (res.2 != res.2) = false by simp]
      exact j2
    have j0 : laws_FnExactPumped.j0 (K + 3) l res.1 res.2 (toFuel l) res.1 res.2 false f t m = some true := by
      simp only [laws_FnExactPumped.j0]
      rw [if_neg (by simp), t0 (K + 2) (by omega), Option.bind_some, eqFuel_ok (toFuel l) (by omega) (K + 2) (by omega), Option.bind_some, if_pos rfl, hm0, Option.bind_some]
      dsimp only
      rw [if_neg (by omega), e0 (K + 2) (by omega), Option.bind_some, if_pos rfl, show (res.2 != res.2) = false by simp]
      exact j1
    unfold laws_FnExactPumped.f laws_szFuelS.f
    rw [w64 (x := 1048576 - (l.length : Int)) (by omega) (by omega), if_neg (by omega), Option.bind_some, if_neg (by omega), t0 (K + 3) (by omega), Option.bind_some]
    simp only [laws_toPump.f]
    rw [Option.bind_some, (hr (K + 3) (by omega)).1, Option.bind_some, Option.bind_some, Option.bind_some, (hr (K + 3) (by omega)).2, Option.bind_some, e0 (K + 3) (by omega), Option.bind_some, if_pos rfl, show (res.2 != res.2) = false by simp]
    exact j0
  · refine ⟨0, ?_⟩
    unfold laws_FnExactPumped.f laws_szFuelS.f
    rw [w64 (x := 1048576 - (l.length : Int)) (by omega) (by omega), if_pos (by omega), Option.bind_some, if_pos (by omega)]

end Go.Proofs.Ytlphfhibnbhkfaa.Pure
