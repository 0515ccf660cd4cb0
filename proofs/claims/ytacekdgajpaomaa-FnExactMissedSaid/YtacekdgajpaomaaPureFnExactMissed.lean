/- The program's Missed returns what the reference's returns, for all arguments; it changes none of them, and what it hands back is new memory. -/
import Derived.Test.YtacekdgajpaomaaPFnExactMissedx8
import Derived.Test.YtacekdgajpaomaaVMissedKit
set_option linter.unusedVariables false
set_option linter.unusedSimpArgs false
namespace Go.Proofs.Ytacekdgajpaomaa.Pure
open Go.RowKit Go.Proofs.Ytacekdgajpaomaa.PFnExactMissed Go.Proofs.YtacekdgajpaomaaW.PrintWords Go.Proofs.YtacekdgajpaomaaW.PrintLast Go.Proofs.YtacekdgajpaomaaW.Kit

theorem rd60_lt {l : List S60} {i : Int} (h0 : 0 ≤ i) (h1 : i < l.length) : ∃ h : i.toNat < l.length, rd_T60 l i = l[i.toNat]'h := by
  have h : i.toNat < l.length := by omega
  exact ⟨h, by simp [rd_T60, List.getD_eq_getElem?_getD, List.getElem?_eq_getElem h]⟩
theorem rd60_mem {l : List S60} {i : Int} (h0 : 0 ≤ i) (h1 : i < l.length) : rd_T60 l i ∈ l := by
  obtain ⟨h, e⟩ := rd60_lt h0 h1
  rw [e]; exact List.getElem_mem h
theorem rd60_drop {l : List S60} {i : Int} (h0 : 0 ≤ i) (h1 : i < l.length) : l.drop i.toNat = rd_T60 l i :: l.drop (i + 1).toNat := by
  obtain ⟨h, e⟩ := rd60_lt h0 h1
  rw [e, show (i + 1).toNat = i.toNat + 1 by omega, List.drop_eq_getElem_cons h]
theorem rd60_take {l : List S60} {i : Int} (h0 : 0 ≤ i) (h1 : i < l.length) : l.take (i + 1).toNat = l.take i.toNat ++ [rd_T60 l i] := by
  obtain ⟨h, e⟩ := rd60_lt h0 h1
  rw [e, show (i + 1).toNat = i.toNat + 1 by omega, List.take_succ_eq_append_getElem h]
theorem rd60_set_eq {l : List S60} {i : Int} {x : S60} (h0 : 0 ≤ i) (h1 : i < l.length) : rd_T60 (l.set i.toNat x) i = x := by
  simp [rd_T60, List.getD_eq_getElem?_getD, List.getElem?_set, show i.toNat < l.length by omega]
theorem rd60_set_ne {l : List S60} {i j : Int} {x : S60} (h0 : 0 ≤ i) (hj : 0 ≤ j) (h : i ≠ j) : rd_T60 (l.set i.toNat x) j = rd_T60 l j := by
  simp [rd_T60, List.getD_eq_getElem?_getD, List.getElem?_set, show ¬ i.toNat = j.toNat by omega]
theorem rd60_append_left {l m : List S60} {i : Int} (h0 : 0 ≤ i) (h1 : i < l.length) : rd_T60 (l ++ m) i = rd_T60 l i := by
  simp [rd_T60, List.getD_eq_getElem?_getD, List.getElem?_append_left (show i.toNat < l.length by omega)]
theorem rd60_last {l : List S60} {x : S60} : rd_T60 (l ++ [x]) (l.length : Int) = x := by
  simp [rd_T60, List.getD_eq_getElem?_getD]
theorem ext60 {l m : List S60} (h : l.length = m.length) (hr : ∀ i : Int, 0 ≤ i → i < l.length → rd_T60 l i = rd_T60 m i) : l = m := by
  apply List.ext_getElem h
  intro i h1 h2
  have := hr i (by omega) (by omega)
  simpa [rd_T60, List.getD_eq_getElem?_getD, List.getElem?_eq_getElem h1, List.getElem?_eq_getElem h2] using this
theorem rd31_lt {l : List S31} {i : Int} (h0 : 0 ≤ i) (h1 : i < l.length) : ∃ h : i.toNat < l.length, rd_T31 l i = l[i.toNat]'h := by
  have h : i.toNat < l.length := by omega
  exact ⟨h, by simp [rd_T31, List.getD_eq_getElem?_getD, List.getElem?_eq_getElem h]⟩
theorem rd31_mem {l : List S31} {i : Int} (h0 : 0 ≤ i) (h1 : i < l.length) : rd_T31 l i ∈ l := by
  obtain ⟨h, e⟩ := rd31_lt h0 h1
  rw [e]; exact List.getElem_mem h
theorem rd31_drop {l : List S31} {i : Int} (h0 : 0 ≤ i) (h1 : i < l.length) : l.drop i.toNat = rd_T31 l i :: l.drop (i + 1).toNat := by
  obtain ⟨h, e⟩ := rd31_lt h0 h1
  rw [e, show (i + 1).toNat = i.toNat + 1 by omega, List.drop_eq_getElem_cons h]
theorem rd31_take {l : List S31} {i : Int} (h0 : 0 ≤ i) (h1 : i < l.length) : l.take (i + 1).toNat = l.take i.toNat ++ [rd_T31 l i] := by
  obtain ⟨h, e⟩ := rd31_lt h0 h1
  rw [e, show (i + 1).toNat = i.toNat + 1 by omega, List.take_succ_eq_append_getElem h]
theorem rd31_set_eq {l : List S31} {i : Int} {x : S31} (h0 : 0 ≤ i) (h1 : i < l.length) : rd_T31 (l.set i.toNat x) i = x := by
  simp [rd_T31, List.getD_eq_getElem?_getD, List.getElem?_set, show i.toNat < l.length by omega]
theorem rd31_set_ne {l : List S31} {i j : Int} {x : S31} (h0 : 0 ≤ i) (hj : 0 ≤ j) (h : i ≠ j) : rd_T31 (l.set i.toNat x) j = rd_T31 l j := by
  simp [rd_T31, List.getD_eq_getElem?_getD, List.getElem?_set, show ¬ i.toNat = j.toNat by omega]
theorem rd31_append_left {l m : List S31} {i : Int} (h0 : 0 ≤ i) (h1 : i < l.length) : rd_T31 (l ++ m) i = rd_T31 l i := by
  simp [rd_T31, List.getD_eq_getElem?_getD, List.getElem?_append_left (show i.toNat < l.length by omega)]
theorem rd31_last {l : List S31} {x : S31} : rd_T31 (l ++ [x]) (l.length : Int) = x := by
  simp [rd_T31, List.getD_eq_getElem?_getD]
theorem ext31 {l m : List S31} (h : l.length = m.length) (hr : ∀ i : Int, 0 ≤ i → i < l.length → rd_T31 l i = rd_T31 m i) : l = m := by
  apply List.ext_getElem h
  intro i h1 h2
  have := hr i (by omega) (by omega)
  simpa [rd_T31, List.getD_eq_getElem?_getD, List.getElem?_eq_getElem h1, List.getElem?_eq_getElem h2] using this
/-- What the law's list is as the program's. -/
def toLeg (l : List S60) : List S31 := l.map fun x => ⟨x.f0, x.f1, x.f2, x.f3, x.f4, x.f5⟩
theorem toLeg_loop (l : List S60) (hn : l.length ≤ 1048576) (d : Nat) : ∀ (k : Nat) (o : List S31) (i : Int), 0 ≤ i → i ≤ l.length → (l.length : Int) - i = d → d < k → o.length = l.length → o.take i.toNat = (toLeg l).take i.toNat → laws_toLegS.l0 k l o i = some (toLeg l) := by
  induction d with
  | zero =>
    intro k o i h0 h1 hd hk ho ht
    obtain ⟨k, rfl⟩ := pos_round (show 0 < k by omega)
    simp only [laws_toLegS.l0]
    rw [if_neg (by omega)]
    rw [List.take_of_length_le (by omega), List.take_of_length_le (by simp [toLeg]; omega)] at ht
    rw [ht]
  | succ d ih =>
    intro k o i h0 h1 hd hk ho ht
    obtain ⟨k, rfl⟩ := pos_round (show 0 < k by omega)
    obtain ⟨hl, e⟩ := rd60_lt h0 (show i < (l.length : Int) by omega)
    simp only [laws_toLegS.l0]
    rw [if_pos (by omega), if_pos h0]
    simp only [laws_toLeg.f, Option.bind_some]
    rw [if_pos (by omega), w64 (x := i + 1) (by omega) (by omega)]
    refine ih k _ (i + 1) (by omega) (by omega) (by omega) (by omega) (by simpa using ho) ?_
    rw [show (i + 1).toNat = i.toNat + 1 by omega, List.take_succ_eq_append_getElem (by simp; omega), List.take_succ_eq_append_getElem (by simp [toLeg]; omega), List.take_set_of_le (Nat.le_refl _), ht]
    simp [toLeg, e]
theorem toLeg_ok (l : List S60) (hn : l.length ≤ 1048576) (k : Nat) (hk : l.length < k) : laws_toLegS.f k l = some (toLeg l) := by
  unfold laws_toLegS.f
  rw [if_pos (by omega), if_pos (by omega)]
  exact toLeg_loop l hn l.length k _ 0 (by omega) (by omega) (by omega) hk (by simp) (by simp)
theorem toLeg_length (l : List S60) : (toLeg l).length = l.length := by simp [toLeg]
theorem eqLeg_loop (l : List S31) (hn : l.length ≤ 1000000000) (d : Nat) : ∀ (k : Nat) (i : Int), 0 ≤ i → i ≤ l.length → (l.length : Int) - i = d → d < k → laws_eqLegS.l0 k l l i = some true := by
  induction d with
  | zero =>
    intro k i h0 h1 hd hk
    obtain ⟨k, rfl⟩ := pos_round (show 0 < k by omega)
    simp only [laws_eqLegS.l0]
    rw [if_neg (by omega)]
  | succ d ih =>
    intro k i h0 h1 hd hk
    obtain ⟨k, rfl⟩ := pos_round (show 0 < k by omega)
    simp only [laws_eqLegS.l0]
    rw [if_pos (by omega), if_pos h0, if_pos (by omega), w64 (x := i + 1) (by omega) (by omega)]
    simp only [laws_eqLeg.f, if_true, Option.bind_some]
    exact ih k (i + 1) (by omega) (by omega) (by omega) (by omega)
theorem eqLeg_ok (l : List S31) (hn : l.length ≤ 1000000000) (k : Nat) (hk : l.length < k) : laws_eqLegS.f k l l = some true := by
  unfold laws_eqLegS.f
  rw [if_pos rfl]
  exact eqLeg_loop l hn l.length k 0 (by omega) (by omega) (by omega) hk
theorem markLeg_floop (c0 : Int) (hc0 : 0 ≤ c0) (hc1 : c0 ≤ 1000000000) (d : Nat) : ∀ (k : Nat) (l : List S31) (c i : Int), l.length ≤ 100000000 → 0 ≤ i → i ≤ l.length → (l.length : Int) - i = d → d < k → c = c0 + 6 * i → (∀ j : Int, 0 ≤ j → j < i → rd_T31 l j = ((⟨c0 + 6 * j, c0 + 6 * j + 1, c0 + 6 * j + 2, c0 + 6 * j + 3, c0 + 6 * j + 4, c0 + 6 * j + 5⟩) : S31)) →
    ∃ r, laws_markLegS.l0 k l c i = some (c0 + 6 * (l.length : Int), r) ∧ r.length = l.length ∧ ∀ j : Int, 0 ≤ j → j < l.length → rd_T31 r j = ((⟨c0 + 6 * j, c0 + 6 * j + 1, c0 + 6 * j + 2, c0 + 6 * j + 3, c0 + 6 * j + 4, c0 + 6 * j + 5⟩) : S31) := by
  induction d with
  | zero =>
    intro k l c i hn h0 h1 hd hk hc hj
    obtain ⟨k, rfl⟩ := pos_round (show 0 < k by omega)
    simp only [laws_markLegS.l0]
    rw [if_neg (by omega)]
    exact ⟨l, by rw [hc, show i = (l.length : Int) by omega], rfl, fun j h2 h3 => hj j h2 (by omega)⟩
  | succ d ih =>
    intro k l c i hn h0 h1 hd hk hc hj
    obtain ⟨k, rfl⟩ := pos_round (show 0 < k by omega)
    have hlt : i < (l.length : Int) := by omega
    obtain ⟨r, hr, hl, hrj⟩ := ih k (l.set i.toNat (⟨c, c + 1, c + 1 + 1, c + 1 + 1 + 1, c + 1 + 1 + 1 + 1, c + 1 + 1 + 1 + 1 + 1⟩ : S31)) (c + 1 + 1 + 1 + 1 + 1 + 1) (i + 1) (by simpa using hn) (by omega) (by simp; omega) (by simp; omega) (by omega) (by omega) (fun j h2 h3 => by
      by_cases e : j = i
      · subst e
        rw [rd31_set_eq h2 hlt]
        congr 1 <;> omega
      · rw [rd31_set_ne h0 h2 (Ne.symm e)]
        exact hj j h2 (by omega))
    rw [List.length_set] at hr hl hrj
    refine ⟨r, ?_, hl, hrj⟩
    simp only [laws_markLegS.l0]
    rw [if_pos hlt, if_pos h0]
    simp only [Option.bind_some]
    rw [w64 (x := c + 1) (by omega) (by omega), w64 (x := c + 1 + 1) (by omega) (by omega), w64 (x := c + 1 + 1 + 1) (by omega) (by omega), w64 (x := c + 1 + 1 + 1 + 1) (by omega) (by omega), w64 (x := c + 1 + 1 + 1 + 1 + 1) (by omega) (by omega), w64 (x := c + 1 + 1 + 1 + 1 + 1 + 1) (by omega) (by omega), w64 (x := i + 1) (by omega) (by omega)]
    have hset : ∀ x y : S31, (l.set i.toNat x).set i.toNat y = l.set i.toNat y := fun x y => List.set_set ..
    simp only [rd31_set_eq h0 hlt, hset]
    exact hr
theorem markLeg_from (c0 : Int) (hc0 : 0 ≤ c0) (hc1 : c0 ≤ 1000000000) (l : List S31) (hn : l.length ≤ 100000000) (k : Nat) (hk : l.length < k) :
    ∃ r, laws_markLegS.f k l c0 = some (c0 + 6 * (l.length : Int), r) ∧ r.length = l.length ∧ ∀ j : Int, 0 ≤ j → j < l.length → rd_T31 r j = ((⟨c0 + 6 * j, c0 + 6 * j + 1, c0 + 6 * j + 2, c0 + 6 * j + 3, c0 + 6 * j + 4, c0 + 6 * j + 5⟩) : S31) :=
  markLeg_floop c0 hc0 hc1 l.length k l c0 0 hn (by omega) (by omega) (by omega) hk (by omega) (fun j h2 h3 => by omega)
/-! ### laws.eqIntS, markIntS, heldIntS -/
theorem eqI_loop (l : List Int) (hn : l.length ≤ 1000000000) (d : Nat) : ∀ (k : Nat) (i : Int), 0 ≤ i → i ≤ l.length → (l.length : Int) - i = d → d < k → laws_eqIntS.l0 k l l i = some true := by
  induction d with
  | zero =>
    intro k i h0 h1 hd hk
    obtain ⟨k, rfl⟩ := pos_round (show 0 < k by omega)
    simp only [laws_eqIntS.l0]
    rw [if_neg (by omega)]
  | succ d ih =>
    intro k i h0 h1 hd hk
    obtain ⟨k, rfl⟩ := pos_round (show 0 < k by omega)
    simp only [laws_eqIntS.l0]
    rw [if_pos (by omega), if_pos h0, if_pos (by omega), w64 (x := i + 1) (by omega) (by omega)]
    simp only [if_true]
    exact ih k (i + 1) (by omega) (by omega) (by omega) (by omega)
theorem eqI (l : List Int) (hn : l.length ≤ 1000000000) (k : Nat) (hk : l.length < k) : laws_eqIntS.f k l l = some true := by
  unfold laws_eqIntS.f
  rw [if_pos rfl]
  exact eqI_loop l hn l.length k 0 (by omega) (by omega) (by omega) hk
theorem markI_loop (d : Nat) : ∀ (k : Nat) (l : List Int) (c i : Int), l.length ≤ 1000000000 → 0 ≤ i → i ≤ l.length → (l.length : Int) - i = d → d < k → 0 ≤ c → c + d ≤ 2000000000 →
    ∃ r, laws_markIntS.l0 k l c i = some (c + d, r) ∧ r.length = l.length ∧ ∀ j : Int, 0 ≤ j → j < l.length → rd r j = if j < i then rd l j else c + (j - i) := by
  induction d with
  | zero =>
    intro k l c i hn h0 h1 hd hk hc hc1
    obtain ⟨k, rfl⟩ := pos_round (show 0 < k by omega)
    simp only [laws_markIntS.l0]
    rw [if_neg (by omega)]
    exact ⟨l, by simp, rfl, fun j hj hj1 => by rw [if_pos (by omega)]⟩
  | succ d ih =>
    intro k l c i hn h0 h1 hd hk hc hc1
    obtain ⟨k, rfl⟩ := pos_round (show 0 < k by omega)
    obtain ⟨r, hr, hl, hj⟩ := ih k (l.set i.toNat c) (c + 1) (i + 1) (by simpa using hn) (by omega) (by simp; omega) (by simp; omega) (by omega) (by omega) (by omega)
    simp only [laws_markIntS.l0]
    rw [if_pos (by omega), if_pos h0, w64 (x := i + 1) (by omega) (by omega), w64 (x := c + 1) (by omega) (by omega), hr]
    refine ⟨r, ?_, by simpa using hl, fun j hj0 hj1 => ?_⟩
    · congr 2; omega
    · rw [hj j hj0 (by simpa using hj1)]
      by_cases e : j = i
      · subst e
        rw [if_pos (by omega), if_neg (by omega), rd_set_eq hj0 hj1]; omega
      · by_cases e2 : j < i
        · rw [if_pos (by omega), if_pos e2, rd_set_ne h0 hj0 (Ne.symm e)]
        · rw [if_neg (by omega), if_neg e2]; omega
theorem markI (l : List Int) (hn : l.length ≤ 1000000000) (k : Nat) (hk : l.length < k) :
    ∃ r, laws_markIntS.f k l 1 = some (1 + (l.length : Int), r) ∧ r.length = l.length ∧ ∀ j : Int, 0 ≤ j → j < l.length → rd r j = 1 + j := by
  obtain ⟨r, hr, hl, hj⟩ := markI_loop l.length k l 1 0 hn (by omega) (by omega) (by omega) hk (by omega) (by omega)
  exact ⟨r, hr, hl, fun j h0 h1 => by rw [hj j h0 h1, if_neg (by omega)]; omega⟩
theorem heldI_loop (l : List Int) (hn : l.length ≤ 1000000000) (d : Nat) : ∀ (k : Nat) (c i : Int), 0 ≤ i → i ≤ l.length → (l.length : Int) - i = d → d < k → 0 ≤ c → c + d ≤ 2000000000 → (∀ j : Int, i ≤ j → j < l.length → rd l j = c + (j - i)) →
    laws_heldIntS.l0 k l c i = some (c + d) := by
  induction d with
  | zero =>
    intro k c i h0 h1 hd hk hc hc1 hr
    obtain ⟨k, rfl⟩ := pos_round (show 0 < k by omega)
    simp only [laws_heldIntS.l0]
    rw [if_neg (by omega)]; simp
  | succ d ih =>
    intro k c i h0 h1 hd hk hc hc1 hr
    obtain ⟨k, rfl⟩ := pos_round (show 0 < k by omega)
    simp only [laws_heldIntS.l0]
    rw [if_pos (by omega), if_pos h0, if_pos (by rw [hr i (by omega) (by omega)]; omega), w64 (x := i + 1) (by omega) (by omega), w64 (x := c + 1) (by omega) (by omega)]
    rw [ih k (c + 1) (i + 1) (by omega) (by omega) (by omega) (by omega) (by omega) (by omega) (fun j h2 h3 => by rw [hr j (by omega) h3]; omega)]
    congr 1; omega
theorem heldI (l : List Int) (hn : l.length ≤ 1000000000) (hr : ∀ j : Int, 0 ≤ j → j < l.length → rd l j = 1 + j) (k : Nat) (hk : l.length < k) : laws_heldIntS.f k l 1 = some (1 + (l.length : Int)) :=
  heldI_loop l hn l.length k 1 0 (by omega) (by omega) (by omega) hk (by omega) (by omega) (fun j h0 h1 => by rw [hr j h0 h1]; omega)
/-! ### LegsOk: the last one of a service, found by a map or by looking back -/
theorem l1in_eq (a lo hi : Int) : spec_l1In.f a lo hi = some (impl_LegsOk.in1 a lo hi) := by
  unfold spec_l1In.f impl_LegsOk.in1
  by_cases c : lo ≤ a
  · rw [if_pos c, decide_eq_true c, Bool.true_and]
  · rw [if_neg c, decide_eq_false c, Bool.false_and]
theorem l1min_eq (a : Int) : spec_l1Minute.f a = some (impl_LegsOk.in1 a 0 100000000) := by
  unfold spec_l1Minute.f
  rw [l1in_eq, Option.bind_some]
theorem last_snoc (x : S31) (s : Int) : ∀ p : List S31, impl_LegsOk.last (p ++ [x]) s = if x.f0 = s then some x else impl_LegsOk.last p s
  | [] => rfl
  | y :: r => by
    show (match impl_LegsOk.last (r ++ [x]) s with | some y => some y | none => if y.f0 = s then some y else none) = _
    rw [last_snoc x s r]
    by_cases c : x.f0 = s
    · rw [if_pos c, if_pos c]
    · rw [if_neg c, if_neg c]; rfl
theorem legs_chain (x : S31) (J : Bool → Option Bool) : ((spec_l1In.f x.f0 1 100).bind fun t106 => (if t106 = true then ((spec_l1In.f x.f1 0 19).bind fun t107 => (if t107 = true then ((spec_l1In.f x.f2 0 19).bind fun t108 => (if t108 = true then (if x.f1 = x.f2 then J true else ((spec_l1Minute.f x.f3).bind fun t109 => (if t109 = true then ((spec_l1Minute.f x.f4).bind fun t110 => (if t110 = true then (if x.f3 ≥ x.f4 then J true else ((spec_l1In.f x.f5 0 1000000).bind fun t111 => J (!t111))) else J true)) else J true))) else J true)) else J true)) else J true)) = J (impl_LegsOk.bad x) := by
  unfold impl_LegsOk.bad
  simp only [l1in_eq, l1min_eq, Option.bind_some]
  generalize impl_LegsOk.in1 x.f0 1 100 = b0
  generalize impl_LegsOk.in1 x.f1 0 19 = b1
  generalize impl_LegsOk.in1 x.f2 0 19 = b2
  generalize impl_LegsOk.in1 x.f3 0 100000000 = b3
  generalize impl_LegsOk.in1 x.f4 0 100000000 = b4
  generalize impl_LegsOk.in1 x.f5 0 1000000 = b5
  cases b0
  · rfl
  cases b1
  · rfl
  cases b2
  · rfl
  by_cases c : x.f1 = x.f2
  · rw [if_pos rfl, if_pos rfl, if_pos rfl, if_pos c, beq_iff_eq.mpr c]; rfl
  · rw [if_pos rfl, if_pos rfl, if_pos rfl, if_neg c, beq_eq_false_iff_ne.mpr c]
    cases b3
    · rfl
    cases b4
    · rfl
    by_cases d : x.f3 ≥ x.f4
    · rw [if_pos rfl, if_pos rfl, if_pos d, decide_eq_true d]; rfl
    · rw [if_pos rfl, if_pos rfl, if_neg d, decide_eq_false d]; rfl
/-- what looking back from j comes to -/
def backV (l : List S31) (j : Nat) (x : S31) (R : Bool) : Bool := match impl_LegsOk.last (l.take j) x.f0 with
  | none => R
  | some q => if impl_LegsOk.clash q x = true then false else R
theorem legs_back (l : List S31) (hn : l.length ≤ 1048576) (i : Int) (h0 : 0 ≤ i) (h1 : i < l.length) (W : Nat) (R : Bool) (hR : ∀ k, W < k → spec_LegsOk.l0 k l (i + 1) = some R) : ∀ (j : Nat) (x5 : Int), x5 = (j : Int) - 1 → (j : Int) ≤ i → ∀ k, W + j + 1 < k →
    spec_LegsOk.l1 k l i x5 (rd_T31 l i).f0 (rd_T31 l i).f1 (rd_T31 l i).f2 (rd_T31 l i).f3 (rd_T31 l i).f4 (rd_T31 l i).f5 = some (backV l j (rd_T31 l i) R) := by
  intro j
  induction j with
  | zero =>
    intro x5 e hj k hk
    obtain ⟨k, rfl⟩ := pos_round (show 0 < k by omega)
    simp only [spec_LegsOk.l1]
    rw [if_neg (by omega), w64 (x := i + 1) (by omega) (by omega), hR k (by omega)]
    rfl
  | succ j ih =>
    intro x5 e hj k hk
    have e5 : x5 = (j : Int) := by omega
    subst e5
    obtain ⟨k, rfl⟩ := pos_round (show 0 < k by omega)
    simp only [spec_LegsOk.l1]
    rw [if_pos (by omega), if_pos (by omega), if_pos (by omega), w64 (x := i + 1) (by omega) (by omega), w64 (x := (j : Int) - 1) (by omega) (by omega)]
    have hb : backV l (j + 1) (rd_T31 l i) R = if (rd_T31 l (j : Int)).f0 = (rd_T31 l i).f0 then (if impl_LegsOk.clash (rd_T31 l (j : Int)) (rd_T31 l i) = true then false else R) else backV l j (rd_T31 l i) R := by
      unfold backV
      have ht := rd31_take (l := l) (i := (j : Int)) (by omega) (by omega)
      rw [show ((j : Int) + 1).toNat = j + 1 by omega, show ((j : Int)).toNat = j by omega] at ht
      rw [ht, last_snoc]
      by_cases c : (rd_T31 l (j : Int)).f0 = (rd_T31 l i).f0
      · rw [if_pos c, if_pos c]
      · rw [if_neg c, if_neg c]
    rw [hb]
    by_cases c : (rd_T31 l (j : Int)).f0 = (rd_T31 l i).f0
    · rw [if_pos c, if_pos c, hR k (by omega)]
      unfold impl_LegsOk.clash
      by_cases c2 : (rd_T31 l (j : Int)).f2 = (rd_T31 l i).f1
      · rw [if_pos c2, bne_eq_false_iff_eq.mpr c2, Bool.false_or]
        by_cases c3 : (rd_T31 l (j : Int)).f4 > (rd_T31 l i).f3
        · rw [if_pos c3, decide_eq_true (show (rd_T31 l i).f3 < (rd_T31 l (j : Int)).f4 from c3), if_pos rfl]
        · rw [if_neg c3, decide_eq_false (show ¬ (rd_T31 l i).f3 < (rd_T31 l (j : Int)).f4 from c3), if_neg (by decide)]
      · rw [if_neg c2, bne_iff_ne.mpr c2, Bool.true_or, if_pos rfl]
    · rw [if_neg c, if_neg c]
      exact ih _ rfl (by omega) k (by omega)
theorem legs_loop (l : List S31) (hn : l.length ≤ 1048576) : ∀ (d : Nat) (i : Int), 0 ≤ i → i ≤ l.length → (l.length : Int) - i = d → ∀ k, d * (l.length + 4) < k → spec_LegsOk.l0 k l i = some (impl_LegsOk.g (d + 1) l i && decide ((l.length : Int) ≤ 60)) := by
  intro d
  induction d with
  | zero =>
    intro i h0 h1 hd k hk
    obtain ⟨k, rfl⟩ := pos_round (show 0 < k by omega)
    simp only [spec_LegsOk.l0]
    unfold impl_LegsOk.g
    rw [if_neg (by omega), if_neg (by omega), Bool.true_and]
  | succ d ih =>
    intro i h0 h1 hd k hk
    rw [Nat.succ_mul] at hk
    have ih' := ih (i + 1) (by omega) (by omega) (by omega)
    generalize d * (l.length + 4) = W at hk ih'
    obtain ⟨k, rfl⟩ := pos_round (show 0 < k by omega)
    simp only [spec_LegsOk.l0]
    rw [if_pos (by omega), if_pos h0]
    refine (legs_chain (rd_T31 l i) (fun b => spec_LegsOk.j1 k l i b (rd_T31 l i).f0 (rd_T31 l i).f1 (rd_T31 l i).f2 (rd_T31 l i).f3 (rd_T31 l i).f4 (rd_T31 l i).f5)).trans ?_
    show spec_LegsOk.j1 k l i (impl_LegsOk.bad (rd_T31 l i)) _ _ _ _ _ _ = _
    obtain ⟨k, rfl⟩ := pos_round (show 0 < k by omega)
    simp only [spec_LegsOk.j1]
    rw [show impl_LegsOk.g (d + 1 + 1) l i = (if i < (l.length : Int) then (if impl_LegsOk.bad (rd_T31 l i) = true then false else match impl_LegsOk.last (l.take i.toNat) (rd_T31 l i).f0 with | none => impl_LegsOk.g (d + 1) l (i + 1) | some q => if impl_LegsOk.clash q (rd_T31 l i) = true then false else impl_LegsOk.g (d + 1) l (i + 1)) else true) from rfl, if_pos (show i < (l.length : Int) by omega)]
    by_cases cb : impl_LegsOk.bad (rd_T31 l i) = true
    · rw [if_pos cb, if_pos cb]; rfl
    · rw [if_neg cb, if_neg cb, w64 (x := i - 1) (by omega) (by omega), legs_back l hn i h0 (by omega) W _ (fun k hk => ih' k hk) i.toNat (i - 1) (by omega) (by omega) k (by omega)]
      unfold backV
      cases impl_LegsOk.last (l.take i.toNat) (rd_T31 l i).f0 with
      | none => rfl
      | some q =>
        dsimp only
        by_cases c : impl_LegsOk.clash q (rd_T31 l i) = true
        · rw [if_pos c, if_pos c, Bool.false_and]
        · rw [if_neg c, if_neg c]
theorem legs_same (l : List S31) (hn : l.length ≤ 1048576) : ∃ b, impl_LegsOk.f l = some b ∧ ∀ k, l.length * (l.length + 4) < k → spec_LegsOk.f k l = some b := by
  refine ⟨_, rfl, fun k hk => ?_⟩
  unfold spec_LegsOk.f
  rw [legs_loop l hn l.length 0 (by omega) (by omega) (by omega) k hk]
  by_cases c : (l.length : Int) > 60
  · rw [if_pos c, decide_eq_false (by omega), Bool.and_false]
  · rw [if_neg c, decide_eq_true (by omega), Bool.and_true]
/-! ### Missed -/
theorem implin_eq (a lo hi : Int) : impl_in.f a lo hi = some (impl_LegsOk.in1 a lo hi) := by
  unfold impl_in.f impl_LegsOk.in1
  by_cases c : lo ≤ a
  · rw [if_pos c, decide_eq_true c, Bool.true_and]
  · rw [if_neg c, decide_eq_false c, Bool.false_and]
theorem ownInt_ok (l : List Int) (hn : l.length ≤ 1048576) : impl_own_int.f l = some l := by
  unfold impl_own_int.f
  rw [if_pos (by omega), if_pos (by omega), Option.bind_some, if_pos (by simp; omega), List.nil_append]
def Alike (l m : List S31) : Prop := ∀ i : Int, 0 ≤ i → i < l.length → (rd_T31 m i).f0 = (rd_T31 l i).f0 ∧ (rd_T31 m i).f1 = (rd_T31 l i).f1 ∧ (rd_T31 m i).f2 = (rd_T31 l i).f2
theorem miss_l2 (l m : List S31) (c : Int) (hm : m.length = l.length) (hn : l.length ≤ 60) (hs : Alike l m) (i : Int) (h0 : 0 ≤ i) (h1 : i < l.length) (W : Nat)
    (hW : ∀ out : List Int, out.length ≤ 60 * i.toNat + 60 → ∃ res : List Int × Bool, res.1.length ≤ 10000 ∧ ∀ k, W < k → impl_Missed.l1 k l m c out l (l.length : Int) (i + 1) = some res ∧ spec_Missed.l1 k l m c out (i + 1) = some res) :
    ∀ (d : Nat) (j : Int) (out : List Int), 0 ≤ j → j ≤ l.length → (l.length : Int) - j = d → out.length ≤ 60 * i.toNat + j.toNat →
    ∃ res : List Int × Bool, res.1.length ≤ 10000 ∧ ∀ k, W + d + 1 < k → impl_Missed.l2 k l m c out i l (l.length : Int) i l (l.length : Int) j (rd_T31 l i).f0 (rd_T31 l i).f1 (rd_T31 l i).f2 (rd_T31 l i).f3 (rd_T31 l i).f4 (rd_T31 l i).f5 = some res ∧ spec_Missed.l2 k l m c out i j = some res := by
  intro d
  have hwi : wrap64 (i + 1) = i + 1 := w64 (by omega) (by omega)
  induction d with
  | zero =>
    intro j out hj hjn hd ho
    obtain ⟨res, r0, r1⟩ := hW out (by omega)
    refine ⟨res, r0, fun k hk => ?_⟩
    obtain ⟨k, rfl⟩ := pos_round (show 0 < k by omega)
    have pj : ¬ j < (l.length : Int) := by omega
    simp only [impl_Missed.l2, spec_Missed.l2, if_neg pj, hwi]
    exact r1 k (by omega)
  | succ d ih =>
    intro j out hj hjn hd ho
    have hwj : wrap64 (j + 1) = j + 1 := w64 (by omega) (by omega)
    have pj : j < (l.length : Int) := by omega
    have po : out.length < 17592186044416 := by omega
    obtain ⟨si0, si1, si2⟩ := hs i h0 h1
    obtain ⟨sj0, sj1, sj2⟩ := hs j hj pj
    have same : ∃ res : List Int × Bool, res.1.length ≤ 10000 ∧ ∀ k, W + d + 1 < k → impl_Missed.l2 k l m c out i l (l.length : Int) i l (l.length : Int) (j + 1) (rd_T31 l i).f0 (rd_T31 l i).f1 (rd_T31 l i).f2 (rd_T31 l i).f3 (rd_T31 l i).f4 (rd_T31 l i).f5 = some res ∧ spec_Missed.l2 k l m c out i (j + 1) = some res := ih (j + 1) out (by omega) (by omega) (by omega) (by omega)
    by_cases e0 : (rd_T31 l i).f0 = (rd_T31 l j).f0
    · obtain ⟨res, r0, r1⟩ := same
      refine ⟨res, r0, fun k hk => ?_⟩
      obtain ⟨k, rfl⟩ := pos_round (show 0 < k by omega)
      simp only [impl_Missed.l2, spec_Missed.l2, if_pos pj, if_pos hj, if_pos h0, if_pos h1, if_pos e0, hwj]
      exact r1 k (by omega)
    · by_cases e1 : (rd_T31 l i).f2 = (rd_T31 l j).f1
      · by_cases e2 : wrap64 ((rd_T31 l i).f4 + c) ≤ (rd_T31 l j).f3
        · by_cases e3 : wrap64 ((rd_T31 m i).f4 + c) ≤ (rd_T31 m j).f3
          · obtain ⟨res, r0, r1⟩ := same
            refine ⟨res, r0, fun k hk => ?_⟩
            obtain ⟨k, rfl⟩ := pos_round (show 0 < k by omega)
            have e4 : ¬ wrap64 ((rd_T31 m i).f4 + c) > (rd_T31 m j).f3 := by omega
            simp only [impl_Missed.l2, spec_Missed.l2, impl_changes.f, hm, si0, si1, si2, sj0, sj1, sj2, if_pos pj, if_pos hj, if_pos h0, if_pos h1, if_neg e0, if_pos e1, if_pos e2, if_neg e4, decide_eq_true e2, decide_eq_true e3, Option.bind_some, if_true, hwj]
            exact r1 k (by omega)
          · obtain ⟨res, r0, r1⟩ := ih (j + 1) (out ++ [wrap64 ((wrap64 (i * (l.length : Int))) + j)]) (by omega) (by omega) (by omega) (by simp; omega)
            refine ⟨res, r0, fun k hk => ?_⟩
            obtain ⟨k, rfl⟩ := pos_round (show 0 < k by omega)
            have e4 : wrap64 ((rd_T31 m i).f4 + c) > (rd_T31 m j).f3 := by omega
            simp only [impl_Missed.l2, spec_Missed.l2, impl_changes.f, hm, si0, si1, si2, sj0, sj1, sj2, if_pos pj, if_pos hj, if_pos h0, if_pos h1, if_neg e0, if_pos e1, if_pos e2, if_pos e4, decide_eq_true e2, decide_eq_false e3, Option.bind_some, if_true, if_pos po, Bool.false_eq_true, if_false, hwj]
            exact r1 k (by omega)
        · obtain ⟨res, r0, r1⟩ := same
          refine ⟨res, r0, fun k hk => ?_⟩
          obtain ⟨k, rfl⟩ := pos_round (show 0 < k by omega)
          simp only [impl_Missed.l2, spec_Missed.l2, impl_changes.f, if_pos pj, if_pos hj, if_pos h0, if_pos h1, if_neg e0, if_pos e1, if_neg e2, decide_eq_false e2, Option.bind_some, Bool.false_eq_true, if_false, hwj]
          exact r1 k (by omega)
      · obtain ⟨res, r0, r1⟩ := same
        refine ⟨res, r0, fun k hk => ?_⟩
        obtain ⟨k, rfl⟩ := pos_round (show 0 < k by omega)
        simp only [impl_Missed.l2, spec_Missed.l2, impl_changes.f, if_pos pj, if_pos hj, if_pos h0, if_pos h1, if_neg e0, if_neg e1, Option.bind_some, Bool.false_eq_true, if_false, hwj]
        exact r1 k (by omega)
theorem miss_l1 (l m : List S31) (c : Int) (hm : m.length = l.length) (hn : l.length ≤ 60) (hs : Alike l m) : ∀ (d : Nat) (i : Int) (out : List Int), 0 ≤ i → i ≤ l.length → (l.length : Int) - i = d → out.length ≤ 60 * i.toNat →
    ∃ res : List Int × Bool, res.1.length ≤ 10000 ∧ ∀ k, d * (l.length + 3) < k → impl_Missed.l1 k l m c out l (l.length : Int) i = some res ∧ spec_Missed.l1 k l m c out i = some res := by
  intro d
  induction d with
  | zero =>
    intro i out h0 h1 hd ho
    refine ⟨(out, true), by show out.length ≤ 10000; omega, fun k hk => ?_⟩
    obtain ⟨k, rfl⟩ := pos_round (show 0 < k by omega)
    have pj : ¬ i < (l.length : Int) := by omega
    simp only [impl_Missed.l1, spec_Missed.l1, if_neg pj, ownInt_ok out (by omega), Option.bind_some]
    exact ⟨trivial, trivial⟩
  | succ d ih =>
    intro i out h0 h1 hd ho
    have pi : i < (l.length : Int) := by omega
    obtain ⟨res, r0, r1⟩ := miss_l2 l m c hm hn hs i h0 pi (d * (l.length + 3)) (fun out ho => ih (i + 1) out (by omega) (by omega) (by omega) (by omega)) l.length 0 out (by omega) (by omega) (by omega) (by omega)
    refine ⟨res, r0, fun k hk => ?_⟩
    rw [Nat.succ_mul] at hk
    generalize d * (l.length + 3) = W at hk r1
    obtain ⟨k, rfl⟩ := pos_round (show 0 < k by omega)
    simp only [impl_Missed.l1, spec_Missed.l1, if_pos pi, if_pos h0]
    exact r1 k (by omega)
theorem miss_l0 (l m : List S31) (c : Int) (hm : m.length = l.length) (hn : l.length ≤ 60) : ∀ (d : Nat) (i : Int), 0 ≤ i → i ≤ l.length → (l.length : Int) - i = d → (∀ j : Int, 0 ≤ j → j < i → (rd_T31 m j).f0 = (rd_T31 l j).f0 ∧ (rd_T31 m j).f1 = (rd_T31 l j).f1 ∧ (rd_T31 m j).f2 = (rd_T31 l j).f2) →
    ∃ res : List Int × Bool, res.1.length ≤ 10000 ∧ ∀ k, l.length * (l.length + 3) + 3 * d + 1 < k → impl_Missed.l0 k l m c l (l.length : Int) i = some res ∧ spec_Missed.l0 k l m c [] i = some res := by
  intro d
  induction d with
  | zero =>
    intro i h0 h1 hd hj
    obtain ⟨res, r0, r1⟩ := miss_l1 l m c hm hn (fun j a b => hj j a (by omega)) l.length 0 [] (by omega) (by omega) (by omega) (by simp)
    refine ⟨res, r0, fun k hk => ?_⟩
    obtain ⟨k, rfl⟩ := pos_round (show 0 < k by omega)
    have pi : ¬ i < (l.length : Int) := by omega
    simp only [impl_Missed.l0, spec_Missed.l0, if_neg pi]
    exact r1 k (by omega)
  | succ d ih =>
    intro i h0 h1 hd hj
    have pi : i < (l.length : Int) := by omega
    have hwi : wrap64 (i + 1) = i + 1 := w64 (by omega) (by omega)
    by_cases c0 : (rd_T31 m i).f0 = (rd_T31 l i).f0 ∧ (rd_T31 m i).f1 = (rd_T31 l i).f1 ∧ (rd_T31 m i).f2 = (rd_T31 l i).f2 ∧ (rd_T31 m i).f5 = (rd_T31 l i).f5
    · obtain ⟨a0, a1, a2, a5⟩ := c0
      obtain ⟨res, r0, r1⟩ := ih (i + 1) (by omega) (by omega) (by omega) (fun j b0 b1 => by
        by_cases e : j = i
        · subst e; exact ⟨a0, a1, a2⟩
        · exact hj j b0 (by omega))
      refine ⟨res, r0, fun k hk => ?_⟩
      obtain ⟨k, rfl⟩ := pos_round (show 0 < k by omega)
      have r2 := (r1 k (by omega)).1
      simp only [impl_Missed.l0, spec_Missed.l0, hm, if_pos pi, if_pos h0, hwi, a0, a1, a2, a5, beq_self_eq_true, Bool.not_true, Bool.or_self, Bool.false_eq_true, if_false]
      refine ⟨r2, ?_⟩
      obtain ⟨k, rfl⟩ := pos_round (show 0 < k by omega)
      simp only [spec_Missed.j2, if_pos pi, if_pos h0]
      obtain ⟨k, rfl⟩ := pos_round (show 0 < k by omega)
      simp only [spec_Missed.j3, hm, if_pos pi, if_pos h0, hwi, a0, a1, a2, a5, beq_self_eq_true, Bool.not_true, Bool.or_self, Bool.false_eq_true, if_false]
      exact (r1 k (by omega)).2
    · refine ⟨([], false), by simp, fun k hk => ?_⟩
      obtain ⟨k, rfl⟩ : ∃ q, k = q + 3 := ⟨k - 3, by omega⟩
      have d1 : (!((rd_T31 m i).f0 == (rd_T31 l i).f0) || (!((rd_T31 m i).f1 == (rd_T31 l i).f1) || (!((rd_T31 m i).f2 == (rd_T31 l i).f2) || !((rd_T31 m i).f5 == (rd_T31 l i).f5)))) = true := by
        refine (Bool.eq_false_or_eq_true _).resolve_right fun h => ?_
        simp only [Bool.or_eq_false_iff, Bool.not_eq_false', beq_iff_eq] at h
        exact c0 ⟨h.1, h.2.1, h.2.2.1, h.2.2.2⟩
      have d2 : (!((rd_T31 l i).f0 == (rd_T31 m i).f0) || (!((rd_T31 l i).f1 == (rd_T31 m i).f1) || (!((rd_T31 l i).f2 == (rd_T31 m i).f2) || !((rd_T31 l i).f5 == (rd_T31 m i).f5)))) = true := by
        rw [BEq.comm (a := (rd_T31 l i).f0), BEq.comm (a := (rd_T31 l i).f1), BEq.comm (a := (rd_T31 l i).f2), BEq.comm (a := (rd_T31 l i).f5)]
        exact d1
      simp only [impl_Missed.l0, hm, if_pos pi, if_pos h0, if_pos d2]
      refine ⟨trivial, ?_⟩
      simp only [spec_Missed.l0, spec_Missed.j2, spec_Missed.j3, hm, if_pos pi, if_pos h0, beq_self_eq_true, Bool.not_true, Bool.false_or, if_pos d1]
theorem legs_len {l : List S31} (h : impl_LegsOk.f l = some true) : l.length ≤ 60 := by
  unfold impl_LegsOk.f at h
  by_cases c : (l.length : Int) > 60
  · rw [if_pos c] at h; cases h
  · omega
theorem missed_same (l m : List S31) (c : Int) (hl : l.length ≤ 1048576) (hm : m.length ≤ 1048576) : ∃ res : List Int × Bool, res.1.length ≤ 10000 ∧ ∀ k, l.length * (l.length + 4) + m.length * (m.length + 4) + 3 * l.length + 10 < k → spec_Missed.f k l m c = some res ∧ impl_Missed.f k l m c = some res := by
  obtain ⟨b1, h1, h2⟩ := legs_same l hl
  obtain ⟨b2, h3, h4⟩ := legs_same m hm
  have hno : ∀ k, 0 < k → spec_Missed.j0 k l m c [] true = some ([], false) ∧ impl_Missed.j0 k l m c true = some ([], false) := fun k hk => by
    obtain ⟨k, rfl⟩ := pos_round hk
    simp only [impl_Missed.j0, spec_Missed.j0, if_true]
    exact ⟨trivial, trivial⟩
  cases b1 with
  | false =>
    refine ⟨([], false), by simp, fun k hk => ?_⟩
    unfold spec_Missed.f impl_Missed.f
    rw [h1, h2 k (by omega)]
    exact hno k (by omega)
  | true =>
  cases b2 with
  | false =>
    refine ⟨([], false), by simp, fun k hk => ?_⟩
    unfold spec_Missed.f impl_Missed.f
    rw [h1, h2 k (by omega), h3, h4 k (by omega)]
    exact hno k (by omega)
  | true =>
  by_cases e : (l.length : Int) = (m.length : Int)
  · cases ec : impl_LegsOk.in1 c 0 10000 with
    | false =>
      refine ⟨([], false), by simp, fun k hk => ?_⟩
      unfold spec_Missed.f impl_Missed.f
      rw [h1, h2 k (by omega), h3, h4 k (by omega), implin_eq, l1in_eq, ec]
      simp only [Option.bind_some, if_true, if_pos e, Bool.not_false]
      exact hno k (by omega)
    | true =>
      obtain ⟨res, r0, r1⟩ := miss_l0 l m c (by omega) (legs_len h1) l.length 0 (by omega) (by omega) (by omega) (fun j a b => absurd a (by omega))
      refine ⟨res, r0, fun k hk => ?_⟩
      unfold spec_Missed.f impl_Missed.f
      rw [h1, h2 k (by omega), h3, h4 k (by omega), implin_eq, l1in_eq, ec]
      simp only [Option.bind_some, if_true, if_pos e, Bool.not_true]
      have hmul : l.length * (l.length + 4) = l.length * (l.length + 3) + l.length := by rw [← Nat.mul_succ]
      rw [hmul] at hk
      obtain ⟨k, rfl⟩ := pos_round (show 0 < k by omega)
      simp only [impl_Missed.j0, spec_Missed.j0, Bool.false_eq_true, if_false]
      have r2 := r1 k (by omega)
      exact ⟨r2.2, r2.1⟩
  · refine ⟨([], false), by simp, fun k hk => ?_⟩
    unfold spec_Missed.f impl_Missed.f
    rw [h1, h2 k (by omega), h3, h4 k (by omega)]
    simp only [Option.bind_some, if_true, if_neg e]
    exact hno k (by omega)

theorem FnExactMissed : laws_FnExactMissed.Pure := by
  intro l m c hlw hmw _
  have hl9 := hlw.1
  have hm9 := hmw.1
  clear hlw hmw
  by_cases hn : (l.length : Int) ≤ 1048576
  · by_cases hn2 : (l.length : Int) + m.length ≤ 1048576
    · have hl := toLeg_length l
      have hml := toLeg_length m
      obtain ⟨res, hrl, hr⟩ := missed_same (toLeg l) (toLeg m) c (by omega) (by omega)
      rw [hl, hml] at hr
      obtain ⟨K, hK⟩ : ∃ K, K = l.length * (l.length + 4) + m.length * (m.length + 4) + 3 * l.length + m.length + 10020 := ⟨_, rfl⟩
      obtain ⟨r0, hm0, hml0, hmr0⟩ := markLeg_from 1 (by omega) (by omega) (toLeg l) (by omega) (K + 2) (by omega)
      obtain ⟨q0, hq0, hql0, hqr0⟩ := markLeg_from (1 + 6 * ((toLeg l).length : Int)) (by omega) (by omega) (toLeg m) (by omega) (K + 2) (by omega)
      obtain ⟨r1, hm1, hml1, hmr1⟩ := markI res.1 (by omega) (K + 1) (by omega)
      have hh1 := heldI r1 (by omega) (fun j h0 h1 => hmr1 j h0 (by omega)) (K + 1) (by omega)
      have hh2 := heldI r1 (by omega) (fun j h0 h1 => hmr1 j h0 (by omega)) K (by omega)
      have t0 : ∀ k, l.length < k → laws_toLegS.f k l = some (toLeg l) := fun k hk => toLeg_ok l (by omega) k hk
      have t1 : ∀ k, m.length < k → laws_toLegS.f k m = some (toLeg m) := fun k hk => toLeg_ok m (by omega) k hk
      have e0 : ∀ k, 10000 < k → laws_eqIntS.f k res.1 res.1 = some true := fun k hk => eqI res.1 (by omega) k (by omega)
      refine ⟨K + 3, ?_⟩
      have j2 : laws_FnExactMissed.j2 (K + 1) r1 (1 + (res.1.length : Int)) false = some true := by
        simp only [laws_FnExactMissed.j2]
        rw [if_neg (by simp), hh2, Option.bind_some, if_neg (by omega), if_pos (by omega)]
      have j1 : laws_FnExactMissed.j1 (K + 2) l m c res.1 res.2 res.1 false = some true := by
        simp only [laws_FnExactMissed.j1]
        rw [if_neg (by simp), hm1, Option.bind_some]
        dsimp only
        rw [hh1, Option.bind_some, if_neg (by omega), if_pos (by omega), t0 (K + 1) (by omega), Option.bind_some, t1 (K + 1) (by omega), Option.bind_some, (hr (K + 1) (by omega)).2, Option.bind_some, e0 (K + 1) (by omega), Option.bind_some, if_pos rfl, show (res.2 != res.2) = false by simp]
        exact j2
      have j0 : laws_FnExactMissed.j0 (K + 3) l m c res.1 res.2 (toLeg l) (toLeg m) res.1 res.2 false = some true := by
        simp only [laws_FnExactMissed.j0]
        rw [if_neg (by simp), t0 (K + 2) (by omega), Option.bind_some, eqLeg_ok (toLeg l) (by omega) (K + 2) (by omega), Option.bind_some, if_pos rfl, t1 (K + 2) (by omega), Option.bind_some, eqLeg_ok (toLeg m) (by omega) (K + 2) (by omega), Option.bind_some, if_pos rfl, hm0, Option.bind_some]
        dsimp only
        rw [hq0, Option.bind_some]
        dsimp only
        rw [if_neg (by omega), e0 (K + 2) (by omega), Option.bind_some, if_pos rfl, show (res.2 != res.2) = false by simp]
        exact j1
      unfold laws_FnExactMissed.f laws_szLegS.f
      rw [w64 (x := 1048576 - (l.length : Int)) (by omega) (by omega), if_neg (by omega), Option.bind_some, if_neg (by omega), w64 (x := 1048576 - (l.length : Int) - (m.length : Int)) (by omega) (by omega), if_neg (by omega), Option.bind_some, if_neg (by omega), t0 (K + 3) (by omega), Option.bind_some, t1 (K + 3) (by omega), Option.bind_some, (hr (K + 3) (by omega)).1, Option.bind_some, Option.bind_some, Option.bind_some, (hr (K + 3) (by omega)).2, Option.bind_some, e0 (K + 3) (by omega), Option.bind_some, if_pos rfl, show (res.2 != res.2) = false by simp]
      exact j0
    · refine ⟨0, ?_⟩
      unfold laws_FnExactMissed.f laws_szLegS.f
      rw [w64 (x := 1048576 - (l.length : Int)) (by omega) (by omega), if_neg (by omega), Option.bind_some, if_neg (by omega)]
      by_cases h2 : wrap64 (1048576 - (l.length : Int) - (m.length : Int)) < 0
      · rw [if_pos h2, Option.bind_some, if_pos (by omega)]
      · have := h2
        unfold wrap64 at this
        omega
  · refine ⟨0, ?_⟩
    unfold laws_FnExactMissed.f laws_szLegS.f
    by_cases h2 : wrap64 (1048576 - (l.length : Int)) < 0
    · rw [if_pos h2, Option.bind_some, if_pos (by omega)]
    · have := h2
      unfold wrap64 at this
      omega

end Go.Proofs.Ytacekdgajpaomaa.Pure
