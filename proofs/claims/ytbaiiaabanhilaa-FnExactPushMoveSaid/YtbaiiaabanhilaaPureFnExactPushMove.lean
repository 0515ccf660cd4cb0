/- The program's PushMove returns what the reference's returns, for all arguments; it changes none of them, and what it hands back is new memory. -/
import Derived.Test.YtbaiiaabanhilaaPFnExactPushMovex9
import Derived.Test.YtbaiiaabanhilaaVPushMoveKit
set_option linter.unusedVariables false
set_option linter.unusedSimpArgs false
namespace Go.Proofs.Ytbaiiaabanhilaa.Pure
open Go.RowKit Go.Proofs.Ytbaiiaabanhilaa.PFnExactPushMove Go.Proofs.YtbaiiaabanhilaaW.PrintWords Go.Proofs.YtbaiiaabanhilaaW.PrintLast Go.Proofs.YtbaiiaabanhilaaW.Kit

theorem rd67_lt {l : List S67} {i : Int} (h0 : 0 ≤ i) (h1 : i < l.length) : ∃ h : i.toNat < l.length, rd_T67 l i = l[i.toNat]'h := by
  have h : i.toNat < l.length := by omega
  exact ⟨h, by simp [rd_T67, List.getD_eq_getElem?_getD, List.getElem?_eq_getElem h]⟩
theorem rd67_mem {l : List S67} {i : Int} (h0 : 0 ≤ i) (h1 : i < l.length) : rd_T67 l i ∈ l := by
  obtain ⟨h, e⟩ := rd67_lt h0 h1
  rw [e]; exact List.getElem_mem h
theorem rd67_drop {l : List S67} {i : Int} (h0 : 0 ≤ i) (h1 : i < l.length) : l.drop i.toNat = rd_T67 l i :: l.drop (i + 1).toNat := by
  obtain ⟨h, e⟩ := rd67_lt h0 h1
  rw [e, show (i + 1).toNat = i.toNat + 1 by omega, List.drop_eq_getElem_cons h]
theorem rd67_take {l : List S67} {i : Int} (h0 : 0 ≤ i) (h1 : i < l.length) : l.take (i + 1).toNat = l.take i.toNat ++ [rd_T67 l i] := by
  obtain ⟨h, e⟩ := rd67_lt h0 h1
  rw [e, show (i + 1).toNat = i.toNat + 1 by omega, List.take_succ_eq_append_getElem h]
theorem rd67_set_eq {l : List S67} {i : Int} {x : S67} (h0 : 0 ≤ i) (h1 : i < l.length) : rd_T67 (l.set i.toNat x) i = x := by
  simp [rd_T67, List.getD_eq_getElem?_getD, List.getElem?_set, show i.toNat < l.length by omega]
theorem rd67_set_ne {l : List S67} {i j : Int} {x : S67} (h0 : 0 ≤ i) (hj : 0 ≤ j) (h : i ≠ j) : rd_T67 (l.set i.toNat x) j = rd_T67 l j := by
  simp [rd_T67, List.getD_eq_getElem?_getD, List.getElem?_set, show ¬ i.toNat = j.toNat by omega]
theorem rd67_append_left {l m : List S67} {i : Int} (h0 : 0 ≤ i) (h1 : i < l.length) : rd_T67 (l ++ m) i = rd_T67 l i := by
  simp [rd_T67, List.getD_eq_getElem?_getD, List.getElem?_append_left (show i.toNat < l.length by omega)]
theorem rd67_last {l : List S67} {x : S67} : rd_T67 (l ++ [x]) (l.length : Int) = x := by
  simp [rd_T67, List.getD_eq_getElem?_getD]
theorem ext67 {l m : List S67} (h : l.length = m.length) (hr : ∀ i : Int, 0 ≤ i → i < l.length → rd_T67 l i = rd_T67 m i) : l = m := by
  apply List.ext_getElem h
  intro i h1 h2
  have := hr i (by omega) (by omega)
  simpa [rd_T67, List.getD_eq_getElem?_getD, List.getElem?_eq_getElem h1, List.getElem?_eq_getElem h2] using this
theorem rd34_lt {l : List S34} {i : Int} (h0 : 0 ≤ i) (h1 : i < l.length) : ∃ h : i.toNat < l.length, rd_T34 l i = l[i.toNat]'h := by
  have h : i.toNat < l.length := by omega
  exact ⟨h, by simp [rd_T34, List.getD_eq_getElem?_getD, List.getElem?_eq_getElem h]⟩
theorem rd34_mem {l : List S34} {i : Int} (h0 : 0 ≤ i) (h1 : i < l.length) : rd_T34 l i ∈ l := by
  obtain ⟨h, e⟩ := rd34_lt h0 h1
  rw [e]; exact List.getElem_mem h
theorem rd34_drop {l : List S34} {i : Int} (h0 : 0 ≤ i) (h1 : i < l.length) : l.drop i.toNat = rd_T34 l i :: l.drop (i + 1).toNat := by
  obtain ⟨h, e⟩ := rd34_lt h0 h1
  rw [e, show (i + 1).toNat = i.toNat + 1 by omega, List.drop_eq_getElem_cons h]
theorem rd34_take {l : List S34} {i : Int} (h0 : 0 ≤ i) (h1 : i < l.length) : l.take (i + 1).toNat = l.take i.toNat ++ [rd_T34 l i] := by
  obtain ⟨h, e⟩ := rd34_lt h0 h1
  rw [e, show (i + 1).toNat = i.toNat + 1 by omega, List.take_succ_eq_append_getElem h]
theorem rd34_set_eq {l : List S34} {i : Int} {x : S34} (h0 : 0 ≤ i) (h1 : i < l.length) : rd_T34 (l.set i.toNat x) i = x := by
  simp [rd_T34, List.getD_eq_getElem?_getD, List.getElem?_set, show i.toNat < l.length by omega]
theorem rd34_set_ne {l : List S34} {i j : Int} {x : S34} (h0 : 0 ≤ i) (hj : 0 ≤ j) (h : i ≠ j) : rd_T34 (l.set i.toNat x) j = rd_T34 l j := by
  simp [rd_T34, List.getD_eq_getElem?_getD, List.getElem?_set, show ¬ i.toNat = j.toNat by omega]
theorem rd34_append_left {l m : List S34} {i : Int} (h0 : 0 ≤ i) (h1 : i < l.length) : rd_T34 (l ++ m) i = rd_T34 l i := by
  simp [rd_T34, List.getD_eq_getElem?_getD, List.getElem?_append_left (show i.toNat < l.length by omega)]
theorem rd34_last {l : List S34} {x : S34} : rd_T34 (l ++ [x]) (l.length : Int) = x := by
  simp [rd_T34, List.getD_eq_getElem?_getD]
theorem ext34 {l m : List S34} (h : l.length = m.length) (hr : ∀ i : Int, 0 ≤ i → i < l.length → rd_T34 l i = rd_T34 m i) : l = m := by
  apply List.ext_getElem h
  intro i h1 h2
  have := hr i (by omega) (by omega)
  simpa [rd_T34, List.getD_eq_getElem?_getD, List.getElem?_eq_getElem h1, List.getElem?_eq_getElem h2] using this
/-- What the law's list is as the program's. -/
def toCrane (l : List S67) : List S34 := l.map fun x => ⟨x.f0, x.f1, x.f2⟩
theorem toCrane_loop (l : List S67) (hn : l.length ≤ 1048576) (d : Nat) : ∀ (k : Nat) (o : List S34) (i : Int), 0 ≤ i → i ≤ l.length → (l.length : Int) - i = d → d < k → o.length = l.length → o.take i.toNat = (toCrane l).take i.toNat → laws_toCraneS.l0 k l o i = some (toCrane l) := by
  induction d with
  | zero =>
    intro k o i h0 h1 hd hk ho ht
    obtain ⟨k, rfl⟩ := pos_round (show 0 < k by omega)
    simp only [laws_toCraneS.l0]
    rw [if_neg (by omega)]
    rw [List.take_of_length_le (by omega), List.take_of_length_le (by simp [toCrane]; omega)] at ht
    rw [ht]
  | succ d ih =>
    intro k o i h0 h1 hd hk ho ht
    obtain ⟨k, rfl⟩ := pos_round (show 0 < k by omega)
    obtain ⟨hl, e⟩ := rd67_lt h0 (show i < (l.length : Int) by omega)
    simp only [laws_toCraneS.l0]
    rw [if_pos (by omega), if_pos h0]
    simp only [laws_toCrane.f, Option.bind_some]
    rw [if_pos (by omega), w64 (x := i + 1) (by omega) (by omega)]
    refine ih k _ (i + 1) (by omega) (by omega) (by omega) (by omega) (by simpa using ho) ?_
    rw [show (i + 1).toNat = i.toNat + 1 by omega, List.take_succ_eq_append_getElem (by simp; omega), List.take_succ_eq_append_getElem (by simp [toCrane]; omega), List.take_set_of_le (Nat.le_refl _), ht]
    simp [toCrane, e]
theorem toCrane_ok (l : List S67) (hn : l.length ≤ 1048576) (k : Nat) (hk : l.length < k) : laws_toCraneS.f k l = some (toCrane l) := by
  unfold laws_toCraneS.f
  rw [if_pos (by omega), if_pos (by omega)]
  exact toCrane_loop l hn l.length k _ 0 (by omega) (by omega) (by omega) hk (by simp) (by simp)
theorem toCrane_length (l : List S67) : (toCrane l).length = l.length := by simp [toCrane]
theorem eqCrane_loop (l : List S34) (hn : l.length ≤ 1000000000) (d : Nat) : ∀ (k : Nat) (i : Int), 0 ≤ i → i ≤ l.length → (l.length : Int) - i = d → d < k → laws_eqCraneS.l0 k l l i = some true := by
  induction d with
  | zero =>
    intro k i h0 h1 hd hk
    obtain ⟨k, rfl⟩ := pos_round (show 0 < k by omega)
    simp only [laws_eqCraneS.l0]
    rw [if_neg (by omega)]
  | succ d ih =>
    intro k i h0 h1 hd hk
    obtain ⟨k, rfl⟩ := pos_round (show 0 < k by omega)
    simp only [laws_eqCraneS.l0]
    rw [if_pos (by omega), if_pos h0, if_pos (by omega), w64 (x := i + 1) (by omega) (by omega)]
    simp only [laws_eqCrane.f, if_true, Option.bind_some]
    exact ih k (i + 1) (by omega) (by omega) (by omega) (by omega)
theorem eqCrane_ok (l : List S34) (hn : l.length ≤ 1000000000) (k : Nat) (hk : l.length < k) : laws_eqCraneS.f k l l = some true := by
  unfold laws_eqCraneS.f
  rw [if_pos rfl]
  exact eqCrane_loop l hn l.length k 0 (by omega) (by omega) (by omega) hk
theorem markCrane_loop (d : Nat) : ∀ (k : Nat) (l : List S34) (c i : Int), l.length ≤ 100000000 → 0 ≤ i → i ≤ l.length → (l.length : Int) - i = d → d < k → c = 1 + 3 * i → (∀ j : Int, 0 ≤ j → j < i → rd_T34 l j = ((⟨1 + 3 * j, 1 + 3 * j + 1, 1 + 3 * j + 2⟩) : S34)) →
    ∃ r, laws_markCraneS.l0 k l c i = some (1 + 3 * (l.length : Int), r) ∧ r.length = l.length ∧ ∀ j : Int, 0 ≤ j → j < l.length → rd_T34 r j = ((⟨1 + 3 * j, 1 + 3 * j + 1, 1 + 3 * j + 2⟩) : S34) := by
  induction d with
  | zero =>
    intro k l c i hn h0 h1 hd hk hc hj
    obtain ⟨k, rfl⟩ := pos_round (show 0 < k by omega)
    simp only [laws_markCraneS.l0]
    rw [if_neg (by omega)]
    exact ⟨l, by rw [hc, show i = (l.length : Int) by omega], rfl, fun j h2 h3 => hj j h2 (by omega)⟩
  | succ d ih =>
    intro k l c i hn h0 h1 hd hk hc hj
    obtain ⟨k, rfl⟩ := pos_round (show 0 < k by omega)
    have hlt : i < (l.length : Int) := by omega
    obtain ⟨r, hr, hl, hrj⟩ := ih k (l.set i.toNat (⟨c, c + 1, c + 1 + 1⟩ : S34)) (c + 1 + 1 + 1) (i + 1) (by simpa using hn) (by omega) (by simp; omega) (by simp; omega) (by omega) (by omega) (fun j h2 h3 => by
      by_cases e : j = i
      · subst e
        rw [rd34_set_eq h2 hlt]
        congr 1 <;> omega
      · rw [rd34_set_ne h0 h2 (Ne.symm e)]
        exact hj j h2 (by omega))
    rw [List.length_set] at hr hl hrj
    refine ⟨r, ?_, hl, hrj⟩
    simp only [laws_markCraneS.l0]
    rw [if_pos hlt, if_pos h0]
    simp only [Option.bind_some]
    rw [w64 (x := c + 1) (by omega) (by omega), w64 (x := c + 1 + 1) (by omega) (by omega), w64 (x := c + 1 + 1 + 1) (by omega) (by omega), w64 (x := i + 1) (by omega) (by omega)]
    have hset : ∀ x y : S34, (l.set i.toNat x).set i.toNat y = l.set i.toNat y := fun x y => List.set_set ..
    simp only [rd34_set_eq h0 hlt, hset]
    exact hr
theorem markCrane_ok (l : List S34) (hn : l.length ≤ 100000000) (k : Nat) (hk : l.length < k) :
    ∃ r, laws_markCraneS.f k l 1 = some (1 + 3 * (l.length : Int), r) ∧ r.length = l.length ∧ ∀ j : Int, 0 ≤ j → j < l.length → rd_T34 r j = ((⟨1 + 3 * j, 1 + 3 * j + 1, 1 + 3 * j + 2⟩) : S34) :=
  markCrane_loop l.length k l 1 0 hn (by omega) (by omega) (by omega) hk (by omega) (fun j h2 h3 => by omega)
theorem heldCrane_loop (l : List S34) (hn : l.length ≤ 100000000) (hr : ∀ j : Int, 0 ≤ j → j < l.length → rd_T34 l j = ((⟨1 + 3 * j, 1 + 3 * j + 1, 1 + 3 * j + 2⟩) : S34)) (d : Nat) : ∀ (k : Nat) (c i : Int), 0 ≤ i → i ≤ l.length → (l.length : Int) - i = d → d < k → c = 1 + 3 * i →
    laws_heldCraneS.l0 k l c i = some (1 + 3 * (l.length : Int)) := by
  induction d with
  | zero =>
    intro k c i h0 h1 hd hk hc
    obtain ⟨k, rfl⟩ := pos_round (show 0 < k by omega)
    simp only [laws_heldCraneS.l0]
    rw [if_neg (by omega), hc, show i = (l.length : Int) by omega]
  | succ d ih =>
    intro k c i h0 h1 hd hk hc
    obtain ⟨k, rfl⟩ := pos_round (show 0 < k by omega)
    simp only [laws_heldCraneS.l0]
    rw [if_pos (by omega), if_pos h0, hr i h0 (by omega)]
    dsimp only
    rw [w64 (x := c + 1) (by omega) (by omega), w64 (x := c + 1 + 1) (by omega) (by omega), w64 (x := c + 1 + 1 + 1) (by omega) (by omega), w64 (x := i + 1) (by omega) (by omega), if_pos (by omega), if_pos (by omega), if_pos (by omega)]
    exact ih k _ (i + 1) (by omega) (by omega) (by omega) (by omega) (by omega)
theorem heldCrane_ok (l : List S34) (hn : l.length ≤ 100000000) (hr : ∀ j : Int, 0 ≤ j → j < l.length → rd_T34 l j = ((⟨1 + 3 * j, 1 + 3 * j + 1, 1 + 3 * j + 2⟩) : S34)) (k : Nat) (hk : l.length < k) :
    laws_heldCraneS.f k l 1 = some (1 + 3 * (l.length : Int)) :=
  heldCrane_loop l hn hr l.length k 1 0 (by omega) (by omega) (by omega) hk (by omega)
/-! ### what a row of cranes must be -/
theorem in_eqC (a b c : Int) : impl_in.f a b c = some (decide (b ≤ a ∧ a ≤ c)) := in_some a b c
theorem in_eqC' (a b c : Int) : spec_l1In.f a b c = some (decide (b ≤ a ∧ a ≤ c)) := in_some a b c
theorem copy_same (l : List S34) (h : l.length ≤ 1048576) : spec_l17Copy.f l = some l := by
  unfold spec_l17Copy.f
  rw [Option.bind_some, if_pos (by simp; omega)]; rfl
theorem own_sameC (l : List S34) (h : l.length ≤ 1048576) : impl_Crane.f l = some l := by
  unfold impl_Crane.f
  rw [if_pos (by omega), if_pos (by omega), Option.bind_some, if_pos (by simp; omega)]; rfl
/-- A crane is on its rail. -/
def Rail (l : List S34) (j : Int) : Prop := (0 ≤ (rd_T34 l j).f1 ∧ (rd_T34 l j).f1 ≤ (rd_T34 l j).f0) ∧ (rd_T34 l j).f0 ≤ (rd_T34 l j).f2 ∧ (rd_T34 l j).f2 ≤ 1000
/-- .. and far enough from the one before it. -/
def Fine (l : List S34) (gap j : Int) : Prop := Rail l j ∧ (0 < j → (rd_T34 l (j - 1)).f0 + gap ≤ (rd_T34 l j).f0)
def Ends (l : List S34) (gap : Int) : Prop := (1 ≤ (l.length : Int) ∧ (l.length : Int) ≤ 8) ∧ 1 ≤ gap ∧ gap ≤ 20
def Valid (l : List S34) (gap : Int) : Prop := Ends l gap ∧ ∀ j : Int, 0 ≤ j → j < l.length → Fine l gap j
theorem ok_bad (l : List S34) (gap : Int) (hn : l.length ≤ 1048576) (hbad : ¬ Ends l gap) (d : Nat) : ∀ (k : Nat) (i : Int), 0 ≤ i → i ≤ l.length → (l.length : Int) - i = d → d < k → spec_CranesOk.l0 k l gap i = some false := by
  induction d with
  | zero =>
    intro k i h0 h1 hd hk
    obtain ⟨k, rfl⟩ := pos_round (show 0 < k by omega)
    simp only [spec_CranesOk.l0]
    rw [if_neg (by omega), in_eqC', in_eqC']
    by_cases c1 : 1 ≤ (l.length : Int) ∧ (l.length : Int) ≤ 8
    · have c2 : ¬ (1 ≤ gap ∧ gap ≤ 20) := fun h => hbad ⟨c1, h⟩
      simp [c1, c2]
    · simp [c1]
  | succ d ih =>
    intro k i h0 h1 hd hk
    obtain ⟨k, rfl⟩ := pos_round (show 0 < k by omega)
    have hI := ih k (i + 1) (by omega) (by omega) (by omega) (by omega)
    simp only [spec_CranesOk.l0]
    rw [if_pos (by omega), if_pos h0, in_eqC', in_eqC', w64 (x := i + 1) (by omega) (by omega), hI]
    simp only [Option.bind_some]
    by_cases c0 : i > 0
    · rw [if_pos c0, w64 (x := i - 1) (by omega) (by omega), if_pos (show 0 ≤ i - 1 by omega), if_pos (show i - 1 < (l.length : Int) by omega)]
      repeat' split
      all_goals rfl
    · rw [if_neg c0]
      repeat' split
      all_goals rfl
theorem ok_good (l : List S34) (gap : Int) (he : Ends l gap) (d : Nat) : ∀ (i : Int), 0 ≤ i → i ≤ l.length → (l.length : Int) - i = d → (0 < i → 0 ≤ (rd_T34 l (i - 1)).f0 ∧ (rd_T34 l (i - 1)).f0 ≤ 1000) →
    ∃ b : Bool, (b = true ↔ ∀ j : Int, i ≤ j → j < l.length → Fine l gap j) ∧ ∀ k, d < k → spec_CranesOk.l0 k l gap i = some b ∧ impl_CranesOk.l0 k l gap l (l.length : Int) i = some b := by
  obtain ⟨hlen, hgap⟩ := he
  induction d with
  | zero =>
    intro i h0 h1 hd hp
    refine ⟨true, ⟨fun _ j h2 h3 => by omega, fun _ => rfl⟩, fun k hk => ?_⟩
    obtain ⟨k, rfl⟩ := pos_round (show 0 < k by omega)
    simp only [spec_CranesOk.l0, impl_CranesOk.l0]
    rw [if_neg (by omega), if_neg (by omega), in_eqC', in_eqC', decide_eq_true hlen, decide_eq_true hgap]
    exact ⟨by simp, rfl⟩
  | succ d ih =>
    intro i h0 h1 hd hp
    have hlt : i < (l.length : Int) := by omega
    have hw : wrap64 (i + 1) = i + 1 := w64 (by omega) (by omega)
    by_cases hc : Rail l i
    · have hc1 := hc.1
      have hc2 := hc.2
      obtain ⟨b, hbi, hb⟩ := ih (i + 1) (by omega) (by omega) (by omega) (fun _ => by rw [show i + 1 - 1 = i by omega]; omega)
      by_cases hg : 0 < i ∧ (rd_T34 l i).f0 < (rd_T34 l (i - 1)).f0 + gap
      · refine ⟨false, ⟨(fun h => by cases h), fun h => ?_⟩, fun k hk => ?_⟩
        · have := (h i (by omega) hlt).2 hg.1
          omega
        · obtain ⟨k, rfl⟩ := pos_round (show 0 < k by omega)
          have := hp hg.1
          simp only [spec_CranesOk.l0, impl_CranesOk.l0]
          rw [if_pos hlt, if_pos hlt, if_pos h0, if_pos h0, if_pos hlt, in_eqC, in_eqC, in_eqC, in_eqC', in_eqC', decide_eq_true hc1, decide_eq_true hc2, decide_eq_true (show 0 ≤ (rd_T34 l i).f1 ∧ (rd_T34 l i).f1 ≤ 1000 by omega), decide_eq_true (show 0 ≤ (rd_T34 l i).f2 ∧ (rd_T34 l i).f2 ≤ 1000 by omega), decide_eq_true (show (rd_T34 l i).f1 ≤ (rd_T34 l i).f0 ∧ (rd_T34 l i).f0 ≤ (rd_T34 l i).f2 by omega)]
          simp only [Option.bind_some, if_true]
          constructor <;> rw [if_pos hg.1, w64 (x := i - 1) (by omega) (by omega), if_pos (show 0 ≤ i - 1 by omega), if_pos (show i - 1 < (l.length : Int) by omega), w64 (x := (rd_T34 l (i - 1)).f0 + gap) (by omega) (by omega), if_pos hg.2]
      · refine ⟨b, hbi.trans ⟨fun h j h2 h3 => ?_, fun h j h2 h3 => h j (by omega) h3⟩, fun k hk => ?_⟩
        · by_cases e : j = i
          · subst e
            exact ⟨hc, fun h4 => by
              by_cases h5 : (rd_T34 l j).f0 < (rd_T34 l (j - 1)).f0 + gap
              · exact absurd ⟨h4, h5⟩ hg
              · omega⟩
          · exact h j (by omega) h3
        · obtain ⟨k, rfl⟩ := pos_round (show 0 < k by omega)
          obtain ⟨hs, hi⟩ := hb k (by omega)
          simp only [spec_CranesOk.l0, impl_CranesOk.l0]
          rw [if_pos hlt, if_pos hlt, if_pos h0, if_pos h0, if_pos hlt, in_eqC, in_eqC, in_eqC, in_eqC', in_eqC', decide_eq_true hc1, decide_eq_true hc2, decide_eq_true (show 0 ≤ (rd_T34 l i).f1 ∧ (rd_T34 l i).f1 ≤ 1000 by omega), decide_eq_true (show 0 ≤ (rd_T34 l i).f2 ∧ (rd_T34 l i).f2 ≤ 1000 by omega), decide_eq_true (show (rd_T34 l i).f1 ≤ (rd_T34 l i).f0 ∧ (rd_T34 l i).f0 ≤ (rd_T34 l i).f2 by omega), hw, hs, hi]
          simp only [Option.bind_some, if_true]
          by_cases c0 : i > 0
          · have := hp c0
            constructor <;> rw [if_pos c0, w64 (x := i - 1) (by omega) (by omega), if_pos (show 0 ≤ i - 1 by omega), if_pos (show i - 1 < (l.length : Int) by omega), w64 (x := (rd_T34 l (i - 1)).f0 + gap) (by omega) (by omega), if_neg (fun h => hg ⟨c0, h⟩)]
          · constructor <;> rw [if_neg c0]
    · refine ⟨false, ⟨(fun h => by cases h), fun h => absurd (h i (by omega) hlt).1 hc⟩, fun k hk => ?_⟩
      obtain ⟨k, rfl⟩ := pos_round (show 0 < k by omega)
      unfold Rail at hc
      simp only [spec_CranesOk.l0, impl_CranesOk.l0]
      rw [if_pos hlt, if_pos hlt, if_pos h0, if_pos h0, if_pos hlt, in_eqC, in_eqC, in_eqC, in_eqC', in_eqC']
      simp only [Option.bind_some]
      constructor
      · by_cases c1 : 0 ≤ (rd_T34 l i).f1 ∧ (rd_T34 l i).f1 ≤ (rd_T34 l i).f0
        · rw [if_pos (decide_eq_true c1), if_neg (by simp; omega)]
        · rw [if_neg (by simpa using c1)]
      · by_cases c1 : 0 ≤ (rd_T34 l i).f1 ∧ (rd_T34 l i).f1 ≤ 1000
        · rw [if_pos (decide_eq_true c1)]
          by_cases c2 : 0 ≤ (rd_T34 l i).f2 ∧ (rd_T34 l i).f2 ≤ 1000
          · rw [if_pos (decide_eq_true c2), if_neg (by simp; omega)]
          · rw [if_neg (by simpa using c2)]
        · rw [if_neg (by simpa using c1)]
theorem cranes_iff (l : List S34) (gap : Int) (hn : l.length ≤ 1048576) : ∃ b : Bool, (b = true ↔ Valid l gap) ∧ ∀ k, l.length + 1 < k → spec_CranesOk.f k l gap = some b ∧ impl_CranesOk.f k l gap = some b := by
  by_cases h : Ends l gap
  · obtain ⟨b, hbi, hb⟩ := ok_good l gap h l.length 0 (by omega) (by omega) (by omega) (fun h => by omega)
    refine ⟨b, hbi.trans ⟨fun g => ⟨h, g⟩, fun g => g.2⟩, fun k hk => ?_⟩
    obtain ⟨k, rfl⟩ := pos_round (show 0 < k by omega)
    refine ⟨(hb (k + 1) (by omega)).1, ?_⟩
    have hi := (hb k (by omega)).2
    have hj : impl_CranesOk.j0 (k + 1) l gap false = some b := by
      simp only [impl_CranesOk.j0]
      rw [if_neg (by simp)]
      exact hi
    unfold impl_CranesOk.f
    rw [in_eqC, in_eqC, decide_eq_true h.1, decide_eq_true h.2, Option.bind_some, if_pos rfl, Option.bind_some]
    exact hj
  · refine ⟨false, ⟨(fun h => by cases h), fun g => absurd g.1 h⟩, fun k hk => ?_⟩
    obtain ⟨k, rfl⟩ := pos_round (show 0 < k by omega)
    refine ⟨ok_bad l gap hn h l.length (k + 1) 0 (by omega) (by omega) (by omega) (by omega), ?_⟩
    have hj : impl_CranesOk.j0 (k + 1) l gap true = some false := by
      simp only [impl_CranesOk.j0, if_true]
    unfold impl_CranesOk.f
    rw [in_eqC, in_eqC, Option.bind_some]
    by_cases c1 : 1 ≤ (l.length : Int) ∧ (l.length : Int) ≤ 8
    · have c2 : ¬ (1 ≤ gap ∧ gap ≤ 20) := fun h' => h ⟨c1, h'⟩
      rw [if_pos (decide_eq_true c1), decide_eq_false c2, Option.bind_some]
      exact hj
    · rw [if_neg (by simpa using c1)]
      exact hj
theorem cranes_yes {l : List S34} {gap : Int} (h : Valid l gap) (k : Nat) (hk : 10 < k) : spec_CranesOk.f k l gap = some true := by
  have := h.1.1
  obtain ⟨b, hb, e⟩ := cranes_iff l gap (by omega)
  rw [(e k (by omega)).1, hb.2 h]
theorem cranes_no {l : List S34} {gap : Int} (hl : l.length ≤ 8) (h : ¬ Valid l gap) (k : Nat) (hk : 10 < k) : spec_CranesOk.f k l gap = some false := by
  obtain ⟨b, hb, e⟩ := cranes_iff l gap (by omega)
  rw [(e k (by omega)).1]
  cases b with
  | false => rfl
  | true => exact absurd (hb.1 rfl) h
/-! ### numbers -/
theorem cmp_eq (a b : Int) : cmp_Compare_int.f a b = some (if a < b then -1 else if a > b then 1 else 0) := by
  unfold cmp_Compare_int.f cmp_isNaN_int.f
  rw [Option.bind_some, Option.bind_some, show (a != a) = false by simp, show (b != b) = false by simp, if_neg (by simp), if_neg (by simp)]
  split
  · rfl
  · split <;> rfl
theorem size_eq (a : Int) (h0 : -1000000 ≤ a) (h1 : a ≤ 1000000) : impl_size.f a = some (if a < 0 then -a else a) := by
  unfold impl_size.f
  split
  · rw [w64 (by omega) (by omega)]
  · rfl
/-! ### pushing up -/
/-- The rails are the old ones. -/
def Rails (l x : List S34) : Prop := x.length = l.length ∧ ∀ j : Int, 0 ≤ j → j < l.length → (rd_T34 x j).f1 = (rd_T34 l j).f1 ∧ (rd_T34 x j).f2 = (rd_T34 l j).f2
theorem rails_set {l x : List S34} (h : Rails l x) {i v : Int} (h0 : 0 ≤ i) (h1 : i < l.length) : Rails l (x.set i.toNat (⟨v, (rd_T34 x i).f1, (rd_T34 x i).f2⟩ : S34)) := by
  obtain ⟨e, hr⟩ := h
  refine ⟨by simp [e], fun j h2 h3 => ?_⟩
  by_cases ej : j = i
  · subst ej
    rw [rd34_set_eq h2 (by omega)]
    exact hr j h2 h3
  · rw [rd34_set_ne h0 h2 (Ne.symm ej)]
    exact hr j h2 h3
/-- How the reference ends. -/
theorem up_end (l : List S34) (gap c t : Int) (hn : l.length ≤ 8) (hc : 0 ≤ c ∧ c < l.length) (ht : ¬ t < (rd_T34 l c).f0) (x : List S34) (hx : x.length = l.length) (i : Int) (k : Nat) (hk : 12 < k) : ∀ b : Bool, (b = true ↔ Valid x gap) → spec_PushMove.l1 k l gap x i c t = some (if b = true then (x, true) else (l, false)) := by
  intro b hb
  obtain ⟨k, rfl⟩ : ∃ j, k = j + 2 := ⟨k - 2, by omega⟩
  have e : spec_PushMove.l1 (k + 2) l gap x i c t = spec_PushMove.j4 (k + 1) l gap x i false c t := by
    simp only [spec_PushMove.l1]
    by_cases h : i ≥ 0
    · rw [if_pos h, if_pos hc.1, if_pos hc.2, decide_eq_false ht]
    · rw [if_neg h]
  rw [e]
  simp only [spec_PushMove.j4]
  rw [if_neg (by simp)]
  cases b with
  | true => rw [cranes_yes (hb.1 rfl) k (by omega)]; rfl
  | false =>
    rw [cranes_no (by omega) (fun h => by have := hb.2 h; cases this) k (by omega), copy_same l (by omega)]; rfl
/-- One crane is off its rail and stays so: the reference refuses. -/
theorem up_bad (l : List S34) (gap c t : Int) (hn : l.length ≤ 8) (hc : 0 ≤ c ∧ c < l.length) (ht : t > (rd_T34 l c).f0) (d : Nat) : ∀ (x : List S34) (i : Int), x.length = l.length → 1 ≤ i → i ≤ l.length → (l.length : Int) - i = d → (∃ j : Int, 0 ≤ j ∧ j < i ∧ ¬ Rail x j) →
    ∀ k, 16 + 2 * d < k → spec_PushMove.l0 k l gap x i c t = some (l, false) := by
  induction d with
  | zero =>
    intro x i hx h0 h1 hd hb k hk
    obtain ⟨k, rfl⟩ : ∃ j, k = j + 2 := ⟨k - 2, by omega⟩
    obtain ⟨j, j0, j1, hj⟩ := hb
    simp only [spec_PushMove.l0, spec_PushMove.j2]
    rw [if_neg (by omega), if_neg (by simp), up_end l gap c t hn hc (by omega) x hx _ k (by omega) false ⟨(fun h => by cases h), fun h => absurd (h.2 j j0 (by omega)).1 hj⟩]
    rfl
  | succ d ih =>
    intro x i hx h0 h1 hd hb k hk
    obtain ⟨k, rfl⟩ : ∃ j, k = j + 2 := ⟨k - 2, by omega⟩
    obtain ⟨j, j0, j1, hj⟩ := hb
    simp only [spec_PushMove.l0, spec_PushMove.j2]
    rw [if_pos (by omega), if_pos hc.1, if_pos hc.2, decide_eq_true ht, if_pos rfl, if_pos (by omega), if_pos (by omega), w64 (x := i - 1) (by omega) (by omega), if_pos (by omega), if_pos (by omega), w64 (x := i + 1) (by omega) (by omega)]
    split
    · refine ih _ (i + 1) (by simp [hx]) (by omega) (by omega) (by omega) ⟨j, j0, by omega, ?_⟩ k (by omega)
      unfold Rail
      rw [rd34_set_ne (by omega) j0 (by omega)]
      exact hj
    · exact ih x (i + 1) hx (by omega) (by omega) (by omega) ⟨j, j0, by omega, hj⟩ k (by omega)
/-- Far enough from here on: the reference changes nothing more. -/
theorem up_rest (l : List S34) (gap c t : Int) (hv : Valid l gap) (hc : 0 ≤ c ∧ c < l.length) (ht : t > (rd_T34 l c).f0) (x : List S34) (hx : Valid x gap) (hxl : x.length = l.length) (d : Nat) : ∀ (i : Int), 1 ≤ i → i ≤ l.length → (l.length : Int) - i = d →
    ∀ k, 16 + 2 * d < k → spec_PushMove.l0 k l gap x i c t = some (x, true) := by
  have hn := hv.1.1
  have hgap := hv.1.2
  induction d with
  | zero =>
    intro i h0 h1 hd k hk
    obtain ⟨k, rfl⟩ : ∃ j, k = j + 2 := ⟨k - 2, by omega⟩
    simp only [spec_PushMove.l0, spec_PushMove.j2]
    rw [if_neg (by omega), if_neg (by simp), up_end l gap c t (by omega) hc (by omega) x hxl _ k (by omega) true ⟨fun _ => hx, fun _ => rfl⟩]
    rfl
  | succ d ih =>
    intro i h0 h1 hd k hk
    obtain ⟨k, rfl⟩ : ∃ j, k = j + 2 := ⟨k - 2, by omega⟩
    obtain ⟨_, f2⟩ := hx.2 i (by omega) (by omega)
    obtain ⟨⟨⟨f3, f4⟩, f5, f6⟩, _⟩ := hx.2 (i - 1) (by omega) (by omega)
    have := f2 (by omega)
    simp only [spec_PushMove.l0, spec_PushMove.j2]
    rw [if_pos (by omega), if_pos hc.1, if_pos hc.2, decide_eq_true ht, if_pos rfl, if_pos (by omega), if_pos (by omega), w64 (x := i - 1) (by omega) (by omega), if_pos (by omega), if_pos (by omega), w64 (x := i + 1) (by omega) (by omega), w64 (x := (rd_T34 x (i - 1)).f0 + gap) (by omega) (by omega), if_neg (by omega)]
    exact ih (i + 1) (by omega) (by omega) (by omega) k (by omega)
theorem up_loops (l : List S34) (gap c t : Int) (hv : Valid l gap) (hc : 0 ≤ c ∧ c < l.length) (ht : t > (rd_T34 l c).f0) (d : Nat) : ∀ (x : List S34) (i : Int), Rails l x → c < i → i ≤ l.length → (l.length : Int) - i = d → (∀ j : Int, 0 ≤ j → j < i → Fine x gap j) → (∀ j : Int, i ≤ j → j < l.length → rd_T34 x j = rd_T34 l j) →
    ∃ res : List S34 × Bool, res.1.length = l.length ∧ ∀ k, 20 + 2 * d < k → spec_PushMove.l0 k l gap x i c t = some res ∧ impl_PushMove.l0 k gap l x 1 ((rd_T34 x (i - 1)).f0 + gap) i c t = some res := by
  have hn := hv.1.1
  have hgap := hv.1.2
  have hw : wrap64 ((l.length : Int) - 1) = (l.length : Int) - 1 := w64 (by omega) (by omega)
  induction d with
  | zero =>
    intro x i hr h0 h1' hd hf hs
    have hxl := hr.1
    have hxv : Valid x gap := ⟨⟨by rw [hxl]; exact hn, hgap⟩, fun j h2 h3 => hf j h2 (by omega)⟩
    refine ⟨(x, true), hxl, fun k hk => ⟨up_rest l gap c t hv hc ht x hxv hxl 0 i (by omega) h1' hd k (by omega), ?_⟩⟩
    obtain ⟨k, rfl⟩ := pos_round (show 0 < k by omega)
    simp only [impl_PushMove.l0]
    rw [hxl, hw, in_eqC, decide_eq_false (by omega), Option.bind_some, if_neg (by simp)]
  | succ d ih =>
    intro x i hr h0 h1' hd hf hs
    have hxl := hr.1
    have hlt : i < (l.length : Int) := by omega
    obtain ⟨⟨⟨p1, p2⟩, p3, p4⟩, p5⟩ := hf (i - 1) (by omega) (by omega)
    have hxi := hs i (by omega) hlt
    obtain ⟨⟨⟨q1, q2⟩, q3, q4⟩, q5⟩ := hv.2 i (by omega) hlt
    rw [← hxi] at q1 q2 q3 q4
    have im : ∀ k, impl_PushMove.l0 (k + 2) gap l x 1 ((rd_T34 x (i - 1)).f0 + gap) i c t = if (rd_T34 x i).f0 ≥ (rd_T34 x (i - 1)).f0 + gap then some (x, true) else if (rd_T34 x (i - 1)).f0 + gap ≤ (rd_T34 x i).f2 then impl_PushMove.l0 k gap l (x.set i.toNat (⟨(rd_T34 x (i - 1)).f0 + gap, (rd_T34 x i).f1, (rd_T34 x i).f2⟩ : S34)) 1 ((rd_T34 x (i - 1)).f0 + gap + gap) (i + 1) c t else some (l, false) := by
      intro k
      rw [impl_PushMove.l0, hxl, hw, in_eqC, decide_eq_true (by omega), Option.bind_some, if_pos rfl, if_neg (by omega), if_pos (by omega), if_pos hlt, w64 (x := i - 1) (by omega) (by omega), if_pos (by omega), if_pos (by omega), w64 (x := (rd_T34 x i).f0 - _) (by omega) (by omega), size_eq _ (by omega) (by omega), Option.bind_some, cmp_eq]
      have j2 : impl_PushMove.j2 (k + 1) gap l x 1 ((rd_T34 x (i - 1)).f0 + gap) i false c t = if (rd_T34 x (i - 1)).f0 + gap ≥ (rd_T34 x i).f1 ∧ (rd_T34 x (i - 1)).f0 + gap ≤ (rd_T34 x i).f2 then impl_PushMove.l0 k gap l (x.set i.toNat (⟨(rd_T34 x (i - 1)).f0 + gap, (rd_T34 x i).f1, (rd_T34 x i).f2⟩ : S34)) 1 ((rd_T34 x (i - 1)).f0 + gap + gap) (i + 1) c t else some (l, false) := by
        simp only [impl_PushMove.j2]
        rw [if_neg (by simp), if_pos (by omega), if_pos (by omega), in_eqC, Option.bind_some]
        by_cases h : (rd_T34 x i).f1 ≤ (rd_T34 x (i - 1)).f0 + gap ∧ (rd_T34 x (i - 1)).f0 + gap ≤ (rd_T34 x i).f2
        · rw [if_pos (decide_eq_true h), if_pos h, Option.bind_some, if_neg (by omega), w64 (x := 1 * gap) (by omega) (by omega), w64 (x := i + 1) (by omega) (by omega), w64 (by omega) (by omega), Int.one_mul]
        · rw [if_neg (by simpa using h), if_neg h]
      by_cases h1 : (rd_T34 x i).f0 ≥ (rd_T34 x (i - 1)).f0 + gap
      · rw [if_neg (show ¬ (rd_T34 x i).f0 - (rd_T34 x (i - 1)).f0 < 0 by omega), if_pos (show (rd_T34 x i).f0 - (rd_T34 x (i - 1)).f0 ≥ gap by omega), Option.bind_some, if_neg (show ¬ (rd_T34 x i).f0 < (rd_T34 x (i - 1)).f0 by omega), if_pos (show (rd_T34 x i).f0 > (rd_T34 x (i - 1)).f0 by omega), impl_PushMove.j2, if_pos (by rfl), if_pos h1]
      · rw [if_neg h1]
        have hj : ∀ b : Bool, b = false → impl_PushMove.j2 (k + 1) gap l x 1 ((rd_T34 x (i - 1)).f0 + gap) i b c t = if (rd_T34 x (i - 1)).f0 + gap ≤ (rd_T34 x i).f2 then impl_PushMove.l0 k gap l (x.set i.toNat (⟨(rd_T34 x (i - 1)).f0 + gap, (rd_T34 x i).f1, (rd_T34 x i).f2⟩ : S34)) 1 ((rd_T34 x (i - 1)).f0 + gap + gap) (i + 1) c t else some (l, false) := by
          intro b hb
          rw [hb, j2]
          by_cases h : (rd_T34 x (i - 1)).f0 + gap ≤ (rd_T34 x i).f2
          · rw [if_pos ⟨by omega, h⟩, if_pos h]
          · rw [if_neg (fun hh => h hh.2), if_neg h]
        by_cases h2 : (rd_T34 x i).f0 - (rd_T34 x (i - 1)).f0 < 0
        · rw [if_pos h2]
          split
          · rw [Option.bind_some]
            exact hj _ (by rw [if_pos (show (rd_T34 x i).f0 < (rd_T34 x (i - 1)).f0 by omega)]; rfl)
          · exact hj _ rfl
        · rw [if_neg h2, if_neg (show ¬ (rd_T34 x i).f0 - (rd_T34 x (i - 1)).f0 ≥ gap by omega)]
          exact hj _ rfl
    by_cases h1 : (rd_T34 x i).f0 ≥ (rd_T34 x (i - 1)).f0 + gap
    · -- far enough
      have hxv : Valid x gap := ⟨⟨by rw [hxl]; exact hn, hgap⟩, fun j h2 h3 => by
        by_cases hj : j < i
        · exact hf j h2 hj
        · by_cases e : j = i
          · subst e
            exact ⟨⟨⟨q1, q2⟩, q3, q4⟩, fun _ => by omega⟩
          · obtain ⟨v1, v2⟩ := hv.2 j h2 (by omega)
            unfold Fine Rail at *
            rw [hs j (by omega) (by omega), hs (j - 1) (by omega) (by omega)]
            exact ⟨v1, v2⟩⟩
      refine ⟨(x, true), hxl, fun k hk => ⟨up_rest l gap c t hv hc ht x hxv hxl (d + 1) i (by omega) h1' hd k (by omega), ?_⟩⟩
      obtain ⟨k, rfl⟩ : ∃ j, k = j + 2 := ⟨k - 2, by omega⟩
      rw [im, if_pos h1]
    · have sp : ∀ k, spec_PushMove.l0 (k + 2) l gap x i c t = spec_PushMove.l0 k l gap (x.set i.toNat (⟨(rd_T34 x (i - 1)).f0 + gap, (rd_T34 x i).f1, (rd_T34 x i).f2⟩ : S34)) (i + 1) c t := by
        intro k
        rw [spec_PushMove.l0, if_pos (by omega), if_pos hc.1, if_pos hc.2, decide_eq_true ht, spec_PushMove.j2, if_pos rfl, if_pos (by omega), if_pos (by omega), w64 (x := i - 1) (by omega) (by omega), if_pos (by omega), if_pos (by omega), w64 (x := i + 1) (by omega) (by omega), w64 (x := (rd_T34 x (i - 1)).f0 + gap) (by omega) (by omega), if_pos (by omega)]
      have hset : rd_T34 (x.set i.toNat (⟨(rd_T34 x (i - 1)).f0 + gap, (rd_T34 x i).f1, (rd_T34 x i).f2⟩ : S34)) i = ⟨(rd_T34 x (i - 1)).f0 + gap, (rd_T34 x i).f1, (rd_T34 x i).f2⟩ := rd34_set_eq (by omega) (by omega)
      have hne : ∀ j : Int, 0 ≤ j → j ≠ i → rd_T34 (x.set i.toNat (⟨(rd_T34 x (i - 1)).f0 + gap, (rd_T34 x i).f1, (rd_T34 x i).f2⟩ : S34)) j = rd_T34 x j := fun j h2 h3 => rd34_set_ne (by omega) h2 (Ne.symm h3)
      by_cases h2 : (rd_T34 x (i - 1)).f0 + gap ≤ (rd_T34 x i).f2
      · obtain ⟨res, hres, hk2⟩ := ih (x.set i.toNat (⟨(rd_T34 x (i - 1)).f0 + gap, (rd_T34 x i).f1, (rd_T34 x i).f2⟩ : S34)) (i + 1) (rails_set hr (by omega) hlt) (by omega) (by omega) (by omega) (fun j h3 h4 => by
            by_cases e : j = i
            · subst e
              unfold Fine Rail
              rw [hset, hne (j - 1) (by omega) (by omega)]
              exact ⟨⟨⟨q1, by dsimp only; omega⟩, h2, q4⟩, fun _ => by dsimp only; omega⟩
            · have := hf j h3 (by omega)
              unfold Fine Rail at *
              by_cases e0 : 0 < j
              · rw [hne j h3 e, hne (j - 1) (by omega) (by omega)]
                exact this
              · rw [hne j h3 e]
                exact ⟨this.1, fun h => absurd h e0⟩) (fun j h3 h4 => by rw [hne j (by omega) (by omega)]; exact hs j (by omega) h4)
        refine ⟨res, hres, fun k hk => ?_⟩
        obtain ⟨k, rfl⟩ : ∃ j, k = j + 2 := ⟨k - 2, by omega⟩
        obtain ⟨r1, r2⟩ := hk2 k (by omega)
        rw [show i + 1 - 1 = i by omega, hset] at r2
        rw [sp, im, if_neg h1, if_pos h2]
        exact ⟨r1, r2⟩
      · refine ⟨(l, false), rfl, fun k hk => ?_⟩
        obtain ⟨k, rfl⟩ : ∃ j, k = j + 2 := ⟨k - 2, by omega⟩
        rw [sp, im, if_neg h1, if_neg h2]
        refine ⟨up_bad l gap c t (by omega) hc ht d _ (i + 1) (by simp [hxl]) (by omega) (by omega) (by omega) ⟨i, by omega, by omega, ?_⟩ k (by omega), rfl⟩
        unfold Rail
        rw [hset]
        dsimp only
        omega
/-! ### pushing down -/
theorem down_end (l : List S34) (gap c t : Int) (hn : l.length ≤ 8) (x : List S34) (hx : x.length = l.length) (k : Nat) (hk : 12 < k) (i : Int) : ∀ b : Bool, (b = true ↔ Valid x gap) → spec_PushMove.j4 k l gap x i false c t = some (if b = true then (x, true) else (l, false)) := by
  intro b hb
  obtain ⟨k, rfl⟩ := pos_round (show 0 < k by omega)
  simp only [spec_PushMove.j4]
  rw [if_neg (by simp)]
  cases b with
  | true => rw [cranes_yes (hb.1 rfl) k (by omega)]; rfl
  | false =>
    rw [cranes_no (by omega) (fun h => by have := hb.2 h; cases this) k (by omega), copy_same l (by omega)]; rfl
theorem down_bad (l : List S34) (gap c t : Int) (hn : l.length ≤ 8) (hc : 0 ≤ c ∧ c < l.length) (ht : t < (rd_T34 l c).f0) (d : Nat) : ∀ (x : List S34) (i : Int), x.length = l.length → -1 ≤ i → i + 1 < l.length → i + 1 = d → (∃ j : Int, i < j ∧ j < l.length ∧ ¬ Rail x j) →
    ∀ k, 16 + 2 * d < k → spec_PushMove.l1 k l gap x i c t = some (l, false) := by
  induction d with
  | zero =>
    intro x i hx h0 h1 hd hb k hk
    obtain ⟨k, rfl⟩ := pos_round (show 0 < k by omega)
    obtain ⟨j, j0, j1, hj⟩ := hb
    simp only [spec_PushMove.l1]
    rw [if_neg (by omega), down_end l gap c t hn x hx k (by omega) i false ⟨(fun h => by cases h), fun h => absurd (h.2 j (by omega) (by omega)).1 hj⟩]
    rfl
  | succ d ih =>
    intro x i hx h0 h1 hd hb k hk
    obtain ⟨k, rfl⟩ : ∃ j, k = j + 2 := ⟨k - 2, by omega⟩
    obtain ⟨j, j0, j1, hj⟩ := hb
    simp only [spec_PushMove.l1, spec_PushMove.j4]
    rw [if_pos (by omega), if_pos hc.1, if_pos hc.2, decide_eq_true ht, if_pos rfl, if_pos (by omega), if_pos (by omega), w64 (x := i + 1) (by omega) (by omega), if_pos (by omega), if_pos (by omega), w64 (x := i - 1) (by omega) (by omega)]
    split
    · refine ih _ (i - 1) (by simp [hx]) (by omega) (by omega) (by omega) ⟨j, by omega, j1, ?_⟩ k (by omega)
      unfold Rail
      rw [rd34_set_ne (by omega) (by omega) (by omega)]
      exact hj
    · exact ih x (i - 1) hx (by omega) (by omega) (by omega) ⟨j, by omega, j1, hj⟩ k (by omega)
theorem down_rest (l : List S34) (gap c t : Int) (hv : Valid l gap) (hc : 0 ≤ c ∧ c < l.length) (ht : t < (rd_T34 l c).f0) (x : List S34) (hx : Valid x gap) (hxl : x.length = l.length) (d : Nat) : ∀ (i : Int), -1 ≤ i → i + 1 < l.length → i + 1 = d →
    ∀ k, 16 + 2 * d < k → spec_PushMove.l1 k l gap x i c t = some (x, true) := by
  have hn := hv.1.1
  have hgap := hv.1.2
  induction d with
  | zero =>
    intro i h0 h1 hd k hk
    obtain ⟨k, rfl⟩ := pos_round (show 0 < k by omega)
    simp only [spec_PushMove.l1]
    rw [if_neg (by omega), down_end l gap c t (by omega) x hxl k (by omega) i true ⟨fun _ => hx, fun _ => rfl⟩]
    rfl
  | succ d ih =>
    intro i h0 h1 hd k hk
    obtain ⟨k, rfl⟩ : ∃ j, k = j + 2 := ⟨k - 2, by omega⟩
    obtain ⟨⟨⟨f3, f4⟩, f5, f6⟩, f2⟩ := hx.2 (i + 1) (by omega) (by omega)
    have := f2 (by omega)
    rw [show i + 1 - 1 = i by omega] at this
    simp only [spec_PushMove.l1, spec_PushMove.j4]
    rw [if_pos (by omega), if_pos hc.1, if_pos hc.2, decide_eq_true ht, if_pos rfl, if_pos (by omega), if_pos (by omega), w64 (x := i + 1) (by omega) (by omega), if_pos (by omega), if_pos (by omega), w64 (x := i - 1) (by omega) (by omega), w64 (x := (rd_T34 x (i + 1)).f0 - gap) (by omega) (by omega), if_neg (by omega)]
    exact ih (i - 1) (by omega) (by omega) (by omega) k (by omega)
theorem down_loops (l : List S34) (gap c t : Int) (hv : Valid l gap) (hc : 0 ≤ c ∧ c < l.length) (ht : t < (rd_T34 l c).f0) (d : Nat) : ∀ (x : List S34) (i : Int), Rails l x → -1 ≤ i → i < c → i + 1 = d → (∀ j : Int, i < j → j < l.length → Rail x j ∧ (i + 1 < j → (rd_T34 x (j - 1)).f0 + gap ≤ (rd_T34 x j).f0)) → (∀ j : Int, 0 ≤ j → j ≤ i → rd_T34 x j = rd_T34 l j) →
    ∃ res : List S34 × Bool, res.1.length = l.length ∧ ∀ k, 20 + 2 * d < k → spec_PushMove.l1 k l gap x i c t = some res ∧ impl_PushMove.l0 k gap l x (-1) ((rd_T34 x (i + 1)).f0 - gap) i c t = some res := by
  have hn := hv.1.1
  have hgap := hv.1.2
  have hw : wrap64 ((l.length : Int) - 1) = (l.length : Int) - 1 := w64 (by omega) (by omega)
  induction d with
  | zero =>
    intro x i hr h0 h1 hd hf hs
    have hxl := hr.1
    have hxv : Valid x gap := ⟨⟨by rw [hxl]; exact hn, hgap⟩, fun j h2 h3 => by
      obtain ⟨a1, a2⟩ := hf j (by omega) (by omega)
      exact ⟨a1, fun h => a2 (by omega)⟩⟩
    refine ⟨(x, true), hxl, fun k hk => ⟨down_rest l gap c t hv hc ht x hxv hxl 0 i (by omega) (by omega) hd k (by omega), ?_⟩⟩
    obtain ⟨k, rfl⟩ := pos_round (show 0 < k by omega)
    simp only [impl_PushMove.l0]
    rw [hxl, hw, in_eqC, decide_eq_false (by omega), Option.bind_some, if_neg (by simp)]
  | succ d ih =>
    intro x i hr h0 h1 hd hf hs
    have hxl := hr.1
    have hlt : i < (l.length : Int) := by omega
    obtain ⟨⟨⟨p1, p2⟩, p3, p4⟩, p5⟩ := hf (i + 1) (by omega) (by omega)
    have hxi := hs i (by omega) (by omega)
    obtain ⟨⟨⟨q1, q2⟩, q3, q4⟩, q5⟩ := hv.2 i (by omega) hlt
    rw [← hxi] at q1 q2 q3 q4
    have im : ∀ k, impl_PushMove.l0 (k + 2) gap l x (-1) ((rd_T34 x (i + 1)).f0 - gap) i c t = if (rd_T34 x i).f0 ≤ (rd_T34 x (i + 1)).f0 - gap then some (x, true) else if (rd_T34 x (i + 1)).f0 - gap ≥ (rd_T34 x i).f1 then impl_PushMove.l0 k gap l (x.set i.toNat (⟨(rd_T34 x (i + 1)).f0 - gap, (rd_T34 x i).f1, (rd_T34 x i).f2⟩ : S34)) (-1) ((rd_T34 x (i + 1)).f0 - gap - gap) (i - 1) c t else some (l, false) := by
      intro k
      rw [impl_PushMove.l0, hxl, hw, in_eqC, decide_eq_true (by omega), Option.bind_some, if_pos rfl, if_neg (by omega), if_pos (by omega), if_pos hlt, show i - (-1) = i + 1 by omega, w64 (x := i + 1) (by omega) (by omega), if_pos (by omega), if_pos (by omega), w64 (x := (rd_T34 x i).f0 - _) (by omega) (by omega), size_eq _ (by omega) (by omega), Option.bind_some, cmp_eq]
      have j2 : impl_PushMove.j2 (k + 1) gap l x (-1) ((rd_T34 x (i + 1)).f0 - gap) i false c t = if (rd_T34 x (i + 1)).f0 - gap ≥ (rd_T34 x i).f1 ∧ (rd_T34 x (i + 1)).f0 - gap ≤ (rd_T34 x i).f2 then impl_PushMove.l0 k gap l (x.set i.toNat (⟨(rd_T34 x (i + 1)).f0 - gap, (rd_T34 x i).f1, (rd_T34 x i).f2⟩ : S34)) (-1) ((rd_T34 x (i + 1)).f0 - gap - gap) (i - 1) c t else some (l, false) := by
        simp only [impl_PushMove.j2]
        rw [if_neg (by simp), if_pos (by omega), if_pos (by omega), in_eqC, Option.bind_some]
        by_cases h : (rd_T34 x i).f1 ≤ (rd_T34 x (i + 1)).f0 - gap ∧ (rd_T34 x (i + 1)).f0 - gap ≤ (rd_T34 x i).f2
        · rw [if_pos (decide_eq_true h), if_pos h, Option.bind_some, if_neg (by omega), w64 (x := -1 * gap) (by omega) (by omega), show i + -1 = i - 1 by omega, w64 (x := i - 1) (by omega) (by omega), show (rd_T34 x (i + 1)).f0 - gap + -1 * gap = (rd_T34 x (i + 1)).f0 - gap - gap by omega, w64 (by omega) (by omega)]
        · rw [if_neg (by simpa using h), if_neg h]
      by_cases h1 : (rd_T34 x i).f0 ≤ (rd_T34 x (i + 1)).f0 - gap
      · rw [if_pos (show (rd_T34 x i).f0 - (rd_T34 x (i + 1)).f0 < 0 by omega), if_pos (show -((rd_T34 x i).f0 - (rd_T34 x (i + 1)).f0) ≥ gap by omega), Option.bind_some, if_pos (show (rd_T34 x i).f0 < (rd_T34 x (i + 1)).f0 by omega), impl_PushMove.j2, if_pos (by rfl), if_pos h1]
      · rw [if_neg h1]
        have hj : ∀ b : Bool, b = false → impl_PushMove.j2 (k + 1) gap l x (-1) ((rd_T34 x (i + 1)).f0 - gap) i b c t = if (rd_T34 x (i + 1)).f0 - gap ≥ (rd_T34 x i).f1 then impl_PushMove.l0 k gap l (x.set i.toNat (⟨(rd_T34 x (i + 1)).f0 - gap, (rd_T34 x i).f1, (rd_T34 x i).f2⟩ : S34)) (-1) ((rd_T34 x (i + 1)).f0 - gap - gap) (i - 1) c t else some (l, false) := by
          intro b hb
          rw [hb, j2]
          by_cases h : (rd_T34 x (i + 1)).f0 - gap ≥ (rd_T34 x i).f1
          · rw [if_pos ⟨h, by omega⟩, if_pos h]
          · rw [if_neg (fun hh => h hh.1), if_neg h]
        by_cases h2 : (rd_T34 x i).f0 - (rd_T34 x (i + 1)).f0 < 0
        · rw [if_pos h2, if_neg (show ¬ -((rd_T34 x i).f0 - (rd_T34 x (i + 1)).f0) ≥ gap by omega)]
          exact hj _ rfl
        · rw [if_neg h2]
          split
          · rw [Option.bind_some]
            exact hj _ (by rw [if_neg (show ¬ (rd_T34 x i).f0 < (rd_T34 x (i + 1)).f0 by omega)]; split <;> rfl)
          · exact hj _ rfl
    by_cases h1 : (rd_T34 x i).f0 ≤ (rd_T34 x (i + 1)).f0 - gap
    · have hxv : Valid x gap := ⟨⟨by rw [hxl]; exact hn, hgap⟩, fun j h2 h3 => by
        by_cases hj : i + 1 < j
        · obtain ⟨a1, a2⟩ := hf j (by omega) (by omega)
          exact ⟨a1, fun _ => a2 hj⟩
        · by_cases e : j = i + 1
          · subst e
            exact ⟨⟨⟨p1, p2⟩, p3, p4⟩, fun _ => by rw [show i + 1 - 1 = i by omega]; omega⟩
          · obtain ⟨v1, v2⟩ := hv.2 j h2 (by omega)
            unfold Fine Rail at *
            rw [hs j h2 (by omega)]
            refine ⟨v1, fun h => ?_⟩
            rw [hs (j - 1) (by omega) (by omega)]
            exact v2 h⟩
      refine ⟨(x, true), hxl, fun k hk => ⟨down_rest l gap c t hv hc ht x hxv hxl (d + 1) i (by omega) (by omega) hd k (by omega), ?_⟩⟩
      obtain ⟨k, rfl⟩ : ∃ j, k = j + 2 := ⟨k - 2, by omega⟩
      rw [im, if_pos h1]
    · have sp : ∀ k, spec_PushMove.l1 (k + 2) l gap x i c t = spec_PushMove.l1 k l gap (x.set i.toNat (⟨(rd_T34 x (i + 1)).f0 - gap, (rd_T34 x i).f1, (rd_T34 x i).f2⟩ : S34)) (i - 1) c t := by
        intro k
        rw [spec_PushMove.l1, if_pos (by omega), if_pos hc.1, if_pos hc.2, decide_eq_true ht, spec_PushMove.j4, if_pos rfl, if_pos (by omega), if_pos (by omega), w64 (x := i + 1) (by omega) (by omega), if_pos (by omega), if_pos (by omega), w64 (x := i - 1) (by omega) (by omega), w64 (x := (rd_T34 x (i + 1)).f0 - gap) (by omega) (by omega), if_pos (by omega)]
      have hset : rd_T34 (x.set i.toNat (⟨(rd_T34 x (i + 1)).f0 - gap, (rd_T34 x i).f1, (rd_T34 x i).f2⟩ : S34)) i = ⟨(rd_T34 x (i + 1)).f0 - gap, (rd_T34 x i).f1, (rd_T34 x i).f2⟩ := rd34_set_eq (by omega) (by omega)
      have hne : ∀ j : Int, 0 ≤ j → j ≠ i → rd_T34 (x.set i.toNat (⟨(rd_T34 x (i + 1)).f0 - gap, (rd_T34 x i).f1, (rd_T34 x i).f2⟩ : S34)) j = rd_T34 x j := fun j h2 h3 => rd34_set_ne (by omega) h2 (Ne.symm h3)
      by_cases h2 : (rd_T34 x (i + 1)).f0 - gap ≥ (rd_T34 x i).f1
      · obtain ⟨res, hres, hk2⟩ := ih (x.set i.toNat (⟨(rd_T34 x (i + 1)).f0 - gap, (rd_T34 x i).f1, (rd_T34 x i).f2⟩ : S34)) (i - 1) (rails_set hr (by omega) hlt) (by omega) (by omega) (by omega) (fun j h3 h4 => by
            by_cases e : j = i
            · subst e
              unfold Rail
              rw [hset]
              exact ⟨⟨⟨q1, h2⟩, by dsimp only; omega, q4⟩, fun h => by omega⟩
            · obtain ⟨a1, a2⟩ := hf j (by omega) h4
              unfold Rail at *
              rw [hne j (by omega) e]
              refine ⟨a1, fun h => ?_⟩
              by_cases e2 : j = i + 1
              · subst e2
                rw [show i + 1 - 1 = i by omega, hset]
                dsimp only
                omega
              · rw [hne (j - 1) (by omega) (by omega)]
                exact a2 (by omega)) (fun j h3 h4 => by rw [hne j h3 (by omega)]; exact hs j h3 (by omega))
        refine ⟨res, hres, fun k hk => ?_⟩
        obtain ⟨k, rfl⟩ : ∃ j, k = j + 2 := ⟨k - 2, by omega⟩
        obtain ⟨r1, r2⟩ := hk2 k (by omega)
        rw [show i - 1 + 1 = i by omega, hset] at r2
        rw [sp, im, if_neg h1, if_pos h2]
        exact ⟨r1, r2⟩
      · refine ⟨(l, false), rfl, fun k hk => ?_⟩
        obtain ⟨k, rfl⟩ : ∃ j, k = j + 2 := ⟨k - 2, by omega⟩
        rw [sp, im, if_neg h1, if_neg h2]
        refine ⟨down_bad l gap c t (by omega) hc ht d _ (i - 1) (by simp [hxl]) (by omega) (by omega) (by omega) ⟨i, by omega, by omega, ?_⟩ k (by omega), rfl⟩
        unfold Rail
        rw [hset]
        dsimp only
        omega
/-! ### PushMove -/
theorem push_same (l : List S34) (gap c t : Int) (hn : l.length ≤ 1048576) : ∃ res : List S34 × Bool, res.1.length = l.length ∧ ∀ k, l.length + 100 < k → spec_PushMove.f k l gap c t = some res ∧ impl_PushMove.f k l gap c t = some res := by
  obtain ⟨b, hbi, hb⟩ := cranes_iff l gap hn
  have bad : ∀ k, spec_PushMove.j0 (k + 1) l gap l true c t = some (l, false) ∧ impl_PushMove.j0 (k + 1) l gap l true c t = some (l, false) := fun k => by
    simp only [spec_PushMove.j0, impl_PushMove.j0, if_true]; exact ⟨trivial, trivial⟩
  cases b with
  | false =>
    refine ⟨(l, false), rfl, fun k hk => ?_⟩
    obtain ⟨k, rfl⟩ := pos_round (show 0 < k by omega)
    obtain ⟨s1, s2⟩ := hb (k + 1) (by omega)
    unfold spec_PushMove.f impl_PushMove.f
    rw [copy_same l hn, own_sameC l hn, s1, s2]
    simp only [Option.bind_some, Bool.false_eq_true, if_false]
    exact bad k
  | true =>
    have hv := hbi.1 rfl
    have hlen := hv.1.1
    have hgap := hv.1.2
    have hw : wrap64 ((l.length : Int) - 1) = (l.length : Int) - 1 := w64 (by omega) (by omega)
    by_cases hc : 0 ≤ c ∧ c ≤ (l.length : Int) - 1
    · obtain ⟨⟨⟨p1, p2⟩, p3, p4⟩, p5⟩ := hv.2 c hc.1 (by omega)
      by_cases hr : (rd_T34 l c).f1 ≤ t ∧ t ≤ (rd_T34 l c).f2
      · -- the crane's own place is on its rail
        have hset : rd_T34 (l.set c.toNat (⟨t, (rd_T34 l c).f1, (rd_T34 l c).f2⟩ : S34)) c = ⟨t, (rd_T34 l c).f1, (rd_T34 l c).f2⟩ := rd34_set_eq hc.1 (by omega)
        have hne : ∀ j : Int, 0 ≤ j → j ≠ c → rd_T34 (l.set c.toNat (⟨t, (rd_T34 l c).f1, (rd_T34 l c).f2⟩ : S34)) j = rd_T34 l j := fun j h2 h3 => rd34_set_ne hc.1 h2 (Ne.symm h3)
        have hrails : Rails l (l.set c.toNat (⟨t, (rd_T34 l c).f1, (rd_T34 l c).f2⟩ : S34)) := rails_set ⟨rfl, fun j _ _ => ⟨rfl, rfl⟩⟩ hc.1 (by omega)
        have start : ∀ res : List S34 × Bool, (∀ k, 60 < k → spec_PushMove.l0 k l gap (l.set c.toNat (⟨t, (rd_T34 l c).f1, (rd_T34 l c).f2⟩ : S34)) (c + 1) c t = some res) → (∀ k, 60 < k → impl_PushMove.j2 k gap l l (if t < (rd_T34 l c).f0 then -1 else if t > (rd_T34 l c).f0 then 1 else 0) t c false c t = some res) →
            ∀ k, l.length + 100 < k → spec_PushMove.f k l gap c t = some res ∧ impl_PushMove.f k l gap c t = some res := by
          intro res hs hi k hk
          obtain ⟨k, rfl⟩ : ∃ j, k = j + 2 := ⟨k - 2, by omega⟩
          obtain ⟨s1, s2⟩ := hb (k + 2) (by omega)
          unfold spec_PushMove.f impl_PushMove.f
          rw [copy_same l hn, own_sameC l hn, s1, s2, in_eqC, in_eqC', hw, decide_eq_true hc]
          simp only [Option.bind_some, if_true, Bool.not_true]
          constructor
          · rw [if_pos hc.1, if_pos (by omega), in_eqC', decide_eq_true hr, Option.bind_some, Bool.not_true, spec_PushMove.j0, if_neg (by simp), if_pos hc.1, if_pos (by omega), w64 (x := c + 1) (by omega) (by omega)]
            exact hs (k + 1) (by omega)
          · rw [impl_PushMove.j0, if_neg (by simp), own_sameC l hn, Option.bind_some, if_pos hc.1, if_pos (by omega), cmp_eq, Option.bind_some, impl_PushMove.l0, hw, in_eqC, decide_eq_true hc, Option.bind_some, if_pos rfl, if_pos rfl]
            exact hi k (by omega)
        have first : ∀ (side : Int) (k : Nat), (side = 1 ∨ side = -1) → impl_PushMove.j2 (k + 1) gap l l side t c false c t = impl_PushMove.l0 k gap l (l.set c.toNat (⟨t, (rd_T34 l c).f1, (rd_T34 l c).f2⟩ : S34)) side (t + side * gap) (c + side) c t := by
          intro side k hside
          have hm : side * gap = gap ∨ side * gap = -gap := by rcases hside with h | h <;> rw [h] <;> omega
          rw [impl_PushMove.j2, if_neg (by simp), if_pos hc.1, if_pos (by omega), in_eqC, decide_eq_true hr, Option.bind_some, if_pos rfl, Option.bind_some, if_neg (by omega), w64 (x := side * gap) (by omega) (by omega), w64 (x := t + _) (by omega) (by omega), w64 (x := c + side) (by omega) (by omega)]
        by_cases h1 : t < (rd_T34 l c).f0
        · obtain ⟨res, hres, hk2⟩ := down_loops l gap c t hv ⟨hc.1, by omega⟩ h1 c.toNat (l.set c.toNat (⟨t, (rd_T34 l c).f1, (rd_T34 l c).f2⟩ : S34)) (c - 1) hrails (by omega) (by omega) (by omega) (fun j h3 h4 => by
              by_cases e : j = c
              · subst e
                unfold Rail
                rw [hset]
                exact ⟨⟨⟨p1, hr.1⟩, hr.2, p4⟩, fun h => by omega⟩
              · obtain ⟨a1, a2⟩ := hv.2 j (by omega) h4
                unfold Rail at *
                rw [hne j (by omega) e]
                refine ⟨a1, fun h => ?_⟩
                by_cases e2 : j = c + 1
                · subst e2
                  have := a2 (by omega)
                  rw [show c + 1 - 1 = c by omega] at this ⊢
                  rw [hset]
                  dsimp only
                  omega
                · rw [hne (j - 1) (by omega) (by omega)]
                  exact a2 (by omega)) (fun j h3 h4 => hne j h3 (by omega))
          refine ⟨res, hres, start res (fun k hk => ?_) (fun k hk => ?_)⟩
          · obtain ⟨k, rfl⟩ : ∃ j, k = j + 2 := ⟨k - 2, by omega⟩
            have e : spec_PushMove.l0 (k + 2) l gap (l.set c.toNat (⟨t, (rd_T34 l c).f1, (rd_T34 l c).f2⟩ : S34)) (c + 1) c t = spec_PushMove.j2 (k + 1) l gap (l.set c.toNat (⟨t, (rd_T34 l c).f1, (rd_T34 l c).f2⟩ : S34)) (c + 1) false c t := by
              rw [spec_PushMove.l0]
              by_cases h : c + 1 < ((l.set c.toNat (⟨t, (rd_T34 l c).f1, (rd_T34 l c).f2⟩ : S34)).length : Int)
              · rw [if_pos h, if_pos hc.1, if_pos (by omega), decide_eq_false (by omega)]
              · rw [if_neg h]
            rw [e, spec_PushMove.j2, if_neg (by simp), w64 (x := c - 1) (by omega) (by omega)]
            exact (hk2 k (by omega)).1
          · obtain ⟨k, rfl⟩ := pos_round (show 0 < k by omega)
            rw [if_pos h1, first (-1) k (.inr rfl)]
            have := (hk2 k (by omega)).2
            rw [show c - 1 + 1 = c by omega, hset] at this
            rw [show t + -1 * gap = t - gap by omega, show c + -1 = c - 1 by omega]
            exact this
        · by_cases h2 : t > (rd_T34 l c).f0
          · obtain ⟨res, hres, hk2⟩ := up_loops l gap c t hv ⟨hc.1, by omega⟩ h2 (l.length - c.toNat - 1) (l.set c.toNat (⟨t, (rd_T34 l c).f1, (rd_T34 l c).f2⟩ : S34)) (c + 1) hrails (by omega) (by omega) (by omega) (fun j h3 h4 => by
                by_cases e : j = c
                · subst e
                  unfold Fine Rail
                  rw [hset]
                  refine ⟨⟨⟨p1, hr.1⟩, hr.2, p4⟩, fun h => ?_⟩
                  have := p5 h
                  rw [hne (j - 1) (by omega) (by omega)]
                  dsimp only
                  omega
                · obtain ⟨a1, a2⟩ := hv.2 j (by omega) (by omega)
                  unfold Fine Rail at *
                  rw [hne j (by omega) e]
                  refine ⟨a1, fun h => ?_⟩
                  rw [hne (j - 1) (by omega) (by omega)]
                  exact a2 h) (fun j h3 h4 => hne j (by omega) (by omega))
            refine ⟨res, hres, start res (fun k hk => (hk2 k (by omega)).1) (fun k hk => ?_)⟩
            obtain ⟨k, rfl⟩ := pos_round (show 0 < k by omega)
            rw [if_neg h1, if_pos h2, first 1 k (.inl rfl)]
            have := (hk2 k (by omega)).2
            rw [show c + 1 - 1 = c by omega, hset] at this
            rw [show t + 1 * gap = t + gap by omega]
            exact this
          · -- it stays
            have het : t = (rd_T34 l c).f0 := by omega
            have hxv : Valid (l.set c.toNat (⟨t, (rd_T34 l c).f1, (rd_T34 l c).f2⟩ : S34)) gap := by
              have : l.set c.toNat (⟨t, (rd_T34 l c).f1, (rd_T34 l c).f2⟩ : S34) = l := ext34 (by simp) (fun j h3 h4 => by
                by_cases e : j = c
                · subst e; rw [hset, het]
                · exact hne j h3 e)
              rw [this]; exact hv
            refine ⟨(l.set c.toNat (⟨t, (rd_T34 l c).f1, (rd_T34 l c).f2⟩ : S34), true), by simp, start _ (fun k hk => ?_) (fun k hk => ?_)⟩
            · obtain ⟨k, rfl⟩ : ∃ j, k = j + 2 := ⟨k - 2, by omega⟩
              have e : spec_PushMove.l0 (k + 2) l gap (l.set c.toNat (⟨t, (rd_T34 l c).f1, (rd_T34 l c).f2⟩ : S34)) (c + 1) c t = spec_PushMove.j2 (k + 1) l gap (l.set c.toNat (⟨t, (rd_T34 l c).f1, (rd_T34 l c).f2⟩ : S34)) (c + 1) false c t := by
                rw [spec_PushMove.l0]
                by_cases h : c + 1 < ((l.set c.toNat (⟨t, (rd_T34 l c).f1, (rd_T34 l c).f2⟩ : S34)).length : Int)
                · rw [if_pos h, if_pos hc.1, if_pos (by omega), decide_eq_false (by omega)]
                · rw [if_neg h]
              rw [e, spec_PushMove.j2, if_neg (by simp), w64 (x := c - 1) (by omega) (by omega), up_end l gap c t (by omega) ⟨hc.1, by omega⟩ (by omega) _ (by simp) _ k (by omega) true ⟨fun _ => hxv, fun _ => rfl⟩]
              rfl
            · obtain ⟨k, rfl⟩ := pos_round (show 0 < k by omega)
              rw [if_neg h1, if_neg h2, impl_PushMove.j2, if_neg (by simp), if_pos hc.1, if_pos (by omega), in_eqC, decide_eq_true hr, Option.bind_some, if_pos rfl, Option.bind_some, if_pos rfl]
      · refine ⟨(l, false), rfl, fun k hk => ?_⟩
        obtain ⟨k, rfl⟩ : ∃ j, k = j + 3 := ⟨k - 3, by omega⟩
        obtain ⟨s1, s2⟩ := hb (k + 3) (by omega)
        unfold spec_PushMove.f impl_PushMove.f
        rw [copy_same l hn, own_sameC l hn, s1, s2, in_eqC, in_eqC', hw, decide_eq_true hc]
        simp only [Option.bind_some, if_true, Bool.not_true]
        constructor
        · rw [if_pos hc.1, if_pos (by omega), in_eqC', decide_eq_false hr, Option.bind_some, Bool.not_false, spec_PushMove.j0, if_pos rfl]
        · rw [impl_PushMove.j0, if_neg (by simp), own_sameC l hn, Option.bind_some, if_pos hc.1, if_pos (by omega), cmp_eq, Option.bind_some, impl_PushMove.l0, hw, in_eqC, decide_eq_true hc, Option.bind_some, if_pos rfl, if_pos rfl, impl_PushMove.j2, if_neg (by simp), if_pos hc.1, if_pos (by omega), in_eqC, decide_eq_false hr, Option.bind_some, if_neg (by simp)]
    · refine ⟨(l, false), rfl, fun k hk => ?_⟩
      obtain ⟨k, rfl⟩ := pos_round (show 0 < k by omega)
      obtain ⟨s1, s2⟩ := hb (k + 1) (by omega)
      unfold spec_PushMove.f impl_PushMove.f
      rw [copy_same l hn, own_sameC l hn, s1, s2, in_eqC, in_eqC', hw, decide_eq_false hc]
      simp only [Option.bind_some, if_true, Bool.false_eq_true, if_false, Bool.not_false]
      exact bad k
theorem FnExactPushMove : laws_FnExactPushMove.Pure := by
  intro l gap cr dst _ _ _ _
  by_cases hn : (l.length : Int) ≤ 1048576
  · have hl := toCrane_length l
    obtain ⟨res, hrl, hr⟩ := push_same (toCrane l) gap cr dst (by omega)
    obtain ⟨K, hK⟩ : ∃ K, K = l.length + 200 := ⟨_, rfl⟩
    obtain ⟨r0, hm0, hml0, hmr0⟩ := markCrane_ok (toCrane l) (by omega) (K + 2) (by omega)
    obtain ⟨r1, hm1, hml1, hmr1⟩ := markCrane_ok res.1 (by omega) (K + 1) (by omega)
    have hh1 := heldCrane_ok r1 (by omega) (fun j h0 h1 => hmr1 j h0 (by omega)) (K + 1) (by omega)
    have hh2 := heldCrane_ok r1 (by omega) (fun j h0 h1 => hmr1 j h0 (by omega)) K (by omega)
    have t0 : ∀ k, l.length < k → laws_toCraneS.f k l = some (toCrane l) := fun k hk => toCrane_ok l (by omega) k hk
    have e0 : ∀ k, l.length < k → laws_eqCraneS.f k res.1 res.1 = some true := fun k hk => eqCrane_ok res.1 (by omega) k (by omega)
    refine ⟨K + 3, ?_⟩
    have j2 : laws_FnExactPushMove.j2 (K + 1) r1 (1 + 3 * (res.1.length : Int)) false = some true := by
      simp only [laws_FnExactPushMove.j2]
      rw [if_neg (by simp), hh2, Option.bind_some, if_neg (by omega), if_pos (by omega)]
    have j1 : laws_FnExactPushMove.j1 (K + 2) l gap res.1 res.2 res.1 false cr dst = some true := by
      simp only [laws_FnExactPushMove.j1]
      rw [if_neg (by simp), hm1, Option.bind_some]
      dsimp only
      rw [hh1, Option.bind_some, if_neg (by omega), if_pos (by omega), t0 (K + 1) (by omega), Option.bind_some]
      simp only [laws_toMove.f]
      rw [Option.bind_some, (hr (K + 1) (by omega)).2, Option.bind_some, e0 (K + 1) (by omega), Option.bind_some, if_pos rfl, show (res.2 != res.2) = false by simp]
      exact j2
    have j0 : laws_FnExactPushMove.j0 (K + 3) l gap res.1 res.2 (toCrane l) res.1 res.2 false cr dst = some true := by
      simp only [laws_FnExactPushMove.j0]
      rw [if_neg (by simp), t0 (K + 2) (by omega), Option.bind_some, eqCrane_ok (toCrane l) (by omega) (K + 2) (by omega), Option.bind_some, if_pos rfl, hm0, Option.bind_some]
      dsimp only
      rw [if_neg (by omega), e0 (K + 2) (by omega), Option.bind_some, if_pos rfl, show (res.2 != res.2) = false by simp]
      exact j1
    unfold laws_FnExactPushMove.f laws_szCraneS.f
    rw [w64 (x := 1048576 - (l.length : Int)) (by omega) (by omega), if_neg (by omega), Option.bind_some, if_neg (by omega), t0 (K + 3) (by omega), Option.bind_some]
    simp only [laws_toMove.f]
    rw [Option.bind_some, (hr (K + 3) (by omega)).1, Option.bind_some, Option.bind_some, Option.bind_some, (hr (K + 3) (by omega)).2, Option.bind_some, e0 (K + 3) (by omega), Option.bind_some, if_pos rfl, show (res.2 != res.2) = false by simp]
    exact j0
  · refine ⟨0, ?_⟩
    unfold laws_FnExactPushMove.f laws_szCraneS.f
    rw [w64 (x := 1048576 - (l.length : Int)) (by omega) (by omega), if_pos (by omega), Option.bind_some, if_pos (by omega)]

end Go.Proofs.Ytbaiiaabanhilaa.Pure
