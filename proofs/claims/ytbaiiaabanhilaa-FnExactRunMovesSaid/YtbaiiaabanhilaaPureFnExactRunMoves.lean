/- The program's RunMoves returns what the reference's returns, for all arguments; it changes none of them, and what it hands back is new memory. -/
import Derived.Test.YtbaiiaabanhilaaPFnExactRunMovesx8
import Derived.Test.YtbaiiaabanhilaaVRunMovesKit
set_option linter.unusedVariables false
set_option linter.unusedSimpArgs false
namespace Go.Proofs.Ytbaiiaabanhilaa.Pure
open Go.RowKit Go.Proofs.Ytbaiiaabanhilaa.PFnExactRunMoves Go.Proofs.YtbaiiaabanhilaaW.PrintWords Go.Proofs.YtbaiiaabanhilaaW.PrintLast Go.Proofs.YtbaiiaabanhilaaW.Kit

theorem rd67_lt {l : List S67} {i : Int} (h0 : 0 ≤ i) (h1 : i < l.length) : ∃ h : i.toNat < l.length, rd_T67 l i = l[i.toNat]'h := by
  have h : i.toNat < l.length := by omega
  exact ⟨h, by simp [rd_T67, List.getD_eq_getElem?_getD, List.getElem?_eq_getElem h]⟩
theorem rd67_mem {l : List S67} {i : Int} (h0 : 0 ≤ i) (h1 : i < l.length) : rd_T67 l i ∈ l := by
  obtain ⟨h, e⟩ := rd67_lt h0 h1
  rw [e]; exact List.getElem_mem h
theorem rd67_drop {l : List S67} {i : Int} (h0 : 0 ≤ i) (h1 : i < l.length) : l.drop i.toNat = rd_T67 l i :: l.drop (i + 1).toNat := by
  obtain ⟨h, e⟩ := rd67_lt h0 h1
  rw [e, show (i + 1).toNat = i.toNat + 1 by omega, List.drop_eq_getElem_cons h]
theorem rd67_take {l : List S67} {i : Int} (h0 : 0 ≤ i) (h1 : i < l.length) : l.take (i + 1).toNat = l.take i.toNat ++ [rd_T67 l i] := by
  obtain ⟨h, e⟩ := rd67_lt h0 h1
  rw [e, show (i + 1).toNat = i.toNat + 1 by omega, List.take_succ_eq_append_getElem h]
theorem rd67_set_eq {l : List S67} {i : Int} {x : S67} (h0 : 0 ≤ i) (h1 : i < l.length) : rd_T67 (l.set i.toNat x) i = x := by
  simp [rd_T67, List.getD_eq_getElem?_getD, List.getElem?_set, show i.toNat < l.length by omega]
theorem rd67_set_ne {l : List S67} {i j : Int} {x : S67} (h0 : 0 ≤ i) (hj : 0 ≤ j) (h : i ≠ j) : rd_T67 (l.set i.toNat x) j = rd_T67 l j := by
  simp [rd_T67, List.getD_eq_getElem?_getD, List.getElem?_set, show ¬ i.toNat = j.toNat by omega]
theorem rd67_append_left {l m : List S67} {i : Int} (h0 : 0 ≤ i) (h1 : i < l.length) : rd_T67 (l ++ m) i = rd_T67 l i := by
  simp [rd_T67, List.getD_eq_getElem?_getD, List.getElem?_append_left (show i.toNat < l.length by omega)]
theorem rd67_last {l : List S67} {x : S67} : rd_T67 (l ++ [x]) (l.length : Int) = x := by
  simp [rd_T67, List.getD_eq_getElem?_getD]
theorem ext67 {l m : List S67} (h : l.length = m.length) (hr : ∀ i : Int, 0 ≤ i → i < l.length → rd_T67 l i = rd_T67 m i) : l = m := by
  apply List.ext_getElem h
  intro i h1 h2
  have := hr i (by omega) (by omega)
  simpa [rd_T67, List.getD_eq_getElem?_getD, List.getElem?_eq_getElem h1, List.getElem?_eq_getElem h2] using this
theorem rd34_lt {l : List S34} {i : Int} (h0 : 0 ≤ i) (h1 : i < l.length) : ∃ h : i.toNat < l.length, rd_T34 l i = l[i.toNat]'h := by
  have h : i.toNat < l.length := by omega
  exact ⟨h, by simp [rd_T34, List.getD_eq_getElem?_getD, List.getElem?_eq_getElem h]⟩
theorem rd34_mem {l : List S34} {i : Int} (h0 : 0 ≤ i) (h1 : i < l.length) : rd_T34 l i ∈ l := by
  obtain ⟨h, e⟩ := rd34_lt h0 h1
  rw [e]; exact List.getElem_mem h
theorem rd34_drop {l : List S34} {i : Int} (h0 : 0 ≤ i) (h1 : i < l.length) : l.drop i.toNat = rd_T34 l i :: l.drop (i + 1).toNat := by
  obtain ⟨h, e⟩ := rd34_lt h0 h1
  rw [e, show (i + 1).toNat = i.toNat + 1 by omega, List.drop_eq_getElem_cons h]
theorem rd34_take {l : List S34} {i : Int} (h0 : 0 ≤ i) (h1 : i < l.length) : l.take (i + 1).toNat = l.take i.toNat ++ [rd_T34 l i] := by
  obtain ⟨h, e⟩ := rd34_lt h0 h1
  rw [e, show (i + 1).toNat = i.toNat + 1 by omega, List.take_succ_eq_append_getElem h]
theorem rd34_set_eq {l : List S34} {i : Int} {x : S34} (h0 : 0 ≤ i) (h1 : i < l.length) : rd_T34 (l.set i.toNat x) i = x := by
  simp [rd_T34, List.getD_eq_getElem?_getD, List.getElem?_set, show i.toNat < l.length by omega]
theorem rd34_set_ne {l : List S34} {i j : Int} {x : S34} (h0 : 0 ≤ i) (hj : 0 ≤ j) (h : i ≠ j) : rd_T34 (l.set i.toNat x) j = rd_T34 l j := by
  simp [rd_T34, List.getD_eq_getElem?_getD, List.getElem?_set, show ¬ i.toNat = j.toNat by omega]
theorem rd34_append_left {l m : List S34} {i : Int} (h0 : 0 ≤ i) (h1 : i < l.length) : rd_T34 (l ++ m) i = rd_T34 l i := by
  simp [rd_T34, List.getD_eq_getElem?_getD, List.getElem?_append_left (show i.toNat < l.length by omega)]
theorem rd34_last {l : List S34} {x : S34} : rd_T34 (l ++ [x]) (l.length : Int) = x := by
  simp [rd_T34, List.getD_eq_getElem?_getD]
theorem ext34 {l m : List S34} (h : l.length = m.length) (hr : ∀ i : Int, 0 ≤ i → i < l.length → rd_T34 l i = rd_T34 m i) : l = m := by
  apply List.ext_getElem h
  intro i h1 h2
  have := hr i (by omega) (by omega)
  simpa [rd_T34, List.getD_eq_getElem?_getD, List.getElem?_eq_getElem h1, List.getElem?_eq_getElem h2] using this
/-- What the law's list is as the program's. -/
def toCrane (l : List S67) : List S34 := l.map fun x => ⟨x.f0, x.f1, x.f2⟩
theorem toCrane_loop (l : List S67) (hn : l.length ≤ 1048576) (d : Nat) : ∀ (k : Nat) (o : List S34) (i : Int), 0 ≤ i → i ≤ l.length → (l.length : Int) - i = d → d < k → o.length = l.length → o.take i.toNat = (toCrane l).take i.toNat → laws_toCraneS.l0 k l o i = some (toCrane l) := by
  induction d with
  | zero =>
    intro k o i h0 h1 hd hk ho ht
    obtain ⟨k, rfl⟩ := pos_round (show 0 < k by omega)
    simp only [laws_toCraneS.l0]
    rw [if_neg (by omega)]
    rw [List.take_of_length_le (by omega), List.take_of_length_le (by simp [toCrane]; omega)] at ht
    rw [ht]
  | succ d ih =>
    intro k o i h0 h1 hd hk ho ht
    obtain ⟨k, rfl⟩ := pos_round (show 0 < k by omega)
    obtain ⟨hl, e⟩ := rd67_lt h0 (show i < (l.length : Int) by omega)
    simp only [laws_toCraneS.l0]
    rw [if_pos (by omega), if_pos h0]
    simp only [laws_toCrane.f, Option.bind_some]
    rw [if_pos (by omega), w64 (x := i + 1) (by omega) (by omega)]
    refine ih k _ (i + 1) (by omega) (by omega) (by omega) (by omega) (by simpa using ho) ?_
    rw [show (i + 1).toNat = i.toNat + 1 by omega, List.take_succ_eq_append_getElem (by simp; omega), List.take_succ_eq_append_getElem (by simp [toCrane]; omega), List.take_set_of_le (Nat.le_refl _), ht]
    simp [toCrane, e]
theorem toCrane_ok (l : List S67) (hn : l.length ≤ 1048576) (k : Nat) (hk : l.length < k) : laws_toCraneS.f k l = some (toCrane l) := by
  unfold laws_toCraneS.f
  rw [if_pos (by omega), if_pos (by omega)]
  exact toCrane_loop l hn l.length k _ 0 (by omega) (by omega) (by omega) hk (by simp) (by simp)
theorem toCrane_length (l : List S67) : (toCrane l).length = l.length := by simp [toCrane]
theorem eqCrane_loop (l : List S34) (hn : l.length ≤ 1000000000) (d : Nat) : ∀ (k : Nat) (i : Int), 0 ≤ i → i ≤ l.length → (l.length : Int) - i = d → d < k → laws_eqCraneS.l0 k l l i = some true := by
  induction d with
  | zero =>
    intro k i h0 h1 hd hk
    obtain ⟨k, rfl⟩ := pos_round (show 0 < k by omega)
    simp only [laws_eqCraneS.l0]
    rw [if_neg (by omega)]
  | succ d ih =>
    intro k i h0 h1 hd hk
    obtain ⟨k, rfl⟩ := pos_round (show 0 < k by omega)
    simp only [laws_eqCraneS.l0]
    rw [if_pos (by omega), if_pos h0, if_pos (by omega), w64 (x := i + 1) (by omega) (by omega)]
    simp only [laws_eqCrane.f, if_true, Option.bind_some]
    exact ih k (i + 1) (by omega) (by omega) (by omega) (by omega)
theorem eqCrane_ok (l : List S34) (hn : l.length ≤ 1000000000) (k : Nat) (hk : l.length < k) : laws_eqCraneS.f k l l = some true := by
  unfold laws_eqCraneS.f
  rw [if_pos rfl]
  exact eqCrane_loop l hn l.length k 0 (by omega) (by omega) (by omega) hk
theorem markCrane_loop (d : Nat) : ∀ (k : Nat) (l : List S34) (c i : Int), l.length ≤ 100000000 → 0 ≤ i → i ≤ l.length → (l.length : Int) - i = d → d < k → c = 1 + 3 * i → (∀ j : Int, 0 ≤ j → j < i → rd_T34 l j = ((⟨1 + 3 * j, 1 + 3 * j + 1, 1 + 3 * j + 2⟩) : S34)) →
    ∃ r, laws_markCraneS.l0 k l c i = some (1 + 3 * (l.length : Int), r) ∧ r.length = l.length ∧ ∀ j : Int, 0 ≤ j → j < l.length → rd_T34 r j = ((⟨1 + 3 * j, 1 + 3 * j + 1, 1 + 3 * j + 2⟩) : S34) := by
  induction d with
  | zero =>
    intro k l c i hn h0 h1 hd hk hc hj
    obtain ⟨k, rfl⟩ := pos_round (show 0 < k by omega)
    simp only [laws_markCraneS.l0]
    rw [if_neg (by omega)]
    exact ⟨l, by rw [hc, show i = (l.length : Int) by omega], rfl, fun j h2 h3 => hj j h2 (by omega)⟩
  | succ d ih =>
    intro k l c i hn h0 h1 hd hk hc hj
    obtain ⟨k, rfl⟩ := pos_round (show 0 < k by omega)
    have hlt : i < (l.length : Int) := by omega
    obtain ⟨r, hr, hl, hrj⟩ := ih k (l.set i.toNat (⟨c, c + 1, c + 1 + 1⟩ : S34)) (c + 1 + 1 + 1) (i + 1) (by simpa using hn) (by omega) (by simp; omega) (by simp; omega) (by omega) (by omega) (fun j h2 h3 => by
      by_cases e : j = i
      · subst e
        rw [rd34_set_eq h2 hlt]
        congr 1 <;> omega
      · rw [rd34_set_ne h0 h2 (Ne.symm e)]
        exact hj j h2 (by omega))
    rw [List.length_set] at hr hl hrj
    refine ⟨r, ?_, hl, hrj⟩
    simp only [laws_markCraneS.l0]
    rw [if_pos hlt, if_pos h0]
    simp only [Option.bind_some]
    rw [w64 (x := c + 1) (by omega) (by omega), w64 (x := c + 1 + 1) (by omega) (by omega), w64 (x := c + 1 + 1 + 1) (by omega) (by omega), w64 (x := i + 1) (by omega) (by omega)]
    have hset : ∀ x y : S34, (l.set i.toNat x).set i.toNat y = l.set i.toNat y := fun x y => List.set_set ..
    simp only [rd34_set_eq h0 hlt, hset]
    exact hr
theorem markCrane_ok (l : List S34) (hn : l.length ≤ 100000000) (k : Nat) (hk : l.length < k) :
    ∃ r, laws_markCraneS.f k l 1 = some (1 + 3 * (l.length : Int), r) ∧ r.length = l.length ∧ ∀ j : Int, 0 ≤ j → j < l.length → rd_T34 r j = ((⟨1 + 3 * j, 1 + 3 * j + 1, 1 + 3 * j + 2⟩) : S34) :=
  markCrane_loop l.length k l 1 0 hn (by omega) (by omega) (by omega) hk (by omega) (fun j h2 h3 => by omega)
theorem heldCrane_loop (l : List S34) (hn : l.length ≤ 100000000) (hr : ∀ j : Int, 0 ≤ j → j < l.length → rd_T34 l j = ((⟨1 + 3 * j, 1 + 3 * j + 1, 1 + 3 * j + 2⟩) : S34)) (d : Nat) : ∀ (k : Nat) (c i : Int), 0 ≤ i → i ≤ l.length → (l.length : Int) - i = d → d < k → c = 1 + 3 * i →
    laws_heldCraneS.l0 k l c i = some (1 + 3 * (l.length : Int)) := by
  induction d with
  | zero =>
    intro k c i h0 h1 hd hk hc
    obtain ⟨k, rfl⟩ := pos_round (show 0 < k by omega)
    simp only [laws_heldCraneS.l0]
    rw [if_neg (by omega), hc, show i = (l.length : Int) by omega]
  | succ d ih =>
    intro k c i h0 h1 hd hk hc
    obtain ⟨k, rfl⟩ := pos_round (show 0 < k by omega)
    simp only [laws_heldCraneS.l0]
    rw [if_pos (by omega), if_pos h0, hr i h0 (by omega)]
    dsimp only
    rw [w64 (x := c + 1) (by omega) (by omega), w64 (x := c + 1 + 1) (by omega) (by omega), w64 (x := c + 1 + 1 + 1) (by omega) (by omega), w64 (x := i + 1) (by omega) (by omega), if_pos (by omega), if_pos (by omega), if_pos (by omega)]
    exact ih k _ (i + 1) (by omega) (by omega) (by omega) (by omega) (by omega)
theorem heldCrane_ok (l : List S34) (hn : l.length ≤ 100000000) (hr : ∀ j : Int, 0 ≤ j → j < l.length → rd_T34 l j = ((⟨1 + 3 * j, 1 + 3 * j + 1, 1 + 3 * j + 2⟩) : S34)) (k : Nat) (hk : l.length < k) :
    laws_heldCraneS.f k l 1 = some (1 + 3 * (l.length : Int)) :=
  heldCrane_loop l hn hr l.length k 1 0 (by omega) (by omega) (by omega) hk (by omega)
theorem rd41_lt {l : List S41} {i : Int} (h0 : 0 ≤ i) (h1 : i < l.length) : ∃ h : i.toNat < l.length, rd_T41 l i = l[i.toNat]'h := by
  have h : i.toNat < l.length := by omega
  exact ⟨h, by simp [rd_T41, List.getD_eq_getElem?_getD, List.getElem?_eq_getElem h]⟩
theorem rd41_mem {l : List S41} {i : Int} (h0 : 0 ≤ i) (h1 : i < l.length) : rd_T41 l i ∈ l := by
  obtain ⟨h, e⟩ := rd41_lt h0 h1
  rw [e]; exact List.getElem_mem h
theorem rd41_drop {l : List S41} {i : Int} (h0 : 0 ≤ i) (h1 : i < l.length) : l.drop i.toNat = rd_T41 l i :: l.drop (i + 1).toNat := by
  obtain ⟨h, e⟩ := rd41_lt h0 h1
  rw [e, show (i + 1).toNat = i.toNat + 1 by omega, List.drop_eq_getElem_cons h]
theorem rd41_take {l : List S41} {i : Int} (h0 : 0 ≤ i) (h1 : i < l.length) : l.take (i + 1).toNat = l.take i.toNat ++ [rd_T41 l i] := by
  obtain ⟨h, e⟩ := rd41_lt h0 h1
  rw [e, show (i + 1).toNat = i.toNat + 1 by omega, List.take_succ_eq_append_getElem h]
theorem rd41_set_eq {l : List S41} {i : Int} {x : S41} (h0 : 0 ≤ i) (h1 : i < l.length) : rd_T41 (l.set i.toNat x) i = x := by
  simp [rd_T41, List.getD_eq_getElem?_getD, List.getElem?_set, show i.toNat < l.length by omega]
theorem rd41_set_ne {l : List S41} {i j : Int} {x : S41} (h0 : 0 ≤ i) (hj : 0 ≤ j) (h : i ≠ j) : rd_T41 (l.set i.toNat x) j = rd_T41 l j := by
  simp [rd_T41, List.getD_eq_getElem?_getD, List.getElem?_set, show ¬ i.toNat = j.toNat by omega]
theorem rd41_append_left {l m : List S41} {i : Int} (h0 : 0 ≤ i) (h1 : i < l.length) : rd_T41 (l ++ m) i = rd_T41 l i := by
  simp [rd_T41, List.getD_eq_getElem?_getD, List.getElem?_append_left (show i.toNat < l.length by omega)]
theorem rd41_last {l : List S41} {x : S41} : rd_T41 (l ++ [x]) (l.length : Int) = x := by
  simp [rd_T41, List.getD_eq_getElem?_getD]
theorem ext41 {l m : List S41} (h : l.length = m.length) (hr : ∀ i : Int, 0 ≤ i → i < l.length → rd_T41 l i = rd_T41 m i) : l = m := by
  apply List.ext_getElem h
  intro i h1 h2
  have := hr i (by omega) (by omega)
  simpa [rd_T41, List.getD_eq_getElem?_getD, List.getElem?_eq_getElem h1, List.getElem?_eq_getElem h2] using this
theorem rd31_lt {l : List S31} {i : Int} (h0 : 0 ≤ i) (h1 : i < l.length) : ∃ h : i.toNat < l.length, rd_T31 l i = l[i.toNat]'h := by
  have h : i.toNat < l.length := by omega
  exact ⟨h, by simp [rd_T31, List.getD_eq_getElem?_getD, List.getElem?_eq_getElem h]⟩
theorem rd31_mem {l : List S31} {i : Int} (h0 : 0 ≤ i) (h1 : i < l.length) : rd_T31 l i ∈ l := by
  obtain ⟨h, e⟩ := rd31_lt h0 h1
  rw [e]; exact List.getElem_mem h
theorem rd31_drop {l : List S31} {i : Int} (h0 : 0 ≤ i) (h1 : i < l.length) : l.drop i.toNat = rd_T31 l i :: l.drop (i + 1).toNat := by
  obtain ⟨h, e⟩ := rd31_lt h0 h1
  rw [e, show (i + 1).toNat = i.toNat + 1 by omega, List.drop_eq_getElem_cons h]
theorem rd31_take {l : List S31} {i : Int} (h0 : 0 ≤ i) (h1 : i < l.length) : l.take (i + 1).toNat = l.take i.toNat ++ [rd_T31 l i] := by
  obtain ⟨h, e⟩ := rd31_lt h0 h1
  rw [e, show (i + 1).toNat = i.toNat + 1 by omega, List.take_succ_eq_append_getElem h]
theorem rd31_set_eq {l : List S31} {i : Int} {x : S31} (h0 : 0 ≤ i) (h1 : i < l.length) : rd_T31 (l.set i.toNat x) i = x := by
  simp [rd_T31, List.getD_eq_getElem?_getD, List.getElem?_set, show i.toNat < l.length by omega]
theorem rd31_set_ne {l : List S31} {i j : Int} {x : S31} (h0 : 0 ≤ i) (hj : 0 ≤ j) (h : i ≠ j) : rd_T31 (l.set i.toNat x) j = rd_T31 l j := by
  simp [rd_T31, List.getD_eq_getElem?_getD, List.getElem?_set, show ¬ i.toNat = j.toNat by omega]
theorem rd31_append_left {l m : List S31} {i : Int} (h0 : 0 ≤ i) (h1 : i < l.length) : rd_T31 (l ++ m) i = rd_T31 l i := by
  simp [rd_T31, List.getD_eq_getElem?_getD, List.getElem?_append_left (show i.toNat < l.length by omega)]
theorem rd31_last {l : List S31} {x : S31} : rd_T31 (l ++ [x]) (l.length : Int) = x := by
  simp [rd_T31, List.getD_eq_getElem?_getD]
theorem ext31 {l m : List S31} (h : l.length = m.length) (hr : ∀ i : Int, 0 ≤ i → i < l.length → rd_T31 l i = rd_T31 m i) : l = m := by
  apply List.ext_getElem h
  intro i h1 h2
  have := hr i (by omega) (by omega)
  simpa [rd_T31, List.getD_eq_getElem?_getD, List.getElem?_eq_getElem h1, List.getElem?_eq_getElem h2] using this
/-- What the law's list is as the program's. -/
def toMove (l : List S41) : List S31 := l.map fun x => ⟨x.f0, x.f1⟩
theorem toMove_loop (l : List S41) (hn : l.length ≤ 1048576) (d : Nat) : ∀ (k : Nat) (o : List S31) (i : Int), 0 ≤ i → i ≤ l.length → (l.length : Int) - i = d → d < k → o.length = l.length → o.take i.toNat = (toMove l).take i.toNat → laws_toMoveS.l0 k l o i = some (toMove l) := by
  induction d with
  | zero =>
    intro k o i h0 h1 hd hk ho ht
    obtain ⟨k, rfl⟩ := pos_round (show 0 < k by omega)
    simp only [laws_toMoveS.l0]
    rw [if_neg (by omega)]
    rw [List.take_of_length_le (by omega), List.take_of_length_le (by simp [toMove]; omega)] at ht
    rw [ht]
  | succ d ih =>
    intro k o i h0 h1 hd hk ho ht
    obtain ⟨k, rfl⟩ := pos_round (show 0 < k by omega)
    obtain ⟨hl, e⟩ := rd41_lt h0 (show i < (l.length : Int) by omega)
    simp only [laws_toMoveS.l0]
    rw [if_pos (by omega), if_pos h0]
    simp only [laws_toMove.f, Option.bind_some]
    rw [if_pos (by omega), w64 (x := i + 1) (by omega) (by omega)]
    refine ih k _ (i + 1) (by omega) (by omega) (by omega) (by omega) (by simpa using ho) ?_
    rw [show (i + 1).toNat = i.toNat + 1 by omega, List.take_succ_eq_append_getElem (by simp; omega), List.take_succ_eq_append_getElem (by simp [toMove]; omega), List.take_set_of_le (Nat.le_refl _), ht]
    simp [toMove, e]
theorem toMove_ok (l : List S41) (hn : l.length ≤ 1048576) (k : Nat) (hk : l.length < k) : laws_toMoveS.f k l = some (toMove l) := by
  unfold laws_toMoveS.f
  rw [if_pos (by omega), if_pos (by omega)]
  exact toMove_loop l hn l.length k _ 0 (by omega) (by omega) (by omega) hk (by simp) (by simp)
theorem toMove_length (l : List S41) : (toMove l).length = l.length := by simp [toMove]
theorem eqMove_loop (l : List S31) (hn : l.length ≤ 1000000000) (d : Nat) : ∀ (k : Nat) (i : Int), 0 ≤ i → i ≤ l.length → (l.length : Int) - i = d → d < k → laws_eqMoveS.l0 k l l i = some true := by
  induction d with
  | zero =>
    intro k i h0 h1 hd hk
    obtain ⟨k, rfl⟩ := pos_round (show 0 < k by omega)
    simp only [laws_eqMoveS.l0]
    rw [if_neg (by omega)]
  | succ d ih =>
    intro k i h0 h1 hd hk
    obtain ⟨k, rfl⟩ := pos_round (show 0 < k by omega)
    simp only [laws_eqMoveS.l0]
    rw [if_pos (by omega), if_pos h0, if_pos (by omega), w64 (x := i + 1) (by omega) (by omega)]
    simp only [laws_eqMove.f, if_true, Option.bind_some]
    exact ih k (i + 1) (by omega) (by omega) (by omega) (by omega)
theorem eqMove_ok (l : List S31) (hn : l.length ≤ 1000000000) (k : Nat) (hk : l.length < k) : laws_eqMoveS.f k l l = some true := by
  unfold laws_eqMoveS.f
  rw [if_pos rfl]
  exact eqMove_loop l hn l.length k 0 (by omega) (by omega) (by omega) hk
theorem markMove_floop (c0 : Int) (hc0 : 0 ≤ c0) (hc1 : c0 ≤ 1000000000) (d : Nat) : ∀ (k : Nat) (l : List S31) (c i : Int), l.length ≤ 100000000 → 0 ≤ i → i ≤ l.length → (l.length : Int) - i = d → d < k → c = c0 + 2 * i → (∀ j : Int, 0 ≤ j → j < i → rd_T31 l j = ((⟨c0 + 2 * j, c0 + 2 * j + 1⟩) : S31)) →
    ∃ r, laws_markMoveS.l0 k l c i = some (c0 + 2 * (l.length : Int), r) ∧ r.length = l.length ∧ ∀ j : Int, 0 ≤ j → j < l.length → rd_T31 r j = ((⟨c0 + 2 * j, c0 + 2 * j + 1⟩) : S31) := by
  induction d with
  | zero =>
    intro k l c i hn h0 h1 hd hk hc hj
    obtain ⟨k, rfl⟩ := pos_round (show 0 < k by omega)
    simp only [laws_markMoveS.l0]
    rw [if_neg (by omega)]
    exact ⟨l, by rw [hc, show i = (l.length : Int) by omega], rfl, fun j h2 h3 => hj j h2 (by omega)⟩
  | succ d ih =>
    intro k l c i hn h0 h1 hd hk hc hj
    obtain ⟨k, rfl⟩ := pos_round (show 0 < k by omega)
    have hlt : i < (l.length : Int) := by omega
    obtain ⟨r, hr, hl, hrj⟩ := ih k (l.set i.toNat (⟨c, c + 1⟩ : S31)) (c + 1 + 1) (i + 1) (by simpa using hn) (by omega) (by simp; omega) (by simp; omega) (by omega) (by omega) (fun j h2 h3 => by
      by_cases e : j = i
      · subst e
        rw [rd31_set_eq h2 hlt]
        congr 1 <;> omega
      · rw [rd31_set_ne h0 h2 (Ne.symm e)]
        exact hj j h2 (by omega))
    rw [List.length_set] at hr hl hrj
    refine ⟨r, ?_, hl, hrj⟩
    simp only [laws_markMoveS.l0]
    rw [if_pos hlt, if_pos h0]
    simp only [Option.bind_some]
    rw [w64 (x := c + 1) (by omega) (by omega), w64 (x := c + 1 + 1) (by omega) (by omega), w64 (x := i + 1) (by omega) (by omega)]
    have hset : ∀ x y : S31, (l.set i.toNat x).set i.toNat y = l.set i.toNat y := fun x y => List.set_set ..
    simp only [rd31_set_eq h0 hlt, hset]
    exact hr
theorem markMove_from (c0 : Int) (hc0 : 0 ≤ c0) (hc1 : c0 ≤ 1000000000) (l : List S31) (hn : l.length ≤ 100000000) (k : Nat) (hk : l.length < k) :
    ∃ r, laws_markMoveS.f k l c0 = some (c0 + 2 * (l.length : Int), r) ∧ r.length = l.length ∧ ∀ j : Int, 0 ≤ j → j < l.length → rd_T31 r j = ((⟨c0 + 2 * j, c0 + 2 * j + 1⟩) : S31) :=
  markMove_floop c0 hc0 hc1 l.length k l c0 0 hn (by omega) (by omega) (by omega) hk (by omega) (fun j h2 h3 => by omega)
/-! ### laws.eqIntS, markIntS, heldIntS -/
theorem eqI_loop (l : List Int) (hn : l.length ≤ 1000000000) (d : Nat) : ∀ (k : Nat) (i : Int), 0 ≤ i → i ≤ l.length → (l.length : Int) - i = d → d < k → laws_eqIntS.l0 k l l i = some true := by
  induction d with
  | zero =>
    intro k i h0 h1 hd hk
    obtain ⟨k, rfl⟩ := pos_round (show 0 < k by omega)
    simp only [laws_eqIntS.l0]
    rw [if_neg (by omega)]
  | succ d ih =>
    intro k i h0 h1 hd hk
    obtain ⟨k, rfl⟩ := pos_round (show 0 < k by omega)
    simp only [laws_eqIntS.l0]
    rw [if_pos (by omega), if_pos h0, if_pos (by omega), w64 (x := i + 1) (by omega) (by omega)]
    simp only [if_true]
    exact ih k (i + 1) (by omega) (by omega) (by omega) (by omega)
theorem eqI (l : List Int) (hn : l.length ≤ 1000000000) (k : Nat) (hk : l.length < k) : laws_eqIntS.f k l l = some true := by
  unfold laws_eqIntS.f
  rw [if_pos rfl]
  exact eqI_loop l hn l.length k 0 (by omega) (by omega) (by omega) hk
theorem markI_loop (d : Nat) : ∀ (k : Nat) (l : List Int) (c i : Int), l.length ≤ 1000000000 → 0 ≤ i → i ≤ l.length → (l.length : Int) - i = d → d < k → 0 ≤ c → c + d ≤ 2000000000 →
    ∃ r, laws_markIntS.l0 k l c i = some (c + d, r) ∧ r.length = l.length ∧ ∀ j : Int, 0 ≤ j → j < l.length → rd r j = if j < i then rd l j else c + (j - i) := by
  induction d with
  | zero =>
    intro k l c i hn h0 h1 hd hk hc hc1
    obtain ⟨k, rfl⟩ := pos_round (show 0 < k by omega)
    simp only [laws_markIntS.l0]
    rw [if_neg (by omega)]
    exact ⟨l, by simp, rfl, fun j hj hj1 => by rw [if_pos (by omega)]⟩
  | succ d ih =>
    intro k l c i hn h0 h1 hd hk hc hc1
    obtain ⟨k, rfl⟩ := pos_round (show 0 < k by omega)
    obtain ⟨r, hr, hl, hj⟩ := ih k (l.set i.toNat c) (c + 1) (i + 1) (by simpa using hn) (by omega) (by simp; omega) (by simp; omega) (by omega) (by omega) (by omega)
    simp only [laws_markIntS.l0]
    rw [if_pos (by omega), if_pos h0, w64 (x := i + 1) (by omega) (by omega), w64 (x := c + 1) (by omega) (by omega), hr]
    refine ⟨r, ?_, by simpa using hl, fun j hj0 hj1 => ?_⟩
    · congr 2; omega
    · rw [hj j hj0 (by simpa using hj1)]
      by_cases e : j = i
      · subst e
        rw [if_pos (by omega), if_neg (by omega), rd_set_eq hj0 hj1]; omega
      · by_cases e2 : j < i
        · rw [if_pos (by omega), if_pos e2, rd_set_ne h0 hj0 (Ne.symm e)]
        · rw [if_neg (by omega), if_neg e2]; omega
theorem markI (l : List Int) (hn : l.length ≤ 1000000000) (k : Nat) (hk : l.length < k) :
    ∃ r, laws_markIntS.f k l 1 = some (1 + (l.length : Int), r) ∧ r.length = l.length ∧ ∀ j : Int, 0 ≤ j → j < l.length → rd r j = 1 + j := by
  obtain ⟨r, hr, hl, hj⟩ := markI_loop l.length k l 1 0 hn (by omega) (by omega) (by omega) hk (by omega) (by omega)
  exact ⟨r, hr, hl, fun j h0 h1 => by rw [hj j h0 h1, if_neg (by omega)]; omega⟩
theorem heldI_loop (l : List Int) (hn : l.length ≤ 1000000000) (d : Nat) : ∀ (k : Nat) (c i : Int), 0 ≤ i → i ≤ l.length → (l.length : Int) - i = d → d < k → 0 ≤ c → c + d ≤ 2000000000 → (∀ j : Int, i ≤ j → j < l.length → rd l j = c + (j - i)) →
    laws_heldIntS.l0 k l c i = some (c + d) := by
  induction d with
  | zero =>
    intro k c i h0 h1 hd hk hc hc1 hr
    obtain ⟨k, rfl⟩ := pos_round (show 0 < k by omega)
    simp only [laws_heldIntS.l0]
    rw [if_neg (by omega)]; simp
  | succ d ih =>
    intro k c i h0 h1 hd hk hc hc1 hr
    obtain ⟨k, rfl⟩ := pos_round (show 0 < k by omega)
    simp only [laws_heldIntS.l0]
    rw [if_pos (by omega), if_pos h0, if_pos (by rw [hr i (by omega) (by omega)]; omega), w64 (x := i + 1) (by omega) (by omega), w64 (x := c + 1) (by omega) (by omega)]
    rw [ih k (c + 1) (i + 1) (by omega) (by omega) (by omega) (by omega) (by omega) (by omega) (fun j h2 h3 => by rw [hr j (by omega) h3]; omega)]
    congr 1; omega
theorem heldI (l : List Int) (hn : l.length ≤ 1000000000) (hr : ∀ j : Int, 0 ≤ j → j < l.length → rd l j = 1 + j) (k : Nat) (hk : l.length < k) : laws_heldIntS.f k l 1 = some (1 + (l.length : Int)) :=
  heldI_loop l hn l.length k 1 0 (by omega) (by omega) (by omega) hk (by omega) (by omega) (fun j h0 h1 => by rw [hr j h0 h1]; omega)
/-! ### CranesOk: the program's and the reference's -/
theorem in_eqC (a b c : Int) : impl_in.f a b c = some (decide (b ≤ a ∧ a ≤ c)) := in_some a b c
theorem in_eqC' (a b c : Int) : spec_l1In.f a b c = some (decide (b ≤ a ∧ a ≤ c)) := in_some a b c
/-- The reference's loop, where the bounds of the rail are wrong: never true. -/
theorem ok_bad (l : List S34) (gap : Int) (hn : l.length ≤ 1048576) (hbad : ¬ ((1 ≤ (l.length : Int) ∧ (l.length : Int) ≤ 8) ∧ 1 ≤ gap ∧ gap ≤ 20)) (d : Nat) : ∀ (k : Nat) (i : Int), 0 ≤ i → i ≤ l.length → (l.length : Int) - i = d → d < k → spec_CranesOk.l0 k l gap i = some false := by
  induction d with
  | zero =>
    intro k i h0 h1 hd hk
    obtain ⟨k, rfl⟩ := pos_round (show 0 < k by omega)
    simp only [spec_CranesOk.l0]
    rw [if_neg (by omega), in_eqC', in_eqC']
    by_cases c1 : 1 ≤ (l.length : Int) ∧ (l.length : Int) ≤ 8
    · have c2 : ¬ (1 ≤ gap ∧ gap ≤ 20) := fun h => hbad ⟨c1, h⟩
      simp [c1, c2]
    · simp [c1]
  | succ d ih =>
    intro k i h0 h1 hd hk
    obtain ⟨k, rfl⟩ := pos_round (show 0 < k by omega)
    have hI := ih k (i + 1) (by omega) (by omega) (by omega) (by omega)
    simp only [spec_CranesOk.l0]
    rw [if_pos (by omega), if_pos h0, in_eqC', in_eqC', w64 (x := i + 1) (by omega) (by omega), hI]
    simp only [Option.bind_some]
    by_cases c0 : i > 0
    · rw [if_pos c0, w64 (x := i - 1) (by omega) (by omega), if_pos (show 0 ≤ i - 1 by omega), if_pos (show i - 1 < (l.length : Int) by omega)]
      repeat' split
      all_goals rfl
    · rw [if_neg c0]
      repeat' split
      all_goals rfl
/-- Where they are right, both loops tell the same. -/
theorem ok_good (l : List S34) (gap : Int) (hlen : 1 ≤ (l.length : Int) ∧ (l.length : Int) ≤ 8) (hgap : 1 ≤ gap ∧ gap ≤ 20) (d : Nat) : ∀ (i : Int), 0 ≤ i → i ≤ l.length → (l.length : Int) - i = d → (0 < i → 0 ≤ (rd_T34 l (i - 1)).f0 ∧ (rd_T34 l (i - 1)).f0 ≤ 1000) →
    ∃ b, ∀ k, d < k → spec_CranesOk.l0 k l gap i = some b ∧ impl_CranesOk.l0 k l gap l (l.length : Int) i = some b := by
  induction d with
  | zero =>
    intro i h0 h1 hd hp
    refine ⟨true, fun k hk => ?_⟩
    obtain ⟨k, rfl⟩ := pos_round (show 0 < k by omega)
    simp only [spec_CranesOk.l0, impl_CranesOk.l0]
    rw [if_neg (by omega), if_neg (by omega), in_eqC', in_eqC', decide_eq_true hlen, decide_eq_true hgap]
    exact ⟨by simp, rfl⟩
  | succ d ih =>
    intro i h0 h1 hd hp
    have hlt : i < (l.length : Int) := by omega
    have hw : wrap64 (i + 1) = i + 1 := w64 (by omega) (by omega)
    have hno : ∀ (k : Nat), (¬ ((0 ≤ (rd_T34 l i).f1 ∧ (rd_T34 l i).f1 ≤ (rd_T34 l i).f0) ∧ (rd_T34 l i).f0 ≤ (rd_T34 l i).f2 ∧ (rd_T34 l i).f2 ≤ 1000)) → spec_CranesOk.l0 (k + 1) l gap i = some false ∧ impl_CranesOk.l0 (k + 1) l gap l (l.length : Int) i = some false := by
      intro k hc
      simp only [spec_CranesOk.l0, impl_CranesOk.l0]
      rw [if_pos hlt, if_pos hlt, if_pos h0, if_pos h0, if_pos hlt, in_eqC, in_eqC, in_eqC, in_eqC', in_eqC']
      simp only [Option.bind_some]
      constructor
      · by_cases c1 : 0 ≤ (rd_T34 l i).f1 ∧ (rd_T34 l i).f1 ≤ (rd_T34 l i).f0
        · rw [if_pos (decide_eq_true c1), if_neg (by simp; omega)]
        · rw [if_neg (by simpa using c1)]
      · by_cases c1 : 0 ≤ (rd_T34 l i).f1 ∧ (rd_T34 l i).f1 ≤ 1000
        · rw [if_pos (decide_eq_true c1)]
          by_cases c2 : 0 ≤ (rd_T34 l i).f2 ∧ (rd_T34 l i).f2 ≤ 1000
          · rw [if_pos (decide_eq_true c2), if_neg (by simp; omega)]
          · rw [if_neg (by simpa using c2)]
        · rw [if_neg (by simpa using c1)]
    by_cases hc : (0 ≤ (rd_T34 l i).f1 ∧ (rd_T34 l i).f1 ≤ (rd_T34 l i).f0) ∧ (rd_T34 l i).f0 ≤ (rd_T34 l i).f2 ∧ (rd_T34 l i).f2 ≤ 1000
    · obtain ⟨b, hb⟩ := ih (i + 1) (by omega) (by omega) (by omega) (fun _ => by rw [show i + 1 - 1 = i by omega]; omega)
      have hyes : ∀ (k : Nat), d < k → (0 < i → ¬ (rd_T34 l i).f0 < (rd_T34 l (i - 1)).f0 + gap) → spec_CranesOk.l0 (k + 1) l gap i = some b ∧ impl_CranesOk.l0 (k + 1) l gap l (l.length : Int) i = some b := by
        intro k hk hg
        obtain ⟨hs, hi⟩ := hb k hk
        simp only [spec_CranesOk.l0, impl_CranesOk.l0]
        rw [if_pos hlt, if_pos hlt, if_pos h0, if_pos h0, if_pos hlt, in_eqC, in_eqC, in_eqC, in_eqC', in_eqC', decide_eq_true hc.1, decide_eq_true hc.2, decide_eq_true (show 0 ≤ (rd_T34 l i).f1 ∧ (rd_T34 l i).f1 ≤ 1000 by omega), decide_eq_true (show 0 ≤ (rd_T34 l i).f2 ∧ (rd_T34 l i).f2 ≤ 1000 by omega), decide_eq_true (show (rd_T34 l i).f1 ≤ (rd_T34 l i).f0 ∧ (rd_T34 l i).f0 ≤ (rd_T34 l i).f2 by omega), hw, hs, hi]
        simp only [Option.bind_some, if_true]
        by_cases c0 : i > 0
        · have := hg c0
          have := hp c0
          constructor <;> rw [if_pos c0, w64 (x := i - 1) (by omega) (by omega), if_pos (show 0 ≤ i - 1 by omega), if_pos (show i - 1 < (l.length : Int) by omega), w64 (x := (rd_T34 l (i - 1)).f0 + gap) (by omega) (by omega), if_neg (by omega)]
        · constructor <;> rw [if_neg c0]
      by_cases hg : 0 < i ∧ (rd_T34 l i).f0 < (rd_T34 l (i - 1)).f0 + gap
      · refine ⟨false, fun k hk => ?_⟩
        obtain ⟨k, rfl⟩ := pos_round (show 0 < k by omega)
        have := hp hg.1
        simp only [spec_CranesOk.l0, impl_CranesOk.l0]
        rw [if_pos hlt, if_pos hlt, if_pos h0, if_pos h0, if_pos hlt, in_eqC, in_eqC, in_eqC, in_eqC', in_eqC', decide_eq_true hc.1, decide_eq_true hc.2, decide_eq_true (show 0 ≤ (rd_T34 l i).f1 ∧ (rd_T34 l i).f1 ≤ 1000 by omega), decide_eq_true (show 0 ≤ (rd_T34 l i).f2 ∧ (rd_T34 l i).f2 ≤ 1000 by omega), decide_eq_true (show (rd_T34 l i).f1 ≤ (rd_T34 l i).f0 ∧ (rd_T34 l i).f0 ≤ (rd_T34 l i).f2 by omega)]
        simp only [Option.bind_some, if_true]
        constructor <;> rw [if_pos hg.1, w64 (x := i - 1) (by omega) (by omega), if_pos (show 0 ≤ i - 1 by omega), if_pos (show i - 1 < (l.length : Int) by omega), w64 (x := (rd_T34 l (i - 1)).f0 + gap) (by omega) (by omega), if_pos hg.2]
      · refine ⟨b, fun k hk => ?_⟩
        obtain ⟨k, rfl⟩ := pos_round (show 0 < k by omega)
        exact hyes k (by omega) (fun h1 h2 => hg ⟨h1, h2⟩)
    · refine ⟨false, fun k hk => ?_⟩
      obtain ⟨k, rfl⟩ := pos_round (show 0 < k by omega)
      exact hno k hc
theorem cranes_ok (l : List S34) (gap : Int) (hn : l.length ≤ 1048576) : ∃ b : Bool, (b = true → 1 ≤ (l.length : Int) ∧ (l.length : Int) ≤ 8 ∧ 1 ≤ gap ∧ gap ≤ 20) ∧ ∀ k, l.length + 1 < k → spec_CranesOk.f k l gap = some b ∧ impl_CranesOk.f k l gap = some b := by
  by_cases h : (1 ≤ (l.length : Int) ∧ (l.length : Int) ≤ 8) ∧ 1 ≤ gap ∧ gap ≤ 20
  · obtain ⟨b, hb⟩ := ok_good l gap h.1 h.2 l.length 0 (by omega) (by omega) (by omega) (fun h => by omega)
    refine ⟨b, fun _ => ⟨h.1.1, h.1.2, h.2⟩, fun k hk => ?_⟩
    obtain ⟨k, rfl⟩ := pos_round (show 0 < k by omega)
    refine ⟨(hb (k + 1) (by omega)).1, ?_⟩
    have hi := (hb k (by omega)).2
    have hj : impl_CranesOk.j0 (k + 1) l gap false = some b := by
      simp only [impl_CranesOk.j0]
      rw [if_neg (by simp)]
      exact hi
    unfold impl_CranesOk.f
    rw [in_eqC, in_eqC, decide_eq_true h.1, decide_eq_true h.2, Option.bind_some, if_pos rfl, Option.bind_some]
    exact hj
  · refine ⟨false, (fun h => by cases h), fun k hk => ?_⟩
    obtain ⟨k, rfl⟩ := pos_round (show 0 < k by omega)
    refine ⟨ok_bad l gap hn h l.length (k + 1) 0 (by omega) (by omega) (by omega) (by omega), ?_⟩
    have hj : impl_CranesOk.j0 (k + 1) l gap true = some false := by
      simp only [impl_CranesOk.j0, if_true]
    unfold impl_CranesOk.f
    rw [in_eqC, in_eqC, Option.bind_some]
    by_cases c1 : 1 ≤ (l.length : Int) ∧ (l.length : Int) ≤ 8
    · have c2 : ¬ (1 ≤ gap ∧ gap ≤ 20) := fun h' => h ⟨c1, h'⟩
      rw [if_pos (decide_eq_true c1), decide_eq_false c2, Option.bind_some]
      exact hj
    · rw [if_neg (by simpa using c1)]
      exact hj
theorem copy_same (l : List S34) (h : l.length ≤ 1048576) : spec_l17Copy.f l = some l := by
  unfold spec_l17Copy.f
  rw [Option.bind_some, if_pos (by simp; omega)]; rfl
theorem own_sameC (l : List S34) (h : l.length ≤ 1048576) : impl_Crane.f l = some l := by
  unfold impl_Crane.f
  rw [if_pos (by omega), if_pos (by omega), Option.bind_some, if_pos (by simp; omega)]; rfl
/-! ### DoMove -/
theorem move_same (l : List S34) (gap cr dst : Int) (hn : l.length ≤ 1048576) : ∃ res : List S34 × Int, res.1.length = l.length ∧ ∀ k, l.length + 2 < k → spec_DoMove.f k l gap cr dst = some res ∧ impl_DoMove.f k l gap cr dst = some res := by
  obtain ⟨b, hbl, hb⟩ := cranes_ok l gap hn
  have hbad : ∀ k, spec_DoMove.j0 (k + 1) l gap l true cr dst = some (l, 1) ∧ impl_DoMove.j0 (k + 1) l gap l true cr dst = some (l, 1) := fun k => by
    simp only [spec_DoMove.j0, impl_DoMove.j0, if_true]
    exact ⟨trivial, trivial⟩
  cases b with
  | false =>
    refine ⟨(l, 1), rfl, fun k hk => ?_⟩
    obtain ⟨k, rfl⟩ := pos_round (show 0 < k by omega)
    obtain ⟨hs, hi⟩ := hb (k + 1) (by omega)
    unfold spec_DoMove.f impl_DoMove.f
    rw [copy_same l hn, own_sameC l hn, Option.bind_some, Option.bind_some, hs, hi, Option.bind_some, Option.bind_some, if_neg (by simp), if_neg (by simp)]
    exact hbad k
  | true =>
    have hlen := hbl rfl
    have hw : wrap64 ((l.length : Int) - 1) = (l.length : Int) - 1 := w64 (by omega) (by omega)
    by_cases hc : 0 ≤ cr ∧ cr ≤ (l.length : Int) - 1
    · have go : ∀ res : List S34 × Int, (∀ k, l.length + 1 < k → spec_DoMove.j0 (k + 1) l gap l false cr dst = some res ∧ impl_DoMove.j0 (k + 1) l gap l false cr dst = some res) → ∀ k, l.length + 2 < k → spec_DoMove.f k l gap cr dst = some res ∧ impl_DoMove.f k l gap cr dst = some res := by
        intro res hj k hk
        obtain ⟨k, rfl⟩ := pos_round (show 0 < k by omega)
        obtain ⟨hs, hi⟩ := hb (k + 1) (by omega)
        unfold spec_DoMove.f impl_DoMove.f
        rw [copy_same l hn, own_sameC l hn, Option.bind_some, Option.bind_some, hs, hi, Option.bind_some, Option.bind_some, if_pos rfl, if_pos rfl, in_eqC, in_eqC', hw, decide_eq_true hc, Option.bind_some, Option.bind_some]
        exact hj k (by omega)
      by_cases ht : (rd_T34 l cr).f1 ≤ dst ∧ dst ≤ (rd_T34 l cr).f2
      · obtain ⟨b2, _, hb2⟩ := cranes_ok (l.set cr.toNat (⟨dst, (rd_T34 l cr).f1, (rd_T34 l cr).f2⟩ : S34)) gap (by simpa using hn)
        refine ⟨if b2 = true then (l.set cr.toNat (⟨dst, (rd_T34 l cr).f1, (rd_T34 l cr).f2⟩ : S34), 0) else (l, 3), by split <;> simp, go _ fun k hk => ?_⟩
        obtain ⟨hs, hi⟩ := hb2 k (by simpa using hk)
        have hlt : cr < (l.length : Int) := by omega
        constructor
        · simp only [spec_DoMove.j0]
          rw [if_neg (by simp), if_pos hc.1, if_pos hlt, in_eqC', decide_eq_true ht, Option.bind_some, if_pos rfl, Option.bind_some, hs, Option.bind_some, copy_same l hn]
          cases b2 <;> rfl
        · simp only [impl_DoMove.j0]
          rw [if_neg (by simp), if_pos hc.1, if_pos hlt, in_eqC, decide_eq_true ht, Option.bind_some, if_pos rfl, Option.bind_some, hi, Option.bind_some, own_sameC l hn]
          cases b2 <;> rfl
      · refine ⟨(l, 2), rfl, go _ fun k hk => ?_⟩
        have hlt : cr < (l.length : Int) := by omega
        constructor
        · simp only [spec_DoMove.j0]
          rw [if_neg (by simp), if_pos hc.1, if_pos hlt, in_eqC', decide_eq_false ht]
          rfl
        · simp only [impl_DoMove.j0]
          rw [if_neg (by simp), if_pos hc.1, if_pos hlt, in_eqC, decide_eq_false ht]
          rfl
    · refine ⟨(l, 1), rfl, fun k hk => ?_⟩
      obtain ⟨k, rfl⟩ := pos_round (show 0 < k by omega)
      obtain ⟨hs, hi⟩ := hb (k + 1) (by omega)
      unfold spec_DoMove.f impl_DoMove.f
      rw [copy_same l hn, own_sameC l hn, Option.bind_some, Option.bind_some, hs, hi, Option.bind_some, Option.bind_some, if_pos rfl, if_pos rfl, in_eqC, in_eqC', hw, decide_eq_false hc, Option.bind_some, Option.bind_some]
      exact hbad k

/-! ### RunMoves -/
theorem own_intsC (l : List Int) (h : l.length ≤ 1048576) : impl_own_int.f l = some l := by
  unfold impl_own_int.f
  rw [if_pos (by omega), if_pos (by omega), Option.bind_some, if_pos (by simp; omega)]; rfl
theorem run_loops (ms : List S31) (hm : ms.length ≤ 60) (gap : Int) (n : Nat) (hn : n ≤ 1048576) (d : Nat) : ∀ (l : List S34) (cs : List Int) (i : Int), l.length = n → (cs.length : Int) = i → 0 ≤ i → i ≤ ms.length → (ms.length : Int) - i = d →
    ∃ res : List S34 × List Int, res.1.length = n ∧ res.2.length ≤ 60 ∧ ∀ k, n + 3 + d < k → spec_RunMoves.l0 k gap ms l cs i = some res ∧ impl_RunMoves.l0 k gap l cs ms (ms.length : Int) i = some res := by
  induction d with
  | zero =>
    intro l cs i hl hc h0 h1 hd
    refine ⟨(l, cs), hl, by dsimp only; omega, fun k hk => ?_⟩
    obtain ⟨k, rfl⟩ := pos_round (show 0 < k by omega)
    simp only [spec_RunMoves.l0, impl_RunMoves.l0]
    rw [if_neg (by omega), if_neg (by omega), own_intsC cs (by omega)]
    exact ⟨rfl, rfl⟩
  | succ d ih =>
    intro l cs i hl hc h0 h1 hd
    obtain ⟨res, hrl, hr⟩ := move_same l gap (rd_T31 ms i).f0 (rd_T31 ms i).f1 (by omega)
    obtain ⟨res2, g1, g2, g3⟩ := ih res.1 (cs ++ [res.2]) (i + 1) (by omega) (by simp; omega) (by omega) (by omega) (by omega)
    refine ⟨res2, g1, g2, fun k hk => ?_⟩
    obtain ⟨k, rfl⟩ := pos_round (show 0 < k by omega)
    obtain ⟨r1, r2⟩ := hr k (by omega)
    obtain ⟨q1, q2⟩ := g3 k (by omega)
    simp only [spec_RunMoves.l0, impl_RunMoves.l0]
    constructor
    · rw [if_pos (by omega), if_pos (by omega), if_pos h0, r1, Option.bind_some, if_pos (by omega), w64 (x := i + 1) (by omega) (by omega)]
      exact q1
    · rw [if_pos (by omega), if_pos h0, if_pos (by omega), r2, Option.bind_some, if_pos (by omega), w64 (x := i + 1) (by omega) (by omega)]
      exact q2
theorem run_same (l : List S34) (gap : Int) (ms : List S31) (hn : l.length ≤ 1048576) (hm : ms.length ≤ 1048576) : ∃ res : List S34 × List Int, res.1.length = l.length ∧ res.2.length ≤ 60 ∧ ∀ k, l.length + 70 < k → spec_RunMoves.f k l gap ms = some res ∧ impl_RunMoves.f k l gap ms = some res := by
  by_cases c : (ms.length : Int) > 60
  · refine ⟨(l, []), rfl, by simp, fun k hk => ?_⟩
    obtain ⟨k, rfl⟩ := pos_round (show 0 < k by omega)
    unfold spec_RunMoves.f impl_RunMoves.f
    rw [copy_same l hn, own_sameC l hn, Option.bind_some, Option.bind_some, if_pos c]
    simp only [spec_RunMoves.l0]
    rw [if_pos (by omega), if_neg (by omega)]
    exact ⟨rfl, trivial⟩
  · obtain ⟨res, h1, h2, h3⟩ := run_loops ms (by omega) gap l.length hn ms.length l [] 0 rfl rfl (by omega) (by omega) (by omega)
    refine ⟨res, h1, h2, fun k hk => ?_⟩
    unfold spec_RunMoves.f impl_RunMoves.f
    rw [copy_same l hn, own_sameC l hn, Option.bind_some, Option.bind_some, if_neg c]
    exact h3 k (by omega)
theorem markI_from (c0 : Int) (h0 : 0 ≤ c0) (h1 : c0 ≤ 1000000000) (l : List Int) (hn : l.length ≤ 1000000) (k : Nat) (hk : l.length < k) :
    ∃ r, laws_markIntS.f k l c0 = some (c0 + (l.length : Int), r) ∧ r.length = l.length ∧ ∀ j : Int, 0 ≤ j → j < l.length → rd r j = c0 + j := by
  obtain ⟨r, hr, hl, hj⟩ := markI_loop l.length k l c0 0 (by omega) (by omega) (by omega) (by omega) hk h0 (by omega)
  exact ⟨r, hr, hl, fun j g0 g1 => by rw [hj j g0 g1, if_neg (by omega)]; omega⟩
theorem heldI_from (c0 : Int) (h0 : 0 ≤ c0) (h1 : c0 ≤ 1000000000) (l : List Int) (hn : l.length ≤ 1000000) (hr : ∀ j : Int, 0 ≤ j → j < l.length → rd l j = c0 + j) (k : Nat) (hk : l.length < k) : laws_heldIntS.f k l c0 = some (c0 + (l.length : Int)) :=
  heldI_loop l (by omega) l.length k c0 0 (by omega) (by omega) (by omega) hk h0 (by omega) (fun j g0 g1 => by rw [hr j g0 g1]; omega)

theorem FnExactRunMoves : laws_FnExactRunMoves.Pure := by
  intro l gap ms hl0 _ hm0
  by_cases hn : (l.length : Int) ≤ 1048576
  · by_cases hm : (ms.length : Int) ≤ 1048576 - l.length
    · have hl := toCrane_length l
      have hlm := toMove_length ms
      obtain ⟨res, hrl, hrl2, hr⟩ := run_same (toCrane l) gap (toMove ms) (by omega) (by omega)
      obtain ⟨K, hK⟩ : ∃ K, K = l.length + ms.length + 100 := ⟨_, rfl⟩
      obtain ⟨r0, hm0, hml0, hmr0⟩ := markCrane_ok (toCrane l) (by omega) (K + 2) (by omega)
      obtain ⟨r00, hm00, _, _⟩ := markMove_from (1 + 3 * ((toCrane l).length : Int)) (by omega) (by omega) (toMove ms) (by omega) (K + 2) (by omega)
      obtain ⟨r1, hm1, hml1, hmr1⟩ := markCrane_ok res.1 (by omega) (K + 1) (by omega)
      obtain ⟨r2, hm2, hml2, hmr2⟩ := markI_from (1 + 3 * (res.1.length : Int)) (by omega) (by omega) res.2 (by omega) (K + 1) (by omega)
      have hh1 : ∀ k, l.length + 100 ≤ k → laws_heldCraneS.f k r1 1 = some (1 + 3 * (r1.length : Int)) := fun k hk => heldCrane_ok r1 (by omega) (fun j h0 h1 => hmr1 j h0 (by omega)) k (by omega)
      have hh2 : ∀ k, l.length + 100 ≤ k → laws_heldIntS.f k r2 (1 + 3 * (r1.length : Int)) = some (1 + 3 * (r1.length : Int) + (r2.length : Int)) := fun k hk => heldI_from _ (by omega) (by omega) r2 (by omega) (fun j h0 h1 => by rw [hmr2 j h0 (by omega), hml1]) k (by omega)
      have t0 : ∀ k, l.length < k → laws_toCraneS.f k l = some (toCrane l) := fun k hk => toCrane_ok l (by omega) k hk
      have t1 : ∀ k, ms.length < k → laws_toMoveS.f k ms = some (toMove ms) := fun k hk => toMove_ok ms (by omega) k hk
      have e0 : ∀ k, l.length < k → laws_eqCraneS.f k res.1 res.1 = some true := fun k hk => eqCrane_ok res.1 (by omega) k (by omega)
      have e1 : ∀ k, 60 < k → laws_eqIntS.f k res.2 res.2 = some true := fun k hk => eqI res.2 (by omega) k (by omega)
      refine ⟨K + 3, ?_⟩
      have j2 : laws_FnExactRunMoves.j2 (K + 1) r1 r2 (1 + 3 * (res.1.length : Int) + (res.2.length : Int)) false = some true := by
        simp only [laws_FnExactRunMoves.j2]
        rw [if_neg (by simp), hh1 K (by omega), Option.bind_some, if_neg (by omega), hh2 K (by omega), Option.bind_some, if_neg (by omega), if_pos (by omega)]
      have j1 : laws_FnExactRunMoves.j1 (K + 2) l gap ms res.1 res.2 res.1 res.2 false = some true := by
        simp only [laws_FnExactRunMoves.j1]
        rw [if_neg (by simp), hm1, Option.bind_some]
        dsimp only
        rw [hm2, Option.bind_some]
        dsimp only
        rw [hh1 _ (by omega), Option.bind_some, if_neg (by omega), hh2 _ (by omega), Option.bind_some, if_neg (by omega), if_pos (by omega), t0 (K + 1) (by omega), Option.bind_some, t1 (K + 1) (by omega), Option.bind_some, (hr (K + 1) (by omega)).2, Option.bind_some, e0 (K + 1) (by omega), Option.bind_some, if_pos rfl, e1 (K + 1) (by omega), Option.bind_some]
        exact j2
      have j0 : laws_FnExactRunMoves.j0 (K + 3) l gap ms res.1 res.2 (toCrane l) (toMove ms) res.1 res.2 false = some true := by
        simp only [laws_FnExactRunMoves.j0]
        rw [if_neg (by simp), t0 (K + 2) (by omega), Option.bind_some, eqCrane_ok (toCrane l) (by omega) (K + 2) (by omega), Option.bind_some, if_pos rfl, t1 (K + 2) (by omega), Option.bind_some, eqMove_ok (toMove ms) (by omega) (K + 2) (by omega), Option.bind_some, if_pos rfl, hm0, Option.bind_some]
        dsimp only
        rw [hm00, Option.bind_some]
        dsimp only
        rw [if_neg (by omega), e0 (K + 2) (by omega), Option.bind_some, if_pos rfl, e1 (K + 2) (by omega), Option.bind_some]
        exact j1
      unfold laws_FnExactRunMoves.f laws_szCraneS.f laws_szMoveS.f
      rw [w64 (x := 1048576 - (l.length : Int)) (by omega) (by omega), if_neg (by omega), Option.bind_some, if_neg (by omega), w64 (by omega) (by omega), if_neg (by omega), Option.bind_some, if_neg (by omega), t0 (K + 3) (by omega), Option.bind_some, t1 (K + 3) (by omega), Option.bind_some, (hr (K + 3) (by omega)).1, Option.bind_some, Option.bind_some, Option.bind_some, (hr (K + 3) (by omega)).2, Option.bind_some, e0 (K + 3) (by omega), Option.bind_some, if_pos rfl, e1 (K + 3) (by omega), Option.bind_some]
      exact j0
    · refine ⟨0, ?_⟩
      have := hm0.1
      unfold laws_FnExactRunMoves.f laws_szCraneS.f laws_szMoveS.f
      rw [w64 (x := 1048576 - (l.length : Int)) (by omega) (by omega), if_neg (by omega), Option.bind_some, if_neg (by omega), w64 (by omega) (by omega), if_pos (by omega), Option.bind_some, if_pos (by omega)]
  · refine ⟨0, ?_⟩
    have := hl0.1
    unfold laws_FnExactRunMoves.f laws_szCraneS.f
    rw [w64 (x := 1048576 - (l.length : Int)) (by omega) (by omega), if_pos (by omega), Option.bind_some, if_pos (by omega)]

end Go.Proofs.Ytbaiiaabanhilaa.Pure
