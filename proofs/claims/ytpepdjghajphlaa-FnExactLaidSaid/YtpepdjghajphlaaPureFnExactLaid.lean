/- The program's Laid returns what the reference's returns, for all arguments, and changes none. -/
import Derived.Test.YtpepdjghajphlaaPFnExactLaidx11
import Derived.Test.YtpepdjghajphlaaVLaidKit
set_option linter.unusedVariables false
set_option linter.unusedSimpArgs false
namespace Go.Proofs.Ytpepdjghajphlaa.Pure
open Go.RowKit Go.Proofs.Ytpepdjghajphlaa.PFnExactLaid Go.Proofs.YtpepdjghajphlaaW.PrintWords Go.Proofs.YtpepdjghajphlaaW.PrintLast Go.Proofs.YtpepdjghajphlaaW.PrintMore Go.Proofs.YtpepdjghajphlaaW.Kit

theorem rd67_lt {l : List S67} {i : Int} (h0 : 0 ≤ i) (h1 : i < l.length) : ∃ h : i.toNat < l.length, rd_T67 l i = l[i.toNat]'h := by
  have h : i.toNat < l.length := by omega
  exact ⟨h, by simp [rd_T67, List.getD_eq_getElem?_getD, List.getElem?_eq_getElem h]⟩
theorem rd67_mem {l : List S67} {i : Int} (h0 : 0 ≤ i) (h1 : i < l.length) : rd_T67 l i ∈ l := by
  obtain ⟨h, e⟩ := rd67_lt h0 h1
  rw [e]; exact List.getElem_mem h
theorem rd67_drop {l : List S67} {i : Int} (h0 : 0 ≤ i) (h1 : i < l.length) : l.drop i.toNat = rd_T67 l i :: l.drop (i + 1).toNat := by
  obtain ⟨h, e⟩ := rd67_lt h0 h1
  rw [e, show (i + 1).toNat = i.toNat + 1 by omega, List.drop_eq_getElem_cons h]
theorem rd67_take {l : List S67} {i : Int} (h0 : 0 ≤ i) (h1 : i < l.length) : l.take (i + 1).toNat = l.take i.toNat ++ [rd_T67 l i] := by
  obtain ⟨h, e⟩ := rd67_lt h0 h1
  rw [e, show (i + 1).toNat = i.toNat + 1 by omega, List.take_succ_eq_append_getElem h]
theorem rd67_set_eq {l : List S67} {i : Int} {x : S67} (h0 : 0 ≤ i) (h1 : i < l.length) : rd_T67 (l.set i.toNat x) i = x := by
  simp [rd_T67, List.getD_eq_getElem?_getD, List.getElem?_set, show i.toNat < l.length by omega]
theorem rd67_set_ne {l : List S67} {i j : Int} {x : S67} (h0 : 0 ≤ i) (hj : 0 ≤ j) (h : i ≠ j) : rd_T67 (l.set i.toNat x) j = rd_T67 l j := by
  simp [rd_T67, List.getD_eq_getElem?_getD, List.getElem?_set, show ¬ i.toNat = j.toNat by omega]
theorem rd67_append_left {l m : List S67} {i : Int} (h0 : 0 ≤ i) (h1 : i < l.length) : rd_T67 (l ++ m) i = rd_T67 l i := by
  simp [rd_T67, List.getD_eq_getElem?_getD, List.getElem?_append_left (show i.toNat < l.length by omega)]
theorem rd67_last {l : List S67} {x : S67} : rd_T67 (l ++ [x]) (l.length : Int) = x := by
  simp [rd_T67, List.getD_eq_getElem?_getD]
theorem ext67 {l m : List S67} (h : l.length = m.length) (hr : ∀ i : Int, 0 ≤ i → i < l.length → rd_T67 l i = rd_T67 m i) : l = m := by
  apply List.ext_getElem h
  intro i h1 h2
  have := hr i (by omega) (by omega)
  simpa [rd_T67, List.getD_eq_getElem?_getD, List.getElem?_eq_getElem h1, List.getElem?_eq_getElem h2] using this
theorem rd42_lt {l : List S42} {i : Int} (h0 : 0 ≤ i) (h1 : i < l.length) : ∃ h : i.toNat < l.length, rd_T42 l i = l[i.toNat]'h := by
  have h : i.toNat < l.length := by omega
  exact ⟨h, by simp [rd_T42, List.getD_eq_getElem?_getD, List.getElem?_eq_getElem h]⟩
theorem rd42_mem {l : List S42} {i : Int} (h0 : 0 ≤ i) (h1 : i < l.length) : rd_T42 l i ∈ l := by
  obtain ⟨h, e⟩ := rd42_lt h0 h1
  rw [e]; exact List.getElem_mem h
theorem rd42_drop {l : List S42} {i : Int} (h0 : 0 ≤ i) (h1 : i < l.length) : l.drop i.toNat = rd_T42 l i :: l.drop (i + 1).toNat := by
  obtain ⟨h, e⟩ := rd42_lt h0 h1
  rw [e, show (i + 1).toNat = i.toNat + 1 by omega, List.drop_eq_getElem_cons h]
theorem rd42_take {l : List S42} {i : Int} (h0 : 0 ≤ i) (h1 : i < l.length) : l.take (i + 1).toNat = l.take i.toNat ++ [rd_T42 l i] := by
  obtain ⟨h, e⟩ := rd42_lt h0 h1
  rw [e, show (i + 1).toNat = i.toNat + 1 by omega, List.take_succ_eq_append_getElem h]
theorem rd42_set_eq {l : List S42} {i : Int} {x : S42} (h0 : 0 ≤ i) (h1 : i < l.length) : rd_T42 (l.set i.toNat x) i = x := by
  simp [rd_T42, List.getD_eq_getElem?_getD, List.getElem?_set, show i.toNat < l.length by omega]
theorem rd42_set_ne {l : List S42} {i j : Int} {x : S42} (h0 : 0 ≤ i) (hj : 0 ≤ j) (h : i ≠ j) : rd_T42 (l.set i.toNat x) j = rd_T42 l j := by
  simp [rd_T42, List.getD_eq_getElem?_getD, List.getElem?_set, show ¬ i.toNat = j.toNat by omega]
theorem rd42_append_left {l m : List S42} {i : Int} (h0 : 0 ≤ i) (h1 : i < l.length) : rd_T42 (l ++ m) i = rd_T42 l i := by
  simp [rd_T42, List.getD_eq_getElem?_getD, List.getElem?_append_left (show i.toNat < l.length by omega)]
theorem rd42_last {l : List S42} {x : S42} : rd_T42 (l ++ [x]) (l.length : Int) = x := by
  simp [rd_T42, List.getD_eq_getElem?_getD]
theorem ext42 {l m : List S42} (h : l.length = m.length) (hr : ∀ i : Int, 0 ≤ i → i < l.length → rd_T42 l i = rd_T42 m i) : l = m := by
  apply List.ext_getElem h
  intro i h1 h2
  have := hr i (by omega) (by omega)
  simpa [rd_T42, List.getD_eq_getElem?_getD, List.getElem?_eq_getElem h1, List.getElem?_eq_getElem h2] using this
/-- What the law's list is as the program's. -/
def toSpell (l : List S67) : List S42 := l.map fun x => ⟨x.f0, x.f1⟩
theorem toSpell_loop (l : List S67) (hn : l.length ≤ 1048576) (d : Nat) : ∀ (k : Nat) (o : List S42) (i : Int), 0 ≤ i → i ≤ l.length → (l.length : Int) - i = d → d < k → o.length = l.length → o.take i.toNat = (toSpell l).take i.toNat → laws_toSpellS.l0 k l o i = some (toSpell l) := by
  induction d with
  | zero =>
    intro k o i h0 h1 hd hk ho ht
    obtain ⟨k, rfl⟩ := pos_round (show 0 < k by omega)
    simp only [laws_toSpellS.l0]
    rw [if_neg (by omega)]
    rw [List.take_of_length_le (by omega), List.take_of_length_le (by simp [toSpell]; omega)] at ht
    rw [ht]
  | succ d ih =>
    intro k o i h0 h1 hd hk ho ht
    obtain ⟨k, rfl⟩ := pos_round (show 0 < k by omega)
    obtain ⟨hl, e⟩ := rd67_lt h0 (show i < (l.length : Int) by omega)
    simp only [laws_toSpellS.l0]
    rw [if_pos (by omega), if_pos h0]
    simp only [laws_toSpell.f, Option.bind_some]
    rw [if_pos (by omega), w64 (x := i + 1) (by omega) (by omega)]
    refine ih k _ (i + 1) (by omega) (by omega) (by omega) (by omega) (by simpa using ho) ?_
    rw [show (i + 1).toNat = i.toNat + 1 by omega, List.take_succ_eq_append_getElem (by simp; omega), List.take_succ_eq_append_getElem (by simp [toSpell]; omega), List.take_set_of_le (Nat.le_refl _), ht]
    simp [toSpell, e]
theorem toSpell_ok (l : List S67) (hn : l.length ≤ 1048576) (k : Nat) (hk : l.length < k) : laws_toSpellS.f k l = some (toSpell l) := by
  unfold laws_toSpellS.f
  rw [if_pos (by omega), if_pos (by omega)]
  exact toSpell_loop l hn l.length k _ 0 (by omega) (by omega) (by omega) hk (by simp) (by simp)
theorem toSpell_length (l : List S67) : (toSpell l).length = l.length := by simp [toSpell]
theorem eqSpell_loop (l : List S42) (hn : l.length ≤ 1000000000) (d : Nat) : ∀ (k : Nat) (i : Int), 0 ≤ i → i ≤ l.length → (l.length : Int) - i = d → d < k → laws_eqSpellS.l0 k l l i = some true := by
  induction d with
  | zero =>
    intro k i h0 h1 hd hk
    obtain ⟨k, rfl⟩ := pos_round (show 0 < k by omega)
    simp only [laws_eqSpellS.l0]
    rw [if_neg (by omega)]
  | succ d ih =>
    intro k i h0 h1 hd hk
    obtain ⟨k, rfl⟩ := pos_round (show 0 < k by omega)
    simp only [laws_eqSpellS.l0]
    rw [if_pos (by omega), if_pos h0, if_pos (by omega), w64 (x := i + 1) (by omega) (by omega)]
    simp only [laws_eqSpell.f, if_true, Option.bind_some]
    exact ih k (i + 1) (by omega) (by omega) (by omega) (by omega)
theorem eqSpell_ok (l : List S42) (hn : l.length ≤ 1000000000) (k : Nat) (hk : l.length < k) : laws_eqSpellS.f k l l = some true := by
  unfold laws_eqSpellS.f
  rw [if_pos rfl]
  exact eqSpell_loop l hn l.length k 0 (by omega) (by omega) (by omega) hk
/-! ### the looks at the arguments -/
theorem in_eqC (a b c : Int) : impl_in.f a b c = some (decide (b ≤ a ∧ a ≤ c)) := in_some a b c
theorem in_eqC' (a b c : Int) : spec_l1In.f a b c = some (decide (b ≤ a ∧ a ≤ c)) := in_some a b c
theorem minute_eq (a : Int) : impl_minuteOk.f a = some (decide (0 ≤ a ∧ a ≤ 100000000)) := by
  unfold impl_minuteOk.f; rw [in_eqC, Option.bind_some]
theorem minute_eq' (a : Int) : spec_l1Minute.f a = some (decide (0 ≤ a ∧ a ≤ 100000000)) := by
  unfold spec_l1Minute.f; rw [in_eqC', Option.bind_some]
theorem charter_same (a b c d : Int) : ∃ y : Bool, (y = true → 0 ≤ b ∧ b ≤ 100000) ∧ impl_CharterOk.f a b c d = some y ∧ spec_CharterOk.f a b c d = some y := by
  unfold impl_CharterOk.f spec_CharterOk.f
  simp only [in_eqC, in_eqC', Option.bind_some]
  by_cases h1 : 0 ≤ a ∧ a ≤ 100000
  · by_cases h2 : 0 ≤ b ∧ b ≤ 100000
    · by_cases h3 : 0 ≤ c ∧ c ≤ 1000000000
      · exact ⟨decide (0 ≤ d ∧ d ≤ 1000000000), fun _ => h2, by simp only [decide_eq_true h1, decide_eq_true h2, decide_eq_true h3, if_true], by simp only [decide_eq_true h1, decide_eq_true h2, decide_eq_true h3, if_true]⟩
      · exact ⟨false, by simp, by simp only [decide_eq_true h1, decide_eq_true h2, decide_eq_false h3, if_true, if_false, Bool.false_eq_true], by simp only [decide_eq_true h1, decide_eq_true h2, decide_eq_false h3, if_true, if_false, Bool.false_eq_true]⟩
    · exact ⟨false, by simp, by simp only [decide_eq_true h1, decide_eq_false h2, if_true, if_false, Bool.false_eq_true], by simp only [decide_eq_true h1, decide_eq_false h2, if_true, if_false, Bool.false_eq_true]⟩
  · exact ⟨false, by simp, by simp only [decide_eq_false h1, if_false, Bool.false_eq_true], by simp only [decide_eq_false h1, if_false, Bool.false_eq_true]⟩
/-- What a spell must be. -/
def Good (l : List S42) (j : Int) : Prop := 0 ≤ (rd_T42 l j).f0 ∧ (rd_T42 l j).f0 < (rd_T42 l j).f1 ∧ (rd_T42 l j).f1 ≤ 100000000 ∧ (0 < j → (rd_T42 l (j - 1)).f1 ≤ (rd_T42 l j).f0)
theorem spells_loops (l : List S42) (hn : l.length ≤ 1048576) (d : Nat) : ∀ (i : Int), 0 ≤ i → i ≤ l.length → (l.length : Int) - i = d →
    ∃ r : Bool, (r = true → ∀ j : Int, i ≤ j → j < l.length → Good l j) ∧ ∀ k, d < k → impl_SpellsOk.l0 k l l (l.length : Int) i = some r ∧ spec_SpellsOk.l0 k l i = some (r && decide ((l.length : Int) ≤ 100)) := by
  induction d with
  | zero =>
    intro i h0 h1 hd
    refine ⟨true, fun _ j h2 h3 => by omega, fun k hk => ?_⟩
    obtain ⟨k, rfl⟩ := pos_round (show 0 < k by omega)
    simp only [impl_SpellsOk.l0, spec_SpellsOk.l0]
    rw [if_neg (by omega), if_neg (by omega)]
    exact ⟨rfl, by simp⟩
  | succ d ih =>
    intro i h0 h1 hd
    have hlt : i < (l.length : Int) := by omega
    have no : ∀ (k : Nat), (impl_SpellsOk.l0 (k + 1) l l (l.length : Int) i = some false ∧ spec_SpellsOk.l0 (k + 1) l i = some false) → impl_SpellsOk.l0 (k + 1) l l (l.length : Int) i = some false ∧ spec_SpellsOk.l0 (k + 1) l i = some (false && decide ((l.length : Int) ≤ 100)) := fun k h => by simpa using h
    by_cases c1 : 0 ≤ (rd_T42 l i).f0 ∧ (rd_T42 l i).f0 ≤ 100000000
    · by_cases c2 : 0 ≤ (rd_T42 l i).f1 ∧ (rd_T42 l i).f1 ≤ 100000000
      · by_cases c3 : (rd_T42 l i).f0 ≥ (rd_T42 l i).f1
        · refine ⟨false, by simp, fun k hk => ?_⟩
          obtain ⟨k, rfl⟩ := pos_round (show 0 < k by omega)
          apply no
          simp only [impl_SpellsOk.l0, spec_SpellsOk.l0]
          constructor
          · rw [if_pos hlt, if_pos h0, if_pos hlt, minute_eq, decide_eq_true c1, Option.bind_some, if_pos rfl, minute_eq, decide_eq_true c2, Option.bind_some, if_pos rfl, if_pos c3]
          · rw [if_pos hlt, if_pos h0, minute_eq', decide_eq_true c1, Option.bind_some, if_pos rfl, minute_eq', decide_eq_true c2, Option.bind_some, if_pos rfl, if_pos c3]
        · obtain ⟨r, hr, hk⟩ := ih (i + 1) (by omega) (by omega) (by omega)
          by_cases c4 : i > 0
          · by_cases c5 : (rd_T42 l i).f0 < (rd_T42 l (i - 1)).f1
            · refine ⟨false, by simp, fun k hk => ?_⟩
              obtain ⟨k, rfl⟩ := pos_round (show 0 < k by omega)
              apply no
              simp only [impl_SpellsOk.l0, spec_SpellsOk.l0]
              constructor
              · rw [if_pos hlt, if_pos h0, if_pos hlt, minute_eq, decide_eq_true c1, Option.bind_some, if_pos rfl, minute_eq, decide_eq_true c2, Option.bind_some, if_pos rfl, if_neg c3, if_pos c4, w64 (x := i - 1) (by omega) (by omega), if_pos (by omega), if_pos (by omega), if_pos c5]
              · rw [if_pos hlt, if_pos h0, minute_eq', decide_eq_true c1, Option.bind_some, if_pos rfl, minute_eq', decide_eq_true c2, Option.bind_some, if_pos rfl, if_neg c3, if_pos c4, w64 (x := i - 1) (by omega) (by omega), if_pos (by omega), if_pos (by omega), if_pos c5]
            · refine ⟨r, fun hy j h2 h3 => ?_, fun k hk' => ?_⟩
              · by_cases e : j = i
                · subst e; exact ⟨c1.1, by omega, c2.2, fun _ => by omega⟩
                · exact hr hy j (by omega) h3
              · obtain ⟨k, rfl⟩ := pos_round (show 0 < k by omega)
                obtain ⟨ha, hb⟩ := hk k (by omega)
                simp only [impl_SpellsOk.l0, spec_SpellsOk.l0]
                constructor
                · rw [if_pos hlt, if_pos h0, if_pos hlt, minute_eq, decide_eq_true c1, Option.bind_some, if_pos rfl, minute_eq, decide_eq_true c2, Option.bind_some, if_pos rfl, if_neg c3, if_pos c4, w64 (x := i - 1) (by omega) (by omega), if_pos (by omega), if_pos (by omega), if_neg c5, w64 (x := i + 1) (by omega) (by omega)]
                  exact ha
                · rw [if_pos hlt, if_pos h0, minute_eq', decide_eq_true c1, Option.bind_some, if_pos rfl, minute_eq', decide_eq_true c2, Option.bind_some, if_pos rfl, if_neg c3, if_pos c4, w64 (x := i - 1) (by omega) (by omega), if_pos (by omega), if_pos (by omega), if_neg c5, w64 (x := i + 1) (by omega) (by omega)]
                  exact hb
          · refine ⟨r, fun hy j h2 h3 => ?_, fun k hk' => ?_⟩
            · by_cases e : j = i
              · subst e; exact ⟨c1.1, by omega, c2.2, fun _ => by omega⟩
              · exact hr hy j (by omega) h3
            · obtain ⟨k, rfl⟩ := pos_round (show 0 < k by omega)
              obtain ⟨ha, hb⟩ := hk k (by omega)
              simp only [impl_SpellsOk.l0, spec_SpellsOk.l0]
              constructor
              · rw [if_pos hlt, if_pos h0, if_pos hlt, minute_eq, decide_eq_true c1, Option.bind_some, if_pos rfl, minute_eq, decide_eq_true c2, Option.bind_some, if_pos rfl, if_neg c3, if_neg c4, w64 (x := i + 1) (by omega) (by omega)]
                exact ha
              · rw [if_pos hlt, if_pos h0, minute_eq', decide_eq_true c1, Option.bind_some, if_pos rfl, minute_eq', decide_eq_true c2, Option.bind_some, if_pos rfl, if_neg c3, if_neg c4, w64 (x := i + 1) (by omega) (by omega)]
                exact hb
      · refine ⟨false, by simp, fun k hk => ?_⟩
        obtain ⟨k, rfl⟩ := pos_round (show 0 < k by omega)
        apply no
        simp only [impl_SpellsOk.l0, spec_SpellsOk.l0]
        constructor
        · rw [if_pos hlt, if_pos h0, if_pos hlt, minute_eq, decide_eq_true c1, Option.bind_some, if_pos rfl, minute_eq, decide_eq_false c2, Option.bind_some, if_neg (by simp)]
        · rw [if_pos hlt, if_pos h0, minute_eq', decide_eq_true c1, Option.bind_some, if_pos rfl, minute_eq', decide_eq_false c2, Option.bind_some, if_neg (by simp)]
    · refine ⟨false, by simp, fun k hk => ?_⟩
      obtain ⟨k, rfl⟩ := pos_round (show 0 < k by omega)
      apply no
      simp only [impl_SpellsOk.l0, spec_SpellsOk.l0]
      constructor
      · rw [if_pos hlt, if_pos h0, if_pos hlt, minute_eq, decide_eq_false c1, Option.bind_some, if_neg (by simp)]
      · rw [if_pos hlt, if_pos h0, minute_eq', decide_eq_false c1, Option.bind_some, if_neg (by simp)]
theorem spells_same (l : List S42) (hn : l.length ≤ 1048576) : ∃ b : Bool, (b = true → l.length ≤ 100 ∧ ∀ j : Int, 0 ≤ j → j < l.length → Good l j) ∧ ∀ k, l.length < k → spec_SpellsOk.f k l = some b ∧ impl_SpellsOk.f k l = some b := by
  obtain ⟨r, hr, hk⟩ := spells_loops l hn l.length 0 (by omega) (by omega) (by omega)
  refine ⟨r && decide ((l.length : Int) ≤ 100), fun h => ?_, fun k hk' => ⟨(hk k hk').2, ?_⟩⟩
  · simp only [Bool.and_eq_true, decide_eq_true_eq] at h
    exact ⟨by omega, hr h.1⟩
  · unfold impl_SpellsOk.f
    by_cases c : (l.length : Int) > 100
    · rw [if_pos c, decide_eq_false (by omega), Bool.and_false]
    · rw [if_neg c, (hk k hk').1, decide_eq_true (by omega), Bool.and_true]
theorem own_sameC (l : List S42) (h : l.length ≤ 1048576) : impl_Spell.f l = some l := by
  unfold impl_Spell.f
  rw [if_pos (by omega), if_pos (by omega), Option.bind_some, if_pos (by simp; omega)]; rfl
/-! ### the work in a time -/
/-- What a spell takes of the time from b to e. -/
def ov (b e : Int) (x : S42) : Int := if (if x.f0 < b then b else x.f0) < (if x.f1 > e then e else x.f1) then (if x.f1 > e then e else x.f1) - (if x.f0 < b then b else x.f0) else 0
def ovs (b e : Int) : List S42 → Int
  | [] => 0
  | x :: l => ov b e x + ovs b e l
theorem ov_range {b e : Int} (h : b ≤ e) (x : S42) : 0 ≤ ov b e x ∧ ov b e x ≤ e - b := by
  unfold ov
  split <;> (try split) <;> (try split) <;> omega
theorem ovs_range {b e : Int} (h : b ≤ e) (l : List S42) : 0 ≤ ovs b e l ∧ ovs b e l ≤ (e - b) * l.length := by
  induction l with
  | nil => simp [ovs]
  | cons x l ih =>
    obtain ⟨h1, h2⟩ := ov_range h x
    simp only [ovs, List.length_cons]
    have : (e - b) * ((l.length + 1 : Nat) : Int) = (e - b) * (l.length : Int) + (e - b) := by rw [Int.natCast_succ, Int.mul_add, Int.mul_one]
    omega
theorem ovs_small {b e : Int} (h : b ≤ e) (h0 : 0 ≤ b) (h1 : e ≤ 100000000) (l : List S42) (hl : l.length ≤ 100) : 0 ≤ ovs b e l ∧ ovs b e l ≤ 10000000000 := by
  obtain ⟨h2, h3⟩ := ovs_range h l
  have : (e - b) * (l.length : Int) ≤ 100000000 * 100 := mul_le2 (by omega) (by omega) (by omega) (by omega)
  omega
theorem work_loop (l : List S42) (hl : l.length ≤ 100) (b e : Int) (h : b ≤ e) (hb0 : 0 ≤ b) (he1 : e ≤ 100000000) (hg : ∀ j : Int, 0 ≤ j → j < l.length → Good l j) (d : Nat) : ∀ (i a : Int), 0 ≤ i → i ≤ l.length → (l.length : Int) - i = d → 0 ≤ a → a ≤ 100000000 * i → ∀ k, 2 * d < k → spec_l10Work.l0 k l b e a i = some (a + ovs b e (l.drop i.toNat)) := by
  induction d with
  | zero =>
    intro i a h0 h1 hd ha0 ha1 k hk
    obtain ⟨k, rfl⟩ := pos_round (show 0 < k by omega)
    simp only [spec_l10Work.l0]
    rw [if_neg (by omega), List.drop_eq_nil_of_le (by omega)]
    simp [ovs]
  | succ d ih =>
    intro i a h0 h1 hd ha0 ha1 k hk
    obtain ⟨k, rfl⟩ : ∃ j, k = j + 2 := ⟨k - 2, by omega⟩
    have hlt : i < (l.length : Int) := by omega
    obtain ⟨g1, g2, g3, g4⟩ := hg i h0 hlt
    obtain ⟨o1, o2⟩ := ov_range h (rd_T42 l i)
    have key : spec_l10Work.l0 (k + 2) l b e a i = spec_l10Work.l0 k l b e (a + ov b e (rd_T42 l i)) (i + 1) := by
      have hj : ∀ p : Int, 0 ≤ p → p ≤ 100000000 → spec_l10Work.j1 (k + 1) l b e a i p (rd_T42 l i).f1 = spec_l10Work.l0 k l b e (a + (if p < (if (rd_T42 l i).f1 > e then e else (rd_T42 l i).f1) then (if (rd_T42 l i).f1 > e then e else (rd_T42 l i).f1) - p else 0)) (i + 1) := by
        intro p p0 p1
        simp only [spec_l10Work.j1]
        rw [w64 (x := i + 1) (by omega) (by omega)]
        by_cases c1 : (rd_T42 l i).f1 > e
        · rw [if_pos c1, if_pos c1]
          by_cases c2 : p < e
          · rw [if_pos c2, if_pos c2, w64 (x := a + e) (by omega) (by omega), w64 (x := a + e - p) (by omega) (by omega), show a + e - p = a + (e - p) by omega]
          · rw [if_neg c2, if_neg c2, Int.add_zero]
        · rw [if_neg c1, if_neg c1]
          by_cases c2 : p < (rd_T42 l i).f1
          · rw [if_pos c2, if_pos c2, w64 (x := a + _) (by omega) (by omega), w64 (x := a + _ - p) (by omega) (by omega), show a + (rd_T42 l i).f1 - p = a + ((rd_T42 l i).f1 - p) by omega]
          · rw [if_neg c2, if_neg c2, Int.add_zero]
      simp only [spec_l10Work.l0]
      rw [if_pos hlt, if_pos h0]
      unfold ov
      by_cases c : (rd_T42 l i).f0 < b
      · rw [if_pos c, if_pos c]; exact hj b hb0 (by omega)
      · rw [if_neg c, if_neg c]; exact hj _ g1 (by omega)
    rw [key, ih (i + 1) _ (by omega) (by omega) (by omega) (by omega) (by omega) k (by omega), rd42_drop h0 hlt]
    simp only [ovs]
    congr 1; omega
theorem work_ok (l : List S42) (hl : l.length ≤ 100) (b e : Int) (h : b ≤ e) (hb0 : 0 ≤ b) (he1 : e ≤ 100000000) (hg : ∀ j : Int, 0 ≤ j → j < l.length → Good l j) (k : Nat) (hk : 200 < k) : spec_l10Work.f k l b e = some (ovs b e l) := by
  unfold spec_l10Work.f
  rw [work_loop l hl b e h hb0 he1 hg l.length 0 0 (by omega) (by omega) (by omega) (by omega) (by omega) k (by omega)]
  simp
/-- Sorted: what begins later begins behind all that ends earlier. -/
theorem good_sorted {l : List S42} (hg : ∀ j : Int, 0 ≤ j → j < l.length → Good l j) (i : Int) (h0 : 0 ≤ i) (d : Nat) : i + d + 1 < l.length → (rd_T42 l i).f1 ≤ (rd_T42 l (i + d + 1)).f0 := by
  induction d with
  | zero =>
    intro h
    obtain ⟨_, _, _, g⟩ := hg (i + ((0 : Nat) : Int) + 1) (by omega) h
    have := g (by omega)
    rw [show i + ((0 : Nat) : Int) + 1 - 1 = i by omega] at this
    exact this
  | succ d ih =>
    intro h
    obtain ⟨_, _, _, g⟩ := hg (i + ((d + 1 : Nat) : Int) + 1) (by omega) h
    have h2 := g (by omega)
    rw [show i + ((d + 1 : Nat) : Int) + 1 - 1 = i + d + 1 by omega] at h2
    obtain ⟨_, g2, _, _⟩ := hg (i + d + 1) (by omega) (by omega)
    have := ih (by omega)
    omega
theorem good_sorted' {l : List S42} (hg : ∀ j : Int, 0 ≤ j → j < l.length → Good l j) {i j : Int} (h0 : 0 ≤ i) (hij : i < j) (hj : j < l.length) : (rd_T42 l i).f1 ≤ (rd_T42 l j).f0 := by
  have := good_sorted hg i h0 (j - i - 1).toNat (by omega)
  rwa [show i + ((j - i - 1).toNat : Int) + 1 = j by omega] at this
/-- What begins at the end or later takes nothing. -/
theorem ovs_past (l : List S42) (b e : Int) (d : Nat) : ∀ (i : Int), 0 ≤ i → i ≤ l.length → (l.length : Int) - i = d → (∀ j : Int, i ≤ j → j < l.length → e ≤ b ∨ e ≤ (rd_T42 l j).f0) → ovs b e (l.drop i.toNat) = 0 := by
  induction d with
  | zero =>
    intro i h0 h1 hd _
    rw [List.drop_eq_nil_of_le (by omega)]; rfl
  | succ d ih =>
    intro i h0 h1 hd hp
    have hlt : i < (l.length : Int) := by omega
    rw [rd42_drop h0 hlt]
    simp only [ovs]
    rw [ih (i + 1) (by omega) (by omega) (by omega) (fun j h2 h3 => hp j (by omega) h3)]
    have := hp i (by omega) hlt
    unfold ov
    split <;> (try split) <;> (try split) <;> omega
/-! ### the walk of both -/
section
variable (c0 A c2 c3 b e : Int) (l : List S42)
/-- How the reference ends. -/
theorem spec_end (hl : l.length ≤ 100) (h : b ≤ e) (hb0 : 0 ≤ b) (he1 : e ≤ 100000000) (hg : ∀ j : Int, 0 ≤ j → j < l.length → Good l j) (m left i : Int) (hm : 0 ≤ m) (hm1 : m ≤ 100000000) (hleft : 0 ≤ left) (hleft1 : left ≤ 100000) (k : Nat) (hk : 200 < k) (x : Option (Int × Int × Int × Bool)) :
    (if (wrap64 (m + left)) ≥ e then ((spec_l10Work.f k l b e).bind fun t152 => (some (wrap64 ((wrap64 (e - b)) - t152), (0 : Int), (-1 : Int), true))) else (some (A, wrap64 (e - (wrap64 (m + left))), wrap64 (m + left), true)))
      = if m + left ≥ e then some (e - b - ovs b e l, 0, -1, true) else some (A, e - (m + left), m + left, true) := by
  obtain ⟨o1, o2⟩ := ovs_small h hb0 he1 l hl
  rw [w64 (x := m + left) (by omega) (by omega)]
  by_cases c : m + left ≥ e
  · rw [if_pos c, if_pos c, work_ok l hl b e h hb0 he1 hg k hk, Option.bind_some, w64 (x := e - b) (by omega) (by omega), w64 (by omega) (by omega)]
  · rw [if_neg c, if_neg c, w64 (by omega) (by omega)]
/-- Past the end the reference goes on, and says the same. -/
theorem spec_past (hl : l.length ≤ 100) (h : b ≤ e) (hb0 : 0 ≤ b) (he1 : e ≤ 100000000) (hg : ∀ j : Int, 0 ≤ j → j < l.length → Good l j) (d : Nat) : ∀ (m left i : Int), 0 ≤ i → i ≤ l.length → (l.length : Int) - i = d → e ≤ m → m ≤ 100000000 → 0 ≤ left → left ≤ 100000 →
    ∀ k, 200 + 2 + 2 * d < k → spec_Counted.l0 k b e l m left i c0 A c2 c3 = some (e - b - ovs b e l, 0, -1, true) := by
  induction d with
  | zero =>
    intro m left i h0 h1 hd hm hm1 hl0 hl1 k hk
    obtain ⟨k, rfl⟩ : ∃ j, k = j + 2 := ⟨k - 2, by omega⟩
    simp only [spec_Counted.l0, spec_Counted.j2]
    rw [if_neg (by omega), if_neg (by simp), spec_end A b e l hl h hb0 he1 hg m left i (by omega) hm1 hl0 hl1 k (by omega) none, if_pos (by omega)]
  | succ d ih =>
    intro m left i h0 h1 hd hm hm1 hl0 hl1 k hk
    obtain ⟨k, rfl⟩ : ∃ j, k = j + 2 := ⟨k - 2, by omega⟩
    have hlt : i < (l.length : Int) := by omega
    obtain ⟨g1, g2, g3, g4⟩ := hg i h0 hlt
    simp only [spec_Counted.l0, spec_Counted.j2]
    rw [if_pos hlt]
    by_cases c1 : left > 0
    · rw [if_pos (decide_eq_true c1), if_pos h0, if_pos hlt, w64 (x := i + 1) (by omega) (by omega)]
      by_cases c2' : (rd_T42 l i).f1 ≤ m
      · rw [if_pos c2']
        exact ih m left (i + 1) (by omega) (by omega) (by omega) hm hm1 hl0 hl1 k (by omega)
      · rw [if_neg c2', w64 (x := (rd_T42 l i).f0 - m) (by omega) (by omega)]
        by_cases c3' : (rd_T42 l i).f0 - m ≥ left
        · rw [if_pos c3', spec_end A b e l hl h hb0 he1 hg m left i (by omega) hm1 hl0 hl1 k (by omega) none, if_pos (by omega)]
        · rw [if_neg c3']
          by_cases c4 : (rd_T42 l i).f0 > m
          · rw [if_pos c4, w64 (x := left - _) (by omega) (by omega)]
            exact ih _ _ (i + 1) (by omega) (by omega) (by omega) (by omega) (by omega) (by omega) (by omega) k (by omega)
          · rw [if_neg c4]
            exact ih _ _ (i + 1) (by omega) (by omega) (by omega) (by omega) (by omega) (by omega) (by omega) k (by omega)
    · rw [if_neg (by simpa using c1), spec_end A b e l hl h hb0 he1 hg m left i (by omega) hm1 hl0 hl1 k (by omega) none, if_pos (by omega)]
/-- How the program ends, where nothing is left or the end is reached. -/
theorem impl_stop (m used i : Int) (h0 : 0 ≤ i) (h1 : i ≤ l.length) (hl : l.length ≤ 100) (hm : 0 ≤ m) (hm1 : m ≤ 100000000) (he0 : 0 ≤ e) (he1 : e ≤ 100000000) (hst : used = A ∨ m ≥ e) (k : Nat) :
    impl_Counted.l0 (k + 2) e m (l ++ [(⟨e, e + 1⟩ : S42)]) (((l ++ [(⟨e, e + 1⟩ : S42)]).length : Nat) : Int) i c0 A c2 c3 used 0 (-1) = some (if used = A ∧ m < e then (used, e - m, m, true) else (used, 0, -1, true)) := by
  have hx : (((l ++ [(⟨e, e + 1⟩ : S42)]).length : Nat) : Int) = (l.length : Int) + 1 := by simp
  have hw : wrap64 (e - m) = e - m := w64 (by omega) (by omega)
  simp only [impl_Counted.l0, impl_Counted.j2]
  rw [if_pos (by omega), if_pos h0, if_pos (by omega), hw]
  by_cases c1 : used = A
  · rw [if_pos c1, if_pos trivial, if_pos c1]
    by_cases c2' : m < e
    · rw [if_pos c2', if_pos ⟨c1, c2'⟩]
    · rw [if_neg c2', if_neg (fun h => c2' h.2)]
  · rw [if_neg c1, if_pos (decide_eq_true (by omega)), if_neg c1, if_neg (fun h => c1 h.1)]
end
theorem rd42_sent {l : List S42} {x : S42} : rd_T42 (l ++ [x]) (l.length : Int) = x := by
  simp [rd_T42, List.getD_eq_getElem?_getD]
theorem counted_loops (c0 A c2 c3 b e : Int) (l : List S42) (hl : l.length ≤ 100) (h : b ≤ e) (hb0 : 0 ≤ b) (he1 : e ≤ 100000000) (hA0 : 0 ≤ A) (hA1 : A ≤ 100000) (hg : ∀ j : Int, 0 ≤ j → j < l.length → Good l j) (d : Nat) : ∀ (m used i : Int), 0 ≤ i → i ≤ l.length → (l.length : Int) - i = d → 0 ≤ used → used ≤ A → b ≤ m → m ≤ 100000000 → (m = b ∨ ∀ j : Int, i ≤ j → j < l.length → m ≤ (rd_T42 l j).f0) → used + ovs b e l - ovs b e (l.drop i.toNat) = (if m < e then m else e) - b →
    ∃ r, ∀ k, 210 + 2 * d < k → impl_Counted.l0 k e m (l ++ [(⟨e, e + 1⟩ : S42)]) (((l ++ [(⟨e, e + 1⟩ : S42)]).length : Nat) : Int) i c0 A c2 c3 used 0 (-1) = some r ∧ spec_Counted.l0 k b e l m (A - used) i c0 A c2 c3 = some r := by
  have hx : (((l ++ [(⟨e, e + 1⟩ : S42)]).length : Nat) : Int) = (l.length : Int) + 1 := by simp
  -- nothing of what follows is in time, where the end is reached
  have past : ∀ (m i : Int), 0 ≤ i → i ≤ l.length → m ≥ e → (m = b ∨ ∀ j : Int, i ≤ j → j < l.length → m ≤ (rd_T42 l j).f0) → ovs b e (l.drop i.toNat) = 0 := fun m i h0 h1 hm hj =>
    ovs_past l b e (l.length - i.toNat) i h0 h1 (by omega) (fun j h2 h3 => by
      rcases hj with hj | hj
      · exact .inl (by omega)
      · have := hj j h2 h3; exact .inr (by omega))
  -- where the end is reached, or nothing is left
  have stop : ∀ (m used i : Int), 0 ≤ i → i ≤ l.length → 0 ≤ used → used ≤ A → b ≤ m → m ≤ 100000000 → (m = b ∨ ∀ j : Int, i ≤ j → j < l.length → m ≤ (rd_T42 l j).f0) → used + ovs b e l - ovs b e (l.drop i.toNat) = (if m < e then m else e) - b → (used = A ∨ m ≥ e) →
      ∃ r, ∀ k, 210 + 2 * (l.length - i.toNat) < k → impl_Counted.l0 k e m (l ++ [(⟨e, e + 1⟩ : S42)]) (((l ++ [(⟨e, e + 1⟩ : S42)]).length : Nat) : Int) i c0 A c2 c3 used 0 (-1) = some r ∧ spec_Counted.l0 k b e l m (A - used) i c0 A c2 c3 = some r := by
    intro m used i h0 h1 hu0 hu1 hm0 hm1 hj hi hst
    refine ⟨_, fun k hk => ⟨by obtain ⟨k, rfl⟩ : ∃ j, k = j + 2 := ⟨k - 2, by omega⟩
                               exact impl_stop c0 A c2 c3 e l m used i h0 h1 hl (by omega) hm1 (by omega) he1 hst k, ?_⟩⟩
    by_cases hme : m ≥ e
    · rw [spec_past c0 A c2 c3 b e l hl h hb0 he1 hg (l.length - i.toNat) m (A - used) i h0 h1 (by omega) hme hm1 (by omega) (by omega) k (by omega), if_neg (fun hh => by omega)]
      have := past m i h0 h1 hme hj
      rw [this, if_neg (by omega)] at hi
      rw [show e - b - ovs b e l = used by omega]
    · have hu : used = A := by omega
      obtain ⟨k, rfl⟩ : ∃ j, k = j + 2 := ⟨k - 2, by omega⟩
      rw [if_pos ⟨hu, by omega⟩]
      simp only [spec_Counted.l0, spec_Counted.j2]
      rw [decide_eq_false (show ¬ A - used > 0 by omega)]
      have := spec_end A b e l hl h hb0 he1 hg m (A - used) i (by omega) hm1 (by omega) (by omega) k (by omega) none
      rw [if_neg (show ¬ m + (A - used) ≥ e by omega)] at this
      simp only [Bool.false_eq_true, if_false, ite_self]
      rw [this, show m + (A - used) = m by omega, hu]
  induction d with
  | zero =>
    intro m used i h0 h1 hd hu0 hu1 hm0 hm1 hj hi
    by_cases hst : used = A ∨ m ≥ e
    · obtain ⟨r, hr⟩ := stop m used i h0 h1 hu0 hu1 hm0 hm1 hj hi hst
      exact ⟨r, fun k hk => hr k (by omega)⟩
    · have hil : i = (l.length : Int) := by omega
      rw [if_pos (by omega), List.drop_eq_nil_of_le (by omega)] at hi
      simp only [ovs] at hi
      have e1 : mn (mx 0 (wrap64 ((mn e e) - m))) (wrap64 (A - used)) = if e - m ≤ A - used then e - m else A - used := by
        rw [show mn e e = e by simp [mn], w64 (x := e - m) (by omega) (by omega), w64 (x := A - used) (by omega) (by omega), show mx 0 (e - m) = e - m by unfold mx; rw [if_pos (by omega)]]
        unfold mn
        by_cases c : e - m ≤ A - used
        · rw [if_pos c, if_neg (by omega)]
        · rw [if_neg c, if_pos (by omega)]
      by_cases c : e - m < A - used
      · -- the time ends first
        refine ⟨(e - b - ovs b e l, 0, -1, true), fun k hk => ?_⟩
        obtain ⟨k, rfl⟩ : ∃ j, k = j + 3 := ⟨k - 3, by omega⟩
        constructor
        · simp only [impl_Counted.l0, impl_Counted.j2]
          rw [if_pos (by omega), if_pos h0, if_pos (by omega), if_neg (by omega), if_neg (by simp; omega), hil, rd42_sent]
          dsimp only
          rw [if_neg (by omega), e1, if_pos (show e - m ≤ A - used by omega), w64 (x := used + (e - m)) (by omega) (by omega), if_pos (by omega), w64 (x := (l.length : Int) + 1) (by omega) (by omega), if_neg (by omega), if_neg (by omega), show e - b - ovs b e l = used + (e - m) by omega]
        · simp only [spec_Counted.l0, spec_Counted.j2]
          rw [if_neg (by omega), if_neg (by simp), spec_end A b e l hl h hb0 he1 hg m (A - used) i (by omega) hm1 (by omega) (by omega) (k + 1) (by omega) none, if_pos (by omega)]
      · -- what is left ends first
        refine ⟨if A - used + m < e then (A, e - (A - used + m), A - used + m, true) else (A, 0, -1, true), fun k hk => ?_⟩
        obtain ⟨k, rfl⟩ : ∃ j, k = j + 3 := ⟨k - 3, by omega⟩
        constructor
        · have e2 : (if e - m ≤ A - used then e - m else A - used) = A - used := by by_cases c' : e - m ≤ A - used
                                                                                    · rw [if_pos c']; omega
                                                                                    · rw [if_neg c']
          simp only [impl_Counted.l0, impl_Counted.j2]
          rw [if_pos (by omega), if_pos h0, if_pos (by omega), if_neg (by omega), if_neg (by simp; omega), hil, rd42_sent]
          dsimp only
          rw [if_neg (by omega), e1, e2, w64 (x := used + (A - used)) (by omega) (by omega), if_neg (by omega), w64 (x := (l.length : Int) + 1) (by omega) (by omega), w64 (x := m + (A - used)) (by omega) (by omega), if_neg (by omega), if_pos (by omega)]
          by_cases c4 : A - used + m < e
          · rw [if_pos (by omega), if_pos c4, w64 (by omega) (by omega), show used + (A - used) = A by omega, show m + (A - used) = A - used + m by omega]
          · rw [if_neg (by omega), if_neg c4, show used + (A - used) = A by omega]
        · simp only [spec_Counted.l0, spec_Counted.j2]
          rw [if_neg (by omega), if_neg (by simp), spec_end A b e l hl h hb0 he1 hg m (A - used) i (by omega) hm1 (by omega) (by omega) (k + 1) (by omega) none]
          by_cases c4 : A - used + m < e
          · rw [if_neg (by omega), if_pos c4, show m + (A - used) = A - used + m by omega]
          · rw [if_pos (by omega), if_neg c4, show e - b - ovs b e l = A by omega]
  | succ d ih =>
    intro m used i h0 h1 hd hu0 hu1 hm0 hm1 hj hi
    by_cases hst : used = A ∨ m ≥ e
    · obtain ⟨r, hr⟩ := stop m used i h0 h1 hu0 hu1 hm0 hm1 hj hi hst
      exact ⟨r, fun k hk => hr k (by omega)⟩
    · have hlt : i < (l.length : Int) := by omega
      obtain ⟨g1, g2, g3, g4⟩ := hg i h0 hlt
      have hsort : ∀ j : Int, i + 1 ≤ j → j < l.length → (rd_T42 l i).f1 ≤ (rd_T42 l j).f0 := fun j h2 h3 => good_sorted' hg h0 (by omega) h3
      have hrd : rd_T42 (l ++ [(⟨e, e + 1⟩ : S42)]) i = rd_T42 l i := rd42_append_left h0 hlt
      rw [if_pos (by omega), rd42_drop h0 hlt] at hi
      simp only [ovs] at hi
      have fm : m = b ∨ m ≤ (rd_T42 l i).f0 := by
        rcases hj with hj | hj
        · exact .inl hj
        · exact .inr (hj i (by omega) hlt)
      generalize hF : (rd_T42 l i).f0 = F at *
      generalize hT : (rd_T42 l i).f1 = T at *
      have hov : ov b e (rd_T42 l i) = if (if F < b then b else F) < (if T > e then e else T) then (if T > e then e else T) - (if F < b then b else F) else 0 := by unfold ov; rw [hF, hT]
      have impl1 : ∀ k, impl_Counted.l0 (k + 2) e m (l ++ [(⟨e, e + 1⟩ : S42)]) (((l ++ [(⟨e, e + 1⟩ : S42)]).length : Nat) : Int) i c0 A c2 c3 used 0 (-1) = (if T ≤ m then (impl_Counted.l0 k e m (l ++ [(⟨e, e + 1⟩ : S42)]) (((l ++ [(⟨e, e + 1⟩ : S42)]).length : Nat) : Int) (i + 1) c0 A c2 c3 used 0 (-1)) else (if (wrap64 (used + (mn (mx 0 (wrap64 ((mn F e) - m))) (wrap64 (A - used))))) < A then (impl_Counted.l0 k e (mx (wrap64 (m + (mn (mx 0 (wrap64 ((mn F e) - m))) (wrap64 (A - used))))) T) (l ++ [(⟨e, e + 1⟩ : S42)]) (((l ++ [(⟨e, e + 1⟩ : S42)]).length : Nat) : Int) (i + 1) c0 A c2 c3 (wrap64 (used + (mn (mx 0 (wrap64 ((mn F e) - m))) (wrap64 (A - used))))) 0 (-1)) else (impl_Counted.l0 k e (wrap64 (m + (mn (mx 0 (wrap64 ((mn F e) - m))) (wrap64 (A - used))))) (l ++ [(⟨e, e + 1⟩ : S42)]) (((l ++ [(⟨e, e + 1⟩ : S42)]).length : Nat) : Int) (i + 1) c0 A c2 c3 (wrap64 (used + (mn (mx 0 (wrap64 ((mn F e) - m))) (wrap64 (A - used))))) 0 (-1)))) := by
        intro k
        rw [impl_Counted.l0, if_pos (by omega), if_pos h0, if_pos (by omega), if_neg (by omega), impl_Counted.j2, if_neg (by simp; omega), hrd, hF, hT, w64 (x := i + 1) (by omega) (by omega)]
      have spec1 : ∀ k, spec_Counted.l0 (k + 2) b e l m (A - used) i c0 A c2 c3 = (if T ≤ m then (spec_Counted.l0 k b e l m (A - used) (i + 1) c0 A c2 c3) else (if F - m ≥ A - used then (if (wrap64 (m + (A - used))) ≥ e then ((spec_l10Work.f k l b e).bind fun t155 => (some (wrap64 ((wrap64 (e - b)) - t155), 0, (-1), true))) else (some (A, wrap64 (e - (wrap64 (m + (A - used)))), wrap64 (m + (A - used)), true))) else (if F > m then (spec_Counted.l0 k b e l T (A - used - (F - m)) (i + 1) c0 A c2 c3) else (spec_Counted.l0 k b e l T (A - used) (i + 1) c0 A c2 c3)))) := by
        intro k
        rw [spec_Counted.l0, if_pos hlt, decide_eq_true (show A - used > 0 by omega), spec_Counted.j2, if_pos rfl, if_pos h0, if_pos hlt, hF, hT, w64 (x := i + 1) (by omega) (by omega), w64 (x := F - m) (by omega) (by omega)]
        by_cases cc : F - m ≥ A - used
        · rw [if_pos cc, if_pos cc]
        · rw [if_neg cc, if_neg cc]
          by_cases c5 : F > m
          · rw [if_pos c5, if_pos c5, w64 (x := A - used - _) (by omega) (by omega)]
          · rw [if_neg c5, if_neg c5]
      by_cases c1 : T ≤ m
      · -- over before the time
        obtain ⟨r, hr⟩ := ih m used (i + 1) (by omega) (by omega) (by omega) hu0 hu1 hm0 hm1 (by
            rcases hj with hj | hj
            · exact .inl hj
            · exact .inr fun j h2 h3 => hj j (by omega) h3) (by
            rw [if_pos (by omega)]
            have : ov b e (rd_T42 l i) = 0 := by rw [hov]; split <;> (try split) <;> (try split) <;> omega
            omega)
        refine ⟨r, fun k hk => ?_⟩
        obtain ⟨k, rfl⟩ : ∃ j, k = j + 2 := ⟨k - 2, by omega⟩
        rw [impl1, spec1, if_pos c1, if_pos c1]
        exact hr k (by omega)
      · have hmT : mx m T = T := by unfold mx; rw [if_pos (by omega)]
        by_cases c2' : F ≤ m
        · -- at work now
          have ed : mn (mx 0 (wrap64 ((mn F e) - m))) (wrap64 (A - used)) = 0 := by
            rw [show mn F e = F by unfold mn; rw [if_neg (by omega)], w64 (x := F - m) (by omega) (by omega), w64 (x := A - used) (by omega) (by omega), show mx 0 (F - m) = 0 by unfold mx; rw [if_neg (by omega)]]
            unfold mn; rw [if_neg (by omega)]
          obtain ⟨r, hr⟩ := ih T used (i + 1) (by omega) (by omega) (by omega) hu0 hu1 (by omega) g3 (.inr hsort) (by
              have : ov b e (rd_T42 l i) = (if T < e then T else e) - m := by
                rw [hov]
                rcases fm with fm | fm <;> split <;> (try split) <;> (try split) <;> (try split) <;> omega
              omega)
          refine ⟨r, fun k hk => ?_⟩
          obtain ⟨k, rfl⟩ : ∃ j, k = j + 2 := ⟨k - 2, by omega⟩
          rw [impl1, spec1, if_neg c1, if_neg c1, ed, Int.add_zero, Int.add_zero, w64 (x := used) (by omega) (by omega), w64 (x := m) (by omega) (by omega), if_pos (by omega), hmT, if_neg (by omega), if_neg (by omega)]
          exact hr k (by omega)
        · have ed : mn (mx 0 (wrap64 ((mn F e) - m))) (wrap64 (A - used)) = if (if F < e then F else e) - m ≤ A - used then (if F < e then F else e) - m else A - used := by
            have e0 : mn F e = if F < e then F else e := by unfold mn; split <;> split <;> omega
            have hp : 0 < (if F < e then F else e) - m := by split <;> omega
            have hp1 : (if F < e then F else e) - m ≤ 100000000 := by split <;> omega
            rw [e0]
            generalize (if F < e then F else e) - m = v at hp hp1 ⊢
            rw [w64 (x := v) (by omega) (by omega), w64 (x := A - used) (by omega) (by omega), show mx 0 v = v by unfold mx; rw [if_pos hp]]
            unfold mn; split <;> split <;> omega
          by_cases c3' : F < e
          · rw [if_pos c3'] at ed
            by_cases c4 : F - m < A - used
            · -- some free time, then this spell
              rw [if_pos (by omega)] at ed
              obtain ⟨r, hr⟩ := ih T (used + (F - m)) (i + 1) (by omega) (by omega) (by omega) (by omega) (by omega) (by omega) g3 (.inr hsort) (by
                  have : ov b e (rd_T42 l i) = (if T < e then T else e) - F := by
                    rw [hov]
                    split <;> (try split) <;> (try split) <;> (try split) <;> omega
                  omega)
              refine ⟨r, fun k hk => ?_⟩
              obtain ⟨k, rfl⟩ : ∃ j, k = j + 2 := ⟨k - 2, by omega⟩
              rw [impl1, spec1, if_neg c1, if_neg c1, ed, w64 (x := used + (F - m)) (by omega) (by omega), w64 (x := m + (F - m)) (by omega) (by omega), if_pos (by omega), show m + (F - m) = F by omega, show mx F T = T by unfold mx; rw [if_pos (by omega)], if_neg (by omega), if_pos (by omega), show A - used - (F - m) = A - (used + (F - m)) by omega]
              exact hr k (by omega)
            · -- what is left ends in the free time
              have ed' : mn (mx 0 (wrap64 ((mn F e) - m))) (wrap64 (A - used)) = A - used := by rw [ed]; split <;> omega
              refine ⟨(A, e - (m + (A - used)), m + (A - used), true), fun k hk => ?_⟩
              obtain ⟨k, rfl⟩ : ∃ j, k = j + 4 := ⟨k - 4, by omega⟩
              rw [impl1 (k + 2), spec1 (k + 2), if_neg c1, if_neg c1, ed', w64 (x := used + (A - used)) (by omega) (by omega), if_neg (by omega), if_pos (by omega)]
              have hs := impl_stop c0 A c2 c3 e l (m + (A - used)) A (i + 1) (by omega) (by omega) hl (by omega) (by omega) (by omega) he1 (.inl rfl) k
              rw [w64 (x := m + (A - used)) (by omega) (by omega), show used + (A - used) = A by omega, hs, if_pos ⟨rfl, by omega⟩]
              refine ⟨rfl, ?_⟩
              have := spec_end A b e l hl h hb0 he1 hg m (A - used) i (by omega) hm1 (by omega) (by omega) (k + 2) (by omega) none
              rw [w64 (x := m + (A - used)) (by omega) (by omega)] at this
              rw [this, if_neg (by omega)]
          · rw [if_neg c3'] at ed
            have hpast : ovs b e (l.drop (i + 1).toNat) = 0 := ovs_past l b e d (i + 1) (by omega) (by omega) (by omega) (fun j h2 h3 => .inr (by have := hsort j h2 h3; omega))
            have hov0 : ov b e (rd_T42 l i) = 0 := by rw [hov]; split <;> (try split) <;> (try split) <;> (try split) <;> omega
            by_cases c4 : e - m < A - used
            · -- the time ends first
              rw [if_pos (by omega)] at ed
              refine ⟨(e - b - ovs b e l, 0, -1, true), fun k hk => ?_⟩
              obtain ⟨k, rfl⟩ : ∃ j, k = j + 4 := ⟨k - 4, by omega⟩
              rw [impl1 (k + 2), if_neg c1, ed, w64 (x := used + (e - m)) (by omega) (by omega), if_pos (by omega), w64 (x := m + (e - m)) (by omega) (by omega), show m + (e - m) = e by omega, show mx e T = T by unfold mx; rw [if_pos (by omega)], impl_stop c0 A c2 c3 e l T (used + (e - m)) (i + 1) (by omega) (by omega) hl (by omega) (by omega) (by omega) he1 (.inr (by omega)) k, if_neg (fun hh => by omega), show used + (e - m) = e - b - ovs b e l by omega]
              refine ⟨rfl, ?_⟩
              rw [spec1 (k + 2), if_neg c1]
              by_cases c5 : F - m ≥ A - used
              · rw [if_pos c5]
                have := spec_end A b e l hl h hb0 he1 hg m (A - used) i (by omega) hm1 (by omega) (by omega) (k + 2) (by omega) none
                rw [this, if_pos (by omega)]
              · rw [if_neg c5, if_pos (by omega)]
                exact spec_past c0 A c2 c3 b e l hl h hb0 he1 hg d T (A - used - (F - m)) (i + 1) (by omega) (by omega) (by omega) (by omega) g3 (by omega) (by omega) (k + 2) (by omega)
            · -- what is left ends first, or with the time
              have ed' : mn (mx 0 (wrap64 ((mn F e) - m))) (wrap64 (A - used)) = A - used := by rw [ed]; split <;> omega
              refine ⟨if m + (A - used) < e then (A, e - (m + (A - used)), m + (A - used), true) else (A, 0, -1, true), fun k hk => ?_⟩
              obtain ⟨k, rfl⟩ : ∃ j, k = j + 4 := ⟨k - 4, by omega⟩
              have hs := impl_stop c0 A c2 c3 e l (m + (A - used)) A (i + 1) (by omega) (by omega) hl (by omega) (by omega) (by omega) he1 (.inl rfl) k
              have := spec_end A b e l hl h hb0 he1 hg m (A - used) i (by omega) hm1 (by omega) (by omega) (k + 2) (by omega) none
              constructor
              · rw [impl1 (k + 2), if_neg c1, ed', w64 (x := used + (A - used)) (by omega) (by omega), if_neg (by omega), w64 (x := m + (A - used)) (by omega) (by omega), show used + (A - used) = A by omega, hs]
                by_cases c5 : m + (A - used) < e
                · rw [if_pos ⟨rfl, c5⟩, if_pos c5]
                · rw [if_neg (fun hh => c5 hh.2), if_neg c5]
              · rw [spec1 (k + 2), if_neg c1, if_pos (by omega), this]
                by_cases c5 : m + (A - used) < e
                · rw [if_neg (by omega), if_pos c5]
                · rw [if_pos (by omega), if_neg c5, show e - b - ovs b e l = A by omega]
theorem counted_same (c0 A c2 c3 b e : Int) (l : List S42) (hn : l.length ≤ 1048576) : ∃ r, ∀ k, 1048600 < k → spec_Counted.f k c0 A c2 c3 b e l = some r ∧ impl_Counted.f k c0 A c2 c3 b e l = some r := by
  obtain ⟨y, hy, y1, y2⟩ := charter_same c0 A c2 c3
  obtain ⟨z, hz, hz1⟩ := spells_same l hn
  have bad : ∀ k, spec_Counted.j0 (k + 1) b e l true c0 A c2 c3 = some (0, 0, 0, false) ∧ impl_Counted.j0 (k + 1) b e l true c0 A c2 c3 = some (0, 0, 0, false) := fun k => by
    simp only [spec_Counted.j0, impl_Counted.j0, if_true]; exact ⟨trivial, trivial⟩
  by_cases hc : y = true ∧ (0 ≤ b ∧ b ≤ 100000000) ∧ (0 ≤ e ∧ e ≤ 100000000) ∧ ¬ b > e ∧ z = true
  · obtain ⟨rfl, h1, h2, h3, rfl⟩ := hc
    obtain ⟨hl, hg⟩ := hz rfl
    obtain ⟨hA0, hA1⟩ := hy rfl
    obtain ⟨r, hr⟩ := counted_loops c0 A c2 c3 b e l hl (by omega) h1.1 h2.2 hA0 hA1 hg l.length b 0 0 (by omega) (by omega) (by omega) (by omega) hA0 (by omega) h1.2 (.inl rfl) (by
      simp only [Int.toNat_zero, List.drop_zero]
      split <;> omega)
    refine ⟨r, fun k hk => ?_⟩
    obtain ⟨k, rfl⟩ := pos_round (show 0 < k by omega)
    obtain ⟨s1, s2⟩ := hz1 (k + 1) (by omega)
    obtain ⟨r1, r2⟩ := hr k (by omega)
    unfold spec_Counted.f impl_Counted.f
    rw [y1, y2, minute_eq, minute_eq, minute_eq', minute_eq', decide_eq_true h1, decide_eq_true h2, s1, s2]
    simp only [Option.bind_some, if_true, if_neg h3, Bool.not_true, spec_Counted.j0, impl_Counted.j0, Bool.false_eq_true, if_false, own_sameC l hn]
    rw [if_pos (by omega), w64 (x := e + 1) (by omega) (by omega)]
    rw [show A - 0 = A by omega] at r2
    exact ⟨r2, r1⟩
  · refine ⟨(0, 0, 0, false), fun k hk => ?_⟩
    obtain ⟨k, rfl⟩ := pos_round (show 0 < k by omega)
    obtain ⟨s1, s2⟩ := hz1 (k + 1) (by omega)
    obtain ⟨b1, b2⟩ := bad k
    unfold spec_Counted.f impl_Counted.f
    rw [y1, y2, minute_eq, minute_eq, minute_eq', minute_eq', s1, s2]
    simp only [Option.bind_some]
    cases y with
    | false => simp only [Bool.false_eq_true, if_false]; exact ⟨b1, b2⟩
    | true =>
      by_cases h1 : 0 ≤ b ∧ b ≤ 100000000
      · by_cases h2 : 0 ≤ e ∧ e ≤ 100000000
        · by_cases h3 : b > e
          · rw [decide_eq_true h1, decide_eq_true h2]
            simp only [if_true, if_pos h3]; exact ⟨b1, b2⟩
          · cases z with
            | true => exact absurd ⟨rfl, h1, h2, h3, rfl⟩ hc
            | false =>
              rw [decide_eq_true h1, decide_eq_true h2]
              simp only [if_true, if_neg h3, Bool.not_false]; exact ⟨b1, b2⟩
        · rw [decide_eq_true h1, decide_eq_false h2]
          simp only [if_true, Bool.false_eq_true, if_false]; exact ⟨b1, b2⟩
      · rw [decide_eq_false h1]
        simp only [if_true, Bool.false_eq_true, if_false]; exact ⟨b1, b2⟩

/-! ### Laid -/
theorem laid_loops (ps off : List S42) (hp : ps.length ≤ 1048576) (ho : off.length ≤ 1048576) (c0 c2 c3 : Int) (d : Nat) : ∀ (A i u v w : Int), 0 ≤ i → i ≤ ps.length → (ps.length : Int) - i = d →
    ∃ r, ∀ k, 1048600 + d < k → spec_Laid.l0 k ps off i c0 A c2 c3 u v w = some r ∧ impl_Laid.l0 k off ps (ps.length : Int) i c0 A c2 c3 u v w = some r := by
  induction d with
  | zero =>
    intro A i u v w h0 h1 hd
    refine ⟨(u, v, w, true), fun k hk => ?_⟩
    obtain ⟨k, rfl⟩ := pos_round (show 0 < k by omega)
    simp only [spec_Laid.l0, impl_Laid.l0]
    rw [if_neg (by omega), if_neg (by omega)]
    exact ⟨rfl, rfl⟩
  | succ d ih =>
    intro A i u v w h0 h1 hd
    have hlt : i < (ps.length : Int) := by omega
    obtain ⟨n, hn⟩ := counted_same c0 A c2 c3 (rd_T42 ps i).f0 (rd_T42 ps i).f1 off ho
    obtain ⟨r, hr⟩ := ih (wrap64 (A - n.1)) (i + 1) (wrap64 (u + n.1)) (wrap64 (v + n.2.1)) (if w < 0 then n.2.2.1 else w) (by omega) (by omega) (by omega)
    refine ⟨r, fun k hk => ?_⟩
    obtain ⟨k, rfl⟩ := pos_round (show 0 < k by omega)
    obtain ⟨n1, n2⟩ := hn k (by omega)
    obtain ⟨r1, r2⟩ := hr k (by omega)
    simp only [spec_Laid.l0, impl_Laid.l0]
    rw [if_pos hlt, if_pos hlt, if_pos h0, if_pos h0, if_pos hlt, n1, n2, Option.bind_some, Option.bind_some, w64 (x := i + 1) (by omega) (by omega)]
    by_cases c : w < 0
    · rw [if_pos c] at r1 r2
      rw [if_pos c, if_pos c]
      exact ⟨r1, r2⟩
    · rw [if_neg c] at r1 r2
      rw [if_neg c, if_neg c]
      exact ⟨r1, r2⟩
theorem laid_same (c0 A c2 c3 : Int) (ps off : List S42) (hp : ps.length ≤ 1048576) (ho : off.length ≤ 1048576) : ∃ r, ∀ k, 2097200 < k → spec_Laid.f k c0 A c2 c3 ps off = some r ∧ impl_Laid.f k c0 A c2 c3 ps off = some r := by
  obtain ⟨y, _, y1, y2⟩ := charter_same c0 A c2 c3
  obtain ⟨z, _, hz⟩ := spells_same ps hp
  obtain ⟨w, _, hw⟩ := spells_same off ho
  obtain ⟨r, hr⟩ := laid_loops ps off hp ho c0 c2 c3 ps.length A 0 0 0 (-1) (by omega) (by omega) (by omega)
  have bad : ∀ k, spec_Laid.j0 (k + 1) ps off true c0 A c2 c3 = some (0, 0, 0, false) ∧ impl_Laid.j0 (k + 1) ps off true c0 A c2 c3 = some (0, 0, 0, false) := fun k => by
    simp only [spec_Laid.j0, impl_Laid.j0, if_true]; exact ⟨trivial, trivial⟩
  by_cases hc : y = true ∧ ¬ (ps.length : Int) = 0 ∧ z = true ∧ w = true
  · obtain ⟨rfl, h0, rfl, rfl⟩ := hc
    refine ⟨r, fun k hk => ?_⟩
    obtain ⟨k, rfl⟩ := pos_round (show 0 < k by omega)
    obtain ⟨z1, z2⟩ := hz (k + 1) (by omega)
    obtain ⟨w1, w2⟩ := hw (k + 1) (by omega)
    unfold spec_Laid.f impl_Laid.f
    rw [y1, y2, z1, z2, w1, w2]
    simp only [Option.bind_some, if_true, if_neg h0, Bool.not_true, spec_Laid.j0, impl_Laid.j0, Bool.false_eq_true, if_false]
    exact hr k (by omega)
  · refine ⟨(0, 0, 0, false), fun k hk => ?_⟩
    obtain ⟨k, rfl⟩ := pos_round (show 0 < k by omega)
    obtain ⟨z1, z2⟩ := hz (k + 1) (by omega)
    obtain ⟨w1, w2⟩ := hw (k + 1) (by omega)
    obtain ⟨b1, b2⟩ := bad k
    unfold spec_Laid.f impl_Laid.f
    rw [y1, y2, z1, z2, w1, w2]
    simp only [Option.bind_some]
    cases y with
    | false => simp only [Bool.false_eq_true, if_false]; exact ⟨b1, b2⟩
    | true =>
      by_cases h0 : (ps.length : Int) = 0
      · simp only [if_true, if_pos h0]; exact ⟨b1, b2⟩
      · cases z with
        | false => simp only [if_true, if_neg h0, Bool.false_eq_true, if_false]; exact ⟨b1, b2⟩
        | true =>
          cases w with
          | false => simp only [if_true, if_neg h0, Bool.not_false]; exact ⟨b1, b2⟩
          | true => exact absurd ⟨rfl, h0, rfl, rfl⟩ hc
theorem FnExactLaid : laws_FnExactLaid.Pure := by
  intro c0 A c2 c3 l m _ _ _ _ hl hm
  refine ⟨2097300, ?_⟩
  have hl1 := hl.1
  have hm1 := hm.1
  unfold laws_FnExactLaid.f laws_szSpellS.f laws_toCharter.f
  by_cases hn : (l.length : Int) ≤ 1048576
  · rw [w64 (x := 1048576 - (l.length : Int)) (by omega) (by omega), if_neg (by omega), Option.bind_some, if_neg (by omega)]
    by_cases hn2 : (m.length : Int) ≤ 1048576 - l.length
    · rw [w64 (by omega) (by omega), if_neg (by omega), Option.bind_some, if_neg (by omega), Option.bind_some]
      dsimp only
      have hlen := toSpell_length l
      have hlen2 := toSpell_length m
      rw [toSpell_ok l (by omega) _ (by omega), Option.bind_some, toSpell_ok m (by omega) _ (by omega), Option.bind_some]
      obtain ⟨r, hr⟩ := laid_same c0 A c2 c3 (toSpell l) (toSpell m) (by omega) (by omega)
      obtain ⟨r1, r2⟩ := hr 2097300 (by omega)
      rw [r1, Option.bind_some, Option.bind_some, Option.bind_some, Option.bind_some]
      dsimp only
      rw [r2, Option.bind_some]
      unfold laws_eqCount.f
      rw [if_pos rfl, if_pos rfl, if_pos rfl, Option.bind_some, if_pos rfl]
      simp only [laws_FnExactLaid.j0]
      rw [if_neg (by simp), toSpell_ok l (by omega) _ (by omega), Option.bind_some, eqSpell_ok (toSpell l) (by omega) _ (by omega), Option.bind_some, if_pos rfl, toSpell_ok m (by omega) _ (by omega), Option.bind_some, eqSpell_ok (toSpell m) (by omega) _ (by omega), Option.bind_some, if_pos rfl]
    · rw [w64 (by omega) (by omega), if_pos (by omega), Option.bind_some, if_pos (by omega)]
  · rw [w64 (x := 1048576 - (l.length : Int)) (by omega) (by omega), if_pos (by omega), Option.bind_some, if_pos (by omega)]

end Go.Proofs.Ytpepdjghajphlaa.Pure
