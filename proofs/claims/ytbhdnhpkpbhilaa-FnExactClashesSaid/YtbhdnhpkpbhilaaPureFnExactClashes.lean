/- The program's Clashes returns what the reference's returns, for all arguments; it changes none of them, and what it hands back is new memory. -/
import Derived.Test.YtbhdnhpkpbhilaaPFnExactClashesx7
import Derived.Test.YtbhdnhpkpbhilaaKit
set_option linter.unusedVariables false
set_option linter.unusedSimpArgs false
namespace Go.Proofs.Ytbhdnhpkpbhilaa.Pure
open Go.RowKit Go.Proofs.Ytbhdnhpkpbhilaa.PFnExactClashes Go.Proofs.YtbhdnhpkpbhilaaW.PrintWords Go.Proofs.YtbhdnhpkpbhilaaW.PrintLast Go.Proofs.YtbhdnhpkpbhilaaW.PrintMore Go.Proofs.YtbhdnhpkpbhilaaW.Kit

/-! ### laws.eqIntS, markIntS, heldIntS -/
theorem eqI_loop (l : List Int) (hn : l.length ≤ 1000000000) (d : Nat) : ∀ (k : Nat) (i : Int), 0 ≤ i → i ≤ l.length → (l.length : Int) - i = d → d < k → laws_eqIntS.l0 k l l i = some true := by
  induction d with
  | zero =>
    intro k i h0 h1 hd hk
    obtain ⟨k, rfl⟩ := pos_round (show 0 < k by omega)
    simp only [laws_eqIntS.l0]
    rw [if_neg (by omega)]
  | succ d ih =>
    intro k i h0 h1 hd hk
    obtain ⟨k, rfl⟩ := pos_round (show 0 < k by omega)
    simp only [laws_eqIntS.l0]
    rw [if_pos (by omega), if_pos h0, if_pos (by omega), w64 (x := i + 1) (by omega) (by omega)]
    simp only [if_true]
    exact ih k (i + 1) (by omega) (by omega) (by omega) (by omega)
theorem eqI (l : List Int) (hn : l.length ≤ 1000000000) (k : Nat) (hk : l.length < k) : laws_eqIntS.f k l l = some true := by
  unfold laws_eqIntS.f
  rw [if_pos rfl]
  exact eqI_loop l hn l.length k 0 (by omega) (by omega) (by omega) hk
theorem markI_loop (d : Nat) : ∀ (k : Nat) (l : List Int) (c i : Int), l.length ≤ 1000000000 → 0 ≤ i → i ≤ l.length → (l.length : Int) - i = d → d < k → 0 ≤ c → c + d ≤ 2000000000 →
    ∃ r, laws_markIntS.l0 k l c i = some (c + d, r) ∧ r.length = l.length ∧ ∀ j : Int, 0 ≤ j → j < l.length → rd r j = if j < i then rd l j else c + (j - i) := by
  induction d with
  | zero =>
    intro k l c i hn h0 h1 hd hk hc hc1
    obtain ⟨k, rfl⟩ := pos_round (show 0 < k by omega)
    simp only [laws_markIntS.l0]
    rw [if_neg (by omega)]
    exact ⟨l, by simp, rfl, fun j hj hj1 => by rw [if_pos (by omega)]⟩
  | succ d ih =>
    intro k l c i hn h0 h1 hd hk hc hc1
    obtain ⟨k, rfl⟩ := pos_round (show 0 < k by omega)
    obtain ⟨r, hr, hl, hj⟩ := ih k (l.set i.toNat c) (c + 1) (i + 1) (by simpa using hn) (by omega) (by simp; omega) (by simp; omega) (by omega) (by omega) (by omega)
    simp only [laws_markIntS.l0]
    rw [if_pos (by omega), if_pos h0, w64 (x := i + 1) (by omega) (by omega), w64 (x := c + 1) (by omega) (by omega), hr]
    refine ⟨r, ?_, by simpa using hl, fun j hj0 hj1 => ?_⟩
    · congr 2; omega
    · rw [hj j hj0 (by simpa using hj1)]
      by_cases e : j = i
      · subst e
        rw [if_pos (by omega), if_neg (by omega), rd_set_eq hj0 hj1]; omega
      · by_cases e2 : j < i
        · rw [if_pos (by omega), if_pos e2, rd_set_ne h0 hj0 (Ne.symm e)]
        · rw [if_neg (by omega), if_neg e2]; omega
theorem markI (l : List Int) (hn : l.length ≤ 1000000000) (k : Nat) (hk : l.length < k) :
    ∃ r, laws_markIntS.f k l 1 = some (1 + (l.length : Int), r) ∧ r.length = l.length ∧ ∀ j : Int, 0 ≤ j → j < l.length → rd r j = 1 + j := by
  obtain ⟨r, hr, hl, hj⟩ := markI_loop l.length k l 1 0 hn (by omega) (by omega) (by omega) hk (by omega) (by omega)
  exact ⟨r, hr, hl, fun j h0 h1 => by rw [hj j h0 h1, if_neg (by omega)]; omega⟩
theorem heldI_loop (l : List Int) (hn : l.length ≤ 1000000000) (d : Nat) : ∀ (k : Nat) (c i : Int), 0 ≤ i → i ≤ l.length → (l.length : Int) - i = d → d < k → 0 ≤ c → c + d ≤ 2000000000 → (∀ j : Int, i ≤ j → j < l.length → rd l j = c + (j - i)) →
    laws_heldIntS.l0 k l c i = some (c + d) := by
  induction d with
  | zero =>
    intro k c i h0 h1 hd hk hc hc1 hr
    obtain ⟨k, rfl⟩ := pos_round (show 0 < k by omega)
    simp only [laws_heldIntS.l0]
    rw [if_neg (by omega)]; simp
  | succ d ih =>
    intro k c i h0 h1 hd hk hc hc1 hr
    obtain ⟨k, rfl⟩ := pos_round (show 0 < k by omega)
    simp only [laws_heldIntS.l0]
    rw [if_pos (by omega), if_pos h0, if_pos (by rw [hr i (by omega) (by omega)]; omega), w64 (x := i + 1) (by omega) (by omega), w64 (x := c + 1) (by omega) (by omega)]
    rw [ih k (c + 1) (i + 1) (by omega) (by omega) (by omega) (by omega) (by omega) (by omega) (fun j h2 h3 => by rw [hr j (by omega) h3]; omega)]
    congr 1; omega
theorem heldI (l : List Int) (hn : l.length ≤ 1000000000) (hr : ∀ j : Int, 0 ≤ j → j < l.length → rd l j = 1 + j) (k : Nat) (hk : l.length < k) : laws_heldIntS.f k l 1 = some (1 + (l.length : Int)) :=
  heldI_loop l hn l.length k 1 0 (by omega) (by omega) (by omega) hk (by omega) (by omega) (fun j h0 h1 => by rw [hr j h0 h1]; omega)
theorem toI_loop (l : List Int) (hn : l.length ≤ 1000000000) (d : Nat) : ∀ (i : Int) (o : List Int), 0 ≤ i → i ≤ l.length → (l.length : Int) - i = d → o.length = l.length → (∀ j : Int, 0 ≤ j → j < i → rd o j = rd l j) → ∀ k, d < k → laws_toIntS.l0 k l o i = some l := by
  induction d with
  | zero =>
    intro i o h0 h1 hd ho hr k hk
    obtain ⟨k, rfl⟩ := pos_round (show 0 < k by omega)
    simp only [laws_toIntS.l0]
    rw [if_neg (by omega)]
    congr 1
    exact ext_rd ho (fun j hj0 hj1 => hr j hj0 (by omega))
  | succ d ih =>
    intro i o h0 h1 hd ho hr k hk
    obtain ⟨k, rfl⟩ := pos_round (show 0 < k by omega)
    simp only [laws_toIntS.l0]
    rw [if_pos (by omega), if_pos h0, if_pos (by omega), w64 (x := i + 1) (by omega) (by omega)]
    refine ih (i + 1) _ (by omega) (by omega) (by omega) (by simpa using ho) (fun j hj0 hj1 => ?_) k (by omega)
    by_cases e : j = i
    · subst e; exact rd_set_eq hj0 (by omega)
    · rw [rd_set_ne h0 hj0 (Ne.symm e)]; exact hr j hj0 (by omega)
theorem toI_ok (l : List Int) (hn : l.length ≤ 1000000000) (k : Nat) (hk : l.length < k) : laws_toIntS.f k l = some l := by
  unfold laws_toIntS.f
  rw [if_pos (by omega), if_pos (by omega)]
  exact toI_loop l hn l.length 0 _ (by omega) (by omega) (by omega) (by simp) (fun j h0 h1 => by omega) k hk

theorem rd58_lt {l : List S58} {i : Int} (h0 : 0 ≤ i) (h1 : i < l.length) : ∃ h : i.toNat < l.length, rd_T58 l i = l[i.toNat]'h := by
  have h : i.toNat < l.length := by omega
  exact ⟨h, by simp [rd_T58, List.getD_eq_getElem?_getD, List.getElem?_eq_getElem h]⟩
theorem rd58_mem {l : List S58} {i : Int} (h0 : 0 ≤ i) (h1 : i < l.length) : rd_T58 l i ∈ l := by
  obtain ⟨h, e⟩ := rd58_lt h0 h1
  rw [e]; exact List.getElem_mem h
theorem rd58_drop {l : List S58} {i : Int} (h0 : 0 ≤ i) (h1 : i < l.length) : l.drop i.toNat = rd_T58 l i :: l.drop (i + 1).toNat := by
  obtain ⟨h, e⟩ := rd58_lt h0 h1
  rw [e, show (i + 1).toNat = i.toNat + 1 by omega, List.drop_eq_getElem_cons h]
theorem rd58_take {l : List S58} {i : Int} (h0 : 0 ≤ i) (h1 : i < l.length) : l.take (i + 1).toNat = l.take i.toNat ++ [rd_T58 l i] := by
  obtain ⟨h, e⟩ := rd58_lt h0 h1
  rw [e, show (i + 1).toNat = i.toNat + 1 by omega, List.take_succ_eq_append_getElem h]
theorem rd58_set_eq {l : List S58} {i : Int} {x : S58} (h0 : 0 ≤ i) (h1 : i < l.length) : rd_T58 (l.set i.toNat x) i = x := by
  simp [rd_T58, List.getD_eq_getElem?_getD, List.getElem?_set, show i.toNat < l.length by omega]
theorem rd58_set_ne {l : List S58} {i j : Int} {x : S58} (h0 : 0 ≤ i) (hj : 0 ≤ j) (h : i ≠ j) : rd_T58 (l.set i.toNat x) j = rd_T58 l j := by
  simp [rd_T58, List.getD_eq_getElem?_getD, List.getElem?_set, show ¬ i.toNat = j.toNat by omega]
theorem rd58_append_left {l m : List S58} {i : Int} (h0 : 0 ≤ i) (h1 : i < l.length) : rd_T58 (l ++ m) i = rd_T58 l i := by
  simp [rd_T58, List.getD_eq_getElem?_getD, List.getElem?_append_left (show i.toNat < l.length by omega)]
theorem rd58_last {l : List S58} {x : S58} : rd_T58 (l ++ [x]) (l.length : Int) = x := by
  simp [rd_T58, List.getD_eq_getElem?_getD]
theorem ext58 {l m : List S58} (h : l.length = m.length) (hr : ∀ i : Int, 0 ≤ i → i < l.length → rd_T58 l i = rd_T58 m i) : l = m := by
  apply List.ext_getElem h
  intro i h1 h2
  have := hr i (by omega) (by omega)
  simpa [rd_T58, List.getD_eq_getElem?_getD, List.getElem?_eq_getElem h1, List.getElem?_eq_getElem h2] using this
theorem rd86_lt {l : List S86} {i : Int} (h0 : 0 ≤ i) (h1 : i < l.length) : ∃ h : i.toNat < l.length, rd_T86 l i = l[i.toNat]'h := by
  have h : i.toNat < l.length := by omega
  exact ⟨h, by simp [rd_T86, List.getD_eq_getElem?_getD, List.getElem?_eq_getElem h]⟩
theorem rd86_mem {l : List S86} {i : Int} (h0 : 0 ≤ i) (h1 : i < l.length) : rd_T86 l i ∈ l := by
  obtain ⟨h, e⟩ := rd86_lt h0 h1
  rw [e]; exact List.getElem_mem h
theorem rd86_drop {l : List S86} {i : Int} (h0 : 0 ≤ i) (h1 : i < l.length) : l.drop i.toNat = rd_T86 l i :: l.drop (i + 1).toNat := by
  obtain ⟨h, e⟩ := rd86_lt h0 h1
  rw [e, show (i + 1).toNat = i.toNat + 1 by omega, List.drop_eq_getElem_cons h]
theorem rd86_take {l : List S86} {i : Int} (h0 : 0 ≤ i) (h1 : i < l.length) : l.take (i + 1).toNat = l.take i.toNat ++ [rd_T86 l i] := by
  obtain ⟨h, e⟩ := rd86_lt h0 h1
  rw [e, show (i + 1).toNat = i.toNat + 1 by omega, List.take_succ_eq_append_getElem h]
theorem rd86_set_eq {l : List S86} {i : Int} {x : S86} (h0 : 0 ≤ i) (h1 : i < l.length) : rd_T86 (l.set i.toNat x) i = x := by
  simp [rd_T86, List.getD_eq_getElem?_getD, List.getElem?_set, show i.toNat < l.length by omega]
theorem rd86_set_ne {l : List S86} {i j : Int} {x : S86} (h0 : 0 ≤ i) (hj : 0 ≤ j) (h : i ≠ j) : rd_T86 (l.set i.toNat x) j = rd_T86 l j := by
  simp [rd_T86, List.getD_eq_getElem?_getD, List.getElem?_set, show ¬ i.toNat = j.toNat by omega]
theorem rd86_append_left {l m : List S86} {i : Int} (h0 : 0 ≤ i) (h1 : i < l.length) : rd_T86 (l ++ m) i = rd_T86 l i := by
  simp [rd_T86, List.getD_eq_getElem?_getD, List.getElem?_append_left (show i.toNat < l.length by omega)]
theorem rd86_last {l : List S86} {x : S86} : rd_T86 (l ++ [x]) (l.length : Int) = x := by
  simp [rd_T86, List.getD_eq_getElem?_getD]
theorem ext86 {l m : List S86} (h : l.length = m.length) (hr : ∀ i : Int, 0 ≤ i → i < l.length → rd_T86 l i = rd_T86 m i) : l = m := by
  apply List.ext_getElem h
  intro i h1 h2
  have := hr i (by omega) (by omega)
  simpa [rd_T86, List.getD_eq_getElem?_getD, List.getElem?_eq_getElem h1, List.getElem?_eq_getElem h2] using this
/-! ### FnExactClashes: rows of radios, of any kind -/
def slot (L : List S58) (i : Int) : Int := (rd_T58 L i).f1
def hrs (L : List S58) (i : Int) : List Int := (rd_T58 L i).f2
/-- All rows are short enough. -/
def Sm (L : List S58) : Prop := L.length ≤ 1048576 ∧ ∀ i : Int, (hrs L i).length ≤ 1048576
theorem in_i (a b c : Int) : impl_in.f a b c = some (decide (b ≤ a ∧ a ≤ c)) := in_some a b c
theorem in_s (a b c : Int) : spec_l1In.f a b c = some (decide (b ≤ a ∧ a ≤ c)) := in_some a b c
theorem idx_loop (l : List Int) (x : Int) (hl : l.length ≤ 10000000) (d : Nat) : ∀ i : Int, 0 ≤ i → i ≤ l.length → (l.length : Int) - i = d → ∃ r, (∀ k, slices_Index_int_int.l0 (k + d + 1) l x (l.length : Int) i = some r) ∧ decide (r ≥ 0) = decide (x ∈ l.drop i.toNat) := by
  induction d with
  | zero =>
    intro i h0 h1 hd
    refine ⟨-1, fun k => ?_, ?_⟩
    · simp only [slices_Index_int_int.l0]
      rw [if_neg (by omega)]
    · rw [List.drop_of_length_le (by omega)]; simp
  | succ d ih =>
    intro i h0 h1 hd
    have hi : i < (l.length : Int) := by omega
    obtain ⟨r, e, hr⟩ := ih (i + 1) (by omega) (by omega) (by omega)
    by_cases c : x = rd l i
    · refine ⟨i, fun k => ?_, ?_⟩
      · rw [show k + (d + 1) + 1 = (k + d + 1) + 1 from rfl]
        obtain ⟨M, hM⟩ : ∃ M, M = k + d + 1 := ⟨_, rfl⟩
        rw [← hM]
        simp only [slices_Index_int_int.l0]
        rw [if_pos hi, if_pos h0, if_pos hi, if_pos c]
      · rw [drop_rd h0 hi, decide_eq_true (by omega), decide_eq_true (by rw [c]; exact List.mem_cons_self ..)]
    · refine ⟨r, fun k => ?_, ?_⟩
      · have e' := e k
        rw [show k + (d + 1) + 1 = (k + d + 1) + 1 from rfl]
        obtain ⟨M, hM⟩ : ∃ M, M = k + d + 1 := ⟨_, rfl⟩
        rw [← hM] at e' ⊢
        simp only [slices_Index_int_int.l0]
        rw [if_pos hi, if_pos h0, if_pos hi, if_neg c, w64 (x := i + 1) (by omega) (by omega)]
        exact e'
      · rw [hr, drop_rd h0 hi, decide_eq_decide, List.mem_cons]
        exact ⟨.inr, fun h => h.resolve_left c⟩
theorem contains_i (l : List Int) (x : Int) (hl : l.length ≤ 10000000) (k : Nat) (hk : l.length < k) : slices_Contains_int_int.f k l x = some (decide (x ∈ l)) := by
  obtain ⟨r, e, hr⟩ := idx_loop l x hl l.length 0 (by omega) (by omega) (by omega)
  have e' := e (k - l.length - 1)
  rw [show k - l.length - 1 + l.length + 1 = k by omega] at e'
  unfold slices_Contains_int_int.f slices_Index_int_int.f
  rw [e', Option.bind_some, hr, Int.toNat_zero, List.drop_zero]
theorem has_loop (l : List Int) (x : Int) (hl : l.length ≤ 10000000) (d : Nat) : ∀ i : Int, 0 ≤ i → i ≤ l.length → (l.length : Int) - i = d → ∀ k, spec_l9Has.l0 (k + d + 1) l x i = some (decide (x ∈ l.drop i.toNat)) := by
  induction d with
  | zero =>
    intro i h0 h1 hd k
    simp only [spec_l9Has.l0]
    rw [if_neg (by omega), List.drop_of_length_le (by omega)]
    simp
  | succ d ih =>
    intro i h0 h1 hd k
    have hi : i < (l.length : Int) := by omega
    have e := ih (i + 1) (by omega) (by omega) (by omega) k
    rw [show k + (d + 1) + 1 = (k + d + 1) + 1 from rfl]
    obtain ⟨M, hM⟩ : ∃ M, M = k + d + 1 := ⟨_, rfl⟩
    rw [← hM] at e ⊢
    simp only [spec_l9Has.l0]
    rw [if_pos hi, if_pos h0, w64 (x := i + 1) (by omega) (by omega), e, drop_rd h0 hi]
    by_cases c : rd l i = x
    · rw [if_pos c, decide_eq_true (by rw [c]; exact List.mem_cons_self ..)]
    · rw [if_neg c]
      congr 1
      rw [decide_eq_decide, List.mem_cons]
      exact ⟨.inr, fun h => h.resolve_left (fun e => c e.symm)⟩
theorem contains_s (l : List Int) (x : Int) (hl : l.length ≤ 10000000) (k : Nat) (hk : l.length < k) : spec_l9Has.f k l x = some (decide (x ∈ l)) := by
  have e := has_loop l x hl l.length 0 (by omega) (by omega) (by omega) (k - l.length - 1)
  rw [show k - l.length - 1 + l.length + 1 = k by omega] at e
  unfold spec_l9Has.f
  rw [e, Int.toNat_zero, List.drop_zero]
/-- From the j-th one on, both look alike at who is heard. -/
theorem rok_inner (L : List S58) (hL : Sm L) (i : Int) (h0 : 0 ≤ i) (h1 : i < L.length) (u v : Int) (d : Nat) : ∀ j : Int, 0 ≤ j → j ≤ (hrs L i).length → ((hrs L i).length : Int) - j = d →
    ∃ b : Bool, (b = true → ∀ j' : Int, j ≤ j' → j' < (hrs L i).length → 0 ≤ rd (hrs L i) j' ∧ rd (hrs L i) j' < L.length) ∧
      (∀ K, 2000000 < K → impl_RadiosOk.l1 (K + d + 1) L i L (L.length : Int) i (hrs L i) ((hrs L i).length : Int) j u v (hrs L i) = if b = true then impl_RadiosOk.l0 K L L (L.length : Int) (i + 1) else some false) ∧
      (∀ K, 2000000 < K → spec_RadiosOk.l1 (K + d + 1) L i j u v (hrs L i) = if b = true then spec_RadiosOk.l0 K L (i + 1) else some false) := by
  have hlen := hL.1
  have hl := hL.2 i
  induction d with
  | zero =>
    intro j j0 j1 hd
    refine ⟨true, fun _ j' a b => by omega, fun K hK => ?_, fun K hK => ?_⟩
    · simp only [impl_RadiosOk.l1]
      rw [if_neg (by omega), w64 (x := i + 1) (by omega) (by omega)]; rfl
    · simp only [spec_RadiosOk.l1]
      rw [if_neg (by omega), w64 (x := i + 1) (by omega) (by omega)]; rfl
  | succ d ih =>
    intro j j0 j1 hd
    have hj : j < ((hrs L i).length : Int) := by omega
    obtain ⟨b, hb, e1, e2⟩ := ih (j + 1) (by omega) (by omega) (by omega)
    generalize hh : rd (hrs L i) j = h
    have hlh := hL.2 h
    -- what is asked of this one
    by_cases c1 : 0 ≤ h ∧ h ≤ (L.length : Int) - 1
    · by_cases c2 : h = i
      · refine ⟨false, fun h => by simp at h, fun K hK => ?_, fun K hK => ?_⟩
        · rw [show K + (d + 1) + 1 = (K + d + 1) + 1 from rfl]
          obtain ⟨M, hM⟩ : ∃ M, M = K + d + 1 := ⟨_, rfl⟩
          rw [← hM]
          simp only [impl_RadiosOk.l1]
          rw [if_pos hj, if_pos j0, if_pos hj, hh, in_i, w64 (x := (L.length : Int) - 1) (by omega) (by omega), decide_eq_true c1, Option.bind_some, if_pos rfl, if_pos c2]; rfl
        · rw [show K + (d + 1) + 1 = (K + d + 1) + 1 from rfl]
          obtain ⟨M, hM⟩ : ∃ M, M = K + d + 1 := ⟨_, rfl⟩
          rw [← hM]
          simp only [spec_RadiosOk.l1]
          rw [if_pos hj, if_pos j0, hh, in_s, w64 (x := (L.length : Int) - 1) (by omega) (by omega), decide_eq_true c1, Option.bind_some, if_pos rfl, if_pos c2]; rfl
      · by_cases c3 : j > 0 ∧ rd (hrs L i) (j - 1) ≥ h
        · refine ⟨false, fun h => by simp at h, fun K hK => ?_, fun K hK => ?_⟩
          · rw [show K + (d + 1) + 1 = (K + d + 1) + 1 from rfl]
            obtain ⟨M, hM⟩ : ∃ M, M = K + d + 1 := ⟨_, rfl⟩
            rw [← hM]
            simp only [impl_RadiosOk.l1]
            rw [if_pos hj, if_pos j0, if_pos hj, hh, in_i, w64 (x := (L.length : Int) - 1) (by omega) (by omega), decide_eq_true c1, Option.bind_some, if_pos rfl, if_neg c2, if_pos c3.1, w64 (x := j - 1) (by omega) (by omega), if_pos (by omega), if_pos (by omega), if_pos c3.2]; rfl
          · rw [show K + (d + 1) + 1 = (K + d + 1) + 1 from rfl]
            obtain ⟨M, hM⟩ : ∃ M, M = K + d + 1 := ⟨_, rfl⟩
            rw [← hM]
            simp only [spec_RadiosOk.l1]
            rw [if_pos hj, if_pos j0, hh, in_s, w64 (x := (L.length : Int) - 1) (by omega) (by omega), decide_eq_true c1, Option.bind_some, if_pos rfl, if_neg c2, if_pos c3.1, w64 (x := j - 1) (by omega) (by omega), if_pos (by omega), if_pos (by omega), if_pos c3.2]; rfl
        · have hi := fun M (hM : 2000000 < M) => contains_i (hrs L h) i (by omega) M (by omega)
          have hs := fun M (hM : 2000000 < M) => contains_s (hrs L h) i (by omega) M (by omega)
          refine ⟨decide (i ∈ hrs L h) && b, fun hbb j' a1 a2 => ?_, fun K hK => ?_, fun K hK => ?_⟩
          · simp only [Bool.and_eq_true] at hbb
            by_cases e : j' = j
            · rw [e, hh]; omega
            · exact hb hbb.2 j' (by omega) a2
          · have e1' := e1 K hK
            rw [show K + (d + 1) + 1 = (K + d + 1) + 1 from rfl]
            obtain ⟨M, hM⟩ : ∃ M, M = K + d + 1 := ⟨_, rfl⟩
            have hM2 : 2000000 < M := by omega
            rw [← hM] at e1' ⊢
            have hi' : slices_Contains_int_int.f M (rd_T58 L h).f2 i = some (decide (i ∈ hrs L h)) := hi M hM2
            simp only [impl_RadiosOk.l1]
            rw [if_pos hj, if_pos j0, if_pos hj, hh, in_i, w64 (x := (L.length : Int) - 1) (by omega) (by omega), decide_eq_true c1, Option.bind_some, if_pos rfl, if_neg c2, w64 (x := j + 1) (by omega) (by omega), hi', e1']
            by_cases c4 : j > 0
            · rw [if_pos c4, w64 (x := j - 1) (by omega) (by omega), if_pos (by omega), if_pos (by omega), if_neg (fun h => c3 ⟨c4, h⟩), if_pos c1.1, if_pos (by omega), Option.bind_some]
              by_cases c5 : i ∈ hrs L h
              · rw [decide_eq_true c5, if_pos rfl, Bool.true_and]
              · rw [decide_eq_false c5, if_neg (by simp), Bool.false_and, if_neg (by simp)]
            · rw [if_neg c4, if_pos c1.1, if_pos (by omega), Option.bind_some]
              by_cases c5 : i ∈ hrs L h
              · rw [decide_eq_true c5, if_pos rfl, Bool.true_and]
              · rw [decide_eq_false c5, if_neg (by simp), Bool.false_and, if_neg (by simp)]
          · have e2' := e2 K hK
            rw [show K + (d + 1) + 1 = (K + d + 1) + 1 from rfl]
            obtain ⟨M, hM⟩ : ∃ M, M = K + d + 1 := ⟨_, rfl⟩
            have hM2 : 2000000 < M := by omega
            rw [← hM] at e2' ⊢
            have hs' : spec_l9Has.f M (rd_T58 L h).f2 i = some (decide (i ∈ hrs L h)) := hs M hM2
            simp only [spec_RadiosOk.l1]
            rw [if_pos hj, if_pos j0, hh, in_s, w64 (x := (L.length : Int) - 1) (by omega) (by omega), decide_eq_true c1, Option.bind_some, if_pos rfl, if_neg c2, w64 (x := j + 1) (by omega) (by omega), hs', e2']
            by_cases c4 : j > 0
            · rw [if_pos c4, w64 (x := j - 1) (by omega) (by omega), if_pos (by omega), if_pos (by omega), if_neg (fun h => c3 ⟨c4, h⟩), if_pos c1.1, if_pos (by omega), Option.bind_some]
              by_cases c5 : i ∈ hrs L h
              · rw [decide_eq_true c5, if_pos rfl, Bool.true_and]
              · rw [decide_eq_false c5, if_neg (by simp), Bool.false_and, if_neg (by simp)]
            · rw [if_neg c4, if_pos c1.1, if_pos (by omega), Option.bind_some]
              by_cases c5 : i ∈ hrs L h
              · rw [decide_eq_true c5, if_pos rfl, Bool.true_and]
              · rw [decide_eq_false c5, if_neg (by simp), Bool.false_and, if_neg (by simp)]
    · refine ⟨false, fun h => by simp at h, fun K hK => ?_, fun K hK => ?_⟩
      · rw [show K + (d + 1) + 1 = (K + d + 1) + 1 from rfl]
        obtain ⟨M, hM⟩ : ∃ M, M = K + d + 1 := ⟨_, rfl⟩
        rw [← hM]
        simp only [impl_RadiosOk.l1]
        rw [if_pos hj, if_pos j0, if_pos hj, hh, in_i, w64 (x := (L.length : Int) - 1) (by omega) (by omega), decide_eq_false c1, Option.bind_some, if_neg (by simp)]; rfl
      · rw [show K + (d + 1) + 1 = (K + d + 1) + 1 from rfl]
        obtain ⟨M, hM⟩ : ∃ M, M = K + d + 1 := ⟨_, rfl⟩
        rw [← hM]
        simp only [spec_RadiosOk.l1]
        rw [if_pos hj, if_pos j0, hh, in_s, w64 (x := (L.length : Int) - 1) (by omega) (by omega), decide_eq_false c1, Option.bind_some, if_neg (by simp)]; rfl
def InL (L : List S58) (H : List Int) : Prop := ∀ h ∈ H, 0 ≤ h ∧ h < L.length
theorem rd_idx {T : List Int} {z : Int} (h : z ∈ T) : ∃ j : Int, 0 ≤ j ∧ j < T.length ∧ rd T j = z := by
  obtain ⟨n, hn, e⟩ := List.getElem_of_mem h
  refine ⟨(n : Int), by omega, by omega, ?_⟩
  simp [rd, List.getD_eq_getElem?_getD, List.getElem?_eq_getElem hn, e]
theorem rok_loop (L : List S58) (hL : Sm L) (d : Nat) : ∀ i : Int, 0 ≤ i → i ≤ L.length → (L.length : Int) - i = d →
    ∃ b : Bool, (b = true → ∀ i' : Int, i ≤ i' → i' < L.length → InL L (hrs L i')) ∧ ∀ K, 1100000 * d + 3000000 < K → impl_RadiosOk.l0 K L L (L.length : Int) i = some b ∧ spec_RadiosOk.l0 K L i = some b := by
  have hlen := hL.1
  induction d with
  | zero =>
    intro i h0 h1 hd
    refine ⟨true, fun _ i' a b => by omega, fun K hK => ?_⟩
    obtain ⟨K, rfl⟩ := pos_round (show 0 < K by omega)
    simp only [impl_RadiosOk.l0, spec_RadiosOk.l0]
    rw [if_neg (by omega), if_neg (by omega)]; exact ⟨rfl, rfl⟩
  | succ d ih =>
    intro i h0 h1 hd
    have hi : i < (L.length : Int) := by omega
    have hl := hL.2 i
    obtain ⟨b, hb, e⟩ := ih (i + 1) (by omega) (by omega) (by omega)
    obtain ⟨b2, hb2, f1, f2⟩ := rok_inner L hL i h0 hi (rd_T58 L i).f0 (rd_T58 L i).f1 (hrs L i).length 0 (by omega) (by omega) (by omega)
    -- the two tests ahead
    have step : ∀ c : Bool, ∀ K, 1100000 * (d + 1) + 3000000 < K + 2 → impl_RadiosOk.j1 (K + 1) L i L (L.length : Int) i c (rd_T58 L i).f0 (rd_T58 L i).f1 (rd_T58 L i).f2 = some (!c && (b2 && b)) ∧ spec_RadiosOk.j1 (K + 1) L i c (rd_T58 L i).f0 (rd_T58 L i).f1 (rd_T58 L i).f2 = some (!c && (b2 && b)) := by
      intro c K hK
      simp only [impl_RadiosOk.j1, spec_RadiosOk.j1]
      cases c with
      | true => rw [if_pos rfl, if_pos rfl]; exact ⟨rfl, rfl⟩
      | false =>
        rw [if_neg (by simp), if_neg (by simp)]
        have g1 := f1 (K - (hrs L i).length - 1) (by omega)
        have g2 := f2 (K - (hrs L i).length - 1) (by omega)
        rw [show K - (hrs L i).length - 1 + (hrs L i).length + 1 = K by omega] at g1 g2
        obtain ⟨k1, k2⟩ := e (K - (hrs L i).length - 1) (by omega)
        rw [k1] at g1
        rw [k2] at g2
        cases b2 with
        | true => rw [if_pos rfl] at g1 g2; exact ⟨g1, g2⟩
        | false => rw [if_neg (by simp)] at g1 g2; exact ⟨g1, g2⟩
    have sl : impl_slotOk.f (rd_T58 L i).f1 = some (decide (0 ≤ (rd_T58 L i).f1 ∧ (rd_T58 L i).f1 ≤ 19)) := by
      unfold impl_slotOk.f
      rw [in_i, Option.bind_some]
    have key : ∃ c : Bool, ∀ K, 1100000 * (d + 1) + 3000000 < K + 2 → impl_RadiosOk.l0 (K + 2) L L (L.length : Int) i = some (!c && (b2 && b)) ∧ spec_RadiosOk.l0 (K + 2) L i = some (!c && (b2 && b)) := by
      by_cases c1 : 1 ≤ (rd_T58 L i).f0 ∧ (rd_T58 L i).f0 ≤ 999999999
      · by_cases c2 : i > 0
        · by_cases c3 : (rd_T58 L (i - 1)).f0 ≥ (rd_T58 L i).f0
          · refine ⟨true, fun K hK => ?_⟩
            obtain ⟨s1, s2⟩ := step true K hK
            rw [show K + 2 = (K + 1) + 1 from rfl]
            obtain ⟨M, hM⟩ : ∃ M, M = K + 1 := ⟨_, rfl⟩
            rw [← hM] at s1 s2 ⊢
            simp only [impl_RadiosOk.l0, spec_RadiosOk.l0]
            unfold impl_idOk.f
            rw [if_pos hi, if_pos h0, if_pos hi, in_i, Option.bind_some, decide_eq_true c1, Option.bind_some, if_pos rfl, if_pos c2, w64 (x := i - 1) (by omega) (by omega), if_pos (by omega), if_pos (by omega), if_pos c3]
            rw [if_pos hi, if_pos h0, in_s, decide_eq_true c1, Option.bind_some, if_pos rfl, if_pos c2, if_pos (by omega), if_pos (by omega), if_pos c3]
            exact ⟨s1, s2⟩
          · refine ⟨!decide (0 ≤ (rd_T58 L i).f1 ∧ (rd_T58 L i).f1 ≤ 19), fun K hK => ?_⟩
            obtain ⟨s1, s2⟩ := step (!decide (0 ≤ (rd_T58 L i).f1 ∧ (rd_T58 L i).f1 ≤ 19)) K hK
            rw [show K + 2 = (K + 1) + 1 from rfl]
            obtain ⟨M, hM⟩ : ∃ M, M = K + 1 := ⟨_, rfl⟩
            rw [← hM] at s1 s2 ⊢
            simp only [impl_RadiosOk.l0, spec_RadiosOk.l0]
            unfold impl_idOk.f
            rw [if_pos hi, if_pos h0, if_pos hi, in_i, Option.bind_some, decide_eq_true c1, Option.bind_some, if_pos rfl, if_pos c2, w64 (x := i - 1) (by omega) (by omega), if_pos (by omega), if_pos (by omega), if_neg c3, sl, Option.bind_some]
            rw [if_pos hi, if_pos h0, in_s, decide_eq_true c1, Option.bind_some, if_pos rfl, if_pos c2, if_pos (by omega), if_pos (by omega), if_neg c3, in_s, Option.bind_some]
            exact ⟨s1, s2⟩
        · refine ⟨!decide (0 ≤ (rd_T58 L i).f1 ∧ (rd_T58 L i).f1 ≤ 19), fun K hK => ?_⟩
          obtain ⟨s1, s2⟩ := step (!decide (0 ≤ (rd_T58 L i).f1 ∧ (rd_T58 L i).f1 ≤ 19)) K hK
          rw [show K + 2 = (K + 1) + 1 from rfl]
          obtain ⟨M, hM⟩ : ∃ M, M = K + 1 := ⟨_, rfl⟩
          rw [← hM] at s1 s2 ⊢
          simp only [impl_RadiosOk.l0, spec_RadiosOk.l0]
          unfold impl_idOk.f
          rw [if_pos hi, if_pos h0, if_pos hi, in_i, Option.bind_some, decide_eq_true c1, Option.bind_some, if_pos rfl, if_neg c2, sl, Option.bind_some]
          rw [if_pos hi, if_pos h0, in_s, decide_eq_true c1, Option.bind_some, if_pos rfl, if_neg c2, in_s, Option.bind_some]
          exact ⟨s1, s2⟩
      · refine ⟨true, fun K hK => ?_⟩
        obtain ⟨s1, s2⟩ := step true K hK
        rw [show K + 2 = (K + 1) + 1 from rfl]
        obtain ⟨M, hM⟩ : ∃ M, M = K + 1 := ⟨_, rfl⟩
        rw [← hM] at s1 s2 ⊢
        simp only [impl_RadiosOk.l0, spec_RadiosOk.l0]
        unfold impl_idOk.f
        rw [if_pos hi, if_pos h0, if_pos hi, in_i, Option.bind_some, decide_eq_false c1, Option.bind_some, if_neg (by simp)]
        rw [if_pos hi, if_pos h0, in_s, decide_eq_false c1, Option.bind_some, if_neg (by simp)]
        exact ⟨s1, s2⟩
    obtain ⟨c, hkey⟩ := key
    refine ⟨!c && (b2 && b), fun hbb i' a1 a2 => ?_, fun K hK => ?_⟩
    · simp only [Bool.and_eq_true] at hbb
      by_cases e' : i' = i
      · subst e'
        intro h hh
        obtain ⟨j, j0, j1, ej⟩ := rd_idx hh
        rw [← ej]
        exact hb2 hbb.2.1 j j0 j1
      · exact hb hbb.2.2 i' (by omega) a2
    · obtain ⟨K, rfl⟩ : ∃ M, K = M + 2 := ⟨K - 2, by omega⟩
      exact hkey K hK
theorem rok_ok (L : List S58) (hL : Sm L) : ∃ b : Bool, (b = true → L.length ≤ 24 ∧ ∀ i : Int, 0 ≤ i → i < L.length → InL L (hrs L i)) ∧ ∀ K, 40000000 < K → impl_RadiosOk.f K L = some b ∧ spec_RadiosOk.f K L = some b := by
  by_cases c : (1 : Int) ≤ (L.length : Int) ∧ (L.length : Int) ≤ 24
  · obtain ⟨b, hb, e⟩ := rok_loop L hL L.length 0 (by omega) (by omega) (by omega)
    refine ⟨b, fun h => ⟨by omega, fun i h0 h1 => hb h i h0 h1⟩, fun K hK => ?_⟩
    unfold impl_RadiosOk.f spec_RadiosOk.f
    rw [in_i, in_s, decide_eq_true c, Option.bind_some, Option.bind_some, if_pos rfl, if_pos rfl]
    exact e K (by omega)
  · refine ⟨false, fun h => by simp at h, fun K hK => ?_⟩
    unfold impl_RadiosOk.f spec_RadiosOk.f
    rw [in_i, in_s, decide_eq_false c, Option.bind_some, Option.bind_some, if_neg (by simp), if_neg (by simp)]
    exact ⟨rfl, rfl⟩
def tk (L : List S58) (H : List Int) (v : Int) : Bool := H.any fun h => slot L h == v
theorem tk_iff {L : List S58} {H : List Int} {v : Int} : tk L H v = true ↔ ∃ h ∈ H, slot L h = v := by
  simp [tk]
theorem idxC (L : List S58) (R : S58) (H : List Int) (hH : InL L H) (hl : H.length ≤ 10000000) (d : Nat) : ∀ i : Int, 0 ≤ i → i ≤ H.length → (H.length : Int) - i = d → ∃ r, (∀ k, slices_IndexFunc_int_int_at_impl_Clashes_1.l0 (k + d + 1) H (H.length : Int) i [L] [R] = some r) ∧ decide (r ≥ 0) = tk L (H.drop i.toNat) R.f1 := by
  induction d with
  | zero =>
    intro i h0 h1 hd
    refine ⟨-1, fun k => ?_, ?_⟩
    · simp only [slices_IndexFunc_int_int_at_impl_Clashes_1.l0]
      rw [if_neg (by omega)]
    · rw [List.drop_of_length_le (by omega)]; rfl
  | succ d ih =>
    intro i h0 h1 hd
    have hi : i < (H.length : Int) := by omega
    obtain ⟨r, e, hr⟩ := ih (i + 1) (by omega) (by omega) (by omega)
    obtain ⟨b0, b1⟩ := hH _ (rd_mem h0 hi)
    have hc : impl_Clashes_1_c.f (rd H i) [L] [R] = some (slot L (rd H i) == R.f1) := by
      unfold impl_Clashes_1_c.f
      rw [if_pos (by simp), if_pos b0, if_pos (by exact b1), if_pos (by simp)]
      rfl
    rw [drop_rd h0 hi]
    by_cases c : (slot L (rd H i) == R.f1) = true
    · refine ⟨i, fun k => ?_, ?_⟩
      · rw [show k + (d + 1) + 1 = (k + d + 1) + 1 from rfl]
        obtain ⟨M, hM⟩ : ∃ M, M = k + d + 1 := ⟨_, rfl⟩
        rw [← hM]
        simp only [slices_IndexFunc_int_int_at_impl_Clashes_1.l0]
        rw [if_pos hi, if_pos h0, if_pos hi, hc, Option.bind_some, if_pos c]
      · simp only [tk, List.any_cons, c, Bool.true_or, decide_eq_true_eq]; omega
    · refine ⟨r, fun k => ?_, ?_⟩
      · have e' := e k
        rw [show k + (d + 1) + 1 = (k + d + 1) + 1 from rfl]
        obtain ⟨M, hM⟩ : ∃ M, M = k + d + 1 := ⟨_, rfl⟩
        rw [← hM] at e' ⊢
        simp only [slices_IndexFunc_int_int_at_impl_Clashes_1.l0]
        rw [if_pos hi, if_pos h0, if_pos hi, hc, Option.bind_some, if_neg c, w64 (x := i + 1) (by omega) (by omega)]
        exact e'
      · rw [hr]
        have c' : (slot L (rd H i) == R.f1) = false := by simpa using c
        simp only [tk, List.any_cons, c', Bool.false_or]
theorem cfC (L : List S58) (R : S58) (H : List Int) (hH : InL L H) (hl : H.length ≤ 10000000) (k : Nat) (hk : H.length < k) : slices_ContainsFunc_int_int_at_impl_Clashes_1.f k H [L] [R] = some (tk L H R.f1) := by
  obtain ⟨r, e, hr⟩ := idxC L R H hH hl H.length 0 (by omega) (by omega) (by omega)
  have e' := e (k - H.length - 1)
  rw [show k - H.length - 1 + H.length + 1 = k by omega] at e'
  unfold slices_ContainsFunc_int_int_at_impl_Clashes_1.f slices_IndexFunc_int_int_at_impl_Clashes_1.f
  rw [e', Option.bind_some, hr, Int.toNat_zero, List.drop_zero]
def clb (L : List S58) (i : Int) : Bool := tk L (hrs L i) (slot L i)
def cls (L : List S58) : Nat → Int → List Int
  | 0, _ => []
  | d + 1, i => if clb L i = true then i :: cls L d (i + 1) else cls L d (i + 1)
def CL (L : List S58) : List Int := cls L L.length 0
theorem cls_mem {L : List S58} {x : Int} (d : Nat) : ∀ i, x ∈ cls L d i ↔ i ≤ x ∧ x < i + d ∧ clb L x = true := by
  induction d with
  | zero => intro i; simp [cls]; omega
  | succ d ih =>
    intro i
    simp only [cls]
    by_cases c : clb L i = true
    · rw [if_pos c, List.mem_cons, ih]
      constructor
      · rintro (h | h)
        · rw [h]; exact ⟨by omega, by omega, c⟩
        · exact ⟨by omega, by omega, h.2.2⟩
      · rintro ⟨h1, h2, h3⟩
        by_cases e : x = i
        · exact .inl e
        · exact .inr ⟨by omega, by omega, h3⟩
    · rw [if_neg c, ih]
      constructor
      · rintro ⟨h1, h2, h3⟩; exact ⟨by omega, by omega, h3⟩
      · rintro ⟨h1, h2, h3⟩
        have : x ≠ i := fun e => c (e ▸ h3)
        exact ⟨by omega, by omega, h3⟩
theorem cls_len (L : List S58) (d : Nat) : ∀ i, (cls L d i).length ≤ d := by
  induction d with
  | zero => intro i; simp [cls]
  | succ d ih =>
    intro i
    have := ih (i + 1)
    simp only [cls]
    split <;> (try simp only [List.length_cons]) <;> omega
theorem cls_le {L L' : List S58} (d : Nat) : ∀ i : Int, (∀ x, i ≤ x → x < i + d → clb L' x = true → clb L x = true) → (cls L' d i).length ≤ (cls L d i).length := by
  induction d with
  | zero => intro i _; simp [cls]
  | succ d ih =>
    intro i h
    have := ih (i + 1) (fun x h0 h1 => h x (by omega) (by omega))
    simp only [cls]
    by_cases c : clb L' i = true
    · rw [if_pos c, if_pos (h i (by omega) (by omega) c)]; simp only [List.length_cons]; omega
    · rw [if_neg c]; split <;> (try simp only [List.length_cons]) <;> omega
theorem cls_lt {L L' : List S58} (d : Nat) : ∀ i : Int, (∀ x, i ≤ x → x < i + d → clb L' x = true → clb L x = true) → ∀ a, i ≤ a → a < i + d → clb L a = true → clb L' a ≠ true → (cls L' d i).length < (cls L d i).length := by
  induction d with
  | zero => intro i _ a h0 h1; omega
  | succ d ih =>
    intro i h a h0 h1 ha hna
    simp only [cls]
    by_cases e : a = i
    · subst e
      rw [if_pos ha, if_neg hna]
      have := cls_le (L := L) (L' := L') d (a + 1) (fun x h0 h1 => h x (by omega) (by omega))
      simp only [List.length_cons]; omega
    · have := ih (i + 1) (fun x h0 h1 => h x (by omega) (by omega)) a (by omega) (by omega) ha hna
      by_cases c : clb L' i = true
      · rw [if_pos c, if_pos (h i (by omega) (by omega) c)]; simp only [List.length_cons]; omega
      · rw [if_neg c]; split <;> (try simp only [List.length_cons]) <;> omega
theorem own_intS (l : List Int) (h : l.length ≤ 1048576) : impl_own_int.f l = some l := by
  unfold impl_own_int.f
  rw [if_pos (by omega), if_pos (by omega), Option.bind_some, if_pos (by simp; omega)]; rfl
theorem clash_loop (L : List S58) (hL : Sm L) (h24 : L.length ≤ 24) (hin : ∀ i : Int, 0 ≤ i → i < L.length → InL L (hrs L i)) (d : Nat) : ∀ (o : List Int) (i : Int), 0 ≤ i → i ≤ L.length → (L.length : Int) - i = d → (o.length : Int) ≤ i → ∀ K, 2000000 < K → impl_Clashes.l0 (K + d + 1) o L (L.length : Int) i L = some (o ++ cls L d i) := by
  induction d with
  | zero =>
    intro o i h0 h1 hd ho K hK
    simp only [impl_Clashes.l0]
    rw [if_neg (by omega), own_intS o (by omega), Option.bind_some]
    simp [cls]
  | succ d ih =>
    intro o i h0 h1 hd ho K hK
    have hi : i < (L.length : Int) := by omega
    have hl9 := hL.2 i
    have e1 := ih (o ++ [i]) (i + 1) (by omega) (by omega) (by omega) (by simp; omega) K hK
    have e2 := ih o (i + 1) (by omega) (by omega) (by omega) (by omega) K hK
    rw [show K + (d + 1) + 1 = (K + d + 1) + 1 from rfl]
    obtain ⟨M, hM⟩ : ∃ M, M = K + d + 1 := ⟨_, rfl⟩
    have hM2 : 2000000 < M := by omega
    rw [← hM] at e1 e2 ⊢
    have hc : slices_ContainsFunc_int_int_at_impl_Clashes_1.f M (rd_T58 L i).f2 [L] [(⟨(rd_T58 L i).f0, (rd_T58 L i).f1, (rd_T58 L i).f2⟩ : S58)] = some (clb L i) := cfC L _ (hrs L i) (hin i h0 hi) (by omega) M (by omega)
    simp only [impl_Clashes.l0, cls]
    rw [if_pos hi, if_pos h0, if_pos hi, hc, Option.bind_some, w64 (x := i + 1) (by omega) (by omega)]
    by_cases c : clb L i = true
    · rw [if_pos c, if_pos c, if_pos (by omega), e1]; simp
    · rw [if_neg c, if_neg c, e2]
/-- The reference looks at one after the other. -/
theorem hit_loop (L : List S58) (hL : Sm L) (i : Int) (h0 : 0 ≤ i) (h1 : i < L.length) (hin : InL L (hrs L i)) (o : List Int) (ho : o.length ≤ 1048576) (d : Nat) : ∀ (hit : Bool) (j : Int), 0 ≤ j → j ≤ (hrs L i).length → ((hrs L i).length : Int) - j = d →
    ∀ K, spec_Clashes.l1 (K + d + 1) L o i hit j = if (hit || tk L ((hrs L i).drop j.toNat) (slot L i)) = true then spec_Clashes.l0 K L (o ++ [i]) (i + 1) else spec_Clashes.l0 K L o (i + 1) := by
  have hlen := hL.1
  have hl := hL.2 i
  induction d with
  | zero =>
    intro hit j j0 j1 hd K
    simp only [spec_Clashes.l1]
    rw [if_pos h0, if_pos h1, if_neg (by unfold hrs at hd; omega), List.drop_of_length_le (by omega), w64 (x := i + 1) (by omega) (by omega)]
    cases hit with
    | true => rw [if_pos rfl, if_pos (by omega)]; rfl
    | false => rw [if_neg (by simp)]; rfl
  | succ d ih =>
    intro hit j j0 j1 hd K
    have hj : j < ((hrs L i).length : Int) := by omega
    have hj' : j < ((rd_T58 L i).f2.length : Int) := hj
    obtain ⟨b0, b1⟩ := hin _ (rd_mem j0 hj)
    have e := fun hit => ih hit (j + 1) (by omega) (by omega) (by omega) K
    rw [show K + (d + 1) + 1 = (K + d + 1) + 1 from rfl]
    obtain ⟨M, hM⟩ : ∃ M, M = K + d + 1 := ⟨_, rfl⟩
    rw [← hM] at e ⊢
    simp only [spec_Clashes.l1]
    rw [if_pos h0, if_pos h1, if_pos hj', w64 (x := j + 1) (by omega) (by omega), drop_rd j0 hj]
    cases hit with
    | true => rw [if_pos rfl, e true, Bool.true_or, Bool.true_or]
    | false =>
      have hb0 : 0 ≤ rd (rd_T58 L i).f2 j := b0
      have hb1 : rd (rd_T58 L i).f2 j < L.length := b1
      rw [if_neg (by simp), if_pos j0, if_pos hb0, if_pos hb1, e]
      rw [Bool.false_or]
      simp only [tk, List.any_cons]
      rfl
theorem spec_loop (L : List S58) (hL : Sm L) (h24 : L.length ≤ 24) (hin : ∀ i : Int, 0 ≤ i → i < L.length → InL L (hrs L i)) (hok : ∀ K, 40000000 < K → spec_RadiosOk.f K L = some true) (d : Nat) : ∀ (o : List Int) (i : Int), 0 ≤ i → i ≤ L.length → (L.length : Int) - i = d → (o.length : Int) ≤ i → ∀ K, 1100000 * d + 50000000 < K → spec_Clashes.l0 K L o i = some (o ++ cls L d i) := by
  induction d with
  | zero =>
    intro o i h0 h1 hd ho K hK
    obtain ⟨K, rfl⟩ : ∃ M, K = M + 1 + 1 := ⟨K - 2, by omega⟩
    simp only [spec_Clashes.l0, spec_Clashes.j1]
    rw [if_neg (by omega), if_neg (by simp)]
    simp [cls]
  | succ d ih =>
    intro o i h0 h1 hd ho K hK
    have hi : i < (L.length : Int) := by omega
    have hl := hL.2 i
    obtain ⟨K, rfl⟩ : ∃ M, K = M + (hrs L i).length + 1 + 1 + 1 := ⟨K - (hrs L i).length - 3, by omega⟩
    have e := hit_loop L hL i h0 hi (hin i h0 hi) o (by omega) (hrs L i).length false 0 (by omega) (by omega) (by omega) K
    rw [ih (o ++ [i]) (i + 1) (by omega) (by omega) (by omega) (by simp; omega) K (by omega), ih o (i + 1) (by omega) (by omega) (by omega) (by omega) K (by omega), Bool.false_or, Int.toNat_zero, List.drop_zero] at e
    obtain ⟨M, hM⟩ : ∃ M, M = K + (hrs L i).length + 1 := ⟨_, rfl⟩
    rw [← hM] at e ⊢
    have e2 : spec_Clashes.j1 (M + 1) L o i true = some (o ++ cls L (d + 1) i) := by
      simp only [spec_Clashes.j1]
      rw [if_pos trivial, e]
      simp only [cls]
      show (if clb L i = true then _ else _) = _
      by_cases c : clb L i = true
      · rw [if_pos c, if_pos c]; simp
      · rw [if_neg c, if_neg c]
    have hok' := hok (M + 1) (by omega)
    obtain ⟨M', hM'⟩ : ∃ M', M' = M + 1 := ⟨_, rfl⟩
    rw [← hM'] at e2 hok' ⊢
    simp only [spec_Clashes.l0]
    rw [if_pos hi, hok', Option.bind_some, e2]
theorem clashes_same (L : List S58) (hL : Sm L) : ∃ C : List Int, C.length ≤ 1000 ∧ ∀ K, 100000000 < K → impl_Clashes.f K L = some C ∧ spec_Clashes.f K L = some C := by
  obtain ⟨b, hb, e⟩ := rok_ok L hL
  cases b with
  | true =>
    obtain ⟨h24, hin⟩ := hb rfl
    refine ⟨cls L L.length 0, by have := cls_len L L.length 0; omega, fun K hK => ⟨?_, ?_⟩⟩
    · unfold impl_Clashes.f
      rw [(e K (by omega)).1, Option.bind_some, if_pos rfl]
      have := clash_loop L hL h24 hin L.length [] 0 (by omega) (by omega) (by omega) (by simp) (K - L.length - 1) (by omega)
      rw [show K - L.length - 1 + L.length + 1 = K by omega] at this
      exact this
    · exact spec_loop L hL h24 hin (fun K hK => (e K hK).2) L.length [] 0 (by omega) (by omega) (by omega) (by simp) K (by omega)
  | false =>
    refine ⟨[], by simp, fun K hK => ⟨?_, ?_⟩⟩
    · unfold impl_Clashes.f
      rw [(e K (by omega)).1, Option.bind_some, if_neg (by simp)]
    · unfold spec_Clashes.f
      obtain ⟨K, rfl⟩ : ∃ M, K = M + 1 + 1 := ⟨K - 2, by omega⟩
      have h1 : spec_Clashes.j1 (K + 1) L [] 0 false = some [] := by
        simp only [spec_Clashes.j1]
        rw [if_neg (by simp)]
      have h2 := (e (K + 1) (by omega)).2
      obtain ⟨M, hM⟩ : ∃ M, M = K + 1 := ⟨_, rfl⟩
      rw [← hM] at h1 h2 ⊢
      simp only [spec_Clashes.l0]
      by_cases c : 0 < (L.length : Int)
      · rw [if_pos c, h2, Option.bind_some, h1]
      · rw [if_neg c, h1]
/-! ### copies, sizes, marks -/
def toR (l : List S86) : List S58 := l.map fun x => ⟨x.f0, x.f1, x.f2⟩
def tot : List S86 → Int
  | [] => 0
  | x :: l => x.f2.length + tot l
theorem tot_nonneg (l : List S86) : 0 ≤ tot l := by
  induction l with
  | nil => exact Int.le_refl _
  | cons x l ih => simp only [tot]; omega
theorem tot_mem {l : List S86} {x : S86} (h : x ∈ l) : (x.f2.length : Int) ≤ tot l := by
  induction l with
  | nil => cases h
  | cons y l ih =>
    simp only [tot]
    have := tot_nonneg l
    rcases List.mem_cons.1 h with rfl | h
    · omega
    · have := ih h; omega
theorem sz_loop (l : List S86) (hl : l.length ≤ 1048576) (hb : ∀ x ∈ l, x.f2.length ≤ 9223372036854775807) (d : Nat) : ∀ (i a : Int), 0 ≤ i → i ≤ l.length → (l.length : Int) - i = d → 0 ≤ a → a ≤ 1048576 → ∃ r, (0 ≤ r → tot (l.drop i.toNat) + r = a) ∧ ∀ k, laws_szRadioS.l0 (k + d + 1) l a i = some r := by
  induction d with
  | zero =>
    intro i a h0 h1 hd ha ha1
    refine ⟨a, fun _ => ?_, fun k => ?_⟩
    · rw [List.drop_of_length_le (by omega)]; simp [tot]
    · simp only [laws_szRadioS.l0]
      rw [if_neg (by omega)]
  | succ d ih =>
    intro i a h0 h1 hd ha ha1
    have hi : i < (l.length : Int) := by omega
    have hx := hb _ (rd86_mem h0 hi)
    have hw : wrap64 (a - ((rd_T86 l i).f2.length : Int)) = a - ((rd_T86 l i).f2.length : Int) := w64 (by omega) (by omega)
    by_cases c : a - ((rd_T86 l i).f2.length : Int) < 0
    · refine ⟨-1, fun h => by omega, fun k => ?_⟩
      rw [show k + (d + 1) + 1 = (k + d + 1) + 1 from rfl]
      obtain ⟨M, hM⟩ : ∃ M, M = k + d + 1 := ⟨_, rfl⟩
      rw [← hM]
      simp only [laws_szRadioS.l0]
      unfold laws_szRadio.f laws_szIntS.f
      rw [if_pos hi, if_pos h0, hw, if_pos c, Option.bind_some, if_pos (by omega), Option.bind_some, if_pos (by omega)]
    · obtain ⟨r, hr, e⟩ := ih (i + 1) (a - ((rd_T86 l i).f2.length : Int)) (by omega) (by omega) (by omega) (by omega) (by omega)
      refine ⟨r, fun h => ?_, fun k => ?_⟩
      · rw [rd86_drop h0 hi]
        have := hr h
        simp only [tot]; omega
      · have e' := e k
        rw [show k + (d + 1) + 1 = (k + d + 1) + 1 from rfl]
        obtain ⟨M, hM⟩ : ∃ M, M = k + d + 1 := ⟨_, rfl⟩
        rw [← hM] at e' ⊢
        simp only [laws_szRadioS.l0]
        unfold laws_szRadio.f laws_szIntS.f
        rw [if_pos hi, if_pos h0, hw, if_neg c, Option.bind_some, if_neg c, Option.bind_some, if_neg c, w64 (x := i + 1) (by omega) (by omega)]
        exact e'
theorem sz_ok (l : List S86) (hl0 : l.length ≤ 9223372036854775807) (hb : ∀ x ∈ l, x.f2.length ≤ 9223372036854775807) : ∃ r, (0 ≤ r → l.length ≤ 1048576 ∧ tot l ≤ 1048576) ∧ ∀ k, 2000000 < k → laws_szRadioS.f k l 1048576 = some r := by
  have hw : wrap64 (1048576 - (l.length : Int)) = 1048576 - (l.length : Int) := w64 (by omega) (by omega)
  by_cases c : (1048576 : Int) - (l.length : Int) < 0
  · refine ⟨-1, fun h => by omega, fun k hk => ?_⟩
    unfold laws_szRadioS.f
    rw [hw, if_pos c]
  · obtain ⟨r, hr, e⟩ := sz_loop l (by omega) hb l.length 0 (1048576 - (l.length : Int)) (by omega) (by omega) (by omega) (by omega) (by omega)
    refine ⟨r, fun h => ⟨by omega, ?_⟩, fun k hk => ?_⟩
    · have := hr h
      rw [Int.toNat_zero, List.drop_zero] at this
      omega
    · unfold laws_szRadioS.f
      rw [hw, if_neg c]
      have e' := e (k - l.length - 1)
      rw [show k - l.length - 1 + l.length + 1 = k by omega] at e'
      exact e'
theorem toR_rd {l : List S86} {i : Int} (h0 : 0 ≤ i) (h1 : i < l.length) : rd_T58 (toR l) i = ⟨(rd_T86 l i).f0, (rd_T86 l i).f1, (rd_T86 l i).f2⟩ := by
  obtain ⟨h, e⟩ := rd86_lt h0 h1
  rw [e]
  simp [rd_T58, toR, List.getD_eq_getElem?_getD, List.getElem?_eq_getElem h]
theorem toR_len (l : List S86) : (toR l).length = l.length := by simp [toR]
theorem toR_loop (l : List S86) (hl : l.length ≤ 1048576) (hb : ∀ x ∈ l, x.f2.length ≤ 1048576) (d : Nat) : ∀ (o : List S58) (i : Int), 0 ≤ i → i ≤ l.length → (l.length : Int) - i = d → o.length = l.length → (∀ j : Int, 0 ≤ j → j < i → rd_T58 o j = rd_T58 (toR l) j) → ∀ k, 2000000 < k → laws_toRadioS.l0 (k + d + 1) l o i = some (toR l) := by
  induction d with
  | zero =>
    intro o i h0 h1 hd ho hr k hk
    simp only [laws_toRadioS.l0]
    rw [if_neg (by omega)]
    congr 1
    exact ext58 (by rw [ho, toR_len]) fun j j0 j1 => hr j j0 (by omega)
  | succ d ih =>
    intro o i h0 h1 hd ho hr k hk
    have hi : i < (l.length : Int) := by omega
    have hx := hb _ (rd86_mem h0 hi)
    have e := ih (o.set i.toNat ⟨(rd_T86 l i).f0, (rd_T86 l i).f1, (rd_T86 l i).f2⟩) (i + 1) (by omega) (by omega) (by omega) (by simp [ho]) (fun j j0 j1 => by
      by_cases c : i = j
      · subst c; rw [rd58_set_eq h0 (by omega), toR_rd h0 hi]
      · rw [rd58_set_ne h0 j0 c]; exact hr j j0 (by omega)) k hk
    rw [show k + (d + 1) + 1 = (k + d + 1) + 1 from rfl]
    obtain ⟨M, hM⟩ : ∃ M, M = k + d + 1 := ⟨_, rfl⟩
    have hM2 : 2000000 < M := by omega
    rw [← hM] at e ⊢
    simp only [laws_toRadioS.l0]
    unfold laws_toRadio.f
    rw [if_pos hi, if_pos h0, toI_ok _ (by omega) M (by omega), Option.bind_some, Option.bind_some, if_pos (by omega), w64 (x := i + 1) (by omega) (by omega)]
    exact e
theorem toR_ok (l : List S86) (hl : l.length ≤ 1048576) (hb : ∀ x ∈ l, x.f2.length ≤ 1048576) (k : Nat) (hk : 4000000 < k) : laws_toRadioS.f k l = some (toR l) := by
  have e := toR_loop l hl hb l.length (List.replicate l.length z58) 0 (by omega) (by omega) (by omega) (by simp) (fun j j0 j1 => by omega) (k - l.length - 1) (by omega)
  rw [show k - l.length - 1 + l.length + 1 = k by omega] at e
  unfold laws_toRadioS.f
  rw [if_pos (by omega), if_pos (by omega), show ((l.length : Int)).toNat = l.length by omega]
  exact e
theorem eqR_loop (L : List S58) (hL : Sm L) (d : Nat) : ∀ i : Int, 0 ≤ i → i ≤ L.length → (L.length : Int) - i = d → ∀ k, 2000000 < k → laws_eqRadioS.l0 (k + d + 1) L L i = some true := by
  have hlen := hL.1
  induction d with
  | zero =>
    intro i h0 h1 hd k hk
    simp only [laws_eqRadioS.l0]
    rw [if_neg (by omega)]
  | succ d ih =>
    intro i h0 h1 hd k hk
    have hi : i < (L.length : Int) := by omega
    have hl := hL.2 i
    have e := ih (i + 1) (by omega) (by omega) (by omega) k hk
    rw [show k + (d + 1) + 1 = (k + d + 1) + 1 from rfl]
    obtain ⟨M, hM⟩ : ∃ M, M = k + d + 1 := ⟨_, rfl⟩
    have hM2 : 2000000 < M := by omega
    rw [← hM] at e ⊢
    have hq : laws_eqIntS.f M (rd_T58 L i).f2 (rd_T58 L i).f2 = some true := eqI (hrs L i) (by omega) M (by omega)
    simp only [laws_eqRadioS.l0]
    unfold laws_eqRadio.f
    rw [if_pos hi, if_pos h0, if_pos hi, if_pos rfl, if_pos rfl, hq, Option.bind_some, if_pos rfl, Option.bind_some, if_pos rfl, w64 (x := i + 1) (by omega) (by omega)]
    exact e
theorem eqR_ok (L : List S58) (hL : Sm L) (k : Nat) (hk : 4000000 < k) : laws_eqRadioS.f k L L = some true := by
  have hlen := hL.1
  have e := eqR_loop L hL L.length 0 (by omega) (by omega) (by omega) (k - L.length - 1) (by omega)
  rw [show k - L.length - 1 + L.length + 1 = k by omega] at e
  unfold laws_eqRadioS.f
  rw [if_pos rfl]
  exact e
theorem markR_loop (l : List S86) (hl : l.length ≤ 1048576) (ht : tot l ≤ 1048576) (d : Nat) : ∀ (a i : Int), 0 ≤ i → i ≤ l.length → (l.length : Int) - i = d → 0 ≤ a → a + 2 * d + tot (l.drop i.toNat) ≤ 10000000 → ∃ r, 0 ≤ r ∧ ∀ k, 2000000 < k → laws_markRadioS.l0 (k + d + 1) (toR l) a i = some r := by
  induction d with
  | zero =>
    intro a i h0 h1 hd ha hs
    refine ⟨a, ha, fun k hk => ?_⟩
    simp only [laws_markRadioS.l0]
    rw [if_neg (by rw [toR_len]; omega)]
  | succ d ih =>
    intro a i h0 h1 hd ha hs
    have hi : i < (l.length : Int) := by omega
    have hx := tot_mem (rd86_mem h0 hi)
    rw [rd86_drop h0 hi] at hs
    simp only [tot] at hs
    have hn := tot_nonneg (l.drop (i + 1).toNat)
    obtain ⟨r, hr, e⟩ := ih (a + 2 + ((rd_T86 l i).f2.length : Int)) (i + 1) (by omega) (by omega) (by omega) (by omega) (by omega)
    refine ⟨r, hr, fun k hk => ?_⟩
    have e' := e k hk
    rw [show k + (d + 1) + 1 = (k + d + 1) + 1 from rfl]
    obtain ⟨M, hM⟩ : ∃ M, M = k + d + 1 := ⟨_, rfl⟩
    have hM2 : 2000000 < M := by omega
    rw [← hM] at e' ⊢
    obtain ⟨q, hq, _⟩ := markI_loop (rd_T86 l i).f2.length M (rd_T86 l i).f2 (a + 1 + 1) 0 (by omega) (by omega) (by omega) (by omega) (by omega) (by omega) (by omega)
    have hq' : laws_markIntS.f M (rd_T58 (toR l) i).f2 (wrap64 (wrap64 (a + 1) + 1)) = some (a + 1 + 1 + ((rd_T86 l i).f2.length : Int), q) := by
      rw [toR_rd h0 hi, w64 (x := a + 1) (by omega) (by omega), w64 (x := a + 1 + 1) (by omega) (by omega)]
      exact hq
    simp only [laws_markRadioS.l0]
    rw [if_pos (by rw [toR_len]; exact hi), if_pos h0, hq', Option.bind_some, w64 (x := i + 1) (by omega) (by omega)]
    dsimp only
    rw [show a + 1 + 1 + ((rd_T86 l i).f2.length : Int) = a + 2 + ((rd_T86 l i).f2.length : Int) by omega]
    exact e'
theorem markR_ok (l : List S86) (hl : l.length ≤ 1048576) (ht : tot l ≤ 1048576) : ∃ r, 0 ≤ r ∧ ∀ k, 4000000 < k → laws_markRadioS.f k (toR l) 1 = some r := by
  obtain ⟨r, hr, e⟩ := markR_loop l hl ht l.length 1 0 (by omega) (by omega) (by omega) (by omega) (by rw [Int.toNat_zero, List.drop_zero]; omega)
  refine ⟨r, hr, fun k hk => ?_⟩
  have e' := e (k - l.length - 1) (by omega)
  rw [show k - l.length - 1 + l.length + 1 = k by omega] at e'
  exact e'
theorem FnExactClashes : laws_FnExactClashes.Pure := by
  intro l hl
  obtain ⟨hl0, hok⟩ := hl
  obtain ⟨r, hr, hsz⟩ := sz_ok l hl0 (fun x hx => (hok x hx).2.2.1)
  obtain ⟨K, hK⟩ : ∃ K : Nat, K = 200000000 := ⟨_, rfl⟩
  refine ⟨K + 1, ?_⟩
  unfold laws_FnExactClashes.f
  rw [hsz _ (by omega), Option.bind_some]
  by_cases hn : r < 0
  · rw [if_pos hn]
  · obtain ⟨hl1, ht⟩ := hr (by omega)
    have hb : ∀ x ∈ l, x.f2.length ≤ 1048576 := fun x hx => by have := tot_mem hx; omega
    have hS : Sm (toR l) := ⟨by rw [toR_len]; exact hl1, fun i => by
      unfold hrs
      by_cases c : i.toNat < (toR l).length
      · have hc : rd_T58 (toR l) i = (toR l)[i.toNat] := by simp [rd_T58, List.getD_eq_getElem?_getD, List.getElem?_eq_getElem c]
        rw [hc]
        simp only [toR, List.getElem_map]
        exact hb _ (List.getElem_mem _)
      · have hc : rd_T58 (toR l) i = z58 := by simp [rd_T58, List.getD_eq_getElem?_getD, List.getElem?_eq_none (by omega : (toR l).length ≤ i.toNat)]
        rw [hc]; decide⟩
    obtain ⟨C, hCl, hC⟩ := clashes_same (toR l) hS
    obtain ⟨q, hq, hmark⟩ := markR_ok l hl1 ht
    obtain ⟨m, hm, hml, hmr⟩ := markI C (by omega) K (by omega)
    have hh := heldI m (by omega) (fun j h0 h1 => hmr j h0 (by omega)) K (by omega)
    rw [if_neg hn, toR_ok l hl1 hb _ (by omega), Option.bind_some, (hC _ (by omega)).2, Option.bind_some, Option.bind_some, (hC _ (by omega)).1, Option.bind_some, eqI C (by omega) _ (by omega), Option.bind_some, if_pos rfl, Option.bind_some, eqR_ok _ hS _ (by omega), Option.bind_some, if_pos rfl, hmark _ (by omega), Option.bind_some, if_neg (by omega), Option.bind_some]
    simp only [laws_FnExactClashes.j0]
    rw [if_neg (by simp), hm, Option.bind_some]
    dsimp only
    rw [hh, Option.bind_some, if_neg (by omega), if_pos (by omega), toR_ok l hl1 hb _ (by omega), Option.bind_some, (hC _ (by omega)).1, Option.bind_some, eqI C (by omega) _ (by omega), Option.bind_some, if_pos rfl, Option.bind_some, if_neg (by omega), if_pos (by omega)]

end Go.Proofs.Ytbhdnhpkpbhilaa.Pure
