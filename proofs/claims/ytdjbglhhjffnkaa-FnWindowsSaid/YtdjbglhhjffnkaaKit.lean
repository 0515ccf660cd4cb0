/- Plain lemmas of this work's own on numbers and lists: no program in sight. -/
import Derived.Test.YtdjbglhhjffnkaaWWords
import Derived.Test.YtdjbglhhjffnkaaWMore
set_option linter.unusedVariables false
set_option linter.unusedSimpArgs false
namespace Go.Proofs.YtdjbglhhjffnkaaW.Kit
open Go.RowKit Go.Proofs.YtdjbglhhjffnkaaW.PrintWords

theorem w64 {x : Int} (h0 : -9223372036854775808 ≤ x) (h1 : x ≤ 9223372036854775807) : wrap64 x = x := by
  unfold wrap64
  omega
theorem td {x c : Int} (h : 0 ≤ x) : Int.tdiv x c = x / c := Int.tdiv_eq_ediv_of_nonneg h
theorem tm {x c : Int} (h : 0 ≤ x) : Int.tmod x c = x % c := Int.tmod_eq_emod_of_nonneg h

/-- Loops count rounds down: k is no zero. -/
theorem pos_round {k : Nat} (h : 0 < k) : ∃ m, k = m + 1 := ⟨k - 1, by omega⟩

/-! ### lists of numbers, read by an Int -/
theorem rd_nat (l : List Int) (i : Nat) : rd l (i : Int) = l.getD i 0 := by simp [rd]
theorem rd_lt {l : List Int} {i : Int} (h0 : 0 ≤ i) (h1 : i < l.length) : ∃ h : i.toNat < l.length, rd l i = l[i.toNat]'h := by
  have h : i.toNat < l.length := by omega
  exact ⟨h, by simp [rd, List.getD_eq_getElem?_getD, List.getElem?_eq_getElem h]⟩
theorem rd_mem {l : List Int} {i : Int} (h0 : 0 ≤ i) (h1 : i < l.length) : rd l i ∈ l := by
  obtain ⟨h, e⟩ := rd_lt h0 h1
  rw [e]; exact List.getElem_mem h
theorem drop_rd {l : List Int} {i : Int} (h0 : 0 ≤ i) (h1 : i < l.length) : l.drop i.toNat = rd l i :: l.drop (i + 1).toNat := by
  obtain ⟨h, e⟩ := rd_lt h0 h1
  rw [e, show (i + 1).toNat = i.toNat + 1 by omega, List.drop_eq_getElem_cons h]
theorem take_rd {l : List Int} {i : Int} (h0 : 0 ≤ i) (h1 : i < l.length) : l.take (i + 1).toNat = l.take i.toNat ++ [rd l i] := by
  obtain ⟨h, e⟩ := rd_lt h0 h1
  rw [e, show (i + 1).toNat = i.toNat + 1 by omega, List.take_succ_eq_append_getElem h]
theorem rd_append_left {l m : List Int} {i : Int} (h0 : 0 ≤ i) (h1 : i < l.length) : rd (l ++ m) i = rd l i := by
  simp [rd, List.getD_eq_getElem?_getD, List.getElem?_append_left (show i.toNat < l.length by omega)]
theorem rd_append_right {l m : List Int} {i : Int} (h1 : (l.length : Int) ≤ i) : rd (l ++ m) i = rd m (i - l.length) := by
  simp [rd, List.getD_eq_getElem?_getD, List.getElem?_append_right (show l.length ≤ i.toNat by omega), show (i - (l.length : Int)).toNat = i.toNat - l.length by omega]
theorem rd_last {l : List Int} {x : Int} : rd (l ++ [x]) (l.length : Int) = x := by
  rw [rd_append_right (Int.le_refl _), Int.sub_self]; rfl
theorem rd_set_eq {l : List Int} {i : Int} {x : Int} (h0 : 0 ≤ i) (h1 : i < l.length) : rd (l.set i.toNat x) i = x := by
  simp [rd, List.getD_eq_getElem?_getD, List.getElem?_set, show i.toNat < l.length by omega]
theorem rd_set_ne {l : List Int} {i j : Int} {x : Int} (h0 : 0 ≤ i) (hj : 0 ≤ j) (h : i ≠ j) : rd (l.set i.toNat x) j = rd l j := by
  simp [rd, List.getD_eq_getElem?_getD, List.getElem?_set, show ¬ i.toNat = j.toNat by omega]
theorem ext_rd {l m : List Int} (h : l.length = m.length) (hr : ∀ i : Int, 0 ≤ i → i < l.length → rd l i = rd m i) : l = m := by
  apply List.ext_getElem h
  intro i h1 h2
  have := hr i (by omega) (by omega)
  simpa [rd, List.getD_eq_getElem?_getD, List.getElem?_eq_getElem h1, List.getElem?_eq_getElem h2] using this
theorem rd_replicate {n : Nat} {x i : Int} (h0 : 0 ≤ i) (h1 : i < n) : rd (List.replicate n x) i = x := by
  simp [rd, List.getD_eq_getElem?_getD, List.getElem?_replicate, show i.toNat < n by omega]

/-! ### the laws' 'at' -/
def atK (l0 : List Int) (a1 : Int) : Option (Int) := if a1 < (l0.length : Int) then (if 0 ≤ a1 then (some (wrap64 (rd l0 a1))) else (none)) else (some (Int.tmod (wrap64 ((wrap64 (a1 * 7)) + (l0.length : Int))) 256))
def Bytes (l : List Int) : Prop := ∀ x ∈ l, 0 ≤ x ∧ x ≤ 255
theorem bytes_of {l : List Int} (h : ∀ x ∈ l, (Lit.int .u8 x).wf = true) : Bytes l := by
  intro x hx
  have := h x hx
  simp [Lit.wf, IntKind.min, IntKind.max, IntKind.bits, IntKind.signed] at this
  omega
/-- 'at' as a plain value. -/
def atV (l : List Int) (i : Int) : Int := if i < (l.length : Int) then rd l i else (i * 7 + l.length) % 256
theorem atV_range {l : List Int} (hb : Bytes l) {i : Int} (h0 : 0 ≤ i) : 0 ≤ atV l i ∧ atV l i ≤ 255 := by
  unfold atV
  split
  · exact hb _ (rd_mem h0 (by omega))
  · omega
theorem at_some {l : List Int} (hb : Bytes l) (hl : l.length ≤ 1048576) {i : Int} (h0 : 0 ≤ i) (h1 : i ≤ 1000000000) : atK l i = some (atV l i) := by
  have hr := atV_range hb h0
  unfold atK
  unfold atV at hr ⊢
  by_cases c : i < (l.length : Int)
  · rw [if_pos c] at hr ⊢
    rw [if_pos h0, if_pos c, w64 (by omega) (by omega)]
  · rw [if_neg c, if_neg c, w64 (x := i * 7) (by omega) (by omega), w64 (by omega) (by omega), tm (by omega)]
/-! ### 'impl.in', 'spec.l1In' -/
def inK (a0 : Int) (a1 : Int) (a2 : Int) : Option (Bool) := if a0 ≥ a1 then (some (decide (a0 ≤ a2))) else (some false)
theorem in_some (a b c : Int) : inK a b c = some (decide (b ≤ a ∧ a ≤ c)) := by
  unfold inK
  by_cases h : a ≥ b
  · rw [if_pos h]; simp [show b ≤ a from h]
  · rw [if_neg h]; simp; omega
/-! ### sorts of 'mul' -/
theorem mul_le2 {a b c d : Int} (h1 : a ≤ b) (h2 : c ≤ d) (h3 : 0 ≤ c) (h4 : 0 ≤ b) : a * c ≤ b * d := Int.mul_le_mul h1 h2 h3 h4
end Go.Proofs.YtdjbglhhjffnkaaW.Kit
