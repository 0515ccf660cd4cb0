import Derived.Test.YtlphfhibnbhkfaaVYardWWords
import Derived.Test.YtlphfhibnbhkfaaVYardWMore
set_option linter.unusedVariables false
set_option linter.unusedSimpArgs false
namespace Go.Proofs.YtlphfhibnbhkfaaW.Kit
open Go.RowKit Go.Proofs.YtlphfhibnbhkfaaW.PrintWords
theorem w64 {x : Int} (h0 : -9223372036854775808 ≤ x) (h1 : x ≤ 9223372036854775807) : wrap64 x = x := by
  unfold wrap64
  omega
theorem tm {x c : Int} (h : 0 ≤ x) : Int.tmod x c = x % c := Int.tmod_eq_emod_of_nonneg h
theorem pos_round {k : Nat} (h : 0 < k) : ∃ m, k = m + 1 := ⟨k - 1, by omega⟩
theorem rd_lt {l : List Int} {i : Int} (h0 : 0 ≤ i) (h1 : i < l.length) : ∃ h : i.toNat < l.length, rd l i = l[i.toNat]'h := by
  have h : i.toNat < l.length := by omega
  exact ⟨h, by simp [rd, List.getD_eq_getElem?_getD, List.getElem?_eq_getElem h]⟩
theorem rd_mem {l : List Int} {i : Int} (h0 : 0 ≤ i) (h1 : i < l.length) : rd l i ∈ l := by
  obtain ⟨h, e⟩ := rd_lt h0 h1
  rw [e]; exact List.getElem_mem h
theorem drop_rd {l : List Int} {i : Int} (h0 : 0 ≤ i) (h1 : i < l.length) : l.drop i.toNat = rd l i :: l.drop (i + 1).toNat := by
  obtain ⟨h, e⟩ := rd_lt h0 h1
  rw [e, show (i + 1).toNat = i.toNat + 1 by omega, List.drop_eq_getElem_cons h]
theorem rd_set_ne {l : List Int} {i j : Int} {x : Int} (h0 : 0 ≤ i) (hj : 0 ≤ j) (h : i ≠ j) : rd (l.set i.toNat x) j = rd l j := by
  simp [rd, List.getD_eq_getElem?_getD, List.getElem?_set, show ¬ i.toNat = j.toNat by omega]
def atK (l0 : List Int) (a1 : Int) : Option (Int) := if a1 < (l0.length : Int) then (if 0 ≤ a1 then (some (wrap64 (rd l0 a1))) else (none)) else (some (Int.tmod (wrap64 ((wrap64 (a1 * 7)) + (l0.length : Int))) 256))
def Bytes (l : List Int) : Prop := ∀ x ∈ l, 0 ≤ x ∧ x ≤ 255
def atV (l : List Int) (i : Int) : Int := if i < (l.length : Int) then rd l i else (i * 7 + l.length) % 256
def inK (a0 : Int) (a1 : Int) (a2 : Int) : Option (Bool) := if a0 ≥ a1 then (some (decide (a0 ≤ a2))) else (some false)
end Go.Proofs.YtlphfhibnbhkfaaW.Kit
