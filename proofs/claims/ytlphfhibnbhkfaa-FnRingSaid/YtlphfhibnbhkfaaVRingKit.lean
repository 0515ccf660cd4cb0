import Derived.Test.YtlphfhibnbhkfaaVRingWWords
import Derived.Test.YtlphfhibnbhkfaaVRingWMore
set_option linter.unusedVariables false
set_option linter.unusedSimpArgs false
namespace Go.Proofs.YtlphfhibnbhkfaaW.Kit
open Go.RowKit Go.Proofs.YtlphfhibnbhkfaaW.PrintWords
theorem w64 {x : Int} (h0 : -9223372036854775808 ≤ x) (h1 : x ≤ 9223372036854775807) : wrap64 x = x := by
  unfold wrap64
  omega
theorem pos_round {k : Nat} (h : 0 < k) : ∃ m, k = m + 1 := ⟨k - 1, by omega⟩
theorem rd_replicate {n : Nat} {x i : Int} (h0 : 0 ≤ i) (h1 : i < n) : rd (List.replicate n x) i = x := by
  simp [rd, List.getD_eq_getElem?_getD, List.getElem?_replicate, show i.toNat < n by omega]
def atK (l0 : List Int) (a1 : Int) : Option (Int) := if a1 < (l0.length : Int) then (if 0 ≤ a1 then (some (wrap64 (rd l0 a1))) else (none)) else (some (Int.tmod (wrap64 ((wrap64 (a1 * 7)) + (l0.length : Int))) 256))
def Bytes (l : List Int) : Prop := ∀ x ∈ l, 0 ≤ x ∧ x ≤ 255
theorem bytes_of {l : List Int} (h : ∀ x ∈ l, (Lit.int .u8 x).wf = true) : Bytes l := by
  intro x hx
  have := h x hx
  simp [Lit.wf, IntKind.min, IntKind.max, IntKind.bits, IntKind.signed] at this
  omega
def atV (l : List Int) (i : Int) : Int := if i < (l.length : Int) then rd l i else (i * 7 + l.length) % 256
def inK (a0 : Int) (a1 : Int) (a2 : Int) : Option (Bool) := if a0 ≥ a1 then (some (decide (a0 ≤ a2))) else (some false)
end Go.Proofs.YtlphfhibnbhkfaaW.Kit
