/- What two classes ask for is alike from either, and nothing of one and the same; what is kept apart is kept from either side, and farther away is kept, too: for each byte sequence. -/
import Derived.Test.YtbhdnhpkpbhilaaPFnApartx5
import Derived.Test.YtbhdnhpkpbhilaaKit
import Derived.KernelRfl
set_option linter.unusedVariables false
set_option linter.unusedSimpArgs false
namespace Go.Proofs.Ytbhdnhpkpbhilaa.Pure
open Go.RowKit Go.Proofs.Ytbhdnhpkpbhilaa.PFnApart Go.Proofs.YtbhdnhpkpbhilaaW.PrintWords Go.Proofs.YtbhdnhpkpbhilaaW.PrintLast Go.Proofs.YtbhdnhpkpbhilaaW.PrintMore Go.Proofs.YtbhdnhpkpbhilaaW.Kit

/-- The name that the law's boxes bear. -/
def nm : ByteArray := ⟨#[67, 83, 81, 85, 51, 48, 53, 52, 51, 56, 51]⟩
theorem in_okA (a b c : Int) : impl_in.f a b c = some (decide (b ≤ a ∧ a ≤ c)) := in_some a b c
theorem in_y {a b c : Int} (h : b ≤ a ∧ a ≤ c) : impl_in.f a b c = some true := by rw [in_okA, decide_eq_true h]
theorem mn_comm (x y : Int) : mn x y = mn y x := by unfold mn; omega
theorem mx_comm (x y : Int) : mx x y = mx y x := by unfold mx; omega
/-- What two classes ask for, out of the smaller and the greater. -/
def apV (a b : Int) : Int := if a = 0 then 0 else if a = b then 0 else if a = 1 then 3 else if (a * b) % 6 = 0 then 2 else if (a + b) % 2 = 1 then 1 else 0
theorem apart_ok {x y : Int} (hx : 0 ≤ x ∧ x ≤ 9) (hy : 0 ≤ y ∧ y ≤ 9) (k : Nat) : impl_Apart.f (k + 2) x y = some (apV (mn x y) (mx x y)) := by
  unfold impl_Apart.f
  rw [in_y hx, in_y hy]
  simp only [Option.bind_some, if_true, Bool.not_true, impl_Apart.j0, Bool.false_eq_true, if_false, impl_Apart.j1]
  have h1 : 0 ≤ mn x y ∧ mn x y ≤ 9 := by unfold mn; omega
  have h2 : 0 ≤ mx x y ∧ mx x y ≤ 9 := by unfold mx; omega
  generalize mn x y = a at h1 ⊢
  generalize mx x y = b at h2 ⊢
  unfold apV
  by_cases c : a = 0
  · rw [if_pos c, if_pos c]
  · rw [if_neg c, if_neg c]
    by_cases c2 : a = b
    · rw [if_pos c2, if_pos (by simpa using c2)]
    · have hp0 : 0 ≤ a * b := Int.mul_nonneg h1.1 h2.1
      have hp1 : a * b ≤ 9 * 9 := Int.mul_le_mul h1.2 h2.2 h2.1 (by omega)
      rw [if_neg c2, if_neg (by simpa using c2), w64 (x := a * b) (by omega) (by omega), w64 (x := a + b) (by omega) (by omega), tm hp0, tm (by omega)]
      split
      · rfl
      · split
        · rfl
        · split <;> rfl
theorem apart_ten {x : Int} (hx : 0 ≤ x ∧ x ≤ 9) (k : Nat) : impl_Apart.f (k + 1) x 10 = some (-1) := by
  unfold impl_Apart.f
  rw [in_y hx, in_okA, decide_eq_false (by omega)]
  simp only [Option.bind_some, if_true, Bool.not_false, impl_Apart.j0]
theorem apV_range (a b : Int) : 0 ≤ apV a b ∧ apV a b ≤ 3 := by
  unfold apV
  repeat' split
  all_goals omega
theorem apV_same (x : Int) : apV (mn x x) (mx x x) = 0 := by
  unfold apV
  rw [show mn x x = x by unfold mn; omega, show mx x x = x by unfold mx; omega]
  split
  · rfl
  · rw [if_pos rfl]
theorem name_96 : impl_BoxName.f 96 nm = some true := by kernel_rfl
theorem name_95 : impl_BoxName.f 95 nm = some true := by kernel_rfl
theorem name_94 : impl_BoxName.f 94 nm = some true := by kernel_rfl
theorem name_93 : impl_BoxName.f 93 nm = some true := by kernel_rfl
theorem box_ok {k : Nat} {c : Int} (h : impl_BoxName.f k nm = some true) (hc : 0 ≤ c ∧ c ≤ 9) : impl_BoxOk.f k nm 5 c false 0 3 = some true := by
  unfold impl_BoxOk.f impl_portOk.f
  rw [h, in_y (by omega), in_y hc, in_y (by omega), in_y (by omega)]
  simp
theorem spot_ok {a b c : Int} (ha : 0 ≤ a ∧ a ≤ 19) (hb : 0 ≤ b ∧ b ≤ 19) (hc : 0 ≤ c ∧ c ≤ 19) : impl_spotOk.f a b c = some true := by
  unfold impl_spotOk.f
  rw [in_y ha, in_y hb, in_y hc]
  simp
def szA (x : Int) : Int := if x < 0 then -x else x
theorem size_okA {x : Int} (h : -100 ≤ x ∧ x ≤ 100) : impl_size.f (wrap64 x) = some (szA x) := by
  rw [w64 (by omega) (by omega)]
  unfold impl_size.f szA
  split
  · rw [w64 (by omega) (by omega)]
  · rfl
/-- What is kept apart. -/
def kpV (v a b c a' b' c' : Int) : Bool := if (a == a' && (b == b' && (c == c'))) = true then false else if v = 0 then true else if v = 1 then (szA (a - a') + szA (b - b') + szA (c - c')) != 1 else if v = 2 then decide (szA (a - a') ≥ 2) else false
theorem keeps_ok {k : Nat} {x y a b c a' b' c' : Int} (hn : impl_BoxName.f (k + 4) nm = some true) (hx : 0 ≤ x ∧ x ≤ 9) (hy : 0 ≤ y ∧ y ≤ 9) (ha : 0 ≤ a ∧ a ≤ 19) (hb : 0 ≤ b ∧ b ≤ 19) (hc : 0 ≤ c ∧ c ≤ 19) (ha' : 0 ≤ a' ∧ a' ≤ 19) (hb' : 0 ≤ b' ∧ b' ≤ 19) (hc' : 0 ≤ c' ∧ c' ≤ 19) :
    impl_KeepsApart.f (k + 4) nm 5 x false 0 3 a b c nm 5 y false 0 3 a' b' c' = some (kpV (apV (mn x y) (mx x y)) a b c a' b' c') := by
  unfold impl_KeepsApart.f kpV
  rw [box_ok hn hx, box_ok hn hy, spot_ok ha hb hc, spot_ok ha' hb' hc']
  simp only [Option.bind_some, if_true, impl_KeepsApart.j0]
  by_cases e : (a == a' && (b == b' && (c == c'))) = true
  · rw [if_pos e, if_pos e]
  · rw [if_neg e, if_neg e, size_okA (by omega), size_okA (by omega), size_okA (by omega), apart_ok hx hy (k + 1)]
    have h1 : 0 ≤ szA (a - a') ∧ szA (a - a') ≤ 20 := by unfold szA; split <;> omega
    have h2 : 0 ≤ szA (b - b') ∧ szA (b - b') ≤ 20 := by unfold szA; split <;> omega
    have h3 : 0 ≤ szA (c - c') ∧ szA (c - c') ≤ 20 := by unfold szA; split <;> omega
    simp only [Option.bind_some]
    rw [w64 (x := szA (a - a') + szA (b - b')) (by omega) (by omega), w64 (by omega) (by omega)]
    split
    · rfl
    · split
      · rfl
      · split <;> rfl
theorem szA_neg (a b : Int) : szA (a - b) = szA (b - a) := by unfold szA; split <;> split <;> omega
theorem kpV_comm (v a b c a' b' c' : Int) : kpV v a b c a' b' c' = kpV v a' b' c' a b c := by
  unfold kpV
  rw [szA_neg a a', szA_neg b b', szA_neg c c', show (a == a' && (b == b' && (c == c'))) = (a' == a && (b' == b && (c' == c))) by rw [Bool.eq_iff_iff]; simp only [Bool.and_eq_true, beq_iff_eq]; omega]
theorem at_ok {l : List Int} (hb : Bytes l) (hl : l.length ≤ 1048576) {i : Int} (h0 : 0 ≤ i) (h1 : i ≤ 1000000000) : laws_at.f l i = some (atV l i) := at_some hb hl h0 h1

theorem FnApart : laws_FnApart.Pure := by
  intro l _ _ hl
  have hb := bytes_of hl
  refine ⟨100, ?_⟩
  unfold laws_FnApart.f laws_big.f
  rw [Option.bind_some]
  by_cases hn : (l.length : Int) > 1048576
  · rw [if_pos (by simpa using hn)]
  · rw [if_neg (by simpa using hn), at_ok hb (by omega) (by omega) (by omega), at_ok hb (by omega) (by omega) (by omega), Option.bind_some, Option.bind_some]
    have r0 := atV_range hb (i := 0) (by omega)
    have r1 := atV_range hb (i := 1) (by omega)
    have r2 := atV_range hb (i := 2) (by omega)
    have r3 := atV_range hb (i := 3) (by omega)
    have r4 := atV_range hb (i := 4) (by omega)
    have r5 := atV_range hb (i := 5) (by omega)
    have r6 := atV_range hb (i := 6) (by omega)
    have r7 := atV_range hb (i := 7) (by omega)
    rw [tm r0.1, tm r1.1]
    have hx : 0 ≤ atV l 0 % 10 ∧ atV l 0 % 10 ≤ 9 := by omega
    have hy : 0 ≤ atV l 1 % 10 ∧ atV l 1 % 10 ≤ 9 := by omega
    generalize atV l 0 % 10 = x at hx ⊢
    generalize atV l 1 % 10 = y at hy ⊢
    have hv := apV_range (mn x y) (mx x y)
    simp only [laws_FnApart.j0]
    rw [apart_ok hx hy 97, apart_ok hy hx 97, apart_ok hx hx 97, apart_ten hx 98, mn_comm y x, mx_comm y x, apV_same]
    simp only [Option.bind_some]
    rw [if_pos trivial, if_pos trivial, if_neg (by omega), if_neg (by omega)]
    simp only [laws_FnApart.j1]
    rw [if_neg (by decide)]
    simp only [laws_FnApart.j2]
    rw [at_ok hb (by omega) (by omega) (by omega), at_ok hb (by omega) (by omega) (by omega), at_ok hb (by omega) (by omega) (by omega), at_ok hb (by omega) (by omega) (by omega), at_ok hb (by omega) (by omega) (by omega), at_ok hb (by omega) (by omega) (by omega)]
    simp only [Option.bind_some]
    rw [tm r2.1, tm r3.1, tm r4.1, tm r5.1, tm r6.1, tm r7.1]
    have h2 : 0 ≤ atV l 2 % 4 ∧ atV l 2 % 4 ≤ 3 := by omega
    have h3 : 0 ≤ atV l 3 % 3 ∧ atV l 3 % 3 ≤ 2 := by omega
    have h4 : 0 ≤ atV l 4 % 3 ∧ atV l 4 % 3 ≤ 2 := by omega
    have h5 : 0 ≤ atV l 5 % 4 ∧ atV l 5 % 4 ≤ 3 := by omega
    have h6 : 0 ≤ atV l 6 % 3 ∧ atV l 6 % 3 ≤ 2 := by omega
    have h7 : 0 ≤ atV l 7 % 3 ∧ atV l 7 % 3 ≤ 2 := by omega
    generalize atV l 2 % 4 = a at h2 ⊢
    generalize atV l 3 % 3 = b at h3 ⊢
    generalize atV l 4 % 3 = c at h4 ⊢
    generalize atV l 5 % 4 = a' at h5 ⊢
    generalize atV l 6 % 3 = b' at h6 ⊢
    generalize atV l 7 % 3 = c' at h7 ⊢
    rw [show (⟨#[67, 83, 81, 85, 51, 48, 53, 52, 51, 56, 51]⟩ : ByteArray) = nm from rfl]
    rw [keeps_ok (k := 93) (by kernel_rfl) hx hy (by omega) (by omega) (by omega) (by omega) (by omega) (by omega), Option.bind_some]
    simp only [laws_FnApart.j3]
    by_cases e : (a == a' && (b == b' && (c == c'))) = true
    · rw [if_pos e, show kpV (apV (mn x y) (mx x y)) a b c a' b' c' = false by unfold kpV; rw [if_pos e], if_neg (by decide), box_ok (by kernel_rfl) hx, Option.bind_some]
    · rw [if_neg e]
      simp only [laws_FnApart.j4]
      rw [keeps_ok (k := 91) (by kernel_rfl) hy hx (by omega) (by omega) (by omega) (by omega) (by omega) (by omega), Option.bind_some, mn_comm y x, mx_comm y x, kpV_comm _ a' b' c' a b c, if_pos (by simp), box_ok (by kernel_rfl) hx, Option.bind_some, if_pos rfl, w64 (x := a + 9) (by omega) (by omega), keeps_ok (k := 91) (by kernel_rfl) hx hy (by omega) (by omega) (by omega) (by omega) (by omega) (by omega), Option.bind_some]
      have hk : kpV (apV (mn x y) (mx x y)) a b c (a + 9) b' c' = (apV (mn x y) (mx x y) != 3) := by
        generalize apV (mn x y) (mx x y) = v at hv ⊢
        unfold kpV
        have hs : szA (a - (a + 9)) = 9 := by unfold szA; split <;> omega
        have hs2 : 0 ≤ szA (b - b') := by unfold szA; split <;> omega
        have hs3 : 0 ≤ szA (c - c') := by unfold szA; split <;> omega
        rw [hs, if_neg (by simp; intro h; omega)]
        have : v = 0 ∨ v = 1 ∨ v = 2 ∨ v = 3 := by omega
        rcases this with rfl | rfl | rfl | rfl
        · rfl
        · rw [if_neg (by omega), if_pos rfl]
          simp; omega
        · rfl
        · rfl
      rw [hk, if_pos (by simp)]
      by_cases c0 : apV (mn x y) (mx x y) = 0
      · rw [if_pos c0]
        unfold kpV
        rw [if_neg e, if_pos c0]
      · rw [if_neg c0]

end Go.Proofs.Ytbhdnhpkpbhilaa.Pure
