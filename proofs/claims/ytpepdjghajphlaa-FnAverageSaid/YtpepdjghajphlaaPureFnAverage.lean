/- Drawn shares come to the loss, each within one unit of its part: for each byte list as code. -/
import Derived.Test.YtpepdjghajphlaaPFnAveragex5
import Derived.Test.YtpepdjghajphlaaKit
set_option linter.unusedVariables false
set_option linter.unusedSimpArgs false
namespace Go.Proofs.Ytpepdjghajphlaa.Pure
open Go.RowKit Go.Proofs.Ytpepdjghajphlaa.PFnAverage Go.Proofs.YtpepdjghajphlaaW.PrintWords Go.Proofs.YtpepdjghajphlaaW.PrintLast Go.Proofs.YtpepdjghajphlaaW.PrintMore Go.Proofs.YtpepdjghajphlaaW.Kit

/-! ### sums of lists -/
def sumI : List Int → Int
  | [] => 0
  | x :: l => x + sumI l
theorem sumI_append (l m : List Int) : sumI (l ++ m) = sumI l + sumI m := by
  induction l with
  | nil => simp [sumI]
  | cons x l ih => simp only [List.cons_append, sumI, ih]; omega
theorem sumI_perm {l m : List Int} (h : l.Perm m) : sumI l = sumI m := by
  induction h with
  | nil => rfl
  | cons x _ ih => simp only [sumI, ih]
  | swap x y l => simp only [sumI]; omega
  | trans _ _ i1 i2 => exact i1.trans i2
theorem sumI_le {l : List Int} {c : Int} (h : ∀ x ∈ l, x ≤ c) : sumI l ≤ c * l.length := by
  induction l with
  | nil => simp [sumI]
  | cons x l ih =>
    have h1 := h x (List.mem_cons_self ..)
    have h2 := ih (fun y hy => h y (List.mem_cons_of_mem _ hy))
    simp only [sumI, List.length_cons]
    have : c * ((l.length + 1 : Nat) : Int) = c * l.length + c := by rw [Int.natCast_add, Int.mul_add]; simp
    omega
theorem sumI_ge {l : List Int} (h : ∀ x ∈ l, 0 ≤ x) : 0 ≤ sumI l := by
  induction l with
  | nil => simp [sumI]
  | cons x l ih =>
    have h1 := h x (List.mem_cons_self ..)
    have h2 := ih (fun y hy => h y (List.mem_cons_of_mem _ hy))
    simp only [sumI]; omega
theorem sumI_set {l : List Int} {i : Int} {x : Int} (h0 : 0 ≤ i) (h1 : i < l.length) : sumI (l.set i.toNat x) = sumI l - rd l i + x := by
  obtain ⟨h, e⟩ := rd_lt h0 h1
  rw [e]
  generalize i.toNat = n at h
  clear e h0 h1
  induction l generalizing n with
  | nil => simp at h
  | cons y l ih =>
    cases n with
    | zero => simp only [List.set_cons_zero, sumI, List.getElem_cons_zero]; omega
    | succ n =>
      simp only [List.set_cons_succ, sumI, List.getElem_cons_succ]
      have := ih n (by simpa using h)
      omega
theorem sumI_map_zero {l : List Int} {f : Int → Int} (h : ∀ x ∈ l, f x = 0) : sumI (l.map f) = 0 := by
  induction l with
  | nil => rfl
  | cons x l ih => simp only [List.map_cons, sumI, h x (List.mem_cons_self ..), ih (fun y hy => h y (List.mem_cons_of_mem _ hy))]; omega

/-! ### the parts: what is left over, and the order by it -/
/-- What is small, and what the parts are of. -/
structure Parts (v : List Int) (L S : Int) : Prop where
  len : v.length ≤ 10
  pos : 1 ≤ v.length
  lo : ∀ i : Int, 0 ≤ i → i < v.length → 0 ≤ rd v i ∧ rd v i ≤ 765
  L0 : 0 ≤ L
  L1 : L ≤ 1275
  S0 : 0 < S
  S1 : S ≤ 7650
def Rm (v : List Int) (L S i : Int) : Int := (L * rd v i) % S
theorem mul_bd {a b A B : Int} (h0 : 0 ≤ a) (h1 : a ≤ A) (g0 : 0 ≤ b) (g1 : b ≤ B) : 0 ≤ a * b ∧ a * b ≤ A * B :=
  ⟨Int.mul_nonneg h0 g0, Int.le_trans (Int.mul_le_mul_of_nonneg_right h1 g0) (Int.mul_le_mul_of_nonneg_left g1 (by omega))⟩
theorem Parts.prod {v : List Int} {L S : Int} (h : Parts v L S) {i : Int} (h0 : 0 ≤ i) (h1 : i < v.length) : 0 ≤ L * rd v i ∧ L * rd v i ≤ 975375 := by
  have := mul_bd h.L0 h.L1 (h.lo i h0 h1).1 (h.lo i h0 h1).2
  omega
theorem Parts.rm {v : List Int} {L S : Int} (h : Parts v L S) (i : Int) : 0 ≤ Rm v L S i ∧ Rm v L S i < S :=
  ⟨Int.emod_nonneg _ (by have := h.S0; omega), Int.emod_lt_of_pos _ h.S0⟩
theorem cmp_ok {v : List Int} {L S : Int} (h : Parts v L S) {a b : Int} (ha : 0 ≤ a ∧ a < v.length) (hb : 0 ≤ b ∧ b < v.length) : impl_Average_1_c.f a b [L] [v] [S] = some (Rm v L S b - Rm v L S a) := by
  have p1 := h.prod ha.1 ha.2
  have p2 := h.prod hb.1 hb.2
  have r1 := h.rm a
  have r2 := h.rm b
  have s0 := h.S0
  have s1 := h.S1
  unfold impl_Average_1_c.f
  rw [if_pos (by simp), if_pos (by simp), if_pos hb.1, show rd_L2 [v] 0 = v from rfl, if_pos hb.2, if_pos (by simp), show rd [S] 0 = S from rfl, show rd [L] 0 = L from rfl, if_neg (by omega), if_pos ha.1, if_pos ha.2]
  rw [w64 (x := L * rd v b) (by omega) (by omega), w64 (x := L * rd v a) (by omega) (by omega), tm p2.1, tm p1.1]
  unfold Rm at r1 r2 ⊢
  rw [w64 (by omega) (by omega)]

/-- Two places swapped. -/
theorem swap_perm {x : List Int} {i j : Int} (hi : 0 ≤ i ∧ i < x.length) (hj : 0 ≤ j ∧ j < x.length) : ((x.set i.toNat (rd x j)).set j.toNat (rd x i)).Perm x := by
  obtain ⟨h1, e1⟩ := rd_lt hi.1 hi.2
  obtain ⟨h2, e2⟩ := rd_lt hj.1 hj.2
  rw [e1, e2]
  exact List.set_set_perm h1 h2
section
variable {v : List Int} {L S : Int} {p0 : List Int}
/-- A row of places: those of p0, each within v. -/
def Pl (v : List Int) (p0 x : List Int) : Prop := x.Perm p0 ∧ ∀ y ∈ p0, 0 ≤ y ∧ y < (v.length : Int)
theorem Pl.rd {x : List Int} (h : Pl v p0 x) {i : Int} (h0 : 0 ≤ i) (h1 : i < x.length) : 0 ≤ rd x i ∧ rd x i < (v.length : Int) := h.2 _ ((h.1.mem_iff).1 (rd_mem h0 h1))
def Down (v : List Int) (L S : Int) (x : List Int) (n : Int) : Prop := ∀ p q : Int, 0 ≤ p → p < q → q < n → Rm v L S (rd x q) ≤ Rm v L S (rd x p)
theorem ins_inner (h : Parts v L S) (n i : Int) (hi : i < n) (hn : n ≤ 10)
    (outer : ∀ x, x.length = n.toNat → Pl v p0 x → Down v L S x (i + 1) → ∃ x' K, (∀ k, K < k → slices_insertionSortCmpFunc_int_at_impl_Average_1.l0 k x 0 n (i + 1) [L] [v] [S] = some x') ∧ x'.length = n.toNat ∧ Pl v p0 x' ∧ Down v L S x' n) (d : Nat) :
    ∀ (x : List Int) (j : Int), j.toNat = d → 0 ≤ j → j ≤ i → x.length = n.toNat → Pl v p0 x →
      (∀ p q : Int, 0 ≤ p → p < q → q < i + 1 → p ≠ j → q ≠ j → Rm v L S (rd x q) ≤ Rm v L S (rd x p)) → (∀ q : Int, j < q → q < i + 1 → Rm v L S (rd x q) ≤ Rm v L S (rd x j)) →
      ∃ x' K, (∀ k, K < k → slices_insertionSortCmpFunc_int_at_impl_Average_1.l1 k x 0 n i j [L] [v] [S] = some x') ∧ x'.length = n.toNat ∧ Pl v p0 x' ∧ Down v L S x' n := by
  induction d with
  | zero =>
    intro x j hd h0 hji hx hP hA hB
    obtain rfl : j = 0 := by omega
    obtain ⟨x', K, e, r⟩ := outer x hx hP (fun p q hp hpq hq => by
      by_cases c : p = 0
      · subst c; exact hB q hpq hq
      · exact hA p q hp hpq hq c (by omega))
    refine ⟨x', K + 1, fun k hk => ?_, r⟩
    obtain ⟨k, rfl⟩ := pos_round (show 0 < k by omega)
    simp only [slices_insertionSortCmpFunc_int_at_impl_Average_1.l1]
    rw [if_neg (by omega), w64 (by omega) (by omega)]
    exact e k (by omega)
  | succ d ih =>
    intro x j hd h0 hji hx hP hA hB
    have hj : j < (x.length : Int) := by rw [hx]; omega
    have c1 := hP.rd h0 hj
    have c2 := hP.rd (i := j - 1) (by omega) (by omega)
    have step : ∀ k, slices_insertionSortCmpFunc_int_at_impl_Average_1.l1 (k + 1) x 0 n i j [L] [v] [S] = if Rm v L S (rd x (j - 1)) - Rm v L S (rd x j) < 0 then slices_insertionSortCmpFunc_int_at_impl_Average_1.l1 k ((x.set j.toNat (rd x (j - 1))).set (j - 1).toNat (rd x j)) 0 n i (j - 1) [L] [v] [S] else slices_insertionSortCmpFunc_int_at_impl_Average_1.l0 k x 0 n (i + 1) [L] [v] [S] := by
      intro k
      simp only [slices_insertionSortCmpFunc_int_at_impl_Average_1.l1]
      rw [if_pos (by omega), if_pos h0, if_pos hj, w64 (x := j - 1) (by omega) (by omega), if_pos (by omega), if_pos (by omega), cmp_ok h c1 c2, Option.bind_some, w64 (x := i + 1) (by omega) (by omega)]
    by_cases c : Rm v L S (rd x (j - 1)) - Rm v L S (rd x j) < 0
    · have e1 : rd ((x.set j.toNat (rd x (j - 1))).set (j - 1).toNat (rd x j)) (j - 1) = rd x j := rd_set_eq (by omega) (by rw [List.length_set]; omega)
      have e2 : rd ((x.set j.toNat (rd x (j - 1))).set (j - 1).toNat (rd x j)) j = rd x (j - 1) := by rw [rd_set_ne (by omega) h0 (by omega), rd_set_eq h0 hj]
      have e3 : ∀ q : Int, 0 ≤ q → q ≠ j → q ≠ j - 1 → rd ((x.set j.toNat (rd x (j - 1))).set (j - 1).toNat (rd x j)) q = rd x q := fun q hq n1 n2 => by rw [rd_set_ne (by omega) hq (by omega), rd_set_ne h0 hq (by omega)]
      have hperm := swap_perm (x := x) (i := j) (j := j - 1) ⟨h0, hj⟩ ⟨by omega, by omega⟩
      obtain ⟨x', K, e, r⟩ := ih ((x.set j.toNat (rd x (j - 1))).set (j - 1).toNat (rd x j)) (j - 1) (by omega) (by omega) (by omega) (by simp [hx]) ⟨hperm.trans hP.1, hP.2⟩
        (fun p q hp hpq hq np nq => by
          by_cases d1 : q = j
          · subst d1
            rw [e2, e3 p hp (by omega) np]
            exact hA p (q - 1) hp (by omega) (by omega) (by omega) (by omega)
          · by_cases d2 : p = j
            · subst d2
              rw [e2, e3 q (by omega) d1 nq]
              exact hA (p - 1) q (by omega) (by omega) hq (by omega) d1
            · rw [e3 p hp d2 np, e3 q (by omega) d1 nq]
              exact hA p q hp hpq hq d2 d1)
        (fun q hq1 hq2 => by
          rw [e1]
          by_cases d1 : q = j
          · subst d1; rw [e2]; omega
          · rw [e3 q (by omega) d1 (by omega)]; exact hB q (by omega) hq2)
      refine ⟨x', K + 1, fun k hk => ?_, r⟩
      obtain ⟨k, rfl⟩ := pos_round (show 0 < k by omega)
      rw [step, if_pos c]
      exact e k (by omega)
    · obtain ⟨x', K, e, r⟩ := outer x hx hP (fun p q hp hpq hq => by
        by_cases d1 : p = j
        · subst d1; exact hB q hpq hq
        · by_cases d2 : q = j
          · subst d2
            by_cases d3 : p = q - 1
            · subst d3; omega
            · have := hA p (q - 1) hp (by omega) (by omega) d1 (by omega)
              omega
          · exact hA p q hp hpq hq d1 d2)
      refine ⟨x', K + 1, fun k hk => ?_, r⟩
      obtain ⟨k, rfl⟩ := pos_round (show 0 < k by omega)
      rw [step, if_neg c]
      exact e k (by omega)
theorem ins_outer (h : Parts v L S) (n : Int) (h0 : 0 ≤ n) (hn : n ≤ 10) (d : Nat) :
    ∀ (x : List Int) (i : Int), 0 ≤ i → i ≤ n + 1 → (n + 1 - i).toNat = d → x.length = n.toNat → Pl v p0 x → Down v L S x (if i < n then i else n) → ∃ x' K, (∀ k, K < k → slices_insertionSortCmpFunc_int_at_impl_Average_1.l0 k x 0 n i [L] [v] [S] = some x') ∧ x'.length = n.toNat ∧ Pl v p0 x' ∧ Down v L S x' n := by
  induction d with
  | zero =>
    intro x i hi0 hi1 hd hx hP hD
    refine ⟨x, 0, fun k hk => ?_, hx, hP, by rw [if_neg (by omega)] at hD; exact hD⟩
    obtain ⟨k, rfl⟩ := pos_round (show 0 < k by omega)
    simp only [slices_insertionSortCmpFunc_int_at_impl_Average_1.l0]
    rw [if_neg (by omega)]
  | succ d ih =>
    intro x i hi0 hi1 hd hx hP hD
    by_cases c : i < n
    · rw [if_pos c] at hD
      obtain ⟨x', K, e, r⟩ := ins_inner h n i c hn (fun x hx hP hD => ih x (i + 1) (by omega) (by omega) (by omega) hx hP (by
        by_cases c2 : i + 1 < n
        · rw [if_pos c2]; exact hD
        · rw [if_neg c2]; exact fun p q hp hpq hq => hD p q hp hpq (by omega))) i.toNat x i rfl hi0 (by omega) hx hP
        (fun p q hp hpq hq np nq => hD p q hp hpq (by omega)) (fun q h1 h2 => by omega)
      refine ⟨x', K + 1, fun k hk => ?_, r⟩
      obtain ⟨k, rfl⟩ := pos_round (show 0 < k by omega)
      simp only [slices_insertionSortCmpFunc_int_at_impl_Average_1.l0]
      rw [if_pos c]
      exact e k (by omega)
    · rw [if_neg c] at hD
      refine ⟨x, 0, fun k hk => ?_, hx, hP, hD⟩
      obtain ⟨k, rfl⟩ := pos_round (show 0 < k by omega)
      simp only [slices_insertionSortCmpFunc_int_at_impl_Average_1.l0]
      rw [if_neg c]
/-- The whole sort, of ten at the most. -/
theorem sort_ok (h : Parts v L S) (x : List Int) (hx : x.length ≤ 10) (hP : Pl v p0 x) : ∃ x' K, (∀ k, K < k → slices_SortStableFunc_int_int_at_impl_Average_1.f k x [L] [v] [S] = some x') ∧ x'.length = x.length ∧ Pl v p0 x' ∧ Down v L S x' x.length := by
  obtain ⟨x', K, e, hl, hP', hD⟩ := ins_outer h x.length (by omega) (by omega) ((x.length : Int) + 1 - 1).toNat x 1 (by omega) (by omega) rfl (by omega) hP (fun p q hp hpq hq => by split at hq <;> omega)
  refine ⟨x', K + 3, fun k hk => ?_, by omega, hP', hD⟩
  unfold slices_SortStableFunc_int_int_at_impl_Average_1.f slices_stableCmpFunc_int_at_impl_Average_1.f
  obtain ⟨k, rfl⟩ := pos_round (show 0 < k by omega)
  simp only [slices_stableCmpFunc_int_at_impl_Average_1.l0]
  rw [if_neg (by omega)]
  unfold slices_insertionSortCmpFunc_int_at_impl_Average_1.f
  rw [show wrap64 (0 + 1) = 1 from w64 (by omega) (by omega), e k (by omega), Option.bind_some]
  obtain ⟨k, rfl⟩ := pos_round (show 0 < k by omega)
  simp only [slices_stableCmpFunc_int_at_impl_Average_1.l1]
  rw [if_neg (by omega), Option.bind_some]
end

/-! ### the parts themselves -/
section
variable {v : List Int} {L S : Int}
theorem ediv_bd {a S : Int} (hS : 0 < S) (h0 : 0 ≤ a) (h1 : a ≤ 975375) : 0 ≤ a / S ∧ a / S ≤ 975375 :=
  ⟨Int.ediv_nonneg h0 (by omega), Int.le_trans (Int.ediv_le_self _ h0) h1⟩
/-- The whole parts of the shares. -/
def Fl (v : List Int) (L S : Int) (i : Int) : Int := L * rd v i / S
theorem fill_ok (h : Parts v L S) (d : Nat) : ∀ (o p : List Int) (left i : Int), 0 ≤ i → i ≤ v.length → ((v.length : Int) - i).toNat = d → o.length = v.length → p.length = v.length → left = L - sumI o → 0 ≤ left + 975375 * i → left ≤ 1275 →
    (∀ q : Int, 0 ≤ q → q < i → rd o q = Fl v L S q ∧ rd p q = q) → (∀ q : Int, i ≤ q → q < v.length → rd o q = 0) →
    ∃ o' p', (∀ k, impl_Average.l0 (k + d + 1) o p left v (v.length : Int) i v L S = (slices_SortStableFunc_int_int_at_impl_Average_1.f k p' [L] [v] [S]).bind fun t120 => (if 0 ≤ L - sumI o' then (if L - sumI o' ≤ (p'.length : Int) then ((some (t120.take (L - sumI o' : Int).toNat : List Int)).bind fun y121 => (impl_Average.l1 k o' y121 (y121.length : Int) 0)) else (none)) else (none))) ∧ o'.length = v.length ∧ p'.length = v.length ∧ ∀ q : Int, 0 ≤ q → q < v.length → rd o' q = Fl v L S q ∧ rd p' q = q := by
  induction d with
  | zero =>
    intro o p left i h0 h1 hd ho hp hl b0 b1 hq hz
    refine ⟨o, p, fun k => ?_, ho, hp, fun q hq0 hq1 => hq q hq0 (by omega)⟩
    simp only [impl_Average.l0]
    rw [if_neg (by omega), hl]
  | succ d ih =>
    intro o p left i h0 h1 hd ho hp hl b0 b1 hq hz
    have hi : i < (v.length : Int) := by omega
    have pr := h.prod h0 hi
    have s0 := h.S0
    have dv := ediv_bd s0 pr.1 pr.2
    have hlen := h.len
    have r0 := hz i (Int.le_refl _) hi
    have hr : rd (o.set i.toNat (L * rd v i / S)) i = L * rd v i / S := rd_set_eq h0 (by omega)
    obtain ⟨o', p', e, r⟩ := ih (o.set i.toNat (L * rd v i / S)) (p.set i.toNat i) (left - L * rd v i / S) (i + 1) (by omega) (by omega) (by omega) (by simp [ho]) (by simp [hp])
      (by rw [sumI_set h0 (by omega), r0, hl]; omega) (by omega) (by omega)
      (fun q hq0 hq1 => by
        by_cases c : q = i
        · subst c; exact ⟨hr, rd_set_eq h0 (by omega)⟩
        · rw [rd_set_ne h0 hq0 (by omega), rd_set_ne h0 hq0 (by omega)]; exact hq q hq0 (by omega))
      (fun q hq0 hq1 => by rw [rd_set_ne h0 (by omega) (by omega)]; exact hz q (by omega) hq1)
    refine ⟨o', p', fun k => ?_, r⟩
    rw [show k + (d + 1) + 1 = (k + d + 1) + 1 from rfl]
    simp only [impl_Average.l0]
    rw [if_pos hi, if_pos h0, if_pos hi, if_neg (by omega), if_pos (by omega), w64 (x := L * rd v i) (by omega) (by omega), td pr.1, w64 (x := L * rd v i / S) (by omega) (by omega), Option.bind_some, if_pos (by omega), hr, w64 (x := left - L * rd v i / S) (by omega) (by omega), w64 (x := i + 1) (by omega) (by omega)]
    exact e k
/-- Each of the places gets one more. -/
theorem more_ok (d : Nat) : ∀ (o y : List Int) (i : Int), 0 ≤ i → i ≤ y.length → ((y.length : Int) - i).toNat = d → y.length ≤ 10 → y.Nodup → (∀ z ∈ y, 0 ≤ z ∧ z < (o.length : Int)) → (∀ q : Int, 0 ≤ q → q < o.length → 0 ≤ rd o q ∧ rd o q ≤ 2000000 + i) →
    ∃ o', (∀ k, impl_Average.l1 (k + d + 1) o y (y.length : Int) i = some (o', true)) ∧ o'.length = o.length ∧ sumI o' = sumI o + ((y.length : Int) - i) ∧ ∀ q : Int, 0 ≤ q → q < o.length → rd o' q = rd o q ∨ rd o' q = rd o q + 1 ∧ q ∈ y.drop i.toNat := by
  induction d with
  | zero =>
    intro o y i h0 h1 hd hy hn hr hb
    refine ⟨o, fun k => ?_, rfl, by omega, fun q _ _ => .inl rfl⟩
    simp only [impl_Average.l1]
    rw [if_neg (by omega)]
  | succ d ih =>
    intro o y i h0 h1 hd hy hn hr hb
    have hi : i < (y.length : Int) := by omega
    have hm := hr _ (rd_mem h0 hi)
    have hb1 := hb _ hm.1 hm.2
    obtain ⟨o', e, hl, hs, hq⟩ := ih (o.set (rd y i).toNat (rd o (rd y i) + 1)) y (i + 1) (by omega) (by omega) (by omega) hy hn (by simpa using hr)
      (fun q hq0 hq1 => by
        rw [List.length_set] at hq1
        by_cases c : q = rd y i
        · rw [c, rd_set_eq hm.1 hm.2]; omega
        · rw [rd_set_ne hm.1 hq0 (by omega)]; have := hb q hq0 hq1; omega)
    rw [List.length_set] at hl hq
    refine ⟨o', fun k => ?_, hl, by rw [hs, sumI_set hm.1 hm.2]; omega, fun q hq0 hq1 => ?_⟩
    · rw [show k + (d + 1) + 1 = (k + d + 1) + 1 from rfl]
      simp only [impl_Average.l1]
      rw [if_pos hi, if_pos h0, if_pos hi, if_pos hm.1, if_pos hm.2, w64 (x := rd o (rd y i) + 1) (by omega) (by omega), w64 (x := i + 1) (by omega) (by omega)]
      exact e k
    · have hdr := drop_rd h0 hi
      by_cases c : q = rd y i
      · have hnq : q ∉ y.drop (i + 1).toNat := by
          have hnd : (y.drop i.toNat).Nodup := hn.sublist (List.drop_sublist _ _)
          rw [hdr] at hnd
          rw [c]
          exact (List.nodup_cons.1 hnd).1
        rcases hq q hq0 hq1 with g | g
        · rw [c, rd_set_eq hm.1 hm.2] at g
          right
          rw [c]
          exact ⟨g, by rw [hdr]; exact List.mem_cons_self ..⟩
        · exact absurd g.2 hnq
      · rcases hq q hq0 hq1 with g | g
        · left; rw [g, rd_set_ne hm.1 hq0 (by omega)]
        · right
          rw [rd_set_ne hm.1 hq0 (by omega)] at g
          exact ⟨g.1, by rw [hdr]; exact List.mem_cons_of_mem _ g.2⟩

/-! ### sums over all places -/
/-- 0, 1, .., n - 1. -/
def upto : Nat → List Int
  | 0 => []
  | n + 1 => upto n ++ [(n : Int)]
theorem upto_len (n : Nat) : (upto n).length = n := by induction n with
  | zero => rfl
  | succ n ih => simp [upto, ih]
theorem upto_mem {n : Nat} {x : Int} : x ∈ upto n ↔ 0 ≤ x ∧ x < n := by
  induction n with
  | zero => simp only [upto, List.not_mem_nil, false_iff]; omega
  | succ n ih => simp only [upto, List.mem_append, ih, List.mem_singleton]; omega
theorem upto_rd {n : Nat} {i : Int} (h0 : 0 ≤ i) (h1 : i < n) : rd (upto n) i = i := by
  induction n with
  | zero => omega
  | succ n ih =>
    by_cases c : i < n
    · rw [upto, rd_append_left h0 (by rw [upto_len]; exact c)]; exact ih c
    · obtain rfl : i = n := by omega
      have := rd_last (l := upto n) (x := (n : Int))
      rw [upto_len] at this
      exact this
theorem upto_nodup (n : Nat) : (upto n).Nodup := by
  induction n with
  | zero => exact List.nodup_nil
  | succ n ih =>
    rw [upto, List.nodup_append]
    refine ⟨ih, List.nodup_cons.2 ⟨by simp, List.nodup_nil⟩, fun a ha b hb => ?_⟩
    rw [List.mem_singleton] at hb
    have := upto_mem.1 ha
    omega
theorem is_upto {p : List Int} {n : Nat} (hl : p.length = n) (h : ∀ q : Int, 0 ≤ q → q < n → rd p q = q) : p = upto n := by
  refine ext_rd (by rw [hl, upto_len]) (fun i h0 h1 => ?_)
  rw [upto_rd h0 (by omega)]
  exact h i h0 (by omega)
theorem map_rd (l : List Int) : (upto l.length).map (fun i => rd l i) = l := by
  refine ext_rd (by simp [upto_len]) (fun i h0 h1 => ?_)
  have hi : i.toNat < (upto l.length).length := by rw [List.length_map] at h1; omega
  have : rd ((upto l.length).map (fun i => rd l i)) i = rd l (rd (upto l.length) i) := by
    simp only [rd, List.getD_eq_getElem?_getD, List.getElem?_map]
    rw [List.getElem?_eq_getElem hi]
    rfl
  rw [this, upto_rd h0 (by rw [upto_len] at hi; omega)]
theorem sum_mul (c : Int) (l : List Int) (f g r : Int → Int) (h : ∀ i ∈ l, g i = c * f i + r i) : sumI (l.map g) = c * sumI (l.map f) + sumI (l.map r) := by
  induction l with
  | nil => simp [sumI]
  | cons x l ih =>
    simp only [List.map_cons, sumI]
    rw [h x (List.mem_cons_self ..), ih (fun i hi => h i (List.mem_cons_of_mem _ hi)), Int.mul_add]
    omega
theorem sum_scale (c : Int) (l : List Int) (f : Int → Int) : sumI (l.map (fun i => c * f i)) = c * sumI (l.map f) := by
  induction l with
  | nil => simp [sumI]
  | cons x l ih => simp only [List.map_cons, sumI]; rw [ih, Int.mul_add]
end

/-! ### the program's Average -/
theorem sumOf_ok (l : List Int) (hl : l.length ≤ 10) (hb : ∀ i : Int, 0 ≤ i → i < l.length → 0 ≤ rd l i ∧ rd l i ≤ 765) (d : Nat) : ∀ (x i : Int), 0 ≤ i → i ≤ l.length → ((l.length : Int) - i).toNat = d → 0 ≤ x → x ≤ 765 * i → ∀ k, impl_sumOf.l0 (k + d + 1) x l (l.length : Int) i = some (x + sumI (l.drop i.toNat)) := by
  induction d with
  | zero =>
    intro x i h0 h1 hd hx0 hx1 k
    simp only [impl_sumOf.l0]
    rw [if_neg (by omega), List.drop_of_length_le (by omega)]
    simp [sumI]
  | succ d ih =>
    intro x i h0 h1 hd hx0 hx1 k
    have hi : i < (l.length : Int) := by omega
    have b := hb i h0 hi
    rw [show k + (d + 1) + 1 = (k + d + 1) + 1 from rfl]
    obtain ⟨m, hm⟩ : ∃ m, m = k + d + 1 := ⟨_, rfl⟩
    rw [← hm]
    simp only [impl_sumOf.l0]
    rw [if_pos hi, if_pos h0, if_pos hi, w64 (x := x + rd l i) (by omega) (by omega), w64 (x := i + 1) (by omega) (by omega), hm, ih _ _ (by omega) (by omega) (by omega) (by omega) (by omega) k, drop_rd h0 hi]
    simp only [sumI]
    congr 1
    omega
/-- Small values, and a loss. -/
structure Few (v : List Int) (L : Int) : Prop where
  len : v.length ≤ 10
  pos : 1 ≤ v.length
  lo : ∀ x ∈ v, 0 ≤ x ∧ x ≤ 765
  L0 : 0 ≤ L
  L1 : L ≤ 1275
theorem Few.rd {v : List Int} {L : Int} (h : Few v L) {i : Int} (h0 : 0 ≤ i) (h1 : i < v.length) : 0 ≤ rd v i ∧ rd v i ≤ 765 := h.lo _ (rd_mem h0 h1)
theorem Few.sum {v : List Int} {L : Int} (h : Few v L) : 0 ≤ sumI v ∧ sumI v ≤ 7650 := by
  have h1 := sumI_ge (fun x hx => (h.lo x hx).1)
  have h2 := sumI_le (c := 765) (fun x hx => (h.lo x hx).2)
  have := h.len
  omega
theorem avg_head {v : List Int} {L : Int} (h : Few v L) : ∀ k, impl_Average.f (k + v.length + 3) v L = if sumI v = 0 ∨ L > sumI v then some (([] : List Int), false) else impl_Average.l0 (k + v.length + 1) (List.replicate v.length 0) (List.replicate v.length 0) L v (v.length : Int) 0 v L (sumI v) := by
  intro k
  have hl := h.len
  have hp := h.pos
  have hs := h.sum
  have L0 := h.L0
  have L1 := h.L1
  have ha : (v.all fun x => decide (0 ≤ x) && decide (x ≤ 1000000000)) = true := by
    rw [List.all_eq_true]
    intro x hx
    have := h.lo x hx
    simp only [Bool.and_eq_true, decide_eq_true_eq]
    omega
  unfold impl_Average.f
  rw [show impl_in.f (v.length : Int) 1 40 = some true from (in_some _ _ _).trans (by rw [decide_eq_true (by omega)]), Option.bind_some, if_pos rfl]
  unfold impl_all.f
  rw [ha, Option.bind_some, show k + v.length + 3 = (k + v.length + 2) + 1 from rfl]
  simp only [impl_Average.j0]
  rw [if_neg (by simp)]
  unfold impl_sumOf.f
  rw [show k + v.length + 2 = (k + 1) + v.length + 1 by omega, sumOf_ok v hl (fun i h0 h1 => h.rd h0 h1) v.length 0 0 (by omega) (by omega) (by omega) (by omega) (by omega) (k + 1), Option.bind_some, show (0 : Int).toNat = 0 from rfl, List.drop_zero, Int.zero_add]
  rw [show k + 1 + v.length + 1 = (k + v.length + 1) + 1 by omega]
  by_cases c : sumI v = 0
  · rw [if_pos c]
    simp only [impl_Average.j1]
    rw [if_pos trivial, if_pos (Or.inl c)]
  · rw [if_neg c, show impl_in.f L 0 1000000000 = some true from (in_some _ _ _).trans (by rw [decide_eq_true (by omega)]), Option.bind_some, if_pos rfl]
    simp only [impl_Average.j1]
    by_cases c2 : L > sumI v
    · rw [if_pos (by simpa using c2), if_pos (Or.inr c2)]
    · rw [if_neg (by simpa using c2), if_pos (by omega), if_pos (by omega), if_neg (by omega)]
      rfl
theorem avg_ok {v : List Int} {L : Int} (h : Few v L) (c : ¬ (sumI v = 0 ∨ L > sumI v)) : ∃ out K, (∀ k, K < k → impl_Average.f k v L = some (out, true)) ∧ out.length = v.length ∧ sumI out = L ∧
    ∀ q : Int, 0 ≤ q → q < v.length → 0 ≤ rd out q ∧ rd out q ≤ 975376 ∧ -sumI v < rd out q * sumI v - L * rd v q ∧ rd out q * sumI v - L * rd v q < sumI v := by
  have hs := h.sum
  generalize hS : sumI v = S at c hs
  have hP : Parts v L S := ⟨h.len, h.pos, fun i h0 h1 => h.rd h0 h1, h.L0, h.L1, by omega, hs.2⟩
  have hlen := h.len
  have L0 := h.L0
  have L1 := h.L1
  obtain ⟨o, p, e1, ho, hp, hq⟩ := fill_ok hP v.length (List.replicate v.length 0) (List.replicate v.length 0) L 0 (by omega) (by omega) (by omega) (by simp) (by simp)
    (by
      have : sumI (List.replicate v.length (0 : Int)) = 0 := by generalize v.length = n; induction n with
        | zero => rfl
        | succ n ih => simp only [List.replicate_succ, sumI, ih]; rfl
      omega) (by omega) (by omega) (fun q h0 h1 => by omega) (fun q h0 h1 => rd_replicate (by omega) (by omega))
  have hup : p = upto v.length := is_upto hp (fun q h0 h1 => (hq q h0 h1).2)
  obtain ⟨x, K, e2, hxl, hPl, hD⟩ := sort_ok (p0 := upto v.length) hP p (by omega) ⟨by rw [hup], fun y hy => upto_mem.1 hy⟩
  -- sums
  have hfl : sumI o = sumI ((upto v.length).map (Fl v L S)) := by
    have : o = (upto v.length).map (Fl v L S) := by
      refine ext_rd (by simp [upto_len, ho]) (fun i h0 h1 => ?_)
      rw [(hq i h0 (by omega)).1]
      have hi : i.toNat < (upto v.length).length := by rw [upto_len]; omega
      have : rd ((upto v.length).map (Fl v L S)) i = Fl v L S (rd (upto v.length) i) := by
        simp only [rd, List.getD_eq_getElem?_getD, List.getElem?_map]
        rw [List.getElem?_eq_getElem hi]
        rfl
      rw [this, upto_rd h0 (by omega)]
    rw [← this]
  have hrm : sumI ((upto v.length).map (fun i => L * rd v i)) = S * sumI ((upto v.length).map (Fl v L S)) + sumI ((upto v.length).map (Rm v L S)) :=
    sum_mul S _ (Fl v L S) _ (Rm v L S) (fun i _ => by unfold Fl Rm; exact (Int.mul_ediv_add_emod _ _).symm)
  rw [sum_scale L (upto v.length) (fun i => rd v i), map_rd, hS, ← hfl] at hrm
  have hleft : sumI ((upto v.length).map (Rm v L S)) = S * (L - sumI o) := by rw [Int.mul_sub, Int.mul_comm S L]; omega
  have hx2 : sumI (x.map (Rm v L S)) = S * (L - sumI o) := by rw [← hleft]; exact sumI_perm (hPl.1.map _)
  have hS0 := hP.S0
  have l0 : 0 ≤ L - sumI o := by
    have h1 : 0 ≤ S * (L - sumI o) := by
      rw [← hleft]
      exact sumI_ge (fun y hy => by obtain ⟨i, _, rfl⟩ := List.mem_map.1 hy; exact (hP.rm i).1)
    by_cases c3 : 0 ≤ L - sumI o
    · exact c3
    · have : S * (L - sumI o) ≤ S * (-1) := Int.mul_le_mul_of_nonneg_left (by omega) (by omega)
      omega
  have l1 : L - sumI o ≤ v.length := by
    have h1 : S * (L - sumI o) ≤ (S - 1) * (v.length : Int) := by
      rw [← hleft]
      have := sumI_le (l := (upto v.length).map (Rm v L S)) (c := S - 1) (fun y hy => by obtain ⟨i, _, rfl⟩ := List.mem_map.1 hy; have := (hP.rm i).2; omega)
      rwa [List.length_map, upto_len] at this
    by_cases c3 : L - sumI o ≤ v.length
    · exact c3
    · have g1 : S * ((v.length : Int) + 1) ≤ S * (L - sumI o) := Int.mul_le_mul_of_nonneg_left (by omega) (by omega)
      rw [Int.mul_add] at g1
      rw [Int.sub_mul] at h1
      omega
  have hrest : ∀ q ∈ x.take (L - sumI o).toNat, 0 < Rm v L S q := by
    intro q hqm
    obtain ⟨t, ht, rfl⟩ := List.getElem_of_mem hqm
    rw [List.length_take] at ht
    rw [List.getElem_take]
    have htx : t < x.length := by omega
    have r0 := (hP.rm x[t]).1
    by_cases c3 : 0 < Rm v L S x[t]
    · exact c3
    · exfalso
      have e3 : sumI (x.map (Rm v L S)) = sumI ((x.take t).map (Rm v L S)) + sumI ((x.drop t).map (Rm v L S)) := by rw [← sumI_append, ← List.map_append, List.take_append_drop]
      have e4 : sumI ((x.drop t).map (Rm v L S)) = 0 := by
        refine sumI_map_zero (fun y hy => ?_)
        obtain ⟨s, hs2, rfl⟩ := List.getElem_of_mem hy
        rw [List.length_drop] at hs2
        rw [List.getElem_drop]
        have r1 := (hP.rm x[t + s]).1
        by_cases c4 : s = 0
        · subst c4; simp only [Nat.add_zero]; omega
        · have := hD (t : Int) ((t + s : Nat) : Int) (by omega) (by omega) (by omega)
          have a1 : rd x (t : Int) = x[t] := by rw [rd_nat]; simp [List.getD_eq_getElem?_getD, htx]
          have a2 : rd x ((t + s : Nat) : Int) = x[t + s] := by rw [rd_nat]; simp only [List.getD_eq_getElem?_getD]; rw [List.getElem?_eq_getElem (by omega)]; rfl
          rw [a1, a2] at this
          omega
      have e5 : sumI ((x.take t).map (Rm v L S)) ≤ (S - 1) * (t : Int) := by
        have := sumI_le (l := (x.take t).map (Rm v L S)) (c := S - 1) (fun y hy => by obtain ⟨i, _, rfl⟩ := List.mem_map.1 hy; have := (hP.rm i).2; omega)
        rwa [List.length_map, List.length_take, Nat.min_eq_left (by omega)] at this
      have g1 : S * ((t : Int) + 1) ≤ S * (L - sumI o) := Int.mul_le_mul_of_nonneg_left (by omega) (by omega)
      rw [Int.mul_add] at g1
      rw [Int.sub_mul] at e5
      omega
  have hnd : x.Nodup := hPl.1.nodup_iff.2 (upto_nodup _)
  have hmem : ∀ z ∈ x, 0 ≤ z ∧ z < (v.length : Int) := fun z hz => upto_mem.1 (hPl.1.mem_iff.1 hz)
  have hFl : ∀ q : Int, 0 ≤ q → q < v.length → 0 ≤ Fl v L S q ∧ Fl v L S q ≤ 975375 := fun q h0 h1 => ediv_bd hP.S0 (hP.prod h0 h1).1 (hP.prod h0 h1).2
  obtain ⟨o', e3, hl', hs', hq'⟩ := more_ok (x.take (L - sumI o).toNat).length o (x.take (L - sumI o).toNat) 0 (by omega) (by omega) (by omega) (by rw [List.length_take]; omega) (hnd.sublist (List.take_sublist _ _))
    (fun z hz => by rw [ho]; exact hmem z (List.mem_of_mem_take hz)) (fun q h0 h1 => by rw [(hq q h0 (by omega)).1]; have := hFl q h0 (by omega); omega)
  have hlt : ((x.take (L - sumI o).toNat).length : Int) = L - sumI o := by rw [List.length_take]; omega
  refine ⟨o', K + v.length + (x.take (L - sumI o).toNat).length + 10, fun k hk => ?_, by omega, by omega, fun q h0 h1 => ?_⟩
  · rw [show k = (k - v.length - 3) + v.length + 3 by omega, avg_head h, hS, if_neg c, e1, e2 _ (by omega), Option.bind_some, if_pos l0, if_pos (by omega), Option.bind_some]
    rw [show k - v.length - 3 = (k - v.length - 3 - (x.take (L - sumI o).toNat).length - 1) + (x.take (L - sumI o).toNat).length + 1 by omega]
    exact e3 _
  · have hF := (hq q h0 h1).1
    have hFq := hFl q h0 h1
    have hr := hP.rm q
    have hdm : S * Fl v L S q + Rm v L S q = L * rd v q := by unfold Fl Rm; exact Int.mul_ediv_add_emod _ _
    rcases hq' q h0 (by omega) with g | ⟨g, gm⟩
    · rw [g, hF, Int.mul_comm (Fl v L S q) S]
      omega
    · have hpos := hrest q (by simpa using gm)
      rw [g, hF, Int.add_mul, Int.mul_comm (Fl v L S q) S]
      omega

/-! ### the law -/
/-- The drawn values. -/
def vl (l : List Int) : Nat → List Int
  | 0 => []
  | i + 1 => vl l i ++ [atV l ((i : Int) + 1) * 3]
theorem vl_len (l : List Int) (i : Nat) : (vl l i).length = i := by induction i with
  | zero => rfl
  | succ i ih => simp [vl, ih]
theorem vl_range {l : List Int} (hb : Bytes l) (i : Nat) : ∀ x ∈ vl l i, 0 ≤ x ∧ x ≤ 765 := by
  induction i with
  | zero => simp [vl]
  | succ i ih =>
    intro x hx
    simp only [vl, List.mem_append, List.mem_singleton] at hx
    rcases hx with hx | rfl
    · exact ih x hx
    · have := atV_range hb (i := (i : Int) + 1) (by omega)
      omega
theorem law_l2 {v : List Int} {L : Int} (h : Few v L) (out : List Int) (ho : out.length = v.length) (z : Int)
    (hq : ∀ q : Int, 0 ≤ q → q < v.length → 0 ≤ rd out q ∧ rd out q ≤ 975376 ∧ -sumI v < rd out q * sumI v - L * rd v q ∧ rd out q * sumI v - L * rd v q < sumI v) (d : Nat) :
    ∀ i : Int, 0 ≤ i → i ≤ v.length → ((v.length : Int) - i).toNat = d → ∀ k, laws_FnAverage.l2 (k + d + 1) v (sumI v) z out L i = some (z == 0) := by
  induction d with
  | zero =>
    intro i h0 h1 hd k
    simp only [laws_FnAverage.l2]
    rw [if_neg (by omega)]
  | succ d ih =>
    intro i h0 h1 hd k
    have hi : i < (v.length : Int) := by omega
    have g := hq i h0 hi
    have hs := h.sum
    have hlen := h.len
    have p1 := mul_bd h.L0 h.L1 (h.rd h0 hi).1 (h.rd h0 hi).2
    have p2 := mul_bd g.1 g.2.1 hs.1 hs.2
    rw [show k + (d + 1) + 1 = (k + d + 1) + 1 from rfl]
    obtain ⟨m, hm⟩ : ∃ m, m = k + d + 1 := ⟨_, rfl⟩
    rw [← hm]
    simp only [laws_FnAverage.l2]
    rw [if_pos (by omega), if_pos h0, if_pos hi, w64 (x := rd out i * sumI v) (by omega) (by omega), w64 (x := L * rd v i) (by omega) (by omega), w64 (x := rd out i * sumI v - L * rd v i) (by omega) (by omega), w64 (x := -sumI v) (by omega) (by omega), if_neg (by omega), if_neg (by omega), w64 (x := i + 1) (by omega) (by omega), hm]
    exact ih (i + 1) (by omega) (by omega) (by omega) k
theorem law_l1 {l : List Int} (hb : Bytes l) (hl : l.length ≤ 1048576) {v : List Int} (h : Few v (atV l 12 * 5)) (out : List Int) (ho : out.length = v.length)
    (hq : ∀ q : Int, 0 ≤ q → q < v.length → 0 ≤ rd out q ∧ rd out q ≤ 975376 ∧ -sumI v < rd out q * sumI v - (atV l 12 * 5) * rd v q ∧ rd out q * sumI v - (atV l 12 * 5) * rd v q < sumI v) (d : Nat) :
    ∀ (i z : Int), 0 ≤ i → i ≤ v.length → ((v.length : Int) - i).toNat = d → -10000000 + 975376 * ((v.length : Int) - i) ≤ z → z ≤ 1275 → ∀ k, laws_FnAverage.l1 (k + v.length + 1 + d + 1) l v (sumI v) z out i = some (z - sumI (out.drop i.toNat) == 0) := by
  induction d with
  | zero =>
    intro i z h0 h1 hd hz0 hz1 k
    have ha := atV_range hb (i := 12) (by omega)
    simp only [laws_FnAverage.l1]
    rw [if_neg (by omega), show laws_at.f l 12 = some (atV l 12) from at_some hb hl (by omega) (by omega), Option.bind_some, w64 (x := atV l 12 * 5) (by omega) (by omega), List.drop_of_length_le (by omega)]
    rw [show k + v.length + 1 + 0 = k + v.length + 1 from rfl, law_l2 h out ho z hq v.length 0 (by omega) (by omega) (by omega) k]
    simp [sumI]
  | succ d ih =>
    intro i z h0 h1 hd hz0 hz1 k
    have hi : i < (v.length : Int) := by omega
    have g := hq i h0 hi
    have hlen := h.len
    rw [show k + v.length + 1 + (d + 1) + 1 = (k + v.length + 1 + d + 1) + 1 from rfl]
    obtain ⟨m, hm⟩ : ∃ m, m = k + v.length + 1 + d + 1 := ⟨_, rfl⟩
    rw [← hm]
    simp only [laws_FnAverage.l1]
    rw [if_pos (by omega), if_pos h0, w64 (x := z - rd out i) (by omega) (by omega), w64 (x := i + 1) (by omega) (by omega), hm, ih (i + 1) _ (by omega) (by omega) (by omega) (by omega) (by omega) k, drop_rd h0 (by omega)]
    simp only [sumI]
    rw [Int.sub_sub]
theorem law_l0 {l : List Int} (hb : Bytes l) (hl : l.length ≤ 1048576) (n : Nat) (hn : (n : Int) = 1 + atV l 0 % 10) (d : Nat) : ∀ i : Nat, i + d = n → ∃ K, ∀ k, K < k → laws_FnAverage.l0 k l (vl l i) (sumI (vl l i)) (i : Int) = some true := by
  have a0 := atV_range hb (i := 0) (by omega)
  have a12 := atV_range hb (i := 12) (by omega)
  have hat0 : laws_at.f l 0 = some (atV l 0) := at_some hb hl (by omega) (by omega)
  have hw : wrap64 (1 + Int.tmod (atV l 0) 10) = n := by rw [tm a0.1, w64 (by omega) (by omega), hn]
  have hsum : ∀ i, 0 ≤ sumI (vl l i) ∧ sumI (vl l i) ≤ 765 * (i : Int) := fun i => ⟨sumI_ge (fun x hx => (vl_range hb i x hx).1), by have := sumI_le (c := 765) (fun x hx => (vl_range hb i x hx).2); rwa [vl_len] at this⟩
  induction d with
  | zero =>
    intro i hi
    obtain rfl : i = n := by omega
    have hF : Few (vl l i) (atV l 12 * 5) := ⟨by rw [vl_len]; omega, by rw [vl_len]; omega, vl_range hb i, by omega, by omega⟩
    have step : ∀ k, laws_FnAverage.l0 (k + 1) l (vl l i) (sumI (vl l i)) (i : Int) = (impl_Average.f k (vl l i) (atV l 12 * 5)).bind fun bt138 => if sumI (vl l i) = 0 then laws_FnAverage.j1 k l (vl l i) (sumI (vl l i)) (atV l 12 * 5) bt138.1 bt138.2 true else laws_FnAverage.j1 k l (vl l i) (sumI (vl l i)) (atV l 12 * 5) bt138.1 bt138.2 (decide (atV l 12 * 5 > sumI (vl l i))) := by
      intro k
      simp only [laws_FnAverage.l0]
      rw [hat0, Option.bind_some, hw, if_neg (by omega), show laws_at.f l 12 = some (atV l 12) from at_some hb hl (by omega) (by omega), Option.bind_some, w64 (x := atV l 12 * 5) (by omega) (by omega)]
    by_cases c : sumI (vl l i) = 0 ∨ atV l 12 * 5 > sumI (vl l i)
    · refine ⟨(vl l i).length + 20, fun k hk => ?_⟩
      obtain ⟨k, rfl⟩ : ∃ m, k = (m + (vl l i).length + 3) + 1 := ⟨k - (vl l i).length - 4, by omega⟩
      rw [step, avg_head hF, if_pos c, Option.bind_some]
      have : ∀ b : Bool, b = true → laws_FnAverage.j1 (k + (vl l i).length + 3) l (vl l i) (sumI (vl l i)) (atV l 12 * 5) [] false b = some true := by
        intro b hb
        rw [show k + (vl l i).length + 3 = (k + (vl l i).length + 2) + 1 from rfl]
        simp only [laws_FnAverage.j1]
        rw [if_pos hb, if_neg (by simp)]
        simp
      rcases c with c | c
      · rw [if_pos c]; exact this true rfl
      · by_cases c2 : sumI (vl l i) = 0
        · rw [if_pos c2]; exact this true rfl
        · rw [if_neg c2]; exact this _ (by simpa using c)
    · obtain ⟨out, K, e, ho, hs, hq⟩ := avg_ok hF c
      refine ⟨K + (vl l i).length * 2 + 20, fun k hk => ?_⟩
      obtain ⟨k, rfl⟩ : ∃ m, k = ((m + (vl l i).length + 1 + (vl l i).length + 1) + 1 + 1) + 1 := ⟨k - (vl l i).length * 2 - 5, by omega⟩
      rw [step, e _ (by omega), Option.bind_some, if_neg (by omega)]
      simp only [laws_FnAverage.j1]
      rw [if_neg (by simp; omega), if_pos trivial]
      simp only [laws_FnAverage.j2]
      rw [if_neg (by simp [ho]), show k + (vl l i).length + 1 + (vl l i).length + 1 = k + (vl l i).length + 1 + (vl l i).length + 1 from rfl, law_l1 hb hl hF out ho hq (vl l i).length 0 (atV l 12 * 5) (by omega) (by omega) (by omega) (by rw [vl_len]; omega) (by omega) k, show (0 : Int).toNat = 0 from rfl, List.drop_zero, hs]
      simp
  | succ d ih =>
    intro i hi
    obtain ⟨K, e⟩ := ih (i + 1) (by omega)
    refine ⟨K + 1, fun k hk => ?_⟩
    obtain ⟨k, rfl⟩ := pos_round (show 0 < k by omega)
    have ai := atV_range hb (i := (i : Int) + 1) (by omega)
    have hsi := hsum i
    simp only [laws_FnAverage.l0]
    rw [hat0, Option.bind_some, hw, if_pos (by omega), w64 (x := (i : Int) + 1) (by omega) (by omega), show laws_at.f l ((i : Int) + 1) = some (atV l ((i : Int) + 1)) from at_some hb hl (by omega) (by omega), Option.bind_some, if_pos (by rw [vl_len]; omega), w64 (x := atV l ((i : Int) + 1) * 3) (by omega) (by omega), w64 (x := sumI (vl l i) + atV l ((i : Int) + 1) * 3) (by omega) (by omega)]
    have := e k (by omega)
    rw [show sumI (vl l (i + 1)) = sumI (vl l i) + atV l ((i : Int) + 1) * 3 by rw [vl, sumI_append]; simp [sumI]] at this
    exact this
theorem FnAverage : laws_FnAverage.Pure := by
  intro l hm hlen hwf
  have hb := bytes_of hwf
  by_cases hbig : (l.length : Int) > 1048576
  · refine ⟨1, ?_⟩
    unfold laws_FnAverage.f laws_big.f
    rw [Option.bind_some, if_pos (by simpa using hbig)]
  · have a0 := atV_range hb (i := 0) (by omega)
    obtain ⟨K, e⟩ := law_l0 hb (by omega) (1 + atV l 0 % 10).toNat (by omega) (1 + atV l 0 % 10).toNat 0 (by omega)
    refine ⟨K + 1, ?_⟩
    unfold laws_FnAverage.f laws_big.f
    rw [Option.bind_some, if_neg (by simpa using hbig)]
    exact e (K + 1) (by omega)

end Go.Proofs.Ytpepdjghajphlaa.Pure
