/- Over drawn hulls the water line that is told has the volume, and the one below it has not. -/
import Derived.Test.YtpimebjddebdkaaPFnAfloatx8
import Derived.Test.YtpimebjddebdkaaKit
set_option linter.unusedVariables false
set_option linter.unusedSimpArgs false
namespace Go.Proofs.Ytpimebjddebdkaa.Pure
open Go.RowKit Go.Proofs.Ytpimebjddebdkaa.PFnAfloat Go.Proofs.YtpimebjddebdkaaW.PrintWords Go.Proofs.YtpimebjddebdkaaW.PrintLast Go.Proofs.YtpimebjddebdkaaW.Kit

theorem mask_nat (x : Int) (i : Nat) (hi : i ≤ 62) : Go.bits .and .i64 x ((2 ^ i - 1 : Nat) : Int) = x % ((2 ^ i : Nat) : Int) := by
  have hp : 0 < 2 ^ i := Nat.two_pow_pos i
  have h62 : 2 ^ i ≤ 2 ^ 62 := Nat.pow_le_pow_right (by decide) hi
  have e62 : (2 : Nat) ^ 62 = 4611686018427387904 := by decide
  rw [e62] at h62
  have hm : (2 ^ i - 1) % 2 ^ 64 = 2 ^ i - 1 := Nat.mod_eq_of_lt (by have : (2:Nat)^64 = 18446744073709551616 := by decide
                                                                     omega)
  have hd : ((2 ^ i : Nat) : Int) ∣ 18446744073709551616 := by
    have : (2 : Nat) ^ i ∣ 2 ^ 64 := Nat.pow_dvd_pow 2 (by omega)
    have h2 : (2 : Nat) ^ 64 = 18446744073709551616 := by decide
    rw [h2] at this
    exact Int.natCast_dvd_natCast.2 this
  show IntKind.i64.wrap ((BitVec.ofInt 64 x &&& BitVec.ofInt 64 ((2 ^ i - 1 : Nat) : Int)).toNat : Int) = _
  rw [BitVec.toNat_and, BitVec.ofInt_natCast, BitVec.toNat_ofNat, hm, Nat.and_two_pow_sub_one_eq_mod, BitVec.toNat_ofInt, IntKind.wrap_i64]
  have hx : 0 ≤ x % 18446744073709551616 := Int.emod_nonneg _ (by decide)
  have e : (((x % ((2 ^ 64 : Nat) : Int)).toNat % 2 ^ i : Nat) : Int) = x % ((2 ^ i : Nat) : Int) := by
    rw [Int.natCast_emod, show (((2 ^ 64 : Nat) : Int)) = 18446744073709551616 by decide, Int.toNat_of_nonneg hx, Int.emod_emod_of_dvd _ hd]
  rw [e]
  have h1 := Int.emod_nonneg x (show ((2 ^ i : Nat) : Int) ≠ 0 by omega)
  have h2 := Int.emod_lt_of_pos x (show (0 : Int) < ((2 ^ i : Nat) : Int) by omega)
  generalize x % ((2 ^ i : Nat) : Int) = r at h1 h2 ⊢
  omega
theorem mask24 (x : Int) : Go.bits .and .i64 x 16777215 = x % 16777216 := mask_nat x 24 (by decide)
theorem mask16 (x : Int) : Go.bits .and .i64 x 65535 = x % 65536 := mask_nat x 16 (by decide)
theorem mask8 (x : Int) : Go.bits .and .i64 x 255 = x % 256 := mask_nat x 8 (by decide)
theorem mask30 (x : Int) : Go.bits .and .i64 x 1073741823 = x % 1073741824 := mask_nat x 30 (by decide)
/-! ### the drawn values: a place in the bytes that stays in its row, and values that stay in their range -/
/-- The cursor's place is in the row. -/
def InRow (c : List Int) (p : Int) : Prop := 0 ≤ p ∧ p ≤ (c.length : Int)
theorem new_loop (c : List Int) (hc : c.length ≤ 1048576) (d : Nat) : ∀ (s i : Int), 0 ≤ i → i ≤ 4000 → 4000 - i = d → ∃ r, ∀ k, d < k → spec_l1New.l0 k c s i = some (c, 0, r) := by
  induction d with
  | zero =>
    intro s i h0 h1 hd
    refine ⟨s, fun k hk => ?_⟩
    obtain ⟨k, rfl⟩ := pos_round (show 0 < k by omega)
    simp only [spec_l1New.l0]
    by_cases h : i < (c.length : Int)
    · rw [if_pos h, if_neg (by omega)]
    · rw [if_neg h]
  | succ d ih =>
    intro s i h0 h1 hd
    by_cases h : i < (c.length : Int)
    · obtain ⟨r, hr⟩ := ih (Go.bits .and .i64 (wrap64 ((wrap64 ((wrap64 (s * 131)) + (wrap64 (rd c i)))) + 7)) 1073741823) (i + 1) (by omega) (by omega) (by omega)
      refine ⟨r, fun k hk => ?_⟩
      obtain ⟨k, rfl⟩ := pos_round (show 0 < k by omega)
      simp only [spec_l1New.l0]
      rw [if_pos h, if_pos (by omega), if_pos h0, w64 (x := i + 1) (by omega) (by omega)]
      exact hr k (by omega)
    · refine ⟨s, fun k hk => ?_⟩
      obtain ⟨k, rfl⟩ := pos_round (show 0 < k by omega)
      simp only [spec_l1New.l0]
      rw [if_neg h]
theorem new_ok (c : List Int) (hc : c.length ≤ 1048576) : ∃ r, ∀ k, 4000 < k → spec_l1New.f k c = some (c, 0, r) := by
  obtain ⟨r, hr⟩ := new_loop c hc 4000 (wrap64 (59059 + (c.length : Int))) 0 (by omega) (by omega) (by omega)
  exact ⟨r, hr⟩
theorem byte_ok (c : List Int) (hc : c.length ≤ 1048576) {p : Int} (hp : InRow c p) (s : Int) : ∃ b p' s', spec_l1Byte.f c p s = some (b, p', s') ∧ 0 ≤ b ∧ b ≤ 255 ∧ InRow c p' := by
  unfold spec_l1Byte.f
  obtain ⟨h0, h1⟩ := hp
  by_cases h : p < (c.length : Int)
  · rw [if_pos h, if_pos h0, w64 (x := p + 1) (by omega) (by omega)]
    refine ⟨_, _, _, rfl, ?_, ?_, by constructor <;> omega⟩ <;> rw [mask8] <;> omega
  · rw [if_neg h]
    refine ⟨_, _, _, rfl, ?_, ?_, by constructor <;> omega⟩ <;> rw [mask8] <;> omega
theorem below_ok (c : List Int) (hc : c.length ≤ 1048576) {p : Int} (hp : InRow c p) (s : Int) (n : Int) : ∃ r p' s', spec_l1Below.f c p s n = some (r, p', s') ∧ 0 ≤ r ∧ (0 < n → r < n) ∧ (n ≤ 0 → r = 0) ∧ InRow c p' := by
  unfold spec_l1Below.f
  by_cases h : n ≤ 0
  · rw [if_pos h]
    exact ⟨0, p, s, rfl, by omega, by omega, fun _ => rfl, hp⟩
  · rw [if_neg h]
    by_cases h2 : n ≤ 256
    · obtain ⟨b, p1, s1, e, b0, b1, hp1⟩ := byte_ok c hc hp s
      rw [if_pos h2, e, Option.bind_some, if_neg (by omega)]
      refine ⟨_, _, _, rfl, ?_, ?_, fun _ => by omega, hp1⟩ <;> rw [tm b0]
      · exact Int.emod_nonneg _ (by omega)
      · intro _; exact Int.emod_lt_of_pos _ (by omega)
    · obtain ⟨b, p1, s1, e, b0, b1, hp1⟩ := byte_ok c hc hp s
      obtain ⟨b', p2, s2, e2, b0', b1', hp2⟩ := byte_ok c hc hp1 s1
      obtain ⟨b'', p3, s3, e3, b0'', b1'', hp3⟩ := byte_ok c hc hp2 s2
      obtain ⟨b3, p4, s4, e4, b03, b13, hp4⟩ := byte_ok c hc hp3 s3
      rw [if_neg h2, e, Option.bind_some]
      dsimp only
      rw [e2, Option.bind_some]
      dsimp only
      rw [e3, Option.bind_some]
      dsimp only
      rw [e4, Option.bind_some, if_neg (by omega)]
      dsimp only
      rw [w64 (x := b * 16777216) (by omega) (by omega), w64 (x := b' * 65536) (by omega) (by omega), w64 (x := b'' * 256) (by omega) (by omega), w64 (x := b * 16777216 + b' * 65536) (by omega) (by omega), w64 (x := b * 16777216 + b' * 65536 + b'' * 256) (by omega) (by omega), w64 (by omega) (by omega), tm (by omega)]
      exact ⟨_, _, _, rfl, Int.emod_nonneg _ (by omega), fun _ => Int.emod_lt_of_pos _ (by omega), fun _ => by omega, hp4⟩
theorem once_ok (c : List Int) (hc : c.length ≤ 1048576) {p : Int} (hp : InRow c p) (s : Int) (n : Int) : ∃ r p' s', spec_l1Once.f c p s n = some (r, p', s') ∧ InRow c p' := by
  obtain ⟨b, p1, s1, e, _, _, _, hp1⟩ := below_ok c hc hp s n
  unfold spec_l1Once.f
  rw [e, Option.bind_some]
  exact ⟨_, _, _, rfl, hp1⟩
/-! ### rows of rows -/
theorem rdL_lt {l : List (List Int)} {i : Int} (h0 : 0 ≤ i) (h1 : i < l.length) : ∃ h : i.toNat < l.length, rd_L2 l i = l[i.toNat]'h := by
  have h : i.toNat < l.length := by omega
  exact ⟨h, by simp [rd_L2, List.getD_eq_getElem?_getD, List.getElem?_eq_getElem h]⟩
theorem rdL_mem {l : List (List Int)} {i : Int} (h0 : 0 ≤ i) (h1 : i < l.length) : rd_L2 l i ∈ l := by
  obtain ⟨h, e⟩ := rdL_lt h0 h1
  rw [e]; exact List.getElem_mem h
/-- A hull that is right: so many rows, each as wide, and no half-breadth out of range. -/
def Hull (W : Int) (l : List (List Int)) : Prop := ∀ r ∈ l, (r.length : Int) = W ∧ ∀ x ∈ r, 0 ≤ x ∧ x ≤ 50
theorem hull_row {W : Int} {l : List (List Int)} (h : Hull W l) {i : Int} (h0 : 0 ≤ i) (h1 : i < l.length) : ((rd_L2 l i).length : Int) = W := (h _ (rdL_mem h0 h1)).1
theorem hull_cell {W : Int} {l : List (List Int)} (h : Hull W l) {i j : Int} (h0 : 0 ≤ i) (h1 : i < l.length) (h2 : 0 ≤ j) (h3 : j < W) : 0 ≤ rd (rd_L2 l i) j ∧ rd (rd_L2 l i) j ≤ 50 :=
  (h _ (rdL_mem h0 h1)).2 _ (rd_mem h2 (by rw [hull_row h h0 h1]; exact h3))
/-! ### the drawn hull -/
theorem hull_row_drawn (c : List Int) (hc : c.length ≤ 1048576) (n W st a b : Int) (hW : W ≤ 10) (half : List (List Int)) (hh : half.length ≤ 100) (hst : 0 ≤ st) (hst1 : st ≤ 1000) (d : Nat) : ∀ (row : List Int) (x j p s : Int), 0 ≤ j → j ≤ W → W - j = d → (row.length : Int) = j → (∀ y ∈ row, 0 ≤ y ∧ y ≤ 50) → 0 ≤ x → x ≤ 50 → InRow c p →
    ∃ (row' : List Int) (p' s' : Int), (row'.length : Int) = W ∧ (∀ y ∈ row', 0 ≤ y ∧ y ≤ 50) ∧ InRow c p' ∧ ∀ k, spec_l1DrawHull.l1 (k + d + 1) n W st row x j c p s a b half = spec_l1DrawHull.l0 k n W (st + 1) c p' s' a b (half ++ [row']) := by
  induction d with
  | zero =>
    intro row x j p s h0 h1 hd hl hr hx0 hx1 hp
    refine ⟨row, p, s, by omega, hr, hp, fun k => ?_⟩
    simp only [spec_l1DrawHull.l1, Nat.add_zero]
    rw [if_neg (by omega), if_pos (by omega), w64 (x := st + 1) (by omega) (by omega)]
  | succ d ih =>
    intro row x j p s h0 h1 hd hl hr hx0 hx1 hp
    obtain ⟨v, p1, s1, e1, v0, v1, _, hp1⟩ := below_ok c hc hp s 6
    have hv := v1 (by omega)
    obtain ⟨y, p2, s2, e2, hp2⟩ := once_ok c hc hp1 s1 15
    have hr' : ∀ y ∈ row ++ [x], 0 ≤ y ∧ y ≤ 50 := by
      intro y hy
      rcases List.mem_append.1 hy with hy | hy
      · exact hr y hy
      · rw [List.mem_singleton.1 hy]; exact ⟨hx0, hx1⟩
    have go : ∀ (x' p' s' : Int), 0 ≤ x' → x' ≤ 50 → InRow c p' → _ := fun x' p' s' i0 i1 i2 => ih (row ++ [x]) x' (j + 1) p' s' (by omega) (by omega) (by omega) (by simp; omega) hr' i0 i1 i2
    have step : ∀ (x' p' s' : Int), 0 ≤ x' → x' ≤ 50 → InRow c p' → (∀ k, spec_l1DrawHull.l1 (k + 1) n W st row x j c p s a b half = spec_l1DrawHull.l1 k n W st (row ++ [x]) x' (j + 1) c p' s' a b half) →
        ∃ (row' : List Int) (p' s' : Int), (row'.length : Int) = W ∧ (∀ y ∈ row', 0 ≤ y ∧ y ≤ 50) ∧ InRow c p' ∧ ∀ k, spec_l1DrawHull.l1 (k + (d + 1) + 1) n W st row x j c p s a b half = spec_l1DrawHull.l0 k n W (st + 1) c p' s' a b (half ++ [row']) := by
      intro x' p' s' i0 i1 i2 hs
      obtain ⟨row', p3, s3, r1, r2, r3, r4⟩ := go x' p' s' i0 i1 i2
      exact ⟨row', p3, s3, r1, r2, r3, fun k => by rw [show k + (d + 1) + 1 = (k + d + 1) + 1 by omega, hs, r4]⟩
    cases y with
    | true =>
      obtain ⟨u, p3, s3, e3, u0, u1, _, hp3⟩ := below_ok c hc hp2 s2 10
      have hu := u1 (by omega)
      refine step u p3 s3 u0 (by omega) hp3 fun k => ?_
      rw [spec_l1DrawHull.l1, if_pos (by omega), if_pos (by omega), Option.bind_some, e1, Option.bind_some]
      dsimp only
      rw [e2, Option.bind_some, if_pos rfl]
      dsimp only
      rw [e3, Option.bind_some, if_neg (by dsimp only; omega), w64 (x := j + 1) (by omega) (by omega)]
    | false =>
      by_cases c50 : x + v > 50
      · refine step 50 p2 s2 (by omega) (by omega) hp2 fun k => ?_
        rw [spec_l1DrawHull.l1, if_pos (by omega), if_pos (by omega), Option.bind_some, e1, Option.bind_some]
        dsimp only
        rw [e2, Option.bind_some, if_neg (by simp), w64 (x := x + v) (by omega) (by omega), if_pos c50, w64 (x := j + 1) (by omega) (by omega)]
      · refine step (x + v) p2 s2 (by omega) (by omega) hp2 fun k => ?_
        rw [spec_l1DrawHull.l1, if_pos (by omega), if_pos (by omega), Option.bind_some, e1, Option.bind_some]
        dsimp only
        rw [e2, Option.bind_some, if_neg (by simp), w64 (x := x + v) (by omega) (by omega), if_neg c50, w64 (x := j + 1) (by omega) (by omega)]
theorem hull_rows_drawn (c : List Int) (hc : c.length ≤ 1048576) (n W a b : Int) (hn : n ≤ 12) (hW0 : 0 ≤ W) (hW : W ≤ 10) (d : Nat) : ∀ (half : List (List Int)) (i p s : Int), 0 ≤ i → i ≤ n → n - i = d → (half.length : Int) = i → Hull W half → InRow c p →
    ∃ (half' : List (List Int)) (p' s' : Int), (half'.length : Int) = n ∧ Hull W half' ∧ InRow c p' ∧ ∀ k, 12 * d < k → spec_l1DrawHull.l0 k n W i c p s a b half = some (a, b, half', p', s') := by
  induction d with
  | zero =>
    intro half i p s h0 h1 hd hl hh hp
    refine ⟨half, p, s, by omega, hh, hp, fun k hk => ?_⟩
    obtain ⟨k, rfl⟩ := pos_round (show 0 < k by omega)
    simp only [spec_l1DrawHull.l0]
    rw [if_neg (by omega)]
  | succ d ih =>
    intro half i p s h0 h1 hd hl hh hp
    obtain ⟨v, p1, s1, e1, v0, v1, _, hp1⟩ := below_ok c hc hp s 8
    have hv := v1 (by omega)
    obtain ⟨row, p2, s2, r1, r2, hp2, r3⟩ := hull_row_drawn c hc n W i a b hW half (by omega) h0 (by omega) W.toNat [] v 0 p1 s1 (by omega) hW0 (by omega) rfl (by simp) v0 (by omega) hp1
    obtain ⟨half', p3, s3, t1, t2, t3, t4⟩ := ih (half ++ [row]) (i + 1) p2 s2 (by omega) (by omega) (by omega) (by simp; omega) (by
      intro r hr
      rcases List.mem_append.1 hr with hr | hr
      · exact hh r hr
      · rw [List.mem_singleton.1 hr]; exact ⟨r1, r2⟩) hp2
    refine ⟨half', p3, s3, t1, t2, t3, fun k hk => ?_⟩
    obtain ⟨k, rfl⟩ : ∃ j, k = (j + W.toNat + 1) + 1 := ⟨k - W.toNat - 2, by omega⟩
    rw [spec_l1DrawHull.l0, if_pos (by omega), e1, Option.bind_some]
    dsimp only
    rw [r3]
    exact t4 k (by omega)
theorem hull_drawn (c : List Int) (hc : c.length ≤ 1048576) : ∃ (a b W w : Int) (half : List (List Int)), 1 ≤ a ∧ a ≤ 12 ∧ 1 ≤ b ∧ b ≤ 5 ∧ 2 ≤ W ∧ W ≤ 10 ∧ 2 ≤ half.length ∧ half.length ≤ 12 ∧ Hull W half ∧ 0 ≤ w ∧ w < W ∧ ∀ k, 4000 < k → spec_DrawRightHull.f k c = some (a, b, half, w) := by
  obtain ⟨s0, e0⟩ := new_ok c hc
  obtain ⟨v1, p1, s1, e1, v10, v11, _, hp1⟩ := below_ok c hc (p := 0) (by constructor <;> omega) s0 12
  obtain ⟨v2, p2, s2, e2, v20, v21, _, hp2⟩ := below_ok c hc hp1 s1 5
  obtain ⟨v3, p3, s3, e3, v30, v31, _, hp3⟩ := below_ok c hc hp2 s2 6
  obtain ⟨v4, p4, s4, e4, v40, v41, _, hp4⟩ := below_ok c hc hp3 s3 6
  obtain ⟨y, p5, s5, e5, hp5⟩ := once_ok c hc hp4 s4 20
  have i1 := v11 (by omega)
  have i2 := v21 (by omega)
  have i3 := v31 (by omega)
  have i4 := v41 (by omega)
  have main : ∃ (n W : Int), 2 ≤ n ∧ n ≤ 12 ∧ 2 ≤ W ∧ W ≤ 10 ∧ ∀ k, spec_l1DrawHull.f (k + 1) c 0 s0 = spec_l1DrawHull.l0 k n W 0 c p5 s5 (1 + v1) (1 + v2) [] := by
    cases y with
    | true =>
      refine ⟨12, 10, by omega, by omega, by omega, by omega, fun k => ?_⟩
      unfold spec_l1DrawHull.f
      rw [e1, Option.bind_some]
      dsimp only
      rw [e2, Option.bind_some]
      dsimp only
      rw [e3, Option.bind_some]
      dsimp only
      rw [e4, Option.bind_some]
      dsimp only
      rw [e5, Option.bind_some, if_pos rfl, spec_l1DrawHull.j0, w64 (x := 1 + v1) (by omega) (by omega), w64 (x := 1 + v2) (by omega) (by omega)]
    | false =>
      refine ⟨2 + v3, 2 + v4, by omega, by omega, by omega, by omega, fun k => ?_⟩
      unfold spec_l1DrawHull.f
      rw [e1, Option.bind_some]
      dsimp only
      rw [e2, Option.bind_some]
      dsimp only
      rw [e3, Option.bind_some]
      dsimp only
      rw [e4, Option.bind_some]
      dsimp only
      rw [e5, Option.bind_some, if_neg (by simp), spec_l1DrawHull.j0, w64 (x := 1 + v1) (by omega) (by omega), w64 (x := 1 + v2) (by omega) (by omega), w64 (x := 2 + v3) (by omega) (by omega), w64 (x := 2 + v4) (by omega) (by omega)]
  obtain ⟨n, W, hn0, hn1, hW0, hW1, hm⟩ := main
  obtain ⟨half, p6, s6, g1, g2, hp6, g3⟩ := hull_rows_drawn c hc n W (1 + v1) (1 + v2) hn1 (by omega) hW1 n.toNat [] 0 p5 s5 (by omega) (by omega) (by omega) rfl (fun r hr => by simp at hr) hp5
  obtain ⟨w, p7, s7, e7, w0, w1, _, _⟩ := below_ok c hc hp6 s6 W
  refine ⟨1 + v1, 1 + v2, W, w, half, by omega, by omega, by omega, by omega, hW0, hW1, by omega, by omega, g2, w0, w1 (by omega), fun k hk => ?_⟩
  obtain ⟨k, rfl⟩ := pos_round (show 0 < k by omega)
  unfold spec_DrawRightHull.f
  rw [e0 (k + 1) (by omega), Option.bind_some]
  dsimp only
  rw [hm, g3 k (by omega), Option.bind_some]
  dsimp only
  rw [if_pos (by omega), hull_row g2 (by omega) (by omega), e7, Option.bind_some]
/-! ### what the program and the reference say of a right hull -/
theorem in_eqA (a b c : Int) : impl_in.f a b c = some (decide (b ≤ a ∧ a ≤ c)) := in_some a b c
theorem in_eqA' (a b c : Int) : spec_l1In.f a b c = some (decide (b ≤ a ∧ a ≤ c)) := in_some a b c
theorem all_ok {l : List Int} (h : ∀ x ∈ l, 0 ≤ x ∧ x ≤ 50) : impl_all.f l 0 50 = some true := by
  unfold impl_all.f
  congr 1
  rw [List.all_eq_true]
  intro x hx
  obtain ⟨h1, h2⟩ := h x hx
  simp [h1, h2]
theorem hullok_loop {a b W : Int} {half : List (List Int)} (ha : 1 ≤ a ∧ a ≤ 12) (hb : 1 ≤ b ∧ b ≤ 5) (hW : 2 ≤ W ∧ W ≤ 10) (hn : 2 ≤ half.length ∧ half.length ≤ 12) (hh : Hull W half) (d : Nat) : ∀ (i : Int), 0 ≤ i → i ≤ half.length → (half.length : Int) - i = d → ∀ k, d < k → impl_HullOk.l0 k half (half.length : Int) i a b half = some true := by
  induction d with
  | zero =>
    intro i h0 h1 hd k hk
    obtain ⟨k, rfl⟩ := pos_round (show 0 < k by omega)
    simp only [impl_HullOk.l0]
    rw [if_neg (by omega)]
  | succ d ih =>
    intro i h0 h1 hd k hk
    obtain ⟨k, rfl⟩ := pos_round (show 0 < k by omega)
    simp only [impl_HullOk.l0]
    rw [if_pos (by omega), if_pos h0, if_pos (by omega), if_pos (by omega), hull_row hh h0 (by omega), hull_row hh (by omega) (by omega), if_pos rfl, all_ok (hh _ (rdL_mem h0 (by omega))).2, Option.bind_some, if_pos rfl, w64 (x := i + 1) (by omega) (by omega)]
    exact ih (i + 1) (by omega) (by omega) (by omega) k (by omega)
theorem hullok {a b W : Int} {half : List (List Int)} (ha : 1 ≤ a ∧ a ≤ 12) (hb : 1 ≤ b ∧ b ≤ 5) (hW : 2 ≤ W ∧ W ≤ 10) (hn : 2 ≤ half.length ∧ half.length ≤ 12) (hh : Hull W half) (k : Nat) (hk : 20 < k) : impl_HullOk.f k a b half = some true := by
  obtain ⟨k, rfl⟩ := pos_round (show 0 < k by omega)
  unfold impl_HullOk.f
  rw [in_eqA, in_eqA, in_eqA, decide_eq_true (by omega), Option.bind_some, if_pos rfl, decide_eq_true (by omega), Option.bind_some, if_pos rfl, decide_eq_true (by omega), Option.bind_some, if_pos rfl, if_pos (by omega), hull_row hh (by omega) (by omega), in_eqA, decide_eq_true (by omega), Option.bind_some, Bool.not_true]
  simp only [impl_HullOk.j0, Bool.false_eq_true, if_false]
  exact hullok_loop ha hb hW hn hh half.length 0 (by omega) (by omega) (by omega) k (by omega)
theorem waterok {a b W : Int} {half : List (List Int)} (ha : 1 ≤ a ∧ a ≤ 12) (hb : 1 ≤ b ∧ b ≤ 5) (hW : 2 ≤ W ∧ W ≤ 10) (hn : 2 ≤ half.length ∧ half.length ≤ 12) (hh : Hull W half) (w : Int) (hw : 0 ≤ w ∧ w < W) (k : Nat) (hk : 20 < k) : impl_waterOk.f k a b half w = some true := by
  unfold impl_waterOk.f
  rw [hullok ha hb hW hn hh k hk, Option.bind_some, if_pos rfl, if_pos (by omega), hull_row hh (by omega) (by omega), in_eqA, w64 (x := W - 1) (by omega) (by omega), decide_eq_true (by omega), Option.bind_some]
theorem strip_loop {a b W : Int} {half : List (List Int)} (ha : 1 ≤ a ∧ a ≤ 12) (hb : 1 ≤ b ∧ b ≤ 5) (hW : 2 ≤ W ∧ W ≤ 10) (hn : 2 ≤ half.length ∧ half.length ≤ 12) (hh : Hull W half) (w : Int) (hw : 0 ≤ w ∧ w < W) (i : Int) (h0 : 0 ≤ i) (h1 : i < (half.length : Int) - 1) (d : Nat) : ∀ (o : List Int) (j : Int), (o.length : Int) = half.length - 1 → 0 ≤ j → j ≤ w → w - j = d → ∃ o' : List Int, (o'.length : Int) = half.length - 1 ∧ ∀ k, impl_Strips2.l1 (k + d + 1) w o i ((half.length : Int) - 1) i w j a b half = impl_Strips2.l0 k w o' ((half.length : Int) - 1) (i + 1) a b half := by
  induction d with
  | zero =>
    intro o j ho h2 h3 hd
    refine ⟨o, ho, fun k => ?_⟩
    simp only [impl_Strips2.l1, Nat.add_zero]
    rw [if_neg (by omega), w64 (x := i + 1) (by omega) (by omega)]
  | succ d ih =>
    intro o j ho h2 h3 hd
    obtain ⟨o', ho', e⟩ := ih (o.set i.toNat (wrap64 ((rd o i) + (wrap64 ((wrap64 (b * a)) * (wrap64 ((wrap64 ((wrap64 ((rd (rd_L2 half i) j) + (rd (rd_L2 half (i + 1)) j))) + (rd (rd_L2 half i) (j + 1)))) + (rd (rd_L2 half (i + 1)) (j + 1))))))))) (j + 1) (by simpa using ho) (by omega) (by omega) (by omega)
    refine ⟨o', ho', fun k => ?_⟩
    rw [show k + (d + 1) + 1 = (k + d + 1) + 1 by omega, impl_Strips2.l1, w64 (x := i + 1) (by omega) (by omega), w64 (x := j + 1) (by omega) (by omega), if_pos (by omega), if_pos h0, if_pos (by omega), if_pos (by omega), if_pos h2, hull_row hh h0 (by omega), if_pos (by omega), if_pos (by omega), if_pos (by omega), hull_row hh (by omega) (by omega), if_pos (by omega), if_pos (by omega), if_pos (by omega), if_pos (by omega), e]
theorem strips_loop {a b W : Int} {half : List (List Int)} (ha : 1 ≤ a ∧ a ≤ 12) (hb : 1 ≤ b ∧ b ≤ 5) (hW : 2 ≤ W ∧ W ≤ 10) (hn : 2 ≤ half.length ∧ half.length ≤ 12) (hh : Hull W half) (w : Int) (hw : 0 ≤ w ∧ w < W) (d : Nat) : ∀ (o : List Int) (i : Int), (o.length : Int) = half.length - 1 → 0 ≤ i → i ≤ (half.length : Int) - 1 → (half.length : Int) - 1 - i = d → ∃ o' : List Int, (o'.length : Int) = half.length - 1 ∧ ∀ k, 12 * d < k → impl_Strips2.l0 k w o ((half.length : Int) - 1) i a b half = some o' := by
  induction d with
  | zero =>
    intro o i ho h0 h1 hd
    refine ⟨o, ho, fun k hk => ?_⟩
    obtain ⟨k, rfl⟩ := pos_round (show 0 < k by omega)
    simp only [impl_Strips2.l0]
    rw [if_neg (by omega)]
  | succ d ih =>
    intro o i ho h0 h1 hd
    obtain ⟨o1, ho1, e1⟩ := strip_loop ha hb hW hn hh w hw i h0 (by omega) w.toNat o 0 ho (by omega) hw.1 (by omega)
    obtain ⟨o2, ho2, e2⟩ := ih o1 (i + 1) ho1 (by omega) (by omega) (by omega)
    refine ⟨o2, ho2, fun k hk => ?_⟩
    obtain ⟨k, rfl⟩ : ∃ j, k = (j + w.toNat + 1) + 1 := ⟨k - w.toNat - 2, by omega⟩
    rw [impl_Strips2.l0, if_pos (by omega), e1]
    exact e2 k (by omega)
theorem sum_ok {a b W : Int} {half : List (List Int)} (ha : 1 ≤ a ∧ a ≤ 12) (hb : 1 ≤ b ∧ b ≤ 5) (hW : 2 ≤ W ∧ W ≤ 10) (hn : 2 ≤ half.length ∧ half.length ≤ 12) (hh : Hull W half) (l : List Int) (hl : l.length ≤ 1000) (d : Nat) : ∀ (x i : Int), 0 ≤ i → i ≤ l.length → (l.length : Int) - i = d → ∃ s, ∀ k, d < k → impl_sumOf.l0 k x l (l.length : Int) i = some s := by
  induction d with
  | zero =>
    intro x i h0 h1 hd
    refine ⟨x, fun k hk => ?_⟩
    obtain ⟨k, rfl⟩ := pos_round (show 0 < k by omega)
    simp only [impl_sumOf.l0]
    rw [if_neg (by omega)]
  | succ d ih =>
    intro x i h0 h1 hd
    obtain ⟨s, hs⟩ := ih (wrap64 (x + rd l i)) (i + 1) (by omega) (by omega) (by omega)
    refine ⟨s, fun k hk => ?_⟩
    obtain ⟨k, rfl⟩ := pos_round (show 0 < k by omega)
    simp only [impl_sumOf.l0]
    rw [if_pos (by omega), if_pos h0, if_pos (by omega), w64 (x := i + 1) (by omega) (by omega)]
    exact hs k (by omega)
/-- The program tells a volume of each water line. -/
theorem volume {a b W : Int} {half : List (List Int)} (ha : 1 ≤ a ∧ a ≤ 12) (hb : 1 ≤ b ∧ b ≤ 5) (hW : 2 ≤ W ∧ W ≤ 10) (hn : 2 ≤ half.length ∧ half.length ≤ 12) (hh : Hull W half) (w : Int) (hw : 0 ≤ w ∧ w < W) : ∃ v, ∀ k, 200 < k → impl_Volume2.f k a b half w = some v := by
  obtain ⟨o, ho, eo⟩ := strips_loop ha hb hW hn hh w hw (half.length - 1) (List.replicate ((half.length : Int) - 1).toNat 0) 0 (by simp; omega) (by omega) (by omega) (by omega)
  obtain ⟨s, hs⟩ := sum_ok ha hb hW hn hh o (by omega) o.length 0 0 (by omega) (by omega) (by omega)
  refine ⟨s, fun k hk => ?_⟩
  unfold impl_Volume2.f impl_Strips2.f impl_sumOf.f
  rw [waterok ha hb hW hn hh w hw k (by omega), Option.bind_some, if_pos rfl, w64 (x := (half.length : Int) - 1) (by omega) (by omega), if_pos (by omega), if_pos (by omega), Option.bind_some, List.length_replicate, show (((((half.length : Int) - 1).toNat : Nat)) : Int) = (half.length : Int) - 1 by omega, eo k (by omega), Option.bind_some, hs k (by omega), Option.bind_some]
/-! ### the reference's volume isn't great -/
theorem specok_cells {a b W : Int} {half : List (List Int)} (ha : 1 ≤ a ∧ a ≤ 12) (hb : 1 ≤ b ∧ b ≤ 5) (hW : 2 ≤ W ∧ W ≤ 10) (hn : 2 ≤ half.length ∧ half.length ≤ 12) (hh : Hull W half) (i : Int) (h0 : 0 ≤ i) (h1 : i < (half.length : Int)) (d : Nat) : ∀ (j : Int), 0 ≤ j → j ≤ W → W - j = d → ∀ k, spec_HullOk.l1 (k + d + 1) i j a b half = spec_HullOk.l0 k (i + 1) a b half := by
  induction d with
  | zero =>
    intro j h2 h3 hd k
    rw [show k + 0 + 1 = k + 1 by omega, spec_HullOk.l1, if_pos h0, if_pos h1, hull_row hh h0 h1, if_neg (by omega), w64 (x := i + 1) (by omega) (by omega)]
  | succ d ih =>
    intro j h2 h3 hd k
    have hc := hull_cell hh h0 h1 h2 (show j < W by omega)
    rw [show k + (d + 1) + 1 = (k + d + 1) + 1 by omega, spec_HullOk.l1, if_pos h0, if_pos h1, hull_row hh h0 h1, if_pos (by omega), if_pos h2, in_eqA', decide_eq_true hc, Option.bind_some, if_pos rfl, w64 (x := j + 1) (by omega) (by omega)]
    exact ih (j + 1) (by omega) (by omega) (by omega) k
theorem specok_loop {a b W : Int} {half : List (List Int)} (ha : 1 ≤ a ∧ a ≤ 12) (hb : 1 ≤ b ∧ b ≤ 5) (hW : 2 ≤ W ∧ W ≤ 10) (hn : 2 ≤ half.length ∧ half.length ≤ 12) (hh : Hull W half) (d : Nat) : ∀ (i : Int), 0 ≤ i → i ≤ half.length → (half.length : Int) - i = d → ∀ k, 13 * d < k → spec_HullOk.l0 k i a b half = some true := by
  induction d with
  | zero =>
    intro i h0 h1 hd k hk
    obtain ⟨k, rfl⟩ := pos_round (show 0 < k by omega)
    simp only [spec_HullOk.l0]
    rw [if_neg (by omega)]
  | succ d ih =>
    intro i h0 h1 hd k hk
    obtain ⟨k, rfl⟩ : ∃ j, k = (j + W.toNat + 1) + 1 + 1 := ⟨k - W.toNat - 3, by omega⟩
    rw [spec_HullOk.l0, if_pos (by omega), if_pos h0, if_pos (by omega), hull_row hh h0 (by omega), hull_row hh (by omega) (by omega), if_pos rfl, in_eqA', decide_eq_true (by omega), Option.bind_some, Bool.not_true, spec_HullOk.j2, if_neg (by simp), specok_cells ha hb hW hn hh i h0 (by omega) W.toNat 0 (by omega) (by omega) (by omega)]
    exact ih (i + 1) (by omega) (by omega) (by omega) k (by omega)
theorem specwater {a b W : Int} {half : List (List Int)} (ha : 1 ≤ a ∧ a ≤ 12) (hb : 1 ≤ b ∧ b ≤ 5) (hW : 2 ≤ W ∧ W ≤ 10) (hn : 2 ≤ half.length ∧ half.length ≤ 12) (hh : Hull W half) (w : Int) (hw : 0 ≤ w ∧ w < W) (k : Nat) (hk : 200 < k) : spec_l1Water.f k a b half w = some true := by
  obtain ⟨k, rfl⟩ := pos_round (show 0 < k by omega)
  unfold spec_l1Water.f spec_HullOk.f
  rw [in_eqA', in_eqA', in_eqA', decide_eq_true (by omega), Option.bind_some, if_pos rfl, decide_eq_true (by omega), Option.bind_some, if_pos rfl, decide_eq_true (by omega), Option.bind_some, Bool.not_true]
  simp only [spec_HullOk.j0, Bool.false_eq_true, if_false]
  rw [specok_loop ha hb hW hn hh half.length 0 (by omega) (by omega) (by omega) k (by omega), Option.bind_some, if_pos rfl, if_pos (by omega), hull_row hh (by omega) (by omega), in_eqA', w64 (x := W - 1) (by omega) (by omega), decide_eq_true (by omega), Option.bind_some]
theorem spec_strip {a b W : Int} {half : List (List Int)} (ha : 1 ≤ a ∧ a ≤ 12) (hb : 1 ≤ b ∧ b ≤ 5) (hW : 2 ≤ W ∧ W ≤ 10) (hn : 2 ≤ half.length ∧ half.length ≤ 12) (hh : Hull W half) (w : Int) (hw : 0 ≤ w ∧ w < W) (o : List Int) (ho : o.length ≤ 100) (i : Int) (h0 : 0 ≤ i) (h1 : i < (half.length : Int) - 1) (d : Nat) : ∀ (x j : Int), 0 ≤ j → j ≤ w → w - j = d → 0 ≤ x → x ≤ 200 * j → ∃ y : Int, 0 ≤ y ∧ y ≤ 120000 ∧ ∀ k, spec_Strips2.l1 (k + d + 1) w o i x j a b half = spec_Strips2.l0 k w (o ++ [y]) (i + 1) a b half := by
  induction d with
  | zero =>
    intro x j h2 h3 hd x0 x1
    have m0 : 1 ≤ b * a := by have := Int.mul_le_mul hb.1 ha.1 (by omega) (by omega); omega
    have m1 : b * a ≤ 60 := mul_le2 hb.2 ha.2 (by omega) (by omega)
    have m2 : 0 ≤ b * a * x := Int.mul_nonneg (by omega) x0
    have m3 : b * a * x ≤ 60 * 2000 := mul_le2 m1 (by omega) x0 (by omega)
    refine ⟨b * a * x, m2, by omega, fun k => ?_⟩
    rw [show k + 0 + 1 = k + 1 by omega, spec_Strips2.l1, if_neg (by omega), if_pos (by omega), w64 (x := b * a) (by omega) (by omega), w64 (x := b * a * x) (by omega) (by omega), w64 (x := i + 1) (by omega) (by omega)]
  | succ d ih =>
    intro x j h2 h3 hd x0 x1
    have c1 := hull_cell hh h0 (show i < (half.length : Int) by omega) h2 (show j < W by omega)
    have c2 := hull_cell hh (show 0 ≤ i + 1 by omega) (show i + 1 < (half.length : Int) by omega) h2 (show j < W by omega)
    have c3 := hull_cell hh h0 (show i < (half.length : Int) by omega) (show 0 ≤ j + 1 by omega) (show j + 1 < W by omega)
    have c4 := hull_cell hh (show 0 ≤ i + 1 by omega) (show i + 1 < (half.length : Int) by omega) (show 0 ≤ j + 1 by omega) (show j + 1 < W by omega)
    obtain ⟨y, y0, y1, hy⟩ := ih (x + rd (rd_L2 half i) j + rd (rd_L2 half (i + 1)) j + rd (rd_L2 half i) (j + 1) + rd (rd_L2 half (i + 1)) (j + 1)) (j + 1) (by omega) (by omega) (by omega) (by omega) (by omega)
    refine ⟨y, y0, y1, fun k => ?_⟩
    rw [show k + (d + 1) + 1 = (k + d + 1) + 1 by omega, spec_Strips2.l1, w64 (x := i + 1) (by omega) (by omega), w64 (x := j + 1) (by omega) (by omega), if_pos (by omega), if_pos h0, if_pos (by omega), if_pos h2, hull_row hh h0 (by omega), if_pos (by omega), if_pos (by omega), if_pos (by omega), hull_row hh (by omega) (by omega), if_pos (by omega), if_pos (by omega), if_pos (by omega), if_pos (by omega), w64 (x := x + _) (by omega) (by omega), w64 (x := x + _ + _) (by omega) (by omega), w64 (x := x + _ + _ + _) (by omega) (by omega), w64 (x := x + _ + _ + _ + _) (by omega) (by omega), hy]
theorem spec_strips {a b W : Int} {half : List (List Int)} (ha : 1 ≤ a ∧ a ≤ 12) (hb : 1 ≤ b ∧ b ≤ 5) (hW : 2 ≤ W ∧ W ≤ 10) (hn : 2 ≤ half.length ∧ half.length ≤ 12) (hh : Hull W half) (w : Int) (hw : 0 ≤ w ∧ w < W) (d : Nat) : ∀ (o : List Int) (i : Int), (o.length : Int) = i → (∀ y ∈ o, 0 ≤ y ∧ y ≤ 120000) → 0 ≤ i → i ≤ (half.length : Int) - 1 → (half.length : Int) - 1 - i = d → ∃ o' : List Int, o'.length ≤ 12 ∧ (∀ y ∈ o', 0 ≤ y ∧ y ≤ 120000) ∧ ∀ k, 12 * d < k → spec_Strips2.l0 k w o i a b half = some o' := by
  induction d with
  | zero =>
    intro o i ho hy h0 h1 hd
    refine ⟨o, by omega, hy, fun k hk => ?_⟩
    obtain ⟨k, rfl⟩ := pos_round (show 0 < k by omega)
    simp only [spec_Strips2.l0]
    rw [w64 (x := i + 1) (by omega) (by omega), if_neg (by omega)]
  | succ d ih =>
    intro o i ho hy h0 h1 hd
    obtain ⟨y, y0, y1, e1⟩ := spec_strip ha hb hW hn hh w hw o (by omega) i h0 (by omega) w.toNat 0 0 (by omega) hw.1 (by omega) (by omega) (by omega)
    obtain ⟨o2, ho2, hy2, e2⟩ := ih (o ++ [y]) (i + 1) (by simp; omega) (by
      intro z hz
      rcases List.mem_append.1 hz with hz | hz
      · exact hy z hz
      · rw [List.mem_singleton.1 hz]; exact ⟨y0, y1⟩) (by omega) (by omega) (by omega)
    refine ⟨o2, ho2, hy2, fun k hk => ?_⟩
    obtain ⟨k, rfl⟩ : ∃ j, k = (j + w.toNat + 1) + 1 := ⟨k - w.toNat - 2, by omega⟩
    rw [spec_Strips2.l0, w64 (x := i + 1) (by omega) (by omega), if_pos (by omega), e1]
    exact e2 k (by omega)
theorem spec_sum {a b W : Int} {half : List (List Int)} (ha : 1 ≤ a ∧ a ≤ 12) (hb : 1 ≤ b ∧ b ≤ 5) (hW : 2 ≤ W ∧ W ≤ 10) (hn : 2 ≤ half.length ∧ half.length ≤ 12) (hh : Hull W half) (l : List Int) (hl : l.length ≤ 12) (hy : ∀ y ∈ l, 0 ≤ y ∧ y ≤ 120000) (d : Nat) : ∀ (x i : Int), 0 ≤ i → i ≤ l.length → (l.length : Int) - i = d → 0 ≤ x → x ≤ 120000 * i → ∃ s, 0 ≤ s ∧ s ≤ 120000 * 12 ∧ ∀ k, d < k → spec_l1Sum.l0 k l x i = some s := by
  induction d with
  | zero =>
    intro x i h0 h1 hd x0 x1
    refine ⟨x, x0, by omega, fun k hk => ?_⟩
    obtain ⟨k, rfl⟩ := pos_round (show 0 < k by omega)
    simp only [spec_l1Sum.l0]
    rw [if_neg (by omega)]
  | succ d ih =>
    intro x i h0 h1 hd x0 x1
    have := hy _ (rd_mem h0 (show i < (l.length : Int) by omega))
    obtain ⟨s, s0, s1, hs⟩ := ih (x + rd l i) (i + 1) (by omega) (by omega) (by omega) (by omega) (by omega)
    refine ⟨s, s0, s1, fun k hk => ?_⟩
    obtain ⟨k, rfl⟩ := pos_round (show 0 < k by omega)
    simp only [spec_l1Sum.l0]
    rw [if_pos (by omega), if_pos h0, w64 (x := x + rd l i) (by omega) (by omega), w64 (x := i + 1) (by omega) (by omega)]
    exact hs k (by omega)
theorem spec_volume {a b W : Int} {half : List (List Int)} (ha : 1 ≤ a ∧ a ≤ 12) (hb : 1 ≤ b ∧ b ≤ 5) (hW : 2 ≤ W ∧ W ≤ 10) (hn : 2 ≤ half.length ∧ half.length ≤ 12) (hh : Hull W half) (w : Int) (hw : 0 ≤ w ∧ w < W) : ∃ v, 0 ≤ v ∧ v ≤ 120000 * 12 ∧ ∀ k, 200 < k → spec_Volume2.f k a b half w = some v := by
  obtain ⟨o, ho, hy, eo⟩ := spec_strips ha hb hW hn hh w hw (half.length - 1) [] 0 rfl (by simp) (by omega) (by omega) (by omega)
  obtain ⟨s, s0, s1, hs⟩ := spec_sum ha hb hW hn hh o ho hy o.length 0 0 (by omega) (by omega) (by omega) (by omega) (by omega)
  refine ⟨s, s0, s1, fun k hk => ?_⟩
  unfold spec_Volume2.f spec_Strips2.f spec_l1Sum.f
  rw [Option.bind_some, specwater ha hb hW hn hh w hw k hk, Option.bind_some, if_pos rfl, eo k (by omega), Option.bind_some, hs k (by omega), Option.bind_some]
/-! ### the search -/
theorem afloat_loop {a b W : Int} {half : List (List Int)} (ha : 1 ≤ a ∧ a ≤ 12) (hb : 1 ≤ b ∧ b ≤ 5) (hW : 2 ≤ W ∧ W ≤ 10) (hn : 2 ≤ half.length ∧ half.length ≤ 12) (hh : Hull W half) (v : Int) (hv : 0 ≤ v ∧ v ≤ 1000000000) (V : Int → Int) (hV : ∀ w, 0 ≤ w → w < W → ∀ k, 200 < k → impl_Volume2.f k a b half w = some (V w)) (d : Nat) : ∀ (i : Int), 0 ≤ i → i ≤ W → W - i = d → (∀ j, 0 ≤ j → j < i → V j < 2 * v) →
    ∃ g : Int, (g = -1 ∧ (∀ j, 0 ≤ j → j < W → V j < 2 * v) ∨ 0 ≤ g ∧ g < W ∧ V g ≥ 2 * v ∧ ∀ j, 0 ≤ j → j < g → V j < 2 * v) ∧ ∀ k, 200 + d < k → impl_Afloat.l0 k v W i a b half = some g := by
  induction d with
  | zero =>
    intro i h0 h1 hd hj
    refine ⟨-1, .inl ⟨rfl, fun j h2 h3 => hj j h2 (by omega)⟩, fun k hk => ?_⟩
    obtain ⟨k, rfl⟩ := pos_round (show 0 < k by omega)
    simp only [impl_Afloat.l0]
    rw [if_neg (by omega)]
  | succ d ih =>
    intro i h0 h1 hd hj
    by_cases c : V i ≥ 2 * v
    · refine ⟨i, .inr ⟨h0, by omega, c, hj⟩, fun k hk => ?_⟩
      obtain ⟨k, rfl⟩ := pos_round (show 0 < k by omega)
      simp only [impl_Afloat.l0]
      rw [if_pos (by omega), hV i h0 (by omega) k (by omega), Option.bind_some, w64 (x := 2 * v) (by omega) (by omega), if_pos c]
    · obtain ⟨g, hg, e⟩ := ih (i + 1) (by omega) (by omega) (by omega) (fun j h2 h3 => by
        by_cases ej : j = i
        · subst ej; omega
        · exact hj j h2 (by omega))
      refine ⟨g, hg, fun k hk => ?_⟩
      obtain ⟨k, rfl⟩ := pos_round (show 0 < k by omega)
      simp only [impl_Afloat.l0]
      rw [if_pos (by omega), hV i h0 (by omega) k (by omega), Option.bind_some, w64 (x := 2 * v) (by omega) (by omega), if_neg c, w64 (x := i + 1) (by omega) (by omega)]
      exact e k (by omega)
theorem afloat_low {a b W : Int} {half : List (List Int)} (ha : 1 ≤ a ∧ a ≤ 12) (hb : 1 ≤ b ∧ b ≤ 5) (hW : 2 ≤ W ∧ W ≤ 10) (hn : 2 ≤ half.length ∧ half.length ≤ 12) (hh : Hull W half) (k : Nat) (hk : 300 < k) : impl_Afloat.f k a b half (-1) = some (-1) := by
  obtain ⟨k, rfl⟩ := pos_round (show 0 < k by omega)
  unfold impl_Afloat.f
  rw [hullok ha hb hW hn hh _ (by omega), Option.bind_some, if_pos rfl, in_eqA, decide_eq_false (by omega), Option.bind_some]
  simp only [impl_Afloat.j0, Bool.not_false, if_true]
theorem law_end {a b W : Int} {half : List (List Int)} (ha : 1 ≤ a ∧ a ≤ 12) (hb : 1 ≤ b ∧ b ≤ 5) (hW : 2 ≤ W ∧ W ≤ 10) (hn : 2 ≤ half.length ∧ half.length ≤ 12) (hh : Hull W half) (v : Int) (hv : 0 ≤ v ∧ v ≤ 1000000000) (k : Nat) (hk : 400 < k) : laws_FnAfloat.j0 k v a b half = some true := by
  obtain ⟨k, rfl⟩ := pos_round (show 0 < k by omega)
  have hex : ∀ w, ∃ v, 0 ≤ w → w < W → ∀ k, 200 < k → impl_Volume2.f k a b half w = some v := fun w => by
    by_cases hw : 0 ≤ w ∧ w < W
    · obtain ⟨v, hv⟩ := volume ha hb hW hn hh w hw
      exact ⟨v, fun _ _ => hv⟩
    · exact ⟨0, fun h1 h2 => absurd ⟨h1, h2⟩ hw⟩
  obtain ⟨V, hV⟩ : ∃ V : Int → Int, ∀ w, 0 ≤ w → w < W → ∀ k, 200 < k → impl_Volume2.f k a b half w = some (V w) := ⟨fun w => (hex w).choose, fun w => (hex w).choose_spec⟩
  obtain ⟨g, hg, e⟩ := afloat_loop ha hb hW hn hh v hv V hV W.toNat 0 (by omega) (by omega) (by omega) (fun j h2 h3 => by omega)
  have ef : impl_Afloat.f k a b half v = some g := by
    obtain ⟨k, rfl⟩ := pos_round (show 0 < k by omega)
    unfold impl_Afloat.f
    rw [hullok ha hb hW hn hh _ (by omega), Option.bind_some, if_pos rfl, in_eqA, decide_eq_true hv, Option.bind_some]
    simp only [impl_Afloat.j0, Bool.not_true, Bool.false_eq_true, if_false]
    rw [if_pos (by omega), hull_row hh (by omega) (by omega)]
    exact e k (by omega)
  have hlow := afloat_low ha hb hW hn hh k (by omega)
  simp only [laws_FnAfloat.j0]
  rw [ef, Option.bind_some, if_pos (by omega), hull_row hh (by omega) (by omega), w64 (x := W - 1) (by omega) (by omega), w64 (x := 2 * v) (by omega) (by omega)]
  rcases hg with ⟨rfl, hj⟩ | ⟨g0, g1, g2, g3⟩
  · rw [if_pos (by omega), hV (W - 1) (by omega) (by omega) k (by omega), Option.bind_some, decide_eq_true (hj (W - 1) (by omega) (by omega))]
  · rw [if_neg (by omega), if_pos (by omega), hV g g0 g1 k (by omega), Option.bind_some, if_pos g2]
    by_cases c : g = 0
    · rw [if_pos c, hlow]; rfl
    · rw [if_neg c, w64 (x := g - 1) (by omega) (by omega), hV (g - 1) (by omega) (by omega) k (by omega), Option.bind_some, if_pos (g3 (g - 1) (by omega) (by omega)), hlow]; rfl
theorem at_eqA (l : List Int) (i : Int) : laws_at.f l i = atK l i := rfl
theorem FnAfloat : laws_FnAfloat.Pure := by
  intro c _ _ hbytes
  have hb := bytes_of hbytes
  refine ⟨5000, ?_⟩
  unfold laws_FnAfloat.f laws_big.f
  rw [Option.bind_some]
  by_cases hc : c.length ≤ 1048576
  · rw [if_neg (by simp; omega)]
    obtain ⟨a, b, W, w, half, a0, a1, b0, b1, W0, W1, n0, n1, hh, w0, w1, e1⟩ := hull_drawn c hc
    obtain ⟨v, v0, v1, ev⟩ := spec_volume ⟨a0, a1⟩ ⟨b0, b1⟩ ⟨W0, W1⟩ ⟨n0, n1⟩ hh w ⟨w0, w1⟩
    obtain ⟨t0, t1⟩ := atV_range hb (i := 3) (by omega)
    rw [e1 5000 (by omega), Option.bind_some]
    dsimp only
    rw [ev 5000 (by omega), Option.bind_some, at_eqA, at_some hb hc (by omega) (by omega), Option.bind_some, td v0, tm t0, w64 (x := v / 2) (by omega) (by omega), w64 (x := v / 2 + _) (by omega) (by omega), w64 (x := v / 2 + _ - 2) (by omega) (by omega)]
    by_cases c0 : v / 2 + atV c 3 % 5 - 2 < 0
    · rw [if_pos c0]
      exact law_end ⟨a0, a1⟩ ⟨b0, b1⟩ ⟨W0, W1⟩ ⟨n0, n1⟩ hh 0 (by omega) 5000 (by omega)
    · rw [if_neg c0]
      exact law_end ⟨a0, a1⟩ ⟨b0, b1⟩ ⟨W0, W1⟩ ⟨n0, n1⟩ hh _ (by omega) 5000 (by omega)
  · rw [if_pos (by simp; omega)]

end Go.Proofs.Ytpimebjddebdkaa.Pure
