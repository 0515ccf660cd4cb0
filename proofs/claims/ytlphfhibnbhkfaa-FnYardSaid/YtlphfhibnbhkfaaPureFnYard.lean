/- A drawn yard stays right behind each operation, its boxes are counted, what is lifted out is told, and the run of all operations comes to the same yard: for each byte list as code. -/
import Derived.Test.YtlphfhibnbhkfaaPFnYardx8
import Derived.Test.YtlphfhibnbhkfaaVYardKit
set_option linter.unusedVariables false
set_option linter.unusedSimpArgs false
namespace Go.Proofs.Ytlphfhibnbhkfaa.Pure
open Go.RowKit Go.Proofs.Ytlphfhibnbhkfaa.PFnYard Go.Proofs.YtlphfhibnbhkfaaW.PrintWords Go.Proofs.YtlphfhibnbhkfaaW.PrintLast Go.Proofs.YtlphfhibnbhkfaaW.PrintMore Go.Proofs.YtlphfhibnbhkfaaW.Kit

/-! ### what is answered from some round on -/
def Ev {α : Type} (f : Nat → Option α) (v : α) : Prop := ∃ M, ∀ k, M < k → f k = some v
theorem Ev.of {α : Type} {f : Nat → Option α} {v : α} (h : ∀ k, f k = some v) : Ev f v := ⟨0, fun k _ => h k⟩
theorem Ev.succ {α : Type} {f : Nat → Option α} {v : α} (h : Ev (fun k => f (k + 1)) v) : Ev f v := by
  obtain ⟨M, h⟩ := h
  refine ⟨M + 1, fun k hk => ?_⟩
  obtain ⟨k, rfl⟩ := pos_round (show 0 < k by omega)
  exact h k (by omega)
theorem Ev.bind {α β : Type} {f : Nat → Option α} {g : Nat → α → Option β} {v : α} {w : β} (h1 : Ev f v) (h2 : Ev (fun k => g k v) w) : Ev (fun k => (f k).bind (g k)) w := by
  obtain ⟨M, h1⟩ := h1
  obtain ⟨N, h2⟩ := h2
  refine ⟨M + N, fun k hk => ?_⟩
  show (f k).bind (g k) = some w
  rw [h1 k (by omega)]
  exact h2 k (by omega)
theorem Ev.to {α : Type} {f g : Nat → Option α} {v : α} (h : Ev g v) (e : ∀ k, f k = g k) : Ev f v := by
  obtain ⟨M, h⟩ := h
  exact ⟨M, fun k hk => by rw [e k]; exact h k hk⟩
theorem Ev.get {α : Type} {f : Nat → Option α} {v : α} (h : Ev f v) : ∃ k, f k = some v := by
  obtain ⟨M, h⟩ := h
  exact ⟨M + 1, h _ (by omega)⟩
/-- Two places swapped. -/
theorem swap_perm {x : List Int} {i j : Int} (hi : 0 ≤ i ∧ i < x.length) (hj : 0 ≤ j ∧ j < x.length) : ((x.set i.toNat (rd x j)).set j.toNat (rd x i)).Perm x := by
  obtain ⟨h1, e1⟩ := rd_lt hi.1 hi.2
  obtain ⟨h2, e2⟩ := rd_lt hj.1 hj.2
  rw [e1, e2]
  exact List.set_set_perm h1 h2
theorem mask_nat (x : Int) (i : Nat) (hi : i ≤ 62) : Go.bits .and .i64 x ((2 ^ i - 1 : Nat) : Int) = x % ((2 ^ i : Nat) : Int) := by
  have hp : 0 < 2 ^ i := Nat.two_pow_pos i
  have h62 : 2 ^ i ≤ 2 ^ 62 := Nat.pow_le_pow_right (by decide) hi
  have e62 : (2 : Nat) ^ 62 = 4611686018427387904 := by decide
  rw [e62] at h62
  have hm : (2 ^ i - 1) % 2 ^ 64 = 2 ^ i - 1 := Nat.mod_eq_of_lt (by have : (2:Nat)^64 = 18446744073709551616 := by decide
                                                                     omega)
  have hd : ((2 ^ i : Nat) : Int) ∣ 18446744073709551616 := by
    have : (2 : Nat) ^ i ∣ 2 ^ 64 := Nat.pow_dvd_pow 2 (by omega)
    have h2 : (2 : Nat) ^ 64 = 18446744073709551616 := by decide
    rw [h2] at this
    exact Int.natCast_dvd_natCast.2 this
  show IntKind.i64.wrap ((BitVec.ofInt 64 x &&& BitVec.ofInt 64 ((2 ^ i - 1 : Nat) : Int)).toNat : Int) = _
  rw [BitVec.toNat_and, BitVec.ofInt_natCast, BitVec.toNat_ofNat, hm, Nat.and_two_pow_sub_one_eq_mod, BitVec.toNat_ofInt, IntKind.wrap_i64]
  have hx : 0 ≤ x % 18446744073709551616 := Int.emod_nonneg _ (by decide)
  have e : (((x % ((2 ^ 64 : Nat) : Int)).toNat % 2 ^ i : Nat) : Int) = x % ((2 ^ i : Nat) : Int) := by
    rw [Int.natCast_emod, show (((2 ^ 64 : Nat) : Int)) = 18446744073709551616 by decide, Int.toNat_of_nonneg hx, Int.emod_emod_of_dvd _ hd]
  rw [e]
  have h1 := Int.emod_nonneg x (show ((2 ^ i : Nat) : Int) ≠ 0 by omega)
  have h2 := Int.emod_lt_of_pos x (show (0 : Int) < ((2 ^ i : Nat) : Int) by omega)
  generalize x % ((2 ^ i : Nat) : Int) = r at h1 h2 ⊢
  omega
theorem mask24 (x : Int) : Go.bits .and .i64 x 16777215 = x % 16777216 := mask_nat x 24 (by decide)
theorem mask16 (x : Int) : Go.bits .and .i64 x 65535 = x % 65536 := mask_nat x 16 (by decide)
theorem mask8 (x : Int) : Go.bits .and .i64 x 255 = x % 256 := mask_nat x 8 (by decide)
theorem mask30 (x : Int) : Go.bits .and .i64 x 1073741823 = x % 1073741824 := mask_nat x 30 (by decide)
/-! ### the drawn values: a place in the bytes that stays in its row, and values that stay in their range -/
/-- The cursor's place is in the row. -/
def InRow (c : List Int) (p : Int) : Prop := 0 ≤ p ∧ p ≤ (c.length : Int)
theorem new_loop (c : List Int) (hc : c.length ≤ 1048576) (d : Nat) : ∀ (s i : Int), 0 ≤ i → i ≤ 4000 → 4000 - i = d → ∃ r, ∀ k, d < k → spec_l1New.l0 k c s i = some (c, 0, r) := by
  induction d with
  | zero =>
    intro s i h0 h1 hd
    refine ⟨s, fun k hk => ?_⟩
    obtain ⟨k, rfl⟩ := pos_round (show 0 < k by omega)
    simp only [spec_l1New.l0]
    by_cases h : i < (c.length : Int)
    · rw [if_pos h, if_neg (by omega)]
    · rw [if_neg h]
  | succ d ih =>
    intro s i h0 h1 hd
    by_cases h : i < (c.length : Int)
    · obtain ⟨r, hr⟩ := ih (Go.bits .and .i64 (wrap64 ((wrap64 ((wrap64 (s * 131)) + (wrap64 (rd c i)))) + 7)) 1073741823) (i + 1) (by omega) (by omega) (by omega)
      refine ⟨r, fun k hk => ?_⟩
      obtain ⟨k, rfl⟩ := pos_round (show 0 < k by omega)
      simp only [spec_l1New.l0]
      rw [if_pos h, if_pos (by omega), if_pos h0, w64 (x := i + 1) (by omega) (by omega)]
      exact hr k (by omega)
    · refine ⟨s, fun k hk => ?_⟩
      obtain ⟨k, rfl⟩ := pos_round (show 0 < k by omega)
      simp only [spec_l1New.l0]
      rw [if_neg h]
theorem new_ok (c : List Int) (hc : c.length ≤ 1048576) : ∃ r, ∀ k, 4000 < k → spec_l1New.f k c = some (c, 0, r) := by
  obtain ⟨r, hr⟩ := new_loop c hc 4000 (wrap64 (59059 + (c.length : Int))) 0 (by omega) (by omega) (by omega)
  exact ⟨r, hr⟩
theorem byte_ok (c : List Int) (hc : c.length ≤ 1048576) {p : Int} (hp : InRow c p) (s : Int) : ∃ b p' s', spec_l1Byte.f c p s = some (b, p', s') ∧ 0 ≤ b ∧ b ≤ 255 ∧ InRow c p' := by
  unfold spec_l1Byte.f
  obtain ⟨h0, h1⟩ := hp
  by_cases h : p < (c.length : Int)
  · rw [if_pos h, if_pos h0, w64 (x := p + 1) (by omega) (by omega)]
    refine ⟨_, _, _, rfl, ?_, ?_, by constructor <;> omega⟩ <;> rw [mask8] <;> omega
  · rw [if_neg h]
    refine ⟨_, _, _, rfl, ?_, ?_, by constructor <;> omega⟩ <;> rw [mask8] <;> omega
theorem below_ok (c : List Int) (hc : c.length ≤ 1048576) {p : Int} (hp : InRow c p) (s : Int) (n : Int) : ∃ r p' s', spec_l1Below.f c p s n = some (r, p', s') ∧ 0 ≤ r ∧ (0 < n → r < n) ∧ (n ≤ 0 → r = 0) ∧ InRow c p' := by
  unfold spec_l1Below.f
  by_cases h : n ≤ 0
  · rw [if_pos h]
    exact ⟨0, p, s, rfl, by omega, by omega, fun _ => rfl, hp⟩
  · rw [if_neg h]
    by_cases h2 : n ≤ 256
    · obtain ⟨b, p1, s1, e, b0, b1, hp1⟩ := byte_ok c hc hp s
      rw [if_pos h2, e, Option.bind_some, if_neg (by omega)]
      refine ⟨_, _, _, rfl, ?_, ?_, fun _ => by omega, hp1⟩ <;> rw [tm b0]
      · exact Int.emod_nonneg _ (by omega)
      · intro _; exact Int.emod_lt_of_pos _ (by omega)
    · obtain ⟨b, p1, s1, e, b0, b1, hp1⟩ := byte_ok c hc hp s
      obtain ⟨b', p2, s2, e2, b0', b1', hp2⟩ := byte_ok c hc hp1 s1
      obtain ⟨b'', p3, s3, e3, b0'', b1'', hp3⟩ := byte_ok c hc hp2 s2
      obtain ⟨b3, p4, s4, e4, b03, b13, hp4⟩ := byte_ok c hc hp3 s3
      rw [if_neg h2, e, Option.bind_some]
      dsimp only
      rw [e2, Option.bind_some]
      dsimp only
      rw [e3, Option.bind_some]
      dsimp only
      rw [e4, Option.bind_some, if_neg (by omega)]
      dsimp only
      rw [w64 (x := b * 16777216) (by omega) (by omega), w64 (x := b' * 65536) (by omega) (by omega), w64 (x := b'' * 256) (by omega) (by omega), w64 (x := b * 16777216 + b' * 65536) (by omega) (by omega), w64 (x := b * 16777216 + b' * 65536 + b'' * 256) (by omega) (by omega), w64 (by omega) (by omega), tm (by omega)]
      exact ⟨_, _, _, rfl, Int.emod_nonneg _ (by omega), fun _ => Int.emod_lt_of_pos _ (by omega), fun _ => by omega, hp4⟩
theorem pickI_ok (c : List Int) (hc : c.length ≤ 1048576) {p : Int} (hp : InRow c p) (s : Int) (l : List Int) (hl : 0 < l.length) : ∃ r p' s', spec_l1PickInt.f c p s l = some (r, p', s') ∧ r ∈ l ∧ InRow c p' := by
  obtain ⟨b, p1, s1, e, b0, b1, _, hp1⟩ := below_ok c hc hp s (l.length : Int)
  have := b1 (by omega)
  unfold spec_l1PickInt.f
  rw [e, Option.bind_some]
  dsimp only
  rw [if_pos b0, if_pos this]
  exact ⟨_, _, _, rfl, rd_mem b0 this, hp1⟩
/-! ### rows of numbers: lengths and counts -/
theorem own46_eq (l : List Int) (h : l.length ≤ 1000) : impl_own_int_46.f l = some l := by
  unfold impl_own_int_46.f
  rw [if_pos (by omega), if_pos (by omega), Option.bind_some, if_pos (by simp; omega)]
  rfl
theorem rl_nil {L : List (List Int)} {i : Int} (h : (L.length : Int) ≤ i) : rd_L2 L i = [] := by
  simp [rd_L2, List.getD_eq_getElem?_getD, List.getElem?_eq_none (show L.length ≤ i.toNat by omega)]
theorem rl_lt {L : List (List Int)} {i : Int} (h0 : 0 ≤ i) (h1 : i < L.length) : ∃ h : i.toNat < L.length, rd_L2 L i = L[i.toNat]'h := by
  have h : i.toNat < L.length := by omega
  exact ⟨h, by simp [rd_L2, List.getD_eq_getElem?_getD, List.getElem?_eq_getElem h]⟩
theorem rl_mem {L : List (List Int)} {i : Int} (h0 : 0 ≤ i) (h1 : i < L.length) : rd_L2 L i ∈ L := by
  obtain ⟨h, e⟩ := rl_lt h0 h1
  rw [e]; exact List.getElem_mem h
theorem rl_drop {L : List (List Int)} {i : Int} (h0 : 0 ≤ i) (h1 : i < L.length) : L.drop i.toNat = rd_L2 L i :: L.drop (i + 1).toNat := by
  obtain ⟨h, e⟩ := rl_lt h0 h1
  rw [e, show (i + 1).toNat = i.toNat + 1 by omega, List.drop_eq_getElem_cons h]
theorem rl_set_eq {L : List (List Int)} {i : Int} {y : List Int} (h0 : 0 ≤ i) (h1 : i < L.length) : rd_L2 (L.set i.toNat y) i = y := by
  simp [rd_L2, List.getD_eq_getElem?_getD, List.getElem?_set, show i.toNat < L.length by omega]
theorem rl_set_ne {L : List (List Int)} {i j : Int} {y : List Int} (h0 : 0 ≤ i) (hj : 0 ≤ j) (h : i ≠ j) : rd_L2 (L.set i.toNat y) j = rd_L2 L j := by
  simp [rd_L2, List.getD_eq_getElem?_getD, List.getElem?_set, show ¬ i.toNat = j.toNat by omega]
theorem rl_all {L : List (List Int)} {P : List Int → Prop} (h : ∀ i : Int, 0 ≤ i → i < L.length → P (rd_L2 L i)) : ∀ s ∈ L, P s := by
  intro s hs
  obtain ⟨n, hn, rfl⟩ := List.getElem_of_mem hs
  have := h n (by omega) (by omega)
  obtain ⟨_, e⟩ := rl_lt (L := L) (i := (n : Int)) (by omega) (by omega)
  rw [e] at this
  exact this
theorem rl_split {L : List (List Int)} {i : Int} (h0 : 0 ≤ i) (h1 : i < L.length) : ∃ A B, L = A ++ rd_L2 L i :: B ∧ ∀ y, L.set i.toNat y = A ++ y :: B := by
  obtain ⟨h, e⟩ := rl_lt h0 h1
  refine ⟨L.take i.toNat, L.drop (i.toNat + 1), ?_, fun y => ?_⟩
  · rw [e, ← List.drop_eq_getElem_cons h, List.take_append_drop]
  · rw [List.set_eq_take_append_cons_drop, if_pos h]
theorem cnt_set {L : List (List Int)} {i : Int} (h0 : 0 ≤ i) (h1 : i < L.length) (y : List Int) (a : Int) :
    (L.set i.toNat y).flatten.count a + (rd_L2 L i).count a = L.flatten.count a + y.count a := by
  obtain ⟨A, B, e, hy⟩ := rl_split h0 h1
  rw [hy y]
  generalize rd_L2 L i = x at e ⊢
  rw [e]
  simp only [List.flatten_append, List.flatten_cons, List.count_append]
  omega
theorem len_set {L : List (List Int)} {i : Int} (h0 : 0 ≤ i) (h1 : i < L.length) (y : List Int) :
    (L.set i.toNat y).flatten.length + (rd_L2 L i).length = L.flatten.length + y.length := by
  obtain ⟨A, B, e, hy⟩ := rl_split h0 h1
  rw [hy y]
  generalize rd_L2 L i = x at e ⊢
  rw [e]
  simp only [List.flatten_append, List.flatten_cons, List.length_append]
  omega
/-- A row's last one behind the others. -/
theorem last_eq {s : List Int} (h : 0 < s.length) : s = s.take (s.length - 1) ++ [rd s ((s.length : Int) - 1)] := by
  obtain ⟨hl, e⟩ := rd_lt (l := s) (i := (s.length : Int) - 1) (by omega) (by omega)
  have e2 : ((s.length : Int) - 1).toNat = s.length - 1 := by omega
  conv => lhs; rw [← List.take_append_drop (s.length - 1) s]
  rw [e]
  congr 1
  rw [List.drop_eq_getElem_cons (by omega)]
  simp only [e2]
  rw [List.drop_eq_nil_of_le (by omega)]
/-! ### lift -/
theorem lift_len (X : List (List Int)) (i j : Int) : (Yt.lift X i j).length = X.length := by simp [Yt.lift]
theorem lift_from {X : List (List Int)} {i j : Int} (h0 : 0 ≤ i) (h1 : i < X.length) : rd_L2 (Yt.lift X i j) i = (rd_L2 X i).take ((rd_L2 X i).length - 1) := by
  unfold Yt.lift
  rw [rl_set_eq h0 (by rw [List.length_set]; exact h1)]
theorem lift_to {X : List (List Int)} {i j : Int} (h0 : 0 ≤ i) (hj0 : 0 ≤ j) (hj1 : j < X.length) (hne : i ≠ j) : rd_L2 (Yt.lift X i j) j = rd_L2 X j ++ [rd (rd_L2 X i) (((rd_L2 X i).length : Int) - 1)] := by
  unfold Yt.lift
  rw [rl_set_ne h0 hj0 hne, rl_set_eq hj0 hj1]
theorem lift_ne {X : List (List Int)} {i j q : Int} (h0 : 0 ≤ i) (hj0 : 0 ≤ j) (hq : 0 ≤ q) (hi : i ≠ q) (hj : j ≠ q) : rd_L2 (Yt.lift X i j) q = rd_L2 X q := by
  unfold Yt.lift
  rw [rl_set_ne h0 hq hi, rl_set_ne hj0 hq hj]
theorem lift_cnt {X : List (List Int)} {i j : Int} (h0 : 0 ≤ i) (h1 : i < X.length) (hj0 : 0 ≤ j) (hj1 : j < X.length) (hne : i ≠ j) (hp : 0 < (rd_L2 X i).length) (a : Int) : (Yt.lift X i j).flatten.count a = X.flatten.count a := by
  unfold Yt.lift
  have e1 := cnt_set (L := X.set j.toNat (rd_L2 X j ++ [rd (rd_L2 X i) (((rd_L2 X i).length : Int) - 1)])) h0 (by rw [List.length_set]; exact h1) ((rd_L2 X i).take ((rd_L2 X i).length - 1)) a
  have e2 := cnt_set hj0 hj1 (rd_L2 X j ++ [rd (rd_L2 X i) (((rd_L2 X i).length : Int) - 1)]) a
  rw [rl_set_ne hj0 h0 (Ne.symm hne)] at e1
  have e3 := congrArg (List.count a) (last_eq hp)
  rw [List.count_append] at e2 e3
  omega
theorem lift_flen {X : List (List Int)} {i j : Int} (h0 : 0 ≤ i) (h1 : i < X.length) (hj0 : 0 ≤ j) (hj1 : j < X.length) (hne : i ≠ j) (hp : 0 < (rd_L2 X i).length) : (Yt.lift X i j).flatten.length = X.flatten.length := by
  unfold Yt.lift
  have e1 := len_set (L := X.set j.toNat (rd_L2 X j ++ [rd (rd_L2 X i) (((rd_L2 X i).length : Int) - 1)])) h0 (by rw [List.length_set]; exact h1) ((rd_L2 X i).take ((rd_L2 X i).length - 1))
  have e2 := len_set hj0 hj1 (rd_L2 X j ++ [rd (rd_L2 X i) (((rd_L2 X i).length : Int) - 1)])
  rw [rl_set_ne hj0 h0 (Ne.symm hne)] at e1
  rw [List.length_append, List.length_singleton] at e2
  rw [List.length_take] at e1
  omega
/-! ### a yard that is right -/
def Lens (H : Int) (L : List (List Int)) : Prop := ∀ i : Int, 0 ≤ i → i < L.length → ((rd_L2 L i).length : Int) ≤ H
structure Good (H : Int) (L : List (List Int)) : Prop where
  hi : 1 ≤ H ∧ H ≤ 6
  n : 1 ≤ (L.length : Int) ∧ (L.length : Int) ≤ 12
  st : Lens H L
  ids : ∀ a : Int, 0 < L.flatten.count a → 1 ≤ a ∧ a ≤ 1000000
  nd : ∀ a : Int, L.flatten.count a ≤ 1
theorem Lens.lift {H : Int} {X : List (List Int)} (h : Lens H X) {i j : Int} (h0 : 0 ≤ i) (h1 : i < X.length) (hj0 : 0 ≤ j) (hj1 : j < X.length) (hne : i ≠ j) (hl : ((rd_L2 X j).length : Int) < H) : Lens H (Yt.lift X i j) := by
  intro q q0 q1
  rw [lift_len] at q1
  by_cases c : i = q
  · subst c
    rw [lift_from h0 h1, List.length_take]
    have := h i h0 h1
    omega
  · by_cases c2 : j = q
    · subst c2
      rw [lift_to h0 hj0 hj1 hne, List.length_append, List.length_singleton]
      omega
    · rw [lift_ne h0 hj0 q0 c c2]
      exact h q q0 q1
theorem Good.lift {H : Int} {X : List (List Int)} (h : Good H X) {i j : Int} (h0 : 0 ≤ i) (h1 : i < X.length) (hj0 : 0 ≤ j) (hj1 : j < X.length) (hne : i ≠ j) (hp : 0 < (rd_L2 X i).length) (hl : ((rd_L2 X j).length : Int) < H) : Good H (Yt.lift X i j) :=
  ⟨h.hi, by rw [lift_len]; exact h.n, h.st.lift h0 h1 hj0 hj1 hne hl, fun a ha => h.ids a (by rw [lift_cnt h0 h1 hj0 hj1 hne hp] at ha; exact ha), fun a => by rw [lift_cnt h0 h1 hj0 hj1 hne hp]; exact h.nd a⟩
theorem Lens.set {H : Int} {X : List (List Int)} (h : Lens H X) {i : Int} (h0 : 0 ≤ i) {y : List Int} (hy : (y.length : Int) ≤ H) : Lens H (X.set i.toNat y) := by
  intro q q0 q1
  rw [List.length_set] at q1
  by_cases c : i = q
  · subst c
    rw [rl_set_eq h0 q1]
    exact hy
  · rw [rl_set_ne h0 q0 c]
    exact h q q0 q1
/-! ### impl.YardOk at a yard that is right; impl.FindBox -/
theorem idr_eq (b : Int) : impl_YardOk.idr b = decide (1 ≤ b ∧ b ≤ 1000000) := by
  unfold impl_YardOk.idr
  rw [Bool.eq_iff_iff]
  simp
theorem row_ok : ∀ (s seen : List Int), (∀ a ∈ s, 1 ≤ a ∧ a ≤ 1000000) → (∀ a, s.count a + seen.count a ≤ 1) → ∃ q, impl_YardOk.row s seen = some q ∧ ∀ a, q.count a = s.count a + seen.count a
  | [], seen, _, _ => ⟨seen, rfl, fun a => by simp⟩
  | b :: r, seen, h1, h2 => by
    have hb := h1 b List.mem_cons_self
    have hc : seen.contains b = false := by
      have := h2 b
      rw [List.count_cons_self] at this
      have h0 : seen.count b = 0 := by omega
      rw [List.count_eq_zero] at h0
      simpa using h0
    obtain ⟨q, hq, hqc⟩ := row_ok r (b :: seen) (fun a ha => h1 a (List.mem_cons_of_mem _ ha)) (fun a => by
      have := h2 a
      simp only [List.count_cons] at this ⊢
      omega)
    refine ⟨q, ?_, fun a => ?_⟩
    · unfold impl_YardOk.row
      rw [idr_eq, if_pos (by simpa using hb), hc, if_neg (by decide)]
      exact hq
    · rw [hqc a]
      simp only [List.count_cons]
      omega
theorem g_ok (H : Int) : ∀ (L : List (List Int)) (seen : List Int), (∀ s ∈ L, (s.length : Int) ≤ H) → (∀ s ∈ L, ∀ a ∈ s, 1 ≤ a ∧ a ≤ 1000000) → (∀ a, L.flatten.count a + seen.count a ≤ 1) → impl_YardOk.g H L seen = true
  | [], _, _, _, _ => rfl
  | s :: r, seen, h1, h2, h3 => by
    obtain ⟨q, hq, hqc⟩ := row_ok s seen (h2 s List.mem_cons_self) (fun a => by
      have := h3 a
      rw [List.flatten_cons, List.count_append] at this
      omega)
    unfold impl_YardOk.g
    rw [if_neg (by have := h1 s List.mem_cons_self; omega), hq]
    refine g_ok H r q (fun t ht => h1 t (List.mem_cons_of_mem _ ht)) (fun t ht => h2 t (List.mem_cons_of_mem _ ht)) (fun a => ?_)
    have := h3 a
    rw [List.flatten_cons, List.count_append] at this
    rw [hqc a]
    omega
theorem Good.ok {H : Int} {L : List (List Int)} (h : Good H L) : impl_YardOk.f H L = some true := by
  unfold impl_YardOk.f
  rw [decide_eq_true h.hi.1, decide_eq_true h.hi.2, decide_eq_true h.n.1, decide_eq_true h.n.2, if_pos (show (true && true && (true && true)) = true from rfl), g_ok H L [] (rl_all h.st) (fun s hs a ha => h.ids a (by
    rw [List.count_pos_iff]
    exact List.mem_flatten.2 ⟨s, hs, ha⟩)) (fun a => by have := h.nd a; simpa using this)]
theorem Good.small {H : Int} {L : List (List Int)} (h : Good H L) : L.length ≤ 1000 ∧ ∀ x ∈ L, x.length ≤ 100 :=
  ⟨by have := h.n; omega, rl_all (P := fun s => s.length ≤ 100) fun i i0 i1 => by have := h.st i i0 i1; have := h.hi; omega⟩
theorem idx_loop (l : List Int) (b : Int) (hl : l.length ≤ 100) (d : Nat) : ∀ i : Int, 0 ≤ i → (l.length : Int) - i = d → ∃ r, (∀ k, d < k → slices_Index_int_int.l0 k l b (l.length : Int) i = some r) ∧ (0 ≤ r → r < l.length ∧ rd l r = b) ∧ (r < 0 → b ∉ l.drop i.toNat) := by
  induction d with
  | zero =>
    intro i h0 hd
    refine ⟨-1, fun k hk => ?_, fun h => absurd h (by omega), fun _ => ?_⟩
    · obtain ⟨k, rfl⟩ := pos_round (show 0 < k by omega)
      simp only [slices_Index_int_int.l0]
      rw [if_neg (by omega)]
    · rw [List.drop_eq_nil_of_le (by omega)]
      exact List.not_mem_nil
  | succ d ih =>
    intro i h0 hd
    have h1 : i < l.length := by omega
    by_cases c : b = rd l i
    · refine ⟨i, fun k hk => ?_, fun _ => ⟨h1, c.symm⟩, fun h => absurd h (by omega)⟩
      obtain ⟨k, rfl⟩ := pos_round (show 0 < k by omega)
      simp only [slices_Index_int_int.l0]
      rw [if_pos h1, if_pos h0, if_pos h1, if_pos c]
    · obtain ⟨r, hr, hr1, hr2⟩ := ih (i + 1) (by omega) (by omega)
      refine ⟨r, fun k hk => ?_, hr1, fun h => ?_⟩
      · obtain ⟨k, rfl⟩ := pos_round (show 0 < k by omega)
        simp only [slices_Index_int_int.l0]
        rw [if_pos h1, if_pos h0, if_pos h1, if_neg c, w64 (by omega) (by omega)]
        exact hr k (by omega)
      · rw [drop_rd h0 h1, List.mem_cons, not_or]
        exact ⟨c, hr2 h⟩
theorem find_loop (L : List (List Int)) (b H : Int) (hH : H ≤ 6) (hs : Lens H L) (hn : (L.length : Int) ≤ 12) (d : Nat) : ∀ i : Int, 0 ≤ i → (L.length : Int) - i = d →
    ∃ a t th, (∀ k, d + 10 < k → impl_FindBox.l0 k b L (L.length : Int) i = some (a, t, th)) ∧ (th = true → 0 ≤ a ∧ a < L.length ∧ 0 ≤ t ∧ t < ((rd_L2 L a).length : Int) ∧ rd (rd_L2 L a) t = b) ∧ (th = false → b ∉ (L.drop i.toNat).flatten) := by
  induction d with
  | zero =>
    intro i h0 hd
    refine ⟨-1, -1, false, fun k hk => ?_, (fun h => by cases h), fun _ => ?_⟩
    · obtain ⟨k, rfl⟩ := pos_round (show 0 < k by omega)
      simp only [impl_FindBox.l0]
      rw [if_neg (by omega)]
    · rw [List.drop_eq_nil_of_le (by omega)]
      exact List.not_mem_nil
  | succ d ih =>
    intro i h0 hd
    have h1 : i < L.length := by omega
    have hl := hs i h0 h1
    obtain ⟨r, hr, hr1, hr2⟩ := idx_loop (rd_L2 L i) b (by omega) (rd_L2 L i).length 0 (by omega) (by omega)
    by_cases c : r ≥ 0
    · refine ⟨i, r, true, fun k hk => ?_, fun _ => ⟨h0, h1, c, (hr1 c).1, (hr1 c).2⟩, (fun h => by cases h)⟩
      obtain ⟨k, rfl⟩ := pos_round (show 0 < k by omega)
      simp only [impl_FindBox.l0]
      rw [if_pos h1, if_pos h0, if_pos h1]
      unfold slices_Index_int_int.f
      rw [hr k (by omega), Option.bind_some, if_pos c]
    · obtain ⟨a, t, th, e, e1, e2⟩ := ih (i + 1) (by omega) (by omega)
      refine ⟨a, t, th, fun k hk => ?_, e1, fun h => ?_⟩
      · obtain ⟨k, rfl⟩ := pos_round (show 0 < k by omega)
        simp only [impl_FindBox.l0]
        rw [if_pos h1, if_pos h0, if_pos h1]
        unfold slices_Index_int_int.f
        rw [hr k (by omega), Option.bind_some, if_neg c, w64 (by omega) (by omega)]
        exact e k (by omega)
      · rw [rl_drop h0 h1, List.flatten_cons, List.mem_append, not_or]
        exact ⟨by simpa using hr2 (by omega), e2 h⟩
theorem find_ok {H : Int} {L : List (List Int)} (h : Good H L) (b : Int) : ∃ a t th, (∀ k, 30 < k → impl_FindBox.f k H L b = some (a, t, th)) ∧ (th = true → 0 ≤ a ∧ a < L.length ∧ 0 ≤ t ∧ t < ((rd_L2 L a).length : Int) ∧ rd (rd_L2 L a) t = b) ∧ (th = false → L.flatten.count b = 0) := by
  obtain ⟨a, t, th, e, e1, e2⟩ := find_loop L b H h.hi.2 h.st h.n.2 L.length 0 (by omega) (by omega)
  refine ⟨a, t, th, fun k hk => ?_, e1, fun hth => ?_⟩
  · unfold impl_FindBox.f
    rw [h.ok, Option.bind_some, if_pos rfl]
    exact e k (by have := h.n; omega)
  · rw [List.count_eq_zero]
    simpa using e2 hth
/-! ### impl.DoYard at a yard that is right -/
theorem to_ok (H a : Int) (X : List (List Int)) : ∀ (r : List (List Int)) (i t : Int), 0 ≤ i → X.drop i.toNat = r → (t < 0 ∨ (0 ≤ t ∧ t < X.length ∧ t ≠ a ∧ ((rd_L2 X t).length : Int) < H)) →
    Yt.to H a X r i t < 0 ∨ (0 ≤ Yt.to H a X r i t ∧ Yt.to H a X r i t < X.length ∧ Yt.to H a X r i t ≠ a ∧ ((rd_L2 X (Yt.to H a X r i t)).length : Int) < H)
  | [], i, t, _, _, h => h
  | q :: r, i, t, h0, he, h => by
    have h1 : i < X.length := by
      rcases Int.lt_or_le i (X.length : Int) with c | c
      · exact c
      · rw [List.drop_eq_nil_of_le (by omega)] at he; cases he
    rw [rl_drop h0 h1] at he
    injection he with hq hr
    unfold Yt.to
    refine to_ok H a X r (i + 1) _ (by omega) hr ?_
    split
    · rename_i c
      rw [Bool.and_eq_true, Bool.and_eq_true] at c
      refine .inr ⟨h0, h1, by simpa using c.1, ?_⟩
      rw [hq]
      exact of_decide_eq_true c.2.1
    · exact h
theorem out_ok (H a t : Int) (hH : H ≤ 6) (ha0 : 0 ≤ a) (ht0 : 0 ≤ t) : ∀ (d : Nat) (X : List (List Int)) (m : Int), a < X.length → Lens H X → ((rd_L2 X a).length : Int) = t + 1 + d →
    ∃ R, Yt.out H a d X m = some R ∧ ∀ Xf mf, R = some (Xf, mf) → mf = m + d ∧ Xf.length = X.length ∧ Lens H Xf ∧ (∀ b, Xf.flatten.count b = X.flatten.count b) ∧ Xf.flatten.length = X.flatten.length ∧ rd_L2 Xf a = (rd_L2 X a).take (t + 1).toNat
  | 0, X, m, ha, hs, hl => ⟨some (X, m), rfl, fun Xf mf h => by
      injection h with h
      injection h with h1 h2
      subst h1 h2
      exact ⟨by omega, rfl, hs, fun _ => rfl, rfl, (List.take_of_length_le (by omega)).symm⟩⟩
  | d + 1, X, m, ha, hs, hl => by
    have hall : ∀ x ∈ X, x.length ≤ 100 := rl_all (P := fun s => s.length ≤ 100) fun i i0 i1 => by have := hs i i0 i1; omega
    have hto := to_ok H a X X 0 (-1) (by omega) rfl (.inl (by omega))
    unfold Yt.out
    rw [if_pos hall]
    generalize Yt.to H a X X 0 (-1) = T at hto ⊢
    by_cases c : T < 0
    · rw [if_pos c]
      exact ⟨none, rfl, fun _ _ h => by cases h⟩
    · rcases hto with hto | ⟨t0, t1, tne, tl⟩
      · exact absurd hto c
      rw [if_neg c, if_pos ⟨t1, tne⟩]
      have hp : 0 < (rd_L2 X a).length := by omega
      have hf := lift_from (X := X) (j := T) ha0 ha
      obtain ⟨R, e, hR⟩ := out_ok H a t hH ha0 ht0 d (Yt.lift X a T) (m + 1) (by rw [lift_len]; exact ha) (hs.lift ha0 ha t0 t1 (Ne.symm tne) tl) (by rw [hf, List.length_take]; omega)
      refine ⟨R, e, fun Xf mf h => ?_⟩
      obtain ⟨h1, h2, h3, h4, h5, h6⟩ := hR Xf mf h
      refine ⟨by omega, by rw [h2, lift_len], h3, fun b => by rw [h4 b, lift_cnt ha0 ha t0 t1 (Ne.symm tne) hp], by rw [h5, lift_flen ha0 ha t0 t1 (Ne.symm tne) hp], ?_⟩
      rw [h6, hf, List.take_take]
      congr 1
      omega
/-- What an operation leaves: a yard that is right, and what the law counts. -/
structure Did (H : Int) (L : List (List Int)) (k b s : Int) (L' : List (List Int)) (m c : Int) : Prop where
  good : Good H L'
  sum : (L'.flatten.length : Int) = L.flatten.length + (if c = 0 ∧ k = 1 then 1 else 0) - (if c = 0 ∧ k = 2 then 1 else 0)
  out : c = 0 → k = 2 → ∀ a t th, (∀ j, 30 < j → impl_FindBox.f j H L b = some (a, t, th)) → th = true ∧ m = ((rd_L2 L a).length : Int) - t - 1
theorem Did.same {H : Int} {L : List (List Int)} {k b s c : Int} (h : Good H L) (hc : c ≠ 0) : Did H L k b s L 0 c :=
  ⟨h, by rw [if_neg (fun h => hc h.1), if_neg (fun h => hc h.1)]; omega, fun h => absurd h hc⟩
theorem do_ok {H : Int} {L : List (List Int)} (h : Good H L) (k b s : Int) : ∃ L' m c, impl_DoYard.f H L k b s = some (H, L', m, c) ∧ Did H L k b s L' m c := by
  obtain ⟨a, t, th, hf, hf1, hf2⟩ := find_ok h b
  unfold impl_DoYard.f
  rw [if_pos h.small, h.ok, Option.bind_some]
  unfold impl_DoYard.g
  rw [if_neg (by decide)]
  have same : ∀ c : Int, c ≠ 0 → Did H L k b s L 0 c := fun c hc => Did.same h hc
  by_cases hk : 1 ≤ k ∧ k ≤ 3
  case neg => rw [if_pos hk]; exact ⟨_, _, _, rfl, same 1 (by omega)⟩
  rw [if_neg (fun hn => hn hk)]
  have hlen : 0 < L.length := by have := h.n; omega
  rw [if_neg (fun hn => hn hlen)]
  by_cases k2 : k = 2
  · rw [if_pos k2, hf 50 (by omega), Option.bind_some]
    dsimp only
    cases th with
    | false => rw [if_pos rfl]; exact ⟨_, _, _, rfl, same 3 (by omega)⟩
    | true =>
      rw [if_neg (by decide)]
      obtain ⟨a0, a1, t0, t1, ht⟩ := hf1 rfl
      rw [if_pos ⟨a0, a1, t0, t1⟩]
      obtain ⟨R, e, hR⟩ := out_ok H a t h.hi.2 a0 t0 (((rd_L2 L a).length : Int) - 1 - t).toNat L 0 a1 h.st (by omega)
      rw [e, Option.bind_some]
      cases R with
      | none => exact ⟨_, _, _, rfl, same 4 (by omega)⟩
      | some p =>
        obtain ⟨Xf, mf⟩ := p
        obtain ⟨h1, h2, h3, h4, h5, h6⟩ := hR Xf mf rfl
        have a1' : a < (Xf.length : Int) := by rw [h2]; exact a1
        have hx : (rd_L2 Xf a).length = (t + 1).toNat := by rw [h6, List.length_take]; omega
        have hcs := fun q => cnt_set a0 a1' ((rd_L2 Xf a).take t.toNat) q
        have hls := len_set a0 a1' ((rd_L2 Xf a).take t.toNat)
        have hct : ∀ q, ((rd_L2 Xf a).take t.toNat).count q ≤ (rd_L2 Xf a).count q := fun q => List.Sublist.count_le q (List.take_sublist _ _)
        refine ⟨_, _, _, rfl, ⟨⟨h.hi, by rw [List.length_set, h2]; exact h.n, h3.set a0 (by rw [List.length_take, hx]; have := h3 a a0 a1'; omega), fun q hq => h.ids q ?_, fun q => ?_⟩, ?_, fun _ _ a' t' th' hf' => ?_⟩⟩
        · have := hcs q; have := hct q; have := h4 q; omega
        · have := hcs q; have := hct q; have := h4 q; have := h.nd q; omega
        · rw [if_neg (by omega), if_pos ⟨rfl, k2⟩]
          rw [List.length_take, hx] at hls
          omega
        · have e2 := (hf 50 (by omega)).symm.trans (hf' 50 (by omega))
          injection e2 with e2
          injection e2 with e3 e4
          injection e4 with e4 e5
          subst e3 e4 e5
          exact ⟨rfl, by omega⟩
  rw [if_neg k2]
  by_cases hs : 0 ≤ s ∧ s < (L.length : Int)
  case neg => rw [if_pos hs]; exact ⟨_, _, _, rfl, same 1 (by omega)⟩
  rw [if_neg (fun hn => hn hs)]
  by_cases k1 : k = 1
  · rw [if_pos k1]
    by_cases hid : impl_YardOk.idr b = false
    · rw [if_pos hid]; exact ⟨_, _, _, rfl, same 1 (by omega)⟩
    rw [if_neg hid, hf 50 (by omega), Option.bind_some]
    dsimp only
    cases th with
    | true => rw [if_pos rfl]; exact ⟨_, _, _, rfl, same 2 (by omega)⟩
    | false =>
      rw [if_neg (by decide)]
      by_cases hfl : ((rd_L2 L s).length : Int) = H
      · rw [if_pos hfl]; exact ⟨_, _, _, rfl, same 4 (by omega)⟩
      rw [if_neg hfl]
      have hb0 := hf2 rfl
      have hid2 : 1 ≤ b ∧ b ≤ 1000000 := by
        rw [Bool.not_eq_false, idr_eq] at hid
        exact of_decide_eq_true hid
      have hcs := fun q => cnt_set hs.1 hs.2 (rd_L2 L s ++ [b]) q
      have hls := len_set hs.1 hs.2 (rd_L2 L s ++ [b])
      have hst := h.st s hs.1 hs.2
      rw [List.length_append, List.length_singleton] at hls
      refine ⟨_, _, _, rfl, ⟨⟨h.hi, by rw [List.length_set]; exact h.n, h.st.set hs.1 (by rw [List.length_append, List.length_singleton]; omega), fun q hq => ?_, fun q => ?_⟩, ?_, fun _ h2 => absurd h2 k2⟩⟩
      · have hq2 := hcs q
        rw [List.count_append, List.count_singleton] at hq2
        by_cases e : b == q
        · rw [beq_iff_eq] at e; subst e; exact hid2
        · rw [if_neg e] at hq2
          exact h.ids q (by omega)
      · have hq2 := hcs q
        rw [List.count_append, List.count_singleton] at hq2
        have hn := h.nd q
        by_cases e : b == q
        · rw [if_pos e] at hq2
          rw [beq_iff_eq] at e
          subst e
          omega
        · rw [if_neg e] at hq2
          omega
      · rw [if_pos ⟨rfl, k1⟩, if_neg (fun hh => k2 hh.2)]
        omega
  rw [if_neg k1]
  by_cases hb : 0 ≤ b ∧ b < (L.length : Int)
  case neg => rw [if_pos hb]; exact ⟨_, _, _, rfl, same 1 (by omega)⟩
  rw [if_neg (fun hn => hn hb)]
  by_cases hbs : b = s
  · rw [if_pos hbs]; exact ⟨_, _, _, rfl, same 1 (by omega)⟩
  rw [if_neg hbs, hf 50 (by omega), Option.bind_some]
  by_cases hz : (rd_L2 L b).length = 0
  · rw [if_pos hz]; exact ⟨_, _, _, rfl, same 3 (by omega)⟩
  rw [if_neg hz]
  by_cases hfl : ((rd_L2 L s).length : Int) = H
  · rw [if_pos hfl]; exact ⟨_, _, _, rfl, same 4 (by omega)⟩
  rw [if_neg hfl]
  have hst := h.st s hs.1 hs.2
  refine ⟨_, _, _, rfl, ⟨h.lift hb.1 hb.2 hs.1 hs.2 hbs (by omega) (by omega), ?_, fun _ h2 => absurd h2 k2⟩⟩
  rw [lift_flen hb.1 hb.2 hs.1 hs.2 hbs (by omega), if_neg (fun hh => k1 hh.2), if_neg (fun hh => k2 hh.2)]
  omega
/-! ### the drawing -/
theorem Good.perm {H : Int} {L : List (List Int)} (h : Good H L) {i : Int} (h0 : 0 ≤ i) (h1 : i < L.length) {y : List Int} (hp : y.Perm (rd_L2 L i)) : Good H (L.set i.toNat y) := by
  have hc := fun a => cnt_set h0 h1 y a
  have hq := fun a => hp.count_eq a
  exact ⟨h.hi, by rw [List.length_set]; exact h.n, h.st.set h0 (by rw [hp.length_eq]; exact h.st i h0 h1), fun a ha => h.ids a (by have := hc a; have := hq a; omega), fun a => by have := hc a; have := hq a; have := h.nd a; omega⟩
theorem shuf (c : List Int) (hc : c.length ≤ 1048576) (H x1 : Int) : ∀ (d : Nat) (i p s : Int) (L : List (List Int)), Good H L → (L.length : Int) = x1 → 0 ≤ i → i ≤ x1 → x1 - i = d → InRow c p →
    ∃ L' p' s', Ev (fun k => spec_l18Draw.l1 k x1 i c p s H L) (H, L', p', s') ∧ Good H L' ∧ InRow c p' := by
  intro d
  induction d with
  | zero =>
    intro i p s L hg hl h0 h1 hd hp
    refine ⟨L, p, s, Ev.succ (Ev.of fun k => ?_), hg, hp⟩
    simp only [spec_l18Draw.l1]
    rw [if_neg (by omega)]
  | succ d ih =>
    intro i p s L hg hl h0 h1 hd hp
    have inner : ∀ (e : Nat) (t p s : Int) (L : List (List Int)), Good H L → (L.length : Int) = x1 → 0 ≤ t → ((rd_L2 L i).length : Int) - t = e → InRow c p →
        ∃ L' p' s', Ev (fun k => spec_l18Draw.l2 k x1 i t c p s H L) (H, L', p', s') ∧ Good H L' ∧ InRow c p' := by
      intro e
      induction e with
      | zero =>
        intro t p s L hg hl t0 he hp
        obtain ⟨L', p', s', hE, hG, hP⟩ := ih (i + 1) p s L hg hl (by omega) (by omega) (by omega) hp
        refine ⟨L', p', s', Ev.succ (hE.to fun k => ?_), hG, hP⟩
        simp only [spec_l18Draw.l2]
        rw [if_pos h0, if_pos (by omega), if_neg (by omega), w64 (by omega) (by have := hg.n; omega)]
      | succ e ih2 =>
        intro t p s L hg hl t0 he hp
        have hil : i < (L.length : Int) := by omega
        have hst := hg.st i h0 hil
        have h6 := hg.hi.2
        obtain ⟨r, p1, s1, hb, r0, r1, _, hp1⟩ := below_ok c hc hp s (t + 1)
        have r1' := r1 (by omega)
        have hperm := swap_perm (x := rd_L2 L i) (i := t) (j := r) ⟨t0, by omega⟩ ⟨r0, by omega⟩
        have e1 : rd_L2 (L.set i.toNat ((rd_L2 L i).set t.toNat (rd (rd_L2 L i) r))) i = (rd_L2 L i).set t.toNat (rd (rd_L2 L i) r) := rl_set_eq h0 hil
        have hg2 := hg.perm h0 hil hperm
        obtain ⟨L', p', s', hE, hG, hP⟩ := ih2 (t + 1) p1 s1 _ hg2 (by rw [List.length_set]; exact hl) (by omega) (by rw [rl_set_eq h0 hil, List.length_set, List.length_set]; omega) hp1
        refine ⟨L', p', s', Ev.succ (hE.to fun k => ?_), hG, hP⟩
        simp only [spec_l18Draw.l2]
        rw [if_pos h0, if_pos hil, if_pos (by omega), w64 (x := t + 1) (by omega) (by omega), hb, Option.bind_some, if_pos t0, if_pos r0, if_pos (by omega), Option.bind_some]
        rw [e1, if_pos (by rw [List.length_set]; omega), List.set_set]
    obtain ⟨L', p', s', hE, hG, hP⟩ := inner (rd_L2 L i).length 0 p s L hg hl (by omega) (by omega) hp
    refine ⟨L', p', s', Ev.succ (hE.to fun k => ?_), hG, hP⟩
    simp only [spec_l18Draw.l1]
    rw [if_pos (by omega)]
theorem place (c : List Int) (hc : c.length ≤ 1048576) (H x1 x2 : Int) (hH : 1 ≤ H ∧ H ≤ 4) (h1 : 1 ≤ x1 ∧ x1 ≤ 5) (h2 : x2 ≤ 15) : ∀ (d : Nat) (i box p s : Int) (L : List (List Int)), 0 ≤ i → x2 - i = d → 0 ≤ box → box ≤ 2 * i → (L.length : Int) = x1 → Lens H L →
    (∀ a, 0 < L.flatten.count a → 1 ≤ a ∧ a ≤ box) → (∀ a, L.flatten.count a ≤ 1) → InRow c p →
    ∃ L' p' s', Ev (fun k => spec_l18Draw.l0 k x1 x2 box i c p s H L) (H, L', p', s') ∧ Good H L' ∧ InRow c p' := by
  intro d
  induction d with
  | zero =>
    intro i box p s L i0 hd b0 b1 hl hs hids hnd hp
    have hg : Good H L := ⟨by omega, by omega, hs, fun a ha => by have := hids a ha; omega, hnd⟩
    obtain ⟨L', p', s', hE, hG, hP⟩ := shuf c hc H x1 x1.toNat 0 p s L hg hl (by omega) (by omega) (by omega) hp
    refine ⟨L', p', s', Ev.succ (hE.to fun k => ?_), hG, hP⟩
    simp only [spec_l18Draw.l0]
    rw [if_neg (by omega)]
  | succ d ih =>
    intro i box p s L i0 hd b0 b1 hl hs hids hnd hp
    obtain ⟨q, p1, s1, hb1, q0, q1, _, hp1⟩ := below_ok c hc hp s 2
    have q1' := q1 (by omega)
    obtain ⟨r, p2, s2, hb2, r0, r1, _, hp2⟩ := below_ok c hc hp1 s1 x1
    have r1' := r1 (by omega)
    have hrl : r < (L.length : Int) := by omega
    have hst := hs r r0 hrl
    by_cases cf : ((rd_L2 L r).length : Int) < H
    · have hcs := fun a => cnt_set r0 hrl (rd_L2 L r ++ [box + 1 + q]) a
      obtain ⟨L', p', s', hE, hG, hP⟩ := ih (i + 1) (box + 1 + q) p2 s2 (L.set r.toNat (rd_L2 L r ++ [box + 1 + q])) (by omega) (by omega) (by omega) (by omega) (by rw [List.length_set]; exact hl) (hs.set r0 (by rw [List.length_append, List.length_singleton]; omega))
        (fun a ha => by
          have h := hcs a
          rw [List.count_append, List.count_singleton] at h
          by_cases e : (box + 1 + q) == a
          · rw [beq_iff_eq] at e; omega
          · rw [if_neg e] at h
            have := hids a (by omega)
            omega)
        (fun a => by
          have h := hcs a
          rw [List.count_append, List.count_singleton] at h
          have hn := hnd a
          by_cases e : (box + 1 + q) == a
          · rw [if_pos e] at h
            rw [beq_iff_eq] at e
            have h0 : L.flatten.count a = 0 := by
              rcases Nat.eq_zero_or_pos (L.flatten.count a) with h3 | h3
              · exact h3
              · have := hids a h3; omega
            omega
          · rw [if_neg e] at h
            omega) hp2
      refine ⟨L', p', s', Ev.succ (hE.to fun k => ?_), hG, hP⟩
      simp only [spec_l18Draw.l0]
      rw [if_pos (by omega), hb1, Option.bind_some]
      dsimp only
      rw [hb2, Option.bind_some]
      dsimp only
      rw [if_pos r0, if_pos hrl, if_pos cf, if_pos (by omega), w64 (x := box + 1) (by omega) (by omega), w64 (x := box + 1 + q) (by omega) (by omega), w64 (x := i + 1) (by omega) (by omega)]
    · obtain ⟨L', p', s', hE, hG, hP⟩ := ih (i + 1) (box + 1 + q) p2 s2 L (by omega) (by omega) (by omega) (by omega) hl hs (fun a ha => by have := hids a ha; omega) hnd hp2
      refine ⟨L', p', s', Ev.succ (hE.to fun k => ?_), hG, hP⟩
      simp only [spec_l18Draw.l0]
      rw [if_pos (by omega), hb1, Option.bind_some]
      dsimp only
      rw [hb2, Option.bind_some]
      dsimp only
      rw [if_pos r0, if_pos hrl, if_neg cf, w64 (x := box + 1) (by omega) (by omega), w64 (x := box + 1 + q) (by omega) (by omega), w64 (x := i + 1) (by omega) (by omega)]
theorem rl_replicate (n : Nat) (i : Int) : rd_L2 (List.replicate n []) i = [] := by
  simp only [rd_L2, List.getD_eq_getElem?_getD, List.getElem?_replicate]
  split <;> rfl
theorem flat_replicate (n : Nat) : (List.replicate n ([] : List Int)).flatten = [] := by
  induction n with
  | zero => rfl
  | succ n ih => rw [List.replicate_succ, List.flatten_cons, ih]; rfl
theorem draw18 (c : List Int) (hc : c.length ≤ 1048576) {p : Int} (hp : InRow c p) (s a1 a2 : Int) (h1 : 1 ≤ a1 ∧ a1 ≤ 5) (h2 : 0 ≤ a2 ∧ a2 ≤ 15) : ∃ H L p' s', Ev (fun k => spec_l18Draw.f k c p s a1 a2) (H, L, p', s') ∧ Good H L ∧ InRow c p' := by
  obtain ⟨q, p1, s1, hb1, q0, q1, _, hp1⟩ := below_ok c hc hp s 4
  have q1' := q1 (by omega)
  obtain ⟨L', p', s', hE, hG, hP⟩ := place c hc (1 + q) a1 a2 (by omega) h1 h2.2 a2.toNat 0 0 p1 s1 (List.replicate a1.toNat []) (by omega) (by omega) (by omega) (by omega) (by rw [List.length_replicate]; omega) (fun i _ _ => by rw [rl_replicate]; simp; omega) (fun a ha => by rw [flat_replicate] at ha; simp at ha) (fun a => by rw [flat_replicate]; simp) hp1
  refine ⟨1 + q, L', p', s', hE.to fun k => ?_, hG, hP⟩
  unfold spec_l18Draw.f
  rw [hb1, Option.bind_some, if_pos (by omega), if_pos (by omega), w64 (by omega) (by omega)]
theorem drawop (c : List Int) (hc : c.length ≤ 1048576) {p : Int} (hp : InRow c p) (s : Int) : ∃ o0 o1 o2 p' s', Ev (fun k => spec_l18DrawOp.f k c p s) (o0, o1, o2, p', s') ∧ InRow c p' := by
  obtain ⟨q1, p1, s1, e1, a1, b1, _, hp1⟩ := below_ok c hc hp s 3
  obtain ⟨q2, p2, s2, e2, a2, b2, _, hp2⟩ := below_ok c hc hp1 s1 26
  obtain ⟨q3, p3, s3, e3, a3, b3, _, hp3⟩ := below_ok c hc hp2 s2 5
  have b1' := b1 (by omega)
  have last : ∀ (p s x y z : Int), InRow c p → ∃ o0 o1 o2 p' s', Ev (fun k => spec_l18DrawOp.j0 k c p s x y z) (o0, o1, o2, p', s') ∧ InRow c p' := by
    intro p s x y z hp
    obtain ⟨q, p1, s1, e1, _, _, _, hp1⟩ := below_ok c hc hp s 40
    by_cases h0 : q = 0
    · obtain ⟨r, p2, s2, e2, _, hp2⟩ := pickI_ok c hc hp1 s1 [0, 4] (by decide)
      refine ⟨r, y, z, p2, s2, Ev.succ (Ev.of fun k => ?_), hp2⟩
      simp only [spec_l18DrawOp.j0]
      rw [e1, Option.bind_some, if_pos h0]
      dsimp only
      rw [e2, Option.bind_some]
    · by_cases h1 : q = 1
      · refine ⟨x, y, -1, p1, s1, Ev.succ (Ev.of fun k => ?_), hp1⟩
        simp only [spec_l18DrawOp.j0]
        rw [e1, Option.bind_some, if_neg h0, if_pos h1]
      · by_cases h2 : q = 2
        · obtain ⟨r, p2, s2, e2, _, hp2⟩ := pickI_ok c hc hp1 s1 [0, -1, 1000000, 1000001] (by decide)
          refine ⟨x, r, z, p2, s2, Ev.succ (Ev.of fun k => ?_), hp2⟩
          simp only [spec_l18DrawOp.j0]
          rw [e1, Option.bind_some, if_neg h0, if_neg h1, if_pos h2]
          dsimp only
          rw [e2, Option.bind_some]
        · refine ⟨x, y, z, p1, s1, Ev.succ (Ev.of fun k => ?_), hp1⟩
          simp only [spec_l18DrawOp.j0]
          rw [e1, Option.bind_some, if_neg h0, if_neg h1, if_neg h2]
  by_cases h3 : wrap64 (1 + q1) = 3
  · obtain ⟨q4, p4, s4, e4, _, _, _, hp4⟩ := below_ok c hc hp3 s3 5
    obtain ⟨o0, o1, o2, p', s', hE, hP⟩ := last p4 s4 (wrap64 (1 + q1)) q4 q3 hp4
    refine ⟨o0, o1, o2, p', s', hE.to fun k => ?_, hP⟩
    unfold spec_l18DrawOp.f
    rw [e1, Option.bind_some]
    dsimp only
    rw [e2, Option.bind_some]
    dsimp only
    rw [e3, Option.bind_some, if_pos h3]
    dsimp only
    rw [e4, Option.bind_some]
  · obtain ⟨o0, o1, o2, p', s', hE, hP⟩ := last p3 s3 (wrap64 (1 + q1)) (wrap64 (1 + q2)) q3 hp3
    refine ⟨o0, o1, o2, p', s', hE.to fun k => ?_, hP⟩
    unfold spec_l18DrawOp.f
    rw [e1, Option.bind_some]
    dsimp only
    rw [e2, Option.bind_some]
    dsimp only
    rw [e3, Option.bind_some, if_neg h3]
theorem drawops (c : List Int) (hc : c.length ≤ 1048576) (H : Int) (L : List (List Int)) : ∀ (d : Nat) (acc : List S76) (p s : Int), acc.length + d ≤ 100 → InRow c p → ∃ ops : List S76, Ev (fun k => spec_DrawYard.l0 k acc d c p s H L) (H, L, ops) ∧ ops.length = acc.length + d := by
  intro d
  induction d with
  | zero =>
    intro acc p s ha hp
    refine ⟨acc, Ev.succ (Ev.of fun k => ?_), rfl⟩
    simp only [spec_DrawYard.l0]
    rw [if_neg (by omega)]
  | succ d ih =>
    intro acc p s ha hp
    obtain ⟨o0, o1, o2, p1, s1, hO, hp1⟩ := drawop c hc hp s
    obtain ⟨ops, hE, hl⟩ := ih (acc ++ [⟨o0, o1, o2⟩]) p1 s1 (by simp; omega) hp1
    refine ⟨ops, Ev.succ ((Ev.bind (g := fun k bt => if acc.length < 5864062014805 then (spec_DrawYard.l0 k (acc ++ [(⟨bt.1, bt.2.1, bt.2.2.1⟩ : S76)]) (wrap64 (((d + 1 : Nat) : Int) - 1)) c bt.2.2.2.1 bt.2.2.2.2 H L) else none) hO (hE.to fun k => ?_)).to fun k => ?_), by rw [hl, List.length_append, List.length_singleton]; omega⟩
    · rw [if_pos (by omega), w64 (by omega) (by omega), show (((d + 1 : Nat) : Int) - 1) = (d : Int) by omega]
    · simp only [spec_DrawYard.l0]
      rw [if_pos (by omega)]
theorem draw_ok (c : List Int) (hc : c.length ≤ 1048576) : ∃ H L ops, Ev (fun k => spec_DrawYard.f k c) (H, L, ops) ∧ Good H L ∧ ops.length ≤ 24 := by
  obtain ⟨r, hr⟩ := new_ok c hc
  have hp0 : InRow c 0 := ⟨by omega, by omega⟩
  obtain ⟨q1, p1, s1, e1, a1, b1, _, hp1⟩ := below_ok c hc hp0 r 5
  have b1' := b1 (by omega)
  obtain ⟨q2, p2, s2, e2, a2, b2, _, hp2⟩ := below_ok c hc hp1 s1 16
  have b2' := b2 (by omega)
  obtain ⟨H, L, p3, s3, hE, hG, hp3⟩ := draw18 c hc hp2 s2 (1 + q1) q2 (by omega) (by omega)
  obtain ⟨q4, p4, s4, e4, a4, b4, _, hp4⟩ := below_ok c hc hp3 s3 25
  have b4' := b4 (by omega)
  obtain ⟨ops, hO, hl⟩ := drawops c hc H L q4.toNat [] p4 s4 (by simp; omega) hp4
  rw [show ((q4.toNat : Nat) : Int) = q4 by omega] at hO
  refine ⟨H, L, ops, ?_, hG, by rw [hl]; simp; omega⟩
  obtain ⟨M, hE⟩ := hE
  obtain ⟨N, hO⟩ := hO
  refine ⟨M + N + 4001, fun k hk => ?_⟩
  have hE2 : spec_l18Draw.f k c p2 s2 (1 + q1) q2 = some (H, L, p3, s3) := hE k (by omega)
  show spec_DrawYard.f k c = some (H, L, ops)
  unfold spec_DrawYard.f
  rw [hr k (by omega), Option.bind_some]
  dsimp only
  rw [e1, Option.bind_some]
  dsimp only
  rw [e2, Option.bind_some]
  dsimp only
  rw [w64 (by omega) (by omega), hE2, Option.bind_some]
  dsimp only
  rw [e4, Option.bind_some]
  exact hO k (by omega)
/-! ### the run of all operations -/
theorem rd76_drop {l : List S76} {i : Int} (h0 : 0 ≤ i) (h1 : i < l.length) : l.drop i.toNat = rd_T76 l i :: l.drop (i + 1).toNat := by
  have h : i.toNat < l.length := by omega
  rw [show (i + 1).toNat = i.toNat + 1 by omega, List.drop_eq_getElem_cons h]
  simp [rd_T76, List.getD_eq_getElem?_getD, List.getElem?_eq_getElem h]
def stepL (H : Int) (L : List (List Int)) (o : S76) : List (List Int) := match impl_DoYard.f H L o.f0 o.f1 o.f2 with
  | some r => r.2.1
  | none => L
theorem step_ok {H : Int} {L : List (List Int)} (h : Good H L) (o : S76) : ∃ m c, impl_DoYard.f H L o.f0 o.f1 o.f2 = some (H, stepL H L o, m, c) ∧ Did H L o.f0 o.f1 o.f2 (stepL H L o) m c := by
  obtain ⟨L', m, c, e, hd⟩ := do_ok h o.f0 o.f1 o.f2
  have e2 : stepL H L o = L' := by unfold stepL; rw [e]
  rw [e2]
  exact ⟨m, c, e, hd⟩
theorem run_loop (H : Int) (ops : List S76) (hn : ops.length ≤ 24) : ∀ (d : Nat) (i : Int) (codes : List Int) (all : Int) (L : List (List Int)), 0 ≤ i → (ops.length : Int) - i = d → (codes.length : Int) = i → Good H L →
    ∃ codes' all', Ev (fun k => impl_RunYard.l0 k codes all ops (ops.length : Int) i H L) (H, (ops.drop i.toNat).foldl (stepL H) L, codes', all') ∧ codes'.length = ops.length := by
  intro d
  induction d with
  | zero =>
    intro i codes all L h0 hd hc hg
    refine ⟨codes, all, Ev.succ (Ev.of fun k => ?_), by omega⟩
    simp only [impl_RunYard.l0]
    rw [if_neg (by omega), own46_eq codes (by omega), Option.bind_some, List.drop_eq_nil_of_le (by omega)]
    rfl
  | succ d ih =>
    intro i codes all L h0 hd hc hg
    have h1 : i < ops.length := by omega
    obtain ⟨m, c, e, hD⟩ := step_ok hg (rd_T76 ops i)
    obtain ⟨codes', all', hE, hl⟩ := ih (i + 1) (codes ++ [c]) (wrap64 (all + m)) (stepL H L (rd_T76 ops i)) (by omega) (by omega) (by rw [List.length_append, List.length_singleton]; omega) hD.good
    rw [rd76_drop h0 h1, List.foldl_cons]
    refine ⟨codes', all', Ev.succ (hE.to fun k => ?_), hl⟩
    simp only [impl_RunYard.l0]
    rw [if_pos h1, if_pos h0, if_pos h1, e, Option.bind_some, if_pos (by omega), w64 (x := i + 1) (by omega) (by omega)]
theorem run_ok {H : Int} {L : List (List Int)} (h : Good H L) (ops : List S76) (hn : ops.length ≤ 24) : ∃ codes all, Ev (fun k => impl_RunYard.f k H L ops) (H, ops.foldl (stepL H) L, codes, all) ∧ codes.length = ops.length := by
  obtain ⟨codes, all, hE, hl⟩ := run_loop H ops hn ops.length 0 [] 0 L (by omega) (by omega) rfl h
  refine ⟨codes, all, hE.to fun k => ?_, hl⟩
  have hs := h.small
  unfold impl_RunYard.f impl_Yard_own.f
  rw [if_pos ⟨hs.1, fun s h2 => by have := hs.2 s h2; omega⟩, Option.bind_some, if_neg (by omega)]
/-! ### the law -/
theorem same_loop (l : List Int) (hl : l.length ≤ 100) (d : Nat) : ∀ i : Int, 0 ≤ i → (l.length : Int) - i = d → Ev (fun k => laws_sameInts.l0 k l l i) true := by
  induction d with
  | zero =>
    intro i h0 hd
    refine Ev.succ (Ev.of fun k => ?_)
    simp only [laws_sameInts.l0]
    rw [if_neg (by omega)]
  | succ d ih =>
    intro i h0 hd
    refine Ev.succ ((ih (i + 1) (by omega) (by omega)).to fun k => ?_)
    simp only [laws_sameInts.l0]
    rw [if_pos (by omega), if_pos h0, if_pos (by omega), if_pos trivial, w64 (by omega) (by omega)]
theorem same_ok (l : List Int) (hl : l.length ≤ 100) : Ev (fun k => laws_sameInts.f k l l) true := by
  refine (same_loop l hl l.length 0 (by omega) (by omega)).to fun k => ?_
  unfold laws_sameInts.f
  rw [if_pos rfl]
theorem flat_le (L : List (List Int)) (h : ∀ s ∈ L, s.length ≤ 6) : L.flatten.length ≤ 6 * L.length := by
  induction L with
  | nil => simp
  | cons s r ih =>
    rw [List.flatten_cons, List.length_append, List.length_cons]
    have := ih fun t ht => h t (List.mem_cons_of_mem _ ht)
    have := h s List.mem_cons_self
    omega
theorem Good.flat {H : Int} {L : List (List Int)} (h : Good H L) : L.flatten.length ≤ 72 := by
  have := flat_le L (rl_all (P := fun s => s.length ≤ 6) fun i i0 i1 => by have := h.st i i0 i1; have := h.hi; omega)
  have := h.n
  omega
theorem take_flat {L : List (List Int)} {i : Int} (h0 : 0 ≤ i) (h1 : i < L.length) : (L.take (i + 1).toNat).flatten.length = (L.take i.toNat).flatten.length + (rd_L2 L i).length := by
  obtain ⟨h, e⟩ := rl_lt h0 h1
  rw [show (i + 1).toNat = i.toNat + 1 by omega, List.take_succ_eq_append_getElem h, List.flatten_append, List.length_append, e]
  simp
theorem take_le (L : List (List Int)) (n : Nat) : (L.take n).flatten.length ≤ L.flatten.length := by
  conv => rhs; rw [← List.take_append_drop n L]
  rw [List.flatten_append, List.length_append]
  omega
theorem end_loop {H : Int} {F : List (List Int)} (hF : Good H F) (ops : List S76) (codes : List Int) (hc : codes.length = ops.length) : ∀ (d : Nat) (i : Int), 0 ≤ i → (F.length : Int) - i = d → Ev (fun k => laws_FnYard.l3 k ops codes i H F H F) true := by
  intro d
  induction d with
  | zero =>
    intro i h0 hd
    refine Ev.succ (Ev.of fun k => ?_)
    simp only [laws_FnYard.l3]
    rw [if_neg (by omega), hc]
    simp
  | succ d ih =>
    intro i h0 hd
    have h1 : i < F.length := by omega
    have hs := hF.st i h0 h1
    have hh := hF.hi
    have hn := hF.n
    refine Ev.succ ((Ev.bind (g := fun k t => if t = true then laws_FnYard.l3 k ops codes (wrap64 (i + 1)) H F H F else some false) (same_ok (rd_L2 F i) (by omega)) ((ih (i + 1) (by omega) (by omega)).to fun k => ?_)).to fun k => ?_)
    · rw [if_pos rfl, w64 (by omega) (by omega)]
    · simp only [laws_FnYard.l3]
      rw [if_pos h1, if_pos h0, if_pos h1]
theorem law_loop {H : Int} {L0 : List (List Int)} (h0 : Good H L0) (ops : List S76) (hn : ops.length ≤ 24) : ∀ (d : Nat) (i : Int) (now : List (List Int)), 0 ≤ i → (ops.length : Int) - i = d → Good H now → (ops.drop i.toNat).foldl (stepL H) now = ops.foldl (stepL H) L0 →
    Ev (fun k => laws_FnYard.l0 k ops i H L0 H now) true := by
  intro d
  induction d with
  | zero =>
    intro i now i0 hd hg hF
    rw [List.drop_eq_nil_of_le (by omega)] at hF
    have hF2 : now = ops.foldl (stepL H) L0 := hF
    obtain ⟨codes, all, hE, hl⟩ := run_ok h0 ops hn
    refine Ev.succ ((Ev.bind (g := fun k bt => if (bt.2.1.length : Int) = (now.length : Int) then laws_FnYard.l3 k ops bt.2.2.1 0 H now bt.1 bt.2.1 else some false) hE ((end_loop hg ops codes hl now.length 0 (by omega) (by omega)).to fun k => ?_)).to fun k => ?_)
    · dsimp only
      rw [← hF2, if_pos rfl]
    · simp only [laws_FnYard.l0]
      rw [if_neg (by omega)]
  | succ d ih =>
    intro i now i0 hd hg hF
    have i1 : i < ops.length := by omega
    rw [rd76_drop i0 i1, List.foldl_cons] at hF
    obtain ⟨m, c, e, hD⟩ := step_ok hg (rd_T76 ops i)
    have next := ih (i + 1) (stepL H now (rd_T76 ops i)) (by omega) (by omega) hD.good hF
    obtain ⟨a, t, th, hf, hf1, hf2⟩ := find_ok hg (rd_T76 ops i).f1
    generalize stepL H now (rd_T76 ops i) = nx at e hD next hF
    have hsum := hD.sum
    have hfl := hg.flat
    have hfl2 := hD.good.flat
    -- behind the counting
    have n6 : ∀ (x17 : Int), (c = 0 ∧ (rd_T76 ops i).f0 = 2 → x17 - 1 = (nx.flatten.length : Int)) → (¬ (c = 0 ∧ (rd_T76 ops i).f0 = 2) → x17 = (nx.flatten.length : Int)) → -100 ≤ x17 → x17 ≤ 100 →
        Ev (fun k => laws_FnYard.j5 k ops i a t th m c (nx.flatten.length : Int) x17 H L0 H now H nx) true := by
      intro x17 g1 g2 g3 g4
      have last : Ev (fun k => laws_FnYard.l0 k ops (wrap64 (i + 1)) H L0 H nx) true := by
        refine next.to fun k => ?_
        rw [w64 (by omega) (by omega)]
      by_cases c0 : c = 0
      · by_cases k2 : (rd_T76 ops i).f0 = 2
        · obtain ⟨ht, hm⟩ := hD.out c0 k2 a t th hf
          obtain ⟨a0, a1, t0, t1, _⟩ := hf1 ht
          have hst := hg.st a a0 a1
          have hh := hg.hi
          have g1' := g1 ⟨c0, k2⟩
          have h7 : Ev (fun k => laws_FnYard.j7 k ops i (nx.flatten.length : Int) (wrap64 (x17 - 1)) (m != (wrap64 ((wrap64 (((rd_L2 now a).length : Int) - t)) - 1))) H L0 H nx) true := by
            refine Ev.succ (last.to fun k => ?_)
            simp only [laws_FnYard.j7]
            rw [w64 (x := x17 - 1) (by omega) (by omega), w64 (x := ((rd_L2 now a).length : Int) - t) (by omega) (by omega), w64 (x := ((rd_L2 now a).length : Int) - t - 1) (by omega) (by omega), hm, bne_self_eq_false, if_neg (by decide), if_pos g1'.symm]
          refine Ev.succ (Ev.succ (f := fun k => laws_FnYard.j6 k ops i a t th m (nx.flatten.length : Int) x17 (((rd_T76 ops i).f0) == 2) H L0 H now H nx) (h7.to fun k => ?_) |>.to fun k => ?_)
          · simp only [laws_FnYard.j6]
            rw [k2, if_pos (by decide), if_pos ht, if_pos a0, if_pos a1]
          · simp only [laws_FnYard.j5]
            rw [if_pos c0, if_pos i0, if_pos i1]
        · have g2' := g2 (fun h => k2 h.2)
          refine Ev.succ (Ev.succ (f := fun k => laws_FnYard.j6 k ops i a t th m (nx.flatten.length : Int) x17 (((rd_T76 ops i).f0) == 2) H L0 H now H nx) (last.to fun k => ?_) |>.to fun k => ?_)
          · simp only [laws_FnYard.j6]
            rw [beq_eq_false_iff_ne.2 k2, if_neg (by decide), if_pos g2'.symm]
          · simp only [laws_FnYard.j5]
            rw [if_pos c0, if_pos i0, if_pos i1]
      · have g2' := g2 (fun h => c0 h.1)
        refine Ev.succ (Ev.succ (f := fun k => laws_FnYard.j6 k ops i a t th m (nx.flatten.length : Int) x17 false H L0 H now H nx) (last.to fun k => ?_) |>.to fun k => ?_)
        · simp only [laws_FnYard.j6]
          rw [if_neg (by decide), if_pos g2'.symm]
        · simp only [laws_FnYard.j5]
          rw [if_neg c0]
    have n4 : Ev (fun k => laws_FnYard.l2 k ops i (now.flatten.length : Int) a t th m c (nx.flatten.length : Int) (nx.length : Int) H L0 H now H nx) true := by
      by_cases c0 : c = 0
      · by_cases k1 : (rd_T76 ops i).f0 = 1
        · rw [if_pos ⟨c0, k1⟩, if_neg (by omega)] at hsum
          refine Ev.succ (Ev.succ (f := fun k => laws_FnYard.j4 k ops i a t th m c (nx.flatten.length : Int) (now.flatten.length : Int) (((rd_T76 ops i).f0) == 1) H L0 H now H nx) ((n6 ((now.flatten.length : Int) + 1) (fun h => absurd h.2 (by omega)) (fun _ => by omega) (by omega) (by omega)).to fun k => ?_) |>.to fun k => ?_)
          · simp only [laws_FnYard.j4]
            rw [k1, if_pos (by decide), w64 (by omega) (by omega)]
          · simp only [laws_FnYard.l2]
            rw [if_neg (by omega), if_pos c0, if_pos i0, if_pos i1]
        · rw [if_neg (fun h => k1 h.2)] at hsum
          refine Ev.succ (Ev.succ (f := fun k => laws_FnYard.j4 k ops i a t th m c (nx.flatten.length : Int) (now.flatten.length : Int) (((rd_T76 ops i).f0) == 1) H L0 H now H nx) ((n6 (now.flatten.length : Int) (fun h => by rw [if_pos h] at hsum; omega) (fun h => by rw [if_neg h] at hsum; omega) (by omega) (by omega)).to fun k => ?_) |>.to fun k => ?_)
          · simp only [laws_FnYard.j4]
            rw [beq_eq_false_iff_ne.2 k1, if_neg (by decide)]
          · simp only [laws_FnYard.l2]
            rw [if_neg (by omega), if_pos c0, if_pos i0, if_pos i1]
      · rw [if_neg (fun h => c0 h.1), if_neg (fun h => c0 h.1)] at hsum
        refine Ev.succ (Ev.succ (f := fun k => laws_FnYard.j4 k ops i a t th m c (nx.flatten.length : Int) (now.flatten.length : Int) false H L0 H now H nx) ((n6 (now.flatten.length : Int) (fun h => absurd h.1 c0) (fun _ => by omega) (by omega) (by omega)).to fun k => ?_) |>.to fun k => ?_)
        · simp only [laws_FnYard.j4]
          rw [if_neg (by decide)]
        · simp only [laws_FnYard.l2]
          rw [if_neg (by omega), if_neg c0]
    have n2 : ∀ (e2 : Nat) (x16 : Int), 0 ≤ x16 → (nx.length : Int) - x16 = e2 → Ev (fun k => laws_FnYard.l2 k ops i (now.flatten.length : Int) a t th m c ((nx.take x16.toNat).flatten.length : Int) x16 H L0 H now H nx) true := by
      intro e2
      induction e2 with
      | zero =>
        intro x16 g0 g1
        rw [List.take_of_length_le (by omega), show x16 = (nx.length : Int) by omega]
        exact n4
      | succ e2 ih2 =>
        intro x16 g0 g1
        have g2 : x16 < (nx.length : Int) := by omega
        have htf := take_flat g0 g2
        have htl := take_le nx (x16 + 1).toNat
        have hnn := hD.good.n
        refine Ev.succ ((ih2 (x16 + 1) (by omega) (by omega)).to fun k => ?_)
        simp only [laws_FnYard.l2]
        rw [if_pos g2, if_pos g0, w64 (x := x16 + 1) (by omega) (by omega), w64 (by omega) (by omega), htf]
        rw [show (((nx.take x16.toNat).flatten.length + (rd_L2 nx x16).length : Nat) : Int) = ((nx.take x16.toNat).flatten.length : Int) + ((rd_L2 nx x16).length : Int) by omega]
    have nj : Ev (fun k => laws_FnYard.j2 k ops i (now.flatten.length : Int) a t th false H L0 H now) true := by
      refine Ev.succ ((n2 nx.length 0 (by omega) (by omega)).to fun k => ?_)
      simp only [laws_FnYard.j2]
      rw [if_neg (by decide), if_pos i0, if_pos i1, e, Option.bind_some]
      dsimp only
      rw [hD.good.ok, Option.bind_some, if_pos rfl]
      rfl
    have n1 : Ev (fun k => laws_FnYard.l1 k ops i (now.flatten.length : Int) (now.length : Int) H L0 H now) true := by
      obtain ⟨M, hM⟩ := nj
      refine Ev.succ ⟨M + 31, fun k hk => ?_⟩
      have hM2 : laws_FnYard.j2 k ops i (now.flatten.length : Int) a t th false H L0 H now = some true := hM k (by omega)
      show laws_FnYard.l1 (k + 1) ops i (now.flatten.length : Int) (now.length : Int) H L0 H now = some true
      simp only [laws_FnYard.l1]
      rw [if_neg (by omega), if_pos i0, if_pos i1, hf k (by omega), Option.bind_some]
      dsimp only
      cases th with
      | true =>
        obtain ⟨a0, a1, t0, t1, hb⟩ := hf1 rfl
        rw [if_pos rfl, if_pos a0, if_pos a1, if_pos t0, if_pos t1, hb, bne_self_eq_false]
        exact hM2
      | false =>
        rw [if_neg (by decide)]
        exact hM2
    have n0 : ∀ (e2 : Nat) (x8 : Int), 0 ≤ x8 → (now.length : Int) - x8 = e2 → Ev (fun k => laws_FnYard.l1 k ops i ((now.take x8.toNat).flatten.length : Int) x8 H L0 H now) true := by
      intro e2
      induction e2 with
      | zero =>
        intro x8 g0 g1
        rw [List.take_of_length_le (by omega), show x8 = (now.length : Int) by omega]
        exact n1
      | succ e2 ih2 =>
        intro x8 g0 g1
        have g2 : x8 < (now.length : Int) := by omega
        have htf := take_flat g0 g2
        have htl := take_le now (x8 + 1).toNat
        have hnn := hg.n
        refine Ev.succ ((ih2 (x8 + 1) (by omega) (by omega)).to fun k => ?_)
        simp only [laws_FnYard.l1]
        rw [if_pos g2, if_pos g0, w64 (x := x8 + 1) (by omega) (by omega), w64 (by omega) (by omega), htf]
        rw [show (((now.take x8.toNat).flatten.length + (rd_L2 now x8).length : Nat) : Int) = ((now.take x8.toNat).flatten.length : Int) + ((rd_L2 now x8).length : Int) by omega]
    refine Ev.succ ((n0 now.length 0 (by omega) (by omega)).to fun k => ?_)
    simp only [laws_FnYard.l0]
    rw [if_pos i1]
    rfl
/-- The law's plain side. -/
theorem FnYard : laws_FnYard.Pure := by
  intro l0 hm hs hw
  by_cases hb : (l0.length : Int) > 1048576
  · refine ⟨0, ?_⟩
    unfold laws_FnYard.f laws_big.f
    rw [Option.bind_some, decide_eq_true hb, if_pos rfl]
  · have hc : l0.length ≤ 1048576 := by omega
    obtain ⟨H, L, ops, hE, hG, hn⟩ := draw_ok l0 hc
    have hl := law_loop hG ops hn ops.length 0 L (by omega) (by omega) hG (by simp)
    obtain ⟨k, hk⟩ := (Ev.bind (g := fun k bt => laws_FnYard.l0 k bt.2.2 0 bt.1 bt.2.1 bt.1 bt.2.1) hE hl).get
    refine ⟨k, ?_⟩
    unfold laws_FnYard.f laws_big.f
    rw [Option.bind_some, decide_eq_false hb, if_neg (by decide)]
    exact hk

end Go.Proofs.Ytlphfhibnbhkfaa.Pure
