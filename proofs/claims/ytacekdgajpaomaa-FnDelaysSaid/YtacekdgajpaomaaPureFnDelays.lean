/- A delay of a drawn leg makes no leg leave or come sooner, changes no leg ahead or of another service; what is loaded is taken of its legs alone: for each byte list as code. -/
import Derived.Test.YtacekdgajpaomaaPFnDelaysx9
import Derived.Test.YtacekdgajpaomaaVDelaysKit
set_option linter.unusedVariables false
set_option linter.unusedSimpArgs false
namespace Go.Proofs.Ytacekdgajpaomaa.Pure
open Go.RowKit Go.Proofs.Ytacekdgajpaomaa.PFnDelays Go.Proofs.YtacekdgajpaomaaW.PrintWords Go.Proofs.YtacekdgajpaomaaW.PrintLast Go.Proofs.YtacekdgajpaomaaW.Kit

theorem rd31_lt {l : List S31} {i : Int} (h0 : 0 ≤ i) (h1 : i < l.length) : ∃ h : i.toNat < l.length, rd_T31 l i = l[i.toNat]'h := by
  have h : i.toNat < l.length := by omega
  exact ⟨h, by simp [rd_T31, List.getD_eq_getElem?_getD, List.getElem?_eq_getElem h]⟩
theorem rd31_mem {l : List S31} {i : Int} (h0 : 0 ≤ i) (h1 : i < l.length) : rd_T31 l i ∈ l := by
  obtain ⟨h, e⟩ := rd31_lt h0 h1
  rw [e]; exact List.getElem_mem h
theorem rd31_drop {l : List S31} {i : Int} (h0 : 0 ≤ i) (h1 : i < l.length) : l.drop i.toNat = rd_T31 l i :: l.drop (i + 1).toNat := by
  obtain ⟨h, e⟩ := rd31_lt h0 h1
  rw [e, show (i + 1).toNat = i.toNat + 1 by omega, List.drop_eq_getElem_cons h]
theorem rd31_take {l : List S31} {i : Int} (h0 : 0 ≤ i) (h1 : i < l.length) : l.take (i + 1).toNat = l.take i.toNat ++ [rd_T31 l i] := by
  obtain ⟨h, e⟩ := rd31_lt h0 h1
  rw [e, show (i + 1).toNat = i.toNat + 1 by omega, List.take_succ_eq_append_getElem h]
theorem rd31_set_eq {l : List S31} {i : Int} {x : S31} (h0 : 0 ≤ i) (h1 : i < l.length) : rd_T31 (l.set i.toNat x) i = x := by
  simp [rd_T31, List.getD_eq_getElem?_getD, List.getElem?_set, show i.toNat < l.length by omega]
theorem rd31_set_ne {l : List S31} {i j : Int} {x : S31} (h0 : 0 ≤ i) (hj : 0 ≤ j) (h : i ≠ j) : rd_T31 (l.set i.toNat x) j = rd_T31 l j := by
  simp [rd_T31, List.getD_eq_getElem?_getD, List.getElem?_set, show ¬ i.toNat = j.toNat by omega]
theorem rd31_append_left {l m : List S31} {i : Int} (h0 : 0 ≤ i) (h1 : i < l.length) : rd_T31 (l ++ m) i = rd_T31 l i := by
  simp [rd_T31, List.getD_eq_getElem?_getD, List.getElem?_append_left (show i.toNat < l.length by omega)]
theorem rd31_last {l : List S31} {x : S31} : rd_T31 (l ++ [x]) (l.length : Int) = x := by
  simp [rd_T31, List.getD_eq_getElem?_getD]
theorem ext31 {l m : List S31} (h : l.length = m.length) (hr : ∀ i : Int, 0 ≤ i → i < l.length → rd_T31 l i = rd_T31 m i) : l = m := by
  apply List.ext_getElem h
  intro i h1 h2
  have := hr i (by omega) (by omega)
  simpa [rd_T31, List.getD_eq_getElem?_getD, List.getElem?_eq_getElem h1, List.getElem?_eq_getElem h2] using this
theorem mask_nat (x : Int) (i : Nat) (hi : i ≤ 62) : Go.bits .and .i64 x ((2 ^ i - 1 : Nat) : Int) = x % ((2 ^ i : Nat) : Int) := by
  have hp : 0 < 2 ^ i := Nat.two_pow_pos i
  have h62 : 2 ^ i ≤ 2 ^ 62 := Nat.pow_le_pow_right (by decide) hi
  have e62 : (2 : Nat) ^ 62 = 4611686018427387904 := by decide
  rw [e62] at h62
  have hm : (2 ^ i - 1) % 2 ^ 64 = 2 ^ i - 1 := Nat.mod_eq_of_lt (by have : (2:Nat)^64 = 18446744073709551616 := by decide
                                                                     omega)
  have hd : ((2 ^ i : Nat) : Int) ∣ 18446744073709551616 := by
    have : (2 : Nat) ^ i ∣ 2 ^ 64 := Nat.pow_dvd_pow 2 (by omega)
    have h2 : (2 : Nat) ^ 64 = 18446744073709551616 := by decide
    rw [h2] at this
    exact Int.natCast_dvd_natCast.2 this
  show IntKind.i64.wrap ((BitVec.ofInt 64 x &&& BitVec.ofInt 64 ((2 ^ i - 1 : Nat) : Int)).toNat : Int) = _
  rw [BitVec.toNat_and, BitVec.ofInt_natCast, BitVec.toNat_ofNat, hm, Nat.and_two_pow_sub_one_eq_mod, BitVec.toNat_ofInt, IntKind.wrap_i64]
  have hx : 0 ≤ x % 18446744073709551616 := Int.emod_nonneg _ (by decide)
  have e : (((x % ((2 ^ 64 : Nat) : Int)).toNat % 2 ^ i : Nat) : Int) = x % ((2 ^ i : Nat) : Int) := by
    rw [Int.natCast_emod, show (((2 ^ 64 : Nat) : Int)) = 18446744073709551616 by decide, Int.toNat_of_nonneg hx, Int.emod_emod_of_dvd _ hd]
  rw [e]
  have h1 := Int.emod_nonneg x (show ((2 ^ i : Nat) : Int) ≠ 0 by omega)
  have h2 := Int.emod_lt_of_pos x (show (0 : Int) < ((2 ^ i : Nat) : Int) by omega)
  generalize x % ((2 ^ i : Nat) : Int) = r at h1 h2 ⊢
  omega
theorem mask24 (x : Int) : Go.bits .and .i64 x 16777215 = x % 16777216 := mask_nat x 24 (by decide)
theorem mask16 (x : Int) : Go.bits .and .i64 x 65535 = x % 65536 := mask_nat x 16 (by decide)
theorem mask8 (x : Int) : Go.bits .and .i64 x 255 = x % 256 := mask_nat x 8 (by decide)
theorem mask30 (x : Int) : Go.bits .and .i64 x 1073741823 = x % 1073741824 := mask_nat x 30 (by decide)
/-! ### the drawn values: a place in the bytes that stays in its row, and values that stay in their range -/
/-- The cursor's place is in the row. -/
def InRow (c : List Int) (p : Int) : Prop := 0 ≤ p ∧ p ≤ (c.length : Int)
theorem new_loop (c : List Int) (hc : c.length ≤ 1048576) (d : Nat) : ∀ (s i : Int), 0 ≤ i → i ≤ 4000 → 4000 - i = d → ∃ r, ∀ k, d < k → spec_l1New.l0 k c s i = some (c, 0, r) := by
  induction d with
  | zero =>
    intro s i h0 h1 hd
    refine ⟨s, fun k hk => ?_⟩
    obtain ⟨k, rfl⟩ := pos_round (show 0 < k by omega)
    simp only [spec_l1New.l0]
    by_cases h : i < (c.length : Int)
    · rw [if_pos h, if_neg (by omega)]
    · rw [if_neg h]
  | succ d ih =>
    intro s i h0 h1 hd
    by_cases h : i < (c.length : Int)
    · obtain ⟨r, hr⟩ := ih (Go.bits .and .i64 (wrap64 ((wrap64 ((wrap64 (s * 131)) + (wrap64 (rd c i)))) + 7)) 1073741823) (i + 1) (by omega) (by omega) (by omega)
      refine ⟨r, fun k hk => ?_⟩
      obtain ⟨k, rfl⟩ := pos_round (show 0 < k by omega)
      simp only [spec_l1New.l0]
      rw [if_pos h, if_pos (by omega), if_pos h0, w64 (x := i + 1) (by omega) (by omega)]
      exact hr k (by omega)
    · refine ⟨s, fun k hk => ?_⟩
      obtain ⟨k, rfl⟩ := pos_round (show 0 < k by omega)
      simp only [spec_l1New.l0]
      rw [if_neg h]
theorem new_ok (c : List Int) (hc : c.length ≤ 1048576) : ∃ r, ∀ k, 4000 < k → spec_l1New.f k c = some (c, 0, r) := by
  obtain ⟨r, hr⟩ := new_loop c hc 4000 (wrap64 (59059 + (c.length : Int))) 0 (by omega) (by omega) (by omega)
  exact ⟨r, hr⟩
theorem byte_ok (c : List Int) (hc : c.length ≤ 1048576) {p : Int} (hp : InRow c p) (s : Int) : ∃ b p' s', spec_l1Byte.f c p s = some (b, p', s') ∧ 0 ≤ b ∧ b ≤ 255 ∧ InRow c p' := by
  unfold spec_l1Byte.f
  obtain ⟨h0, h1⟩ := hp
  by_cases h : p < (c.length : Int)
  · rw [if_pos h, if_pos h0, w64 (x := p + 1) (by omega) (by omega)]
    refine ⟨_, _, _, rfl, ?_, ?_, by constructor <;> omega⟩ <;> rw [mask8] <;> omega
  · rw [if_neg h]
    refine ⟨_, _, _, rfl, ?_, ?_, by constructor <;> omega⟩ <;> rw [mask8] <;> omega
theorem below_ok (c : List Int) (hc : c.length ≤ 1048576) {p : Int} (hp : InRow c p) (s : Int) (n : Int) : ∃ r p' s', spec_l1Below.f c p s n = some (r, p', s') ∧ 0 ≤ r ∧ (0 < n → r < n) ∧ (n ≤ 0 → r = 0) ∧ InRow c p' := by
  unfold spec_l1Below.f
  by_cases h : n ≤ 0
  · rw [if_pos h]
    exact ⟨0, p, s, rfl, by omega, by omega, fun _ => rfl, hp⟩
  · rw [if_neg h]
    by_cases h2 : n ≤ 256
    · obtain ⟨b, p1, s1, e, b0, b1, hp1⟩ := byte_ok c hc hp s
      rw [if_pos h2, e, Option.bind_some, if_neg (by omega)]
      refine ⟨_, _, _, rfl, ?_, ?_, fun _ => by omega, hp1⟩ <;> rw [tm b0]
      · exact Int.emod_nonneg _ (by omega)
      · intro _; exact Int.emod_lt_of_pos _ (by omega)
    · obtain ⟨b, p1, s1, e, b0, b1, hp1⟩ := byte_ok c hc hp s
      obtain ⟨b', p2, s2, e2, b0', b1', hp2⟩ := byte_ok c hc hp1 s1
      obtain ⟨b'', p3, s3, e3, b0'', b1'', hp3⟩ := byte_ok c hc hp2 s2
      obtain ⟨b3, p4, s4, e4, b03, b13, hp4⟩ := byte_ok c hc hp3 s3
      rw [if_neg h2, e, Option.bind_some]
      dsimp only
      rw [e2, Option.bind_some]
      dsimp only
      rw [e3, Option.bind_some]
      dsimp only
      rw [e4, Option.bind_some, if_neg (by omega)]
      dsimp only
      rw [w64 (x := b * 16777216) (by omega) (by omega), w64 (x := b' * 65536) (by omega) (by omega), w64 (x := b'' * 256) (by omega) (by omega), w64 (x := b * 16777216 + b' * 65536) (by omega) (by omega), w64 (x := b * 16777216 + b' * 65536 + b'' * 256) (by omega) (by omega), w64 (by omega) (by omega), tm (by omega)]
      exact ⟨_, _, _, rfl, Int.emod_nonneg _ (by omega), fun _ => Int.emod_lt_of_pos _ (by omega), fun _ => by omega, hp4⟩
/-! ### FnDelays -/
theorem implin_eq (a lo hi : Int) : impl_in.f a lo hi = some (impl_LegsOk.in1 a lo hi) := by
  unfold impl_in.f impl_LegsOk.in1
  by_cases c : lo ≤ a
  · rw [if_pos c, decide_eq_true c, Bool.true_and]
  · rw [if_neg c, decide_eq_false c, Bool.false_and]
theorem in1_yes {a lo hi : Int} (h0 : lo ≤ a) (h1 : a ≤ hi) : impl_LegsOk.in1 a lo hi = true := by
  unfold impl_LegsOk.in1
  rw [decide_eq_true h0, decide_eq_true h1]; rfl
theorem implLeg_ok (l : List S31) (hn : l.length ≤ 1048576) : impl_Leg.f l = some l := by
  unfold impl_Leg.f
  rw [if_pos (by omega), if_pos (by omega), Option.bind_some, if_pos (by simp; omega), List.nil_append]
theorem bad_no (x : S31) (h0 : 1 ≤ x.f0 ∧ x.f0 ≤ 100) (h1 : 0 ≤ x.f1 ∧ x.f1 ≤ 19) (h2 : 0 ≤ x.f2 ∧ x.f2 ≤ 19) (h3 : x.f1 ≠ x.f2) (h4 : 0 ≤ x.f3) (h5 : x.f3 < x.f4) (h6 : x.f4 ≤ 100000000) (h7 : 0 ≤ x.f5 ∧ x.f5 ≤ 1000000) : impl_LegsOk.bad x = false := by
  unfold impl_LegsOk.bad
  rw [in1_yes h0.1 h0.2, in1_yes h1.1 h1.2, in1_yes h2.1 h2.2, in1_yes h4 (by omega), in1_yes (show 0 ≤ x.f4 by omega) h6, in1_yes h7.1 h7.2, beq_eq_false_iff_ne.mpr h3, decide_eq_false (show ¬ x.f4 ≤ x.f3 by omega)]
  rfl
theorem last_idx (s : Int) (q : S31) : ∀ p : List S31, impl_LegsOk.last p s = some q → ∃ n : Nat, n < p.length ∧ p.getD n z31 = q ∧ q.f0 = s ∧ ∀ m : Nat, n < m → m < p.length → (p.getD m z31).f0 ≠ s
  | [], h => by cases h
  | x :: r, h => by
    cases hr : impl_LegsOk.last r s with
    | some y =>
      have h1 : impl_LegsOk.last (x :: r) s = some y := by
        show (match impl_LegsOk.last r s with | some y => some y | none => if x.f0 = s then some x else none) = _
        rw [hr]
      rw [h1] at h
      cases h
      obtain ⟨n, a, b, c, d⟩ := last_idx s q r hr
      refine ⟨n + 1, by simp; omega, by simpa using b, c, fun m hm hl => ?_⟩
      obtain ⟨m, rfl⟩ := pos_round (show 0 < m by omega)
      simpa using d m (by omega) (by simp at hl; omega)
    | none =>
      have hnone : ∀ (r : List S31), impl_LegsOk.last r s = none → ∀ m : Nat, m < r.length → (r.getD m z31).f0 ≠ s := by
        intro r
        induction r with
        | nil => intro _ m hm; simp at hm
        | cons y r ih =>
          intro he m hm
          have he' : (match impl_LegsOk.last r s with | some y => some y | none => if y.f0 = s then some y else none) = none := he
          cases h2 : impl_LegsOk.last r s with
          | some w => rw [h2] at he'; cases he'
          | none =>
            rw [h2] at he'
            by_cases c : y.f0 = s
            · have he2 : (if y.f0 = s then some y else none) = none := he'
              rw [if_pos c] at he2; cases he2
            · cases m with
              | zero => simpa using c
              | succ m => simpa using ih h2 m (by simp at hm; omega)
      have h1 : impl_LegsOk.last (x :: r) s = if x.f0 = s then some x else none := by
        show (match impl_LegsOk.last r s with | some y => some y | none => if x.f0 = s then some x else none) = _
        rw [hr]
      rw [h1] at h
      by_cases c : x.f0 = s
      · rw [if_pos c] at h
        cases h
        refine ⟨0, by simp, rfl, c, fun m hm hl => ?_⟩
        obtain ⟨m, rfl⟩ := pos_round (show 0 < m by omega)
        simpa using hnone r hr m (by simp at hl; omega)
      · rw [if_neg c] at h; cases h
theorem getD_take {l : List S31} {i n : Nat} (h : n < i) : (l.take i).getD n z31 = rd_T31 l (n : Int) := by
  simp [rd_T31, List.getD_eq_getElem?_getD, List.getElem?_take, h]
/-- A line that is right. -/
structure Right (l : List S31) : Prop where
  el : ∀ m : Int, 0 ≤ m → m < l.length → impl_LegsOk.bad (rd_T31 l m) = false
  ch : ∀ p q : Int, 0 ≤ p → p < q → q < l.length → (rd_T31 l p).f0 = (rd_T31 l q).f0 → (rd_T31 l p).f4 ≤ (rd_T31 l q).f3
  ln : ∀ p q : Int, 0 ≤ p → p < q → q < l.length → (rd_T31 l p).f0 = (rd_T31 l q).f0 → (∀ m : Int, p < m → m < q → (rd_T31 l m).f0 ≠ (rd_T31 l q).f0) → (rd_T31 l p).f2 = (rd_T31 l q).f1
theorem g_right (l : List S31) (h : Right l) : ∀ (n : Nat) (i : Int), 0 ≤ i → impl_LegsOk.g n l i = true := by
  intro n
  induction n with
  | zero => intro i h0; rfl
  | succ n ih =>
    intro i h0
    unfold impl_LegsOk.g
    by_cases c : i < (l.length : Int)
    · rw [if_pos c, h.el i h0 c, if_neg (by decide)]
      cases hl : impl_LegsOk.last (l.take i.toNat) (rd_T31 l i).f0 with
      | none => exact ih (i + 1) (by omega)
      | some q =>
        obtain ⟨m, a, b, e, d⟩ := last_idx _ _ _ hl
        have am : m < i.toNat := by simp at a; omega
        rw [getD_take am] at b
        subst b
        have h1 := h.ch (m : Int) i (by omega) (by omega) c e
        have h2 := h.ln (m : Int) i (by omega) (by omega) c e (fun t t0 t1 => by
          have := d t.toNat (by omega) (by simp; omega)
          rw [getD_take (by omega), show ((t.toNat : Nat) : Int) = t by omega] at this
          exact this)
        have hc : impl_LegsOk.clash (rd_T31 l (m : Int)) (rd_T31 l i) = false := by
          unfold impl_LegsOk.clash
          rw [bne_eq_false_iff_eq.mpr h2, decide_eq_false (by omega)]; rfl
        show (if impl_LegsOk.clash (rd_T31 l (m : Int)) (rd_T31 l i) = true then false else impl_LegsOk.g n l (i + 1)) = true
        rw [hc, if_neg (by decide)]
        exact ih (i + 1) (by omega)
    · rw [if_neg c]
theorem legs_right (l : List S31) (hn : l.length ≤ 60) (h : Right l) : impl_LegsOk.f l = some true := by
  unfold impl_LegsOk.f
  rw [if_neg (by omega), g_right l h _ 0 (by omega)]
/-- A line as it is drawn. -/
structure Dr (l : List S31) : Prop where
  len : l.length ≤ 12
  el : ∀ m : Int, 0 ≤ m → m < l.length → (1 ≤ (rd_T31 l m).f0 ∧ (rd_T31 l m).f0 ≤ 4) ∧ (0 ≤ (rd_T31 l m).f1 ∧ (rd_T31 l m).f1 ≤ 4) ∧ (0 ≤ (rd_T31 l m).f2 ∧ (rd_T31 l m).f2 ≤ 4) ∧ (rd_T31 l m).f1 ≠ (rd_T31 l m).f2 ∧ 0 ≤ (rd_T31 l m).f3 ∧ (rd_T31 l m).f3 < (rd_T31 l m).f4 ∧ (rd_T31 l m).f4 ≤ 400 ∧ (0 ≤ (rd_T31 l m).f5 ∧ (rd_T31 l m).f5 ≤ 20)
  ch : ∀ p q : Int, 0 ≤ p → p < q → q < l.length → (rd_T31 l p).f0 = (rd_T31 l q).f0 → (rd_T31 l p).f4 ≤ (rd_T31 l q).f3
  ln : ∀ p q : Int, 0 ≤ p → p < q → q < l.length → (rd_T31 l p).f0 = (rd_T31 l q).f0 → (∀ m : Int, p < m → m < q → (rd_T31 l m).f0 ≠ (rd_T31 l q).f0) → (rd_T31 l p).f2 = (rd_T31 l q).f1
theorem Dr.right {l : List S31} (h : Dr l) : Right l := ⟨fun m h0 h1 => by
  obtain ⟨a, b, c, d, e, f, g, i⟩ := h.el m h0 h1
  exact bad_no _ (by omega) (by omega) (by omega) d e f (by omega) (by omega), h.ch, h.ln⟩
/-- What is known of a service that is being drawn. -/
def St (l : List S31) (s port at' : Int) : Prop := ∀ p : Int, 0 ≤ p → p < l.length → s ≤ (rd_T31 l p).f0 ∧ ((rd_T31 l p).f0 = s → (rd_T31 l p).f4 ≤ at' ∧ ((∀ m : Int, p < m → m < l.length → (rd_T31 l m).f0 ≠ s) → (rd_T31 l p).f2 = port))
theorem dr_snoc {l : List S31} {s port at' : Int} (h : Dr l) (hs : St l s port at') (hl : l.length ≤ 11) (x : S31) (h0 : x.f0 = s) (hs1 : 1 ≤ s ∧ s ≤ 4) (h1 : x.f1 = port) (hp : 0 ≤ port ∧ port ≤ 4) (h2 : 0 ≤ x.f2 ∧ x.f2 ≤ 4) (hne : port ≠ x.f2) (h3 : at' ≤ x.f3) (ha : 0 ≤ at') (h4 : x.f3 < x.f4) (h5 : x.f4 ≤ 400) (h6 : 0 ≤ x.f5 ∧ x.f5 ≤ 20) :
    Dr (l ++ [x]) ∧ St (l ++ [x]) s x.f2 x.f4 := by
  have hlen : (l ++ [x]).length = l.length + 1 := by simp
  have rl : ∀ m : Int, 0 ≤ m → m < l.length → rd_T31 (l ++ [x]) m = rd_T31 l m := fun m a b => rd31_append_left a b
  have rx : rd_T31 (l ++ [x]) (l.length : Int) = x := rd31_last
  refine ⟨⟨by omega, fun m m0 m1 => ?_, fun p q p0 pq q1 e => ?_, fun p q p0 pq q1 e hm => ?_⟩, fun p p0 p1 => ?_⟩
  · by_cases c : m < l.length
    · rw [rl m m0 c]; exact h.el m m0 c
    · have : m = (l.length : Int) := by omega
      subst this
      rw [rx]
      exact ⟨by omega, by omega, h2, by omega, by omega, h4, h5, h6⟩
  · by_cases c : q < l.length
    · rw [rl p p0 (by omega), rl q (by omega) c] at *
      exact h.ch p q p0 pq c e
    · have : q = (l.length : Int) := by omega
      subst this
      rw [rl p p0 pq, rx] at e
      rw [rl p p0 pq, rx]
      have := ((hs p p0 pq).2 (by omega)).1
      omega
  · by_cases c : q < l.length
    · rw [rl p p0 (by omega), rl q (by omega) c] at e
      rw [rl p p0 (by omega), rl q (by omega) c]
      refine h.ln p q p0 pq c e (fun m m0 m1 => ?_)
      have := hm m m0 m1
      rw [rl m (by omega) (by omega), rl q (by omega) c] at this
      exact this
    · have : q = (l.length : Int) := by omega
      subst this
      rw [rl p p0 pq, rx] at e
      rw [rl p p0 pq, rx]
      rw [h1]
      refine ((hs p p0 pq).2 (by omega)).2 (fun m m0 m1 => ?_)
      have := hm m m0 m1
      rw [rl m (by omega) (by omega), rx, h0] at this
      exact this
  · by_cases c : p < l.length
    · rw [rl p p0 c]
      refine ⟨(hs p p0 c).1, fun e => ⟨?_, fun hm => ?_⟩⟩
      · have := ((hs p p0 c).2 e).1
        omega
      · have := hm (l.length : Int) c (by omega)
        rw [rx] at this
        exact absurd h0 this
    · have : p = (l.length : Int) := by omega
      subst this
      rw [rx]
      exact ⟨by omega, fun _ => ⟨by omega, fun _ => rfl⟩⟩
theorem drawL1 (c : List Int) (hc : c.length ≤ 1048576) (ports : Int) (hp : 3 ≤ ports ∧ ports ≤ 5) (s : Int) (hs1 : 1 ≤ s ∧ s ≤ 4) (W : Nat)
    (hW : ∀ (l : List S31) (p t : Int), Dr l → (l.length : Int) ≤ 3 * (5 - s) → (∀ m : Int, 0 ≤ m → m < l.length → s ≤ (rd_T31 l m).f0) → InRow c p → ∃ r p' t', Dr r ∧ ∀ k, W < k → spec_l22Draw.l0 k l ports (s - 1) c p t = some (r, p', t')) :
    ∀ (n : Nat) (l : List S31) (port at' p t : Int), n ≤ 3 → Dr l → St l s port at' → (l.length : Int) + n ≤ 3 * (5 - s) → 0 ≤ port → port < ports → 0 ≤ at' → at' + 60 * n ≤ 240 → InRow c p → ∃ r p' t', Dr r ∧ ∀ k, W + n + 1 < k → spec_l22Draw.l1 k l ports s port at' (n : Int) c p t = some (r, p', t') := by
  intro n
  induction n with
  | zero =>
    intro l port at' p t _ hd hst hl _ _ _ _ hi
    obtain ⟨r, p', t', a, b⟩ := hW l p t hd (by omega) (fun m m0 m1 => (hst m m0 m1).1) hi
    refine ⟨r, p', t', a, fun k hk => ?_⟩
    obtain ⟨k, rfl⟩ := pos_round (show 0 < k by omega)
    simp only [spec_l22Draw.l1]
    rw [if_neg (by omega), w64 (x := s - 1) (by omega) (by omega)]
    exact b k (by omega)
  | succ n ih =>
    intro l port at' p t hn hd hst hl hq0 hq1 ha0 ha1 hi
    obtain ⟨r1, p1, t1, e1, a1, b1, _, i1⟩ := below_ok c hc hi t (ports - 1)
    obtain ⟨r2, p2, t2, e2, a2, b2, _, i2⟩ := below_ok c hc i1 t1 20
    obtain ⟨r3, p3, t3, e3, a3, b3, _, i3⟩ := below_ok c hc i2 t2 20
    obtain ⟨r4, p4, t4, e4, a4, b4, _, i4⟩ := below_ok c hc i3 t3 30
    have b1 := b1 (by omega)
    have b2 := b2 (by omega)
    have b3 := b3 (by omega)
    have b4 := b4 (by omega)
    obtain ⟨tz, hto⟩ : ∃ tz, Int.tmod (port + 1 + r1) ports = tz := ⟨_, rfl⟩
    have htm : tz = (port + 1 + r1) % ports := by rw [← hto, tm (by omega)]
    have t0 : 0 ≤ tz := by rw [htm]; exact Int.emod_nonneg _ (by omega)
    have t1' : tz < ports := by rw [htm]; exact Int.emod_lt_of_pos _ (by omega)
    have tne : port ≠ tz := by
      rw [htm]
      rcases (show ports = 3 ∨ ports = 4 ∨ ports = 5 by omega) with h | h | h <;> subst h <;> omega
    obtain ⟨D1, D2⟩ := dr_snoc hd hst (by omega) (⟨s, port, tz, at' + r2, at' + r2 + 1 + r4, r3⟩ : S31) rfl hs1 rfl (by omega) ⟨t0, by show tz ≤ 4; omega⟩ tne (by show at' ≤ at' + r2; omega) ha0 (by show at' + r2 < at' + r2 + 1 + r4; omega) (by show at' + r2 + 1 + r4 ≤ 400; omega) ⟨a3, by show r3 ≤ 20; omega⟩
    obtain ⟨r, p', t', u, v⟩ := ih (l ++ [(⟨s, port, tz, at' + r2, at' + r2 + 1 + r4, r3⟩ : S31)]) tz (at' + r2 + 1 + r4) p4 t4 (by omega) D1 D2 (by simp; omega) t0 t1' (by omega) (by omega) i4
    refine ⟨r, p', t', u, fun k hk => ?_⟩
    obtain ⟨k, rfl⟩ := pos_round (show 0 < k by omega)
    simp only [spec_l22Draw.l1]
    rw [if_pos (by omega), w64 (x := ports - 1) (by omega) (by omega), e1, Option.bind_some]
    dsimp only
    rw [if_neg (by omega), e2, Option.bind_some]
    dsimp only
    rw [e3, Option.bind_some]
    dsimp only
    rw [e4, Option.bind_some]
    dsimp only
    rw [if_pos (by omega), w64 (x := port + 1) (by omega) (by omega), w64 (x := port + 1 + r1) (by omega) (by omega), hto, w64 (x := at' + r2) (by omega) (by omega), w64 (x := at' + r2 + 1) (by omega) (by omega), w64 (x := at' + r2 + 1 + r4) (by omega) (by omega), w64 (x := ((n + 1 : Nat) : Int) - 1) (by omega) (by omega), show ((n + 1 : Nat) : Int) - 1 = (n : Int) by omega]
    exact v k (by omega)
theorem drawL0 (c : List Int) (hc : c.length ≤ 1048576) (ports : Int) (hp : 3 ≤ ports ∧ ports ≤ 5) : ∀ (n : Nat) (l : List S31) (p t : Int), n ≤ 4 → Dr l → (l.length : Int) ≤ 3 * (4 - n) → (∀ m : Int, 0 ≤ m → m < l.length → (n : Int) + 1 ≤ (rd_T31 l m).f0) → InRow c p →
    ∃ r p' t', Dr r ∧ ∀ k, 6 * n < k → spec_l22Draw.l0 k l ports (n : Int) c p t = some (r, p', t') := by
  intro n
  induction n with
  | zero =>
    intro l p t _ hd hl hs hi
    refine ⟨l, p, t, hd, fun k hk => ?_⟩
    obtain ⟨k, rfl⟩ := pos_round (show 0 < k by omega)
    simp only [spec_l22Draw.l0]
    rw [if_neg (by omega)]
  | succ n ih =>
    intro l p t hn hd hl hs hi
    obtain ⟨r1, p1, t1, e1, a1, b1, _, i1⟩ := below_ok c hc hi t ports
    obtain ⟨r2, p2, t2, e2, a2, b2, _, i2⟩ := below_ok c hc i1 t1 40
    obtain ⟨r3, p3, t3, e3, a3, b3, _, i3⟩ := below_ok c hc i2 t2 4
    have b1 := b1 (by omega)
    have b2 := b2 (by omega)
    have b3 := b3 (by omega)
    obtain ⟨r, p', t', u, v⟩ := drawL1 c hc ports hp ((n + 1 : Nat) : Int) (by omega) (6 * n) (fun l p t hd hl hs hi => by
      rw [show ((n + 1 : Nat) : Int) - 1 = (n : Int) by omega]
      exact ih l p t (by omega) hd (by omega) (fun m m0 m1 => by have := hs m m0 m1; omega) hi) r3.toNat l r1 r2 p3 t3 (by omega) hd (fun m m0 m1 => ⟨by have := hs m m0 m1; omega, fun e => by have := hs m m0 m1; omega⟩) (by omega) a1 b1 a2 (by omega) i3
    refine ⟨r, p', t', u, fun k hk => ?_⟩
    obtain ⟨k, rfl⟩ := pos_round (show 0 < k by omega)
    simp only [spec_l22Draw.l0]
    rw [if_pos (by omega), e1, Option.bind_some]
    dsimp only
    rw [e2, Option.bind_some]
    dsimp only
    rw [e3, Option.bind_some]
    dsimp only
    have v' := v k (by omega)
    rw [show ((r3.toNat : Nat) : Int) = r3 by omega] at v'
    exact v'
theorem draw_ok (c : List Int) (hc : c.length ≤ 1048576) : ∃ l, Dr l ∧ ∀ k, 4000 < k → spec_DrawLegs.f k c = some l := by
  obtain ⟨t, ht⟩ := new_ok c hc
  obtain ⟨r1, p1, t1, e1, a1, b1, _, i1⟩ := below_ok c hc (show InRow c 0 from ⟨by omega, by omega⟩) t 3
  obtain ⟨r2, p2, t2, e2, a2, b2, _, i2⟩ := below_ok c hc i1 t1 4
  have b1 := b1 (by omega)
  have b2 := b2 (by omega)
  obtain ⟨r, p', t', u, v⟩ := drawL0 c hc (3 + r1) (by omega) (1 + r2).toNat [] p2 t2 (by omega) ⟨by simp, fun m a b => by simp at b; omega, fun p q a b d => by simp at d; omega, fun p q a b d => by simp at d; omega⟩ (by simp; omega) (fun m a b => by simp at b; omega) i2
  refine ⟨r, u, fun k hk => ?_⟩
  unfold spec_DrawLegs.f spec_l22Draw.f
  rw [ht k hk, Option.bind_some]
  dsimp only
  rw [e1, Option.bind_some]
  dsimp only
  rw [e2, Option.bind_some]
  dsimp only
  have v' := v k (by omega)
  rw [show (((1 + r2).toNat : Nat) : Int) = 1 + r2 by omega] at v'
  rw [w64 (x := 3 + r1) (by omega) (by omega), w64 (x := 1 + r2) (by omega) (by omega), v', Option.bind_some]
/-! ### what a delay makes of a line -/
/-- y is l, with each leg d later; at', t: what the delay said; z: nothing is delayed. -/
structure Inv (l y : List S31) (a by' t : Int) (i j : Int) : Prop where
  len : y.length = l.length
  sh : ∀ m : Int, 0 ≤ m → m < l.length → ∃ d : Int, 0 ≤ d ∧ d ≤ 255 + 20 * m ∧ (by' = 0 → t = 0 → d = 0) ∧ (m = a → d = by') ∧ (d ≠ 0 → a ≤ m ∧ m < i ∧ (rd_T31 l m).f0 = (rd_T31 l a).f0) ∧
    rd_T31 y m = ⟨(rd_T31 l m).f0, (rd_T31 l m).f1, (rd_T31 l m).f2, (rd_T31 l m).f3 + d, (rd_T31 l m).f4 + d, (rd_T31 l m).f5⟩
  jj : a ≤ j ∧ j < i ∧ (rd_T31 l j).f0 = (rd_T31 l a).f0 ∧ ∀ m : Int, j < m → m < i → (rd_T31 l m).f0 ≠ (rd_T31 l a).f0
  ch : ∀ p q : Int, 0 ≤ p → p < q → q < i → (rd_T31 l p).f0 = (rd_T31 l q).f0 → (rd_T31 y p).f4 ≤ (rd_T31 y q).f3
theorem inv_plain {l y : List S31} {a by' t i j : Int} (h : Inv l y a by' t i j) (m : Int) (m0 : 0 ≤ m) (m1 : m < l.length) (hm : i ≤ m ∨ (rd_T31 l m).f0 ≠ (rd_T31 l a).f0) : rd_T31 y m = rd_T31 l m := by
  obtain ⟨d, d0, d1, d2, d3, d4, d5⟩ := h.sh m m0 m1
  have : d = 0 := by
    refine Classical.byContradiction fun c => ?_
    have := d4 c
    rcases hm with e | e
    · omega
    · exact e this.2.2
  subst this
  rw [d5, Int.add_zero, Int.add_zero]
theorem set_twice (l : List S31) (i : Int) (h0 : 0 ≤ i) (h1 : i < l.length) (u v : Int) :
    (l.set (i : Int).toNat (⟨(rd_T31 l i).f0, (rd_T31 l i).f1, (rd_T31 l i).f2, u, (rd_T31 l i).f4, (rd_T31 l i).f5⟩ : S31)).set (i : Int).toNat
      (⟨(rd_T31 (l.set (i : Int).toNat (⟨(rd_T31 l i).f0, (rd_T31 l i).f1, (rd_T31 l i).f2, u, (rd_T31 l i).f4, (rd_T31 l i).f5⟩ : S31)) i).f0, (rd_T31 (l.set (i : Int).toNat (⟨(rd_T31 l i).f0, (rd_T31 l i).f1, (rd_T31 l i).f2, u, (rd_T31 l i).f4, (rd_T31 l i).f5⟩ : S31)) i).f1, (rd_T31 (l.set (i : Int).toNat (⟨(rd_T31 l i).f0, (rd_T31 l i).f1, (rd_T31 l i).f2, u, (rd_T31 l i).f4, (rd_T31 l i).f5⟩ : S31)) i).f2, (rd_T31 (l.set (i : Int).toNat (⟨(rd_T31 l i).f0, (rd_T31 l i).f1, (rd_T31 l i).f2, u, (rd_T31 l i).f4, (rd_T31 l i).f5⟩ : S31)) i).f3, wrap64 (((rd_T31 (l.set (i : Int).toNat (⟨(rd_T31 l i).f0, (rd_T31 l i).f1, (rd_T31 l i).f2, u, (rd_T31 l i).f4, (rd_T31 l i).f5⟩ : S31)) i).f4) + v), (rd_T31 (l.set (i : Int).toNat (⟨(rd_T31 l i).f0, (rd_T31 l i).f1, (rd_T31 l i).f2, u, (rd_T31 l i).f4, (rd_T31 l i).f5⟩ : S31)) i).f5⟩ : S31)
    = l.set (i : Int).toNat (⟨(rd_T31 l i).f0, (rd_T31 l i).f1, (rd_T31 l i).f2, u, wrap64 ((rd_T31 l i).f4 + v), (rd_T31 l i).f5⟩ : S31) := by
  rw [rd31_set_eq h0 h1, List.set_set]
theorem delay_loop (l : List S31) (hD : Dr l) (a by' t : Int) (ha0 : 0 ≤ a) (ha1 : a < l.length) (ht : 0 ≤ t ∧ t ≤ 19) (hb : 0 ≤ by' ∧ by' ≤ 255) : ∀ (d : Nat) (y : List S31) (i j : Int), Inv l y a by' t i j → i ≤ l.length → (l.length : Int) - i = d →
    ∃ (y' : List S31) (j' : Int), Inv l y' a by' t (l.length : Int) j' ∧ ∀ k, d < k → impl_Delay.l0 k a t y j i = (impl_LegsOk.f y').bind fun t120 => (if t120 = true then (some (y', true)) else (some (([] : List (S31)), false))) := by
  intro d
  have hlen := hD.len
  induction d with
  | zero =>
    intro y i j h hi hd
    have hii : i = (l.length : Int) := by omega
    refine ⟨y, j, hii ▸ h, fun k hk => ?_⟩
    obtain ⟨k, rfl⟩ := pos_round (show 0 < k by omega)
    simp only [impl_Delay.l0]
    have := h.len
    rw [if_neg (by omega)]
  | succ d ih =>
    intro y i j h hi hd
    have hyl := h.len
    obtain ⟨j0, j1, j2, j3⟩ := h.jj
    have hi0 : 0 ≤ i := by omega
    have hi1 : i < l.length := by omega
    have hw : wrap64 (i + 1) = i + 1 := w64 (by omega) (by omega)
    have yi : rd_T31 y i = rd_T31 l i := inv_plain h i hi0 hi1 (Or.inl (Int.le_refl _))
    have ya0 : (rd_T31 y a).f0 = (rd_T31 l a).f0 := by
      obtain ⟨d, _, _, _, _, _, d5⟩ := h.sh a ha0 ha1
      rw [d5]
    have g1 : i < (y.length : Int) := by omega
    have g2 : a < (y.length : Int) := by omega
    have g3 : 0 ≤ j := by omega
    have g4 : j < (y.length : Int) := by omega
    obtain ⟨_, _, _, _, ei3, ei4, ei5, _⟩ := hD.el i hi0 hi1
    obtain ⟨_, _, _, _, ej3, ej4, ej5, _⟩ := hD.el j g3 (by omega)
    obtain ⟨dj, dj0, dj1, dj2, dj3, dj4, dj5⟩ := h.sh j g3 (by omega)
    have yj4 : (rd_T31 y j).f4 = (rd_T31 l j).f4 + dj := by rw [dj5]
    have yj3 : (rd_T31 y j).f3 = (rd_T31 l j).f3 + dj := by rw [dj5]
    have lji : (rd_T31 l i).f0 = (rd_T31 l a).f0 → (rd_T31 l j).f4 ≤ (rd_T31 l i).f3 := fun e => hD.ch j i g3 j1 hi1 (by rw [j2, e])
    -- the chain for the new index
    have chain : (rd_T31 l i).f0 = (rd_T31 l a).f0 → ∀ p : Int, 0 ≤ p → p < i → (rd_T31 l p).f0 = (rd_T31 l i).f0 → (rd_T31 y p).f4 ≤ (rd_T31 y j).f4 := fun e p p0 p1 ep => by
      by_cases c : p = j
      · subst c; exact Int.le_refl _
      · have hpj : p < j := by
          refine Classical.byContradiction fun hc => ?_
          exact j3 p (by omega) p1 (by rw [ep, e])
        have := h.ch p j p0 hpj j1 (by rw [ep, e, j2])
        omega
    by_cases c : (rd_T31 l i).f0 = (rd_T31 l a).f0
    · by_cases c2 : (rd_T31 y j).f4 + t - (rd_T31 l i).f3 > 0
      · obtain ⟨m, hm⟩ : ∃ m, (rd_T31 y j).f4 + t - (rd_T31 l i).f3 = m := ⟨_, rfl⟩
        have hlj := lji c
        obtain ⟨y2, hy2⟩ : ∃ y2, y.set (i : Int).toNat (⟨(rd_T31 y i).f0, (rd_T31 y i).f1, (rd_T31 y i).f2, (rd_T31 y i).f3 + m, (rd_T31 y i).f4 + m, (rd_T31 y i).f5⟩ : S31) = y2 := ⟨_, rfl⟩
        have y2i : rd_T31 y2 i = ⟨(rd_T31 l i).f0, (rd_T31 l i).f1, (rd_T31 l i).f2, (rd_T31 l i).f3 + m, (rd_T31 l i).f4 + m, (rd_T31 l i).f5⟩ := by
          rw [← hy2, rd31_set_eq hi0 g1, yi]
        have y2o : ∀ p : Int, 0 ≤ p → p ≠ i → rd_T31 y2 p = rd_T31 y p := fun p p0 pe => by rw [← hy2, rd31_set_ne hi0 p0 (Ne.symm pe)]
        have hinv : Inv l y2 a by' t (i + 1) i := by
          refine ⟨by rw [← hy2]; simpa using hyl, fun p p0 p1 => ?_, ⟨by omega, by omega, c, fun p a1 a2 => by omega⟩, fun p q p0 pq q1 e => ?_⟩
          · by_cases pe : p = i
            · subst pe
              refine ⟨m, by omega, by omega, fun z1 z2 => by have := dj2 z1 z2; omega, fun e => by omega, fun _ => ⟨by omega, by omega, c⟩, y2i⟩
            · obtain ⟨d, d0, d1, d2, d3, d4, d5⟩ := h.sh p p0 p1
              exact ⟨d, d0, d1, d2, d3, fun e => by have := d4 e; exact ⟨this.1, by omega, this.2.2⟩, by rw [y2o p p0 pe]; exact d5⟩
          · by_cases qe : q = i
            · subst qe
              rw [y2o p p0 (by omega), y2i]
              have := chain c p p0 pq e
              show _ ≤ (rd_T31 l q).f3 + m
              omega
            · rw [y2o p p0 (by omega), y2o q (by omega) qe]
              exact h.ch p q p0 pq (by omega) e
        obtain ⟨y', j', r0, r1⟩ := ih y2 (i + 1) i hinv (by omega) (by omega)
        refine ⟨y', j', r0, fun k hk => ?_⟩
        obtain ⟨k, rfl⟩ := pos_round (show 0 < k by omega)
        have w1 : wrap64 (wrap64 ((rd_T31 y j).f4 + t) - (rd_T31 y i).f3) = m := by
          rw [w64 (x := (rd_T31 y j).f4 + t) (by omega) (by omega), yi, w64 (by omega) (by omega)]; omega
        have w3 : wrap64 ((rd_T31 y i).f3 + m) = (rd_T31 y i).f3 + m := by rw [yi]; exact w64 (by omega) (by omega)
        have w4 : wrap64 ((rd_T31 y i).f4 + m) = (rd_T31 y i).f4 + m := by rw [yi]; exact w64 (by omega) (by omega)
        have e0 : (rd_T31 y i).f0 = (rd_T31 y a).f0 := by rw [yi, c, ya0]
        have e1 : m > 0 := by omega
        simp only [impl_Delay.l0, if_pos g1, if_pos hi0, if_pos ha0, if_pos g2, if_pos e0, if_pos g3, if_pos g4, w1, if_pos e1, Option.bind_some]
        rw [set_twice y i hi0 g1, w3, w4, hy2, hw]
        exact r1 k (by omega)
      · have hinv : Inv l y a by' t (i + 1) i := by
          refine ⟨hyl, fun p p0 p1 => ?_, ⟨by omega, by omega, c, fun p a1 a2 => by omega⟩, fun p q p0 pq q1 e => ?_⟩
          · obtain ⟨d, d0, d1, d2, d3, d4, d5⟩ := h.sh p p0 p1
            exact ⟨d, d0, d1, d2, d3, fun e => by have := d4 e; exact ⟨this.1, by omega, this.2.2⟩, d5⟩
          · by_cases qe : q = i
            · subst qe
              have := chain c p p0 pq e
              rw [yi]
              omega
            · exact h.ch p q p0 pq (by omega) e
        obtain ⟨y', j', r0, r1⟩ := ih y (i + 1) i hinv (by omega) (by omega)
        refine ⟨y', j', r0, fun k hk => ?_⟩
        obtain ⟨k, rfl⟩ := pos_round (show 0 < k by omega)
        have w1 : wrap64 (wrap64 ((rd_T31 y j).f4 + t) - (rd_T31 y i).f3) = (rd_T31 y j).f4 + t - (rd_T31 l i).f3 := by
          rw [w64 (x := (rd_T31 y j).f4 + t) (by omega) (by omega), yi, w64 (by omega) (by omega)]
        have e0 : (rd_T31 y i).f0 = (rd_T31 y a).f0 := by rw [yi, c, ya0]
        simp only [impl_Delay.l0, if_pos g1, if_pos hi0, if_pos ha0, if_pos g2, if_pos e0, if_pos g3, if_pos g4, w1, if_neg c2, hw]
        exact r1 k (by omega)
    · have hinv : Inv l y a by' t (i + 1) j := by
        refine ⟨hyl, fun p p0 p1 => ?_, ⟨by omega, by omega, j2, fun p a1 a2 => ?_⟩, fun p q p0 pq q1 e => ?_⟩
        · obtain ⟨d, d0, d1, d2, d3, d4, d5⟩ := h.sh p p0 p1
          exact ⟨d, d0, d1, d2, d3, fun e => by have := d4 e; exact ⟨this.1, by omega, this.2.2⟩, d5⟩
        · by_cases pe : p = i
          · subst pe; exact c
          · exact j3 p a1 (by omega)
        · by_cases qe : q = i
          · subst qe
            rw [yi, inv_plain h p p0 (by omega) (Or.inr (by rw [e]; exact c))]
            exact hD.ch p q p0 pq hi1 e
          · exact h.ch p q p0 pq (by omega) e
      obtain ⟨y', j', r0, r1⟩ := ih y (i + 1) j hinv (by omega) (by omega)
      refine ⟨y', j', r0, fun k hk => ?_⟩
      obtain ⟨k, rfl⟩ := pos_round (show 0 < k by omega)
      have e0 : ¬ (rd_T31 y i).f0 = (rd_T31 y a).f0 := by rw [yi, ya0]; exact c
      simp only [impl_Delay.l0, if_pos g1, if_pos hi0, if_pos ha0, if_pos g2, if_neg e0, hw]
      exact r1 k (by omega)
theorem inv_right {l y : List S31} (hD : Dr l) {a by' t j : Int} (h : Inv l y a by' t (l.length : Int) j) : Right y := by
  have hl := h.len
  have hn := hD.len
  refine ⟨fun m m0 m1 => ?_, fun p q p0 pq q1 e => ?_, fun p q p0 pq q1 e hm => ?_⟩
  · obtain ⟨d, d0, d1, _, _, _, d5⟩ := h.sh m m0 (by omega)
    obtain ⟨e0, e1, e2, e3, e4, e5, e6, e7⟩ := hD.el m m0 (by omega)
    rw [d5]
    refine bad_no _ ?_ ?_ ?_ e3 ?_ ?_ ?_ ?_ <;> dsimp only <;> omega
  · obtain ⟨_, _, _, _, _, _, dp⟩ := h.sh p p0 (by omega)
    obtain ⟨_, _, _, _, _, _, dq⟩ := h.sh q (by omega) (by omega)
    refine h.ch p q p0 pq (by omega) ?_
    rw [dp, dq] at e
    exact e
  · obtain ⟨_, _, _, _, _, _, dp⟩ := h.sh p p0 (by omega)
    obtain ⟨_, _, _, _, _, _, dq⟩ := h.sh q (by omega) (by omega)
    rw [dp, dq] at e
    rw [dp, dq]
    refine hD.ln p q p0 pq (by omega) e (fun m m0 m1 => ?_)
    obtain ⟨_, _, _, _, _, _, dm⟩ := h.sh m (by omega) (by omega)
    have := hm m m0 m1
    rw [dm, dq] at this
    exact this
theorem delay_ok (l : List S31) (hD : Dr l) (a by' t : Int) (ha0 : 0 ≤ a) (ha1 : a < l.length) (ht : 0 ≤ t ∧ t ≤ 19) (hb : 0 ≤ by' ∧ by' ≤ 255) :
    ∃ (y : List S31) (j : Int), Inv l y a by' t (l.length : Int) j ∧ ∀ k, 20 < k → impl_Delay.f k l a by' t = some (y, true) := by
  have hn := hD.len
  obtain ⟨_, _, _, _, ea3, ea4, ea5, _⟩ := hD.el a ha0 ha1
  obtain ⟨y2, hy2⟩ : ∃ y2, l.set (a : Int).toNat (⟨(rd_T31 l a).f0, (rd_T31 l a).f1, (rd_T31 l a).f2, (rd_T31 l a).f3 + by', (rd_T31 l a).f4 + by', (rd_T31 l a).f5⟩ : S31) = y2 := ⟨_, rfl⟩
  have y2a : rd_T31 y2 a = ⟨(rd_T31 l a).f0, (rd_T31 l a).f1, (rd_T31 l a).f2, (rd_T31 l a).f3 + by', (rd_T31 l a).f4 + by', (rd_T31 l a).f5⟩ := by rw [← hy2, rd31_set_eq ha0 ha1]
  have y2o : ∀ p : Int, 0 ≤ p → p ≠ a → rd_T31 y2 p = rd_T31 l p := fun p p0 pe => by rw [← hy2, rd31_set_ne ha0 p0 (Ne.symm pe)]
  have hinv : Inv l y2 a by' t (a + 1) a := by
    refine ⟨by rw [← hy2]; simp, fun p p0 p1 => ?_, ⟨by omega, by omega, rfl, fun p a1 a2 => by omega⟩, fun p q p0 pq q1 e => ?_⟩
    · by_cases pe : p = a
      · subst pe
        exact ⟨by', hb.1, by omega, fun z _ => z, fun _ => rfl, fun _ => ⟨by omega, by omega, rfl⟩, y2a⟩
      · exact ⟨0, by omega, by omega, fun _ _ => rfl, fun e => absurd e pe, fun e => absurd rfl e, by rw [y2o p p0 pe, Int.add_zero, Int.add_zero]⟩
    · have := hD.ch p q p0 pq (by omega) e
      by_cases qe : q = a
      · subst qe
        rw [y2o p p0 (by omega), y2a]
        show _ ≤ (rd_T31 l q).f3 + by'
        omega
      · rw [y2o p p0 (by omega), y2o q (by omega) qe]
        exact this
  obtain ⟨y, j, r0, r1⟩ := delay_loop l hD a by' t ha0 ha1 ht hb (l.length - (a + 1).toNat) y2 (a + 1) a hinv (by omega) (by omega)
  refine ⟨y, j, r0, fun k hk => ?_⟩
  obtain ⟨k, rfl⟩ := pos_round (show 0 < k by omega)
  have hw : wrap64 ((l.length : Int) - 1) = (l.length : Int) - 1 := w64 (by omega) (by omega)
  have hi0 := in1_yes ha0 (show a ≤ (l.length : Int) - 1 by omega)
  have hi1 := in1_yes hb.1 (show by' ≤ 10000 by omega)
  have hi2 := in1_yes ht.1 (show t ≤ 1000 by omega)
  have w3 : wrap64 ((rd_T31 l a).f3 + by') = (rd_T31 l a).f3 + by' := w64 (by omega) (by omega)
  have w4 : wrap64 ((rd_T31 l a).f4 + by') = (rd_T31 l a).f4 + by' := w64 (by omega) (by omega)
  unfold impl_Delay.f
  rw [legs_right l (by omega) hD.right, Option.bind_some, if_pos rfl, hw, implin_eq, hi0, Option.bind_some, if_pos rfl, implin_eq, hi1, Option.bind_some, if_pos rfl, implin_eq, hi2, Option.bind_some]
  simp only [impl_Delay.j0, Bool.not_true, Bool.false_eq_true, if_false, implLeg_ok l (by omega), Option.bind_some, if_pos ha0, if_pos ha1]
  rw [set_twice l a ha0 ha1, w3, w4, hy2, w64 (x := a + 1) (by omega) (by omega), r1 k (by omega), legs_right y (by have := r0.len; omega) (inv_right hD r0), Option.bind_some, if_pos rfl]
/-! ### what is missed, what is loaded -/
theorem ownInt_ok (l : List Int) (hn : l.length ≤ 1048576) : impl_own_int.f l = some l := by
  unfold impl_own_int.f
  rw [if_pos (by omega), if_pos (by omega), Option.bind_some, if_pos (by simp; omega), List.nil_append]
def Alike (l m : List S31) : Prop := ∀ i : Int, 0 ≤ i → i < l.length → (rd_T31 m i).f0 = (rd_T31 l i).f0 ∧ (rd_T31 m i).f1 = (rd_T31 l i).f1 ∧ (rd_T31 m i).f2 = (rd_T31 l i).f2 ∧ (rd_T31 m i).f5 = (rd_T31 l i).f5
theorem miss_l2 (l m : List S31) (c : Int) (hm : m.length = l.length) (hn : l.length ≤ 60) (hs : Alike l m) (i : Int) (h0 : 0 ≤ i) (h1 : i < l.length) (W : Nat)
    (hW : ∀ out : List Int, out.length ≤ 60 * i.toNat + 60 → (m = l → out = []) → ∃ res : List Int, (m = l → res = []) ∧ ∀ k, W < k → impl_Missed.l1 k l m c out l (l.length : Int) (i + 1) = some (res, true)) :
    ∀ (d : Nat) (j : Int) (out : List Int), 0 ≤ j → j ≤ l.length → (l.length : Int) - j = d → out.length ≤ 60 * i.toNat + j.toNat → (m = l → out = []) →
    ∃ res : List Int, (m = l → res = []) ∧ ∀ k, W + d + 1 < k → impl_Missed.l2 k l m c out i l (l.length : Int) i l (l.length : Int) j (rd_T31 l i).f0 (rd_T31 l i).f1 (rd_T31 l i).f2 (rd_T31 l i).f3 (rd_T31 l i).f4 (rd_T31 l i).f5 = some (res, true) := by
  intro d
  have hwi : wrap64 (i + 1) = i + 1 := w64 (by omega) (by omega)
  induction d with
  | zero =>
    intro j out hj hjn hd ho hz
    obtain ⟨res, r0, r1⟩ := hW out (by omega) hz
    refine ⟨res, r0, fun k hk => ?_⟩
    obtain ⟨k, rfl⟩ := pos_round (show 0 < k by omega)
    have pj : ¬ j < (l.length : Int) := by omega
    simp only [impl_Missed.l2, if_neg pj, hwi]
    exact r1 k (by omega)
  | succ d ih =>
    intro j out hj hjn hd ho hz
    have hwj : wrap64 (j + 1) = j + 1 := w64 (by omega) (by omega)
    have pj : j < (l.length : Int) := by omega
    have po : out.length < 17592186044416 := by omega
    obtain ⟨si0, si1, si2, _⟩ := hs i h0 h1
    obtain ⟨sj0, sj1, sj2, _⟩ := hs j hj pj
    obtain ⟨res, r0, r1⟩ := ih (j + 1) out (by omega) (by omega) (by omega) (by omega) hz
    by_cases e0 : (rd_T31 l i).f0 = (rd_T31 l j).f0
    · refine ⟨res, r0, fun k hk => ?_⟩
      obtain ⟨k, rfl⟩ := pos_round (show 0 < k by omega)
      simp only [impl_Missed.l2, if_pos pj, if_pos hj, if_pos e0, hwj]
      exact r1 k (by omega)
    · by_cases e1 : (rd_T31 l i).f2 = (rd_T31 l j).f1
      · by_cases e2 : wrap64 ((rd_T31 l i).f4 + c) ≤ (rd_T31 l j).f3
        · by_cases e3 : wrap64 ((rd_T31 m i).f4 + c) ≤ (rd_T31 m j).f3
          · refine ⟨res, r0, fun k hk => ?_⟩
            obtain ⟨k, rfl⟩ := pos_round (show 0 < k by omega)
            simp only [impl_Missed.l2, impl_changes.f, hm, si0, si1, si2, sj0, sj1, sj2, if_pos pj, if_pos hj, if_pos h0, if_pos h1, if_neg e0, if_pos e1, decide_eq_true e2, decide_eq_true e3, Option.bind_some, if_true, hwj]
            exact r1 k (by omega)
          · obtain ⟨res, r0, r1⟩ := ih (j + 1) (out ++ [wrap64 ((wrap64 (i * (l.length : Int))) + j)]) (by omega) (by omega) (by omega) (by simp; omega) (fun e => by subst e; exact absurd e2 e3)
            refine ⟨res, r0, fun k hk => ?_⟩
            obtain ⟨k, rfl⟩ := pos_round (show 0 < k by omega)
            simp only [impl_Missed.l2, impl_changes.f, hm, si0, si1, si2, sj0, sj1, sj2, if_pos pj, if_pos hj, if_pos h0, if_pos h1, if_neg e0, if_pos e1, decide_eq_true e2, decide_eq_false e3, Option.bind_some, if_true, if_pos po, Bool.false_eq_true, if_false, hwj]
            exact r1 k (by omega)
        · refine ⟨res, r0, fun k hk => ?_⟩
          obtain ⟨k, rfl⟩ := pos_round (show 0 < k by omega)
          simp only [impl_Missed.l2, impl_changes.f, if_pos pj, if_pos hj, if_neg e0, if_pos e1, decide_eq_false e2, Option.bind_some, Bool.false_eq_true, if_false, hwj]
          exact r1 k (by omega)
      · refine ⟨res, r0, fun k hk => ?_⟩
        obtain ⟨k, rfl⟩ := pos_round (show 0 < k by omega)
        simp only [impl_Missed.l2, impl_changes.f, if_pos pj, if_pos hj, if_neg e0, if_neg e1, Option.bind_some, Bool.false_eq_true, if_false, hwj]
        exact r1 k (by omega)
theorem miss_l1 (l m : List S31) (c : Int) (hm : m.length = l.length) (hn : l.length ≤ 60) (hs : Alike l m) : ∀ (d : Nat) (i : Int) (out : List Int), 0 ≤ i → i ≤ l.length → (l.length : Int) - i = d → out.length ≤ 60 * i.toNat → (m = l → out = []) →
    ∃ res : List Int, (m = l → res = []) ∧ ∀ k, d * (l.length + 3) < k → impl_Missed.l1 k l m c out l (l.length : Int) i = some (res, true) := by
  intro d
  induction d with
  | zero =>
    intro i out h0 h1 hd ho hz
    refine ⟨out, hz, fun k hk => ?_⟩
    obtain ⟨k, rfl⟩ := pos_round (show 0 < k by omega)
    have pj : ¬ i < (l.length : Int) := by omega
    simp only [impl_Missed.l1, if_neg pj, ownInt_ok out (by omega), Option.bind_some]
  | succ d ih =>
    intro i out h0 h1 hd ho hz
    have pi : i < (l.length : Int) := by omega
    obtain ⟨res, r0, r1⟩ := miss_l2 l m c hm hn hs i h0 pi (d * (l.length + 3)) (fun out ho hz => ih (i + 1) out (by omega) (by omega) (by omega) (by omega) hz) l.length 0 out (by omega) (by omega) (by omega) (by omega) hz
    refine ⟨res, r0, fun k hk => ?_⟩
    rw [Nat.succ_mul] at hk
    generalize d * (l.length + 3) = W at hk r1
    obtain ⟨k, rfl⟩ := pos_round (show 0 < k by omega)
    simp only [impl_Missed.l1, if_pos pi, if_pos h0]
    exact r1 k (by omega)
theorem miss_l0 (l m : List S31) (c : Int) (hm : m.length = l.length) (hn : l.length ≤ 60) (hs : Alike l m) : ∀ (d : Nat) (i : Int), 0 ≤ i → i ≤ l.length → (l.length : Int) - i = d →
    ∃ res : List Int, (m = l → res = []) ∧ ∀ k, l.length * (l.length + 3) + d + 1 < k → impl_Missed.l0 k l m c l (l.length : Int) i = some (res, true) := by
  intro d
  induction d with
  | zero =>
    intro i h0 h1 hd
    obtain ⟨res, r0, r1⟩ := miss_l1 l m c hm hn hs l.length 0 [] (by omega) (by omega) (by omega) (by simp) (fun _ => rfl)
    refine ⟨res, r0, fun k hk => ?_⟩
    obtain ⟨k, rfl⟩ := pos_round (show 0 < k by omega)
    have pi : ¬ i < (l.length : Int) := by omega
    simp only [impl_Missed.l0, if_neg pi]
    exact r1 k (by omega)
  | succ d ih =>
    intro i h0 h1 hd
    have pi : i < (l.length : Int) := by omega
    have hwi : wrap64 (i + 1) = i + 1 := w64 (by omega) (by omega)
    obtain ⟨a0, a1, a2, a5⟩ := hs i h0 pi
    obtain ⟨res, r0, r1⟩ := ih (i + 1) (by omega) (by omega) (by omega)
    refine ⟨res, r0, fun k hk => ?_⟩
    obtain ⟨k, rfl⟩ := pos_round (show 0 < k by omega)
    simp only [impl_Missed.l0, hm, if_pos pi, if_pos h0, hwi, a0, a1, a2, a5, beq_self_eq_true, Bool.not_true, Bool.or_self, Bool.false_eq_true, if_false]
    exact r1 k (by omega)
theorem missed_ok (l m : List S31) (hl : Right l) (hr : Right m) (hm : m.length = l.length) (hn : l.length ≤ 12) (hs : Alike l m) : ∃ res : List Int, (m = l → res = []) ∧ ∀ k, 300 < k → impl_Missed.f k l m 0 = some (res, true) := by
  obtain ⟨res, r0, r1⟩ := miss_l0 l m 0 hm (by omega) hs l.length 0 (by omega) (by omega) (by omega)
  refine ⟨res, r0, fun k hk => ?_⟩
  have e : (l.length : Int) = (m.length : Int) := by omega
  have hb : l.length * (l.length + 3) ≤ 12 * 15 := Nat.mul_le_mul hn (by omega)
  unfold impl_Missed.f
  rw [legs_right l (by omega) hl, Option.bind_some, if_pos rfl, legs_right m (by omega) hr, Option.bind_some, if_pos rfl, if_pos e, implin_eq, in1_yes (show (0 : Int) ≤ 0 by omega) (show (0 : Int) ≤ 10000 by omega), Option.bind_some]
  obtain ⟨k, rfl⟩ := pos_round (show 0 < k by omega)
  simp only [impl_Missed.j0, Bool.not_true, Bool.false_eq_true, if_false]
  exact r1 k (by omega)
theorem load_ok (l : List S31) (hr : Right l) (hn : l.length ≤ 12) (a many : Int) (ha0 : 0 ≤ a) (ha1 : a < l.length) (hm : 1 ≤ many ∧ many ≤ 10) (k : Nat) (hk : 20 < k) :
    impl_Load22.f k l [a] many = some (if (rd_T31 l a).f5 < many then (l, 3) else (l.set (a : Int).toNat (⟨(rd_T31 l a).f0, (rd_T31 l a).f1, (rd_T31 l a).f2, (rd_T31 l a).f3, (rd_T31 l a).f4, wrap64 (((rd_T31 l a).f5) - many)⟩ : S31), 0)) := by
  unfold impl_Load22.f
  rw [implLeg_ok l (by omega), Option.bind_some, legs_right l (by omega) hr, Option.bind_some, if_pos rfl, implin_eq, in1_yes hm.1 (show many ≤ 1000000 by omega), Option.bind_some]
  obtain ⟨k, rfl⟩ := pos_round (show 0 < k by omega)
  have hw : wrap64 ((l.length : Int) - 1) = (l.length : Int) - 1 := w64 (by omega) (by omega)
  have r0 : rd [a] 0 = a := rfl
  simp only [impl_Load22.j0, Bool.not_true, Bool.false_eq_true, if_false, implin_eq]
  rw [show (([a] : List Int).length : Int) = 1 from rfl, in1_yes (show (1 : Int) ≤ 1 by omega) (show (1 : Int) ≤ 6 by omega), Option.bind_some, if_pos rfl]
  obtain ⟨k, rfl⟩ := pos_round (show 0 < k by omega)
  simp only [impl_Load22.l0]
  rw [if_pos (by omega), if_pos (by omega), show (([a] : List Int).length : Int) = 1 from rfl, if_pos (by omega), r0, implin_eq, hw, in1_yes ha0 (show a ≤ (l.length : Int) - 1 by omega), Option.bind_some, if_pos rfl, if_pos (by omega)]
  have hcon : slices_Contains_int_int.f k (([a] : List Int).take (0 : Int).toNat) a = some false := by
    unfold slices_Contains_int_int.f slices_Index_int_int.f
    obtain ⟨k, rfl⟩ := pos_round (show 0 < k by omega)
    simp only [slices_Index_int_int.l0]
    rfl
  rw [hcon, Option.bind_some]
  obtain ⟨k, rfl⟩ := pos_round (show 0 < k by omega)
  simp only [impl_Load22.j2]
  rw [if_neg (by decide), if_neg (by omega), show wrap64 ((0 : Int) + 1) = 1 from (by unfold wrap64; omega)]
  obtain ⟨k, rfl⟩ := pos_round (show 0 < k by omega)
  simp only [impl_Load22.l0]
  rw [if_neg (by omega), show (([a] : List Int).length : Int) = 1 from rfl]
  obtain ⟨k, rfl⟩ := pos_round (show 0 < k by omega)
  simp only [impl_Load22.l1]
  rw [if_pos (by omega), if_pos (by omega), show (([a] : List Int).length : Int) = 1 from rfl, if_pos (by omega), r0, if_pos ha0, if_pos ha1]
  by_cases c : (rd_T31 l a).f5 < many
  · rw [if_pos c, if_pos c, implLeg_ok l (by omega), Option.bind_some]
  · rw [if_neg c, if_neg c, show wrap64 ((0 : Int) + 1) = 1 from (by unfold wrap64; omega)]
    obtain ⟨k, rfl⟩ := pos_round (show 0 < k by omega)
    simp only [impl_Load22.l1]
    rw [if_neg (by omega)]
/-! ### the law -/
def sameB (x y : S31) : Bool := (!((x.f0 == y.f0)) || (!((x.f1 == y.f1)) || (!((x.f2 == y.f2)) || (!((x.f3 == y.f3)) || (!((x.f4 == y.f4)) || (!((x.f5 == y.f5))))))))
theorem sameB_self (x : S31) : sameB x x = false := by
  unfold sameB
  simp only [beq_self_eq_true, Bool.not_true, Bool.or_self]
theorem law_l1 (l : List S31) (a many : Int) (ha0 : 0 ≤ a) (ha1 : a < l.length) (hn : l.length ≤ 12) (x14 : List S31) (hl : x14.length = l.length) (ho : ∀ m : Int, 0 ≤ m → m < l.length → m ≠ a → rd_T31 x14 m = rd_T31 l m) (hf : (rd_T31 x14 a).f5 = wrap64 ((rd_T31 l a).f5 - many)) :
    ∀ (d : Nat) (i : Int), 0 ≤ i → i ≤ l.length → (l.length : Int) - i = d → ∀ k, d < k → laws_FnDelays.l1 k l a many x14 0 i = some true := by
  intro d
  induction d with
  | zero =>
    intro i h0 h1 hd k hk
    obtain ⟨k, rfl⟩ := pos_round (show 0 < k by omega)
    simp only [laws_FnDelays.l1]
    rw [if_neg (by omega), if_pos trivial, if_pos ha0, if_pos (by omega), if_pos ha1, hf, beq_self_eq_true]
  | succ d ih =>
    intro i h0 h1 hd k hk
    obtain ⟨k, rfl⟩ := pos_round (show 0 < k by omega)
    simp only [laws_FnDelays.l1]
    rw [if_pos (by omega), w64 (x := i + 1) (by omega) (by omega)]
    have ih' := ih (i + 1) (by omega) (by omega) (by omega) k (by omega)
    by_cases c : i = a
    · rw [if_pos c]; exact ih'
    · rw [if_neg c, if_pos h0, if_pos (by omega), ho i h0 (by omega) c]
      have hs := sameB_self (rd_T31 l i)
      unfold sameB at hs
      rw [hs, if_neg (by decide)]
      exact ih'
theorem law_l0 (c : List Int) (l y : List S31) (a by' t j : Int) (ha0 : 0 ≤ a) (ha1 : a < l.length) (hD : Dr l) (hi : Inv l y a by' t (l.length : Int) j) (W : Nat)
    (hW : ∀ k, W < k → laws_FnDelays.l0 k c l a y (l.length : Int) = some true) : ∀ (d : Nat) (i : Int), 0 ≤ i → i ≤ l.length → (l.length : Int) - i = d → ∀ k, W + d < k → laws_FnDelays.l0 k c l a y i = some true := by
  intro d
  have hyl := hi.len
  have hn := hD.len
  induction d with
  | zero =>
    intro i h0 h1 hd k hk
    rw [show i = (l.length : Int) by omega]
    exact hW k (by omega)
  | succ d ih =>
    intro i h0 h1 hd k hk
    obtain ⟨k, rfl⟩ := pos_round (show 0 < k by omega)
    have ih' := ih (i + 1) (by omega) (by omega) (by omega) k (by omega)
    obtain ⟨e, d0, d1, d2, d3, d4, d5⟩ := hi.sh i h0 (by omega)
    obtain ⟨_, _, _, _, e3, e4, e5, _⟩ := hD.el i h0 (by omega)
    have y3 : (rd_T31 y i).f3 = (rd_T31 l i).f3 + e := by rw [d5]
    have y4 : (rd_T31 y i).f4 = (rd_T31 l i).f4 + e := by rw [d5]
    have w1 : wrap64 ((rd_T31 y i).f4 - (rd_T31 l i).f4) = wrap64 ((rd_T31 y i).f3 - (rd_T31 l i).f3) := by rw [y3, y4]; congr 1; omega
    simp only [laws_FnDelays.l0]
    rw [if_pos (by omega), if_pos h0, if_pos (by omega), if_neg (by omega), if_pos w1, w64 (x := i + 1) (by omega) (by omega)]
    have hs := sameB_self (rd_T31 l i)
    unfold sameB at hs
    by_cases c1 : i < a
    · have hp : rd_T31 y i = rd_T31 l i := by
        have : e = 0 := Classical.byContradiction fun h => by have := d4 h; omega
        subst this
        rw [d5, Int.add_zero, Int.add_zero]
      rw [if_pos c1, hp, hs, if_neg (by decide)]
      exact ih'
    · rw [if_neg c1, if_pos ha0, if_pos ha1]
      by_cases c2 : (rd_T31 l i).f0 = (rd_T31 l a).f0
      · rw [if_pos c2]; exact ih'
      · have hp : rd_T31 y i = rd_T31 l i := by
          have : e = 0 := Classical.byContradiction fun h => c2 (d4 h).2.2
          subst this
          rw [d5, Int.add_zero, Int.add_zero]
        rw [if_neg c2, hp, hs, if_neg (by decide)]
        exact ih'
theorem at_eq {c : List Int} (hb : Bytes c) (hl : c.length ≤ 1048576) {i : Int} (h0 : 0 ≤ i) (h1 : i ≤ 1000000000) : laws_at.f c i = some (atV c i) := at_some hb hl h0 h1
theorem inv_same {l y : List S31} {a by' t j : Int} (h : Inv l y a by' t (l.length : Int) j) (h1 : by' = 0) (h2 : t = 0) : y = l := by
  refine ext31 h.len (fun m m0 m1 => ?_)
  obtain ⟨e, _, _, d2, _, _, d5⟩ := h.sh m m0 (by have := h.len; omega)
  have := d2 h1 h2
  subst this
  rw [d5, Int.add_zero, Int.add_zero]
theorem FnDelays : laws_FnDelays.Pure := by
  intro c _ _ hw
  have hb := bytes_of hw
  by_cases hbig : (c.length : Int) > 1048576
  · refine ⟨0, ?_⟩
    unfold laws_FnDelays.f laws_big.f
    rw [decide_eq_true hbig, Option.bind_some, if_pos rfl]
  have hl : c.length ≤ 1048576 := by omega
  refine ⟨5000, ?_⟩
  obtain ⟨l, hD, hdr⟩ := draw_ok c hl
  have hn := hD.len
  unfold laws_FnDelays.f laws_big.f
  rw [decide_eq_false hbig, Option.bind_some, if_neg (by decide), hdr 5000 (by omega), Option.bind_some]
  by_cases c0 : (l.length : Int) = 0
  · have hle : l = [] := List.eq_nil_of_length_eq_zero (by omega)
    subst hle
    rw [if_pos c0]
    have : impl_Delay.f 5000 ([] : List S31) 0 1 1 = some ([], false) := by
      unfold impl_Delay.f
      rw [legs_right [] (by simp) ⟨fun m a b => by simp at b; omega, fun p q a b d => by simp at d; omega, fun p q a b d => by simp at d; omega⟩, Option.bind_some, if_pos rfl, implin_eq, show impl_LegsOk.in1 0 0 (wrap64 ((([] : List S31).length : Int) - 1)) = false from (by simp [impl_LegsOk.in1, wrap64]), Option.bind_some, if_neg (by decide)]
      simp only [impl_Delay.j0, if_true]
    rw [this, Option.bind_some]
    rfl
  · rw [if_neg c0, at_eq hb hl (show (0 : Int) ≤ 1 by omega) (by omega), Option.bind_some, at_eq hb hl (show (0 : Int) ≤ 2 by omega) (by omega), Option.bind_some, at_eq hb hl (show (0 : Int) ≤ 3 by omega) (by omega), Option.bind_some]
    have v1 := atV_range hb (show (0 : Int) ≤ 1 by omega)
    have v2 := atV_range hb (show (0 : Int) ≤ 2 by omega)
    have v3 := atV_range hb (show (0 : Int) ≤ 3 by omega)
    have v4 := atV_range hb (show (0 : Int) ≤ 4 by omega)
    have at4 := at_eq hb hl (show (0 : Int) ≤ 4 by omega) (by omega)
    have at3 := at_eq hb hl (show (0 : Int) ≤ 3 by omega) (by omega)
    have at2 := at_eq hb hl (show (0 : Int) ≤ 2 by omega) (by omega)
    generalize atV c 1 = u1 at v1 ⊢
    generalize atV c 2 = u2 at v2 at2 ⊢
    generalize atV c 3 = u3 at v3 at3 ⊢
    generalize atV c 4 = u4 at v4 at4
    obtain ⟨a, hae⟩ : ∃ a, Int.tmod u1 (l.length : Int) = a := ⟨_, rfl⟩
    have ha : a = u1 % (l.length : Int) := by rw [← hae, tm v1.1]
    have ha0 : 0 ≤ a := by rw [ha]; exact Int.emod_nonneg _ c0
    have ha1 : a < l.length := by rw [ha]; exact Int.emod_lt_of_pos _ (by omega)
    obtain ⟨t, hte⟩ : ∃ t, Int.tmod u3 20 = t := ⟨_, rfl⟩
    have ht : 0 ≤ t ∧ t ≤ 19 := by rw [← hte, tm v3.1]; omega
    obtain ⟨many, hme⟩ : ∃ many, wrap64 (1 + Int.tmod u4 10) = many := ⟨_, rfl⟩
    have hmany : 1 ≤ many ∧ many ≤ 10 := by rw [← hme, tm v4.1, w64 (by omega) (by omega)]; omega
    rw [hae, hte]
    obtain ⟨y, j, hi, hdel⟩ := delay_ok l hD a u2 t ha0 ha1 ht v2
    have hyl := hi.len
    have hyr := inv_right hD hi
    have hlr := hD.right
    have hal : Alike l y := fun m m0 m1 => by
      obtain ⟨_, _, _, _, _, _, d5⟩ := hi.sh m m0 m1
      rw [d5]; exact ⟨rfl, rfl, rfl, rfl⟩
    obtain ⟨mo, mo0, mo1⟩ := missed_ok l y hlr hyr hyl hn hal
    obtain ⟨ms, ms0, ms1⟩ := missed_ok l l hlr hlr rfl hn (fun m _ _ => ⟨rfl, rfl, rfl, rfl⟩)
    have ms2 := ms0 rfl
    subst ms2
    rw [hdel 5000 (by omega), Option.bind_some]
    dsimp only
    rw [if_pos rfl, if_pos (by omega), legs_right y (by omega) hyr, Option.bind_some, if_pos rfl, if_pos ha0, if_pos (by omega), if_pos ha1, Option.bind_some]
    have ya : (rd_T31 y a).f3 = wrap64 ((rd_T31 l a).f3 + u2) := by
      obtain ⟨e, _, _, _, d3, _, d5⟩ := hi.sh a ha0 ha1
      obtain ⟨_, _, _, _, e3, e4, e5, _⟩ := hD.el a ha0 ha1
      have := d3 rfl
      subst this
      rw [d5, w64 (by omega) (by omega)]
    rw [ya, show (wrap64 ((rd_T31 l a).f3 + u2) != wrap64 ((rd_T31 l a).f3 + u2)) = false by simp]
    have hj2 : ∀ k, 100 < k → laws_FnDelays.j2 k c l a false = some true := fun k hk => by
      obtain ⟨k, rfl⟩ := pos_round (show 0 < k by omega)
      simp only [laws_FnDelays.j2]
      rw [if_neg (by decide), at4, Option.bind_some, hme, load_ok l hlr hn a many ha0 ha1 hmany k (by omega), Option.bind_some, if_pos ha0, if_pos ha1]
      by_cases cf : (rd_T31 l a).f5 < many
      · rw [if_pos cf, if_pos cf]
        dsimp only
        rw [if_pos rfl, if_pos ha1, beq_self_eq_true]
      · rw [if_neg cf, if_neg cf]
        dsimp only
        exact law_l1 l a many ha0 ha1 hn _ (by simp) (fun m m0 m1 me => rd31_set_ne ha0 m0 (Ne.symm me)) (by rw [rd31_set_eq ha0 ha1]) l.length 0 (by omega) (by omega) (by omega) k (by omega)
    have hend : ∀ k, 400 < k → laws_FnDelays.l0 k c l a y (l.length : Int) = some true := fun k hk => by
      obtain ⟨k, rfl⟩ := pos_round (show 0 < k by omega)
      simp only [laws_FnDelays.l0]
      rw [if_neg (by omega), mo1 k (by omega), Option.bind_some, ms1 k (by omega), Option.bind_some]
      dsimp only
      rw [if_pos rfl, if_pos rfl, if_pos (show ((([] : List Int).length : Int)) = 0 from rfl), at2, Option.bind_some]
      by_cases z2 : u2 = 0
      · rw [if_pos z2, at3, Option.bind_some, hte]
        by_cases z3 : t = 0
        · rw [if_pos z3, mo0 (inv_same hi z2 z3)]
          exact hj2 k (by omega)
        · rw [if_neg z3]; exact hj2 k (by omega)
      · rw [if_neg z2]; exact hj2 k (by omega)
    obtain ⟨K, hK⟩ : ∃ K, K = 4999 := ⟨_, rfl⟩
    show laws_FnDelays.j0 (4999 + 1) c l a y false = some true
    simp only [laws_FnDelays.j0]
    rw [if_neg (by decide)]
    exact law_l0 c l y a u2 t j ha0 ha1 hD hi 400 hend l.length 0 (by omega) (by omega) (by omega) 4999 (by omega)

end Go.Proofs.Ytacekdgajpaomaa.Pure
