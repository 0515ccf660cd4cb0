/- A drawn report comes back from its frame; with one bit or two turned the frame is never read: for each byte list as code. -/
import Derived.Test.YtbhdnhpkpbhilaaPFnFramesx5
import Derived.Test.YtbhdnhpkpbhilaaKit
set_option linter.unusedVariables false
set_option linter.unusedSimpArgs false
namespace Go.Proofs.Ytbhdnhpkpbhilaa.Pure
open Go.RowKit Go.Proofs.Ytbhdnhpkpbhilaa.PFnFrames Go.Proofs.YtbhdnhpkpbhilaaW.PrintWords Go.Proofs.YtbhdnhpkpbhilaaW.PrintLast Go.Proofs.YtbhdnhpkpbhilaaW.PrintMore Go.Proofs.YtbhdnhpkpbhilaaW.Kit

theorem mask_nat (x : Int) (i : Nat) (hi : i ≤ 62) : Go.bits .and .i64 x ((2 ^ i - 1 : Nat) : Int) = x % ((2 ^ i : Nat) : Int) := by
  have hp : 0 < 2 ^ i := Nat.two_pow_pos i
  have h62 : 2 ^ i ≤ 2 ^ 62 := Nat.pow_le_pow_right (by decide) hi
  have e62 : (2 : Nat) ^ 62 = 4611686018427387904 := by decide
  rw [e62] at h62
  have hm : (2 ^ i - 1) % 2 ^ 64 = 2 ^ i - 1 := Nat.mod_eq_of_lt (by have : (2:Nat)^64 = 18446744073709551616 := by decide
                                                                     omega)
  have hd : ((2 ^ i : Nat) : Int) ∣ 18446744073709551616 := by
    have : (2 : Nat) ^ i ∣ 2 ^ 64 := Nat.pow_dvd_pow 2 (by omega)
    have h2 : (2 : Nat) ^ 64 = 18446744073709551616 := by decide
    rw [h2] at this
    exact Int.natCast_dvd_natCast.2 this
  show IntKind.i64.wrap ((BitVec.ofInt 64 x &&& BitVec.ofInt 64 ((2 ^ i - 1 : Nat) : Int)).toNat : Int) = _
  rw [BitVec.toNat_and, BitVec.ofInt_natCast, BitVec.toNat_ofNat, hm, Nat.and_two_pow_sub_one_eq_mod, BitVec.toNat_ofInt, IntKind.wrap_i64]
  have hx : 0 ≤ x % 18446744073709551616 := Int.emod_nonneg _ (by decide)
  have e : (((x % ((2 ^ 64 : Nat) : Int)).toNat % 2 ^ i : Nat) : Int) = x % ((2 ^ i : Nat) : Int) := by
    rw [Int.natCast_emod, show (((2 ^ 64 : Nat) : Int)) = 18446744073709551616 by decide, Int.toNat_of_nonneg hx, Int.emod_emod_of_dvd _ hd]
  rw [e]
  have h1 := Int.emod_nonneg x (show ((2 ^ i : Nat) : Int) ≠ 0 by omega)
  have h2 := Int.emod_lt_of_pos x (show (0 : Int) < ((2 ^ i : Nat) : Int) by omega)
  generalize x % ((2 ^ i : Nat) : Int) = r at h1 h2 ⊢
  omega
theorem mask24 (x : Int) : Go.bits .and .i64 x 16777215 = x % 16777216 := mask_nat x 24 (by decide)
theorem mask16 (x : Int) : Go.bits .and .i64 x 65535 = x % 65536 := mask_nat x 16 (by decide)
theorem mask8 (x : Int) : Go.bits .and .i64 x 255 = x % 256 := mask_nat x 8 (by decide)
theorem mask30 (x : Int) : Go.bits .and .i64 x 1073741823 = x % 1073741824 := mask_nat x 30 (by decide)
/-! ### the drawn values: a place in the bytes that stays in its row, and values that stay in their range -/
/-- The cursor's place is in the row. -/
def InRow (c : List Int) (p : Int) : Prop := 0 ≤ p ∧ p ≤ (c.length : Int)
theorem new_loop (c : List Int) (hc : c.length ≤ 1048576) (d : Nat) : ∀ (s i : Int), 0 ≤ i → i ≤ 4000 → 4000 - i = d → ∃ r, ∀ k, d < k → spec_l1New.l0 k c s i = some (c, 0, r) := by
  induction d with
  | zero =>
    intro s i h0 h1 hd
    refine ⟨s, fun k hk => ?_⟩
    obtain ⟨k, rfl⟩ := pos_round (show 0 < k by omega)
    simp only [spec_l1New.l0]
    by_cases h : i < (c.length : Int)
    · rw [if_pos h, if_neg (by omega)]
    · rw [if_neg h]
  | succ d ih =>
    intro s i h0 h1 hd
    by_cases h : i < (c.length : Int)
    · obtain ⟨r, hr⟩ := ih (Go.bits .and .i64 (wrap64 ((wrap64 ((wrap64 (s * 131)) + (wrap64 (rd c i)))) + 7)) 1073741823) (i + 1) (by omega) (by omega) (by omega)
      refine ⟨r, fun k hk => ?_⟩
      obtain ⟨k, rfl⟩ := pos_round (show 0 < k by omega)
      simp only [spec_l1New.l0]
      rw [if_pos h, if_pos (by omega), if_pos h0, w64 (x := i + 1) (by omega) (by omega)]
      exact hr k (by omega)
    · refine ⟨s, fun k hk => ?_⟩
      obtain ⟨k, rfl⟩ := pos_round (show 0 < k by omega)
      simp only [spec_l1New.l0]
      rw [if_neg h]
theorem new_ok (c : List Int) (hc : c.length ≤ 1048576) : ∃ r, ∀ k, 4000 < k → spec_l1New.f k c = some (c, 0, r) := by
  obtain ⟨r, hr⟩ := new_loop c hc 4000 (wrap64 (59059 + (c.length : Int))) 0 (by omega) (by omega) (by omega)
  exact ⟨r, hr⟩
theorem byte_ok (c : List Int) (hc : c.length ≤ 1048576) {p : Int} (hp : InRow c p) (s : Int) : ∃ b p' s', spec_l1Byte.f c p s = some (b, p', s') ∧ 0 ≤ b ∧ b ≤ 255 ∧ InRow c p' := by
  unfold spec_l1Byte.f
  obtain ⟨h0, h1⟩ := hp
  by_cases h : p < (c.length : Int)
  · rw [if_pos h, if_pos h0, w64 (x := p + 1) (by omega) (by omega)]
    refine ⟨_, _, _, rfl, ?_, ?_, by constructor <;> omega⟩ <;> rw [mask8] <;> omega
  · rw [if_neg h]
    refine ⟨_, _, _, rfl, ?_, ?_, by constructor <;> omega⟩ <;> rw [mask8] <;> omega
theorem below_ok (c : List Int) (hc : c.length ≤ 1048576) {p : Int} (hp : InRow c p) (s : Int) (n : Int) : ∃ r p' s', spec_l1Below.f c p s n = some (r, p', s') ∧ 0 ≤ r ∧ (0 < n → r < n) ∧ (n ≤ 0 → r = 0) ∧ InRow c p' := by
  unfold spec_l1Below.f
  by_cases h : n ≤ 0
  · rw [if_pos h]
    exact ⟨0, p, s, rfl, by omega, by omega, fun _ => rfl, hp⟩
  · rw [if_neg h]
    by_cases h2 : n ≤ 256
    · obtain ⟨b, p1, s1, e, b0, b1, hp1⟩ := byte_ok c hc hp s
      rw [if_pos h2, e, Option.bind_some, if_neg (by omega)]
      refine ⟨_, _, _, rfl, ?_, ?_, fun _ => by omega, hp1⟩ <;> rw [tm b0]
      · exact Int.emod_nonneg _ (by omega)
      · intro _; exact Int.emod_lt_of_pos _ (by omega)
    · obtain ⟨b, p1, s1, e, b0, b1, hp1⟩ := byte_ok c hc hp s
      obtain ⟨b', p2, s2, e2, b0', b1', hp2⟩ := byte_ok c hc hp1 s1
      obtain ⟨b'', p3, s3, e3, b0'', b1'', hp3⟩ := byte_ok c hc hp2 s2
      obtain ⟨b3, p4, s4, e4, b03, b13, hp4⟩ := byte_ok c hc hp3 s3
      rw [if_neg h2, e, Option.bind_some]
      dsimp only
      rw [e2, Option.bind_some]
      dsimp only
      rw [e3, Option.bind_some]
      dsimp only
      rw [e4, Option.bind_some, if_neg (by omega)]
      dsimp only
      rw [w64 (x := b * 16777216) (by omega) (by omega), w64 (x := b' * 65536) (by omega) (by omega), w64 (x := b'' * 256) (by omega) (by omega), w64 (x := b * 16777216 + b' * 65536) (by omega) (by omega), w64 (x := b * 16777216 + b' * 65536 + b'' * 256) (by omega) (by omega), w64 (by omega) (by omega), tm (by omega)]
      exact ⟨_, _, _, rfl, Int.emod_nonneg _ (by omega), fun _ => Int.emod_lt_of_pos _ (by omega), fun _ => by omega, hp4⟩
theorem pickI_ok (c : List Int) (hc : c.length ≤ 1048576) {p : Int} (hp : InRow c p) (s : Int) (l : List Int) (hl : 0 < l.length) : ∃ r p' s', spec_l1PickInt.f c p s l = some (r, p', s') ∧ r ∈ l ∧ InRow c p' := by
  obtain ⟨b, p1, s1, e, b0, b1, _, hp1⟩ := below_ok c hc hp s (l.length : Int)
  have := b1 (by omega)
  unfold spec_l1PickInt.f
  rw [e, Option.bind_some]
  dsimp only
  rw [if_pos b0, if_pos this]
  exact ⟨_, _, _, rfl, rd_mem b0 this, hp1⟩
/-! ### the check, over plain numbers -/
/-- One step: doubled, and what falls out is taken back in. -/
def Tn (n : Nat) : Nat := if 2 * n > 65535 then (2 * n % 65536) ^^^ 4129 else 2 * n
def Tb (x : BitVec 16) : BitVec 16 := (x <<< 1) ^^^ (if x.msb then 4129#16 else 0#16)
theorem Tn_Tb (x : BitVec 16) : Tn x.toNat = (Tb x).toNat := by
  have hx := x.isLt
  unfold Tn Tb
  rw [BitVec.toNat_xor, BitVec.toNat_shiftLeft, Nat.shiftLeft_eq, BitVec.msb_eq_decide]
  by_cases c : 2 * x.toNat > 65535
  · rw [if_pos c, if_pos (by simp; omega)]
    show _ = x.toNat * 2 ^ 1 % 65536 ^^^ 4129
    rw [show x.toNat * 2 ^ 1 = 2 * x.toNat by omega]
  · rw [if_neg c, if_neg (by simp; omega)]
    show _ = x.toNat * 2 ^ 1 % 65536 ^^^ 0
    rw [Nat.xor_zero]
    omega
theorem Tb_xor (x y : BitVec 16) : Tb (x ^^^ y) = Tb x ^^^ Tb y := by
  unfold Tb
  rw [BitVec.shiftLeft_xor_distrib, BitVec.msb_xor]
  cases x.msb <;> cases y.msb <;> simp only [Bool.xor_false, Bool.xor_true, Bool.not_false, Bool.not_true, if_true, if_false, Bool.false_eq_true, BitVec.xor_zero]
  · rw [BitVec.xor_assoc]
  · rw [BitVec.xor_assoc, BitVec.xor_assoc, BitVec.xor_comm (y <<< 1)]
  · rw [BitVec.xor_assoc, ← BitVec.xor_assoc 4129#16, BitVec.xor_comm 4129#16, BitVec.xor_assoc (y <<< 1), BitVec.xor_self, BitVec.xor_zero]
theorem Tn_lt {n : Nat} (h : n < 65536) : Tn n < 65536 := by
  have := Tn_Tb (BitVec.ofNat 16 n)
  rw [BitVec.toNat_ofNat, Nat.mod_eq_of_lt h] at this
  rw [this]
  exact (Tb _).isLt
def U16 (n : Nat) : Prop := n < 65536
theorem x16 {a b : Nat} (ha : U16 a) (hb : U16 b) : U16 (a ^^^ b) := Nat.xor_lt_two_pow (n := 16) ha hb
theorem Tn_U {n : Nat} (h : U16 n) : U16 (Tn n) := Tn_lt h
theorem Tn_xor {a b : Nat} (ha : U16 a) (hb : U16 b) : Tn (a ^^^ b) = Tn a ^^^ Tn b := by
  have e1 := Tn_Tb (BitVec.ofNat 16 a)
  have e2 := Tn_Tb (BitVec.ofNat 16 b)
  have e3 := Tn_Tb (BitVec.ofNat 16 a ^^^ BitVec.ofNat 16 b)
  rw [BitVec.toNat_ofNat, Nat.mod_eq_of_lt ha] at e1
  rw [BitVec.toNat_ofNat, Nat.mod_eq_of_lt hb] at e2
  rw [BitVec.toNat_xor, BitVec.toNat_ofNat, BitVec.toNat_ofNat, Nat.mod_eq_of_lt ha, Nat.mod_eq_of_lt hb, Tb_xor, BitVec.toNat_xor, ← e1, ← e2] at e3
  exact e3
def Tk : Nat → Nat → Nat
  | 0, n => n
  | k + 1, n => Tk k (Tn n)
theorem Tk_lt (k : Nat) : ∀ {n : Nat}, U16 n → U16 (Tk k n) := by
  induction k with
  | zero => intro n h; exact h
  | succ k ih => intro n h; exact ih (Tn_U h)
theorem Tk_xor (k : Nat) : ∀ {a b : Nat}, U16 a → U16 b → Tk k (a ^^^ b) = Tk k a ^^^ Tk k b := by
  induction k with
  | zero => intro a b _ _; rfl
  | succ k ih => intro a b ha hb; show Tk k (Tn (a ^^^ b)) = _; rw [Tn_xor ha hb]; exact ih (Tn_U ha) (Tn_U hb)
theorem Tk_add (j k : Nat) : ∀ n, Tk (j + k) n = Tk k (Tk j n) := by
  induction j with
  | zero => intro n; rw [Nat.zero_add]; rfl
  | succ j ih => intro n; rw [Nat.succ_add]; exact ih _
/-- Eight steps. -/
def w8 : Nat := 8
/-- One byte. -/
def Bn (n c : Nat) : Nat := Tk w8 (n ^^^ (c <<< 8))
def cr (n : Nat) (l : List Nat) : Nat := l.foldl Bn n
theorem cr_cons (n c : Nat) (l : List Nat) : cr n (c :: l) = cr (Bn n c) l := by unfold cr; rw [List.foldl_cons]
theorem cr_nil (n : Nat) : cr n [] = n := by unfold cr; rw [List.foldl_nil]
def Byt (l : List Nat) : Prop := ∀ c ∈ l, c < 256
theorem sh8 {c : Nat} (h : c < 256) : U16 (c <<< 8) := by unfold U16; rw [Nat.shiftLeft_eq]; omega
theorem Bn_lt {n c : Nat} (hn : U16 n) (hc : c < 256) : U16 (Bn n c) := Tk_lt w8 (x16 hn (sh8 hc))
theorem cr_lt (l : List Nat) : ∀ {n : Nat}, U16 n → Byt l → U16 (cr n l) := by
  induction l with
  | nil => intro n hn _; rw [cr_nil]; exact hn
  | cons c l ih =>
    intro n hn h
    have h1 := Bn_lt hn (h c (List.mem_cons_self ..))
    rw [cr_cons]
    generalize Bn n c = m at h1 ⊢
    exact ih h1 (fun d hd => h d (List.mem_cons_of_mem _ hd))
/-- A difference ahead of the bytes goes through them all. -/
theorem cr_diff (l : List Nat) : ∀ {n d : Nat}, U16 n → U16 d → Byt l → cr (n ^^^ d) l = cr n l ^^^ Tk (w8 * l.length) d := by
  induction l with
  | nil => intro n d _ _ _; rw [cr_nil, cr_nil]; rfl
  | cons c l ih =>
    intro n d hn hd h
    have hc := h c (List.mem_cons_self ..)
    have e : Bn (n ^^^ d) c = Bn n c ^^^ Tk w8 d := by
      unfold Bn
      rw [Nat.xor_assoc, Nat.xor_comm d, ← Nat.xor_assoc, Tk_xor w8 (x16 hn (sh8 hc)) hd]
    have h1 := Bn_lt hn hc
    have h2 := Tk_lt w8 hd
    have h3 : Byt l := fun x hx => h x (List.mem_cons_of_mem _ hx)
    have h4 := ih h1 h2 h3
    rw [cr_cons, cr_cons, e, h4, List.length_cons, Nat.mul_succ, Nat.add_comm, Tk_add]
theorem cr_append (l m : List Nat) : ∀ n, cr n (l ++ m) = cr (cr n l) m := by
  induction l with
  | nil => intro n; rw [List.nil_append, cr_nil]
  | cons c l ih => intro n; rw [List.cons_append, cr_cons, cr_cons]; exact ih _
/-- A byte that is hurt. -/
theorem cr_hurt (l m : List Nat) (c v n : Nat) (hn : U16 n) (hl : Byt l) (hm : Byt m) (hc : c < 256) (hv : v < 256) : cr n (l ++ (c ^^^ v) :: m) = cr n (l ++ c :: m) ^^^ Tk (w8 * (m.length + 1)) (v <<< 8) := by
  rw [cr_append, cr_append]
  have h1 := cr_lt l hn hl
  generalize cr n l = s at h1
  have e : Bn s (c ^^^ v) = Bn s c ^^^ Tk w8 (v <<< 8) := by
    unfold Bn
    rw [Nat.shiftLeft_xor_distrib, ← Nat.xor_assoc, Tk_xor w8 (x16 h1 (sh8 hc)) (sh8 hv)]
  have h2 := Bn_lt h1 hc
  have h3 := Tk_lt w8 (sh8 hv)
  have h4 := cr_diff m h2 h3 hm
  rw [cr_cons, cr_cons, e, h4, Nat.mul_succ, Nat.add_comm (w8 * m.length), Tk_add]
/-- What the sixteen bytes say against their check. -/
def V (l : List Nat) : Nat := cr 65535 (l.take 14) ^^^ ((l.getD 14 0) <<< 8) ^^^ l.getD 15 0
/-- What one turned bit does. -/
def syn (a : Nat) : Nat := if a < 120 then Tk (w8 * (14 - a / 8)) ((2 ^ (a % 8)) <<< 8) else 2 ^ (a % 8)
theorem pow8 (a : Nat) : 2 ^ (a % 8) < 256 := by
  have : 2 ^ (a % 8) ≤ 2 ^ 7 := Nat.pow_le_pow_right (by omega) (by omega)
  omega
theorem V_hurt (l : List Nat) (hl : l.length = 16) (hb : Byt l) (a : Nat) (ha : a < 128) : V (l.set (a / 8) (l.getD (a / 8) 0 ^^^ 2 ^ (a % 8))) = V l ^^^ syn a := by
  have hv := pow8 a
  have hsyn : syn a = if a < 120 then Tk (w8 * (14 - a / 8)) ((2 ^ (a % 8)) <<< 8) else 2 ^ (a % 8) := rfl
  generalize 2 ^ (a % 8) = v at hv hsyn ⊢
  have hi : a / 8 < 16 := by omega
  have hi2 : a < 120 ↔ a / 8 < 15 := by omega
  generalize a / 8 = i at hi hi2 hsyn ⊢
  rw [hsyn]
  unfold V
  have h14 : ∀ x : Nat, (l.set i x).getD 14 0 = if i = 14 then x else l.getD 14 0 := by
    intro x
    by_cases e : i = 14
    · subst e; simp [List.getD_eq_getElem?_getD, List.getElem?_set, hl]
    · rw [if_neg e]; simp [List.getD_eq_getElem?_getD, List.getElem?_set, e]
  have h15 : ∀ x : Nat, (l.set i x).getD 15 0 = if i = 15 then x else l.getD 15 0 := by
    intro x
    by_cases e : i = 15
    · subst e; simp [List.getD_eq_getElem?_getD, List.getElem?_set, hl]
    · rw [if_neg e]; simp [List.getD_eq_getElem?_getD, List.getElem?_set, e]
  rw [h14, h15]
  by_cases c : i < 14
  · have hlt : i < (l.take 14).length := by rw [List.length_take]; omega
    have e0 : l.getD i 0 = (l.take 14)[i] := by
      rw [List.getElem_take, List.getD_eq_getElem?_getD, List.getElem?_eq_getElem (by omega)]; rfl
    have e1 : (l.set i (l.getD i 0 ^^^ v)).take 14 = (l.take 14).take i ++ (l.getD i 0 ^^^ v) :: (l.take 14).drop (i + 1) := by
      rw [List.take_set, List.set_eq_take_append_cons_drop, if_pos hlt]
    have e2 : l.take 14 = (l.take 14).take i ++ l.getD i 0 :: (l.take 14).drop (i + 1) := by
      rw [e0, ← List.drop_eq_getElem_cons hlt, List.take_append_drop]
    have hb14 : Byt (l.take 14) := fun x hx => hb x (List.mem_of_mem_take hx)
    have hbi : l.getD i 0 < 256 := by rw [e0]; exact hb14 _ (List.getElem_mem hlt)
    have := cr_hurt ((l.take 14).take i) ((l.take 14).drop (i + 1)) (l.getD i 0) v 65535 (show 65535 < 65536 by omega) (fun x hx => hb14 x (List.mem_of_mem_take hx)) (fun x hx => hb14 x (List.mem_of_mem_drop hx)) hbi hv
    rw [← e2, ← e1] at this
    rw [this, if_neg (by omega), if_neg (by omega), if_pos (hi2.2 (by omega)), List.length_drop, List.length_take, hl, show min 14 16 - (i + 1) + 1 = 14 - i by omega]
    generalize Tk (w8 * (14 - i)) (v <<< 8) = z
    ac_rfl
  · have et : (l.set i (l.getD i 0 ^^^ v)).take 14 = l.take 14 := by
      rw [List.take_set, List.set_eq_of_length_le (by rw [List.length_take]; omega)]
    rw [et]
    by_cases e : i = 14
    · subst e
      rw [if_pos rfl, if_neg (by omega), if_pos (hi2.2 (by omega)), Nat.shiftLeft_xor_distrib]
      show _ = _ ^^^ (v <<< 8)
      ac_rfl
    · have e15 : i = 15 := by omega
      subst e15
      rw [if_neg (by omega), if_pos rfl, if_neg (fun h => absurd (hi2.1 h) (by omega)), ← Nat.xor_assoc]
/-- The turned bits, told: each leaves a sign, and no two the same. -/
def synOk : Bool := (List.range 128).all fun a => syn a != 0 && (List.range a).all fun b => syn a != syn b
/-! ### each turned bit leaves a sign, and no two the same -/
def tbl : List Nat := [31585, 63170, 64933, 60267, 50935, 40399, 11199, 22398, 17763, 35526, 1453, 2906, 5812, 11624, 23248, 46496, 885, 1770, 3540, 7080, 14160, 28320, 56640, 43681, 55369, 41139, 20807, 41614, 21821, 43642, 17621, 35242, 28485, 56970, 44341, 19019, 38038, 14605, 29210, 58420, 60195, 50791, 40175, 10751, 21502, 43004, 24537, 49074, 18387, 36774, 3949, 7898, 15796, 31592, 63184, 64897, 47201, 24803, 49606, 37805, 14203, 28406, 56812, 44025, 17824, 35648, 1697, 3394, 6788, 13576, 27152, 54304, 43601, 17539, 35078, 557, 1114, 2228, 4456, 8912, 30388, 60776, 51953, 34243, 7079, 14158, 28316, 56632, 14128, 28256, 56512, 43425, 17251, 34502, 7597, 15194, 13105, 26210, 52420, 35241, 883, 1766, 3532, 7064, 4129, 8258, 16516, 33032, 4657, 9314, 18628, 37256, 256, 512, 1024, 2048, 4096, 8192, 16384, 32768, 1, 2, 4, 8, 16, 32, 64, 128]
theorem syn_tbl : ∀ a : Nat, a < 128 → syn a = tbl.getD a 0 := by decide +kernel
theorem tbl_ok : ∀ a : Nat, a < 128 → tbl.getD a 0 ≠ 0 ∧ ∀ b : Nat, b < a → tbl.getD a 0 ≠ tbl.getD b 0 := by decide +kernel
theorem syn_ne {a : Nat} (ha : a < 128) : syn a ≠ 0 := by rw [syn_tbl a ha]; exact (tbl_ok a ha).1
theorem syn_two {a b : Nat} (ha : a < 128) (hb : b < 128) (h : a ≠ b) : syn a ≠ syn b := by
  rw [syn_tbl a ha, syn_tbl b hb]
  rcases Nat.lt_or_gt_of_ne h with h | h
  · exact fun e => (tbl_ok b hb).2 a h e.symm
  · exact (tbl_ok a ha).2 b h
theorem xor_zero_iff {a b : Nat} : a ^^^ b = 0 ↔ a = b := by
  constructor
  · intro h
    have : a ^^^ b ^^^ b = 0 ^^^ b := by rw [h]
    rwa [Nat.xor_assoc, Nat.xor_self, Nat.xor_zero, Nat.zero_xor] at this
  · intro h; rw [h, Nat.xor_self]
theorem or_xor {a b : Nat} (h : a < 256) : (b <<< 8) ||| a = (b <<< 8) ^^^ a := by
  apply Nat.eq_of_testBit_eq
  intro i
  rw [Nat.testBit_or, Nat.testBit_xor, Nat.testBit_shiftLeft]
  by_cases c : 8 ≤ i
  · have : a.testBit i = false := Nat.testBit_lt_two_pow (Nat.lt_of_lt_of_le h (Nat.pow_le_pow_right (n := 2) (i := 8) (by omega) c))
    rw [this, Bool.or_false, Bool.xor_false]
  · rw [decide_eq_false c]; simp
theorem sh_add {a b : Nat} (h : a < 256) : (b <<< 8) ^^^ a = b * 256 + a := by
  rw [← or_xor h, ← Nat.shiftLeft_add_eq_or_of_lt (i := 8) h, Nat.shiftLeft_eq]
/-! ### the machine's bits are plain numbers' bits -/
theorem bits_xorN (x y : Nat) (hx : x < 4611686018427387904) (hy : y < 4611686018427387904) : Go.bits .xor .i64 (x : Int) (y : Int) = ((x ^^^ y : Nat) : Int) := by
  show IntKind.i64.wrap ((BitVec.ofInt 64 (x : Int) ^^^ BitVec.ofInt 64 (y : Int)).toNat : Int) = _
  have h := Nat.xor_lt_two_pow (n := 62) hx hy
  rw [show (2 : Nat) ^ 62 = 4611686018427387904 by decide] at h
  rw [BitVec.toNat_xor, BitVec.ofInt_natCast, BitVec.ofInt_natCast, BitVec.toNat_ofNat, BitVec.toNat_ofNat, Nat.mod_eq_of_lt (show x < 2 ^ 64 by omega), Nat.mod_eq_of_lt (show y < 2 ^ 64 by omega), IntKind.wrap_i64]
  omega
theorem bits_orN (x y : Nat) (hx : x < 4611686018427387904) (hy : y < 4611686018427387904) : Go.bits .or .i64 (x : Int) (y : Int) = ((x ||| y : Nat) : Int) := by
  show IntKind.i64.wrap ((BitVec.ofInt 64 (x : Int) ||| BitVec.ofInt 64 (y : Int)).toNat : Int) = _
  have h := Nat.or_lt_two_pow (n := 62) hx hy
  rw [show (2 : Nat) ^ 62 = 4611686018427387904 by decide] at h
  rw [BitVec.toNat_or, BitVec.ofInt_natCast, BitVec.ofInt_natCast, BitVec.toNat_ofNat, BitVec.toNat_ofNat, Nat.mod_eq_of_lt (show x < 2 ^ 64 by omega), Nat.mod_eq_of_lt (show y < 2 ^ 64 by omega), IntKind.wrap_i64]
  omega
theorem bits_xor8 (x y : Nat) (hx : x < 256) (hy : y < 256) : Go.bits .xor .u8 (x : Int) (y : Int) = ((x ^^^ y : Nat) : Int) := by
  show IntKind.u8.wrap ((BitVec.ofInt 8 (x : Int) ^^^ BitVec.ofInt 8 (y : Int)).toNat : Int) = _
  have h := Nat.xor_lt_two_pow (n := 8) hx hy
  rw [BitVec.toNat_xor, BitVec.ofInt_natCast, BitVec.ofInt_natCast, BitVec.toNat_ofNat, BitVec.toNat_ofNat, Nat.mod_eq_of_lt (show x < 2 ^ 8 by omega), Nat.mod_eq_of_lt (show y < 2 ^ 8 by omega), IntKind.wrap_u8]
  omega
/-- Parts that don't meet: 'or' is a sum. -/
theorem or_sum (x y : Int) (i : Nat) (q : Int) (hi : i ≤ 32) (hx : x = q * ((2 ^ i : Nat) : Int)) (hq : 0 ≤ q) (hq2 : x < 4611686018427387904) (hy : 0 ≤ y) (hy2 : y < ((2 ^ i : Nat) : Int)) : Go.bits .or .i64 x y = x + y := by
  obtain ⟨a, rfl⟩ : ∃ a : Nat, q = a := ⟨q.toNat, by omega⟩
  obtain ⟨b, rfl⟩ : ∃ b : Nat, y = b := ⟨y.toNat, by omega⟩
  have hp : (2 : Nat) ^ i ≤ 2 ^ 32 := Nat.pow_le_pow_right (by omega) hi
  rw [show (2 : Nat) ^ 32 = 4294967296 by decide] at hp
  have e : x = ((a <<< i : Nat) : Int) := by rw [hx, Nat.shiftLeft_eq]; simp
  rw [e] at hq2 ⊢
  have hb : b < 2 ^ i := by omega
  rw [bits_orN _ _ (by omega) (by omega), ← Nat.shiftLeft_add_eq_or_of_lt hb]
  simp
/-! ### the check -/
theorem check_in (l : List Int) (L i : Int) (hi : 0 ≤ i) (hi2 : i ≤ 1000) (d : Nat) : ∀ (n j : Nat), j + d = 8 → U16 n → ∀ k, impl_frameCheck.l1 (k + d + 1) (n : Int) l L i (j : Int) = impl_frameCheck.l0 k ((Tk d n : Nat) : Int) l L (i + 1) := by
  induction d with
  | zero =>
    intro n j hj hn k
    simp only [impl_frameCheck.l1]
    rw [if_neg (by omega), w64 (x := i + 1) (by omega) (by omega)]
    rfl
  | succ d ih =>
    intro n j hj hn k
    have hn' : n < 65536 := hn
    have h1 := ih (Tn n) (j + 1) (by omega) (Tn_U hn) k
    rw [show k + (d + 1) + 1 = (k + d + 1) + 1 by omega]
    generalize k + d + 1 = K at h1 ⊢
    simp only [impl_frameCheck.l1]
    rw [if_pos (by omega), w64 (x := (n : Int) * 2) (by omega) (by omega), w64 (x := (j : Int) + 1) (by omega) (by omega), show (j : Int) + 1 = ((j + 1 : Nat) : Int) by omega]
    have hT : ((Tk (d + 1) n : Nat) : Int) = ((Tk d (Tn n) : Nat) : Int) := rfl
    rw [hT, ← h1]
    unfold Tn
    by_cases c : 2 * n > 65535
    · rw [if_pos (by omega), if_pos c, mask16, show (n : Int) * 2 % 65536 = ((2 * n % 65536 : Nat) : Int) by omega, show (4129 : Int) = ((4129 : Nat) : Int) from rfl, bits_xorN _ _ (by omega) (by omega)]
    · rw [if_neg (by omega), if_neg c, show (n : Int) * 2 = ((2 * n : Nat) : Int) by omega]
/-- Bytes as plain numbers. -/
def nat (l : List Int) : List Nat := l.map Int.toNat
theorem nat_byt {l : List Int} (h : Bytes l) : Byt (nat l) := by
  intro c hc
  obtain ⟨x, hx, rfl⟩ := List.mem_map.1 hc
  have := h x hx
  omega
theorem nat_get (l : List Int) (i : Nat) : (nat l).getD i 0 = (rd l (i : Int)).toNat := by
  unfold nat
  rw [rd_nat, List.getD_eq_getElem?_getD, List.getD_eq_getElem?_getD, List.getElem?_map]
  cases l[i]? <;> rfl
theorem check_out (l : List Int) (hb : Bytes l) (hl : l.length ≤ 100) (d : Nat) : ∀ (n i : Nat), i + d = l.length → U16 n → ∀ k, 10 * d < k → impl_frameCheck.l0 k (n : Int) l (l.length : Int) (i : Int) = some ((cr n ((nat l).drop i) : Nat) : Int) := by
  have hnl : (nat l).length = l.length := List.length_map ..
  induction d with
  | zero =>
    intro n i hi hn k hk
    obtain ⟨k, rfl⟩ := pos_round (show 0 < k by omega)
    simp only [impl_frameCheck.l0]
    rw [if_neg (by omega), List.drop_eq_nil_of_le (by omega), cr_nil]
  | succ d ih =>
    intro n i hi hn k hk
    obtain ⟨k, rfl⟩ : ∃ q, k = (q + 8 + 1) + 1 := ⟨k - 10, by omega⟩
    have hr := hb _ (rd_mem (l := l) (i := (i : Int)) (by omega) (by omega))
    have hg := nat_get l i
    have hd : (nat l).drop i = (rd l (i : Int)).toNat :: (nat l).drop (i + 1) := by
      rw [List.drop_eq_getElem_cons (by omega), ← hg, List.getD_eq_getElem?_getD, List.getElem?_eq_getElem (by omega)]; rfl
    obtain ⟨c, hc⟩ : ∃ c : Nat, rd l (i : Int) = c := ⟨(rd l (i : Int)).toNat, by omega⟩
    have hn' : n < 65536 := hn
    rw [hc] at hr hd
    rw [Int.toNat_natCast] at hd
    have hc2 : c < 256 := by omega
    have e8 : (Int.mul (c : Int) 256) = (Nat.cast (c <<< 8) : Int) := by rw [Nat.shiftLeft_eq]; show (c : Int) * 256 = _; omega
    replace e8 : HMul.hMul (c : Int) (256 : Int) = (Nat.cast (c <<< 8) : Int) := e8
    rw [impl_frameCheck.l0, if_pos (by omega), if_pos (by omega), if_pos (by omega), hc, w64 (x := (c : Int)) (by omega) (by omega), w64 (x := (c : Int) * 256) (by omega) (by omega), e8, bits_xorN n (c <<< 8) (by omega) (by rw [Nat.shiftLeft_eq]; omega)]
    have h1 := check_in l (l.length : Int) (i : Int) (by omega) (by omega) 8 (n ^^^ (c <<< 8)) 0 (by omega) (x16 hn (sh8 hc2)) k
    have h2 := ih (Bn n c) (i + 1) (by omega) (Bn_lt hn hc2) k (by omega)
    rw [hd, cr_cons, ← h2, show ((i + 1 : Nat) : Int) = (i : Int) + 1 by omega]
    exact h1
theorem check_ok (l : List Int) (hb : Bytes l) (hl : l.length ≤ 100) (k : Nat) (hk : 10 * l.length < k) : impl_frameCheck.f k l = some ((cr 65535 (nat l) : Nat) : Int) := by
  unfold impl_frameCheck.f
  exact check_out l hb hl l.length 65535 0 (by omega) (show 65535 < 65536 by omega) k hk
/-! ### a frame is read -/
theorem tail_ok (x y : Int) (hx : 0 ≤ x ∧ x ≤ 255) (hy : 0 ≤ y ∧ y ≤ 255) : Go.bits .or .i64 (wrap64 ((wrap64 x) * 256)) (wrap64 y) = (((x.toNat <<< 8) ^^^ y.toNat : Nat) : Int) := by
  rw [w64 (x := x) (by omega) (by omega), w64 (x := y) (by omega) (by omega), w64 (x := x * 256) (by omega) (by omega), or_sum (x * 256) y 8 x (by omega) (by simp) (by omega) (by omega) (by omega) (by simp; omega), sh_add (by omega)]
  omega
/-- A frame whose check doesn't hold. -/
theorem read_hurt (l : List Int) (hl : l.length = 16) (hb : Bytes l) (hV : V (nat l) ≠ 0) (k : Nat) (hk : 200 < k) : impl_ReadReport.f k l = some (0, 0, 0, 0, 0, 0, 2) := by
  have h14 := hb _ (rd_mem (l := l) (i := 14) (by omega) (by omega))
  have h15 := hb _ (rd_mem (l := l) (i := 15) (by omega) (by omega))
  have ht : (l.take 14).length = 14 := by rw [List.length_take]; omega
  have hc := check_ok (l.take 14) (fun x hx => hb x (List.mem_of_mem_take hx)) (by omega) k (by omega)
  unfold impl_ReadReport.f
  rw [if_pos (by omega), if_pos (by omega), hc, Option.bind_some, if_pos (by omega), if_pos (by omega), tail_ok _ _ h14 h15, if_neg]
  intro h
  apply hV
  unfold V
  rw [nat_get, nat_get, Nat.xor_assoc, xor_zero_iff, show List.take 14 (nat l) = nat (l.take 14) by unfold nat; rw [List.map_take]]
  exact Int.ofNat_inj.1 h
theorem read_short (l : List Int) (hl : l.length = 15) (k : Nat) : impl_ReadReport.f k l = some (0, 0, 0, 0, 0, 0, 1) := by
  unfold impl_ReadReport.f
  rw [if_neg (by omega)]
theorem num24 (l : List Int) (b0 b1 b2 : Int) (hl : 3 ≤ l.length) (e0 : rd l 0 = b0) (e1 : rd l 1 = b1) (e2 : rd l 2 = b2) (h0 : 0 ≤ b0 ∧ b0 ≤ 255) (h1 : 0 ≤ b1 ∧ b1 ≤ 255) (h2 : 0 ≤ b2 ∧ b2 ≤ 255) : impl_number24.f l = some (if b0 * 65536 + b1 * 256 + b2 > 8388607 then b0 * 65536 + b1 * 256 + b2 - 16777216 else b0 * 65536 + b1 * 256 + b2) := by
  have e : Go.bits .or .i64 (Go.bits .or .i64 (wrap64 ((wrap64 (rd l 0)) * 65536)) (wrap64 ((wrap64 (rd l 1)) * 256))) (wrap64 (rd l 2)) = b0 * 65536 + b1 * 256 + b2 := by
    rw [e0, e1, e2, w64 (x := b0) (by omega) (by omega), w64 (x := b1) (by omega) (by omega), w64 (x := b2) (by omega) (by omega), w64 (x := b0 * 65536) (by omega) (by omega), w64 (x := b1 * 256) (by omega) (by omega), or_sum (b0 * 65536) (b1 * 256) 16 b0 (by omega) (by simp) (by omega) (by omega) (by omega) (by simp; omega), or_sum (b0 * 65536 + b1 * 256) b2 8 (b0 * 256 + b1) (by omega) (by simp; omega) (by omega) (by omega) (by omega) (by simp; omega)]
  unfold impl_number24.f
  rw [if_pos (by omega), if_pos (by omega), if_pos (by omega), e]
  by_cases c : b0 * 65536 + b1 * 256 + b2 > 8388607
  · rw [if_pos c, if_pos c, w64 (by omega) (by omega)]
  · rw [if_neg c, if_neg c]
/-! ### reports -/
def Rok (a b c d e f : Int) : Prop := (1 ≤ a ∧ a ≤ 9) ∧ (1 ≤ b ∧ b ≤ 999999999) ∧ (-8388608 ≤ c ∧ c ≤ 8388607) ∧ (-8388608 ≤ d ∧ d ≤ 8388607) ∧ (0 ≤ e ∧ e ≤ 19) ∧ (0 ≤ f ∧ f ≤ 19)
theorem in_eqR (a b c : Int) : impl_in.f a b c = some (decide (b ≤ a ∧ a ≤ c)) := in_some a b c
theorem in_eqR' (a b c : Int) : spec_l1In.f a b c = some (decide (b ≤ a ∧ a ≤ c)) := in_some a b c
theorem ite_and (t q : Bool) : (if t = true then some q else some false) = some (t && q) := by cases t <;> rfl
theorem report_ok (a b c d e f : Int) : ∃ y : Bool, (y = true ↔ Rok a b c d e f) ∧ impl_ReportOk.f a b c d e f = some y ∧ spec_ReportOk.f a b c d e f = some y := by
  refine ⟨decide (1 ≤ a ∧ a ≤ 9) && (decide (1 ≤ b ∧ b ≤ 999999999) && (decide (-8388608 ≤ c ∧ c ≤ 8388607) && (decide (-8388608 ≤ d ∧ d ≤ 8388607) && (decide (0 ≤ e ∧ e ≤ 19) && decide (0 ≤ f ∧ f ≤ 19))))), ?_, ?_, ?_⟩
  · unfold Rok
    simp only [Bool.and_eq_true, decide_eq_true_eq]
  · unfold impl_ReportOk.f impl_idOk.f impl_slotOk.f
    simp only [in_eqR, Option.bind_some, ite_and]
  · unfold spec_ReportOk.f
    simp only [in_eqR', Option.bind_some, ite_and]
theorem own_byte (l : List Int) (h : l.length ≤ 1000000) : impl_own_byte.f l = some l := by
  unfold impl_own_byte.f
  rw [if_pos (by omega), if_pos (by omega), Option.bind_some, if_pos (by simp; omega)]; rfl
def body (a b c d e f : Int) : List Int := [a % 256, (b / 16777216) % 256, (b / 65536) % 256, (b / 256) % 256, b % 256, (c / 65536) % 256, (c / 256) % 256, c % 256, (d / 65536) % 256, (d / 256) % 256, d % 256, e % 256, f % 256, 0]
theorem body_bytes (a b c d e f : Int) : Bytes (body a b c d e f) := by
  intro x hx
  unfold body at hx
  simp only [List.mem_cons, List.not_mem_nil, or_false] at hx
  rcases hx with h | h | h | h | h | h | h | h | h | h | h | h | h | h <;> omega
/-- The frame of a report. -/
def frame (a b c d e f : Int) : List Int := body a b c d e f ++ [((cr 65535 (nat (body a b c d e f)) : Nat) : Int) / 256 % 256, ((cr 65535 (nat (body a b c d e f)) : Nat) : Int) % 256]
theorem frame_len (a b c d e f : Int) : (frame a b c d e f).length = 16 := rfl
theorem frame_bytes (a b c d e f : Int) : Bytes (frame a b c d e f) := by
  intro x hx
  unfold frame at hx
  generalize cr 65535 (nat (body a b c d e f)) = C at hx
  rcases List.mem_append.1 hx with hx | hx
  · exact body_bytes a b c d e f x hx
  · simp only [List.mem_cons, List.not_mem_nil, or_false] at hx
    rcases hx with h | h <;> omega
theorem pack_ok {a b c d e f : Int} (h : Rok a b c d e f) (k : Nat) (hk : 200 < k) : impl_PackReport.f k a b c d e f = some (frame a b c d e f, true) := by
  obtain ⟨y, hy, hy2, _⟩ := report_ok a b c d e f
  obtain rfl : y = true := hy.2 h
  have hc := check_ok (body a b c d e f) (body_bytes a b c d e f) (by show 14 ≤ 100; omega) k (by show 140 < k; omega)
  unfold impl_PackReport.f
  rw [hy2, Option.bind_some, if_pos rfl, Option.bind_some]
  show (impl_frameCheck.f k (body a b c d e f)).bind _ = _
  rw [hc, Option.bind_some, Option.bind_some, if_pos (by show 14 + 2 < 140737488355328; omega)]
  show (impl_own_byte.f (frame a b c d e f)).bind _ = _
  rw [own_byte _ (by rw [frame_len]; omega), Option.bind_some]
theorem pack_no {a b c d e f : Int} (h : ¬ Rok a b c d e f) (k : Nat) : impl_PackReport.f k a b c d e f = some ([], false) := by
  obtain ⟨y, hy, hy2, _⟩ := report_ok a b c d e f
  have : ¬ y = true := fun e => h (hy.1 e)
  unfold impl_PackReport.f
  rw [hy2, Option.bind_some, if_neg this]
theorem crc_lt (l : List Int) (hb : Bytes l) : cr 65535 (nat l) < 65536 := cr_lt (nat l) (show 65535 < 65536 by omega) (nat_byt hb)
theorem frame_V (a b c d e f : Int) : V (nat (frame a b c d e f)) = 0 := by
  have hC := crc_lt (body a b c d e f) (body_bytes a b c d e f)
  unfold V
  have e1 : (nat (frame a b c d e f)).take 14 = nat (body a b c d e f) := rfl
  have e2 : (nat (frame a b c d e f)).getD 14 0 = (((cr 65535 (nat (body a b c d e f)) : Nat) : Int) / 256 % 256).toNat := rfl
  have e3 : (nat (frame a b c d e f)).getD 15 0 = (((cr 65535 (nat (body a b c d e f)) : Nat) : Int) % 256).toNat := rfl
  rw [e1, e2, e3]
  generalize cr 65535 (nat (body a b c d e f)) = C at hC
  rw [Nat.xor_assoc, xor_zero_iff, sh_add (by omega)]
  omega
/-! ### the law -/
theorem rd_cons (x : Int) (l : List Int) : rd (x :: l) 0 = x := rfl
theorem frame_read {a b c d e f : Int} (h : Rok a b c d e f) (k : Nat) (hk : 200 < k) : impl_ReadReport.f k (frame a b c d e f) = some (a, b, c, d, e, f, 0) := by
  have hV := frame_V a b c d e f
  have hb := frame_bytes a b c d e f
  have hlen := frame_len a b c d e f
  have h14 := hb _ (rd_mem (l := frame a b c d e f) (i := 14) (by omega) (by omega))
  have h15 := hb _ (rd_mem (l := frame a b c d e f) (i := 15) (by omega) (by omega))
  have hc := check_ok ((frame a b c d e f).take 14) (fun x hx => hb x (List.mem_of_mem_take hx)) (by show 14 ≤ 100; omega) k (by show 140 < k; omega)
  obtain ⟨y, hy, hy2, _⟩ := report_ok a b c d e f
  obtain rfl : y = true := hy.2 h
  obtain ⟨ha, hb', hc', hd, he, hf⟩ := h
  have e0 : rd (frame a b c d e f) 0 = a % 256 := rfl
  have e1 : rd (frame a b c d e f) 1 = (b / 16777216) % 256 := rfl
  have e2 : rd (frame a b c d e f) 2 = (b / 65536) % 256 := rfl
  have e3 : rd (frame a b c d e f) 3 = (b / 256) % 256 := rfl
  have e4 : rd (frame a b c d e f) 4 = b % 256 := rfl
  have e11 : rd (frame a b c d e f) 11 = e % 256 := rfl
  have e12 : rd (frame a b c d e f) 12 = f % 256 := rfl
  have e13 : rd (frame a b c d e f) 13 = 0 := rfl
  have n5 := num24 ((frame a b c d e f).drop 5) ((c / 65536) % 256) ((c / 256) % 256) (c % 256) (by show 3 ≤ 11; omega) rfl rfl rfl (by omega) (by omega) (by omega)
  have n8 := num24 ((frame a b c d e f).drop 8) ((d / 65536) % 256) ((d / 256) % 256) (d % 256) (by show 3 ≤ 8; omega) rfl rfl rfl (by omega) (by omega) (by omega)
  rw [show (if c / 65536 % 256 * 65536 + c / 256 % 256 * 256 + c % 256 > 8388607 then c / 65536 % 256 * 65536 + c / 256 % 256 * 256 + c % 256 - 16777216 else c / 65536 % 256 * 65536 + c / 256 % 256 * 256 + c % 256) = c by split <;> omega] at n5
  rw [show (if d / 65536 % 256 * 65536 + d / 256 % 256 * 256 + d % 256 > 8388607 then d / 65536 % 256 * 65536 + d / 256 % 256 * 256 + d % 256 - 16777216 else d / 65536 % 256 * 65536 + d / 256 % 256 * 256 + d % 256) = d by split <;> omega] at n8
  have eid : Go.bits .or .i64 (Go.bits .or .i64 (Go.bits .or .i64 (wrap64 ((wrap64 ((b / 16777216) % 256)) * 16777216)) (wrap64 ((wrap64 ((b / 65536) % 256)) * 65536))) (wrap64 ((wrap64 ((b / 256) % 256)) * 256))) (wrap64 (b % 256)) = b := by
    rw [w64 (x := b / 16777216 % 256) (by omega) (by omega), w64 (x := b / 65536 % 256) (by omega) (by omega), w64 (x := b / 256 % 256) (by omega) (by omega), w64 (x := b % 256) (by omega) (by omega), w64 (x := b / 16777216 % 256 * 16777216) (by omega) (by omega), w64 (x := b / 65536 % 256 * 65536) (by omega) (by omega), w64 (x := b / 256 % 256 * 256) (by omega) (by omega),
      or_sum (b / 16777216 % 256 * 16777216) (b / 65536 % 256 * 65536) 24 (b / 16777216 % 256) (by omega) (by simp) (by omega) (by omega) (by omega) (by simp; omega),
      or_sum (b / 16777216 % 256 * 16777216 + b / 65536 % 256 * 65536) (b / 256 % 256 * 256) 16 (b / 16777216 % 256 * 256 + b / 65536 % 256) (by omega) (by simp; omega) (by omega) (by omega) (by omega) (by simp; omega),
      or_sum (b / 16777216 % 256 * 16777216 + b / 65536 % 256 * 65536 + b / 256 % 256 * 256) (b % 256) 8 (b / 16777216 % 256 * 65536 + b / 65536 % 256 * 256 + b / 256 % 256) (by omega) (by simp; omega) (by omega) (by omega) (by omega) (by simp; omega)]
    omega
  have hcheck : ((cr 65535 (nat ((frame a b c d e f).take 14)) : Nat) : Int) = Go.bits .or .i64 (wrap64 ((wrap64 (rd (frame a b c d e f) 14)) * 256)) (wrap64 (rd (frame a b c d e f) 15)) := by
    rw [tail_ok _ _ h14 h15]
    unfold V at hV
    rw [nat_get, nat_get, Nat.xor_assoc, xor_zero_iff] at hV
    exact congrArg Nat.cast hV
  unfold impl_ReadReport.f
  rw [hlen, if_pos (by omega), if_pos (by omega), hc, Option.bind_some, if_pos (by omega), if_pos (by omega), if_pos hcheck, if_pos (by omega), if_pos (by omega), if_pos (by omega), if_pos (by omega), if_pos (by omega), if_pos (by omega), n5, Option.bind_some, if_pos (by omega), n8, Option.bind_some, if_pos (by omega), if_pos (by omega), if_pos (by omega), e13, if_pos rfl, e0, e1, e2, e3, e4, e11, e12, eid, w64 (x := a % 256) (by omega) (by omega), w64 (x := e % 256) (by omega) (by omega), w64 (x := f % 256) (by omega) (by omega), show a % 256 = a by omega, show e % 256 = e by omega, show f % 256 = f by omega, hy2, Option.bind_some, if_pos rfl]
theorem at_ok {l : List Int} (hb : Bytes l) (hl : l.length ≤ 1048576) {i : Int} (h0 : 0 ≤ i) (h1 : i ≤ 1000000000) : laws_at.f l i = some (atV l i) := at_some hb hl h0 h1
/-- A bit of a row that is turned. -/
def turned (l : List Int) (a : Nat) : List Int := l.set (a / 8) (((rd l ((a / 8 : Nat) : Int)).toNat ^^^ 2 ^ (a % 8) : Nat) : Int)
theorem turned_len (l : List Int) (a : Nat) : (turned l a).length = l.length := List.length_set ..
theorem xor8 {x y : Nat} (hx : x < 256) (hy : y < 256) : x ^^^ y < 256 := Nat.xor_lt_two_pow (n := 8) hx hy
theorem turned_bytes {l : List Int} (hb : Bytes l) (hl : l.length = 16) (a : Nat) (ha : a < 128) : Bytes (turned l a) := by
  intro x hx
  have hr := hb _ (rd_mem (l := l) (i := ((a / 8 : Nat) : Int)) (by omega) (by omega))
  rcases List.mem_or_eq_of_mem_set hx with hx | rfl
  · exact hb x hx
  · have := xor8 (x := (rd l ((a / 8 : Nat) : Int)).toNat) (by omega) (pow8 a)
    omega
theorem turned_V {l : List Int} (hb : Bytes l) (hl : l.length = 16) (a : Nat) (ha : a < 128) : V (nat (turned l a)) = V (nat l) ^^^ syn a := by
  have hn : (nat l).length = 16 := by unfold nat; rw [List.length_map, hl]
  rw [← V_hurt (nat l) hn (nat_byt hb) a ha, nat_get]
  unfold turned nat
  rw [List.map_set, Int.toNat_natCast]
theorem turn_eq {l : List Int} (hb : Bytes l) (hl : l.length = 16) (x : Int) (h0 : 0 ≤ x) (h1 : x < 128) : l.set (x / 8).toNat (Go.bits .xor .u8 (rd l (x / 8)) (shl .u8 1 (x % 8))) = turned l x.toNat := by
  have hr := hb _ (rd_mem (l := l) (i := x / 8) (by omega) (by omega))
  have hp := pow8 x.toNat
  have hs : shl .u8 1 (x % 8) = ((2 ^ (x.toNat % 8) : Nat) : Int) := by
    unfold shl
    rw [show (x % 8).toNat = x.toNat % 8 by omega, Nat.min_eq_left (show x.toNat % 8 ≤ IntKind.u8.bits by show x.toNat % 8 ≤ 8; omega), IntKind.wrap_u8, Int.one_mul]
    have e : ((2 ^ (x.toNat % 8) : Nat) : Int) = (2 : Int) ^ (x.toNat % 8) := by simp
    rw [← e]
    generalize (2 ^ (x.toNat % 8) : Nat) = p at hp
    omega
  unfold turned
  rw [hs, show ((x.toNat / 8 : Nat) : Int) = x / 8 by omega, show (x / 8).toNat = x.toNat / 8 by omega]
  obtain ⟨v, hv⟩ : ∃ v : Nat, rd l (x / 8) = v := ⟨(rd l (x / 8)).toNat, by omega⟩
  rw [hv, Int.toNat_natCast, bits_xor8 v _ (by omega) hp]
theorem law_end (c : List Int) (hbc : Bytes c) (hc : c.length ≤ 1048576) {r0 r1 r2 r3 r4 r5 : Int} (h : Rok r0 r1 r2 r3 r4 r5) (k : Nat) (hk : 300 < k) : laws_FnFrames.j0 k c (frame r0 r1 r2 r3 r4 r5) false r0 r1 r2 r3 r4 r5 = some true := by
  have hr := frame_read h
  have hV := frame_V r0 r1 r2 r3 r4 r5
  have hb := frame_bytes r0 r1 r2 r3 r4 r5
  have hl := frame_len r0 r1 r2 r3 r4 r5
  generalize frame r0 r1 r2 r3 r4 r5 = F at hr hV hb hl ⊢
  obtain ⟨a0, a1⟩ := atV_range hbc (i := 1) (by omega)
  obtain ⟨b0, b1⟩ := atV_range hbc (i := 2) (by omega)
  obtain ⟨k, rfl⟩ : ∃ q, k = q + 3 := ⟨k - 3, by omega⟩
  simp only [laws_FnFrames.j0]
  rw [if_neg (by simp), hr _ (by omega), Option.bind_some]
  dsimp only
  rw [if_pos rfl]
  simp only [beq_self_eq_true, Bool.not_true, Bool.or_self]
  simp only [laws_FnFrames.j1]
  rw [if_neg (by simp), at_ok hbc hc (by omega) (by omega), at_ok hbc hc (by omega) (by omega), Option.bind_some, Option.bind_some, Option.bind_some, if_pos (by simp; omega), Option.bind_some, List.nil_append, tm a0, tm b0]
  generalize hA : atV c 1 % 128 = A
  generalize hB : atV c 2 % 128 = B
  have hA1 : 0 ≤ A ∧ A < 128 := by omega
  have hB1 : 0 ≤ B ∧ B < 128 := by omega
  rw [td hA1.1, tm hA1.1, w64 (x := A / 8) (by omega) (by omega), if_pos (by omega), if_pos (by omega), if_pos (by omega), Option.bind_some, turn_eq hb hl A hA1.1 hA1.2]
  have hV1 := turned_V hb hl A.toNat (by omega)
  have hb1 := turned_bytes hb hl A.toNat (by omega)
  have hl1 := turned_len F A.toNat
  rw [hV, Nat.zero_xor] at hV1
  generalize turned F A.toNat = G at hV1 hb1 hl1 ⊢
  rw [hl] at hl1
  rw [read_hurt G hl1 hb1 (by rw [hV1]; exact syn_ne (by omega)) _ (by omega), Option.bind_some, if_pos (by omega), read_short (F.take 15) (by rw [List.length_take]; omega), Option.bind_some]
  dsimp only
  rw [if_pos rfl]
  simp only [bne_self_eq_false, laws_FnFrames.j2]
  rw [if_neg (by simp)]
  by_cases e : A = B
  · rw [if_pos e]
  · have hV2 := turned_V hb1 hl1 B.toNat (by omega)
    have hb2 := turned_bytes hb1 hl1 B.toNat (by omega)
    have hl2 := turned_len G B.toNat
    rw [if_neg e, td hB1.1, tm hB1.1, w64 (x := B / 8) (by omega) (by omega), if_pos (by omega), if_pos (by omega), if_pos (by omega), turn_eq hb1 hl1 B hB1.1 hB1.2, read_hurt _ (by rw [hl2, hl1]) hb2 (by rw [hV2, hV1]; exact fun h => syn_two (by omega) (by omega) (by omega) (xor_zero_iff.1 h)) _ (by omega), Option.bind_some]
    rfl
theorem draw_ok (c : List Int) (hc : c.length ≤ 1048576) : ∃ r0 r1 r2 r3 r4 r5, ∀ k, 4100 < k → spec_DrawPackReport.f k c = some (r0, r1, r2, r3, r4, r5) := by
  obtain ⟨r, hr⟩ := new_ok c hc
  have hp : InRow c 0 := ⟨by omega, by omega⟩
  obtain ⟨v1, p1, s1, e1, _, _, _, h1⟩ := below_ok c hc hp r 9
  obtain ⟨v2, p2, s2, e2, _, _, _, h2⟩ := below_ok c hc h1 s1 999999999
  obtain ⟨v3, p3, s3, e3, _, _, _, h3⟩ := below_ok c hc h2 s2 16777216
  obtain ⟨v4, p4, s4, e4, _, _, _, h4⟩ := below_ok c hc h3 s3 100
  obtain ⟨v5, p5, s5, e5, _, _, _, h5⟩ := below_ok c hc h4 s4 20
  obtain ⟨v6, p6, s6, e6, _, _, _, h6⟩ := below_ok c hc h5 s5 20
  obtain ⟨v7, p7, s7, e7, _, _, _, h7⟩ := below_ok c hc h6 s6 25
  obtain ⟨q1, _, _, f1, _, _⟩ := pickI_ok c hc h7 s7 [0, 9, 10] (by decide)
  obtain ⟨q2, _, _, f2, _, _⟩ := pickI_ok c hc h7 s7 [0, 1, 999999999, 1000000000] (by decide)
  obtain ⟨q3, _, _, f3, _, _⟩ := pickI_ok c hc h7 s7 [(-8388609), (-8388608), 8388607, 8388608] (by decide)
  obtain ⟨q4, _, _, f4, _, _⟩ := pickI_ok c hc h7 s7 [(-1), 20] (by decide)
  have all : ∃ r0 r1 r2 r3 r4 r5 x y, spec_l9DrawReport.f c 0 r = some (r0, r1, r2, r3, r4, r5, x, y) := by
    unfold spec_l9DrawReport.f
    rw [e1, Option.bind_some]; dsimp only
    rw [e2, Option.bind_some]; dsimp only
    rw [e3, Option.bind_some]; dsimp only
    rw [e4, Option.bind_some]; dsimp only
    rw [e5, Option.bind_some]; dsimp only
    rw [e6, Option.bind_some]; dsimp only
    rw [e7, Option.bind_some]; dsimp only
    by_cases c0 : v7 = 0
    · rw [if_pos c0, f1, Option.bind_some]; exact ⟨_, _, _, _, _, _, _, _, rfl⟩
    rw [if_neg c0]
    by_cases c1 : v7 = 1
    · rw [if_pos c1, f2, Option.bind_some]; exact ⟨_, _, _, _, _, _, _, _, rfl⟩
    rw [if_neg c1]
    by_cases c2 : v7 = 2
    · rw [if_pos c2, f3, Option.bind_some]; exact ⟨_, _, _, _, _, _, _, _, rfl⟩
    rw [if_neg c2]
    by_cases c3 : v7 = 3
    · rw [if_pos c3, f4, Option.bind_some]; exact ⟨_, _, _, _, _, _, _, _, rfl⟩
    rw [if_neg c3]
    exact ⟨_, _, _, _, _, _, _, _, rfl⟩
  obtain ⟨r0, r1, r2, r3, r4, r5, x, y, hd⟩ := all
  refine ⟨r0, r1, r2, r3, r4, r5, fun k hk => ?_⟩
  unfold spec_DrawPackReport.f
  rw [hr k (by omega), Option.bind_some]
  dsimp only
  rw [hd, Option.bind_some]
theorem FnFrames : laws_FnFrames.Pure := by
  intro l _ _ hw
  have hb := bytes_of hw
  refine ⟨5000, ?_⟩
  unfold laws_FnFrames.f laws_big.f
  by_cases hn : (l.length : Int) > 1048576
  · rw [Option.bind_some, if_pos (by simpa using hn)]
  · obtain ⟨r0, r1, r2, r3, r4, r5, hd⟩ := draw_ok l (by omega)
    obtain ⟨y, hy, hy2, hy3⟩ := report_ok r0 r1 r2 r3 r4 r5
    rw [Option.bind_some, if_neg (by simpa using hn), hd _ (by omega), Option.bind_some]
    dsimp only
    by_cases c : Rok r0 r1 r2 r3 r4 r5
    · obtain rfl : y = true := hy.2 c
      rw [pack_ok c _ (by omega), Option.bind_some, hy3, Option.bind_some, if_pos rfl]
      dsimp only
      rw [if_pos rfl, if_pos (by rw [frame_len]; rfl), hy2, Option.bind_some]
      exact law_end l hb (by omega) c _ (by omega)
    · have hf : y = false := Bool.eq_false_iff.2 (fun e => c (hy.1 e))
      subst hf
      rw [pack_no c, Option.bind_some, hy3, Option.bind_some, if_neg (by simp)]
      dsimp only
      rw [if_neg (by simp), if_pos (by simp), hy2, Option.bind_some]
      rfl

end Go.Proofs.Ytbhdnhpkpbhilaa.Pure
