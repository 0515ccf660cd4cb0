/- Of a drawn history the swings, a whole one as two halves, are as many as its turns less one; none is greater than the range, and one is the range where there are two turns: for each byte list as code. -/
import Derived.Test.YtdjbglhhjffnkaaPFnSwingsx5
import Derived.Test.YtdjbglhhjffnkaaKit
set_option linter.unusedVariables false
set_option linter.unusedSimpArgs false
namespace Go.Proofs.Ytdjbglhhjffnkaa.Pure
open Go.RowKit Go.Proofs.Ytdjbglhhjffnkaa.PFnSwings Go.Proofs.YtdjbglhhjffnkaaW.PrintWords Go.Proofs.YtdjbglhhjffnkaaW.PrintLast Go.Proofs.YtdjbglhhjffnkaaW.PrintMore Go.Proofs.YtdjbglhhjffnkaaW.Kit

theorem mask_nat (x : Int) (i : Nat) (hi : i ≤ 62) : Go.bits .and .i64 x ((2 ^ i - 1 : Nat) : Int) = x % ((2 ^ i : Nat) : Int) := by
  have hp : 0 < 2 ^ i := Nat.two_pow_pos i
  have h62 : 2 ^ i ≤ 2 ^ 62 := Nat.pow_le_pow_right (by decide) hi
  have e62 : (2 : Nat) ^ 62 = 4611686018427387904 := by decide
  rw [e62] at h62
  have hm : (2 ^ i - 1) % 2 ^ 64 = 2 ^ i - 1 := Nat.mod_eq_of_lt (by have : (2:Nat)^64 = 18446744073709551616 := by decide
                                                                     omega)
  have hd : ((2 ^ i : Nat) : Int) ∣ 18446744073709551616 := by
    have : (2 : Nat) ^ i ∣ 2 ^ 64 := Nat.pow_dvd_pow 2 (by omega)
    have h2 : (2 : Nat) ^ 64 = 18446744073709551616 := by decide
    rw [h2] at this
    exact Int.natCast_dvd_natCast.2 this
  show IntKind.i64.wrap ((BitVec.ofInt 64 x &&& BitVec.ofInt 64 ((2 ^ i - 1 : Nat) : Int)).toNat : Int) = _
  rw [BitVec.toNat_and, BitVec.ofInt_natCast, BitVec.toNat_ofNat, hm, Nat.and_two_pow_sub_one_eq_mod, BitVec.toNat_ofInt, IntKind.wrap_i64]
  have hx : 0 ≤ x % 18446744073709551616 := Int.emod_nonneg _ (by decide)
  have e : (((x % ((2 ^ 64 : Nat) : Int)).toNat % 2 ^ i : Nat) : Int) = x % ((2 ^ i : Nat) : Int) := by
    rw [Int.natCast_emod, show (((2 ^ 64 : Nat) : Int)) = 18446744073709551616 by decide, Int.toNat_of_nonneg hx, Int.emod_emod_of_dvd _ hd]
  rw [e]
  have h1 := Int.emod_nonneg x (show ((2 ^ i : Nat) : Int) ≠ 0 by omega)
  have h2 := Int.emod_lt_of_pos x (show (0 : Int) < ((2 ^ i : Nat) : Int) by omega)
  generalize x % ((2 ^ i : Nat) : Int) = r at h1 h2 ⊢
  omega
theorem mask24 (x : Int) : Go.bits .and .i64 x 16777215 = x % 16777216 := mask_nat x 24 (by decide)
theorem mask16 (x : Int) : Go.bits .and .i64 x 65535 = x % 65536 := mask_nat x 16 (by decide)
theorem mask8 (x : Int) : Go.bits .and .i64 x 255 = x % 256 := mask_nat x 8 (by decide)
theorem mask30 (x : Int) : Go.bits .and .i64 x 1073741823 = x % 1073741824 := mask_nat x 30 (by decide)
/-! ### the drawn values: a place in the bytes that stays in its row, and values that stay in their range -/
/-- The cursor's place is in the row. -/
def InRow (c : List Int) (p : Int) : Prop := 0 ≤ p ∧ p ≤ (c.length : Int)
theorem new_loop (c : List Int) (hc : c.length ≤ 1048576) (d : Nat) : ∀ (s i : Int), 0 ≤ i → i ≤ 4000 → 4000 - i = d → ∃ r, ∀ k, d < k → spec_l1New.l0 k c s i = some (c, 0, r) := by
  induction d with
  | zero =>
    intro s i h0 h1 hd
    refine ⟨s, fun k hk => ?_⟩
    obtain ⟨k, rfl⟩ := pos_round (show 0 < k by omega)
    simp only [spec_l1New.l0]
    by_cases h : i < (c.length : Int)
    · rw [if_pos h, if_neg (by omega)]
    · rw [if_neg h]
  | succ d ih =>
    intro s i h0 h1 hd
    by_cases h : i < (c.length : Int)
    · obtain ⟨r, hr⟩ := ih (Go.bits .and .i64 (wrap64 ((wrap64 ((wrap64 (s * 131)) + (wrap64 (rd c i)))) + 7)) 1073741823) (i + 1) (by omega) (by omega) (by omega)
      refine ⟨r, fun k hk => ?_⟩
      obtain ⟨k, rfl⟩ := pos_round (show 0 < k by omega)
      simp only [spec_l1New.l0]
      rw [if_pos h, if_pos (by omega), if_pos h0, w64 (x := i + 1) (by omega) (by omega)]
      exact hr k (by omega)
    · refine ⟨s, fun k hk => ?_⟩
      obtain ⟨k, rfl⟩ := pos_round (show 0 < k by omega)
      simp only [spec_l1New.l0]
      rw [if_neg h]
theorem new_ok (c : List Int) (hc : c.length ≤ 1048576) : ∃ r, ∀ k, 4000 < k → spec_l1New.f k c = some (c, 0, r) := by
  obtain ⟨r, hr⟩ := new_loop c hc 4000 (wrap64 (59059 + (c.length : Int))) 0 (by omega) (by omega) (by omega)
  exact ⟨r, hr⟩
theorem byte_ok (c : List Int) (hc : c.length ≤ 1048576) {p : Int} (hp : InRow c p) (s : Int) : ∃ b p' s', spec_l1Byte.f c p s = some (b, p', s') ∧ 0 ≤ b ∧ b ≤ 255 ∧ InRow c p' := by
  unfold spec_l1Byte.f
  obtain ⟨h0, h1⟩ := hp
  by_cases h : p < (c.length : Int)
  · rw [if_pos h, if_pos h0, w64 (x := p + 1) (by omega) (by omega)]
    refine ⟨_, _, _, rfl, ?_, ?_, by constructor <;> omega⟩ <;> rw [mask8] <;> omega
  · rw [if_neg h]
    refine ⟨_, _, _, rfl, ?_, ?_, by constructor <;> omega⟩ <;> rw [mask8] <;> omega
theorem below_ok (c : List Int) (hc : c.length ≤ 1048576) {p : Int} (hp : InRow c p) (s : Int) (n : Int) : ∃ r p' s', spec_l1Below.f c p s n = some (r, p', s') ∧ 0 ≤ r ∧ (0 < n → r < n) ∧ (n ≤ 0 → r = 0) ∧ InRow c p' := by
  unfold spec_l1Below.f
  by_cases h : n ≤ 0
  · rw [if_pos h]
    exact ⟨0, p, s, rfl, by omega, by omega, fun _ => rfl, hp⟩
  · rw [if_neg h]
    by_cases h2 : n ≤ 256
    · obtain ⟨b, p1, s1, e, b0, b1, hp1⟩ := byte_ok c hc hp s
      rw [if_pos h2, e, Option.bind_some, if_neg (by omega)]
      refine ⟨_, _, _, rfl, ?_, ?_, fun _ => by omega, hp1⟩ <;> rw [tm b0]
      · exact Int.emod_nonneg _ (by omega)
      · intro _; exact Int.emod_lt_of_pos _ (by omega)
    · obtain ⟨b, p1, s1, e, b0, b1, hp1⟩ := byte_ok c hc hp s
      obtain ⟨b', p2, s2, e2, b0', b1', hp2⟩ := byte_ok c hc hp1 s1
      obtain ⟨b'', p3, s3, e3, b0'', b1'', hp3⟩ := byte_ok c hc hp2 s2
      obtain ⟨b3, p4, s4, e4, b03, b13, hp4⟩ := byte_ok c hc hp3 s3
      rw [if_neg h2, e, Option.bind_some]
      dsimp only
      rw [e2, Option.bind_some]
      dsimp only
      rw [e3, Option.bind_some]
      dsimp only
      rw [e4, Option.bind_some, if_neg (by omega)]
      dsimp only
      rw [w64 (x := b * 16777216) (by omega) (by omega), w64 (x := b' * 65536) (by omega) (by omega), w64 (x := b'' * 256) (by omega) (by omega), w64 (x := b * 16777216 + b' * 65536) (by omega) (by omega), w64 (x := b * 16777216 + b' * 65536 + b'' * 256) (by omega) (by omega), w64 (by omega) (by omega), tm (by omega)]
      exact ⟨_, _, _, rfl, Int.emod_nonneg _ (by omega), fun _ => Int.emod_lt_of_pos _ (by omega), fun _ => by omega, hp4⟩
theorem size_ok (c : List Int) (hc : c.length ≤ 1048576) (n : Int) (hn : 2 ≤ n) : ∃ r, spec_l1Size.f c n = some r ∧ 2 ≤ r ∧ r ≤ n := by
  unfold spec_l1Size.f
  rw [w64 (x := (c.length : Int) / 20) (by omega) (by omega), w64 (x := 2 + _) (by omega) (by omega)]
  by_cases h : 2 + (c.length : Int) / 20 > n
  · rw [if_pos h]; exact ⟨_, rfl, by omega, by omega⟩
  · rw [if_neg h]; exact ⟨_, rfl, by omega, by omega⟩
theorem pickI_ok (c : List Int) (hc : c.length ≤ 1048576) {p : Int} (hp : InRow c p) (s : Int) (l : List Int) (hl : 0 < l.length) : ∃ r p' s', spec_l1PickInt.f c p s l = some (r, p', s') ∧ r ∈ l ∧ InRow c p' := by
  obtain ⟨b, p1, s1, e, b0, b1, _, hp1⟩ := below_ok c hc hp s (l.length : Int)
  have := b1 (by omega)
  unfold spec_l1PickInt.f
  rw [e, Option.bind_some]
  dsimp only
  rw [if_pos b0, if_pos this]
  exact ⟨_, _, _, rfl, rd_mem b0 this, hp1⟩
/-! ### turning points, over lists -/
/-- The last one of b and m. -/
def lst : Int → List Int → Int
  | b, [] => b
  | _, c :: m => lst c m
/-- What is kept behind p: what turns, and the last one. -/
def fK : Int → List Int → List Int
  | _, [] => []
  | _, [b] => [b]
  | p, b :: c :: m => if (decide (b > p) == decide (b > c)) = true then b :: fK b (c :: m) else fK b (c :: m)
/-- .. and the first one. -/
def fT : List Int → List Int
  | [] => []
  | b :: m => b :: fK b m
/-- What is kept between p and n. -/
def iK : Int → List Int → Int → List Int
  | _, [], _ => []
  | p, [b], n => if (decide (b > p) == decide (b > n)) = true then [b] else []
  | p, b :: c :: m, n => (if (decide (b > p) == decide (b > c)) = true then [b] else []) ++ iK b (c :: m) n
theorem fK_snoc (m : List Int) : ∀ (p y : Int), fK p (m ++ [y]) = iK p m y ++ [y] := by
  induction m with
  | nil => intro p y; rfl
  | cons b m ih =>
    intro p y
    cases m with
    | nil =>
      show (if (decide (b > p) == decide (b > y)) = true then b :: fK b [y] else fK b [y]) = _
      simp only [iK, fK]
      split <;> rfl
    | cons c m =>
      show (if (decide (b > p) == decide (b > c)) = true then b :: fK b ((c :: m) ++ [y]) else fK b ((c :: m) ++ [y])) = _
      rw [ih b y]
      simp only [iK]
      split <;> rfl
theorem iK_snoc (m : List Int) : ∀ (p y x : Int), iK p (m ++ [y]) x = iK p m y ++ (if (decide (y > lst p m) == decide (y > x)) = true then [y] else []) := by
  induction m with
  | nil => intro p y x; rfl
  | cons b m ih =>
    intro p y x
    cases m with
    | nil => rfl
    | cons c m =>
      show (if (decide (b > p) == decide (b > c)) = true then [b] else []) ++ iK b ((c :: m) ++ [y]) x = _
      rw [ih b y x]
      simp only [iK, lst, List.append_assoc]
      rfl
/-- No one is like the one before it. -/
def Dist : Int → List Int → Prop
  | _, [] => True
  | p, b :: m => b ≠ p ∧ Dist b m
theorem dist_snoc (m : List Int) : ∀ (p y : Int), Dist p (m ++ [y]) ↔ Dist p m ∧ y ≠ lst p m := by
  induction m with
  | nil => intro p y; simp [Dist, lst]
  | cons b m ih => intro p y; simp only [List.cons_append, Dist, lst, ih b y, and_assoc]
theorem dir_turn {b p c w : Int} (h1 : b ≠ p) (h2 : c ≠ b) (hw : decide (b > w) = decide (b > p)) (hk : ¬ (decide (b > p) == decide (b > c)) = true) : decide (c > w) = decide (c > b) := by
  by_cases h : b > p
  · rw [decide_eq_true h] at hw hk
    have hw' := of_decide_eq_true hw
    by_cases h3 : b > c
    · rw [decide_eq_true h3] at hk; exact absurd rfl hk
    · rw [decide_eq_true (show c > w by omega), decide_eq_true (show c > b by omega)]
  · rw [decide_eq_false h] at hw hk
    have hw' := of_decide_eq_false hw
    by_cases h3 : b > c
    · rw [decide_eq_false (show ¬ c > w by omega), decide_eq_false (show ¬ c > b by omega)]
    · rw [decide_eq_false h3] at hk; exact absurd rfl hk
/-- From the turning point before the last on it goes one way. -/
theorem dir_acc (m : List Int) : ∀ (p b y w : Int) (q : List Int), b ≠ p → Dist b (m ++ [y]) → decide (b > w) = decide (b > p) → ∃ (q' : List Int) (w' : Int), q ++ [w] ++ iK p (b :: m) y = q' ++ [w'] ∧ decide (y > w') = decide (y > lst b m) := by
  induction m with
  | nil =>
    intro p b y w q hbp hd hw
    simp only [List.nil_append, Dist, and_true] at hd
    simp only [iK, lst]
    by_cases h : (decide (b > p) == decide (b > y)) = true
    · rw [if_pos h]; exact ⟨q ++ [w], b, rfl, rfl⟩
    · rw [if_neg h, List.append_nil]; exact ⟨q, w, rfl, dir_turn hbp hd hw h⟩
  | cons c m ih =>
    intro p b y w q hbp hd hw
    simp only [List.cons_append, Dist] at hd
    simp only [iK, lst]
    by_cases h : (decide (b > p) == decide (b > c)) = true
    · rw [if_pos h]
      obtain ⟨q', w', e, hd'⟩ := ih b c y b (q ++ [w]) hd.1 hd.2 rfl
      exact ⟨q', w', by rw [← e]; simp, hd'⟩
    · rw [if_neg h, List.nil_append]
      exact ih b c y w q hd.1 hd.2 (dir_turn hbp hd.1 hw h)
theorem dir_last (b y : Int) (m : List Int) (hd : Dist b (m ++ [y])) : ∃ (q : List Int) (w : Int), b :: iK b m y = q ++ [w] ∧ decide (y > w) = decide (y > lst b m) := by
  cases m with
  | nil => exact ⟨[], b, rfl, rfl⟩
  | cons c m =>
    simp only [List.cons_append, Dist] at hd
    obtain ⟨q', w', e, hd'⟩ := dir_acc m b c y b [] hd.1 hd.2 rfl
    exact ⟨q', w', by rw [← e]; rfl, hd'⟩
/-- One more: what was the last turns, or gives way. -/
theorem fT_snoc (b y x : Int) (m : List Int) (hd : Dist b (m ++ [y])) (hx : x ≠ y) : ∃ (q : List Int) (w : Int), fT (b :: (m ++ [y])) = q ++ [w] ++ [y] ∧ fT (b :: (m ++ [y]) ++ [x]) = if (decide (y > w) == decide (x > y)) = true then q ++ [w] ++ [x] else q ++ [w] ++ [y] ++ [x] := by
  obtain ⟨q, w, e, hw⟩ := dir_last b y m hd
  refine ⟨q, w, ?_, ?_⟩
  · show b :: fK b (m ++ [y]) = _
    rw [fK_snoc, ← List.cons_append, e]
  · show b :: fK b ((m ++ [y]) ++ [x]) = _
    rw [fK_snoc, iK_snoc, ← List.cons_append, ← List.cons_append, e, hw]
    have hdy := (dist_snoc m b y).1 hd
    by_cases h1 : y > lst b m
    · by_cases h2 : y > x
      · rw [decide_eq_true h1, decide_eq_true h2, decide_eq_false (show ¬ x > y by omega)]; rfl
      · rw [decide_eq_true h1, decide_eq_false h2, decide_eq_true (show x > y by omega)]; simp
    · by_cases h2 : y > x
      · rw [decide_eq_false h1, decide_eq_true h2, decide_eq_false (show ¬ x > y by omega)]; simp
      · rw [decide_eq_false h1, decide_eq_false h2, decide_eq_true (show x > y by omega)]; rfl
/-! ### what is no repeat -/
/-- Behind o, unless it is the last of o again. -/
def dd (o : List Int) (x : Int) : List Int := match o.reverse with
  | [] => [x]
  | y :: _ => if x = y then o else o ++ [x]
theorem dd_nil (x : Int) : dd [] x = [x] := rfl
theorem dd_same (q : List Int) (y : Int) : dd (q ++ [y]) y = q ++ [y] := by
  simp [dd]
theorem dd_new (q : List Int) (y x : Int) (h : x ≠ y) : dd (q ++ [y]) x = q ++ [y] ++ [x] := by
  simp [dd, h]
def DD (l : List Int) : List Int := l.foldl dd []
theorem DD_snoc (l : List Int) (x : Int) : DD (l ++ [x]) = dd (DD l) x := by simp [DD, List.foldl_append]
/-- A row of which no one is like the one before it. -/
def DistL : List Int → Prop
  | [] => True
  | b :: m => Dist b m
theorem DD_ok (l : List Int) (x : Int) : ∃ q, DD (l ++ [x]) = q ++ [x] := by
  rw [DD_snoc]
  unfold dd
  split
  · exact ⟨[], rfl⟩
  · rename_i y t h
    have e : DD l = t.reverse ++ [y] := by
      have := congrArg List.reverse h
      simpa using this
    split
    · rename_i hx
      exact ⟨t.reverse, by rw [e, hx]⟩
    · exact ⟨DD l, rfl⟩
theorem distL_snoc (q : List Int) (y x : Int) (h : DistL (q ++ [y])) (hx : x ≠ y) : DistL (q ++ [y] ++ [x]) := by
  cases q with
  | nil => exact ⟨hx, trivial⟩
  | cons b m =>
    show Dist b ((m ++ [y]) ++ [x])
    rw [dist_snoc]
    refine ⟨h, ?_⟩
    have e : ∀ (m : List Int) (b : Int), lst b (m ++ [y]) = y := by
      intro m
      induction m with
      | nil => intro b; rfl
      | cons c m ih => intro b; exact ih c
    rw [e]; exact hx
theorem DD_len (l : List Int) : (DD l).length ≤ l.length ∧ DistL (DD l) := by
  have : ∀ (t o : List Int), DistL o → (t.foldl dd o).length ≤ o.length + t.length ∧ DistL (t.foldl dd o) := by
    intro t
    induction t with
    | nil => intro o ho; exact ⟨by simp, ho⟩
    | cons x t ih =>
      intro o ho
      have h1 : (dd o x).length ≤ o.length + 1 ∧ DistL (dd o x) := by
        unfold dd
        split
        · exact ⟨by simp, trivial⟩
        · rename_i y r h
          have e : o = r.reverse ++ [y] := by
            have := congrArg List.reverse h
            simpa using this
          split
          · exact ⟨by omega, ho⟩
          · rename_i hx
            exact ⟨by simp, by rw [e] at ho ⊢; exact distL_snoc _ _ _ ho hx⟩
      obtain ⟨h2, h3⟩ := ih (dd o x) h1.2
      exact ⟨by simp only [List.foldl_cons, List.length_cons]; omega, h3⟩
  simpa [DD] using this l [] trivial
theorem fK_len (m : List Int) : ∀ p, (fK p m).length ≤ m.length := by
  induction m with
  | nil => intro p; simp [fK]
  | cons b m ih =>
    intro p
    cases m with
    | nil => simp [fK]
    | cons c m =>
      have := ih b
      simp only [fK]
      split <;> simp only [List.length_cons] at * <;> omega
theorem fT_len (l : List Int) : (fT l).length ≤ l.length := by
  cases l with
  | nil => simp [fT]
  | cons b m => have := fK_len m b; simp only [fT, List.length_cons]; omega
/-! ### the loops -/
theorem own_intsT (l : List Int) (h : l.length ≤ 1048576) : impl_own_int.f l = some l := by
  unfold impl_own_int.f
  rw [if_pos (by omega), if_pos (by omega), Option.bind_some, if_pos (by simp; omega)]; rfl
theorem drop_cons2 {l : List Int} {i : Int} (h0 : 0 ≤ i) (h1 : i < l.length) (h2 : i + 1 < l.length) : l.drop i.toNat = rd l i :: rd l (i + 1) :: l.drop (i + 1 + 1).toNat := by
  rw [drop_rd h0 h1, drop_rd (by omega) h2]
theorem keep_loop (l : List Int) (hl : l.length ≤ 1000) (d : Nat) : ∀ (o : List Int) (j : Int), 1 ≤ j → j ≤ l.length → (l.length : Int) - j = d → o.length ≤ 1000 + j.toNat → ∀ k, d < k → impl_Turns.l1 k l o l (l.length : Int) j = some (o ++ fK (rd l (j - 1)) (l.drop j.toNat)) := by
  induction d with
  | zero =>
    intro o j h0 h1 hd ho k hk
    obtain ⟨k, rfl⟩ := pos_round (show 0 < k by omega)
    simp only [impl_Turns.l1]
    rw [if_neg (by omega), own_intsT o (by omega), Option.bind_some, List.drop_eq_nil_of_le (by omega)]
    simp [fK]
  | succ d ih =>
    intro o j h0 h1 hd ho k hk
    obtain ⟨k, rfl⟩ := pos_round (show 0 < k by omega)
    have hlt : j < (l.length : Int) := by omega
    simp only [impl_Turns.l1]
    rw [if_pos hlt, if_pos (by omega), if_pos hlt, if_neg (by omega), w64 (x := (l.length : Int) - 1) (by omega) (by omega), w64 (x := j + 1) (by omega) (by omega), w64 (x := j - 1) (by omega) (by omega)]
    by_cases c : j = (l.length : Int) - 1
    · rw [if_pos c, if_pos (by omega), ih (o ++ [rd l j]) (j + 1) (by omega) (by omega) (by omega) (by simp; omega) k (by omega), drop_rd (by omega) hlt, List.drop_eq_nil_of_le (show l.length ≤ (j + 1).toNat by omega)]
      simp [fK]
    · rw [if_neg c, if_pos (by omega), if_pos (by omega), if_pos (by omega), if_pos (by omega), drop_cons2 (by omega) hlt (by omega)]
      simp only [fK]
      have e : rd l (j + 1) :: l.drop (j + 1 + 1).toNat = l.drop (j + 1).toNat := (drop_rd (by omega) (by omega)).symm
      rw [e]
      by_cases c2 : (decide (rd l j > rd l (j - 1)) == decide (rd l j > rd l (j + 1))) = true
      · rw [if_pos c2, if_pos c2, if_pos (by omega), ih (o ++ [rd l j]) (j + 1) (by omega) (by omega) (by omega) (by simp; omega) k (by omega), show j + 1 - 1 = j by omega]
        simp
      · rw [if_neg c2, if_neg c2, ih o (j + 1) (by omega) (by omega) (by omega) (by omega) k (by omega), show j + 1 - 1 = j by omega]
theorem keep_all (l : List Int) (hl : l.length ≤ 1000) (k : Nat) (hk : l.length < k) : impl_Turns.l1 k l [] l (l.length : Int) 0 = some (fT l) := by
  obtain ⟨k, rfl⟩ := pos_round (show 0 < k by omega)
  by_cases h : l.length = 0
  · have : l = [] := List.eq_nil_of_length_eq_zero h
    subst this
    simp only [impl_Turns.l1]
    rw [if_neg (by simp), own_intsT [] (by simp), Option.bind_some]; rfl
  · have hd := drop_rd (l := l) (i := 0) (by omega) (by omega)
    simp only [Int.toNat_zero, List.drop_zero] at hd
    have hk2 := keep_loop l hl (l.length - 1) ([] ++ [rd l 0]) 1 (by omega) (by omega) (by omega) (by simp) k (by omega)
    simp only [impl_Turns.l1]
    rw [if_pos (by omega), if_pos (by omega), if_pos (by omega), if_pos trivial, if_pos (by simp), w64 (x := 0 + 1) (by omega) (by omega), show (0 : Int) + 1 = 1 by omega, hk2]
    congr 1
    conv => rhs; rw [hd]
    rfl
theorem once_loop (a : List Int) (ha : a.length ≤ 200) (d : Nat) : ∀ (i : Int), 0 ≤ i → i ≤ a.length → (a.length : Int) - i = d → ∀ k, 300 + d < k → impl_Turns.l0 k a (DD (a.take i.toNat)) a (a.length : Int) i = some (fT (DD a)) := by
  induction d with
  | zero =>
    intro i h0 h1 hd k hk
    obtain ⟨k, rfl⟩ := pos_round (show 0 < k by omega)
    have hl := (DD_len a).1
    simp only [impl_Turns.l0]
    rw [if_neg (by omega), List.take_of_length_le (by omega)]
    exact keep_all (DD a) (by omega) k (by omega)
  | succ d ih =>
    intro i h0 h1 hd k hk
    obtain ⟨k, rfl⟩ := pos_round (show 0 < k by omega)
    have hlt : i < (a.length : Int) := by omega
    have hl := (DD_len (a.take i.toNat)).1
    have hl2 : (a.take i.toNat).length ≤ 200 := by simp; omega
    have hI := ih (i + 1) (by omega) (by omega) (by omega) k (by omega)
    rw [take_rd h0 hlt, DD_snoc] at hI
    simp only [impl_Turns.l0]
    rw [if_pos hlt, if_pos h0, if_pos hlt, w64 (x := i + 1) (by omega) (by omega)]
    by_cases c : i = 0
    · subst c
      rw [if_pos rfl]
      simp only [Int.toNat_zero, List.take_zero] at hI
      rw [show DD [] = [] from rfl, dd_nil] at hI
      rw [if_pos (show (DD (a.take (Int.toNat 0))).length < 17592186044416 by omega)]
      exact hI
    · rw [if_neg c, w64 (x := i - 1) (by omega) (by omega), if_pos (by omega), if_pos (by omega)]
      obtain ⟨q, hq⟩ := DD_ok (a.take (i - 1).toNat) (rd a (i - 1))
      rw [← take_rd (by omega) (by omega), show i - 1 + 1 = i by omega] at hq
      rw [hq] at hI ⊢
      by_cases c2 : rd a i = rd a (i - 1)
      · rw [if_pos c2]
        rw [c2, dd_same] at hI
        exact hI
      · rw [if_neg c2, if_pos (by first | omega | (rw [← hq]; omega))]
        rw [dd_new _ _ _ c2] at hI
        exact hI
theorem rd_prev {q : List Int} {w y : Int} : rd (q ++ [w] ++ [y]) (((q ++ [w] ++ [y]).length : Int) - 2) = w := by
  rw [show (((q ++ [w] ++ [y]).length : Nat) : Int) - 2 = (q.length : Int) by first | (simp; done) | (simp; omega), List.append_assoc, rd_append_right (Int.le_refl _), Int.sub_self]; rfl
theorem rd_end {q : List Int} {y : Int} : rd (q ++ [y]) (((q ++ [y]).length : Int) - 1) = y := by
  rw [show (((q ++ [y]).length : Nat) : Int) - 1 = (q.length : Int) by simp]; exact rd_last
theorem set_end {q : List Int} {y x : Int} : (q ++ [y]).set (((q ++ [y]).length : Int) - 1).toNat x = q ++ [x] := by
  rw [show ((((q ++ [y]).length : Nat) : Int) - 1).toNat = q.length by simp]
  simp
theorem pass_loop (a : List Int) (ha : a.length ≤ 200) (d : Nat) : ∀ (i : Int), 0 ≤ i → i ≤ a.length → (a.length : Int) - i = d → ∀ k, 2 * d < k → spec_Turns.l0 k a (fT (DD (a.take i.toNat))) i = some (fT (DD a)) := by
  induction d with
  | zero =>
    intro i h0 h1 hd k hk
    obtain ⟨k, rfl⟩ := pos_round (show 0 < k by omega)
    simp only [spec_Turns.l0]
    rw [if_neg (by omega), List.take_of_length_le (by omega)]
  | succ d ih =>
    intro i h0 h1 hd k hk
    obtain ⟨k, rfl⟩ : ∃ j, k = j + 2 := ⟨k - 2, by omega⟩
    have hlt : i < (a.length : Int) := by omega
    have hI := ih (i + 1) (by omega) (by omega) (by omega) k (by omega)
    rw [take_rd h0 hlt, DD_snoc] at hI
    have hl2 : (a.take i.toNat).length ≤ 200 := by simp; omega
    obtain ⟨hl, hdist⟩ := DD_len (a.take i.toNat)
    have hf := fT_len (DD (a.take i.toNat))
    generalize DD (a.take i.toNat) = l at hI hl hdist hf ⊢
    generalize hx : rd a i = x at hI
    -- the row so far: empty, one, or more
    have hcase : l = [] ∨ (∃ y, l = [y]) ∨ ∃ b m y, l = b :: (m ++ [y]) := by
      cases l with
      | nil => exact .inl rfl
      | cons b m =>
        rcases List.eq_nil_or_concat m with rfl | ⟨m', y, rfl⟩
        · exact .inr (.inl ⟨b, rfl⟩)
        · exact .inr (.inr ⟨b, m', y, by simp⟩)
    rcases hcase with rfl | ⟨y, rfl⟩ | ⟨b, m, y, rfl⟩
    · rw [dd_nil] at hI
      rw [show fT [x] = [x] from rfl] at hI
      rw [show fT [] = [] from rfl]
      simp only [spec_Turns.l0, spec_Turns.j2]
      rw [if_pos hlt, if_neg (by first | omega | (simp; done) | (simp; omega) | (show 1 < _; omega)), if_neg (by first | omega | (simp; done) | (simp; omega) | (show 1 < _; omega)), if_neg (by first | omega | (simp; done) | (simp; omega) | (show 1 < _; omega)), if_pos h0, if_pos hlt, if_pos (by first | omega | (simp; done) | (simp; omega) | (show 1 < _; omega)), w64 (x := i + 1) (by omega) (by omega), hx]
      exact hI
    · have e1 : rd [y] (([y].length : Int) - 1) = y := rfl
      rw [show fT [y] = [y] from rfl]
      simp only [spec_Turns.l0, spec_Turns.j2]
      rw [if_pos hlt, if_pos (by first | omega | (simp; done) | (simp; omega) | (show 1 < _; omega)), w64 (x := (([y].length : Nat) : Int) - 1) (by first | omega | (simp; done) | (simp; omega) | (show 1 < _; omega)) (by first | omega | (simp; done) | (simp; omega) | (show 1 < _; omega)), if_pos (by first | omega | (simp; done) | (simp; omega) | (show 1 < _; omega)), if_pos (by first | omega | (simp; done) | (simp; omega) | (show 1 < _; omega)), if_pos h0, e1, hx, w64 (x := i + 1) (by omega) (by omega)]
      by_cases c : x = y
      · subst c
        rw [show dd [x] x = [x] from dd_same [] x] at hI
        rw [show fT [x] = [x] from rfl] at hI
        rw [if_pos (by first | omega | (simp; done) | (simp; omega) | (show 1 < _; omega))]
        exact hI
      · rw [show dd [y] x = [y] ++ [x] from dd_new [] y x c] at hI
        rw [if_neg (by simpa using fun h => c h.symm), if_neg (by first | omega | (simp; done) | (simp; omega) | (show 1 < _; omega)), if_pos hlt, if_pos (by first | omega | (simp; done) | (simp; omega) | (show 1 < _; omega))]
        exact hI
    · by_cases c : x = y
      · subst c
        rw [show dd (b :: (m ++ [x])) x = b :: (m ++ [x]) from dd_same (b :: m) x] at hI
        have e : ∃ q, fT (b :: (m ++ [x])) = q ++ [x] := ⟨b :: iK b m x, by show b :: fK b (m ++ [x]) = _; rw [fK_snoc]; rfl⟩
        obtain ⟨q, e⟩ := e
        rw [e] at hI hf ⊢
        simp only [List.length_append, List.length_cons, List.length_nil] at hf hl
        simp only [spec_Turns.l0, spec_Turns.j2]
        rw [if_pos hlt, if_pos (by first | omega | (simp; done) | (simp; omega) | (show 1 < _; omega)), w64 (x := (((q ++ [x]).length : Nat) : Int) - 1) (by first | omega | (simp; done) | (simp; omega) | (show 1 < _; omega)) (by first | omega | (simp; done) | (simp; omega) | (show 1 < _; omega)), if_pos (by first | omega | (simp; done) | (simp; omega) | (show 1 < _; omega)), if_pos (by omega), if_pos h0, rd_end, hx, w64 (x := i + 1) (by omega) (by omega), if_pos (by first | omega | (simp; done) | (simp; omega) | (show 1 < _; omega))]
        exact hI
      · rw [show dd (b :: (m ++ [y])) x = b :: (m ++ [y]) ++ [x] from dd_new (b :: m) y x c] at hI
        obtain ⟨q, w, e1, e2⟩ := fT_snoc b y x m hdist c
        rw [e2] at hI
        rw [e1] at hf ⊢
        simp only [List.length_append, List.length_cons, List.length_nil] at hf hl
        simp only [spec_Turns.l0, spec_Turns.j2]
        rw [if_pos hlt, if_pos (by first | omega | (simp; done) | (simp; omega) | (show 1 < _; omega)), w64 (x := (((q ++ [w] ++ [y]).length : Nat) : Int) - 1) (by first | omega | (simp; done) | (simp; omega) | (show 1 < _; omega)) (by first | omega | (simp; done) | (simp; omega) | (show 1 < _; omega)), w64 (x := (((q ++ [w] ++ [y]).length : Nat) : Int) - 2) (by first | omega | (simp; done) | (simp; omega) | (show 1 < _; omega)) (by first | omega | (simp; done) | (simp; omega) | (show 1 < _; omega)), if_pos (by first | omega | (simp; done) | (simp; omega) | (show 1 < _; omega)), if_pos (by omega), if_pos h0, rd_end, hx, w64 (x := i + 1) (by omega) (by omega), if_neg (by simpa using fun h => c h.symm), if_pos (by first | omega | (simp; done) | (simp; omega) | (show 1 < _; omega)), if_pos (by first | omega | (simp; done) | (simp; omega) | (show 1 < _; omega)), if_pos (by omega), if_pos (by first | omega | (simp; done) | (simp; omega) | (show 1 < _; omega)), if_pos (by first | omega | (simp; done) | (simp; omega) | (show 1 < _; omega)), if_pos h0, if_pos hlt, rd_prev]
        by_cases c2 : (decide (y > w) == decide (x > y)) = true
        · rw [if_pos c2] at hI ⊢
          rw [set_end]; exact hI
        · rw [if_neg c2] at hI ⊢
          rw [if_pos (by first | omega | (simp; done) | (simp; omega) | (show 1 < _; omega))]; exact hI
/-! ### the tests of a whole row, and the law's own words -/
theorem in_okT (a b c : Int) : spec_l1In.f a b c = some (decide (b ≤ a) && decide (a ≤ c)) := by
  unfold spec_l1In.f
  by_cases h : a ≥ b
  · rw [if_pos h, decide_eq_true (show b ≤ a from h)]; rfl
  · rw [if_neg h, decide_eq_false (show ¬ b ≤ a from h)]; rfl
theorem l3_loop (l : List Int) (a b : Int) (hn : l.length ≤ 1000000000) (d : Nat) : ∀ (i : Int), 0 ≤ i → i ≤ l.length → (l.length : Int) - i = d → ∀ k, d < k → spec_l3All.l0 k l a b i = some ((l.drop i.toNat).all fun x => decide (a ≤ x) && decide (x ≤ b)) := by
  induction d with
  | zero =>
    intro i h0 h1 hd k hk
    obtain ⟨k, rfl⟩ := pos_round (show 0 < k by omega)
    simp only [spec_l3All.l0]
    rw [if_neg (by omega), List.drop_eq_nil_of_le (by omega)]; rfl
  | succ d ih =>
    intro i h0 h1 hd k hk
    obtain ⟨k, rfl⟩ := pos_round (show 0 < k by omega)
    simp only [spec_l3All.l0]
    rw [if_pos (by omega), if_pos h0, in_okT, Option.bind_some, w64 (x := i + 1) (by omega) (by omega), ih (i + 1) (by omega) (by omega) (by omega) k (by omega), drop_rd h0 (by omega), List.all_cons]
    by_cases c : (decide (a ≤ rd l i) && decide (rd l i ≤ b)) = true
    · rw [if_pos c, c, Bool.true_and]
    · rw [if_neg c, Bool.eq_false_iff.2 c, Bool.false_and]
theorem l3_ok (l : List Int) (a b : Int) (hn : l.length ≤ 1000000000) (k : Nat) (hk : l.length < k) : spec_l3All.f k l a b = some (l.all fun x => decide (a ≤ x) && decide (x ≤ b)) := by
  unfold spec_l3All.f
  rw [l3_loop l a b hn l.length 0 (by omega) (by omega) (by omega) k hk]; rfl
theorem turns_same (a : List Int) (hn : a.length ≤ 1048576) : ∃ r : List Int, r.length ≤ 200 ∧ ∀ k, 1048600 < k → spec_Turns.f k a = some r ∧ impl_Turns.f k a = some r := by
  by_cases h : a.length ≤ 200
  · by_cases c : (a.all fun x => decide (-1000000000 ≤ x) && decide (x ≤ 1000000000)) = true
    · have hl1 := (DD_len a).1
      have hl2 := fT_len (DD a)
      refine ⟨fT (DD a), by omega, fun k hk => ?_⟩
      obtain ⟨k, rfl⟩ := pos_round (show 0 < k by omega)
      unfold spec_Turns.f impl_Turns.f impl_all.f
      rw [Option.bind_some, if_neg (by omega), if_neg (by omega), l3_ok a _ _ (by omega) _ (by omega), c, Option.bind_some, Option.bind_some]
      simp only [spec_Turns.j0, impl_Turns.j0, Bool.not_true, Bool.false_eq_true, if_false]
      have h1 := pass_loop a h a.length 0 (by omega) (by omega) (by omega) k (by omega)
      have h2 := once_loop a h a.length 0 (by omega) (by omega) (by omega) k (by omega)
      exact ⟨h1, h2⟩
    · refine ⟨[], by simp, fun k hk => ?_⟩
      obtain ⟨k, rfl⟩ := pos_round (show 0 < k by omega)
      unfold spec_Turns.f impl_Turns.f impl_all.f
      rw [Option.bind_some, if_neg (by omega), if_neg (by omega), l3_ok a _ _ (by omega) _ (by omega), Bool.eq_false_iff.2 c, Option.bind_some, Option.bind_some]
      simp only [spec_Turns.j0, impl_Turns.j0, Bool.not_false, if_true]; exact ⟨trivial, trivial⟩
  · refine ⟨[], by simp, fun k hk => ?_⟩
    obtain ⟨k, rfl⟩ := pos_round (show 0 < k by omega)
    unfold spec_Turns.f impl_Turns.f
    rw [Option.bind_some, if_pos (by omega), if_pos (by omega)]
    simp only [spec_Turns.j0, impl_Turns.j0, if_true]; exact ⟨trivial, trivial⟩
theorem rd38_lt {l : List S38} {i : Int} (h0 : 0 ≤ i) (h1 : i < l.length) : ∃ h : i.toNat < l.length, rd_T38 l i = l[i.toNat]'h := by
  have h : i.toNat < l.length := by omega
  exact ⟨h, by simp [rd_T38, List.getD_eq_getElem?_getD, List.getElem?_eq_getElem h]⟩
theorem rd38_mem {l : List S38} {i : Int} (h0 : 0 ≤ i) (h1 : i < l.length) : rd_T38 l i ∈ l := by
  obtain ⟨h, e⟩ := rd38_lt h0 h1
  rw [e]; exact List.getElem_mem h
theorem rd38_drop {l : List S38} {i : Int} (h0 : 0 ≤ i) (h1 : i < l.length) : l.drop i.toNat = rd_T38 l i :: l.drop (i + 1).toNat := by
  obtain ⟨h, e⟩ := rd38_lt h0 h1
  rw [e, show (i + 1).toNat = i.toNat + 1 by omega, List.drop_eq_getElem_cons h]
theorem rd38_take {l : List S38} {i : Int} (h0 : 0 ≤ i) (h1 : i < l.length) : l.take (i + 1).toNat = l.take i.toNat ++ [rd_T38 l i] := by
  obtain ⟨h, e⟩ := rd38_lt h0 h1
  rw [e, show (i + 1).toNat = i.toNat + 1 by omega, List.take_succ_eq_append_getElem h]
theorem rd38_set_eq {l : List S38} {i : Int} {x : S38} (h0 : 0 ≤ i) (h1 : i < l.length) : rd_T38 (l.set i.toNat x) i = x := by
  simp [rd_T38, List.getD_eq_getElem?_getD, List.getElem?_set, show i.toNat < l.length by omega]
theorem rd38_set_ne {l : List S38} {i j : Int} {x : S38} (h0 : 0 ≤ i) (hj : 0 ≤ j) (h : i ≠ j) : rd_T38 (l.set i.toNat x) j = rd_T38 l j := by
  simp [rd_T38, List.getD_eq_getElem?_getD, List.getElem?_set, show ¬ i.toNat = j.toNat by omega]
theorem rd38_append_left {l m : List S38} {i : Int} (h0 : 0 ≤ i) (h1 : i < l.length) : rd_T38 (l ++ m) i = rd_T38 l i := by
  simp [rd_T38, List.getD_eq_getElem?_getD, List.getElem?_append_left (show i.toNat < l.length by omega)]
theorem rd38_last {l : List S38} {x : S38} : rd_T38 (l ++ [x]) (l.length : Int) = x := by
  simp [rd_T38, List.getD_eq_getElem?_getD]
theorem ext38 {l m : List S38} (h : l.length = m.length) (hr : ∀ i : Int, 0 ≤ i → i < l.length → rd_T38 l i = rd_T38 m i) : l = m := by
  apply List.ext_getElem h
  intro i h1 h2
  have := hr i (by omega) (by omega)
  simpa [rd_T38, List.getD_eq_getElem?_getD, List.getElem?_eq_getElem h1, List.getElem?_eq_getElem h2] using this

/-! ### swings, over lists: the pile is told from its top -/
def sz (a : Int) : Int := if a < 0 then wrap64 (-a) else a
/-- How far it is from b to a. -/
def Df (a b : Int) : Int := sz (wrap64 (a - b))
/-- p comes upon the pile: what is over is told. -/
def red : List S38 → Int → List Int → List S38 × List Int
  | o, p, [] => (o, [p])
  | o, p, [x] => (o, [p, x])
  | o, p, [x, y] => if Df p x < Df x y then (o, [p, x, y]) else (o ++ [⟨Df x y, true⟩], [p, x])
  | o, p, x :: y :: z :: r => if Df p x < Df x y then (o, p :: x :: y :: z :: r) else red (o ++ [⟨Df x y, false⟩]) p (z :: r)
/-- What is left in the end. -/
def finL : List Int → List S38
  | a :: b :: t => ⟨Df b a, true⟩ :: finL (b :: t)
  | _ => []
def SW (T : List Int) : List S38 :=
  let os := T.foldl (fun os x => red os.1 x os.2) ([], [])
  os.1 ++ finL os.2.reverse
theorem red_len (n : Nat) : ∀ (s : List Int) (o : List S38) (p : Int), s.length ≤ n → (red o p s).1.length + (red o p s).2.length ≤ o.length + s.length + 1 := by
  induction n with
  | zero =>
    intro s o p h
    obtain rfl : s = [] := List.length_eq_zero_iff.1 (by omega)
    simp [red]
  | succ n ih =>
    intro s o p h
    match s with
    | [] => simp [red]
    | [x] => simp [red]
    | [x, y] =>
      unfold red
      split <;> simp
    | x :: y :: z :: r =>
      unfold red
      split
      · simp only [List.length_cons]; omega
      · have := ih (z :: r) (o ++ [⟨Df x y, false⟩]) p (by simp only [List.length_cons] at h ⊢; omega)
        simp only [List.length_append, List.length_cons, List.length_nil] at this ⊢
        omega
/-- The last ones of a row. -/
theorem top1 (q : List Int) (p : Int) : rd (q ++ [p]) (((q ++ [p]).length : Int) - 1) = p := by
  rw [show (((q ++ [p]).length : Int) - 1) = (q.length : Int) by simp]
  exact rd_last
theorem top2 (q : List Int) (x p : Int) : rd (q ++ [x, p]) (((q ++ [x, p]).length : Int) - 2) = x := by
  rw [show (((q ++ [x, p]).length : Int) - 2) = (q.length : Int) by simp, show q ++ [x, p] = (q ++ [x]) ++ [p] by simp, rd_append_left (by omega) (by simp; omega)]
  exact rd_last
theorem top3 (q : List Int) (y x p : Int) : rd (q ++ [y, x, p]) (((q ++ [y, x, p]).length : Int) - 3) = y := by
  rw [show (((q ++ [y, x, p]).length : Int) - 3) = (q.length : Int) by simp, show q ++ [y, x, p] = (q ++ [y]) ++ [x, p] by simp, rd_append_left (by omega) (by simp; omega)]
  exact rd_last
theorem size_i (a : Int) : impl_size.f a = some (sz a) := by
  unfold impl_size.f sz
  split <;> rfl
/-- One round of the inner loop, of the program, at a pile of three at least. -/
theorem impl_round (k : Nat) (o : List S38) (q : List Int) (y x p : Int) (T : List Int) (n i : Int) (ho : o.length ≤ 1000) (hq : q.length ≤ 1000) : impl_Swings.l1 (k + 1) o (q ++ [y, x, p]) T n i =
    if Df p x < Df x y then impl_Swings.l0 k o (q ++ [y, x, p]) T n (wrap64 (i + 1)) else if q = [] then impl_Swings.l1 k (o ++ [⟨Df x y, true⟩]) [x, p] T n i else impl_Swings.l1 k (o ++ [⟨Df x y, false⟩]) (q ++ [p]) T n i := by
  have hl : ((q ++ [y, x, p]).length : Int) = q.length + 3 := by simp
  have t1 : rd (q ++ [y, x, p]) ((q.length : Int) + 2) = p := by
    have := top1 (q ++ [y, x]) p
    simp only [List.append_assoc, List.cons_append, List.nil_append] at this
    rw [hl, show (q.length : Int) + 3 - 1 = q.length + 2 by omega] at this
    exact this
  have t2 : rd (q ++ [y, x, p]) ((q.length : Int) + 1) = x := by
    have := top2 (q ++ [y]) x p
    simp only [List.append_assoc, List.cons_append, List.nil_append] at this
    rw [hl, show (q.length : Int) + 3 - 2 = q.length + 1 by omega] at this
    exact this
  have t3 : rd (q ++ [y, x, p]) ((q.length : Int)) = y := by
    have := top3 q y x p
    rw [hl, show (q.length : Int) + 3 - 3 = q.length by omega] at this
    exact this
  have e1 : wrap64 ((q.length : Int) + 3 - 1) = q.length + 2 := by rw [w64 (by omega) (by omega)]; omega
  have e2 : wrap64 ((q.length : Int) + 3 - 2) = q.length + 1 := by rw [w64 (by omega) (by omega)]; omega
  have e3 : wrap64 ((q.length : Int) + 3 - 3) = q.length := by rw [w64 (by omega) (by omega)]; omega
  simp only [impl_Swings.l1]
  rw [hl, e1, e2, e3, t1, t2, t3, if_pos (by omega), if_pos (by omega), if_pos (by omega), if_pos (by omega), if_pos (by omega), size_i, Option.bind_some, if_pos (by omega), if_pos (by omega), size_i, Option.bind_some]
  show (if Df p x < Df x y then _ else _) = _
  by_cases c : Df p x < Df x y
  · rw [if_pos c, if_pos c]
  · rw [if_neg c, if_neg c, if_pos (by omega : o.length < 8796093022208)]
    by_cases h : q = []
    · subst h
      rw [if_pos (by simp), if_pos (by simp), if_pos rfl]
      rfl
    · have hpos : 0 < q.length := List.length_pos_iff.2 h
      rw [if_neg (by omega), if_neg h, if_pos (by omega), if_pos (by omega), if_pos (by omega), show ((q.length : Int)).toNat = q.length by omega, List.take_left, if_pos (by omega)]
      rfl
theorem impl_short (k : Nat) (o : List S38) (s T : List Int) (n i : Int) (h : s.length < 3) : impl_Swings.l1 (k + 1) o s T n i = impl_Swings.l0 k o s T n (wrap64 (i + 1)) := by
  simp only [impl_Swings.l1]
  rw [if_neg (by omega)]
theorem impl_red (n0 : Nat) : ∀ (s : List Int) (o : List S38) (p : Int) (T : List Int) (n i : Int), s.length ≤ n0 → o.length + s.length ≤ 900 → ∃ c, c ≤ s.length ∧ ∀ k, impl_Swings.l1 (k + c + 1) o (s.reverse ++ [p]) T n i = impl_Swings.l0 k (red o p s).1 (red o p s).2.reverse T n (wrap64 (i + 1)) := by
  induction n0 with
  | zero =>
    intro s o p T n i h hb
    obtain rfl : s = [] := List.length_eq_zero_iff.1 (by omega)
    exact ⟨0, by simp, fun k => impl_short k o [p] T n i (by simp)⟩
  | succ n0 ih =>
    intro s o p T n i h hb
    match s with
    | [] => exact ⟨0, by simp, fun k => impl_short k o [p] T n i (by simp)⟩
    | [x] => exact ⟨0, by simp, fun k => impl_short k o [x, p] T n i (by simp)⟩
    | [x, y] =>
      by_cases c : Df p x < Df x y
      · refine ⟨0, by simp, fun k => ?_⟩
        have := impl_round k o [] y x p T n i (by omega) (by simp)
        rw [if_pos c] at this
        unfold red
        rw [if_pos c]
        exact this
      · refine ⟨1, by simp, fun k => ?_⟩
        have := impl_round (k + 1) o [] y x p T n i (by omega) (by simp)
        rw [if_neg c, if_pos rfl, impl_short k _ _ T n i (by simp)] at this
        unfold red
        rw [if_neg c]
        exact this
    | x :: y :: z :: r =>
      have hs : (x :: y :: z :: r).reverse ++ [p] = (z :: r).reverse ++ [y, x, p] := by simp
      simp only [List.length_cons] at h hb
      by_cases c : Df p x < Df x y
      · refine ⟨0, by simp, fun k => ?_⟩
        have := impl_round k o (z :: r).reverse y x p T n i (by omega) (by simp; omega)
        rw [if_pos c] at this
        unfold red
        rw [if_pos c, hs, this]
        simp
      · obtain ⟨c2, h2, e⟩ := ih (z :: r) (o ++ [⟨Df x y, false⟩]) p T n i (by simp only [List.length_cons]; omega) (by simp only [List.length_append, List.length_cons, List.length_nil]; omega)
        refine ⟨c2 + 1, by simp only [List.length_cons] at h2 ⊢; omega, fun k => ?_⟩
        have := impl_round (k + c2 + 1) o (z :: r).reverse y x p T n i (by omega) (by simp; omega)
        rw [if_neg c, if_neg (by simp)] at this
        unfold red
        rw [if_neg c, hs, show k + (c2 + 1) + 1 = k + c2 + 1 + 1 from rfl, this]
        exact e k
def stepS (os : List S38 × List Int) (x : Int) : List S38 × List Int := red os.1 x os.2
theorem impl_out (T : List Int) (hT : T.length ≤ 400) (d : Nat) : ∀ (os : List S38 × List Int) (i : Int), 0 ≤ i → i ≤ T.length → ((T.length : Int) - i).toNat = d → os.1.length + os.2.length ≤ i.toNat →
    ∃ c, c ≤ 1000 * d ∧ ∀ k, impl_Swings.l0 (k + c + 1) os.1 os.2.reverse T (T.length : Int) i = impl_Swings.l2 k ((T.drop i.toNat).foldl stepS os).1 ((T.drop i.toNat).foldl stepS os).2.reverse 1 := by
  induction d with
  | zero =>
    intro os i h0 h1 hd hb
    refine ⟨0, by omega, fun k => ?_⟩
    simp only [impl_Swings.l0]
    rw [if_neg (by omega), List.drop_of_length_le (by omega)]
    rfl
  | succ d ih =>
    intro os i h0 h1 hd hb
    have hi : i < (T.length : Int) := by omega
    obtain ⟨c1, hc1, e1⟩ := impl_red os.2.length os.2 os.1 (rd T i) T (T.length : Int) i (Nat.le_refl _) (by omega)
    have hlen := red_len os.2.length os.2 os.1 (rd T i) (Nat.le_refl _)
    obtain ⟨c2, hc2, e2⟩ := ih (stepS os (rd T i)) (i + 1) (by omega) (by omega) (by omega) (by show (red os.1 (rd T i) os.2).1.length + (red os.1 (rd T i) os.2).2.length ≤ _; omega)
    refine ⟨c2 + 1 + c1 + 1, by omega, fun k => ?_⟩
    rw [show k + (c2 + 1 + c1 + 1) + 1 = ((k + c2 + 1) + c1 + 1) + 1 by omega]
    obtain ⟨m, hm⟩ : ∃ m, m = (k + c2 + 1) + c1 + 1 := ⟨_, rfl⟩
    rw [← hm]
    simp only [impl_Swings.l0]
    rw [if_pos hi, if_pos h0, if_pos hi, if_pos (by rw [List.length_reverse]; omega), hm, e1, w64 (x := i + 1) (by omega) (by omega), drop_rd h0 hi]
    exact e2 k
theorem own_sw (l : List S38) (h : l.length ≤ 100000) : impl_Swing.f l = some l := by
  unfold impl_Swing.f
  rw [if_pos (by omega), if_pos (by omega), Option.bind_some, if_pos (by simp; omega)]
  rfl
theorem impl_fin (L : List Int) (hL : L.length ≤ 1000) (d : Nat) : ∀ (o : List S38) (j : Int), 1 ≤ j → j ≤ L.length → ((L.length : Int) - j).toNat = d → o.length ≤ 1000 + j.toNat → ∀ k, impl_Swings.l2 (k + d + 1) o L j = some (o ++ finL (L.drop (j - 1).toNat)) := by
  induction d with
  | zero =>
    intro o j h0 h1 hd ho k
    have hj : j = L.length := by omega
    simp only [impl_Swings.l2]
    rw [if_neg (by omega), own_sw o (by omega), Option.bind_some, drop_rd (by omega) (by omega), List.drop_of_length_le (by omega)]
    simp [finL]
  | succ d ih =>
    intro o j h0 h1 hd ho k
    have e := ih (o ++ [⟨Df (rd L j) (rd L (j - 1)), true⟩]) (j + 1) (by omega) (by omega) (by omega) (by simp; omega) k
    rw [show k + (d + 1) + 1 = (k + d + 1) + 1 from rfl]
    obtain ⟨m, hm⟩ : ∃ m, m = k + d + 1 := ⟨_, rfl⟩
    rw [← hm] at e ⊢
    simp only [impl_Swings.l2]
    rw [if_pos (by omega), if_pos (by omega), w64 (x := j - 1) (by omega) (by omega), if_pos (by omega), if_pos (by omega), size_i, Option.bind_some, if_pos (by omega), w64 (x := j + 1) (by omega) (by omega)]
    refine e.trans ?_
    rw [show (j + 1 - 1 : Int) = j by omega, show L.drop (j - 1).toNat = rd L (j - 1) :: rd L j :: L.drop (j + 1).toNat by
      rw [drop_rd (l := L) (i := j - 1) (by omega) (by omega), show (j - 1 + 1 : Int) = j by omega, drop_rd (l := L) (i := j) (by omega) (by omega)], show L.drop j.toNat = rd L j :: L.drop (j + 1).toNat from drop_rd (by omega) (by omega)]
    simp [finL, List.append_assoc, Df]
theorem foldl_len (T : List Int) : ∀ os : List S38 × List Int, (T.foldl stepS os).1.length + (T.foldl stepS os).2.length ≤ os.1.length + os.2.length + T.length := by
  induction T with
  | nil => intro os; simp
  | cons x T ih =>
    intro os
    have h1 := ih (stepS os x)
    have h2 : (stepS os x).1.length + (stepS os x).2.length ≤ os.1.length + os.2.length + 1 := red_len os.2.length os.2 os.1 x (Nat.le_refl _)
    simp only [List.foldl_cons, List.length_cons]
    omega
theorem finL_len (L : List Int) : (finL L).length ≤ L.length := by
  induction L with
  | nil => simp [finL]
  | cons a t ih =>
    cases t with
    | nil => simp [finL]
    | cons b t => simp only [finL, List.length_cons] at ih ⊢; omega
theorem SW_len (T : List Int) : (SW T).length ≤ T.length := by
  have h1 := foldl_len T ([], [])
  have h2 := finL_len (T.foldl stepS ([], [])).2.reverse
  simp only [List.length_nil, List.length_reverse] at h1 h2
  show ((T.foldl stepS ([], [])).1 ++ finL (T.foldl stepS ([], [])).2.reverse).length ≤ _
  rw [List.length_append]
  omega
/-- The program's loops, on turns that are told. -/
theorem impl_sw (T : List Int) (hT : T.length ≤ 400) (k : Nat) (hk : 500000 < k) : impl_Swings.l0 k [] [] T (T.length : Int) 0 = some (SW T) := by
  obtain ⟨c, hc, e⟩ := impl_out T hT T.length ([], []) 0 (by omega) (by omega) (by omega) (by simp)
  have h1 := foldl_len T ([], [])
  simp only [List.length_nil] at h1
  obtain ⟨k, rfl⟩ : ∃ m, k = m + c + 1 := ⟨k - c - 1, by omega⟩
  rw [show impl_Swings.l0 (k + c + 1) [] [] T (T.length : Int) 0 = _ from e k]
  simp only [Int.toNat_zero, List.drop_zero]
  generalize hos : T.foldl stepS ([], []) = os at h1
  have hSW : SW T = os.1 ++ finL os.2.reverse := by rw [← hos]; rfl
  rw [hSW]
  cases hs : os.2 with
  | nil =>
    obtain ⟨k, rfl⟩ := pos_round (show 0 < k by omega)
    have e2 : impl_Swings.l2 (k + 1) os.1 [] 1 = some os.1 := by
      simp only [impl_Swings.l2]
      rw [if_neg (by decide), own_sw _ (by omega), Option.bind_some]
    show impl_Swings.l2 (k + 1) os.1 [] 1 = some (os.1 ++ [])
    rw [e2, List.append_nil]
  | cons p s =>
    rw [← hs]
    have hl : os.2.length = s.length + 1 := by rw [hs]; rfl
    have := impl_fin os.2.reverse (by rw [List.length_reverse]; omega) (((os.2.reverse).length : Int) - 1).toNat os.1 1 (by omega) (by rw [List.length_reverse]; omega) rfl (by omega) (k - (((os.2.reverse).length : Int) - 1).toNat - 1)
    rw [List.length_reverse] at this
    rw [show k - ((os.2.length : Int) - 1).toNat - 1 + ((os.2.length : Int) - 1).toNat + 1 = k by omega] at this
    simpa using this

/-! ### rows that turn at each place -/
/-- Told from the end: each turns. -/
def AltR : List Int → Prop
  | y :: w :: v :: r => (y > w ↔ ¬ w > v) ∧ y ≠ w ∧ AltR (w :: v :: r)
  | [y, w] => y ≠ w
  | _ => True
theorem altR_tail {y : Int} {l : List Int} (h : AltR (y :: l)) : AltR l := by
  match l with
  | [] => trivial
  | [w] => trivial
  | w :: v :: r => exact h.2.2
theorem altR_ne {y w : Int} {l : List Int} (h : AltR (y :: w :: l)) : y ≠ w := by
  match l with
  | [] => exact h
  | v :: r => exact h.2.1
/-- The last one gives way to one that lies on the same side. -/
theorem altR_swap {y w x : Int} {l : List Int} (h : AltR (y :: w :: l)) (hx : y > w ↔ x > w) (hn : x ≠ w) : AltR (x :: w :: l) := by
  match l with
  | [] => exact hn
  | v :: r => exact ⟨by rw [← hx]; exact h.1, hn, h.2.2⟩
theorem fT_alt (n : Nat) : ∀ (m : List Int) (b y : Int), m.length = n → Dist b (m ++ [y]) → AltR (fT (b :: (m ++ [y]))).reverse := by
  induction n with
  | zero =>
    intro m b y hm h
    obtain rfl : m = [] := List.length_eq_zero_iff.1 hm
    simpa [fT, fK, AltR] using h.1
  | succ n ih =>
    intro m b x hm h
    obtain ⟨m', y, rfl⟩ : ∃ m' y, m = m' ++ [y] := by
      rcases List.eq_nil_or_concat m with h | ⟨m', y, h⟩
      · rw [h] at hm; simp at hm
      · exact ⟨m', y, by simpa using h⟩
    have hm' : m'.length = n := by simpa using hm
    obtain ⟨h1, h2⟩ := (dist_snoc (m' ++ [y]) b x).1 h
    have hl : lst b (m' ++ [y]) = y := by
      have e : ∀ (m : List Int) (b : Int), lst b (m ++ [y]) = y := by
        intro m
        induction m with
        | nil => intro b; rfl
        | cons c m ih => intro b; exact ih c
      exact e m' b
    rw [hl] at h2
    obtain ⟨q, w, e1, e2⟩ := fT_snoc b y x m' h1 h2
    have hi := ih m' b y hm' h1
    rw [e1] at hi
    rw [List.cons_append] at e2
    rw [e2]
    simp only [List.reverse_append, List.reverse_cons, List.reverse_nil, List.nil_append, List.cons_append, List.append_assoc] at hi ⊢
    have hyw := altR_ne hi
    by_cases c : (decide (y > w) == decide (x > y)) = true
    · rw [if_pos c]
      simp only [List.reverse_append, List.reverse_cons, List.reverse_nil, List.nil_append, List.cons_append, List.append_assoc]
      have c' := eq_of_beq c
      by_cases g : y > w
      · rw [decide_eq_true g] at c'
        have g2 := of_decide_eq_true c'.symm
        exact altR_swap hi ⟨fun _ => by omega, fun _ => g⟩ (by omega)
      · rw [decide_eq_false g] at c'
        have g2 := of_decide_eq_false c'.symm
        exact altR_swap hi ⟨fun h => absurd h g, fun h => by omega⟩ (by omega)
    · rw [if_neg c]
      simp only [List.reverse_append, List.reverse_cons, List.reverse_nil, List.nil_append, List.cons_append, List.append_assoc]
      refine ⟨?_, h2, hi⟩
      by_cases g : y > w
      · by_cases g2 : x > y
        · rw [decide_eq_true g, decide_eq_true g2] at c; exact absurd rfl c
        · exact ⟨fun h => absurd h g2, fun h => absurd g h⟩
      · by_cases g2 : x > y
        · exact ⟨fun _ => g, fun _ => g2⟩
        · rw [decide_eq_false g, decide_eq_false g2] at c; exact absurd rfl c
theorem fT_altL (l : List Int) (h : DistL l) : AltR (fT l).reverse := by
  match l with
  | [] => trivial
  | [b] => trivial
  | b :: c :: m =>
    obtain ⟨m', y, e⟩ : ∃ m' y, c :: m = m' ++ [y] := by
      rcases List.eq_nil_or_concat (c :: m) with h | ⟨m', y, h⟩
      · simp at h
      · exact ⟨m', y, by simpa using h⟩
    rw [e]
    refine fT_alt m'.length m' b y rfl ?_
    rw [← e]
    exact h
theorem fK_mem (m : List Int) : ∀ (p x : Int), x ∈ fK p m → x ∈ m := by
  induction m with
  | nil => intro p x h; simp [fK] at h
  | cons b m ih =>
    intro p x h
    cases m with
    | nil => simpa [fK] using h
    | cons c m =>
      simp only [fK] at h
      split at h
      · rcases List.mem_cons.1 h with rfl | h
        · exact List.mem_cons_self ..
        · exact List.mem_cons_of_mem _ (ih b x h)
      · exact List.mem_cons_of_mem _ (ih b x h)
theorem fT_mem (l : List Int) (x : Int) (h : x ∈ fT l) : x ∈ l := by
  cases l with
  | nil => simp [fT] at h
  | cons b m =>
    rcases List.mem_cons.1 h with rfl | h
    · exact List.mem_cons_self ..
    · exact List.mem_cons_of_mem _ (fK_mem m b x h)
theorem DD_mem (l : List Int) (x : Int) (h : x ∈ DD l) : x ∈ l := by
  have : ∀ (t o : List Int), x ∈ t.foldl dd o → x ∈ o ∨ x ∈ t := by
    intro t
    induction t with
    | nil => intro o h; exact .inl h
    | cons y t ih =>
      intro o h
      rcases ih (dd o y) h with h | h
      · unfold dd at h
        split at h
        · rw [List.mem_singleton] at h; exact .inr (by rw [h]; exact List.mem_cons_self ..)
        · split at h
          · exact .inl h
          · rcases List.mem_append.1 h with h | h
            · exact .inl h
            · rw [List.mem_singleton] at h; exact .inr (by rw [h]; exact List.mem_cons_self ..)
      · exact .inr (List.mem_cons_of_mem _ h)
  rcases this l [] h with h | h
  · simp at h
  · exact h
def Bnd (l : List Int) : Prop := ∀ x ∈ l, -1000000000 ≤ x ∧ x ≤ 1000000000
theorem turns_val (a : List Int) (hn : a.length ≤ 1048576) : ∃ r : List Int, r.length ≤ 200 ∧ AltR r.reverse ∧ Bnd r ∧ (∀ k, 1048600 < k → spec_Turns.f k a = some r ∧ impl_Turns.f k a = some r) ∧ (a = [1, 3, 2] → r.length = 3) := by
  by_cases h : a.length ≤ 200
  · by_cases c : (a.all fun x => decide (-1000000000 ≤ x) && decide (x ≤ 1000000000)) = true
    · have hl1 := (DD_len a).1
      have hl2 := fT_len (DD a)
      refine ⟨fT (DD a), by omega, fT_altL _ (DD_len a).2, fun x hx => ?_, fun k hk => ?_, fun e => by rw [e]; decide⟩
      · have := List.all_eq_true.1 c x (DD_mem a x (fT_mem _ x hx))
        simpa using this
      obtain ⟨k, rfl⟩ := pos_round (show 0 < k by omega)
      unfold spec_Turns.f impl_Turns.f impl_all.f
      rw [Option.bind_some, if_neg (by omega), if_neg (by omega), l3_ok a _ _ (by omega) _ (by omega), c, Option.bind_some, Option.bind_some]
      simp only [spec_Turns.j0, impl_Turns.j0, Bool.not_true, Bool.false_eq_true, if_false]
      have h1 := pass_loop a h a.length 0 (by omega) (by omega) (by omega) k (by omega)
      have h2 := once_loop a h a.length 0 (by omega) (by omega) (by omega) k (by omega)
      exact ⟨h1, h2⟩
    · refine ⟨[], by simp, trivial, fun x hx => by simp at hx, fun k hk => ?_, fun e => by rw [e] at c; exact absurd (by decide) c⟩
      obtain ⟨k, rfl⟩ := pos_round (show 0 < k by omega)
      unfold spec_Turns.f impl_Turns.f impl_all.f
      rw [Option.bind_some, if_neg (by omega), if_neg (by omega), l3_ok a _ _ (by omega) _ (by omega), Bool.eq_false_iff.2 c, Option.bind_some, Option.bind_some]
      simp only [spec_Turns.j0, impl_Turns.j0, Bool.not_false, if_true]; exact ⟨trivial, trivial⟩
  · refine ⟨[], by simp, trivial, fun x hx => by simp at hx, fun k hk => ?_, fun e => by rw [e] at h; exact absurd (by decide) h⟩
    obtain ⟨k, rfl⟩ := pos_round (show 0 < k by omega)
    unfold spec_Turns.f impl_Turns.f
    rw [Option.bind_some, if_pos (by omega), if_pos (by omega)]
    simp only [spec_Turns.j0, impl_Turns.j0, if_true]; exact ⟨trivial, trivial⟩

/-! ### the pile: each lies between the two below it -/
def Good : List Int → Prop
  | x :: y :: z :: r => ((y < x ∧ x < z) ∨ (z < x ∧ x < y)) ∧ Good (y :: z :: r)
  | [x, y] => x ≠ y
  | _ => True
theorem good_tail {x : Int} {l : List Int} (h : Good (x :: l)) : Good l := by
  match l with
  | [] => trivial
  | [y] => trivial
  | y :: z :: r => exact h.2
/-- p comes from the other side. -/
def Pre (p : Int) : List Int → Prop
  | x :: y :: _ => (x > y → p < x) ∧ (x < y → p > x)
  | [x] => p ≠ x
  | [] => True
theorem Df_ok {a b : Int} (ha : -1000000000 ≤ a ∧ a ≤ 1000000000) (hb : -1000000000 ≤ b ∧ b ≤ 1000000000) : Df a b = if a < b then b - a else a - b := by
  unfold Df sz
  rw [w64 (x := a - b) (by omega) (by omega)]
  by_cases c : a < b
  · rw [if_pos c, if_pos (by omega), w64 (by omega) (by omega)]; omega
  · rw [if_neg c, if_neg (by omega)]
/-- The greatest and the least one, of a row that isn't empty. -/
def mxL : Int → List Int → Int
  | x, [] => x
  | x, y :: l => if x < mxL y l then mxL y l else x
def mnL : Int → List Int → Int
  | x, [] => x
  | x, y :: l => if mnL y l < x then mnL y l else x
/-- Halves: a whole swing is two. -/
def hv : List S38 → Int
  | [] => 0
  | s :: l => (if s.f1 = true then 1 else 2) + hv l
theorem hv_append (l m : List S38) : hv (l ++ m) = hv l + hv m := by
  induction l with
  | nil => simp [hv]
  | cons s l ih => simp only [List.cons_append, hv, ih]; omega
def Within (o : List S38) (c : Int) : Prop := ∀ s ∈ o, s.f0 ≤ c
theorem within_snoc {o : List S38} {s : S38} {c : Int} (h : Within o c) (hs : s.f0 ≤ c) : Within (o ++ [s]) c := by
  intro t ht
  rcases List.mem_append.1 ht with ht | ht
  · exact h t ht
  · rw [List.mem_singleton] at ht; rw [ht]; exact hs
theorem within_mono {o : List S38} {c d : Int} (h : Within o c) (hd : c ≤ d) : Within o d := fun s hs => Int.le_trans (h s hs) hd
theorem mx_ge (x : Int) (l : List Int) : x ≤ mxL x l ∧ ∀ y ∈ l, y ≤ mxL x l := by
  induction l generalizing x with
  | nil => exact ⟨Int.le_refl _, fun y hy => by simp at hy⟩
  | cons y l ih =>
    obtain ⟨h1, h2⟩ := ih y
    simp only [mxL]
    split
    · exact ⟨by omega, fun z hz => (List.mem_cons.1 hz).elim (fun e => by rw [e]; exact h1) (fun hz => h2 z hz)⟩
    · exact ⟨Int.le_refl _, fun z hz => (List.mem_cons.1 hz).elim (fun e => by rw [e]; omega) (fun hz => by have := h2 z hz; omega)⟩
theorem mn_le (x : Int) (l : List Int) : mnL x l ≤ x ∧ ∀ y ∈ l, mnL x l ≤ y := by
  induction l generalizing x with
  | nil => exact ⟨Int.le_refl _, fun y hy => by simp at hy⟩
  | cons y l ih =>
    obtain ⟨h1, h2⟩ := ih y
    simp only [mnL]
    split
    · exact ⟨by omega, fun z hz => (List.mem_cons.1 hz).elim (fun e => by rw [e]; exact h1) (fun hz => h2 z hz)⟩
    · exact ⟨Int.le_refl _, fun z hz => (List.mem_cons.1 hz).elim (fun e => by rw [e]; omega) (fun hz => by have := h2 z hz; omega)⟩
/-- What p's coming does: told at once. -/
structure Step (o : List S38) (p : Int) (s : List Int) (O : List S38) (S : List Int) : Prop where
  good : Good S
  top : match s with
    | [] => S = [p]
    | x :: _ => ∃ y r, S = p :: y :: r ∧ (p > y ↔ p > x)
  sub : ∀ z ∈ S, z = p ∨ z ∈ s
  halves : hv O + S.length = hv o + s.length + 1
  mx : ∀ r, S = p :: r → mxL p r = mxL p s
  mn : ∀ r, S = p :: r → mnL p r = mnL p s
  most : ∀ c, Within o c → mxL p s - mnL p s ≤ c → Within O c
theorem mx_cons (p : Int) (x : Int) (l : List Int) : mxL p (x :: l) = if p < mxL x l then mxL x l else p := rfl
theorem mn_cons (p : Int) (x : Int) (l : List Int) : mnL p (x :: l) = if mnL x l < p then mnL x l else p := rfl
theorem red_step (n : Nat) : ∀ (s : List Int) (o : List S38) (p : Int), s.length ≤ n → Good s → Pre p s → (-1000000000 ≤ p ∧ p ≤ 1000000000) → Bnd s → Step o p s (red o p s).1 (red o p s).2 := by
  induction n with
  | zero =>
    intro s o p h hg hp hb hbs
    obtain rfl : s = [] := List.length_eq_zero_iff.1 (by omega)
    unfold red
    exact ⟨trivial, rfl, fun z hz => .inl (by simpa using hz), by simp, fun r h => by cases h; rfl, fun r h => by cases h; rfl, fun c hc _ => hc⟩
  | succ n ih =>
    intro s o p h hg hp hb hbs
    match s with
    | [] =>
      unfold red
      exact ⟨trivial, rfl, fun z hz => .inl (by simpa using hz), by simp, fun r h => by cases h; rfl, fun r h => by cases h; rfl, fun c hc _ => hc⟩
    | [x] =>
      unfold red
      exact ⟨hp, ⟨x, [], rfl, Iff.rfl⟩, fun z hz => by simpa using hz, by simp; omega, fun r h => by cases h; rfl, fun r h => by cases h; rfl, fun c hc _ => hc⟩
    | [x, y] =>
      have bx := hbs x (by simp)
      have by_ := hbs y (by simp)
      have e1 := Df_ok hb bx
      have e2 := Df_ok bx by_
      have hxy : x ≠ y := hg
      have hp' : (x > y → p < x) ∧ (x < y → p > x) := hp
      obtain ⟨p1, p2⟩ := hp'
      unfold red
      by_cases c : Df p x < Df x y
      · rw [if_pos c]
        rw [e1, e2] at c
        refine ⟨⟨?_, hg⟩, ⟨x, [y], rfl, Iff.rfl⟩, fun z hz => by simpa using hz, by simp; omega, fun r h => by cases h; rfl, fun r h => by cases h; rfl, fun c hc _ => hc⟩
        rcases (by omega : x > y ∨ x < y) with g | g
        · have := p1 g; right; (repeat' split at c) <;> constructor <;> omega
        · have := p2 g; left; (repeat' split at c) <;> constructor <;> omega
      · rw [if_neg c]
        rw [e1, e2] at c
        have hpx : p ≠ x := (by omega : x > y ∨ x < y).elim (fun g => by have := p1 g; omega) (fun g => by have := p2 g; omega)
        refine ⟨hpx, ⟨x, [], rfl, Iff.rfl⟩, fun z hz => ?_, by simp [hv_append, hv]; omega, fun r h => ?_, fun r h => ?_, fun d hd hm => within_snoc hd ?_⟩
        · rcases List.mem_cons.1 hz with hz | hz
          · exact .inl hz
          · exact .inr (List.mem_cons.2 (.inl (by simpa using hz)))
        · cases h
          simp only [mxL]
          rcases (by omega : x > y ∨ x < y) with g | g
          · have := p1 g; (repeat' split at c) <;> ((repeat' split) <;> omega)
          · have := p2 g; (repeat' split at c) <;> ((repeat' split) <;> omega)
        · cases h
          simp only [mnL]
          rcases (by omega : x > y ∨ x < y) with g | g
          · have := p1 g; (repeat' split at c) <;> ((repeat' split) <;> omega)
          · have := p2 g; (repeat' split at c) <;> ((repeat' split) <;> omega)
        · show Df x y ≤ d
          rw [e2]
          have a1 := (mx_ge p [x, y]).2
          have a2 := (mn_le p [x, y]).2
          have b1 := a1 x (by simp)
          have b2 := a1 y (by simp)
          have b3 := a2 x (by simp)
          have b4 := a2 y (by simp)
          split <;> omega
    | x :: y :: z :: r =>
      have bx := hbs x (by simp)
      have by_ := hbs y (by simp)
      have bz := hbs z (by simp)
      have e1 := Df_ok hb bx
      have e2 := Df_ok bx by_
      have hg' : ((y < x ∧ x < z) ∨ (z < x ∧ x < y)) ∧ Good (y :: z :: r) := hg
      obtain ⟨g1, g2⟩ := hg'
      have hp' : (x > y → p < x) ∧ (x < y → p > x) := hp
      obtain ⟨p1, p2⟩ := hp'
      simp only [List.length_cons] at h
      unfold red
      by_cases c : Df p x < Df x y
      · rw [if_pos c]
        rw [e1, e2] at c
        refine ⟨⟨?_, g1, g2⟩, ⟨x, y :: z :: r, rfl, Iff.rfl⟩, fun z hz => by simpa using hz, by simp only [List.length_cons]; omega, fun r h => by cases h; rfl, fun r h => by cases h; rfl, fun c hc _ => hc⟩
        rcases (by omega : x > y ∨ x < y) with g | g
        · have := p1 g; right; (repeat' split at c) <;> constructor <;> omega
        · have := p2 g; left; (repeat' split at c) <;> constructor <;> omega
      · rw [if_neg c]
        rw [e1, e2] at c
        -- p is beyond y, and x and y lie between p and z
        have hmid : (p ≤ y ∧ y < x ∧ x < z) ∨ (z < x ∧ x < y ∧ y ≤ p) := by
          rcases g1 with ⟨a1, a2⟩ | ⟨a1, a2⟩
          · have := p1 (by omega); left; (repeat' split at c) <;> refine ⟨?_, ?_, ?_⟩ <;> omega
          · have := p2 (by omega); right; (repeat' split at c) <;> refine ⟨?_, ?_, ?_⟩ <;> omega
        have hpre : Pre p (z :: r) := by
          match r with
          | [] => show p ≠ z; rcases hmid with ⟨a, b, c⟩ | ⟨a, b, c⟩ <;> omega
          | w :: r =>
            have hw : (z < y ∧ y < w) ∨ (w < y ∧ y < z) := g2.1
            constructor
            · intro hzw
              rcases hmid with ⟨a, b, c⟩ | ⟨a, b, c⟩ <;> rcases hw with ⟨d, e⟩ | ⟨d, e⟩ <;> omega
            · intro hzw
              rcases hmid with ⟨a, b, c⟩ | ⟨a, b, c⟩ <;> rcases hw with ⟨d, e⟩ | ⟨d, e⟩ <;> omega
        have hst := ih (z :: r) (o ++ [⟨Df x y, false⟩]) p (by simp only [List.length_cons]; omega) (good_tail g2) hpre hb (fun t ht => hbs t (List.mem_cons_of_mem _ (List.mem_cons_of_mem _ ht)))
        obtain ⟨k1, k2, k3, k4, k5, k6, k7⟩ := hst
        obtain ⟨y', r', hS, hdir⟩ := k2
        have hmx : mxL p (x :: y :: z :: r) = mxL p (z :: r) := by
          rw [mx_cons p x, mx_cons x y, mx_cons y z, mx_cons p z]
          have := (mx_ge z r).1
          rcases hmid with ⟨a, b, c⟩ | ⟨a, b, c⟩ <;> ((repeat' split) <;> omega)
        have hmn : mnL p (x :: y :: z :: r) = mnL p (z :: r) := by
          rw [mn_cons p x, mn_cons x y, mn_cons y z, mn_cons p z]
          have := (mn_le z r).1
          rcases hmid with ⟨a, b, c⟩ | ⟨a, b, c⟩ <;> ((repeat' split) <;> omega)
        refine ⟨k1, ⟨y', r', hS, hdir.trans ?_⟩, fun t ht => ?_, ?_, fun r h => by rw [k5 r h, hmx], fun r h => by rw [k6 r h, hmn], fun d hd hm => k7 d (within_snoc hd ?_) (by rw [← hmx, ← hmn]; exact hm)⟩
        · rcases hmid with ⟨a, b, c⟩ | ⟨a, b, c⟩ <;> constructor <;> intro <;> omega
        · rcases k3 t ht with h | h
          · exact .inl h
          · exact .inr (List.mem_cons_of_mem _ (List.mem_cons_of_mem _ h))
        · rw [k4, hv_append]
          simp only [hv, List.length_cons, Bool.false_eq_true, if_false]
          omega
        · show Df x y ≤ d
          rw [e2]
          have a1 := (mx_ge p (x :: y :: z :: r)).2
          have a2 := (mn_le p (x :: y :: z :: r)).2
          have b1 := a1 x (by simp)
          have b2 := a1 y (by simp)
          have b3 := a2 x (by simp)
          have b4 := a2 y (by simp)
          split <;> omega
theorem mx_mem (x : Int) (l : List Int) : mxL x l = x ∨ mxL x l ∈ l := by
  induction l generalizing x with
  | nil => exact .inl rfl
  | cons y l ih =>
    simp only [mxL]
    split
    · rcases ih y with h | h
      · exact .inr (by rw [h]; exact List.mem_cons_self ..)
      · exact .inr (List.mem_cons_of_mem _ h)
    · exact .inl rfl
theorem mn_mem (x : Int) (l : List Int) : mnL x l = x ∨ mnL x l ∈ l := by
  induction l generalizing x with
  | nil => exact .inl rfl
  | cons y l ih =>
    simp only [mnL]
    split
    · rcases ih y with h | h
      · exact .inr (by rw [h]; exact List.mem_cons_self ..)
      · exact .inr (List.mem_cons_of_mem _ h)
    · exact .inl rfl
theorem hv_nonneg (l : List S38) : 0 ≤ hv l := by
  induction l with
  | nil => exact Int.le_refl _
  | cons s l ih => simp only [hv]; split <;> omega
theorem hv_le (l : List S38) : hv l ≤ 2 * l.length := by
  induction l with
  | nil => exact Int.le_refl _
  | cons s l ih => simp only [hv, List.length_cons]; split <;> omega
def Top : List Int → List S38 → List Int → Prop
  | [], O, S => S = [] ∧ O = []
  | [x], O, S => S = [x] ∧ O = []
  | x :: y :: _, _, S => ∃ y' r, S = x :: y' :: r ∧ (x > y' ↔ x > y)
/-- What holds of the pile after the turns of R, the last first. -/
structure Inv (R : List Int) (O : List S38) (S : List Int) : Prop where
  good : Good S
  sub : ∀ z ∈ S, z ∈ R
  halves : hv O + S.length = R.length
  top : Top R O S
  mx : ∀ x R', R = x :: R' → ∃ s, S = x :: s ∧ mxL x s = mxL x R' ∧ mnL x s = mnL x R' ∧ Within O (mxL x R' - mnL x R')
theorem inv_all (R : List Int) (ha : AltR R) (hb : Bnd R) : Inv R (R.foldr (fun x os => stepS os x) ([], [])).1 (R.foldr (fun x os => stepS os x) ([], [])).2 := by
  induction R with
  | nil => exact ⟨trivial, fun z hz => by simp at hz, rfl, ⟨rfl, rfl⟩, fun x R' h => by simp at h⟩
  | cons p R ih =>
    have hi := ih (altR_tail ha) (fun z hz => hb z (List.mem_cons_of_mem _ hz))
    simp only [List.foldr_cons]
    generalize R.foldr (fun x os => stepS os x) ([], []) = os at hi ⊢
    obtain ⟨O, S⟩ := os
    dsimp only at hi
    show Inv (p :: R) (red O p S).1 (red O p S).2
    obtain ⟨i1, i2, i3, i4, i5⟩ := hi
    have hbp := hb p (List.mem_cons_self ..)
    have hbS : Bnd S := fun z hz => hb z (List.mem_cons_of_mem _ (i2 z hz))
    match R, ha, i2, i3, i4, i5 with
    | [], ha, i2, i3, i4, i5 =>
      obtain ⟨rfl, rfl⟩ := i4
      unfold red
      refine ⟨trivial, fun z hz => hz, rfl, ⟨rfl, rfl⟩, fun x R' h => ?_⟩
      cases h
      exact ⟨[], rfl, rfl, rfl, fun s hs => by simp at hs⟩
    | x :: R, ha, i2, i3, i4, i5 =>
      obtain ⟨s, hs, m1, m2, m3⟩ := i5 x R rfl
      subst hs
      have hpx := altR_ne ha
      have hpre : Pre p (x :: s) := by
        match R, ha, i4 with
        | [], ha, i4 =>
          obtain ⟨e1, e2⟩ := i4
          cases e1
          exact hpx
        | y :: R, ha, i4 =>
          obtain ⟨y', r, e1, e2⟩ := i4
          cases e1
          have h1 := ha.1
          constructor
          · intro g
            have := e2.1 g
            have : ¬ p > x := fun h => absurd this (h1.1 h)
            omega
          · intro g
            have : ¬ x > y := fun h => by have := e2.2 h; omega
            exact h1.2 this
      have hst := red_step (x :: s).length (x :: s) O p (Nat.le_refl _) i1 hpre hbp hbS
      generalize hr : red O p (x :: s) = os at hst ⊢
      obtain ⟨O', S'⟩ := os
      obtain ⟨k1, k2, k3, k4, k5, k6, k7⟩ := hst
      obtain ⟨y', r', hS, hd⟩ := k2
      have hS : S' = p :: y' :: r' := hS
      refine ⟨k1, fun z hz => ?_, ?_, ⟨y', r', hS, hd⟩, fun x' R' h => ?_⟩
      · rcases k3 z hz with h | h
        · rw [h]; exact List.mem_cons_self ..
        · exact List.mem_cons_of_mem _ (i2 z h)
      · have k4' : hv O' + S'.length = hv O + (x :: s).length + 1 := k4
        have i3' : hv O + (x :: s).length = (x :: R).length := i3
        show hv O' + S'.length = _
        rw [k4', i3']
        simp only [List.length_cons]
        omega
      · cases h
        have e1 := k5 _ hS
        have e2 := k6 _ hS
        have f1 : mxL p (x :: s) = mxL p (x :: R) := by rw [mx_cons, mx_cons, m1]
        have f2 : mnL p (x :: s) = mnL p (x :: R) := by rw [mn_cons, mn_cons, m2]
        refine ⟨_, hS, e1.trans f1, e2.trans f2, ?_⟩
        rw [← f1, ← f2]
        refine k7 _ (within_mono m3 ?_) (Int.le_refl _)
        have g1 : mxL x R ≤ mxL p (x :: s) := by rw [mx_cons, m1]; split <;> omega
        have g2 : mnL p (x :: s) ≤ mnL x R := by rw [mn_cons, m2]; split <;> omega
        omega
/-- The two at the bottom hold all the others between them. -/
theorem good_bot (n : Nat) : ∀ (l : List Int) (b a : Int), l.length = n → Good (l ++ [b, a]) → a ≠ b ∧ ∀ z ∈ l ++ [b, a], (a ≤ z ∧ z ≤ b) ∨ (b ≤ z ∧ z ≤ a) := by
  induction n with
  | zero =>
    intro l b a h hg
    obtain rfl : l = [] := List.length_eq_zero_iff.1 h
    have : b ≠ a := hg
    refine ⟨fun e => this e.symm, fun z hz => ?_⟩
    simp only [List.nil_append, List.mem_cons, List.not_mem_nil, or_false] at hz
    omega
  | succ n ih =>
    intro l b a h hg
    match l with
    | [] => simp at h
    | x :: l =>
      obtain ⟨h1, h2⟩ := ih l b a (by simpa using h) (good_tail hg)
      refine ⟨h1, fun z hz => ?_⟩
      rw [List.cons_append] at hz hg
      rcases List.mem_cons.1 hz with hz | hz
      · match hl : l ++ [b, a], hg with
        | [], hg => simp at hl
        | [y], hg => cases l <;> simp at hl
        | y :: w :: r, hg =>
          have hg' : ((y < x ∧ x < w) ∨ (w < x ∧ x < y)) ∧ Good (y :: w :: r) := hg
          have a1 := h2 y (by rw [hl]; simp)
          have a2 := h2 w (by rw [hl]; simp)
          rw [hz]
          rcases hg'.1 with g | g <;> omega
      · exact h2 z hz
theorem finL_facts (m M : Int) (L : List Int) (hL : ∀ z ∈ L, m ≤ z ∧ z ≤ M) (hb : Bnd L) : Within (finL L) (M - m) ∧ (L ≠ [] → hv (finL L) = (L.length : Int) - 1) := by
  induction L with
  | nil => exact ⟨fun s hs => by simp [finL] at hs, fun h => absurd rfl h⟩
  | cons a t ih =>
    match t with
    | [] => exact ⟨fun s hs => by simp [finL] at hs, fun _ => by simp [finL, hv]⟩
    | b :: t =>
      obtain ⟨h1, h2⟩ := ih (fun z hz => hL z (List.mem_cons_of_mem _ hz)) (fun z hz => hb z (List.mem_cons_of_mem _ hz))
      simp only [finL]
      refine ⟨fun s hs => ?_, fun _ => ?_⟩
      · rcases List.mem_cons.1 hs with hs | hs
        · rw [hs]
          show Df b a ≤ M - m
          rw [Df_ok (hb b (by simp)) (hb a (by simp))]
          have := hL a (by simp)
          have := hL b (by simp)
          split <;> omega
        · exact h1 s hs
      · simp only [hv, if_true]
        rw [h2 (by simp)]
        simp only [List.length_cons]
        omega
/-- The answer of the swings, of turns T. -/
theorem SW_facts (T : List Int) (ha : AltR T.reverse) (hb : Bnd T) (lo hi : Int) (hlo : ∀ z ∈ T, lo ≤ z ∧ z ≤ hi) (hne : T ≠ [] → lo ∈ T ∧ hi ∈ T) :
    (T = [] → hv (SW T) = 0) ∧ (T ≠ [] → hv (SW T) = (T.length : Int) - 1 ∧ Within (SW T) (hi - lo) ∧ (hi - lo = 0 ∨ ∃ s ∈ SW T, s.f0 = hi - lo)) := by
  have hI := inv_all T.reverse ha (fun z hz => hb z (List.mem_reverse.1 hz))
  rw [List.foldr_reverse] at hI
  have hSW : SW T = (T.foldl (fun os x => stepS os x) ([], [])).1 ++ finL (T.foldl (fun os x => stepS os x) ([], [])).2.reverse := rfl
  generalize T.foldl (fun os x => stepS os x) ([], []) = os at hI hSW
  obtain ⟨O, S⟩ := os
  dsimp only at hI hSW
  rw [hSW]
  obtain ⟨i1, i2, i3, i4, i5⟩ := hI
  have hlen : T.reverse.length = T.length := List.length_reverse
  constructor
  · intro h
    subst h
    have i4' : S = [] ∧ O = [] := i4
    rw [i4'.1, i4'.2]; rfl
  · intro h
    obtain ⟨p, R, hR⟩ : ∃ p R, T.reverse = p :: R := by
      cases hr : T.reverse with
      | nil => exact absurd (List.reverse_eq_nil_iff.1 hr) h
      | cons p R => exact ⟨p, R, rfl⟩
    obtain ⟨hlm, hhm⟩ := hne h
    have hall : ∀ z, z ∈ T ↔ z = p ∨ z ∈ R := fun z => by rw [← List.mem_reverse, hR, List.mem_cons]
    obtain ⟨s, hs, m1, m2, m3⟩ := i5 p R hR
    have hM : mxL p R = hi := by
      obtain ⟨g1, g2⟩ := mx_ge p R
      have a1 : mxL p R ∈ T := (hall _).2 (mx_mem p R)
      have a2 := (hlo _ a1).2
      rcases (hall _).1 hhm with h | h
      · omega
      · have := g2 _ h; omega
    have hm : mnL p R = lo := by
      obtain ⟨g1, g2⟩ := mn_le p R
      have a1 : mnL p R ∈ T := (hall _).2 (mn_mem p R)
      have a2 := (hlo _ a1).1
      rcases (hall _).1 hlm with h | h
      · omega
      · have := g2 _ h; omega
    rw [hM, hm] at m3
    have hSb : ∀ z ∈ S.reverse, lo ≤ z ∧ z ≤ hi := fun z hz => hlo z (List.mem_reverse.1 (i2 z (List.mem_reverse.1 hz)))
    have hSB : Bnd S.reverse := fun z hz => hb z (List.mem_reverse.1 (i2 z (List.mem_reverse.1 hz)))
    have hSne : S.reverse ≠ [] := by rw [hs]; simp
    obtain ⟨f1, f2⟩ := finL_facts lo hi S.reverse hSb hSB
    have f2' := f2 hSne
    rw [List.length_reverse] at f2'
    refine ⟨?_, fun t ht => (List.mem_append.1 ht).elim (m3 t) (f1 t), ?_⟩
    · rw [hv_append, f2', ← hlen]; omega
    · match R, hR with
      | [], hR =>
        left
        have : hi = p := by rcases (hall _).1 hhm with h | h; · exact h
                            · simp at h
        have : lo = p := by rcases (hall _).1 hlm with h | h; · exact h
                            · simp at h
        omega
      | y :: R, hR =>
        right
        rw [hR] at i4
        obtain ⟨y', r, e1, _⟩ := i4
        -- the bottom two
        obtain ⟨l, b, a, e⟩ : ∃ l b a, S = l ++ [b, a] := by
          rcases List.eq_nil_or_concat (p :: y' :: r) with h | ⟨q, a, h⟩
          · simp at h
          · rcases List.eq_nil_or_concat q with h' | ⟨q2, b, h'⟩
            · rw [h'] at h; simp at h
            · refine ⟨q2, b, a, ?_⟩
              rw [e1, h, h']; simp
        obtain ⟨g1, g2⟩ := good_bot l.length l b a rfl (by rw [← e]; exact i1)
        rw [← e] at g2
        have hmem : ∀ z, z ∈ S ↔ z = p ∨ z ∈ s := fun z => by rw [hs, List.mem_cons]
        have hhS : hi ∈ S := by rw [← hM, ← m1]; exact (hmem _).2 (mx_mem p s)
        have hlS : lo ∈ S := by rw [← hm, ← m2]; exact (hmem _).2 (mn_mem p s)
        have hba : b ∈ S ∧ a ∈ S := by rw [e]; simp
        have b1 := hSb b (List.mem_reverse.2 hba.1)
        have b2 := hSb a (List.mem_reverse.2 hba.2)
        have b3 := g2 _ hhS
        have b4 := g2 _ hlS
        refine ⟨⟨Df b a, true⟩, List.mem_append.2 (.inr ?_), ?_⟩
        · rw [e, List.reverse_append]
          show _ ∈ finL (a :: b :: l.reverse)
          simp only [finL]
          exact List.mem_cons_self ..
        · show Df b a = hi - lo
          rw [Df_ok (hSB b (List.mem_reverse.2 hba.1)) (hSB a (List.mem_reverse.2 hba.2))]
          split <;> omega
/-! ### the law -/
def Hit (x : Int) (W : List S38) (c : Int) : Prop := x = c ∨ ∃ s ∈ W, s.f0 = c
theorem most_loop (T : List Int) (W : List S38) (hW : W.length ≤ 100000) (hT : T.length ≤ 100000) (lo hi : Int) (hc : -10000000000 ≤ hi - lo ∧ hi - lo ≤ 10000000000) (d : Nat) : ∀ (x9 x10 i : Int), 0 ≤ i → i ≤ W.length → ((W.length : Int) - i).toNat = d → 0 ≤ x9 → x9 ≤ 2 * i →
    (T.length = 0 → x9 + hv (W.drop i.toNat) = 0) → (T.length ≠ 0 → x9 + hv (W.drop i.toNat) = (T.length : Int) - 1 ∧ x10 ≤ hi - lo ∧ Within (W.drop i.toNat) (hi - lo) ∧ Hit x10 (W.drop i.toNat) (hi - lo)) →
    ∀ k, laws_FnSwings.l1 (k + d + 1) T W lo hi x9 x10 i = some true := by
  induction d with
  | zero =>
    intro x9 x10 i h0 h1 hd g0 g1 p1 p2 k
    have hdr : W.drop i.toNat = [] := List.drop_of_length_le (by omega)
    rw [hdr] at p1 p2
    simp only [laws_FnSwings.l1]
    rw [if_neg (by omega)]
    by_cases c : T.length = 0
    · have := p1 c
      simp only [hv] at this
      rw [if_pos (by omega), show x9 = 0 by omega]; rfl
    · obtain ⟨q1, q2, q3, q4⟩ := p2 c
      simp only [hv] at q1
      have q5 : x10 = hi - lo := Or.elim q4 id (fun ⟨s, hs, _⟩ => by simp at hs)
      clear q4
      rw [if_neg (by omega), w64 (x := (T.length : Int) - 1) (by omega) (by omega), if_pos (by omega), w64 (x := hi - lo) (by omega) (by omega), q5]
      simp
  | succ d ih =>
    intro x9 x10 i h0 h1 hd g0 g1 p1 p2 k
    have hi' : i < (W.length : Int) := by omega
    rw [rd38_drop h0 hi'] at p1 p2
    simp only [hv] at p1 p2
    rw [show k + (d + 1) + 1 = (k + d + 1) + 1 from rfl]
    obtain ⟨m, hm⟩ : ∃ m, m = k + d + 1 := ⟨_, rfl⟩
    rw [← hm]
    have hmost : ∀ x10', (T.length ≠ 0 → x10' = if (rd_T38 W i).f0 > x10 then (rd_T38 W i).f0 else x10) → T.length ≠ 0 → x10' ≤ hi - lo ∧ Within (W.drop (i + 1).toNat) (hi - lo) ∧ Hit x10' (W.drop (i + 1).toNat) (hi - lo) := by
      intro x10' hx c
      obtain ⟨q1, q2, q3, q4⟩ := p2 c
      have hx := hx c
      have q5 := q3 _ (List.mem_cons_self ..)
      refine ⟨?_, fun s hs => q3 s (List.mem_cons_of_mem _ hs), ?_⟩
      · rw [hx]; split <;> omega
      · rcases q4 with q | ⟨s, hs, e⟩
        · left; clear p1 p2 ih; rw [hx]; split <;> omega
        · rcases List.mem_cons.1 hs with hs | hs
          · left; rw [hx]; rw [hs] at e; split <;> omega
          · exact .inr ⟨s, hs, e⟩
    simp only [laws_FnSwings.l1]
    rw [if_pos hi', if_pos h0, w64 (x := x9 + 2) (by omega) (by omega), w64 (x := x9 + 2 - 1) (by omega) (by omega), w64 (x := i + 1) (by omega) (by omega)]
    by_cases c1 : (rd_T38 W i).f1 = true
    · rw [if_pos c1]
      rw [if_pos c1] at p1 p2
      by_cases c2 : (rd_T38 W i).f0 > x10
      · rw [if_pos c2, hm]
        exact ih _ _ _ (by omega) (by omega) (by omega) (by omega) (by omega) (fun c => by have := p1 c; omega) (fun c => ⟨by have := (p2 c).1; omega, hmost _ (fun _ => by rw [if_pos c2]) c⟩) k
      · rw [if_neg c2, hm]
        exact ih _ _ _ (by omega) (by omega) (by omega) (by omega) (by omega) (fun c => by have := p1 c; omega) (fun c => ⟨by have := (p2 c).1; omega, hmost _ (fun _ => by rw [if_neg c2]) c⟩) k
    · rw [if_neg c1]
      rw [if_neg c1] at p1 p2
      by_cases c2 : (rd_T38 W i).f0 > x10
      · rw [if_pos c2, hm]
        exact ih _ _ _ (by omega) (by omega) (by omega) (by omega) (by omega) (fun c => by have := p1 c; omega) (fun c => ⟨by have := (p2 c).1; omega, hmost _ (fun _ => by rw [if_pos c2]) c⟩) k
      · rw [if_neg c2, hm]
        exact ih _ _ _ (by omega) (by omega) (by omega) (by omega) (by omega) (fun c => by have := p1 c; omega) (fun c => ⟨by have := (p2 c).1; omega, hmost _ (fun _ => by rw [if_neg c2]) c⟩) k
theorem altR_drop (l : List Int) (m : List Int) (h : AltR (l ++ m)) : AltR m := by
  induction l with
  | nil => exact h
  | cons x l ih => exact ih (altR_tail h)
theorem alt_at (T : List Int) (ha : AltR T.reverse) (i : Int) (h0 : 2 ≤ i) (h1 : i < T.length) : (rd T i > rd T (i - 1) ↔ ¬ rd T (i - 1) > rd T (i - 2)) ∧ rd T i ≠ rd T (i - 1) := by
  have e : T = T.take (i - 2).toNat ++ (rd T (i - 2) :: rd T (i - 1) :: rd T i :: T.drop (i + 1).toNat) := by
    have e1 := drop_rd (l := T) (i := i - 2) (by omega) (by omega)
    have e2 := drop_rd (l := T) (i := i - 1) (by omega) (by omega)
    have e3 := drop_rd (l := T) (i := i) (by omega) h1
    rw [show i - 2 + 1 = i - 1 by omega] at e1
    rw [show i - 1 + 1 = i by omega] at e2
    rw [← e3, ← e2, ← e1, List.take_append_drop]
  have e' : T.reverse = (T.drop (i + 1).toNat).reverse ++ (rd T i :: rd T (i - 1) :: rd T (i - 2) :: (T.take (i - 2).toNat).reverse) := by
    conv => lhs; rw [e]
    simp [List.reverse_append]
  rw [e'] at ha
  have := altR_drop _ _ ha
  exact ⟨this.1, this.2.1⟩
def At (T : List Int) (i v : Int) : Prop := ∃ j, 0 ≤ j ∧ j < i ∧ rd T j = v
/-- What low and high are, of the first i ones. -/
def LH (T : List Int) (i lo hi : Int) : Prop := (∀ j : Int, 0 ≤ j → j < i → lo ≤ rd T j ∧ rd T j ≤ hi) ∧ (0 < i → At T i lo ∧ At T i hi) ∧ (i = 0 → lo = 0 ∧ hi = 0)
theorem rd_idx {T : List Int} {z : Int} (h : z ∈ T) : ∃ j : Int, 0 ≤ j ∧ j < T.length ∧ rd T j = z := by
  obtain ⟨n, hn, e⟩ := List.getElem_of_mem h
  refine ⟨(n : Int), by omega, by omega, ?_⟩
  simp [rd, List.getD_eq_getElem?_getD, List.getElem?_eq_getElem hn, e]
theorem low_loop (T : List Int) (ha : AltR T.reverse) (hb : Bnd T) (hT : T.length ≤ 400) (d : Nat) : ∀ (lo hi i : Int), 0 ≤ i → i ≤ T.length → ((T.length : Int) - i).toNat = d → LH T i lo hi → ∀ k, 1000 < k → laws_FnSwings.l0 (k + 4 * d + 1) T (SW T) lo hi i = some true := by
  induction d with
  | zero =>
    intro lo hi i h0 h1 hd hlh k hk
    have he : i = T.length := by omega
    obtain ⟨l1, l2, l3⟩ := hlh
    simp only [laws_FnSwings.l0]
    rw [if_neg (by omega)]
    have hSWl := SW_len T
    have hlo : ∀ z ∈ T, lo ≤ z ∧ z ≤ hi := fun z hz => by
      obtain ⟨j, j0, j1, e⟩ := rd_idx hz
      have := l1 j j0 (by omega)
      omega
    have hne : T ≠ [] → lo ∈ T ∧ hi ∈ T := fun h => by
      obtain ⟨⟨j, j0, j1, e⟩, j', j0', j1', e'⟩ := l2 (by have := List.length_pos_iff.2 h; omega)
      exact ⟨by rw [← e]; exact rd_mem j0 (by omega), by rw [← e']; exact rd_mem j0' (by omega)⟩
    obtain ⟨f1, f2⟩ := SW_facts T ha hb lo hi hlo hne
    have hlen : T.length = 0 ↔ T = [] := List.length_eq_zero_iff
    have hbd : -10000000000 ≤ hi - lo ∧ hi - lo ≤ 10000000000 := by
      by_cases c : T = []
      · have := l3 (by have := hlen.2 c; omega); omega
      · obtain ⟨a, b⟩ := hne c
        have := hb _ a
        have := hb _ b
        omega
    have hle : 0 ≤ hi - lo := by
      by_cases c : T = []
      · have := l3 (by have := hlen.2 c; omega); omega
      · have := hlo _ (hne c).1; omega
    have := most_loop T (SW T) (by omega) (by omega) lo hi hbd (SW T).length 0 0 0 (by omega) (by omega) (by omega) (by omega) (by omega)
      (fun c => by rw [Int.toNat_zero, List.drop_zero, f1 (hlen.1 c)]; rfl)
      (fun c => by
        obtain ⟨a, b, e⟩ := f2 (fun h => c (hlen.2 h))
        rw [Int.toNat_zero, List.drop_zero]
        exact ⟨by omega, hle, b, e.elim (fun h => .inl h.symm) .inr⟩) (k - (SW T).length - 1)
    rw [show k - (SW T).length - 1 + (SW T).length + 1 = k by omega] at this
    exact this
  | succ d ih =>
    intro lo hi i h0 h1 hd hlh k hk
    have hlt : i < (T.length : Int) := by omega
    have hxb := hb _ (rd_mem h0 hlt)
    obtain ⟨l1, l2, l3⟩ := hlh
    have e := fun lo hi h => ih lo hi (i + 1) (by omega) (by omega) (by omega) h k hk
    rw [show k + 4 * (d + 1) + 1 = (k + 4 * d + 1) + 4 by omega]
    obtain ⟨m, hm⟩ : ∃ m, m = k + 4 * d + 1 := ⟨_, rfl⟩
    rw [← hm] at e ⊢
    -- from high on
    have hj4 : ∀ lo', (i = 0 → lo' = rd T i) → (i ≠ 0 → lo' = if rd T i < lo then rd T i else lo) → ∀ b : Bool, (i = 0 → b = true) → (i ≠ 0 → b = decide (rd T i > hi)) → laws_FnSwings.j4 (m + 1) T (SW T) lo' hi i b = some true := by
      intro lo' q1 q2 b q3 q4
      have hlo' : ∀ hi', (i = 0 → hi' = rd T i) → (i ≠ 0 → hi' = if rd T i > hi then rd T i else hi) → LH T (i + 1) lo' hi' := by
        intro hi' q5 q6
        by_cases c : i = 0
        · rw [q1 c, q5 c]
          refine ⟨fun j j0 j1 => ?_, fun _ => ⟨⟨i, by omega, by omega, rfl⟩, i, by omega, by omega, rfl⟩, fun h => by omega⟩
          rw [show j = i by omega]; omega
        · have q2' := q2 c
          have q6' := q6 c
          obtain ⟨⟨ja, ja0, ja1, ea⟩, jb, jb0, jb1, eb⟩ := l2 (by omega)
          refine ⟨fun j j0 j1 => ?_, fun _ => ⟨?_, ?_⟩, fun h => by omega⟩
          · rw [q2', q6']
            by_cases cj : j = i
            · rw [cj]; constructor <;> split <;> omega
            · have := l1 j j0 (by omega)
              constructor <;> split <;> omega
          · by_cases c2 : rd T i < lo
            · exact ⟨i, by omega, by omega, by rw [q2', if_pos c2]⟩
            · exact ⟨ja, ja0, by omega, by rw [q2', if_neg c2, ea]⟩
          · by_cases c2 : rd T i > hi
            · exact ⟨i, by omega, by omega, by rw [q6', if_pos c2]⟩
            · exact ⟨jb, jb0, by omega, by rw [q6', if_neg c2, eb]⟩
      have halt : ∀ (hs : i > 1) {α : Type} (x y : α), (if ((decide ((wrap64 ((rd T i) - (rd T (i - 1)))) > 0)) == (decide ((wrap64 ((rd T (i - 1)) - (rd T (i - 2)))) > 0))) = true then x else y) = y := by
        intro hs α x y
        obtain ⟨a1, a2⟩ := alt_at T ha i (by omega) hlt
        have b1 := hb _ (rd_mem (l := T) (i := i - 1) (by omega) (by omega))
        have b2 := hb _ (rd_mem (l := T) (i := i - 2) (by omega) (by omega))
        rw [w64 (x := rd T i - rd T (i - 1)) (by omega) (by omega), w64 (x := rd T (i - 1) - rd T (i - 2)) (by omega) (by omega)]
        refine if_neg fun h => ?_
        have h' := eq_of_beq h
        by_cases c : rd T i > rd T (i - 1)
        · have := a1.1 c
          rw [decide_eq_true (by omega), decide_eq_false (by omega)] at h'
          exact absurd h' (by decide)
        · have : rd T (i - 1) > rd T (i - 2) := by
            by_cases g : rd T (i - 1) > rd T (i - 2)
            · exact g
            · exact absurd (a1.2 g) c
          rw [decide_eq_false (by omega), decide_eq_true (by omega)] at h'
          exact absurd h' (by decide)
      simp only [laws_FnSwings.j4]
      rw [w64 (x := i + 1) (by omega) (by omega)]
      by_cases cb : b = true
      · rw [if_pos cb, if_pos h0, if_pos hlt]
        have g := e lo' (rd T i) (hlo' _ (fun _ => rfl) (fun c => by rw [q4 c] at cb; rw [if_pos (of_decide_eq_true cb)]))
        by_cases c1 : i > 1
        · rw [if_pos c1, w64 (x := i - 1) (by omega) (by omega), w64 (x := i - 2) (by omega) (by omega), if_pos (by omega), if_pos (by omega), if_pos (by omega), if_pos (by omega), halt c1, g]
        · rw [if_neg c1, g]
      · have ci : i ≠ 0 := fun c => cb (q3 c)
        have g := e lo' hi (hlo' _ (fun c => absurd c ci) (fun c => by rw [q4 c] at cb; rw [if_neg (fun h => cb (decide_eq_true h))]))
        rw [if_neg cb]
        by_cases c1 : i > 1
        · rw [if_pos c1, w64 (x := i - 1) (by omega) (by omega), w64 (x := i - 2) (by omega) (by omega), if_pos h0, if_pos hlt, if_pos (by omega), if_pos (by omega), if_pos (by omega), if_pos (by omega), halt c1, g]
        · rw [if_neg c1, g]
    have hj3 : ∀ lo', (i = 0 → lo' = rd T i) → (i ≠ 0 → lo' = if rd T i < lo then rd T i else lo) → laws_FnSwings.j3 (m + 2) T (SW T) lo' hi i = some true := by
      intro lo' q1 q2
      rw [show m + 2 = (m + 1) + 1 from rfl]
      simp only [laws_FnSwings.j3]
      by_cases c : i = 0
      · rw [if_pos c]; exact hj4 lo' q1 q2 true (fun _ => rfl) (fun h => absurd c h)
      · rw [if_neg c, if_pos h0, if_pos hlt]; exact hj4 lo' q1 q2 _ (fun h => absurd h c) (fun _ => rfl)
    have hj2 : ∀ b : Bool, (i = 0 → b = true) → (i ≠ 0 → b = decide (rd T i < lo)) → laws_FnSwings.j2 (m + 3) T (SW T) lo hi i b = some true := by
      intro b q3 q4
      rw [show m + 3 = (m + 2) + 1 from rfl]
      simp only [laws_FnSwings.j2]
      by_cases cb : b = true
      · rw [if_pos cb, if_pos h0, if_pos hlt]
        exact hj3 _ (fun _ => rfl) (fun c => by rw [q4 c] at cb; rw [if_pos (of_decide_eq_true cb)])
      · rw [if_neg cb]
        exact hj3 _ (fun c => absurd (q3 c) cb) (fun c => by rw [q4 c] at cb; rw [if_neg (fun h => cb (decide_eq_true h))])
    rw [show m + 4 = (m + 3) + 1 from rfl]
    simp only [laws_FnSwings.l0]
    rw [if_pos hlt]
    by_cases c : i = 0
    · rw [if_pos c]; exact hj2 true (fun _ => rfl) (fun h => absurd c h)
    · rw [if_neg c, if_pos h0]; exact hj2 _ (fun h => absurd h c) (fun _ => rfl)
theorem draw_loop (c : List Int) (hc : c.length ≤ 1048576) (d : Nat) : ∀ (o : List Int) (a p s : Int), InRow c p → d ≤ 1000 → o.length + d ≤ 1000 → ∃ (r : List Int) (p' s' : Int), r.length ≤ 2000 ∧ ∀ k, spec_l3DrawHistory.l0 (k + d + 1) o a (d : Int) c p s = some (r, p', s') := by
  induction d with
  | zero =>
    intro o a p s hp hd ho
    obtain ⟨v, p1, s1, e1, v0, v1, _, hp1⟩ := below_ok c hc hp s 30
    by_cases c1 : v = 0
    · obtain ⟨w, p2, s2, e2, _, hp2⟩ := pickI_ok c hc hp1 s1 [1000000000, 1000000001, (-1000000001)] (by simp)
      refine ⟨o ++ [w], p2, s2, by simp; omega, fun k => ?_⟩
      simp only [spec_l3DrawHistory.l0]
      rw [if_neg (by omega), e1, Option.bind_some]
      dsimp only
      rw [if_pos c1, e2, Option.bind_some, if_pos (by omega)]
    · by_cases c2 : v = 1
      · obtain ⟨w, p2, s2, e2, w0, w1, _, hp2⟩ := below_ok c hc hp1 s1 2
        have := w1 (by omega)
        refine ⟨List.replicate (200 + w).toNat 0, p2, s2, by simp; omega, fun k => ?_⟩
        simp only [spec_l3DrawHistory.l0]
        rw [if_neg (by omega), e1, Option.bind_some]
        dsimp only
        rw [if_neg c1, if_pos c2, e2, Option.bind_some]
        dsimp only
        rw [w64 (x := 200 + w) (by omega) (by omega), if_pos (by omega), if_pos (by omega)]
      · refine ⟨o, p1, s1, by omega, fun k => ?_⟩
        simp only [spec_l3DrawHistory.l0]
        rw [if_neg (by omega), e1, Option.bind_some]
        dsimp only
        rw [if_neg c1, if_neg c2]
  | succ d ih =>
    intro o a p s hp hd ho
    obtain ⟨v, p1, s1, e1, v0, v1, _, hp1⟩ := below_ok c hc hp s 11
    obtain ⟨r, p', s', hr, e⟩ := ih (o ++ [wrap64 (wrap64 (a + v) - 5)]) (wrap64 (wrap64 (a + v) - 5)) p1 s1 hp1 (by omega) (by simp; omega)
    refine ⟨r, p', s', hr, fun k => ?_⟩
    have e' := e k
    rw [show k + (d + 1) + 1 = (k + d + 1) + 1 from rfl]
    obtain ⟨m, hm⟩ : ∃ m, m = k + d + 1 := ⟨_, rfl⟩
    rw [← hm] at e' ⊢
    simp only [spec_l3DrawHistory.l0]
    rw [if_pos (by omega), e1, Option.bind_some, if_pos (by omega), w64 (x := ((d + 1 : Nat) : Int) - 1) (by omega) (by omega), show ((d + 1 : Nat) : Int) - 1 = (d : Int) by omega]
    exact e'
theorem draw_ok (c : List Int) (hc : c.length ≤ 1048576) : ∃ r : List Int, r.length ≤ 2000 ∧ ∀ k, 5000 < k → spec_DrawSwings.f k c = some r := by
  obtain ⟨s, hs⟩ := new_ok c hc
  obtain ⟨n, hn, n0, n1⟩ := size_ok c hc 30 (by omega)
  obtain ⟨v, p1, s1, e1, v0, v1, _, hp1⟩ := below_ok c hc (show InRow c 0 from ⟨by omega, by omega⟩) s (2 * n)
  have := v1 (by omega)
  obtain ⟨r, p', s', hr, e⟩ := draw_loop c hc v.toNat [] 0 p1 s1 hp1 (by omega) (by simp; omega)
  refine ⟨r, hr, fun k hk => ?_⟩
  have e' := e (k - v.toNat - 1)
  rw [show k - v.toNat - 1 + v.toNat + 1 = k by omega, show ((v.toNat : Nat) : Int) = v by omega] at e'
  unfold spec_DrawSwings.f
  rw [hs k (by omega), Option.bind_some]
  dsimp only
  unfold spec_l3DrawHistory.f
  rw [hn, Option.bind_some, w64 (x := 2 * n) (by omega) (by omega), e1, Option.bind_some]
  dsimp only
  rw [e', Option.bind_some]
theorem FnSwings : laws_FnSwings.Pure := by
  intro l _ _ _
  refine ⟨2000001, ?_⟩
  unfold laws_FnSwings.f laws_big.f
  rw [Option.bind_some]
  by_cases hn : (l.length : Int) > 1048576
  · rw [if_pos (decide_eq_true hn)]
  · obtain ⟨a, ha, hd⟩ := draw_ok l (by omega)
    obtain ⟨T, t1, t2, t3, t4, _⟩ := turns_val a (by omega)
    obtain ⟨q1, q2⟩ := t4 2000001 (by omega)
    obtain ⟨V, v1, _, _, v4, v5⟩ := turns_val [1, 3, 2] (by simp)
    obtain ⟨_, v2⟩ := v4 2000001 (by omega)
    have hsw : impl_Swings.f 2000001 a = some (SW T) := by
      unfold impl_Swings.f
      rw [q2, Option.bind_some, impl_sw T (by omega) _ (by omega)]
    rw [if_neg (by rw [decide_eq_false hn]; simp), hd _ (by omega), Option.bind_some, q2, Option.bind_some, hsw, Option.bind_some, q1, Option.bind_some, if_pos rfl, v2, Option.bind_some, v5 rfl, show (2000001 : Nat) = 2000000 + 1 from rfl]
    simp only [laws_FnSwings.j0]
    rw [if_neg (by simp)]
    have := low_loop T t2 t3 (by omega) T.length 0 0 0 (by omega) (by omega) (by omega) ⟨fun j h0 h1 => by omega, fun h => by omega, fun _ => ⟨rfl, rfl⟩⟩ (2000000 - 4 * T.length - 1) (by omega)
    rw [show 2000000 - 4 * T.length - 1 + 4 * T.length + 1 = 2000000 by omega] at this
    exact this

end Go.Proofs.Ytdjbglhhjffnkaa.Pure
