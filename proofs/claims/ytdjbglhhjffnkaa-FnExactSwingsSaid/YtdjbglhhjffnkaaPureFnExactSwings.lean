/- The program's Swings returns what the reference's returns, for all arguments; it changes none of them, and what it hands back is new memory. -/
import Derived.Test.YtdjbglhhjffnkaaPFnExactSwingsx7
import Derived.Test.YtdjbglhhjffnkaaKit
set_option linter.unusedVariables false
set_option linter.unusedSimpArgs false
namespace Go.Proofs.Ytdjbglhhjffnkaa.Pure
open Go.RowKit Go.Proofs.Ytdjbglhhjffnkaa.PFnExactSwings Go.Proofs.YtdjbglhhjffnkaaW.PrintWords Go.Proofs.YtdjbglhhjffnkaaW.PrintLast Go.Proofs.YtdjbglhhjffnkaaW.PrintMore Go.Proofs.YtdjbglhhjffnkaaW.Kit

/-! ### laws.eqIntS, markIntS, heldIntS -/
theorem eqI_loop (l : List Int) (hn : l.length ≤ 1000000000) (d : Nat) : ∀ (k : Nat) (i : Int), 0 ≤ i → i ≤ l.length → (l.length : Int) - i = d → d < k → laws_eqIntS.l0 k l l i = some true := by
  induction d with
  | zero =>
    intro k i h0 h1 hd hk
    obtain ⟨k, rfl⟩ := pos_round (show 0 < k by omega)
    simp only [laws_eqIntS.l0]
    rw [if_neg (by omega)]
  | succ d ih =>
    intro k i h0 h1 hd hk
    obtain ⟨k, rfl⟩ := pos_round (show 0 < k by omega)
    simp only [laws_eqIntS.l0]
    rw [if_pos (by omega), if_pos h0, if_pos (by omega), w64 (x := i + 1) (by omega) (by omega)]
    simp only [if_true]
    exact ih k (i + 1) (by omega) (by omega) (by omega) (by omega)
theorem eqI (l : List Int) (hn : l.length ≤ 1000000000) (k : Nat) (hk : l.length < k) : laws_eqIntS.f k l l = some true := by
  unfold laws_eqIntS.f
  rw [if_pos rfl]
  exact eqI_loop l hn l.length k 0 (by omega) (by omega) (by omega) hk
theorem markI_loop (d : Nat) : ∀ (k : Nat) (l : List Int) (c i : Int), l.length ≤ 1000000000 → 0 ≤ i → i ≤ l.length → (l.length : Int) - i = d → d < k → 0 ≤ c → c + d ≤ 2000000000 →
    ∃ r, laws_markIntS.l0 k l c i = some (c + d, r) ∧ r.length = l.length ∧ ∀ j : Int, 0 ≤ j → j < l.length → rd r j = if j < i then rd l j else c + (j - i) := by
  induction d with
  | zero =>
    intro k l c i hn h0 h1 hd hk hc hc1
    obtain ⟨k, rfl⟩ := pos_round (show 0 < k by omega)
    simp only [laws_markIntS.l0]
    rw [if_neg (by omega)]
    exact ⟨l, by simp, rfl, fun j hj hj1 => by rw [if_pos (by omega)]⟩
  | succ d ih =>
    intro k l c i hn h0 h1 hd hk hc hc1
    obtain ⟨k, rfl⟩ := pos_round (show 0 < k by omega)
    obtain ⟨r, hr, hl, hj⟩ := ih k (l.set i.toNat c) (c + 1) (i + 1) (by simpa using hn) (by omega) (by simp; omega) (by simp; omega) (by omega) (by omega) (by omega)
    simp only [laws_markIntS.l0]
    rw [if_pos (by omega), if_pos h0, w64 (x := i + 1) (by omega) (by omega), w64 (x := c + 1) (by omega) (by omega), hr]
    refine ⟨r, ?_, by simpa using hl, fun j hj0 hj1 => ?_⟩
    · congr 2; omega
    · rw [hj j hj0 (by simpa using hj1)]
      by_cases e : j = i
      · subst e
        rw [if_pos (by omega), if_neg (by omega), rd_set_eq hj0 hj1]; omega
      · by_cases e2 : j < i
        · rw [if_pos (by omega), if_pos e2, rd_set_ne h0 hj0 (Ne.symm e)]
        · rw [if_neg (by omega), if_neg e2]; omega
theorem markI (l : List Int) (hn : l.length ≤ 1000000000) (k : Nat) (hk : l.length < k) :
    ∃ r, laws_markIntS.f k l 1 = some (1 + (l.length : Int), r) ∧ r.length = l.length ∧ ∀ j : Int, 0 ≤ j → j < l.length → rd r j = 1 + j := by
  obtain ⟨r, hr, hl, hj⟩ := markI_loop l.length k l 1 0 hn (by omega) (by omega) (by omega) hk (by omega) (by omega)
  exact ⟨r, hr, hl, fun j h0 h1 => by rw [hj j h0 h1, if_neg (by omega)]; omega⟩
/-! ### turning points, over lists -/
/-- The last one of b and m. -/
def lst : Int → List Int → Int
  | b, [] => b
  | _, c :: m => lst c m
/-- What is kept behind p: what turns, and the last one. -/
def fK : Int → List Int → List Int
  | _, [] => []
  | _, [b] => [b]
  | p, b :: c :: m => if (decide (b > p) == decide (b > c)) = true then b :: fK b (c :: m) else fK b (c :: m)
/-- .. and the first one. -/
def fT : List Int → List Int
  | [] => []
  | b :: m => b :: fK b m
/-- What is kept between p and n. -/
def iK : Int → List Int → Int → List Int
  | _, [], _ => []
  | p, [b], n => if (decide (b > p) == decide (b > n)) = true then [b] else []
  | p, b :: c :: m, n => (if (decide (b > p) == decide (b > c)) = true then [b] else []) ++ iK b (c :: m) n
theorem fK_snoc (m : List Int) : ∀ (p y : Int), fK p (m ++ [y]) = iK p m y ++ [y] := by
  induction m with
  | nil => intro p y; rfl
  | cons b m ih =>
    intro p y
    cases m with
    | nil =>
      show (if (decide (b > p) == decide (b > y)) = true then b :: fK b [y] else fK b [y]) = _
      simp only [iK, fK]
      split <;> rfl
    | cons c m =>
      show (if (decide (b > p) == decide (b > c)) = true then b :: fK b ((c :: m) ++ [y]) else fK b ((c :: m) ++ [y])) = _
      rw [ih b y]
      simp only [iK]
      split <;> rfl
theorem iK_snoc (m : List Int) : ∀ (p y x : Int), iK p (m ++ [y]) x = iK p m y ++ (if (decide (y > lst p m) == decide (y > x)) = true then [y] else []) := by
  induction m with
  | nil => intro p y x; rfl
  | cons b m ih =>
    intro p y x
    cases m with
    | nil => rfl
    | cons c m =>
      show (if (decide (b > p) == decide (b > c)) = true then [b] else []) ++ iK b ((c :: m) ++ [y]) x = _
      rw [ih b y x]
      simp only [iK, lst, List.append_assoc]
      rfl
/-- No one is like the one before it. -/
def Dist : Int → List Int → Prop
  | _, [] => True
  | p, b :: m => b ≠ p ∧ Dist b m
theorem dist_snoc (m : List Int) : ∀ (p y : Int), Dist p (m ++ [y]) ↔ Dist p m ∧ y ≠ lst p m := by
  induction m with
  | nil => intro p y; simp [Dist, lst]
  | cons b m ih => intro p y; simp only [List.cons_append, Dist, lst, ih b y, and_assoc]
theorem dir_turn {b p c w : Int} (h1 : b ≠ p) (h2 : c ≠ b) (hw : decide (b > w) = decide (b > p)) (hk : ¬ (decide (b > p) == decide (b > c)) = true) : decide (c > w) = decide (c > b) := by
  by_cases h : b > p
  · rw [decide_eq_true h] at hw hk
    have hw' := of_decide_eq_true hw
    by_cases h3 : b > c
    · rw [decide_eq_true h3] at hk; exact absurd rfl hk
    · rw [decide_eq_true (show c > w by omega), decide_eq_true (show c > b by omega)]
  · rw [decide_eq_false h] at hw hk
    have hw' := of_decide_eq_false hw
    by_cases h3 : b > c
    · rw [decide_eq_false (show ¬ c > w by omega), decide_eq_false (show ¬ c > b by omega)]
    · rw [decide_eq_false h3] at hk; exact absurd rfl hk
/-- From the turning point before the last on it goes one way. -/
theorem dir_acc (m : List Int) : ∀ (p b y w : Int) (q : List Int), b ≠ p → Dist b (m ++ [y]) → decide (b > w) = decide (b > p) → ∃ (q' : List Int) (w' : Int), q ++ [w] ++ iK p (b :: m) y = q' ++ [w'] ∧ decide (y > w') = decide (y > lst b m) := by
  induction m with
  | nil =>
    intro p b y w q hbp hd hw
    simp only [List.nil_append, Dist, and_true] at hd
    simp only [iK, lst]
    by_cases h : (decide (b > p) == decide (b > y)) = true
    · rw [if_pos h]; exact ⟨q ++ [w], b, rfl, rfl⟩
    · rw [if_neg h, List.append_nil]; exact ⟨q, w, rfl, dir_turn hbp hd hw h⟩
  | cons c m ih =>
    intro p b y w q hbp hd hw
    simp only [List.cons_append, Dist] at hd
    simp only [iK, lst]
    by_cases h : (decide (b > p) == decide (b > c)) = true
    · rw [if_pos h]
      obtain ⟨q', w', e, hd'⟩ := ih b c y b (q ++ [w]) hd.1 hd.2 rfl
      exact ⟨q', w', by rw [← e]; simp, hd'⟩
    · rw [if_neg h, List.nil_append]
      exact ih b c y w q hd.1 hd.2 (dir_turn hbp hd.1 hw h)
theorem dir_last (b y : Int) (m : List Int) (hd : Dist b (m ++ [y])) : ∃ (q : List Int) (w : Int), b :: iK b m y = q ++ [w] ∧ decide (y > w) = decide (y > lst b m) := by
  cases m with
  | nil => exact ⟨[], b, rfl, rfl⟩
  | cons c m =>
    simp only [List.cons_append, Dist] at hd
    obtain ⟨q', w', e, hd'⟩ := dir_acc m b c y b [] hd.1 hd.2 rfl
    exact ⟨q', w', by rw [← e]; rfl, hd'⟩
/-- One more: what was the last turns, or gives way. -/
theorem fT_snoc (b y x : Int) (m : List Int) (hd : Dist b (m ++ [y])) (hx : x ≠ y) : ∃ (q : List Int) (w : Int), fT (b :: (m ++ [y])) = q ++ [w] ++ [y] ∧ fT (b :: (m ++ [y]) ++ [x]) = if (decide (y > w) == decide (x > y)) = true then q ++ [w] ++ [x] else q ++ [w] ++ [y] ++ [x] := by
  obtain ⟨q, w, e, hw⟩ := dir_last b y m hd
  refine ⟨q, w, ?_, ?_⟩
  · show b :: fK b (m ++ [y]) = _
    rw [fK_snoc, ← List.cons_append, e]
  · show b :: fK b ((m ++ [y]) ++ [x]) = _
    rw [fK_snoc, iK_snoc, ← List.cons_append, ← List.cons_append, e, hw]
    have hdy := (dist_snoc m b y).1 hd
    by_cases h1 : y > lst b m
    · by_cases h2 : y > x
      · rw [decide_eq_true h1, decide_eq_true h2, decide_eq_false (show ¬ x > y by omega)]; rfl
      · rw [decide_eq_true h1, decide_eq_false h2, decide_eq_true (show x > y by omega)]; simp
    · by_cases h2 : y > x
      · rw [decide_eq_false h1, decide_eq_true h2, decide_eq_false (show ¬ x > y by omega)]; simp
      · rw [decide_eq_false h1, decide_eq_false h2, decide_eq_true (show x > y by omega)]; rfl
/-! ### what is no repeat -/
/-- Behind o, unless it is the last of o again. -/
def dd (o : List Int) (x : Int) : List Int := match o.reverse with
  | [] => [x]
  | y :: _ => if x = y then o else o ++ [x]
theorem dd_nil (x : Int) : dd [] x = [x] := rfl
theorem dd_same (q : List Int) (y : Int) : dd (q ++ [y]) y = q ++ [y] := by
  simp [dd]
theorem dd_new (q : List Int) (y x : Int) (h : x ≠ y) : dd (q ++ [y]) x = q ++ [y] ++ [x] := by
  simp [dd, h]
def DD (l : List Int) : List Int := l.foldl dd []
theorem DD_snoc (l : List Int) (x : Int) : DD (l ++ [x]) = dd (DD l) x := by simp [DD, List.foldl_append]
/-- A row of which no one is like the one before it. -/
def DistL : List Int → Prop
  | [] => True
  | b :: m => Dist b m
theorem DD_ok (l : List Int) (x : Int) : ∃ q, DD (l ++ [x]) = q ++ [x] := by
  rw [DD_snoc]
  unfold dd
  split
  · exact ⟨[], rfl⟩
  · rename_i y t h
    have e : DD l = t.reverse ++ [y] := by
      have := congrArg List.reverse h
      simpa using this
    split
    · rename_i hx
      exact ⟨t.reverse, by rw [e, hx]⟩
    · exact ⟨DD l, rfl⟩
theorem distL_snoc (q : List Int) (y x : Int) (h : DistL (q ++ [y])) (hx : x ≠ y) : DistL (q ++ [y] ++ [x]) := by
  cases q with
  | nil => exact ⟨hx, trivial⟩
  | cons b m =>
    show Dist b ((m ++ [y]) ++ [x])
    rw [dist_snoc]
    refine ⟨h, ?_⟩
    have e : ∀ (m : List Int) (b : Int), lst b (m ++ [y]) = y := by
      intro m
      induction m with
      | nil => intro b; rfl
      | cons c m ih => intro b; exact ih c
    rw [e]; exact hx
theorem DD_len (l : List Int) : (DD l).length ≤ l.length ∧ DistL (DD l) := by
  have : ∀ (t o : List Int), DistL o → (t.foldl dd o).length ≤ o.length + t.length ∧ DistL (t.foldl dd o) := by
    intro t
    induction t with
    | nil => intro o ho; exact ⟨by simp, ho⟩
    | cons x t ih =>
      intro o ho
      have h1 : (dd o x).length ≤ o.length + 1 ∧ DistL (dd o x) := by
        unfold dd
        split
        · exact ⟨by simp, trivial⟩
        · rename_i y r h
          have e : o = r.reverse ++ [y] := by
            have := congrArg List.reverse h
            simpa using this
          split
          · exact ⟨by omega, ho⟩
          · rename_i hx
            exact ⟨by simp, by rw [e] at ho ⊢; exact distL_snoc _ _ _ ho hx⟩
      obtain ⟨h2, h3⟩ := ih (dd o x) h1.2
      exact ⟨by simp only [List.foldl_cons, List.length_cons]; omega, h3⟩
  simpa [DD] using this l [] trivial
theorem fK_len (m : List Int) : ∀ p, (fK p m).length ≤ m.length := by
  induction m with
  | nil => intro p; simp [fK]
  | cons b m ih =>
    intro p
    cases m with
    | nil => simp [fK]
    | cons c m =>
      have := ih b
      simp only [fK]
      split <;> simp only [List.length_cons] at * <;> omega
theorem fT_len (l : List Int) : (fT l).length ≤ l.length := by
  cases l with
  | nil => simp [fT]
  | cons b m => have := fK_len m b; simp only [fT, List.length_cons]; omega
/-! ### the loops -/
theorem own_intsT (l : List Int) (h : l.length ≤ 1048576) : impl_own_int.f l = some l := by
  unfold impl_own_int.f
  rw [if_pos (by omega), if_pos (by omega), Option.bind_some, if_pos (by simp; omega)]; rfl
theorem drop_cons2 {l : List Int} {i : Int} (h0 : 0 ≤ i) (h1 : i < l.length) (h2 : i + 1 < l.length) : l.drop i.toNat = rd l i :: rd l (i + 1) :: l.drop (i + 1 + 1).toNat := by
  rw [drop_rd h0 h1, drop_rd (by omega) h2]
theorem keep_loop (l : List Int) (hl : l.length ≤ 1000) (d : Nat) : ∀ (o : List Int) (j : Int), 1 ≤ j → j ≤ l.length → (l.length : Int) - j = d → o.length ≤ 1000 + j.toNat → ∀ k, d < k → impl_Turns.l1 k l o l (l.length : Int) j = some (o ++ fK (rd l (j - 1)) (l.drop j.toNat)) := by
  induction d with
  | zero =>
    intro o j h0 h1 hd ho k hk
    obtain ⟨k, rfl⟩ := pos_round (show 0 < k by omega)
    simp only [impl_Turns.l1]
    rw [if_neg (by omega), own_intsT o (by omega), Option.bind_some, List.drop_eq_nil_of_le (by omega)]
    simp [fK]
  | succ d ih =>
    intro o j h0 h1 hd ho k hk
    obtain ⟨k, rfl⟩ := pos_round (show 0 < k by omega)
    have hlt : j < (l.length : Int) := by omega
    simp only [impl_Turns.l1]
    rw [if_pos hlt, if_pos (by omega), if_pos hlt, if_neg (by omega), w64 (x := (l.length : Int) - 1) (by omega) (by omega), w64 (x := j + 1) (by omega) (by omega), w64 (x := j - 1) (by omega) (by omega)]
    by_cases c : j = (l.length : Int) - 1
    · rw [if_pos c, if_pos (by omega), ih (o ++ [rd l j]) (j + 1) (by omega) (by omega) (by omega) (by simp; omega) k (by omega), drop_rd (by omega) hlt, List.drop_eq_nil_of_le (show l.length ≤ (j + 1).toNat by omega)]
      simp [fK]
    · rw [if_neg c, if_pos (by omega), if_pos (by omega), if_pos (by omega), if_pos (by omega), drop_cons2 (by omega) hlt (by omega)]
      simp only [fK]
      have e : rd l (j + 1) :: l.drop (j + 1 + 1).toNat = l.drop (j + 1).toNat := (drop_rd (by omega) (by omega)).symm
      rw [e]
      by_cases c2 : (decide (rd l j > rd l (j - 1)) == decide (rd l j > rd l (j + 1))) = true
      · rw [if_pos c2, if_pos c2, if_pos (by omega), ih (o ++ [rd l j]) (j + 1) (by omega) (by omega) (by omega) (by simp; omega) k (by omega), show j + 1 - 1 = j by omega]
        simp
      · rw [if_neg c2, if_neg c2, ih o (j + 1) (by omega) (by omega) (by omega) (by omega) k (by omega), show j + 1 - 1 = j by omega]
theorem keep_all (l : List Int) (hl : l.length ≤ 1000) (k : Nat) (hk : l.length < k) : impl_Turns.l1 k l [] l (l.length : Int) 0 = some (fT l) := by
  obtain ⟨k, rfl⟩ := pos_round (show 0 < k by omega)
  by_cases h : l.length = 0
  · have : l = [] := List.eq_nil_of_length_eq_zero h
    subst this
    simp only [impl_Turns.l1]
    rw [if_neg (by simp), own_intsT [] (by simp), Option.bind_some]; rfl
  · have hd := drop_rd (l := l) (i := 0) (by omega) (by omega)
    simp only [Int.toNat_zero, List.drop_zero] at hd
    have hk2 := keep_loop l hl (l.length - 1) ([] ++ [rd l 0]) 1 (by omega) (by omega) (by omega) (by simp) k (by omega)
    simp only [impl_Turns.l1]
    rw [if_pos (by omega), if_pos (by omega), if_pos (by omega), if_pos trivial, if_pos (by simp), w64 (x := 0 + 1) (by omega) (by omega), show (0 : Int) + 1 = 1 by omega, hk2]
    congr 1
    conv => rhs; rw [hd]
    rfl
theorem once_loop (a : List Int) (ha : a.length ≤ 200) (d : Nat) : ∀ (i : Int), 0 ≤ i → i ≤ a.length → (a.length : Int) - i = d → ∀ k, 300 + d < k → impl_Turns.l0 k a (DD (a.take i.toNat)) a (a.length : Int) i = some (fT (DD a)) := by
  induction d with
  | zero =>
    intro i h0 h1 hd k hk
    obtain ⟨k, rfl⟩ := pos_round (show 0 < k by omega)
    have hl := (DD_len a).1
    simp only [impl_Turns.l0]
    rw [if_neg (by omega), List.take_of_length_le (by omega)]
    exact keep_all (DD a) (by omega) k (by omega)
  | succ d ih =>
    intro i h0 h1 hd k hk
    obtain ⟨k, rfl⟩ := pos_round (show 0 < k by omega)
    have hlt : i < (a.length : Int) := by omega
    have hl := (DD_len (a.take i.toNat)).1
    have hl2 : (a.take i.toNat).length ≤ 200 := by simp; omega
    have hI := ih (i + 1) (by omega) (by omega) (by omega) k (by omega)
    rw [take_rd h0 hlt, DD_snoc] at hI
    simp only [impl_Turns.l0]
    rw [if_pos hlt, if_pos h0, if_pos hlt, w64 (x := i + 1) (by omega) (by omega)]
    by_cases c : i = 0
    · subst c
      rw [if_pos rfl]
      simp only [Int.toNat_zero, List.take_zero] at hI
      rw [show DD [] = [] from rfl, dd_nil] at hI
      rw [if_pos (show (DD (a.take (Int.toNat 0))).length < 17592186044416 by omega)]
      exact hI
    · rw [if_neg c, w64 (x := i - 1) (by omega) (by omega), if_pos (by omega), if_pos (by omega)]
      obtain ⟨q, hq⟩ := DD_ok (a.take (i - 1).toNat) (rd a (i - 1))
      rw [← take_rd (by omega) (by omega), show i - 1 + 1 = i by omega] at hq
      rw [hq] at hI ⊢
      by_cases c2 : rd a i = rd a (i - 1)
      · rw [if_pos c2]
        rw [c2, dd_same] at hI
        exact hI
      · rw [if_neg c2, if_pos (by first | omega | (rw [← hq]; omega))]
        rw [dd_new _ _ _ c2] at hI
        exact hI
theorem rd_prev {q : List Int} {w y : Int} : rd (q ++ [w] ++ [y]) (((q ++ [w] ++ [y]).length : Int) - 2) = w := by
  rw [show (((q ++ [w] ++ [y]).length : Nat) : Int) - 2 = (q.length : Int) by first | (simp; done) | (simp; omega), List.append_assoc, rd_append_right (Int.le_refl _), Int.sub_self]; rfl
theorem rd_end {q : List Int} {y : Int} : rd (q ++ [y]) (((q ++ [y]).length : Int) - 1) = y := by
  rw [show (((q ++ [y]).length : Nat) : Int) - 1 = (q.length : Int) by simp]; exact rd_last
theorem set_end {q : List Int} {y x : Int} : (q ++ [y]).set (((q ++ [y]).length : Int) - 1).toNat x = q ++ [x] := by
  rw [show ((((q ++ [y]).length : Nat) : Int) - 1).toNat = q.length by simp]
  simp
theorem pass_loop (a : List Int) (ha : a.length ≤ 200) (d : Nat) : ∀ (i : Int), 0 ≤ i → i ≤ a.length → (a.length : Int) - i = d → ∀ k, 2 * d < k → spec_Turns.l0 k a (fT (DD (a.take i.toNat))) i = some (fT (DD a)) := by
  induction d with
  | zero =>
    intro i h0 h1 hd k hk
    obtain ⟨k, rfl⟩ := pos_round (show 0 < k by omega)
    simp only [spec_Turns.l0]
    rw [if_neg (by omega), List.take_of_length_le (by omega)]
  | succ d ih =>
    intro i h0 h1 hd k hk
    obtain ⟨k, rfl⟩ : ∃ j, k = j + 2 := ⟨k - 2, by omega⟩
    have hlt : i < (a.length : Int) := by omega
    have hI := ih (i + 1) (by omega) (by omega) (by omega) k (by omega)
    rw [take_rd h0 hlt, DD_snoc] at hI
    have hl2 : (a.take i.toNat).length ≤ 200 := by simp; omega
    obtain ⟨hl, hdist⟩ := DD_len (a.take i.toNat)
    have hf := fT_len (DD (a.take i.toNat))
    generalize DD (a.take i.toNat) = l at hI hl hdist hf ⊢
    generalize hx : rd a i = x at hI
    -- the row so far: empty, one, or more
    have hcase : l = [] ∨ (∃ y, l = [y]) ∨ ∃ b m y, l = b :: (m ++ [y]) := by
      cases l with
      | nil => exact .inl rfl
      | cons b m =>
        rcases List.eq_nil_or_concat m with rfl | ⟨m', y, rfl⟩
        · exact .inr (.inl ⟨b, rfl⟩)
        · exact .inr (.inr ⟨b, m', y, by simp⟩)
    rcases hcase with rfl | ⟨y, rfl⟩ | ⟨b, m, y, rfl⟩
    · rw [dd_nil] at hI
      rw [show fT [x] = [x] from rfl] at hI
      rw [show fT [] = [] from rfl]
      simp only [spec_Turns.l0, spec_Turns.j2]
      rw [if_pos hlt, if_neg (by first | omega | (simp; done) | (simp; omega) | (show 1 < _; omega)), if_neg (by first | omega | (simp; done) | (simp; omega) | (show 1 < _; omega)), if_neg (by first | omega | (simp; done) | (simp; omega) | (show 1 < _; omega)), if_pos h0, if_pos hlt, if_pos (by first | omega | (simp; done) | (simp; omega) | (show 1 < _; omega)), w64 (x := i + 1) (by omega) (by omega), hx]
      exact hI
    · have e1 : rd [y] (([y].length : Int) - 1) = y := rfl
      rw [show fT [y] = [y] from rfl]
      simp only [spec_Turns.l0, spec_Turns.j2]
      rw [if_pos hlt, if_pos (by first | omega | (simp; done) | (simp; omega) | (show 1 < _; omega)), w64 (x := (([y].length : Nat) : Int) - 1) (by first | omega | (simp; done) | (simp; omega) | (show 1 < _; omega)) (by first | omega | (simp; done) | (simp; omega) | (show 1 < _; omega)), if_pos (by first | omega | (simp; done) | (simp; omega) | (show 1 < _; omega)), if_pos (by first | omega | (simp; done) | (simp; omega) | (show 1 < _; omega)), if_pos h0, e1, hx, w64 (x := i + 1) (by omega) (by omega)]
      by_cases c : x = y
      · subst c
        rw [show dd [x] x = [x] from dd_same [] x] at hI
        rw [show fT [x] = [x] from rfl] at hI
        rw [if_pos (by first | omega | (simp; done) | (simp; omega) | (show 1 < _; omega))]
        exact hI
      · rw [show dd [y] x = [y] ++ [x] from dd_new [] y x c] at hI
        rw [if_neg (by simpa using fun h => c h.symm), if_neg (by first | omega | (simp; done) | (simp; omega) | (show 1 < _; omega)), if_pos hlt, if_pos (by first | omega | (simp; done) | (simp; omega) | (show 1 < _; omega))]
        exact hI
    · by_cases c : x = y
      · subst c
        rw [show dd (b :: (m ++ [x])) x = b :: (m ++ [x]) from dd_same (b :: m) x] at hI
        have e : ∃ q, fT (b :: (m ++ [x])) = q ++ [x] := ⟨b :: iK b m x, by show b :: fK b (m ++ [x]) = _; rw [fK_snoc]; rfl⟩
        obtain ⟨q, e⟩ := e
        rw [e] at hI hf ⊢
        simp only [List.length_append, List.length_cons, List.length_nil] at hf hl
        simp only [spec_Turns.l0, spec_Turns.j2]
        rw [if_pos hlt, if_pos (by first | omega | (simp; done) | (simp; omega) | (show 1 < _; omega)), w64 (x := (((q ++ [x]).length : Nat) : Int) - 1) (by first | omega | (simp; done) | (simp; omega) | (show 1 < _; omega)) (by first | omega | (simp; done) | (simp; omega) | (show 1 < _; omega)), if_pos (by first | omega | (simp; done) | (simp; omega) | (show 1 < _; omega)), if_pos (by omega), if_pos h0, rd_end, hx, w64 (x := i + 1) (by omega) (by omega), if_pos (by first | omega | (simp; done) | (simp; omega) | (show 1 < _; omega))]
        exact hI
      · rw [show dd (b :: (m ++ [y])) x = b :: (m ++ [y]) ++ [x] from dd_new (b :: m) y x c] at hI
        obtain ⟨q, w, e1, e2⟩ := fT_snoc b y x m hdist c
        rw [e2] at hI
        rw [e1] at hf ⊢
        simp only [List.length_append, List.length_cons, List.length_nil] at hf hl
        simp only [spec_Turns.l0, spec_Turns.j2]
        rw [if_pos hlt, if_pos (by first | omega | (simp; done) | (simp; omega) | (show 1 < _; omega)), w64 (x := (((q ++ [w] ++ [y]).length : Nat) : Int) - 1) (by first | omega | (simp; done) | (simp; omega) | (show 1 < _; omega)) (by first | omega | (simp; done) | (simp; omega) | (show 1 < _; omega)), w64 (x := (((q ++ [w] ++ [y]).length : Nat) : Int) - 2) (by first | omega | (simp; done) | (simp; omega) | (show 1 < _; omega)) (by first | omega | (simp; done) | (simp; omega) | (show 1 < _; omega)), if_pos (by first | omega | (simp; done) | (simp; omega) | (show 1 < _; omega)), if_pos (by omega), if_pos h0, rd_end, hx, w64 (x := i + 1) (by omega) (by omega), if_neg (by simpa using fun h => c h.symm), if_pos (by first | omega | (simp; done) | (simp; omega) | (show 1 < _; omega)), if_pos (by first | omega | (simp; done) | (simp; omega) | (show 1 < _; omega)), if_pos (by omega), if_pos (by first | omega | (simp; done) | (simp; omega) | (show 1 < _; omega)), if_pos (by first | omega | (simp; done) | (simp; omega) | (show 1 < _; omega)), if_pos h0, if_pos hlt, rd_prev]
        by_cases c2 : (decide (y > w) == decide (x > y)) = true
        · rw [if_pos c2] at hI ⊢
          rw [set_end]; exact hI
        · rw [if_neg c2] at hI ⊢
          rw [if_pos (by first | omega | (simp; done) | (simp; omega) | (show 1 < _; omega))]; exact hI
/-! ### the tests of a whole row, and the law's own words -/
theorem in_okT (a b c : Int) : spec_l1In.f a b c = some (decide (b ≤ a) && decide (a ≤ c)) := by
  unfold spec_l1In.f
  by_cases h : a ≥ b
  · rw [if_pos h, decide_eq_true (show b ≤ a from h)]; rfl
  · rw [if_neg h, decide_eq_false (show ¬ b ≤ a from h)]; rfl
theorem l3_loop (l : List Int) (a b : Int) (hn : l.length ≤ 1000000000) (d : Nat) : ∀ (i : Int), 0 ≤ i → i ≤ l.length → (l.length : Int) - i = d → ∀ k, d < k → spec_l3All.l0 k l a b i = some ((l.drop i.toNat).all fun x => decide (a ≤ x) && decide (x ≤ b)) := by
  induction d with
  | zero =>
    intro i h0 h1 hd k hk
    obtain ⟨k, rfl⟩ := pos_round (show 0 < k by omega)
    simp only [spec_l3All.l0]
    rw [if_neg (by omega), List.drop_eq_nil_of_le (by omega)]; rfl
  | succ d ih =>
    intro i h0 h1 hd k hk
    obtain ⟨k, rfl⟩ := pos_round (show 0 < k by omega)
    simp only [spec_l3All.l0]
    rw [if_pos (by omega), if_pos h0, in_okT, Option.bind_some, w64 (x := i + 1) (by omega) (by omega), ih (i + 1) (by omega) (by omega) (by omega) k (by omega), drop_rd h0 (by omega), List.all_cons]
    by_cases c : (decide (a ≤ rd l i) && decide (rd l i ≤ b)) = true
    · rw [if_pos c, c, Bool.true_and]
    · rw [if_neg c, Bool.eq_false_iff.2 c, Bool.false_and]
theorem l3_ok (l : List Int) (a b : Int) (hn : l.length ≤ 1000000000) (k : Nat) (hk : l.length < k) : spec_l3All.f k l a b = some (l.all fun x => decide (a ≤ x) && decide (x ≤ b)) := by
  unfold spec_l3All.f
  rw [l3_loop l a b hn l.length 0 (by omega) (by omega) (by omega) k hk]; rfl
theorem turns_same (a : List Int) (hn : a.length ≤ 1048576) : ∃ r : List Int, r.length ≤ 200 ∧ ∀ k, 1048600 < k → spec_Turns.f k a = some r ∧ impl_Turns.f k a = some r := by
  by_cases h : a.length ≤ 200
  · by_cases c : (a.all fun x => decide (-1000000000 ≤ x) && decide (x ≤ 1000000000)) = true
    · have hl1 := (DD_len a).1
      have hl2 := fT_len (DD a)
      refine ⟨fT (DD a), by omega, fun k hk => ?_⟩
      obtain ⟨k, rfl⟩ := pos_round (show 0 < k by omega)
      unfold spec_Turns.f impl_Turns.f impl_all.f
      rw [Option.bind_some, if_neg (by omega), if_neg (by omega), l3_ok a _ _ (by omega) _ (by omega), c, Option.bind_some, Option.bind_some]
      simp only [spec_Turns.j0, impl_Turns.j0, Bool.not_true, Bool.false_eq_true, if_false]
      have h1 := pass_loop a h a.length 0 (by omega) (by omega) (by omega) k (by omega)
      have h2 := once_loop a h a.length 0 (by omega) (by omega) (by omega) k (by omega)
      exact ⟨h1, h2⟩
    · refine ⟨[], by simp, fun k hk => ?_⟩
      obtain ⟨k, rfl⟩ := pos_round (show 0 < k by omega)
      unfold spec_Turns.f impl_Turns.f impl_all.f
      rw [Option.bind_some, if_neg (by omega), if_neg (by omega), l3_ok a _ _ (by omega) _ (by omega), Bool.eq_false_iff.2 c, Option.bind_some, Option.bind_some]
      simp only [spec_Turns.j0, impl_Turns.j0, Bool.not_false, if_true]; exact ⟨trivial, trivial⟩
  · refine ⟨[], by simp, fun k hk => ?_⟩
    obtain ⟨k, rfl⟩ := pos_round (show 0 < k by omega)
    unfold spec_Turns.f impl_Turns.f
    rw [Option.bind_some, if_pos (by omega), if_pos (by omega)]
    simp only [spec_Turns.j0, impl_Turns.j0, if_true]; exact ⟨trivial, trivial⟩
theorem toI_loop (l : List Int) (hn : l.length ≤ 1000000000) (d : Nat) : ∀ (i : Int) (o : List Int), 0 ≤ i → i ≤ l.length → (l.length : Int) - i = d → o.length = l.length → (∀ j : Int, 0 ≤ j → j < i → rd o j = rd l j) → ∀ k, d < k → laws_toIntS.l0 k l o i = some l := by
  induction d with
  | zero =>
    intro i o h0 h1 hd ho hr k hk
    obtain ⟨k, rfl⟩ := pos_round (show 0 < k by omega)
    simp only [laws_toIntS.l0]
    rw [if_neg (by omega)]
    congr 1
    exact ext_rd ho (fun j hj0 hj1 => hr j hj0 (by omega))
  | succ d ih =>
    intro i o h0 h1 hd ho hr k hk
    obtain ⟨k, rfl⟩ := pos_round (show 0 < k by omega)
    simp only [laws_toIntS.l0]
    rw [if_pos (by omega), if_pos h0, if_pos (by omega), w64 (x := i + 1) (by omega) (by omega)]
    refine ih (i + 1) _ (by omega) (by omega) (by omega) (by simpa using ho) (fun j hj0 hj1 => ?_) k (by omega)
    by_cases e : j = i
    · subst e; exact rd_set_eq hj0 (by omega)
    · rw [rd_set_ne h0 hj0 (Ne.symm e)]; exact hr j hj0 (by omega)
theorem toI_ok (l : List Int) (hn : l.length ≤ 1000000000) (k : Nat) (hk : l.length < k) : laws_toIntS.f k l = some l := by
  unfold laws_toIntS.f
  rw [if_pos (by omega), if_pos (by omega)]
  exact toI_loop l hn l.length 0 _ (by omega) (by omega) (by omega) (by simp) (fun j h0 h1 => by omega) k hk

theorem rd38_lt {l : List S38} {i : Int} (h0 : 0 ≤ i) (h1 : i < l.length) : ∃ h : i.toNat < l.length, rd_T38 l i = l[i.toNat]'h := by
  have h : i.toNat < l.length := by omega
  exact ⟨h, by simp [rd_T38, List.getD_eq_getElem?_getD, List.getElem?_eq_getElem h]⟩
theorem rd38_mem {l : List S38} {i : Int} (h0 : 0 ≤ i) (h1 : i < l.length) : rd_T38 l i ∈ l := by
  obtain ⟨h, e⟩ := rd38_lt h0 h1
  rw [e]; exact List.getElem_mem h
theorem rd38_drop {l : List S38} {i : Int} (h0 : 0 ≤ i) (h1 : i < l.length) : l.drop i.toNat = rd_T38 l i :: l.drop (i + 1).toNat := by
  obtain ⟨h, e⟩ := rd38_lt h0 h1
  rw [e, show (i + 1).toNat = i.toNat + 1 by omega, List.drop_eq_getElem_cons h]
theorem rd38_take {l : List S38} {i : Int} (h0 : 0 ≤ i) (h1 : i < l.length) : l.take (i + 1).toNat = l.take i.toNat ++ [rd_T38 l i] := by
  obtain ⟨h, e⟩ := rd38_lt h0 h1
  rw [e, show (i + 1).toNat = i.toNat + 1 by omega, List.take_succ_eq_append_getElem h]
theorem rd38_set_eq {l : List S38} {i : Int} {x : S38} (h0 : 0 ≤ i) (h1 : i < l.length) : rd_T38 (l.set i.toNat x) i = x := by
  simp [rd_T38, List.getD_eq_getElem?_getD, List.getElem?_set, show i.toNat < l.length by omega]
theorem rd38_set_ne {l : List S38} {i j : Int} {x : S38} (h0 : 0 ≤ i) (hj : 0 ≤ j) (h : i ≠ j) : rd_T38 (l.set i.toNat x) j = rd_T38 l j := by
  simp [rd_T38, List.getD_eq_getElem?_getD, List.getElem?_set, show ¬ i.toNat = j.toNat by omega]
theorem rd38_append_left {l m : List S38} {i : Int} (h0 : 0 ≤ i) (h1 : i < l.length) : rd_T38 (l ++ m) i = rd_T38 l i := by
  simp [rd_T38, List.getD_eq_getElem?_getD, List.getElem?_append_left (show i.toNat < l.length by omega)]
theorem rd38_last {l : List S38} {x : S38} : rd_T38 (l ++ [x]) (l.length : Int) = x := by
  simp [rd_T38, List.getD_eq_getElem?_getD]
theorem ext38 {l m : List S38} (h : l.length = m.length) (hr : ∀ i : Int, 0 ≤ i → i < l.length → rd_T38 l i = rd_T38 m i) : l = m := by
  apply List.ext_getElem h
  intro i h1 h2
  have := hr i (by omega) (by omega)
  simpa [rd_T38, List.getD_eq_getElem?_getD, List.getElem?_eq_getElem h1, List.getElem?_eq_getElem h2] using this
theorem eqSwing_loop (l : List S38) (hn : l.length ≤ 1000000000) (d : Nat) : ∀ (k : Nat) (i : Int), 0 ≤ i → i ≤ l.length → (l.length : Int) - i = d → d < k → laws_eqSwingS.l0 k l l i = some true := by
  induction d with
  | zero =>
    intro k i h0 h1 hd hk
    obtain ⟨k, rfl⟩ := pos_round (show 0 < k by omega)
    simp only [laws_eqSwingS.l0]
    rw [if_neg (by omega)]
  | succ d ih =>
    intro k i h0 h1 hd hk
    obtain ⟨k, rfl⟩ := pos_round (show 0 < k by omega)
    simp only [laws_eqSwingS.l0]
    rw [if_pos (by omega), if_pos h0, if_pos (by omega), w64 (x := i + 1) (by omega) (by omega)]
    simp only [laws_eqSwing.f, if_true, Option.bind_some, bne_self_eq_false, Bool.false_eq_true, if_false]
    exact ih k (i + 1) (by omega) (by omega) (by omega) (by omega)
theorem eqSwing_ok (l : List S38) (hn : l.length ≤ 1000000000) (k : Nat) (hk : l.length < k) : laws_eqSwingS.f k l l = some true := by
  unfold laws_eqSwingS.f
  rw [if_pos rfl]
  exact eqSwing_loop l hn l.length k 0 (by omega) (by omega) (by omega) hk

/-! ### swings, over lists: the pile is told from its top -/
def sz (a : Int) : Int := if a < 0 then wrap64 (-a) else a
/-- How far it is from b to a. -/
def Df (a b : Int) : Int := sz (wrap64 (a - b))
/-- p comes upon the pile: what is over is told. -/
def red : List S38 → Int → List Int → List S38 × List Int
  | o, p, [] => (o, [p])
  | o, p, [x] => (o, [p, x])
  | o, p, [x, y] => if Df p x < Df x y then (o, [p, x, y]) else (o ++ [⟨Df x y, true⟩], [p, x])
  | o, p, x :: y :: z :: r => if Df p x < Df x y then (o, p :: x :: y :: z :: r) else red (o ++ [⟨Df x y, false⟩]) p (z :: r)
/-- What is left in the end. -/
def finL : List Int → List S38
  | a :: b :: t => ⟨Df b a, true⟩ :: finL (b :: t)
  | _ => []
def SW (T : List Int) : List S38 :=
  let os := T.foldl (fun os x => red os.1 x os.2) ([], [])
  os.1 ++ finL os.2.reverse
theorem red_len (n : Nat) : ∀ (s : List Int) (o : List S38) (p : Int), s.length ≤ n → (red o p s).1.length + (red o p s).2.length ≤ o.length + s.length + 1 := by
  induction n with
  | zero =>
    intro s o p h
    obtain rfl : s = [] := List.length_eq_zero_iff.1 (by omega)
    simp [red]
  | succ n ih =>
    intro s o p h
    match s with
    | [] => simp [red]
    | [x] => simp [red]
    | [x, y] =>
      unfold red
      split <;> simp
    | x :: y :: z :: r =>
      unfold red
      split
      · simp only [List.length_cons]; omega
      · have := ih (z :: r) (o ++ [⟨Df x y, false⟩]) p (by simp only [List.length_cons] at h ⊢; omega)
        simp only [List.length_append, List.length_cons, List.length_nil] at this ⊢
        omega
/-- The last ones of a row. -/
theorem top1 (q : List Int) (p : Int) : rd (q ++ [p]) (((q ++ [p]).length : Int) - 1) = p := by
  rw [show (((q ++ [p]).length : Int) - 1) = (q.length : Int) by simp]
  exact rd_last
theorem top2 (q : List Int) (x p : Int) : rd (q ++ [x, p]) (((q ++ [x, p]).length : Int) - 2) = x := by
  rw [show (((q ++ [x, p]).length : Int) - 2) = (q.length : Int) by simp, show q ++ [x, p] = (q ++ [x]) ++ [p] by simp, rd_append_left (by omega) (by simp; omega)]
  exact rd_last
theorem top3 (q : List Int) (y x p : Int) : rd (q ++ [y, x, p]) (((q ++ [y, x, p]).length : Int) - 3) = y := by
  rw [show (((q ++ [y, x, p]).length : Int) - 3) = (q.length : Int) by simp, show q ++ [y, x, p] = (q ++ [y]) ++ [x, p] by simp, rd_append_left (by omega) (by simp; omega)]
  exact rd_last
theorem size_i (a : Int) : impl_size.f a = some (sz a) := by
  unfold impl_size.f sz
  split <;> rfl
/-- One round of the inner loop, of the program, at a pile of three at least. -/
theorem impl_round (k : Nat) (o : List S38) (q : List Int) (y x p : Int) (T : List Int) (n i : Int) (ho : o.length ≤ 1000) (hq : q.length ≤ 1000) : impl_Swings.l1 (k + 1) o (q ++ [y, x, p]) T n i =
    if Df p x < Df x y then impl_Swings.l0 k o (q ++ [y, x, p]) T n (wrap64 (i + 1)) else if q = [] then impl_Swings.l1 k (o ++ [⟨Df x y, true⟩]) [x, p] T n i else impl_Swings.l1 k (o ++ [⟨Df x y, false⟩]) (q ++ [p]) T n i := by
  have hl : ((q ++ [y, x, p]).length : Int) = q.length + 3 := by simp
  have t1 : rd (q ++ [y, x, p]) ((q.length : Int) + 2) = p := by
    have := top1 (q ++ [y, x]) p
    simp only [List.append_assoc, List.cons_append, List.nil_append] at this
    rw [hl, show (q.length : Int) + 3 - 1 = q.length + 2 by omega] at this
    exact this
  have t2 : rd (q ++ [y, x, p]) ((q.length : Int) + 1) = x := by
    have := top2 (q ++ [y]) x p
    simp only [List.append_assoc, List.cons_append, List.nil_append] at this
    rw [hl, show (q.length : Int) + 3 - 2 = q.length + 1 by omega] at this
    exact this
  have t3 : rd (q ++ [y, x, p]) ((q.length : Int)) = y := by
    have := top3 q y x p
    rw [hl, show (q.length : Int) + 3 - 3 = q.length by omega] at this
    exact this
  have e1 : wrap64 ((q.length : Int) + 3 - 1) = q.length + 2 := by rw [w64 (by omega) (by omega)]; omega
  have e2 : wrap64 ((q.length : Int) + 3 - 2) = q.length + 1 := by rw [w64 (by omega) (by omega)]; omega
  have e3 : wrap64 ((q.length : Int) + 3 - 3) = q.length := by rw [w64 (by omega) (by omega)]; omega
  simp only [impl_Swings.l1]
  rw [hl, e1, e2, e3, t1, t2, t3, if_pos (by omega), if_pos (by omega), if_pos (by omega), if_pos (by omega), if_pos (by omega), size_i, Option.bind_some, if_pos (by omega), if_pos (by omega), size_i, Option.bind_some]
  show (if Df p x < Df x y then _ else _) = _
  by_cases c : Df p x < Df x y
  · rw [if_pos c, if_pos c]
  · rw [if_neg c, if_neg c, if_pos (by omega : o.length < 8796093022208)]
    by_cases h : q = []
    · subst h
      rw [if_pos (by simp), if_pos (by simp), if_pos rfl]
      rfl
    · have hpos : 0 < q.length := List.length_pos_iff.2 h
      rw [if_neg (by omega), if_neg h, if_pos (by omega), if_pos (by omega), if_pos (by omega), show ((q.length : Int)).toNat = q.length by omega, List.take_left, if_pos (by omega)]
      rfl
theorem impl_short (k : Nat) (o : List S38) (s T : List Int) (n i : Int) (h : s.length < 3) : impl_Swings.l1 (k + 1) o s T n i = impl_Swings.l0 k o s T n (wrap64 (i + 1)) := by
  simp only [impl_Swings.l1]
  rw [if_neg (by omega)]
theorem impl_red (n0 : Nat) : ∀ (s : List Int) (o : List S38) (p : Int) (T : List Int) (n i : Int), s.length ≤ n0 → o.length + s.length ≤ 900 → ∃ c, c ≤ s.length ∧ ∀ k, impl_Swings.l1 (k + c + 1) o (s.reverse ++ [p]) T n i = impl_Swings.l0 k (red o p s).1 (red o p s).2.reverse T n (wrap64 (i + 1)) := by
  induction n0 with
  | zero =>
    intro s o p T n i h hb
    obtain rfl : s = [] := List.length_eq_zero_iff.1 (by omega)
    exact ⟨0, by simp, fun k => impl_short k o [p] T n i (by simp)⟩
  | succ n0 ih =>
    intro s o p T n i h hb
    match s with
    | [] => exact ⟨0, by simp, fun k => impl_short k o [p] T n i (by simp)⟩
    | [x] => exact ⟨0, by simp, fun k => impl_short k o [x, p] T n i (by simp)⟩
    | [x, y] =>
      by_cases c : Df p x < Df x y
      · refine ⟨0, by simp, fun k => ?_⟩
        have := impl_round k o [] y x p T n i (by omega) (by simp)
        rw [if_pos c] at this
        unfold red
        rw [if_pos c]
        exact this
      · refine ⟨1, by simp, fun k => ?_⟩
        have := impl_round (k + 1) o [] y x p T n i (by omega) (by simp)
        rw [if_neg c, if_pos rfl, impl_short k _ _ T n i (by simp)] at this
        unfold red
        rw [if_neg c]
        exact this
    | x :: y :: z :: r =>
      have hs : (x :: y :: z :: r).reverse ++ [p] = (z :: r).reverse ++ [y, x, p] := by simp
      simp only [List.length_cons] at h hb
      by_cases c : Df p x < Df x y
      · refine ⟨0, by simp, fun k => ?_⟩
        have := impl_round k o (z :: r).reverse y x p T n i (by omega) (by simp; omega)
        rw [if_pos c] at this
        unfold red
        rw [if_pos c, hs, this]
        simp
      · obtain ⟨c2, h2, e⟩ := ih (z :: r) (o ++ [⟨Df x y, false⟩]) p T n i (by simp only [List.length_cons]; omega) (by simp only [List.length_append, List.length_cons, List.length_nil]; omega)
        refine ⟨c2 + 1, by simp only [List.length_cons] at h2 ⊢; omega, fun k => ?_⟩
        have := impl_round (k + c2 + 1) o (z :: r).reverse y x p T n i (by omega) (by simp; omega)
        rw [if_neg c, if_neg (by simp)] at this
        unfold red
        rw [if_neg c, hs, show k + (c2 + 1) + 1 = k + c2 + 1 + 1 from rfl, this]
        exact e k
def stepS (os : List S38 × List Int) (x : Int) : List S38 × List Int := red os.1 x os.2
theorem impl_out (T : List Int) (hT : T.length ≤ 400) (d : Nat) : ∀ (os : List S38 × List Int) (i : Int), 0 ≤ i → i ≤ T.length → ((T.length : Int) - i).toNat = d → os.1.length + os.2.length ≤ i.toNat →
    ∃ c, c ≤ 1000 * d ∧ ∀ k, impl_Swings.l0 (k + c + 1) os.1 os.2.reverse T (T.length : Int) i = impl_Swings.l2 k ((T.drop i.toNat).foldl stepS os).1 ((T.drop i.toNat).foldl stepS os).2.reverse 1 := by
  induction d with
  | zero =>
    intro os i h0 h1 hd hb
    refine ⟨0, by omega, fun k => ?_⟩
    simp only [impl_Swings.l0]
    rw [if_neg (by omega), List.drop_of_length_le (by omega)]
    rfl
  | succ d ih =>
    intro os i h0 h1 hd hb
    have hi : i < (T.length : Int) := by omega
    obtain ⟨c1, hc1, e1⟩ := impl_red os.2.length os.2 os.1 (rd T i) T (T.length : Int) i (Nat.le_refl _) (by omega)
    have hlen := red_len os.2.length os.2 os.1 (rd T i) (Nat.le_refl _)
    obtain ⟨c2, hc2, e2⟩ := ih (stepS os (rd T i)) (i + 1) (by omega) (by omega) (by omega) (by show (red os.1 (rd T i) os.2).1.length + (red os.1 (rd T i) os.2).2.length ≤ _; omega)
    refine ⟨c2 + 1 + c1 + 1, by omega, fun k => ?_⟩
    rw [show k + (c2 + 1 + c1 + 1) + 1 = ((k + c2 + 1) + c1 + 1) + 1 by omega]
    obtain ⟨m, hm⟩ : ∃ m, m = (k + c2 + 1) + c1 + 1 := ⟨_, rfl⟩
    rw [← hm]
    simp only [impl_Swings.l0]
    rw [if_pos hi, if_pos h0, if_pos hi, if_pos (by rw [List.length_reverse]; omega), hm, e1, w64 (x := i + 1) (by omega) (by omega), drop_rd h0 hi]
    exact e2 k
theorem own_sw (l : List S38) (h : l.length ≤ 100000) : impl_Swing.f l = some l := by
  unfold impl_Swing.f
  rw [if_pos (by omega), if_pos (by omega), Option.bind_some, if_pos (by simp; omega)]
  rfl
theorem impl_fin (L : List Int) (hL : L.length ≤ 1000) (d : Nat) : ∀ (o : List S38) (j : Int), 1 ≤ j → j ≤ L.length → ((L.length : Int) - j).toNat = d → o.length ≤ 1000 + j.toNat → ∀ k, impl_Swings.l2 (k + d + 1) o L j = some (o ++ finL (L.drop (j - 1).toNat)) := by
  induction d with
  | zero =>
    intro o j h0 h1 hd ho k
    have hj : j = L.length := by omega
    simp only [impl_Swings.l2]
    rw [if_neg (by omega), own_sw o (by omega), Option.bind_some, drop_rd (by omega) (by omega), List.drop_of_length_le (by omega)]
    simp [finL]
  | succ d ih =>
    intro o j h0 h1 hd ho k
    have e := ih (o ++ [⟨Df (rd L j) (rd L (j - 1)), true⟩]) (j + 1) (by omega) (by omega) (by omega) (by simp; omega) k
    rw [show k + (d + 1) + 1 = (k + d + 1) + 1 from rfl]
    obtain ⟨m, hm⟩ : ∃ m, m = k + d + 1 := ⟨_, rfl⟩
    rw [← hm] at e ⊢
    simp only [impl_Swings.l2]
    rw [if_pos (by omega), if_pos (by omega), w64 (x := j - 1) (by omega) (by omega), if_pos (by omega), if_pos (by omega), size_i, Option.bind_some, if_pos (by omega), w64 (x := j + 1) (by omega) (by omega)]
    refine e.trans ?_
    rw [show (j + 1 - 1 : Int) = j by omega, show L.drop (j - 1).toNat = rd L (j - 1) :: rd L j :: L.drop (j + 1).toNat by
      rw [drop_rd (l := L) (i := j - 1) (by omega) (by omega), show (j - 1 + 1 : Int) = j by omega, drop_rd (l := L) (i := j) (by omega) (by omega)], show L.drop j.toNat = rd L j :: L.drop (j + 1).toNat from drop_rd (by omega) (by omega)]
    simp [finL, List.append_assoc, Df]
theorem foldl_len (T : List Int) : ∀ os : List S38 × List Int, (T.foldl stepS os).1.length + (T.foldl stepS os).2.length ≤ os.1.length + os.2.length + T.length := by
  induction T with
  | nil => intro os; simp
  | cons x T ih =>
    intro os
    have h1 := ih (stepS os x)
    have h2 : (stepS os x).1.length + (stepS os x).2.length ≤ os.1.length + os.2.length + 1 := red_len os.2.length os.2 os.1 x (Nat.le_refl _)
    simp only [List.foldl_cons, List.length_cons]
    omega
theorem finL_len (L : List Int) : (finL L).length ≤ L.length := by
  induction L with
  | nil => simp [finL]
  | cons a t ih =>
    cases t with
    | nil => simp [finL]
    | cons b t => simp only [finL, List.length_cons] at ih ⊢; omega
theorem SW_len (T : List Int) : (SW T).length ≤ T.length := by
  have h1 := foldl_len T ([], [])
  have h2 := finL_len (T.foldl stepS ([], [])).2.reverse
  simp only [List.length_nil, List.length_reverse] at h1 h2
  show ((T.foldl stepS ([], [])).1 ++ finL (T.foldl stepS ([], [])).2.reverse).length ≤ _
  rw [List.length_append]
  omega
/-- The program's loops, on turns that are told. -/
theorem impl_sw (T : List Int) (hT : T.length ≤ 400) (k : Nat) (hk : 500000 < k) : impl_Swings.l0 k [] [] T (T.length : Int) 0 = some (SW T) := by
  obtain ⟨c, hc, e⟩ := impl_out T hT T.length ([], []) 0 (by omega) (by omega) (by omega) (by simp)
  have h1 := foldl_len T ([], [])
  simp only [List.length_nil] at h1
  obtain ⟨k, rfl⟩ : ∃ m, k = m + c + 1 := ⟨k - c - 1, by omega⟩
  rw [show impl_Swings.l0 (k + c + 1) [] [] T (T.length : Int) 0 = _ from e k]
  simp only [Int.toNat_zero, List.drop_zero]
  generalize hos : T.foldl stepS ([], []) = os at h1
  have hSW : SW T = os.1 ++ finL os.2.reverse := by rw [← hos]; rfl
  rw [hSW]
  cases hs : os.2 with
  | nil =>
    obtain ⟨k, rfl⟩ := pos_round (show 0 < k by omega)
    have e2 : impl_Swings.l2 (k + 1) os.1 [] 1 = some os.1 := by
      simp only [impl_Swings.l2]
      rw [if_neg (by decide), own_sw _ (by omega), Option.bind_some]
    show impl_Swings.l2 (k + 1) os.1 [] 1 = some (os.1 ++ [])
    rw [e2, List.append_nil]
  | cons p s =>
    rw [← hs]
    have hl : os.2.length = s.length + 1 := by rw [hs]; rfl
    have := impl_fin os.2.reverse (by rw [List.length_reverse]; omega) (((os.2.reverse).length : Int) - 1).toNat os.1 1 (by omega) (by rw [List.length_reverse]; omega) rfl (by omega) (k - (((os.2.reverse).length : Int) - 1).toNat - 1)
    rw [List.length_reverse] at this
    rw [show k - ((os.2.length : Int) - 1).toNat - 1 + ((os.2.length : Int) - 1).toNat + 1 = k by omega] at this
    simpa using this

/-! ### the reference's loops -/
theorem size_s (a : Int) : spec_l3Size.f a = some (sz a) := by
  unfold spec_l3Size.f sz
  split <;> rfl
theorem spec_round (k : Nat) (o : List S38) (q : List Int) (y x p : Int) (T : List Int) (i : Int) (ho : o.length ≤ 1000) (hq : q.length ≤ 1000) : spec_Swings.l1 (k + 1) o (q ++ [y, x, p]) T i =
    if Df p x < Df x y then spec_Swings.l0 k o (q ++ [y, x, p]) T (wrap64 (i + 1)) else if q = [] then spec_Swings.l1 k (o ++ [⟨Df x y, true⟩]) [x, p] T i else spec_Swings.l1 k (o ++ [⟨Df x y, false⟩]) (q ++ [p]) T i := by
  have hl : ((q ++ [y, x, p]).length : Int) = q.length + 3 := by simp
  have t1 : rd (q ++ [y, x, p]) ((q.length : Int) + 2) = p := by
    have := top1 (q ++ [y, x]) p
    simp only [List.append_assoc, List.cons_append, List.nil_append] at this
    rw [hl, show (q.length : Int) + 3 - 1 = q.length + 2 by omega] at this
    exact this
  have t2 : rd (q ++ [y, x, p]) ((q.length : Int) + 1) = x := by
    have := top2 (q ++ [y]) x p
    simp only [List.append_assoc, List.cons_append, List.nil_append] at this
    rw [hl, show (q.length : Int) + 3 - 2 = q.length + 1 by omega] at this
    exact this
  have t3 : rd (q ++ [y, x, p]) ((q.length : Int)) = y := by
    have := top3 q y x p
    rw [hl, show (q.length : Int) + 3 - 3 = q.length by omega] at this
    exact this
  have e1 : wrap64 ((q.length : Int) + 3 - 1) = q.length + 2 := by rw [w64 (by omega) (by omega)]; omega
  have e2 : wrap64 ((q.length : Int) + 3 - 2) = q.length + 1 := by rw [w64 (by omega) (by omega)]; omega
  have e3 : wrap64 ((q.length : Int) + 3 - 3) = q.length := by rw [w64 (by omega) (by omega)]; omega
  simp only [spec_Swings.l1]
  rw [hl, e1, e2, e3, t1, t2, t3, if_pos (by omega), if_pos (by omega), if_pos (by omega), if_pos (by omega), if_pos (by omega), size_s, Option.bind_some, if_pos (by omega), if_pos (by omega), size_s, Option.bind_some]
  show (if Df p x < Df x y then _ else _) = _
  by_cases c : Df p x < Df x y
  · rw [if_pos c, if_pos c]
  · rw [if_neg c, if_neg c]
    by_cases h : q = []
    · subst h
      rw [if_pos (by simp), if_pos rfl, Option.bind_some, if_pos (by simp; omega), Option.bind_some, if_pos (by simp), Option.bind_some, if_pos (by simp)]
      rfl
    · have hpos : 0 < q.length := List.length_pos_iff.2 h
      rw [if_neg (by omega), if_neg h, Option.bind_some, if_pos (by simp; omega), Option.bind_some, if_pos (by omega), Option.bind_some, show ((q.length : Int)).toNat = q.length by omega, List.take_left, if_pos (by simp; omega), Option.bind_some, Option.bind_some, if_pos (by simp; omega)]
      rfl
theorem spec_short (k : Nat) (o : List S38) (s T : List Int) (i : Int) (h : s.length < 3) : spec_Swings.l1 (k + 1) o s T i = spec_Swings.l0 k o s T (wrap64 (i + 1)) := by
  simp only [spec_Swings.l1]
  rw [if_neg (by omega)]
theorem spec_red (n0 : Nat) : ∀ (s : List Int) (o : List S38) (p : Int) (T : List Int) (i : Int), s.length ≤ n0 → o.length + s.length ≤ 900 → ∃ c, c ≤ s.length ∧ ∀ k, spec_Swings.l1 (k + c + 1) o (s.reverse ++ [p]) T i = spec_Swings.l0 k (red o p s).1 (red o p s).2.reverse T (wrap64 (i + 1)) := by
  induction n0 with
  | zero =>
    intro s o p T i h hb
    obtain rfl : s = [] := List.length_eq_zero_iff.1 (by omega)
    exact ⟨0, by simp, fun k => spec_short k o [p] T i (by simp)⟩
  | succ n0 ih =>
    intro s o p T i h hb
    match s with
    | [] => exact ⟨0, by simp, fun k => spec_short k o [p] T i (by simp)⟩
    | [x] => exact ⟨0, by simp, fun k => spec_short k o [x, p] T i (by simp)⟩
    | [x, y] =>
      by_cases c : Df p x < Df x y
      · refine ⟨0, by simp, fun k => ?_⟩
        have := spec_round k o [] y x p T i (by omega) (by simp)
        rw [if_pos c] at this
        unfold red
        rw [if_pos c]
        exact this
      · refine ⟨1, by simp, fun k => ?_⟩
        have := spec_round (k + 1) o [] y x p T i (by omega) (by simp)
        rw [if_neg c, if_pos rfl, spec_short k _ _ T i (by simp)] at this
        unfold red
        rw [if_neg c]
        exact this
    | x :: y :: z :: r =>
      have hs : (x :: y :: z :: r).reverse ++ [p] = (z :: r).reverse ++ [y, x, p] := by simp
      simp only [List.length_cons] at h hb
      by_cases c : Df p x < Df x y
      · refine ⟨0, by simp, fun k => ?_⟩
        have := spec_round k o (z :: r).reverse y x p T i (by omega) (by simp; omega)
        rw [if_pos c] at this
        unfold red
        rw [if_pos c, hs, this]
        simp
      · obtain ⟨c2, h2, e⟩ := ih (z :: r) (o ++ [⟨Df x y, false⟩]) p T i (by simp only [List.length_cons]; omega) (by simp only [List.length_append, List.length_cons, List.length_nil]; omega)
        refine ⟨c2 + 1, by simp only [List.length_cons] at h2 ⊢; omega, fun k => ?_⟩
        have := spec_round (k + c2 + 1) o (z :: r).reverse y x p T i (by omega) (by simp; omega)
        rw [if_neg c, if_neg (by simp)] at this
        unfold red
        rw [if_neg c, hs, show k + (c2 + 1) + 1 = k + c2 + 1 + 1 from rfl, this]
        exact e k
theorem spec_out (T : List Int) (hT : T.length ≤ 400) (d : Nat) : ∀ (os : List S38 × List Int) (i : Int), 0 ≤ i → i ≤ T.length → ((T.length : Int) - i).toNat = d → os.1.length + os.2.length ≤ i.toNat →
    ∃ c, c ≤ 1000 * d ∧ ∀ k, spec_Swings.l0 (k + c + 1) os.1 os.2.reverse T i = spec_Swings.l2 k ((T.drop i.toNat).foldl stepS os).1 ((T.drop i.toNat).foldl stepS os).2.reverse 0 := by
  induction d with
  | zero =>
    intro os i h0 h1 hd hb
    refine ⟨0, by omega, fun k => ?_⟩
    simp only [spec_Swings.l0]
    rw [if_neg (by omega), List.drop_of_length_le (by omega)]
    rfl
  | succ d ih =>
    intro os i h0 h1 hd hb
    have hi : i < (T.length : Int) := by omega
    obtain ⟨c1, hc1, e1⟩ := spec_red os.2.length os.2 os.1 (rd T i) T i (Nat.le_refl _) (by omega)
    have hlen := red_len os.2.length os.2 os.1 (rd T i) (Nat.le_refl _)
    obtain ⟨c2, hc2, e2⟩ := ih (stepS os (rd T i)) (i + 1) (by omega) (by omega) (by omega) (by show (red os.1 (rd T i) os.2).1.length + (red os.1 (rd T i) os.2).2.length ≤ _; omega)
    refine ⟨c2 + 1 + c1 + 1, by omega, fun k => ?_⟩
    rw [show k + (c2 + 1 + c1 + 1) + 1 = ((k + c2 + 1) + c1 + 1) + 1 by omega]
    obtain ⟨m, hm⟩ : ∃ m, m = (k + c2 + 1) + c1 + 1 := ⟨_, rfl⟩
    rw [← hm]
    simp only [spec_Swings.l0]
    rw [if_pos hi, if_pos h0, Option.bind_some, if_pos (by rw [List.length_reverse]; simp; omega), hm, e1, w64 (x := i + 1) (by omega) (by omega), drop_rd h0 hi]
    exact e2 k
theorem spec_fin (L : List Int) (hL : L.length ≤ 1000) (d : Nat) : ∀ (o : List S38) (j : Int), 0 ≤ j → j + 1 ≤ L.length → ((L.length : Int) - j - 1).toNat = d → o.length ≤ 1000 + j.toNat → ∀ k, spec_Swings.l2 (k + d + 1) o L j = some (o ++ finL (L.drop j.toNat)) := by
  induction d with
  | zero =>
    intro o j h0 h1 hd ho k
    have hj : j + 1 = L.length := by omega
    simp only [spec_Swings.l2]
    rw [w64 (x := j + 1) (by omega) (by omega), if_neg (by omega), drop_rd (by omega) (by omega), List.drop_of_length_le (by omega)]
    simp [finL]
  | succ d ih =>
    intro o j h0 h1 hd ho k
    have e := ih (o ++ [⟨Df (rd L (j + 1)) (rd L j), true⟩]) (j + 1) (by omega) (by omega) (by omega) (by simp; omega) k
    rw [show k + (d + 1) + 1 = (k + d + 1) + 1 from rfl]
    obtain ⟨m, hm⟩ : ∃ m, m = k + d + 1 := ⟨_, rfl⟩
    rw [← hm] at e ⊢
    simp only [spec_Swings.l2]
    rw [w64 (x := j + 1) (by omega) (by omega), if_pos (by omega), if_pos (by omega), if_pos h0, if_pos (by omega), size_s, Option.bind_some, Option.bind_some, if_pos (by simp; omega)]
    refine e.trans ?_
    rw [show L.drop j.toNat = rd L j :: L.drop (j + 1).toNat from drop_rd (by omega) (by omega), show L.drop (j + 1).toNat = rd L (j + 1) :: L.drop (j + 1 + 1).toNat from drop_rd (by omega) (by omega)]
    simp [finL, List.append_assoc, Df]
theorem spec_sw (T : List Int) (hT : T.length ≤ 400) (k : Nat) (hk : 500000 < k) : spec_Swings.l0 k [] [] T 0 = some (SW T) := by
  obtain ⟨c, hc, e⟩ := spec_out T hT T.length ([], []) 0 (by omega) (by omega) (by omega) (by simp)
  have h1 := foldl_len T ([], [])
  simp only [List.length_nil] at h1
  obtain ⟨k, rfl⟩ : ∃ m, k = m + c + 1 := ⟨k - c - 1, by omega⟩
  rw [show spec_Swings.l0 (k + c + 1) [] [] T 0 = _ from e k]
  simp only [Int.toNat_zero, List.drop_zero]
  generalize hos : T.foldl stepS ([], []) = os at h1
  have hSW : SW T = os.1 ++ finL os.2.reverse := by rw [← hos]; rfl
  rw [hSW]
  cases hs : os.2 with
  | nil =>
    obtain ⟨k, rfl⟩ := pos_round (show 0 < k by omega)
    have e2 : spec_Swings.l2 (k + 1) os.1 [] 0 = some os.1 := by
      simp only [spec_Swings.l2]
      rw [if_neg (by rw [w64 (by omega) (by omega)]; decide)]
    show spec_Swings.l2 (k + 1) os.1 [] 0 = some (os.1 ++ [])
    rw [e2, List.append_nil]
  | cons p s =>
    rw [← hs]
    have hl : os.2.length = s.length + 1 := by rw [hs]; rfl
    have := spec_fin os.2.reverse (by rw [List.length_reverse]; omega) (((os.2.reverse).length : Int) - 0 - 1).toNat os.1 0 (by omega) (by rw [List.length_reverse]; omega) rfl (by omega) (k - (((os.2.reverse).length : Int) - 0 - 1).toNat - 1)
    rw [List.length_reverse] at this
    rw [show k - ((os.2.length : Int) - 0 - 1).toNat - 1 + ((os.2.length : Int) - 0 - 1).toNat + 1 = k by omega] at this
    simpa using this
theorem swings_same (a : List Int) (hn : a.length ≤ 1048576) : ∃ r : List S38, r.length ≤ 400 ∧ ∀ k, 1600000 < k → impl_Swings.f k a = some r ∧ spec_Swings.f k a = some r := by
  obtain ⟨T, hT, e⟩ := turns_same a hn
  refine ⟨SW T, by have := SW_len T; omega, fun k hk => ?_⟩
  obtain ⟨e1, e2⟩ := e k (by omega)
  unfold impl_Swings.f spec_Swings.f
  rw [e1, e2, Option.bind_some, Option.bind_some]
  exact ⟨impl_sw T (by omega) k (by omega), spec_sw T (by omega) k (by omega)⟩

/-! ### marks -/
/-- What the mark leaves behind. -/
def MK38 (g : List S38) (n : Int) (c : Int) : Prop := ∀ j : Int, 0 ≤ j → j < n → (rd_T38 g j).f0 = c + 2 * j ∧ (rd_T38 g j).f1 = (Int.tmod (c + 2 * j + 1) 3 == 0)
theorem markSwing_loop (d : Nat) : ∀ (l : List S38) (i : Int), l.length ≤ 100000 → 0 ≤ i → i ≤ l.length → ((l.length : Int) - i).toNat = d → MK38 l i 1 → ∃ g : List S38, (∀ k, laws_markSwingS.l0 (k + d + 1) l (1 + 2 * i) i = some (1 + 2 * (l.length : Int), g)) ∧ g.length = l.length ∧ MK38 g l.length 1 := by
  induction d with
  | zero =>
    intro l i hl h0 h1 hd hm
    refine ⟨l, fun k => ?_, rfl, by rw [show (l.length : Int) = i by omega]; exact hm⟩
    simp only [laws_markSwingS.l0]
    rw [if_neg (by omega), show i = (l.length : Int) by omega]
  | succ d ih =>
    intro l i hl h0 h1 hd hm
    have hi : i < (l.length : Int) := by omega
    let y := l.set i.toNat (⟨1 + 2 * i, (rd_T38 l i).f1⟩ : S38)
    let z := y.set i.toNat (⟨(rd_T38 y i).f0, (Int.tmod (1 + 2 * i + 1) 3 == 0)⟩ : S38)
    have hy : y.length = l.length := List.length_set
    have hz : z.length = l.length := by show (y.set _ _).length = _; rw [List.length_set, hy]
    have ey : rd_T38 y i = ⟨1 + 2 * i, (rd_T38 l i).f1⟩ := rd38_set_eq h0 hi
    have ez : rd_T38 z i = ⟨1 + 2 * i, (Int.tmod (1 + 2 * i + 1) 3 == 0)⟩ := by
      have : rd_T38 z i = ⟨(rd_T38 y i).f0, (Int.tmod (1 + 2 * i + 1) 3 == 0)⟩ := rd38_set_eq h0 (by omega)
      rw [this, ey]
    have en : ∀ j : Int, 0 ≤ j → j ≠ i → rd_T38 z j = rd_T38 l j := fun j hj hne => by
      have a1 : rd_T38 z j = rd_T38 y j := rd38_set_ne h0 hj (Ne.symm hne)
      have a2 : rd_T38 y j = rd_T38 l j := rd38_set_ne h0 hj (Ne.symm hne)
      rw [a1, a2]
    obtain ⟨g, e, hg, hgm⟩ := ih z (i + 1) (by omega) (by omega) (by omega) (by omega) (fun j hj hj2 => by
      by_cases c : j = i
      · subst c; rw [ez]; exact ⟨rfl, rfl⟩
      · rw [en j hj c]; exact hm j hj (by omega))
    refine ⟨g, fun k => ?_, by omega, by rw [← hz]; exact hgm⟩
    rw [show k + (d + 1) + 1 = (k + d + 1) + 1 from rfl]
    obtain ⟨m, hm2⟩ : ∃ m, m = k + d + 1 := ⟨_, rfl⟩
    have e' := e k
    rw [← hm2] at e' ⊢
    simp only [laws_markSwingS.l0]
    rw [if_pos hi, if_pos h0, Option.bind_some, w64 (x := 1 + 2 * i + 1) (by omega) (by omega), w64 (x := 1 + 2 * i + 1 + 1) (by omega) (by omega), w64 (x := i + 1) (by omega) (by omega)]
    rw [show (1 + 2 * i + 1 + 1 : Int) = 1 + 2 * (i + 1) by omega, ← hz]
    exact e'
theorem markSwing_ok (l : List S38) (hl : l.length ≤ 100000) : ∃ g : List S38, (∀ k, l.length < k → laws_markSwingS.f k l 1 = some (1 + 2 * (l.length : Int), g)) ∧ g.length = l.length ∧ MK38 g l.length 1 := by
  obtain ⟨g, e, r⟩ := markSwing_loop l.length l 0 hl (by omega) (by omega) (by omega) (fun j h0 h1 => by omega)
  refine ⟨g, fun k hk => ?_, r⟩
  have := e (k - l.length - 1)
  rw [show k - l.length - 1 + l.length + 1 = k by omega] at this
  exact this
theorem heldSwing_loop (l : List S38) (hl : l.length ≤ 100000) (hm : MK38 l l.length 1) (d : Nat) : ∀ (i : Int), 0 ≤ i → i ≤ l.length → ((l.length : Int) - i).toNat = d → ∀ k, laws_heldSwingS.l0 (k + d + 1) l (1 + 2 * i) i = some (1 + 2 * (l.length : Int)) := by
  induction d with
  | zero =>
    intro i h0 h1 hd k
    simp only [laws_heldSwingS.l0]
    rw [if_neg (by omega), show i = (l.length : Int) by omega]
  | succ d ih =>
    intro i h0 h1 hd k
    have hi : i < (l.length : Int) := by omega
    obtain ⟨m1, m2⟩ := hm i h0 hi
    have e := ih (i + 1) (by omega) (by omega) (by omega) k
    rw [show k + (d + 1) + 1 = (k + d + 1) + 1 from rfl]
    obtain ⟨m, hm2⟩ : ∃ m, m = k + d + 1 := ⟨_, rfl⟩
    rw [← hm2] at e ⊢
    simp only [laws_heldSwingS.l0]
    rw [if_pos hi, if_pos h0, if_pos m1, w64 (x := 1 + 2 * i + 1) (by omega) (by omega), m2, if_neg (by simp), w64 (x := 1 + 2 * i + 1 + 1) (by omega) (by omega), w64 (x := i + 1) (by omega) (by omega), show (1 + 2 * i + 1 + 1 : Int) = 1 + 2 * (i + 1) by omega]
    exact e
theorem heldSwing_ok (l : List S38) (hl : l.length ≤ 100000) (hm : MK38 l l.length 1) (k : Nat) (hk : l.length < k) : laws_heldSwingS.f k l 1 = some (1 + 2 * (l.length : Int)) := by
  have := heldSwing_loop l hl hm l.length 0 (by omega) (by omega) (by omega) (k - l.length - 1)
  rw [show k - l.length - 1 + l.length + 1 = k by omega] at this
  exact this
theorem FnExactSwings : laws_FnExactSwings.Pure := by
  intro l _ _ _
  refine ⟨2000001, ?_⟩
  unfold laws_FnExactSwings.f
  by_cases hn : (l.length : Int) > 1048576
  · rw [if_pos hn]
  · obtain ⟨r, hr0, hr⟩ := swings_same l (by omega)
    obtain ⟨r1, r2⟩ := hr 2000001 (by omega)
    obtain ⟨r3, _⟩ := hr 2000000 (by omega)
    obtain ⟨m, hm, hml, _⟩ := markI l (by omega) 2000001 (by omega)
    obtain ⟨g, hg, hgl, hgm⟩ := markSwing_ok r (by omega)
    have hh := heldSwing_ok g (by omega) (by rw [hgl]; exact hgm) 2000000 (by omega)
    rw [hgl] at hh
    rw [if_neg hn, toI_ok l (by omega) _ (by omega), Option.bind_some, r2, Option.bind_some, Option.bind_some, r1, Option.bind_some, eqSwing_ok r (by omega) _ (by omega), Option.bind_some, if_pos rfl, Option.bind_some, eqI l (by omega) _ (by omega), Option.bind_some, if_pos rfl, hm, Option.bind_some]
    dsimp only
    rw [if_neg (by omega), Option.bind_some, show (2000001 : Nat) = 2000000 + 1 from rfl]
    simp only [laws_FnExactSwings.j0]
    rw [if_neg (by simp), hg _ (by omega), Option.bind_some]
    dsimp only
    rw [hh, Option.bind_some, if_neg (by omega), if_pos rfl, toI_ok l (by omega) _ (by omega), Option.bind_some, r3, Option.bind_some, eqSwing_ok r (by omega) _ (by omega), Option.bind_some, if_pos rfl, Option.bind_some, if_neg (by omega), if_pos rfl]

end Go.Proofs.Ytdjbglhhjffnkaa.Pure
