/- The origin law: parts that are all one's own are one's own at any bound up to 100, never at 101; one's own part is weighed against all. For every byte list as code. -/
import Derived.Test.YtpkhhoecfpjnjaaPFnOriginx1
import Derived.Test.YtpkhhoecfpjnjaaKit
namespace Go.Proofs.Ytpkhhoecfpjnjaa.Pure
open Go.RowKit Go.Proofs.Ytpkhhoecfpjnjaa.PFnOrigin Go.Proofs.YtpkhhoecfpjnjaaW.PrintWords Go.Proofs.YtpkhhoecfpjnjaaW.PrintLast Go.Proofs.YtpkhhoecfpjnjaaW.Kit

theorem at_eq (l : List Int) (i : Int) : laws_at.f l i = atK l i := rfl
theorem in_eq (a b c : Int) : impl_in.f a b c = some (decide (b ≤ a ∧ a ≤ c)) := in_some a b c

def mine (own : Int) : List S27 → Int
  | [] => 0
  | p :: l => (if p.f0 = own then p.f1 else 0) + mine own l
def all_ : List S27 → Int
  | [] => 0
  | p :: l => p.f1 + all_ l
def Fine (l : List S27) : Prop := ∀ p ∈ l, 0 ≤ p.f0 ∧ p.f0 ≤ 300 ∧ 0 ≤ p.f1 ∧ p.f1 ≤ 255
theorem rd27_drop {l : List S27} {i : Int} (h0 : 0 ≤ i) (h1 : i < l.length) : l.drop i.toNat = rd_T27 l i :: l.drop (i + 1).toNat := by
  have h : i.toNat < l.length := by omega
  rw [show (i + 1).toNat = i.toNat + 1 by omega, List.drop_eq_getElem_cons h]
  simp [rd_T27, List.getD_eq_getElem?_getD, List.getElem?_eq_getElem h]
theorem rd27_mem {l : List S27} {i : Int} (h0 : 0 ≤ i) (h1 : i < l.length) : rd_T27 l i ∈ l := by
  have h : i.toNat < l.length := by omega
  have : rd_T27 l i = l[i.toNat] := by simp [rd_T27, List.getD_eq_getElem?_getD, List.getElem?_eq_getElem h]
  rw [this]; exact List.getElem_mem h
theorem sums {l : List S27} (own : Int) (h : Fine l) : 0 ≤ mine own l ∧ mine own l ≤ all_ l ∧ all_ l ≤ 255 * l.length := by
  induction l with
  | nil => simp [mine, all_]
  | cons p l ih =>
    have hp := h p (List.mem_cons_self ..)
    have := ih (fun q hq => h q (List.mem_cons_of_mem _ hq))
    simp only [mine, all_, List.length_cons]
    split <;> omega

theorem origin_loop (l : List S27) (own least : Int) (hf : Fine l) (hn : l.length ≤ 50) (hl : 0 ≤ least ∧ least ≤ 200) (d : Nat) : ∀ (k : Nat) (i m a : Int), 0 ≤ i → i ≤ l.length → (l.length : Int) - i = d → 2 * d < k →
    0 ≤ m → 0 ≤ a → m ≤ 255 * i → a ≤ 255 * i →
    ∀ M A : Int, M = m + mine own (l.drop i.toNat) → A = a + all_ (l.drop i.toNat) → impl_Origin.l0 k own least m a l (l.length : Int) i = some (decide (M * 100 ≥ A * least), true) := by
  induction d with
  | zero =>
    intro k i m a h0 h1 hd hk hm0 ha0 hm ha M A hM hA
    obtain ⟨k, rfl⟩ := pos_round (show 0 < k by omega)
    have hal : a * least ≤ 255 * 50 * 200 := mul_le2 (by omega) hl.2 hl.1 (by omega)
    have hal0 : 0 ≤ a * least := Int.mul_nonneg ha0 hl.1
    rw [List.drop_eq_nil_of_le (by omega)] at hM hA
    obtain rfl : M = m := by simpa [mine] using hM
    obtain rfl : A = a := by simpa [all_] using hA
    simp only [impl_Origin.l0]
    rw [if_neg (by omega), w64 (by omega) (by omega), w64 (by omega) (by omega)]
  | succ d ih =>
    intro k i m a h0 h1 hd hk hm0 ha0 hm ha M A hM hA
    obtain ⟨k, rfl⟩ := pos_round (show 0 < k by omega)
    obtain ⟨k, rfl⟩ := pos_round (show 0 < k by omega)
    have hlt : i < (l.length : Int) := by omega
    have hp := hf _ (rd27_mem h0 hlt)
    simp only [impl_Origin.l0]
    rw [if_pos hlt, if_pos h0, if_pos hlt, in_eq, decide_eq_true (by omega)]
    simp only [Option.bind_some, if_true]
    rw [in_eq, decide_eq_true (by omega)]
    simp only [Option.bind_some, Bool.not_true, impl_Origin.j2]
    rw [rd27_drop h0 hlt] at hM hA
    simp only [mine, all_] at hM hA
    rw [if_neg (by simp)]
    by_cases c : (rd_T27 l i).f0 = own
    · rw [if_pos c] at hM
      rw [if_pos c, w64 (x := m + _) (by omega) (by omega), w64 (x := a + _) (by omega) (by omega), w64 (x := i + 1) (by omega) (by omega)]
      exact ih k (i + 1) _ _ (by omega) (by omega) (by omega) (by omega) (by omega) (by omega) (by omega) (by omega) M A (by omega) (by omega)
    · rw [if_neg c] at hM
      rw [if_neg c, w64 (x := a + _) (by omega) (by omega), w64 (x := i + 1) (by omega) (by omega)]
      exact ih k (i + 1) _ _ (by omega) (by omega) (by omega) (by omega) (by omega) (by omega) (by omega) (by omega) M A (by omega) (by omega)
theorem origin_yes (l : List S27) (own least : Int) (hf : Fine l) (h1 : 1 ≤ l.length) (hn : l.length ≤ 50) (hl : 0 ≤ least ∧ least ≤ 100) (k : Nat) (hk : 200 ≤ k) :
    impl_Origin.f k l own least = some (decide (mine own l * 100 ≥ all_ l * least), true) := by
  obtain ⟨k, rfl⟩ := pos_round (show 0 < k by omega)
  unfold impl_Origin.f
  rw [in_eq, decide_eq_true (by omega)]
  simp only [Option.bind_some, if_true]
  rw [in_eq, decide_eq_true (by omega)]
  simp only [Option.bind_some, Bool.not_true, impl_Origin.j0]
  rw [if_neg (by simp), origin_loop l own least hf hn ⟨hl.1, by omega⟩ l.length k 0 0 0 (by omega) (by omega) (by omega) (by omega) (by omega) (by omega) (by omega) (by omega) (mine own l) (all_ l) (by simp) (by simp)]
theorem origin_no (l : List S27) (own : Int) (h1 : 1 ≤ l.length) (hn : l.length ≤ 50) (k : Nat) (hk : 1 ≤ k) : impl_Origin.f k l own 101 = some (false, false) := by
  obtain ⟨k, rfl⟩ := pos_round (show 0 < k by omega)
  unfold impl_Origin.f
  rw [in_eq, decide_eq_true (by omega)]
  simp only [Option.bind_some, if_true]
  rw [in_eq]
  simp [impl_Origin.j0]

def own1 (l : List S27) : List S27 := l.map fun p => ⟨1, p.f1⟩
theorem own1_fine {l : List S27} (h : Fine l) : Fine (own1 l) := by
  intro p hp
  obtain ⟨q, hq, rfl⟩ := List.mem_map.1 hp
  have := h q hq
  exact ⟨by simp, by simp, this.2.2⟩
theorem own1_mine (l : List S27) : mine 1 (own1 l) = all_ (own1 l) := by
  induction l with
  | nil => rfl
  | cons p l ih => simpa [own1, mine, all_] using ih

/-- The second loop: every part from index i on is made one's own. -/
theorem second (least : Int) (hl : 0 ≤ least ∧ least ≤ 100) (own : Bool) (m a : Int) (hm : 0 ≤ m ∧ m ≤ 10000) (ha : 0 ≤ a ∧ a ≤ 10000) (ho : own = decide (m * 100 ≥ a * least)) (d : Nat) : ∀ (k : Nat) (l : List S27) (i : Int), 0 ≤ i → i ≤ l.length → (l.length : Int) - i = d → Fine l → 1 ≤ l.length → l.length ≤ 50 →
    (∀ j : Nat, j < i.toNat → ∀ p, l[j]? = some p → p.f0 = 1) → d + 201 < k → laws_FnOrigin.l1 k l m a least own true i = some true := by
  induction d with
  | zero =>
    intro k l i h0 h1 hd hf hp hn hall hk
    obtain ⟨k, rfl⟩ := pos_round (show 0 < k by omega)
    have hown : own1 l = l := by
      apply List.ext_getElem (by simp [own1])
      intro j hj1 hj2
      have := hall j (by omega) l[j] (List.getElem?_eq_getElem hj2)
      simp only [own1, List.getElem_map]
      generalize l[j] = p at this ⊢
      cases p
      simp only at this
      rw [this]
    have hmine := own1_mine l
    rw [hown] at hmine
    have hs := sums 1 hf
    have hal : a * least ≤ 10000 * 100 := mul_le2 ha.2 hl.2 hl.1 (by omega)
    have hal0 : 0 ≤ a * least := Int.mul_nonneg ha.1 hl.1
    simp only [laws_FnOrigin.l1]
    rw [if_neg (by omega), origin_yes l 1 100 hf hp hn (by omega) k (by omega), origin_no l 1 hp hn k (by omega)]
    simp only [Option.bind_some, if_true]
    rw [if_pos (by rw [hmine]; simp), if_neg (by simp), w64 (x := 100 * m) (by omega) (by omega)]
    rw [show least * a = a * least from Int.mul_comm _ _, w64 (by omega) (by omega), ho, show 100 * m = m * 100 from Int.mul_comm _ _]
    simp
  | succ d ih =>
    intro k l i h0 h1 hd hf hp hn hall hk
    obtain ⟨k, rfl⟩ := pos_round (show 0 < k by omega)
    have hlt : i < (l.length : Int) := by omega
    have hq := hf _ (rd27_mem h0 hlt)
    simp only [laws_FnOrigin.l1]
    rw [if_pos hlt, if_pos h0, w64 (x := i + 1) (by omega) (by omega)]
    refine ih k _ (i + 1) (by omega) (by rw [List.length_set]; omega) (by rw [List.length_set]; omega) ?_ (by rw [List.length_set]; omega) (by rw [List.length_set]; omega) ?_ (by omega)
    · intro p hp'
      rcases List.mem_or_eq_of_mem_set hp' with hp' | rfl
      · exact hf p hp'
      · exact ⟨by simp, by simp, hq.2.2⟩
    · intro j hj p hp'
      rw [List.getElem?_set] at hp'
      by_cases e : i.toNat = j
      · rw [if_pos e] at hp'
        split at hp'
        · injection hp' with hp'; rw [← hp']
        · cases hp'
      · rw [if_neg e] at hp'
        exact hall j (by omega) p hp'

/-- The first loop. -/
theorem first_ (c : List Int) (hb : Bytes c) (hc : c.length ≤ 1048576) (d : Nat) : ∀ (k : Nat) (l : List S27) (i : Int), 0 ≤ i → (l.length : Int) = i → i ≤ 1 + atV c 0 % 8 → 1 + atV c 0 % 8 - i = d → Fine l → d + 300 < k →
    laws_FnOrigin.l0 k c l (mine 1 l) (all_ l) i = some true := by
  have h8 := atV_range hb (i := 0) (by omega)
  induction d with
  | zero =>
    intro k l i h0 hl hi hd hf hk
    obtain ⟨k, rfl⟩ := pos_round (show 0 < k by omega)
    have h30 := atV_range hb (i := 30) (by omega)
    have hs := sums 1 hf
    simp only [laws_FnOrigin.l0]
    rw [at_eq, at_some hb hc (by omega) (by omega)]
    simp only [Option.bind_some]
    rw [tm (by omega), w64 (by omega) (by omega), if_neg (by omega), at_eq, at_some hb hc (by omega) (by omega)]
    simp only [Option.bind_some]
    rw [tm (by omega), origin_yes l 1 _ hf (by omega) (by omega) (by omega) k (by omega)]
    simp only [Option.bind_some]
    exact second _ (by omega) _ _ _ (by omega) (by omega) rfl l.length k l 0 (by omega) (by omega) (by omega) hf (by omega) (by omega) (fun j hj => by omega) (by omega)
  | succ d ih =>
    intro k l i h0 hl hi hd hf hk
    obtain ⟨k, rfl⟩ := pos_round (show 0 < k by omega)
    have ha := atV_range hb (i := 2 * i + 1) (by omega)
    have ha2 := atV_range hb (i := 2 * i + 2) (by omega)
    have hs := sums 1 hf
    simp only [laws_FnOrigin.l0]
    rw [at_eq, at_some hb hc (by omega) (by omega)]
    simp only [Option.bind_some]
    rw [tm (by omega), w64 (x := 1 + _) (by omega) (by omega), if_pos (by omega), w64 (x := 2 * i) (by omega) (by omega), w64 (x := 2 * i + 1) (by omega) (by omega), at_eq, at_some hb hc (by omega) (by omega)]
    simp only [Option.bind_some]
    rw [w64 (x := 2 * i + 2) (by omega) (by omega), at_eq, at_some hb hc (by omega) (by omega)]
    simp only [Option.bind_some]
    rw [if_pos (by omega), tm (by omega), w64 (x := i + 1) (by omega) (by omega), w64 (x := all_ l + _) (by omega) (by omega), w64 (x := mine 1 l + _) (by omega) (by omega)]
    have hm : ∀ l' : List S27, ∀ p : S27, mine 1 (l' ++ [p]) = mine 1 l' + (if p.f0 = 1 then p.f1 else 0) := by
      intro l' p
      induction l' with
      | nil => simp [mine]
      | cons q l' ih => simp only [List.cons_append, mine, ih]; omega
    have hal : ∀ l' : List S27, ∀ p : S27, all_ (l' ++ [p]) = all_ l' + p.f1 := by
      intro l' p
      induction l' with
      | nil => simp [all_]
      | cons q l' ih => simp only [List.cons_append, all_, ih]; omega
    have hf' : Fine (l ++ [(⟨atV c (2 * i + 1) % 3, atV c (2 * i + 2)⟩ : S27)]) := by
      intro p hp
      rcases List.mem_append.1 hp with hp | hp
      · exact hf p hp
      · rw [List.mem_singleton.1 hp]; exact ⟨by show 0 ≤ _ % _; omega, by show _ % _ ≤ (300 : Int); omega, ha2.1, ha2.2⟩
    have hI := ih k (l ++ [(⟨atV c (2 * i + 1) % 3, atV c (2 * i + 2)⟩ : S27)]) (i + 1) (by omega) (by simp; omega) (by omega) (by omega) hf' (by omega)
    rw [hm, hal] at hI
    simp only at hI
    by_cases cc : atV c (2 * i + 1) % 3 = 1
    · rw [if_pos cc]; rw [if_pos cc] at hI; exact hI
    · rw [if_neg cc]; rw [if_neg cc, Int.add_zero] at hI; exact hI

theorem FnOrigin : laws_FnOrigin.Pure := by
  intro c _ _ hwf
  have hb := bytes_of hwf
  refine ⟨400, ?_⟩
  unfold laws_FnOrigin.f laws_big.f
  simp only [Option.bind_some]
  by_cases hc : (c.length : Int) > 1048576
  · rw [if_pos (by simpa using hc)]
  · rw [if_neg (by simpa using hc)]
    have h8 := atV_range hb (i := 0) (by omega)
    exact first_ c hb (by omega) (1 + atV c 0 % 8).toNat 400 [] 0 (by omega) rfl (by omega) (by omega) (fun p hp => by cases hp) (by omega)

end Go.Proofs.Ytpkhhoecfpjnjaa.Pure
