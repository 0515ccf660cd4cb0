/- The law of shaped pushes: a plan comes to its way, no pulse is greater than the most and all but the last are as great; shaped, it leaves a load that hung still hanging still, and the trolley as far as the pushes go. For every byte list as code. -/
import Derived.Test.YtpkhhoecfpjnjaaPFnShapedx4
import Derived.Test.YtpkhhoecfpjnjaaKit
set_option linter.unusedVariables false
set_option linter.unusedSimpArgs false
namespace Go.Proofs.Ytpkhhoecfpjnjaa.Pure
open Go.RowKit Go.Proofs.Ytpkhhoecfpjnjaa.PFnShaped Go.Proofs.YtpkhhoecfpjnjaaW.PrintWords Go.Proofs.YtpkhhoecfpjnjaaW.PrintLast Go.Proofs.YtpkhhoecfpjnjaaW.Kit

theorem at_eqS (l : List Int) (i : Int) : laws_at.f l i = atK l i := rfl
theorem in_eqS (a b c : Int) : impl_in.f a b c = some (decide (b ≤ a ∧ a ≤ c)) := in_some a b c
theorem own_sameS (l : List Int) (h : l.length ≤ 1000000000) : impl_own_int.f l = some l := by
  unfold impl_own_int.f
  rw [if_pos (by omega), if_pos (by omega)]
  simp only [Option.bind_some, List.length_nil, List.nil_append]
  rw [if_pos (by omega)]
theorem size_eqS (x : Int) (h : -100000 ≤ x) (h1 : x ≤ 100000) : laws_size.f x = some (x.natAbs : Int) := by
  unfold laws_size.f
  split
  · rw [w64 (by omega) (by omega)]; congr 1; omega
  · congr 1; omega
theorem tdiv2 {x : Int} (h : x % 2 = 0) : Int.tdiv x 2 = x / 2 := by
  obtain ⟨y, rfl⟩ : ∃ y, x = 2 * y := ⟨x / 2, by omega⟩
  rw [Int.mul_tdiv_cancel_left _ (by decide)]; omega
theorem tmod2 {x : Int} (h : x % 2 = 0) : Int.tmod x 2 = 0 := by
  obtain ⟨y, rfl⟩ : ∃ y, x = 2 * y := ⟨x / 2, by omega⟩
  exact Int.mul_tmod_right 2 y

/-- The pulses of a way. -/
structure Pulses (m way : Int) (ps : List Int) : Prop where
  sum : ps.sum = way
  small : ∀ x ∈ ps, x.natAbs ≤ m.natAbs ∧ x % 2 = 0
  full : ∀ i : Int, 0 ≤ i → i + 1 < ps.length → ((rd ps i).natAbs : Int) = m
  enough : (way.natAbs : Int) ≤ m * ps.length
  few : ps ≠ [] → m * ((ps.length : Int) - 1) < way.natAbs
theorem plan_loopS (m : Int) (hm0 : 2 ≤ m) (hm1 : m ≤ 1000) (hme : m % 2 = 0) (n : Nat) : ∀ (way : Int) (out : List Int), way.natAbs ≤ n → way.natAbs ≤ 10000 → way % 2 = 0 → out.length + n ≤ 100000 →
    ∃ ps, Pulses m way ps ∧ ∀ k, n < k → impl_Plan.l0 k way m out = some (if (out.length : Int) + ps.length > 38 then ([], false) else (out ++ ps, true)) := by
  induction n with
  | zero =>
    intro way out h0 h1 he h2
    have hw : way = 0 := by omega
    subst hw
    refine ⟨[], ⟨rfl, (fun x hx => by cases hx), (fun i h0 h1 => by simp at h1; omega), by simp, (fun h => absurd rfl h)⟩, fun k hk => ?_⟩
    obtain ⟨k, rfl⟩ := pos_round hk
    simp only [impl_Plan.l0, if_true, List.length_nil, List.append_nil]
    by_cases c : (out.length : Int) > 38
    · rw [if_pos c, if_pos (by omega)]
    · rw [if_neg c, if_neg (by omega), own_sameS out (by omega)]; rfl
  | succ n ih =>
    intro way out h0 h1 he h2
    by_cases hz : way = 0
    · obtain ⟨ps, hp, hk⟩ := ih way out (by omega) h1 he (by omega)
      exact ⟨ps, hp, fun k hk' => hk k (by omega)⟩
    · obtain ⟨p, hp⟩ : ∃ p, p = mx (wrap64 (-m)) (mn m way) := ⟨_, rfl⟩
      have hpv : p = if way > m then m else if way < -m then -m else way := by
        rw [hp, w64 (x := -m) (by omega) (by omega)]
        unfold mx mn
        repeat' split
        all_goals omega
      have hpp : (way - p).natAbs ≤ n ∧ (way - p).natAbs ≤ 10000 ∧ -1000 ≤ p ∧ p ≤ 1000 ∧ p % 2 = 0 ∧ (p.natAbs : Int) ≤ m ∧ ((way - p = 0 ∧ p = way) ∨ (p.natAbs : Int) = m ∧ ((way - p).natAbs : Int) = way.natAbs - m ∧ way - p ≠ 0) := by
        rw [hpv]
        repeat' split
        all_goals omega
      clear hpv
      obtain ⟨s1, s2, s3, s4, s5, s6, s7⟩ := hpp
      obtain ⟨ps, ⟨g1, g2, g3, g4, g5⟩, hk⟩ := ih (way - p) (out ++ [p]) s1 s2 (by omega) (by simp; omega)
      refine ⟨p :: ps, ⟨by simp [g1]; omega, ?_, ?_, ?_, ?_⟩, fun k hk' => ?_⟩
      · intro x hx
        rcases List.mem_cons.1 hx with rfl | hx
        · exact ⟨by omega, s5⟩
        · exact g2 x hx
      · intro i hi0 hi1
        have hi1' : i + 1 < (ps.length : Int) + 1 := by simpa using hi1
        by_cases e : i = 0
        · subst e
          have hne : ps ≠ [] := by intro h; rw [h] at hi1'; simp at hi1'
          rcases s7 with s7 | s7
          · have := g5 hne
            have hl : (1 : Int) ≤ ps.length := by omega
            have := Int.mul_nonneg (show (0 : Int) ≤ m by omega) (show 0 ≤ (ps.length : Int) - 1 by omega)
            omega
          · exact s7.1
        · have : rd (p :: ps) i = rd ps (i - 1) := by
            simp only [rd]
            rw [show i.toNat = (i - 1).toNat + 1 by omega]; simp
          rw [this]
          exact g3 (i - 1) (by omega) (by omega)
      · simp only [List.length_cons]
        have e1 : m * ((ps.length + 1 : Nat) : Int) = m * ps.length + m := by rw [Int.natCast_add, Int.mul_add]; simp
        rw [e1]; omega
      · intro _
        simp only [List.length_cons]
        have e1 : m * (((ps.length + 1 : Nat) : Int) - 1) = m * ps.length := by congr 1; omega
        rw [e1]
        rcases s7 with s7 | s7
        · have : ps = [] := by
            by_cases hne : ps = []
            · exact hne
            · have := g5 hne
              have := List.length_pos_iff.2 hne
              have := Int.mul_nonneg (show (0 : Int) ≤ m by omega) (show 0 ≤ (ps.length : Int) - 1 by omega)
              omega
          rw [this]; simp; omega
        · have hne : ps ≠ [] := by
            intro h
            rw [h] at g4
            simp at g4; omega
          have e2 : m * ((ps.length : Int) - 1) = m * ps.length - m := by rw [Int.mul_sub, Int.mul_one]
          have := g5 hne
          rw [e2] at this
          omega
      · obtain ⟨k, rfl⟩ := pos_round (show 0 < k by omega)
        have hi := hk k (by omega)
        simp only [impl_Plan.l0]
        rw [if_neg hz, if_pos (by omega), ← hp, w64 (x := way - p) (by omega) (by omega), hi]
        have el : ((out ++ [p]).length : Int) + ps.length = out.length + (p :: ps).length := by simp; omega
        rw [el, List.append_assoc]; rfl
theorem planS (m way : Int) (hm0 : 2 ≤ m) (hm1 : m ≤ 1000) (hme : m % 2 = 0) (hw : way.natAbs ≤ 10000) (hwe : way % 2 = 0) :
    ∃ ps, Pulses m way ps ∧ ∀ k, 10010 ≤ k → impl_Plan.f k way m = some (if (ps.length : Int) > 38 then ([], false) else (ps, true)) := by
  obtain ⟨ps, hp, hk⟩ := plan_loopS m hm0 hm1 hme 10000 way [] hw hw hwe (by simp)
  refine ⟨ps, hp, fun k hk' => ?_⟩
  obtain ⟨k, rfl⟩ := pos_round (show 0 < k by omega)
  unfold impl_Plan.f
  rw [in_eqS, decide_eq_true (by omega)]
  simp only [Option.bind_some, if_true]
  rw [if_pos (tmod2 hme), in_eqS, decide_eq_true (by omega)]
  simp only [Option.bind_some, if_true]
  rw [tmod2 hwe]
  simp only [impl_Plan.j0]
  rw [if_neg (by simp), hk k (by omega)]
  simp

/-- Half of pulse i; none outside. -/
def hv (l : List Int) (i : Int) : Int := if 0 ≤ i ∧ i < l.length then rd l i / 2 else 0
def SS (l : List Int) : Nat → Int
  | 0 => 0
  | n + 1 => SS l n + hv l n
theorem hv_range {l : List Int} (h : ∀ x ∈ l, x.natAbs ≤ 600 ∧ x % 2 = 0) (i : Int) : -300 ≤ hv l i ∧ hv l i ≤ 300 := by
  unfold hv
  split
  · rename_i c
    have := h _ (rd_mem c.1 c.2)
    omega
  · omega
theorem SS_sum {l : List Int} (h : ∀ x ∈ l, x.natAbs ≤ 600 ∧ x % 2 = 0) (n : Nat) : n ≤ l.length → 2 * SS l n = (l.take n).sum := by
  induction n with
  | zero => intro _; simp [SS]
  | succ n ih =>
    intro hn
    have h1 := ih (by omega)
    have hm := h _ (rd_mem (l := l) (i := (n : Int)) (by omega) (by omega))
    have ht := take_rd (l := l) (i := (n : Int)) (by omega) (by omega)
    have e : ((n : Int) + 1).toNat = n + 1 := by omega
    rw [e, Int.toNat_natCast] at ht
    rw [ht, List.sum_append]
    simp only [SS, hv, List.sum_cons, List.sum_nil]
    rw [if_pos ⟨by omega, by omega⟩]
    omega
theorem SS_over (l : List Int) (n : Nat) : SS l (l.length + n) = SS l l.length := by
  induction n with
  | zero => rfl
  | succ n ih =>
    show SS l (l.length + n) + hv l ((l.length + n : Nat) : Int) = _
    rw [ih]
    unfold hv
    rw [if_neg (by omega)]; omega

/-- No pulse is refused. -/
theorem none_bad {l : List Int} (h : ∀ x ∈ l, x.natAbs ≤ 600 ∧ x % 2 = 0) (hl : l.length ≤ 40) (d : Nat) : ∀ (k : Nat) (i : Int), 0 ≤ i → i ≤ l.length → (l.length : Int) - i = d → d < k → slices_IndexFunc_int_int_at_impl_Shaped_1.l0 k l (l.length : Int) i = some (-1) := by
  induction d with
  | zero =>
    intro k i h0 h1 hd hk
    obtain ⟨k, rfl⟩ := pos_round (show 0 < k by omega)
    simp only [slices_IndexFunc_int_int_at_impl_Shaped_1.l0]
    rw [if_neg (by omega)]
  | succ d ih =>
    intro k i h0 h1 hd hk
    obtain ⟨k, rfl⟩ := pos_round (show 0 < k by omega)
    have hm := h _ (rd_mem (l := l) (i := i) h0 (by omega))
    simp only [slices_IndexFunc_int_int_at_impl_Shaped_1.l0]
    rw [if_pos (by omega), if_pos h0, if_pos (by omega)]
    unfold impl_Shaped_1.f
    rw [if_pos (tmod2 hm.2), in_eqS, decide_eq_true (by omega)]
    simp only [Option.bind_some, Bool.not_true]
    rw [if_neg (by simp), w64 (x := i + 1) (by omega) (by omega)]
    exact ih k (i + 1) (by omega) (by omega) (by omega) (by omega)
/-- What the pulses' halves come to, place by place. -/
theorem shaped_loop {l : List Int} (h : ∀ x ∈ l, x.natAbs ≤ 600 ∧ x % 2 = 0) (hl : l.length ≤ 40) (d : Nat) : ∀ (k : Nat) (o : List Int) (i : Int), 0 ≤ i → i ≤ l.length → (l.length : Int) - i = d → d < k → o.length = l.length + 2 →
    (∀ j : Int, 0 ≤ j → j < o.length → rd o j = (if j < i then hv l j else 0) + (if j - 2 < i then hv l (j - 2) else 0)) →
    ∃ r, impl_Shaped.l0 k o l (l.length : Int) i = some (r, true) ∧ r.length = l.length + 2 ∧ ∀ j : Int, 0 ≤ j → j < r.length → rd r j = hv l j + hv l (j - 2) := by
  induction d with
  | zero =>
    intro k o i h0 h1 hd hk ho hr
    obtain ⟨k, rfl⟩ := pos_round (show 0 < k by omega)
    simp only [impl_Shaped.l0]
    rw [if_neg (by omega)]
    refine ⟨o, rfl, ho, fun j hj0 hj1 => ?_⟩
    rw [hr j hj0 hj1]
    congr 1
    · split
      · rfl
      · unfold hv; rw [if_neg (by omega)]
    · rw [if_pos (by omega)]
  | succ d ih =>
    intro k o i h0 h1 hd hk ho hr
    obtain ⟨k, rfl⟩ := pos_round (show 0 < k by omega)
    have hm := h _ (rd_mem (l := l) (i := i) h0 (by omega))
    have hvi : hv l i = rd l i / 2 := by unfold hv; rw [if_pos ⟨h0, by omega⟩]
    have b1 := hv_range h (i - 2)
    have b2 := hv_range h i
    have r1 := hr i h0 (by omega)
    rw [if_neg (by omega), if_pos (by omega)] at r1
    have r2 := hr (i + 2) (by omega) (by omega)
    rw [if_neg (by omega), if_neg (by omega)] at r2
    simp only [impl_Shaped.l0]
    rw [if_pos (by omega), if_pos h0, if_pos (by omega), if_pos (by omega)]
    simp only [Option.bind_some]
    rw [tdiv2 hm.2, ← hvi, w64 (x := i + 2) (by omega) (by omega), if_pos (by omega), if_pos (by omega), w64 (x := hv l i) (by omega) (by omega), w64 (x := rd o i + _) (by omega) (by omega), rd_set_ne h0 (by omega) (by omega), w64 (x := rd o (i + 2) + _) (by omega) (by omega), w64 (x := i + 1) (by omega) (by omega)]
    refine ih k _ (i + 1) (by omega) (by omega) (by omega) (by omega) (by simpa using ho) (fun j hj0 hj1 => ?_)
    have hj1' : j < (o.length : Int) := by simpa using hj1
    by_cases e2 : j = i + 2
    · subst e2
      rw [rd_set_eq (by omega) (by simpa using hj1'), r2, if_neg (by omega), if_pos (by omega), show i + 2 - 2 = i by omega]; omega
    · rw [rd_set_ne (by omega) hj0 (Ne.symm e2)]
      by_cases e1 : j = i
      · subst e1
        rw [rd_set_eq hj0 hj1', r1, if_pos (by omega), if_pos (by omega)]; omega
      · rw [rd_set_ne h0 hj0 (Ne.symm e1), hr j hj0 hj1']
        congr 1
        · by_cases c : j < i
          · rw [if_pos c, if_pos (by omega)]
          · rw [if_neg c, if_neg (by omega)]
        · by_cases c : j - 2 < i
          · rw [if_pos c, if_pos (by omega)]
          · rw [if_neg c, if_neg (by omega)]
theorem shaped_go (k : Nat) (l r : List Int) (h : ¬ (l.length : Int) > 38) (hc : slices_ContainsFunc_int_int_at_impl_Shaped_1.f (k + 1) l = some false) (hj : impl_Shaped.j0 (k + 1) l false = some (r, true)) : impl_Shaped.f (k + 1) l = some (r, true) := by
  generalize k + 1 = k' at hc hj ⊢
  unfold impl_Shaped.f
  rw [if_neg h, hc, Option.bind_some, hj]
theorem shaped_ok {l : List Int} (h : ∀ x ∈ l, x.natAbs ≤ 600 ∧ x % 2 = 0) (hl : l.length ≤ 38) (k : Nat) (hk : 60 ≤ k) :
    ∃ r, impl_Shaped.f k l = some (r, true) ∧ r.length = l.length + 2 ∧ ∀ j : Int, 0 ≤ j → j < r.length → rd r j = hv l j + hv l (j - 2) := by
  obtain ⟨k, rfl⟩ := pos_round (show 0 < k by omega)
  have hz : ∀ j : Int, 0 ≤ j → j < (List.replicate (l.length + 2) (0 : Int)).length → rd (List.replicate (l.length + 2) 0) j = (if j < 0 then hv l j else 0) + (if j - 2 < 0 then hv l (j - 2) else 0) := by
    intro j hj0 hj1
    rw [List.length_replicate] at hj1
    rw [rd_replicate hj0 hj1, if_neg (by omega)]
    by_cases e : j - 2 < 0
    · rw [if_pos e]
      unfold hv
      rw [if_neg (by omega)]; simp
    · rw [if_neg e]; simp
  obtain ⟨r, hr, hrest⟩ := shaped_loop h (by omega) l.length k (List.replicate (l.length + 2) 0) 0 (by omega) (by omega) (by omega) (by omega) (by rw [List.length_replicate]) hz
  refine ⟨r, ?_, hrest⟩
  have hn : ((l.length : Int) + 2).toNat = l.length + 2 := by omega
  have hc : slices_ContainsFunc_int_int_at_impl_Shaped_1.f (k + 1) l = some false := by
    unfold slices_ContainsFunc_int_int_at_impl_Shaped_1.f slices_IndexFunc_int_int_at_impl_Shaped_1.f
    rw [none_bad h (by omega) l.length (k + 1) 0 (by omega) (by omega) (by omega) (by omega)]
    rfl
  have hj : impl_Shaped.j0 (k + 1) l false = some (r, true) := by
    simp only [impl_Shaped.j0]
    rw [if_neg (by simp), w64 (x := (l.length : Int) + 2) (by omega) (by omega), if_pos (by omega), hn, if_pos (by omega)]
    exact hr
  exact shaped_go k l r (by omega) hc hj

theorem sway_ok (a b c : Int) (ha : -1000000 ≤ a ∧ a ≤ 1000000) (hb : -1000000 ≤ b ∧ b ≤ 1000000) (hc : -1000000 ≤ c ∧ c ≤ 1000000) : impl_SwayOk.f a b c = some true := by
  unfold impl_SwayOk.f
  rw [in_eqS, in_eqS, in_eqS, decide_eq_true ha, decide_eq_true hb, decide_eq_true hc]
  simp
theorem swing (a o s p : Int) (ha : -900000 ≤ a ∧ a ≤ 900000) (ho : -900000 ≤ o ∧ o ≤ 900000) (hs : -900000 ≤ s ∧ s ≤ 900000) (hp : -1000 ≤ p ∧ p ≤ 1000) (k : Nat) (hk : 1 ≤ k) : impl_Swing1.f k a o s p = some (a + p, s, p - o, true) := by
  obtain ⟨k, rfl⟩ := pos_round (show 0 < k by omega)
  unfold impl_Swing1.f
  rw [sway_ok _ _ _ (by omega) (by omega) (by omega)]
  simp only [Option.bind_some, if_true]
  rw [in_eqS, decide_eq_true hp]
  simp only [Option.bind_some, Bool.not_true, impl_Swing1.j0]
  rw [if_neg (by simp), w64 (x := a + p) (by omega) (by omega), w64 (x := o - p) (by omega) (by omega), w64 (by omega) (by omega), sway_ok _ _ _ (by omega) (by omega) (by omega)]
  simp only [Option.bind_some, if_true]
  rw [show -(o - p) = p - o by omega]
theorem beats_loop {l r : List Int} (h : ∀ x ∈ l, x.natAbs ≤ 600 ∧ x % 2 = 0) (hl : l.length ≤ 38) (hrl : r.length = l.length + 2) (hr : ∀ j : Int, 0 ≤ j → j < r.length → rd r j = hv l j + hv l (j - 2)) (a0 : Int) (ha : 0 ≤ a0 ∧ a0 ≤ 255) (d : Nat) : ∀ (k n : Nat) (a : Int), n ≤ r.length → r.length - n = d → d + 1 < k →
    a = a0 + SS l n + SS l (n - 2) → -1000 * n ≤ a - a0 → a - a0 ≤ 1000 * n →
    impl_Beats.l0 k r (r.length : Int) (n : Int) a (hv l ((n : Int) - 2)) (hv l ((n : Int) - 1)) = some (a0 + SS l r.length + SS l (r.length - 2), 0, 0, true) := by
  induction d with
  | zero =>
    intro k n a hn hd hk hA hb1 hb2
    obtain ⟨k, rfl⟩ := pos_round (show 0 < k by omega)
    have e : n = r.length := by omega
    subst e
    simp only [impl_Beats.l0]
    rw [if_neg (by omega), hA]
    have e1 : hv l ((r.length : Int) - 2) = 0 := by unfold hv; rw [if_neg (by omega)]
    have e2 : hv l ((r.length : Int) - 1) = 0 := by unfold hv; rw [if_neg (by omega)]
    rw [e1, e2]
  | succ d ih =>
    intro k n a hn hd hk hA hb1 hb2
    obtain ⟨k, rfl⟩ := pos_round (show 0 < k by omega)
    have b0 := hv_range h n
    have b1 := hv_range h ((n : Int) - 1)
    have b2 := hv_range h ((n : Int) - 2)
    simp only [impl_Beats.l0]
    rw [if_pos (by omega), if_pos (by omega), if_pos (by omega), hr n (by omega) (by omega), swing _ _ _ _ (by omega) (by omega) (by omega) (by omega) k (by omega)]
    simp only [Option.bind_some, if_true]
    rw [w64 (x := (n : Int) + 1) (by omega) (by omega)]
    have hI := ih k (n + 1) (a + (hv l n + hv l ((n : Int) - 2))) (by omega) (by omega) (by omega) (by
      show _ = a0 + (SS l n + hv l n) + SS l (n + 1 - 2)
      by_cases c : 2 ≤ n
      · have e : n + 1 - 2 = (n - 2) + 1 := by omega
        rw [e, hA]
        show _ = a0 + (SS l n + hv l n) + (SS l (n - 2) + hv l ((n - 2 : Nat) : Int))
        rw [show ((n - 2 : Nat) : Int) = (n : Int) - 2 by omega]; omega
      · have e1 : n + 1 - 2 = 0 := by omega
        have e2 : n - 2 = 0 := by omega
        have e3 : hv l ((n : Int) - 2) = 0 := by unfold hv; rw [if_neg (by omega)]
        rw [e1, hA, e2, e3]; omega) (by omega) (by omega)
    rw [show (((n + 1 : Nat) : Int) - 2) = (n : Int) - 1 by omega, show (((n + 1 : Nat) : Int) - 1) = (n : Int) by omega, show ((n + 1 : Nat) : Int) = (n : Int) + 1 by omega] at hI
    rw [show hv l (n : Int) + hv l ((n : Int) - 2) - hv l ((n : Int) - 2) = hv l n by omega]
    exact hI
theorem beats_ok {l r : List Int} (h : ∀ x ∈ l, x.natAbs ≤ 600 ∧ x % 2 = 0) (hl : l.length ≤ 38) (hrl : r.length = l.length + 2) (hr : ∀ j : Int, 0 ≤ j → j < r.length → rd r j = hv l j + hv l (j - 2)) (a0 : Int) (ha : 0 ≤ a0 ∧ a0 ≤ 255) (k : Nat) (hk : 60 ≤ k) :
    impl_Beats.f k a0 0 0 r = some (a0 + l.sum, 0, 0, true) := by
  obtain ⟨k, rfl⟩ := pos_round (show 0 < k by omega)
  have hb := beats_loop h hl hrl hr a0 ha r.length k 0 a0 (by omega) (by omega) (by omega) (by simp [SS]) (by omega) (by omega)
  have e1 : hv l (((0 : Nat) : Int) - 2) = 0 := by unfold hv; rw [if_neg (by omega)]
  have e2 : hv l (((0 : Nat) : Int) - 1) = 0 := by unfold hv; rw [if_neg (by omega)]
  have e3 : a0 + SS l r.length + SS l (r.length - 2) = a0 + l.sum := by
    have := SS_sum h l.length (Nat.le_refl _)
    rw [List.take_length] at this
    rw [hrl, SS_over, show l.length + 2 - 2 = l.length by omega]; omega
  rw [e1, e2, e3] at hb
  unfold impl_Beats.f
  rw [sway_ok _ _ _ (by omega) (by omega) (by omega)]
  simp only [Option.bind_some, if_true, impl_Beats.j0]
  rw [if_neg (by simp; omega)]
  exact hb

/-- Behind the shaping. -/
theorem shaped_end (c l r : List Int) (way : Int) (hb : Bytes c) (hc : c.length ≤ 1048576) (h : ∀ x ∈ l, x.natAbs ≤ 600 ∧ x % 2 = 0) (hl : l.length ≤ 38) (hw : l.sum = way) (hw1 : -10000 ≤ way ∧ way ≤ 10000) (hrl : r.length = l.length + 2) (hr : ∀ j : Int, 0 ≤ j → j < r.length → rd r j = hv l j + hv l (j - 2)) (k : Nat) (hk : 61 ≤ k) :
    laws_FnShaped.j1 k c way r false = some true := by
  obtain ⟨k, rfl⟩ := pos_round (show 0 < k by omega)
  have h2 := atV_range hb (i := 2) (by omega)
  simp only [laws_FnShaped.j1]
  rw [if_neg (by simp), at_eqS, at_some hb hc (by omega) (by omega)]
  simp only [Option.bind_some]
  rw [beats_ok h hl hrl hr _ h2 k (by omega), swing 0 0 0 10 (by omega) (by omega) (by omega) (by omega) k (by omega)]
  simp only [Option.bind_some, if_true]
  rw [w64 (by omega) (by omega), hw, if_pos (by simp), if_pos (by omega), if_pos (by omega), sway_ok _ _ _ (by omega) (by omega) (by omega)]
  rfl

/-- The law's own loop over the plan. -/
theorem law_loop (c l : List Int) (way m : Int) (hb : Bytes c) (hc : c.length ≤ 1048576) (hm : 2 ≤ m ∧ m ≤ 600) (hp : Pulses m way l) (hl : l.length ≤ 38) (hw1 : -10000 ≤ way ∧ way ≤ 10000) (d : Nat) : ∀ (k : Nat) (s i : Int), 0 ≤ i → i ≤ l.length → (l.length : Int) - i = d → d + 70 < k → s = (l.take i.toNat).sum → -1000 * i ≤ s → s ≤ 1000 * i →
    laws_FnShaped.l0 k c way m l s i = some true := by
  have hsm : ∀ x ∈ l, x.natAbs ≤ 600 ∧ x % 2 = 0 := fun x hx => ⟨by have := (hp.small x hx).1; omega, (hp.small x hx).2⟩
  induction d with
  | zero =>
    intro k s i h0 h1 hd hk hs hs1 hs2
    obtain ⟨k, rfl⟩ := pos_round (show 0 < k by omega)
    obtain ⟨r, hr, hrl, hrr⟩ := shaped_ok hsm hl k (by omega)
    rw [List.take_of_length_le (by omega), hp.sum] at hs
    simp only [laws_FnShaped.l0]
    rw [if_neg (by omega), hr]
    simp only [Option.bind_some, if_true]
    rw [if_pos hs, w64 (by omega) (by omega), show ((r.length : Int) != (l.length : Int) + 2) = false by simp; omega]
    exact shaped_end c l r way hb hc hsm hl hp.sum hw1 hrl hrr k (by omega)
  | succ d ih =>
    intro k s i h0 h1 hd hk hs hs1 hs2
    obtain ⟨k, rfl⟩ := pos_round (show 0 < k by omega)
    have hx := hp.small _ (rd_mem (l := l) (i := i) h0 (by omega))
    have hnx : laws_FnShaped.l0 k c way m l (wrap64 (s + rd l i)) (wrap64 (i + 1)) = some true := by
      rw [w64 (x := s + _) (by omega) (by omega), w64 (x := i + 1) (by omega) (by omega)]
      exact ih k _ (i + 1) (by omega) (by omega) (by omega) (by omega) (by rw [take_rd h0 (by omega), List.sum_append, hs]; simp) (by omega) (by omega)
    simp only [laws_FnShaped.l0]
    rw [if_pos (by omega), if_pos h0, size_eqS _ (by omega) (by omega)]
    simp only [Option.bind_some]
    rw [if_neg (by omega)]
    by_cases e : wrap64 (i + 1) < (l.length : Int)
    · rw [if_pos e, if_pos (hp.full i h0 (by rwa [w64 (by omega) (by omega)] at e))]
      exact hnx
    · rw [if_neg e]
      exact hnx

theorem FnShaped : laws_FnShaped.Pure := by
  intro c _ _ hwf
  have hb := bytes_of hwf
  refine ⟨20000, ?_⟩
  unfold laws_FnShaped.f laws_big.f
  simp only [Option.bind_some]
  by_cases hc : (c.length : Int) > 1048576
  · rw [if_pos (by simpa using hc)]
  · rw [if_neg (by simpa using hc)]
    have h0 := atV_range hb (i := 0) (by omega)
    have h1 := atV_range hb (i := 1) (by omega)
    rw [at_eqS, at_some hb (by omega) (by omega) (by omega)]
    simp only [Option.bind_some]
    rw [at_eqS, at_some hb (by omega) (by omega) (by omega)]
    simp only [Option.bind_some]
    rw [w64 (x := atV c 0 * 9) (by omega) (by omega), w64 (x := atV c 0 * 9 - 1100) (by omega) (by omega), w64 (x := 2 * (atV c 0 * 9 - 1100)) (by omega) (by omega), w64 (x := 30 + _) (by omega) (by omega), w64 (x := 2 * (30 + _)) (by omega) (by omega)]
    generalize hw : 2 * (atV c 0 * 9 - 1100) = way
    generalize hm : 2 * (30 + atV c 1) = m
    obtain ⟨ps, hp, hk⟩ := planS m way (by omega) (by omega) (by omega) (by omega) (by omega)
    rw [hk 20000 (by omega)]
    by_cases c38 : (ps.length : Int) > 38
    · rw [if_pos c38]
      simp only [Option.bind_some]
      rw [if_neg (by simp), size_eqS way (by omega) (by omega)]
      simp only [Option.bind_some]
      rw [w64 (x := m * 38) (by omega) (by omega)]
      have := hp.few (by intro h; rw [h] at c38; simp at c38)
      have h2 := Int.mul_le_mul_of_nonneg_left (show (38 : Int) ≤ (ps.length : Int) - 1 by omega) (show 0 ≤ m by omega)
      simp; omega
    · rw [if_neg c38]
      simp only [Option.bind_some, if_true]
      exact law_loop c ps way m hb (by omega) (by omega) hp (by omega) (by omega) ps.length 20000 0 0 (by omega) (by omega) (by omega) (by omega) (by simp) (by omega) (by omega)

end Go.Proofs.Ytpkhhoecfpjnjaa.Pure
