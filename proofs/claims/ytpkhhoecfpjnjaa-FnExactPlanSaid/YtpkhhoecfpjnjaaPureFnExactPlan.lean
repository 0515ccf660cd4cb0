/- The program's Plan returns what the reference's returns, for all arguments; what it hands back is new memory. -/
import Derived.Test.YtpkhhoecfpjnjaaPFnExactPlanx2
import Derived.Test.YtpkhhoecfpjnjaaKit
set_option linter.unusedVariables false
set_option linter.unusedSimpArgs false
namespace Go.Proofs.Ytpkhhoecfpjnjaa.Pure
open Go.RowKit Go.Proofs.Ytpkhhoecfpjnjaa.PFnExactPlan Go.Proofs.YtpkhhoecfpjnjaaW.PrintWords Go.Proofs.YtpkhhoecfpjnjaaW.PrintLast Go.Proofs.YtpkhhoecfpjnjaaW.Kit

/-! ### laws.eqIntS, markIntS, heldIntS -/
theorem eqI_loop (l : List Int) (hn : l.length ≤ 1000000000) (d : Nat) : ∀ (k : Nat) (i : Int), 0 ≤ i → i ≤ l.length → (l.length : Int) - i = d → d < k → laws_eqIntS.l0 k l l i = some true := by
  induction d with
  | zero =>
    intro k i h0 h1 hd hk
    obtain ⟨k, rfl⟩ := pos_round (show 0 < k by omega)
    simp only [laws_eqIntS.l0]
    rw [if_neg (by omega)]
  | succ d ih =>
    intro k i h0 h1 hd hk
    obtain ⟨k, rfl⟩ := pos_round (show 0 < k by omega)
    simp only [laws_eqIntS.l0]
    rw [if_pos (by omega), if_pos h0, if_pos (by omega), w64 (x := i + 1) (by omega) (by omega)]
    simp only [if_true]
    exact ih k (i + 1) (by omega) (by omega) (by omega) (by omega)
theorem eqI (l : List Int) (hn : l.length ≤ 1000000000) (k : Nat) (hk : l.length < k) : laws_eqIntS.f k l l = some true := by
  unfold laws_eqIntS.f
  rw [if_pos rfl]
  exact eqI_loop l hn l.length k 0 (by omega) (by omega) (by omega) hk
theorem markI_loop (d : Nat) : ∀ (k : Nat) (l : List Int) (c i : Int), l.length ≤ 1000000000 → 0 ≤ i → i ≤ l.length → (l.length : Int) - i = d → d < k → 0 ≤ c → c + d ≤ 2000000000 →
    ∃ r, laws_markIntS.l0 k l c i = some (c + d, r) ∧ r.length = l.length ∧ ∀ j : Int, 0 ≤ j → j < l.length → rd r j = if j < i then rd l j else c + (j - i) := by
  induction d with
  | zero =>
    intro k l c i hn h0 h1 hd hk hc hc1
    obtain ⟨k, rfl⟩ := pos_round (show 0 < k by omega)
    simp only [laws_markIntS.l0]
    rw [if_neg (by omega)]
    exact ⟨l, by simp, rfl, fun j hj hj1 => by rw [if_pos (by omega)]⟩
  | succ d ih =>
    intro k l c i hn h0 h1 hd hk hc hc1
    obtain ⟨k, rfl⟩ := pos_round (show 0 < k by omega)
    obtain ⟨r, hr, hl, hj⟩ := ih k (l.set i.toNat c) (c + 1) (i + 1) (by simpa using hn) (by omega) (by simp; omega) (by simp; omega) (by omega) (by omega) (by omega)
    simp only [laws_markIntS.l0]
    rw [if_pos (by omega), if_pos h0, w64 (x := i + 1) (by omega) (by omega), w64 (x := c + 1) (by omega) (by omega), hr]
    refine ⟨r, ?_, by simpa using hl, fun j hj0 hj1 => ?_⟩
    · congr 2; omega
    · rw [hj j hj0 (by simpa using hj1)]
      by_cases e : j = i
      · subst e
        rw [if_pos (by omega), if_neg (by omega), rd_set_eq hj0 hj1]; omega
      · by_cases e2 : j < i
        · rw [if_pos (by omega), if_pos e2, rd_set_ne h0 hj0 (Ne.symm e)]
        · rw [if_neg (by omega), if_neg e2]; omega
theorem markI (l : List Int) (hn : l.length ≤ 1000000000) (k : Nat) (hk : l.length < k) :
    ∃ r, laws_markIntS.f k l 1 = some (1 + (l.length : Int), r) ∧ r.length = l.length ∧ ∀ j : Int, 0 ≤ j → j < l.length → rd r j = 1 + j := by
  obtain ⟨r, hr, hl, hj⟩ := markI_loop l.length k l 1 0 hn (by omega) (by omega) (by omega) hk (by omega) (by omega)
  exact ⟨r, hr, hl, fun j h0 h1 => by rw [hj j h0 h1, if_neg (by omega)]; omega⟩
theorem heldI_loop (l : List Int) (hn : l.length ≤ 1000000000) (d : Nat) : ∀ (k : Nat) (c i : Int), 0 ≤ i → i ≤ l.length → (l.length : Int) - i = d → d < k → 0 ≤ c → c + d ≤ 2000000000 → (∀ j : Int, i ≤ j → j < l.length → rd l j = c + (j - i)) →
    laws_heldIntS.l0 k l c i = some (c + d) := by
  induction d with
  | zero =>
    intro k c i h0 h1 hd hk hc hc1 hr
    obtain ⟨k, rfl⟩ := pos_round (show 0 < k by omega)
    simp only [laws_heldIntS.l0]
    rw [if_neg (by omega)]; simp
  | succ d ih =>
    intro k c i h0 h1 hd hk hc hc1 hr
    obtain ⟨k, rfl⟩ := pos_round (show 0 < k by omega)
    simp only [laws_heldIntS.l0]
    rw [if_pos (by omega), if_pos h0, if_pos (by rw [hr i (by omega) (by omega)]; omega), w64 (x := i + 1) (by omega) (by omega), w64 (x := c + 1) (by omega) (by omega)]
    rw [ih k (c + 1) (i + 1) (by omega) (by omega) (by omega) (by omega) (by omega) (by omega) (fun j h2 h3 => by rw [hr j (by omega) h3]; omega)]
    congr 1; omega
theorem heldI (l : List Int) (hn : l.length ≤ 1000000000) (hr : ∀ j : Int, 0 ≤ j → j < l.length → rd l j = 1 + j) (k : Nat) (hk : l.length < k) : laws_heldIntS.f k l 1 = some (1 + (l.length : Int)) :=
  heldI_loop l hn l.length k 1 0 (by omega) (by omega) (by omega) hk (by omega) (by omega) (fun j h0 h1 => by rw [hr j h0 h1]; omega)
theorem own_same (l : List Int) (h : l.length ≤ 1000000000) : impl_own_int.f l = some l := by
  unfold impl_own_int.f
  rw [if_pos (by omega), if_pos (by omega)]
  simp only [Option.bind_some, List.length_nil, List.nil_append]
  rw [if_pos (by omega)]
/-! ### the two plans -/
theorem plan_loops (m : Int) (hm0 : 2 ≤ m) (hm1 : m ≤ 1000) (n : Nat) : ∀ (way : Int) (out : List Int), way.natAbs ≤ n → way.natAbs ≤ 10000 → out.length + n ≤ 100000 →
    ∃ res : List Int × Bool, res.1.length ≤ 38 ∧ ∀ k, n < k → spec_Plan.l0 k m out way = some res ∧ impl_Plan.l0 k way m out = some res := by
  induction n with
  | zero =>
    intro way out h0 h1 h2
    have hw : way = 0 := by omega
    subst hw
    by_cases c : (out.length : Int) > 38
    · refine ⟨([], false), by simp, fun k hk => ?_⟩
      obtain ⟨k, rfl⟩ := pos_round hk
      simp only [spec_Plan.l0, impl_Plan.l0, if_true]
      rw [if_pos c, if_pos c]
      exact ⟨rfl, rfl⟩
    · refine ⟨(out, true), by simp; omega, fun k hk => ?_⟩
      obtain ⟨k, rfl⟩ := pos_round hk
      simp only [spec_Plan.l0, impl_Plan.l0, if_true]
      rw [if_neg c, if_neg c, own_same out (by omega)]
      exact ⟨rfl, rfl⟩
  | succ n ih =>
    intro way out h0 h1 h2
    by_cases hz : way = 0
    · obtain ⟨res, hr, hk⟩ := ih way out (by omega) h1 (by omega)
      exact ⟨res, hr, fun k hk' => hk k (by omega)⟩
    · obtain ⟨p, hp⟩ : ∃ p, p = mx (wrap64 (-m)) (mn m way) := ⟨_, rfl⟩
      have hpv : p = if way > m then m else if way < -m then -m else way := by
        rw [hp, w64 (x := -m) (by omega) (by omega)]
        unfold mx mn
        repeat' split
        all_goals omega
      have hstep : (way - p).natAbs ≤ n ∧ (way - p).natAbs ≤ 10000 := by
        rw [hpv]
        repeat' split
        all_goals omega
      have hprange : -1000 ≤ p ∧ p ≤ 1000 := by
        rw [hpv]
        repeat' split
        all_goals omega
      obtain ⟨res, hr, hk⟩ := ih (way - p) (out ++ [p]) hstep.1 hstep.2 (by simp; omega)
      refine ⟨res, hr, fun k hk' => ?_⟩
      obtain ⟨k, rfl⟩ := pos_round (show 0 < k by omega)
      obtain ⟨hs, hi⟩ := hk k (by omega)
      constructor
      · simp only [spec_Plan.l0]
        rw [if_neg hz, w64 (x := -m) (by omega) (by omega)]
        by_cases c1 : way > m
        · rw [if_pos c1] at hpv
          subst hpv
          rw [if_pos c1, if_neg (by omega), if_pos (by omega), w64 (by omega) (by omega)]
          exact hs
        · rw [if_neg c1] at hpv
          rw [if_neg c1]
          by_cases c2 : way < -m
          · rw [if_pos c2] at hpv
            subst hpv
            rw [if_pos c2, if_pos (by omega), w64 (by omega) (by omega)]
            exact hs
          · rw [if_neg c2] at hpv
            subst hpv
            rw [if_neg c2, if_pos (by omega), w64 (by omega) (by omega)]
            exact hs
      · simp only [impl_Plan.l0]
        rw [if_neg hz, if_pos (by omega), ← hp, w64 (x := way - p) (by omega) (by omega)]
        exact hi
theorem plans (way m : Int) : ∃ res : List Int × Bool, res.1.length ≤ 38 ∧ ∀ k, 10010 ≤ k → spec_Plan.f k way m = some res ∧ impl_Plan.f k way m = some res := by
  have hs : ∀ a b c, spec_l1In.f a b c = some (decide (b ≤ a ∧ a ≤ c)) := in_some
  have hi : ∀ a b c, impl_in.f a b c = some (decide (b ≤ a ∧ a ≤ c)) := in_some
  have no : ∀ (P : Prop) [Decidable P], ¬ P → (∀ k, 10010 ≤ k → spec_Plan.f k way m = some ([], false) ∧ impl_Plan.f k way m = some ([], false)) → ∃ res : List Int × Bool, res.1.length ≤ 38 ∧ ∀ k, 10010 ≤ k → spec_Plan.f k way m = some res ∧ impl_Plan.f k way m = some res := fun P _ _ h => ⟨([], false), by simp, h⟩
  by_cases c1 : (-10000 ≤ way ∧ way ≤ 10000) ∧ (2 ≤ m ∧ m ≤ 1000) ∧ Int.tmod way 2 = 0 ∧ Int.tmod m 2 = 0
  · obtain ⟨cw, cm, ew, em⟩ := c1
    obtain ⟨res, hr, hk⟩ := plan_loops m cm.1 cm.2 10000 way [] (by omega) (by omega) (by simp)
    refine ⟨res, hr, fun k hk' => ?_⟩
    obtain ⟨k, rfl⟩ := pos_round (show 0 < k by omega)
    have := hk k (by omega)
    constructor
    · unfold spec_Plan.f
      rw [hs, decide_eq_true cw]
      simp only [Option.bind_some, if_true]
      rw [if_pos ew, hs, decide_eq_true cm]
      simp only [Option.bind_some, if_true]
      rw [em]
      simp only [spec_Plan.j0]
      rw [if_neg (by simp)]
      exact this.1
    · unfold impl_Plan.f
      rw [hi, decide_eq_true cm]
      simp only [Option.bind_some, if_true]
      rw [if_pos em, hi, decide_eq_true cw]
      simp only [Option.bind_some, if_true]
      rw [ew]
      simp only [impl_Plan.j0]
      rw [if_neg (by simp)]
      exact this.2
  · refine no _ c1 fun k hk' => ?_
    obtain ⟨k, rfl⟩ := pos_round (show 0 < k by omega)
    unfold spec_Plan.f impl_Plan.f
    rw [hs, hs, hi, hi]
    simp only [Option.bind_some, spec_Plan.j0, impl_Plan.j0, if_true]
    by_cases d1 : -10000 ≤ way ∧ way ≤ 10000 <;> by_cases d2 : 2 ≤ m ∧ m ≤ 1000 <;> by_cases d3 : Int.tmod way 2 = 0 <;> by_cases d4 : Int.tmod m 2 = 0 <;> simp [d1, d2, d3, d4] at c1 ⊢

theorem FnExactPlan : laws_FnExactPlan.Pure := by
  intro way m _ _
  obtain ⟨res, hr, hk⟩ := plans way m
  refine ⟨10020, ?_⟩
  have hs := (hk 10020 (by omega)).1
  obtain ⟨r, hm, hl, hj⟩ := markI res.1 (by omega) 10019 (by omega)
  have hh := heldI r (by omega) (fun j h0 h1 => hj j h0 (by omega)) 10019 (by omega)
  have hh2 := heldI r (by omega) (fun j h0 h1 => hj j h0 (by omega)) 10018 (by omega)
  unfold laws_FnExactPlan.f
  rw [hs, (hk 10020 (by omega)).2]
  simp only [Option.bind_some]
  rw [eqI res.1 (by omega) 10020 (by omega)]
  simp only [Option.bind_some, if_true]
  show laws_FnExactPlan.j0 (10019 + 1) _ _ _ _ _ _ = _
  simp only [laws_FnExactPlan.j0]
  rw [if_neg (by simp), hm]
  simp only [Option.bind_some]
  rw [hh]
  simp only [Option.bind_some]
  rw [if_neg (by omega), if_pos (by omega), (hk 10019 (by omega)).2]
  simp only [Option.bind_some]
  rw [eqI res.1 (by omega) 10019 (by omega)]
  simp only [Option.bind_some, if_true]
  show laws_FnExactPlan.j1 (10018 + 1) _ _ _ = _
  simp only [laws_FnExactPlan.j1]
  rw [if_neg (by simp), hh2]
  simp only [Option.bind_some]
  rw [if_neg (by omega), if_pos (by omega)]

end Go.Proofs.Ytpkhhoecfpjnjaa.Pure
