/- The windows of drawn depths are apart, hold at each minute, and no minute beyond them is deep enough; a stay told for lies in one: for each byte list as code. -/
import Derived.Test.YtdjbglhhjffnkaaPFnWindowsx3
import Derived.Test.YtdjbglhhjffnkaaKit
set_option linter.unusedVariables false
set_option linter.unusedSimpArgs false
namespace Go.Proofs.Ytdjbglhhjffnkaa.Pure
open Go.RowKit Go.Proofs.Ytdjbglhhjffnkaa.PFnWindows Go.Proofs.YtdjbglhhjffnkaaW.PrintWords Go.Proofs.YtdjbglhhjffnkaaW.PrintLast Go.Proofs.YtdjbglhhjffnkaaW.PrintMore Go.Proofs.YtdjbglhhjffnkaaW.Kit

theorem rd52_lt {l : List S52} {i : Int} (h0 : 0 ≤ i) (h1 : i < l.length) : ∃ h : i.toNat < l.length, rd_T52 l i = l[i.toNat]'h := by
  have h : i.toNat < l.length := by omega
  exact ⟨h, by simp [rd_T52, List.getD_eq_getElem?_getD, List.getElem?_eq_getElem h]⟩
theorem rd52_mem {l : List S52} {i : Int} (h0 : 0 ≤ i) (h1 : i < l.length) : rd_T52 l i ∈ l := by
  obtain ⟨h, e⟩ := rd52_lt h0 h1
  rw [e]; exact List.getElem_mem h
theorem rd52_drop {l : List S52} {i : Int} (h0 : 0 ≤ i) (h1 : i < l.length) : l.drop i.toNat = rd_T52 l i :: l.drop (i + 1).toNat := by
  obtain ⟨h, e⟩ := rd52_lt h0 h1
  rw [e, show (i + 1).toNat = i.toNat + 1 by omega, List.drop_eq_getElem_cons h]
theorem rd52_take {l : List S52} {i : Int} (h0 : 0 ≤ i) (h1 : i < l.length) : l.take (i + 1).toNat = l.take i.toNat ++ [rd_T52 l i] := by
  obtain ⟨h, e⟩ := rd52_lt h0 h1
  rw [e, show (i + 1).toNat = i.toNat + 1 by omega, List.take_succ_eq_append_getElem h]
theorem rd52_set_eq {l : List S52} {i : Int} {x : S52} (h0 : 0 ≤ i) (h1 : i < l.length) : rd_T52 (l.set i.toNat x) i = x := by
  simp [rd_T52, List.getD_eq_getElem?_getD, List.getElem?_set, show i.toNat < l.length by omega]
theorem rd52_set_ne {l : List S52} {i j : Int} {x : S52} (h0 : 0 ≤ i) (hj : 0 ≤ j) (h : i ≠ j) : rd_T52 (l.set i.toNat x) j = rd_T52 l j := by
  simp [rd_T52, List.getD_eq_getElem?_getD, List.getElem?_set, show ¬ i.toNat = j.toNat by omega]
theorem rd52_append_left {l m : List S52} {i : Int} (h0 : 0 ≤ i) (h1 : i < l.length) : rd_T52 (l ++ m) i = rd_T52 l i := by
  simp [rd_T52, List.getD_eq_getElem?_getD, List.getElem?_append_left (show i.toNat < l.length by omega)]
theorem rd52_last {l : List S52} {x : S52} : rd_T52 (l ++ [x]) (l.length : Int) = x := by
  simp [rd_T52, List.getD_eq_getElem?_getD]
theorem ext52 {l m : List S52} (h : l.length = m.length) (hr : ∀ i : Int, 0 ≤ i → i < l.length → rd_T52 l i = rd_T52 m i) : l = m := by
  apply List.ext_getElem h
  intro i h1 h2
  have := hr i (by omega) (by omega)
  simpa [rd_T52, List.getD_eq_getElem?_getD, List.getElem?_eq_getElem h1, List.getElem?_eq_getElem h2] using this
/-! ### what is answered from some round on -/
def Ev {α : Type} (f : Nat → Option α) (v : α) : Prop := ∃ M, ∀ k, M < k → f k = some v
theorem Ev.of {α : Type} {f : Nat → Option α} {v : α} (h : ∀ k, f k = some v) : Ev f v := ⟨0, fun k _ => h k⟩
theorem Ev.succ {α : Type} {f : Nat → Option α} {v : α} (h : Ev (fun k => f (k + 1)) v) : Ev f v := by
  obtain ⟨M, h⟩ := h
  refine ⟨M + 1, fun k hk => ?_⟩
  obtain ⟨k, rfl⟩ := pos_round (show 0 < k by omega)
  exact h k (by omega)
theorem Ev.bind {α β : Type} {f : Nat → Option α} {g : Nat → α → Option β} {v : α} {w : β} (h1 : Ev f v) (h2 : Ev (fun k => g k v) w) : Ev (fun k => (f k).bind (g k)) w := by
  obtain ⟨M, h1⟩ := h1
  obtain ⟨N, h2⟩ := h2
  refine ⟨M + N, fun k hk => ?_⟩
  show (f k).bind (g k) = some w
  rw [h1 k (by omega)]
  exact h2 k (by omega)
theorem Ev.to {α : Type} {f g : Nat → Option α} {v : α} (h : Ev g v) (e : ∀ k, f k = g k) : Ev f v := by
  obtain ⟨M, h⟩ := h
  exact ⟨M, fun k hk => by rw [e k]; exact h k hk⟩
theorem Ev.get {α : Type} {f : Nat → Option α} {v : α} (h : Ev f v) : ∃ k, f k = some v := by
  obtain ⟨M, h⟩ := h
  exact ⟨M + 1, h _ (by omega)⟩
/-! ### the windows: apart, and hold at each minute -/
def ge (l : List Nat) (a : Nat) (i : Int) : Bool := FloatKind.f64.format.order (rdOf (0 : Nat) l i) a == some .gt || FloatKind.f64.format.order (rdOf (0 : Nat) l i) a == some .eq
theorem own_win (l : List S52) (h : l.length ≤ 1000000) : impl_Window.f l = some l := by
  unfold impl_Window.f
  rw [if_pos (by omega), if_pos (by omega), Option.bind_some, if_pos (by simp; omega)]; rfl
structure WW (l : List Nat) (a : Nat) (out : List S52) (i : Int) : Prop where
  len : (out.length : Int) ≤ i
  rng : ∀ j : Int, 0 ≤ j → j < out.length → 0 ≤ (rd_T52 out j).f0 ∧ (rd_T52 out j).f0 ≤ (rd_T52 out j).f1 ∧ (rd_T52 out j).f1 < i
  gap : ∀ j : Int, 0 < j → j < out.length → (rd_T52 out (j - 1)).f1 + 2 ≤ (rd_T52 out j).f0
  cov : ∀ m : Int, 0 ≤ m → m < i → (ge l a m = true ↔ ∃ j : Int, 0 ≤ j ∧ j < out.length ∧ (rd_T52 out j).f0 ≤ m ∧ m ≤ (rd_T52 out j).f1)
/-- All windows end before the last one's end. -/
theorem ww_last {l : List Nat} {a : Nat} {out : List S52} {i : Int} (h : WW l a out i) (d : Nat) : ∀ j : Int, 0 ≤ j → j < out.length → ((out.length : Int) - 1 - j) = d → (rd_T52 out j).f1 ≤ (rd_T52 out ((out.length : Int) - 1)).f1 := by
  induction d with
  | zero =>
    intro j h0 h1 hd
    rw [show j = (out.length : Int) - 1 by omega]; omega
  | succ d ih =>
    intro j h0 h1 hd
    have g := h.gap (j + 1) (by omega) (by omega)
    rw [show j + 1 - 1 = j by omega] at g
    have := (h.rng (j + 1) (by omega) (by omega)).2.1
    have := ih (j + 1) (by omega) (by omega) (by omega)
    omega
theorem ww_skip {l : List Nat} {a : Nat} {out : List S52} {i : Int} (h0 : 0 ≤ i) (h : WW l a out i) (g : ge l a i = false) : WW l a out (i + 1) := by
  refine ⟨by have := h.len; omega, fun j j0 j1 => ?_, h.gap, fun m m0 m1 => ?_⟩
  · obtain ⟨a1, a2, a3⟩ := h.rng j j0 j1
    exact ⟨a1, a2, by omega⟩
  · by_cases c : m < i
    · exact h.cov m m0 c
    · obtain rfl : m = i := by omega
      rw [g]
      constructor
      · intro hh; cases hh
      · rintro ⟨j, j0, j1, j2, j3⟩
        have := (h.rng j j0 j1).2.2
        omega
theorem ww_new {l : List Nat} {a : Nat} {out : List S52} {i : Int} (h0 : 0 ≤ i) (h : WW l a out i) (g : ge l a i = true) (hl : 0 < out.length → (rd_T52 out ((out.length : Int) - 1)).f1 ≠ i - 1) : WW l a (out ++ [⟨i, i⟩]) (i + 1) := by
  have hlen : ((out ++ [(⟨i, i⟩ : S52)]).length : Int) = out.length + 1 := by simp
  have hold : ∀ j : Int, 0 ≤ j → j < out.length → rd_T52 (out ++ [(⟨i, i⟩ : S52)]) j = rd_T52 out j := fun j j0 j1 => rd52_append_left j0 j1
  have hnew : rd_T52 (out ++ [(⟨i, i⟩ : S52)]) (out.length : Int) = ⟨i, i⟩ := rd52_last
  refine ⟨by have := h.len; omega, fun j j0 j1 => ?_, fun j j0 j1 => ?_, fun m m0 m1 => ?_⟩
  · by_cases c : j < out.length
    · rw [hold j j0 c]
      obtain ⟨a1, a2, a3⟩ := h.rng j j0 c
      exact ⟨a1, a2, by omega⟩
    · rw [show j = (out.length : Int) by omega, hnew]
      exact ⟨h0, by show i ≤ i; omega, by show i < i + 1; omega⟩
  · by_cases c : j < out.length
    · rw [hold j (by omega) c, hold (j - 1) (by omega) (by omega)]
      exact h.gap j j0 c
    · rw [show j = (out.length : Int) by omega, hnew, hold _ (by omega) (by omega)]
      have h1 := hl (by omega)
      have h2 := (h.rng ((out.length : Int) - 1) (by omega) (by omega)).2.2
      show _ + 2 ≤ i
      omega
  · by_cases c : m < i
    · rw [h.cov m m0 c]
      constructor
      · rintro ⟨j, j0, j1, j2, j3⟩
        exact ⟨j, j0, by omega, by rw [hold j j0 j1]; exact j2, by rw [hold j j0 j1]; exact j3⟩
      · rintro ⟨j, j0, j1, j2, j3⟩
        by_cases c2 : j < out.length
        · rw [hold j j0 c2] at j2 j3
          exact ⟨j, j0, c2, j2, j3⟩
        · rw [show j = (out.length : Int) by omega, hnew] at j2
          exact absurd (show i ≤ m from j2) (by omega)
    · obtain rfl : m = i := by omega
      exact ⟨fun _ => ⟨out.length, by omega, by omega, by rw [hnew]; exact Int.le_refl _, by rw [hnew]; exact Int.le_refl _⟩, fun _ => g⟩
theorem ww_on {l : List Nat} {a : Nat} {out : List S52} {i : Int} (h0 : 0 ≤ i) (h : WW l a out i) (g : ge l a i = true) (hp : 0 < out.length) (hl : (rd_T52 out ((out.length : Int) - 1)).f1 = i - 1) : WW l a (out.set ((out.length : Int) - 1).toNat ⟨(rd_T52 out ((out.length : Int) - 1)).f0, i⟩) (i + 1) := by
  have hlen : ((out.set ((out.length : Int) - 1).toNat (⟨(rd_T52 out ((out.length : Int) - 1)).f0, i⟩ : S52)).length : Int) = out.length := by simp
  have hold : ∀ j : Int, 0 ≤ j → j < (out.length : Int) - 1 → rd_T52 (out.set ((out.length : Int) - 1).toNat (⟨(rd_T52 out ((out.length : Int) - 1)).f0, i⟩ : S52)) j = rd_T52 out j := fun j j0 j1 => rd52_set_ne (by omega) j0 (by omega)
  have hnew : rd_T52 (out.set ((out.length : Int) - 1).toNat (⟨(rd_T52 out ((out.length : Int) - 1)).f0, i⟩ : S52)) ((out.length : Int) - 1) = ⟨(rd_T52 out ((out.length : Int) - 1)).f0, i⟩ := rd52_set_eq (by omega) (by omega)
  have hr := h.rng ((out.length : Int) - 1) (by omega) (by omega)
  refine ⟨by have := h.len; omega, fun j j0 j1 => ?_, fun j j0 j1 => ?_, fun m m0 m1 => ?_⟩
  · rw [hlen] at j1
    by_cases c : j < (out.length : Int) - 1
    · rw [hold j j0 c]
      obtain ⟨a1, a2, a3⟩ := h.rng j j0 j1
      exact ⟨a1, a2, by omega⟩
    · rw [show j = (out.length : Int) - 1 by omega, hnew]
      exact ⟨hr.1, by show (rd_T52 out ((out.length : Int) - 1)).f0 ≤ i; omega, by show i < i + 1; omega⟩
  · rw [hlen] at j1
    by_cases c : j < (out.length : Int) - 1
    · rw [hold j (by omega) c, hold (j - 1) (by omega) (by omega)]
      exact h.gap j j0 j1
    · have hg := h.gap j j0 j1
      rw [hold (j - 1) (by omega) (by omega), show j = (out.length : Int) - 1 by omega, hnew]
      rw [show j = (out.length : Int) - 1 by omega] at hg
      exact hg
  · by_cases c : m < i
    · rw [h.cov m m0 c]
      constructor
      · rintro ⟨j, j0, j1, j2, j3⟩
        refine ⟨j, j0, by omega, ?_⟩
        by_cases c2 : j < (out.length : Int) - 1
        · rw [hold j j0 c2]; exact ⟨j2, j3⟩
        · rw [show j = (out.length : Int) - 1 by omega] at j2 ⊢
          rw [hnew]; exact ⟨j2, by show m ≤ i; omega⟩
      · rintro ⟨j, j0, j1, j2, j3⟩
        rw [hlen] at j1
        refine ⟨j, j0, j1, ?_⟩
        by_cases c2 : j < (out.length : Int) - 1
        · rw [hold j j0 c2] at j2 j3; exact ⟨j2, j3⟩
        · rw [show j = (out.length : Int) - 1 by omega] at j2 j3 ⊢
          rw [hnew] at j2
          exact ⟨j2, by omega⟩
    · obtain rfl : m = i := by omega
      refine ⟨fun _ => ⟨(out.length : Int) - 1, by omega, by omega, ?_⟩, fun _ => g⟩
      rw [hnew]
      exact ⟨by have h9 := hr.2.1; show (rd_T52 out ((out.length : Int) - 1)).f0 ≤ _; omega, Int.le_refl _⟩
theorem win_loop (l : List Nat) (a : Nat) (hn : l.length ≤ 1500) (d : Nat) : ∀ (out : List S52) (i : Int), 0 ≤ i → i + d = l.length → WW l a out i →
    ∃ r, WW l a r l.length ∧ Ev (fun k => impl_WindowsOf.l0 k a out l (l.length : Int) i) r := by
  induction d with
  | zero =>
    intro out i h0 hi ht
    obtain rfl : i = (l.length : Int) := by omega
    refine ⟨out, ht, Ev.succ (Ev.of fun k => ?_)⟩
    simp only [impl_WindowsOf.l0]
    rw [if_neg (by omega), own_win out (by have := ht.len; omega), Option.bind_some]
  | succ d ih =>
    intro out i h0 hi ht
    have hol := ht.len
    have hlt : i < (l.length : Int) := by omega
    have hw1 : wrap64 (i + 1) = i + 1 := w64 (by omega) (by omega)
    have hwi : wrap64 (i - 1) = i - 1 := w64 (by omega) (by omega)
    have hwl : wrap64 ((out.length : Int) - 1) = (out.length : Int) - 1 := w64 (by omega) (by omega)
    have himpl : ∀ k, impl_WindowsOf.l0 (k + 1) a out l (l.length : Int) i = if ge l a i = true then (if (out.length : Int) - 1 ≥ 0 then (if 0 ≤ (out.length : Int) - 1 then (if (out.length : Int) - 1 < (out.length : Int) then (if (rd_T52 out ((out.length : Int) - 1)).f1 = i - 1 then impl_WindowsOf.l0 k a (out.set ((out.length : Int) - 1).toNat ⟨(rd_T52 out ((out.length : Int) - 1)).f0, i⟩) l (l.length : Int) (i + 1) else (if out.length < 8796093022208 then impl_WindowsOf.l0 k a (out ++ [⟨i, i⟩]) l (l.length : Int) (i + 1) else none)) else none) else none) else (if out.length < 8796093022208 then impl_WindowsOf.l0 k a (out ++ [⟨i, i⟩]) l (l.length : Int) (i + 1) else none)) else impl_WindowsOf.l0 k a out l (l.length : Int) (i + 1) := by
      intro k
      simp only [impl_WindowsOf.l0]
      rw [if_pos hlt, if_pos h0, if_pos hlt, hwl, hw1, hwi]
      rfl
    have hol2 : out.length < 8796093022208 := by omega
    by_cases g : ge l a i = true
    · by_cases hp : 0 < out.length
      · by_cases hl : (rd_T52 out ((out.length : Int) - 1)).f1 = i - 1
        · obtain ⟨r, r0, hr⟩ := ih _ (i + 1) (by omega) (by omega) (ww_on h0 ht g hp hl)
          refine ⟨r, r0, Ev.succ (hr.to fun k => ?_)⟩
          rw [himpl, if_pos g, if_pos (by omega), if_pos (by omega), if_pos (by omega), if_pos hl]
        · obtain ⟨r, r0, hr⟩ := ih _ (i + 1) (by omega) (by omega) (ww_new h0 ht g (fun _ => hl))
          refine ⟨r, r0, Ev.succ (hr.to fun k => ?_)⟩
          rw [himpl, if_pos g, if_pos (by omega), if_pos (by omega), if_pos (by omega), if_neg hl, if_pos hol2]
      · obtain ⟨r, r0, hr⟩ := ih _ (i + 1) (by omega) (by omega) (ww_new h0 ht g (fun h => absurd h hp))
        refine ⟨r, r0, Ev.succ (hr.to fun k => ?_)⟩
        rw [himpl, if_pos g, if_neg (by omega), if_pos hol2]
    · obtain ⟨r, r0, hr⟩ := ih out (i + 1) (by omega) (by omega) (ww_skip h0 ht (Bool.eq_false_iff.2 g))
      refine ⟨r, r0, Ev.succ (hr.to fun k => ?_)⟩
      rw [himpl, if_neg g]
theorem windows_ok (l : List Nat) (a : Nat) (hn : l.length ≤ 1500) : ∃ r, WW l a r l.length ∧ Ev (fun k => impl_WindowsOf.f k l a) r := by
  obtain ⟨r, h1, h2⟩ := win_loop l a hn l.length [] 0 (by omega) (by omega) ⟨by simp, fun j j0 j1 => by simp at j1; omega, fun j j0 j1 => by simp at j1; omega, fun m m0 m1 => by omega⟩
  refine ⟨r, h1, h2.to fun k => ?_⟩
  unfold impl_WindowsOf.f
  rw [if_neg (by omega)]
/-! ### a stay -/
theorem in_yes (a b c : Int) (h0 : b ≤ a) (h1 : a ≤ c) : impl_in.f a b c = some true := by
  unfold impl_in.f; rw [if_pos h0, decide_eq_true h1]
theorem mx_is (a b : Int) : a ≤ mx a b ∧ b ≤ mx a b ∧ (mx a b = a ∨ mx a b = b) := by
  unfold mx; split <;> omega
theorem stay_ok (l : List Nat) (a : Nat) (hn : l.length ≤ 1500) (r : List S52) (hW : WW l a r l.length) (fr mn : Int) (f0 : 0 ≤ fr) (f1 : fr ≤ 1500) (m0 : 1 ≤ mn) (m1 : mn ≤ 1500) :
    ∃ v : Int × Bool, (v.2 = true → fr ≤ v.1 ∧ ∃ j : Int, 0 ≤ j ∧ j < r.length ∧ (rd_T52 r j).f0 ≤ v.1 ∧ v.1 + mn - 1 ≤ (rd_T52 r j).f1) ∧ Ev (fun k => impl_WindowFor.f k r fr mn) v := by
  have hrl := hW.len
  have find : ∀ (d : Nat) (i : Int), 0 ≤ i → i ≤ r.length → (r.length : Int) - i = d → ∃ v : Int × Bool, (v.2 = true → fr ≤ v.1 ∧ ∃ j : Int, 0 ≤ j ∧ j < r.length ∧ (rd_T52 r j).f0 ≤ v.1 ∧ v.1 + mn - 1 ≤ (rd_T52 r j).f1) ∧ Ev (fun k => impl_WindowFor.l1 k fr mn r (r.length : Int) i) v := by
    intro d
    induction d with
    | zero =>
      intro i h0 h1 hd
      refine ⟨(-1, false), fun h => (by cases h), Ev.succ (Ev.of fun k => ?_)⟩
      simp only [impl_WindowFor.l1]
      rw [if_neg (by omega)]
    | succ d ih =>
      intro i h0 h1 hd
      have hlt : i < (r.length : Int) := by omega
      obtain ⟨r0, r1, r2⟩ := hW.rng i h0 hlt
      obtain ⟨x0, x1, x2⟩ := mx_is fr (rd_T52 r i).f0
      have e : wrap64 ((wrap64 ((mx fr ((rd_T52 r i).f0)) + mn)) - 1) = mx fr ((rd_T52 r i).f0) + mn - 1 := by rw [w64 (x := mx fr ((rd_T52 r i).f0) + mn) (by omega) (by omega), w64 (by omega) (by omega)]
      by_cases c : mx fr ((rd_T52 r i).f0) + mn - 1 ≤ (rd_T52 r i).f1
      · refine ⟨(mx fr ((rd_T52 r i).f0), true), fun _ => ⟨x0, i, h0, hlt, x1, c⟩, Ev.succ (Ev.of fun k => ?_)⟩
        simp only [impl_WindowFor.l1]
        rw [if_pos hlt, if_pos h0, if_pos hlt, e, if_pos c]
      · obtain ⟨v, v1, v2⟩ := ih (i + 1) (by omega) (by omega) (by omega)
        refine ⟨v, v1, Ev.succ (v2.to fun k => ?_)⟩
        simp only [impl_WindowFor.l1]
        rw [if_pos hlt, if_pos h0, if_pos hlt, e, if_neg c, w64 (x := i + 1) (by omega) (by omega)]
  obtain ⟨v, v1, v2⟩ := find r.length 0 (by omega) (by omega) (by omega)
  have right : ∀ (d : Nat) (i : Int), 0 ≤ i → i ≤ r.length → (r.length : Int) - i = d → Ev (fun k => impl_WindowFor.l0 k r fr mn r (r.length : Int) i) v := by
    intro d
    induction d with
    | zero =>
      intro i h0 h1 hd
      refine Ev.succ (v2.to fun k => ?_)
      simp only [impl_WindowFor.l0]
      rw [if_neg (by omega)]
    | succ d ih =>
      intro i h0 h1 hd
      have hlt : i < (r.length : Int) := by omega
      obtain ⟨r0, r1, r2⟩ := hW.rng i h0 hlt
      refine Ev.succ ((ih (i + 1) (by omega) (by omega) (by omega)).to fun k => ?_)
      simp only [impl_WindowFor.l0]
      rw [if_pos hlt, if_pos h0, if_pos hlt, if_neg (by omega), if_neg (by omega), if_neg (by omega), w64 (x := i + 1) (by omega) (by omega)]
      by_cases c : i > 0
      · have g := hW.gap i c hlt
        have q := hW.rng (i - 1) (by omega) (by omega)
        rw [if_pos c, w64 (x := i - 1) (by omega) (by omega), if_pos (by omega), if_pos (by omega), w64 (x := (rd_T52 r (i - 1)).f1 + 2) (by omega) (by omega), if_neg (by omega)]
      · rw [if_neg c]
  refine ⟨v, v1, (Ev.succ (f := fun k => impl_WindowFor.j0 k r fr mn false) ((right r.length 0 (by omega) (by omega) (by omega)).to fun k => ?_)).to fun k => ?_⟩
  · simp only [impl_WindowFor.j0]
    rw [if_neg (by decide)]
  · unfold impl_WindowFor.f
    rw [in_yes _ _ _ f0 f1, Option.bind_some, if_pos rfl, in_yes _ _ _ m0 m1, Option.bind_some]; rfl
theorem last_ok : Ev (fun k => (impl_WindowFor.f k [⟨2, 9⟩] 4 3).bind fun bt => if bt.2 = true then some (bt.1 == 4) else some false) true := by
  refine ⟨10, fun k hk => ?_⟩
  obtain ⟨q, rfl⟩ : ∃ q, k = q + 4 := ⟨k - 4, by omega⟩
  have e : impl_WindowFor.f (q + 4) [⟨2, 9⟩] 4 3 = some (4, true) := by kernel_rfl
  show (impl_WindowFor.f (q + 4) [⟨2, 9⟩] 4 3).bind _ = _
  rw [e]; rfl
/-! ### the law behind the drawing -/
theorem b_set {B : List Bool} {i : Int} (h0 : 0 ≤ i) (h1 : i < B.length) (m : Int) (hm : 0 ≤ m) : rdOf false (B.set i.toNat true) m = if m = i then true else rdOf false B m := by
  by_cases c : m = i
  · subst c
    rw [if_pos rfl]
    simp [rdOf, List.getD_eq_getElem?_getD, List.getElem?_set, show m.toNat < B.length by omega]
  · rw [if_neg c]
    simp [rdOf, List.getD_eq_getElem?_getD, List.getElem?_set, show ¬ i.toNat = m.toNat by omega]
/-- The minutes of the windows ahead of x. -/
def Mk (r : List S52) (B : List Bool) (x : Int) : Prop := ∀ m : Int, 0 ≤ m → (rdOf false B m = true ↔ ∃ j : Int, 0 ≤ j ∧ j < x ∧ (rd_T52 r j).f0 ≤ m ∧ m ≤ (rd_T52 r j).f1)
theorem mark_loop (c : List Int) (D : List Nat) (n : Nat) (r : List S52) (hn : D.length ≤ 1500) (hW : WW D n r D.length) (x : Int) (hx0 : 0 ≤ x) (hx1 : x < r.length) (res : Bool)
    (hres : ∀ B : List Bool, B.length = D.length → Mk r B (x + 1) → Ev (fun k => laws_FnWindows.l0 k c D n r B (x + 1)) res) (d : Nat) :
    ∀ (i : Int) (B : List Bool), (rd_T52 r x).f0 ≤ i → i ≤ (rd_T52 r x).f1 + 1 → (rd_T52 r x).f1 + 1 - i = d → B.length = D.length → (∀ m : Int, 0 ≤ m → (rdOf false B m = true ↔ (∃ j : Int, 0 ≤ j ∧ j < x ∧ (rd_T52 r j).f0 ≤ m ∧ m ≤ (rd_T52 r j).f1) ∨ ((rd_T52 r x).f0 ≤ m ∧ m < i))) →
    Ev (fun k => laws_FnWindows.l1 k c D n r B x i) res := by
  obtain ⟨r0, r1, r2⟩ := hW.rng x hx0 hx1
  have hrl := hW.len
  induction d with
  | zero =>
    intro i B h0 h1 hd hB hm
    refine Ev.succ ((hres B hB (fun m m0 => ?_)).to fun k => ?_)
    · rw [hm m m0]
      constructor
      · rintro (⟨j, j0, j1, j2, j3⟩ | ⟨q1, q2⟩)
        · exact ⟨j, j0, by omega, j2, j3⟩
        · exact ⟨x, hx0, by omega, q1, by omega⟩
      · rintro ⟨j, j0, j1, j2, j3⟩
        by_cases cj : j = x
        · rw [cj] at j2 j3; exact .inr ⟨j2, by omega⟩
        · exact .inl ⟨j, j0, by omega, j2, j3⟩
    · simp only [laws_FnWindows.l1]
      rw [if_pos hx0, if_pos hx1, if_neg (by omega), w64 (x := x + 1) (by omega) (by omega)]
  | succ d ih =>
    intro i B h0 h1 hd hB hm
    refine Ev.succ ((ih (i + 1) (B.set i.toNat true) (by omega) (by omega) (by omega) (by rw [List.length_set]; exact hB) (fun m m0 => ?_)).to fun k => ?_)
    · rw [b_set (by omega) (by omega) m m0]
      by_cases cm : m = i
      · rw [if_pos cm]
        exact ⟨fun _ => .inr ⟨by omega, by omega⟩, fun _ => rfl⟩
      · rw [if_neg cm, hm m m0]
        constructor
        · rintro (h | ⟨q1, q2⟩)
          · exact .inl h
          · exact .inr ⟨q1, by omega⟩
        · rintro (h | ⟨q1, q2⟩)
          · exact .inl h
          · exact .inr ⟨q1, by omega⟩
    · simp only [laws_FnWindows.l1]
      rw [if_pos hx0, if_pos hx1, if_pos (by omega), if_pos (by omega), if_pos (by omega), w64 (x := i + 1) (by omega) (by omega)]
theorem win_marks (c : List Int) (D : List Nat) (n : Nat) (r : List S52) (hn : D.length ≤ 1500) (hW : WW D n r D.length) (res : Bool)
    (hres : ∀ B : List Bool, B.length = D.length → Mk r B r.length → Ev (fun k => laws_FnWindows.l2 k c D n r B 0) res) (d : Nat) :
    ∀ (x : Int) (B : List Bool), 0 ≤ x → x ≤ r.length → (r.length : Int) - x = d → B.length = D.length → Mk r B x → Ev (fun k => laws_FnWindows.l0 k c D n r B x) res := by
  have hrl := hW.len
  induction d with
  | zero =>
    intro x B h0 h1 hd hB hM
    obtain rfl : x = (r.length : Int) := by omega
    refine Ev.succ ((hres B hB hM).to fun k => ?_)
    simp only [laws_FnWindows.l0]
    rw [if_neg (by omega)]
  | succ d ih =>
    intro x B h0 h1 hd hB hM
    have hx1 : x < (r.length : Int) := by omega
    obtain ⟨r0, r1, r2⟩ := hW.rng x h0 hx1
    have hl := mark_loop c D n r hn hW x h0 hx1 res (fun B' hB' hM' => ih (x + 1) B' (by omega) (by omega) (by omega) hB' hM') ((rd_T52 r x).f1 + 1 - (rd_T52 r x).f0).toNat (rd_T52 r x).f0 B (by omega) (by omega) (by omega) hB (fun m m0 => by
      rw [hM m m0]
      exact ⟨.inl, fun h => h.elim id fun h => by omega⟩)
    have hj : Ev (fun k => laws_FnWindows.j1 k c D n r B x false) res := by
      refine Ev.succ (hl.to fun k => ?_)
      simp only [laws_FnWindows.j1]
      rw [if_neg (by decide), if_pos h0, if_pos hx1]
    refine Ev.succ (hj.to fun k => ?_)
    simp only [laws_FnWindows.l0]
    rw [if_pos hx1, if_pos h0, if_neg (by omega), if_neg (by omega), if_neg (by omega)]
    by_cases cx : x > 0
    · have g := hW.gap x cx hx1
      have q := hW.rng (x - 1) (by omega) (by omega)
      rw [if_pos cx, w64 (x := x - 1) (by omega) (by omega), if_pos (by omega), if_pos (by omega), w64 (x := (rd_T52 r (x - 1)).f1 + 2) (by omega) (by omega), decide_eq_false (by omega)]
    · rw [if_neg cx]
theorem at_ok (c : List Int) (hc : c.length ≤ 1048576) (hb : ∀ x ∈ c, 0 ≤ x ∧ x ≤ 255) (i : Int) (h0 : 0 ≤ i) (hi : i ≤ 100) : ∃ v : Int, 0 ≤ v ∧ v ≤ 255 ∧ laws_at.f c i = some v := by
  unfold laws_at.f
  by_cases h : i < (c.length : Int)
  · rw [if_pos h, if_pos h0]
    have := hb _ (rd_mem h0 h)
    rw [w64 (by omega) (by omega)]
    exact ⟨_, this.1, this.2, rfl⟩
  · rw [if_neg h, w64 (x := i * 7) (by omega) (by omega), w64 (by omega) (by omega), tm (by omega)]
    exact ⟨_, by omega, by omega, rfl⟩
theorem tail_ok (c : List Int) (hc : c.length ≤ 1048576) (hb : ∀ x ∈ c, 0 ≤ x ∧ x ≤ 255) (D : List Nat) (n : Nat) (r : List S52) (B : List Bool) (x : Int) (hB : B.length = D.length) (hD : D.length ≤ 100000)
    (hs : ∀ fr mn : Int, 0 ≤ fr → fr ≤ 1500 → 1 ≤ mn → mn ≤ 1500 → ∃ v : Int × Bool, (v.2 = true → fr ≤ v.1 ∧ 0 ≤ v.1 ∧ v.1 + mn ≤ D.length ∧ ∀ m : Int, v.1 ≤ m → m < v.1 + mn → rdOf false B m = true) ∧ Ev (fun k => impl_WindowFor.f k r fr mn) v) : Ev (fun k => laws_FnWindows.j4 k c D n r B x false) true := by
  obtain ⟨t1, a0, a1, e1⟩ := at_ok c hc hb 1 (by omega) (by omega)
  obtain ⟨t2, b0, b1, e2⟩ := at_ok c hc hb 2 (by omega) (by omega)
  have q1 : Int.tmod t1 40 = t1 % 40 := tm a0
  have q2 : wrap64 (1 + Int.tmod t2 6) = 1 + t2 % 6 := by rw [tm b0, w64 (by omega) (by omega)]
  obtain ⟨v, v1, v2⟩ := hs (t1 % 40) (1 + t2 % 6) (by omega) (by omega) (by omega) (by omega)
  refine Ev.succ ?_
  simp only [laws_FnWindows.j4, Bool.false_eq_true, if_false, e1, e2, Option.bind_some, q1, q2]
  refine Ev.bind v2 ?_
  by_cases cv : v.2 = true
  · obtain ⟨g1, g2, g3, g4⟩ := v1 cv
    have loop : ∀ (d : Nat) (i : Int), v.1 ≤ i → i ≤ v.1 + (1 + t2 % 6) → v.1 + (1 + t2 % 6) - i = d → Ev (fun k => laws_FnWindows.l3 k B (1 + t2 % 6) v.1 i) true := by
      intro d
      have hw : wrap64 (v.1 + (1 + t2 % 6)) = v.1 + (1 + t2 % 6) := w64 (by omega) (by omega)
      induction d with
      | zero =>
        intro i h0 h1 hd
        refine Ev.succ (last_ok.to fun k => ?_)
        simp only [laws_FnWindows.l3]
        rw [hw, if_neg (by omega)]
      | succ d ih =>
        intro i h0 h1 hd
        refine Ev.succ ((ih (i + 1) (by omega) (by omega) (by omega)).to fun k => ?_)
        simp only [laws_FnWindows.l3]
        rw [hw, if_pos (by omega), if_pos (by omega), if_pos (by omega), if_pos (g4 i h0 (by omega)), w64 (x := i + 1) (by omega) (by omega)]
    simp only [if_pos cv, if_neg (show ¬ v.1 < t1 % 40 by omega)]
    refine Ev.succ ((loop (1 + t2 % 6).toNat v.1 (by omega) (by omega) (by omega)).to fun k => ?_)
    have hw : wrap64 (v.1 + (1 + t2 % 6)) = v.1 + (1 + t2 % 6) := w64 (by omega) (by omega)
    rw [hw, decide_eq_false (by omega)]
    simp only [laws_FnWindows.j5]
    rw [if_neg (by decide)]
  · simp only [if_neg cv]
    exact last_ok
/-- Behind the drawing: for all depths. -/
theorem rest_ok (c : List Int) (hc : c.length ≤ 1048576) (hb : ∀ x ∈ c, 0 ≤ x ∧ x ≤ 255) (D : List Nat) (n : Nat) (hD : D.length ≤ 1501) : Ev (fun k => (impl_WindowsOf.f k D n).bind fun t172 => laws_FnWindows.l0 k c D n t172 (List.replicate D.length false) 0) true := by
  by_cases hn : D.length ≤ 1500
  · obtain ⟨r, hW, hE⟩ := windows_ok D n hn
    refine Ev.bind hE ?_
    refine win_marks c D n r hn hW true (fun B hB hM => ?_) r.length 0 (List.replicate D.length false) (by omega) (by omega) (by omega) (by simp) (fun m m0 => ?_)
    · have cov : ∀ m : Int, 0 ≤ m → m < D.length → rdOf false B m = ge D n m := fun m m0 m1 => by
        rw [Bool.eq_iff_iff, hM m m0, hW.cov m m0 m1]
      have loop : ∀ (d : Nat) (x : Int), 0 ≤ x → x ≤ D.length → (D.length : Int) - x = d → Ev (fun k => laws_FnWindows.l2 k c D n r B x) true := by
        intro d
        induction d with
        | zero =>
          intro x h0 h1 hd
          refine Ev.succ ((tail_ok c hc hb D n r B x hB (by omega) (fun fr mn f0 f1 m0 m1 => ?_)).to fun k => ?_)
          · obtain ⟨v, v1, v2⟩ := stay_ok D n hn r hW fr mn f0 f1 m0 m1
            refine ⟨v, fun h => ?_, v2⟩
            obtain ⟨g1, j, j0, j1, j2, j3⟩ := v1 h
            have q := hW.rng j j0 j1
            exact ⟨g1, by omega, by omega, fun m q0 q1 => (hM m (by omega)).2 ⟨j, j0, j1, by omega, by omega⟩⟩
          · simp only [laws_FnWindows.l2]
            rw [if_neg (by omega)]
        | succ d ih =>
          intro x h0 h1 hd
          have hx1 : x < (D.length : Int) := by omega
          refine Ev.succ ((Ev.succ (f := fun k => laws_FnWindows.j4 k c D n r B x true) ((ih (x + 1) (by omega) (by omega) (by omega)).to fun k => ?_)).to fun k => ?_)
          · have hcov := cov x h0 hx1
            unfold ge at hcov
            simp only [laws_FnWindows.j4]
            rw [if_pos trivial, if_pos h0, if_pos (by omega), if_pos hx1, hcov, bne_self_eq_false, if_neg (by decide), w64 (x := x + 1) (by omega) (by omega)]
          · simp only [laws_FnWindows.l2]
            rw [if_pos hx1, decide_eq_true (by omega)]
      exact loop D.length 0 (by omega) (by omega) (by omega)
    · have : rdOf false (List.replicate D.length false) m = false := by
        simp only [rdOf, List.getD_eq_getElem?_getD, List.getElem?_replicate]
        split <;> rfl
      rw [this]
      constructor
      · intro h; cases h
      · rintro ⟨j, j0, j1, _⟩; omega
  · have hE : Ev (fun k => impl_WindowsOf.f k D n) ([] : List S52) := Ev.of fun k => by
      unfold impl_WindowsOf.f
      rw [if_pos (by omega)]
    refine Ev.bind hE (Ev.succ ?_)
    have h1 : Ev (fun k => laws_FnWindows.l2 k c D n [] (List.replicate D.length false) 0) true := by
      refine Ev.succ ((tail_ok c hc hb D n [] (List.replicate D.length false) 0 (by simp) (by omega) (fun fr mn f0 f1 m0 m1 => ?_)).to fun k => ?_)
      · refine ⟨(-1, false), fun h => (by cases h), (Ev.succ (f := fun k => impl_WindowFor.j0 k [] fr mn false) (Ev.succ (f := fun k => impl_WindowFor.l0 k [] fr mn [] 0 0) (Ev.succ (f := fun k => impl_WindowFor.l1 k fr mn [] 0 0) (Ev.of fun k => rfl) |>.to fun k => rfl) |>.to fun k => rfl)).to fun k => ?_⟩
        unfold impl_WindowFor.f
        rw [in_yes _ _ _ f0 f1, Option.bind_some, if_pos rfl, in_yes _ _ _ m0 m1, Option.bind_some]; rfl
      · simp only [laws_FnWindows.l2]
        rw [if_pos (by omega), decide_eq_false (by omega)]
    refine h1.to fun k => ?_
    simp only [laws_FnWindows.l0]
    rw [if_neg (by simp)]
/-- The law's plain side. -/
theorem FnWindows : laws_FnWindows.Pure := by
  intro l0 hm hs hw
  refine ⟨_, rfl, fun hb => ?_⟩
  have hl : l0.length ≤ 1048576 := by
    have := of_decide_eq_false hb
    omega
  refine ⟨hl, fun D n hD => ?_⟩
  obtain ⟨M, h⟩ := rest_ok l0 hl (bytes_of hw) D n hD
  refine ⟨M + 1, ?_⟩
  have h1 := h (M + 1) (by omega)
  have e : (fun t172 => (if 0 ≤ (D.length : Int) then (if ((D.length : Int) : Int).toNat ≤ 281474976710656 then (laws_FnWindows.l0 (M + 1) l0 D n t172 (List.replicate ((D.length : Int) : Int).toNat false) 0) else (none)) else (none))) = fun t172 => laws_FnWindows.l0 (M + 1) l0 D n t172 (List.replicate D.length false) 0 := by
    funext t
    rw [if_pos (by omega), if_pos (by omega), Int.toNat_natCast]
  unfold laws_FnWindows.rest
  rw [e]
  exact h1

end Go.Proofs.Ytdjbglhhjffnkaa.Pure
