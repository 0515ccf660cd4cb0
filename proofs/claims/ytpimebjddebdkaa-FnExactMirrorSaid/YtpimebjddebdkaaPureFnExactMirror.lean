/- The program's Mirror returns what the reference's returns, for all arguments; it changes none of them and shares no memory with them. -/
import Derived.Test.YtpimebjddebdkaaPFnExactMirrorx6
import Derived.Test.YtpimebjddebdkaaKit
set_option linter.unusedVariables false
set_option linter.unusedSimpArgs false
namespace Go.Proofs.Ytpimebjddebdkaa.Pure
open Go.RowKit Go.Proofs.Ytpimebjddebdkaa.PFnExactMirror Go.Proofs.YtpimebjddebdkaaW.PrintWords Go.Proofs.YtpimebjddebdkaaW.PrintLast Go.Proofs.YtpimebjddebdkaaW.PrintMore Go.Proofs.YtpimebjddebdkaaW.Kit

/-! ### what is answered from some round on -/
def Ev {α : Type} (f : Nat → Option α) (v : α) : Prop := ∃ M, ∀ k, M < k → f k = some v
theorem Ev.of {α : Type} {f : Nat → Option α} {v : α} (h : ∀ k, f k = some v) : Ev f v := ⟨0, fun k _ => h k⟩
theorem Ev.succ {α : Type} {f : Nat → Option α} {v : α} (h : Ev (fun k => f (k + 1)) v) : Ev f v := by
  obtain ⟨M, h⟩ := h
  refine ⟨M + 1, fun k hk => ?_⟩
  obtain ⟨k, rfl⟩ := pos_round (show 0 < k by omega)
  exact h k (by omega)
theorem Ev.bind {α β : Type} {f : Nat → Option α} {g : Nat → α → Option β} {v : α} {w : β} (h1 : Ev f v) (h2 : Ev (fun k => g k v) w) : Ev (fun k => (f k).bind (g k)) w := by
  obtain ⟨M, h1⟩ := h1
  obtain ⟨N, h2⟩ := h2
  refine ⟨M + N, fun k hk => ?_⟩
  show (f k).bind (g k) = some w
  rw [h1 k (by omega)]
  exact h2 k (by omega)
theorem Ev.to {α : Type} {f g : Nat → Option α} {v : α} (h : Ev g v) (e : ∀ k, f k = g k) : Ev f v := by
  obtain ⟨M, h⟩ := h
  exact ⟨M, fun k hk => by rw [e k]; exact h k hk⟩
theorem Ev.get {α : Type} {f : Nat → Option α} {v : α} (h : Ev f v) : ∃ k, f k = some v := by
  obtain ⟨M, h⟩ := h
  exact ⟨M + 1, h _ (by omega)⟩
theorem getD_at {α : Type} {z : α} {l : List α} {i : Nat} (h : i < l.length) : l.getD i z = l[i] := by
  simp [List.getD_eq_getElem?_getD, List.getElem?_eq_getElem h]
/-- All of a list are right, told from its end. -/
theorem all_down {α : Type} (l : List α) (p : α → Bool) (L : Nat → Int → Option Bool) (b0 : Bool)
    (h : ∀ (i : Nat) (hi : i < l.length) (b : Bool), (p l[i] = true → Ev (fun k => L k ((i + 1 : Nat) : Int)) b) → Ev (fun k => L k (i : Int)) (p l[i] && b)) (d : Nat) :
    ∀ i : Nat, i ≤ l.length → l.length - i = d → ((l.drop i).all p = true → Ev (fun k => L k (l.length : Int)) b0) → Ev (fun k => L k (i : Int)) ((l.drop i).all p && b0) := by
  induction d with
  | zero =>
    intro i h1 hd hE
    obtain rfl : i = l.length := by omega
    rw [List.drop_eq_nil_of_le (Nat.le_refl _)] at hE ⊢
    exact hE rfl
  | succ d ih =>
    intro i h1 hd hE
    have hi : i < l.length := by omega
    rw [List.drop_eq_getElem_cons hi, List.all_cons, Bool.and_assoc]
    refine h i hi _ fun hp => ih (i + 1) (by omega) (by omega) fun ha => hE ?_
    rw [List.drop_eq_getElem_cons hi, List.all_cons, hp, ha]; rfl
theorem all_down0 {α : Type} (l : List α) (p : α → Bool) (L : Nat → Int → Option Bool) (b0 : Bool)
    (h : ∀ (i : Nat) (hi : i < l.length) (b : Bool), (p l[i] = true → Ev (fun k => L k ((i + 1 : Nat) : Int)) b) → Ev (fun k => L k (i : Int)) (p l[i] && b))
    (hE : l.all p = true → Ev (fun k => L k (l.length : Int)) b0) : Ev (fun k => L k 0) (l.all p && b0) := by
  have := all_down l p L b0 h l.length 0 (by omega) (by omega) (by simpa using hE)
  simpa using this
/-- A list is found whole, element by element. -/
theorem copy_up {α β : Type} (l : List α) (g : α → β) (L : Nat → List β → Int → Option (List β))
    (h : ∀ (i : Nat) (hi : i < l.length) (o : List β) (r : List β), o.length = l.length → Ev (fun k => L k (o.set i (g l[i])) ((i + 1 : Nat) : Int)) r → Ev (fun k => L k o (i : Int)) r)
    (hE : ∀ o, Ev (fun k => L k o (l.length : Int)) o) (d : Nat) :
    ∀ (i : Nat) (o : List β), i ≤ l.length → l.length - i = d → o.length = l.length → o.take i = (l.map g).take i → Ev (fun k => L k o (i : Int)) (l.map g) := by
  induction d with
  | zero =>
    intro i o h1 hd ho ht
    obtain rfl : i = l.length := by omega
    rw [List.take_of_length_le (by omega), List.take_of_length_le (by simp)] at ht
    rw [← ht]; exact hE o
  | succ d ih =>
    intro i o h1 hd ho ht
    have hi : i < l.length := by omega
    refine h i hi o _ ho (ih (i + 1) _ (by omega) (by omega) (by simpa using ho) ?_)
    rw [List.take_succ_eq_append_getElem (by simp; omega), List.take_succ_eq_append_getElem (by simp; omega), List.take_set_of_le (Nat.le_refl _), ht]
    simp
theorem copy_up0 {α β : Type} (l : List α) (g : α → β) (z : β) (L : Nat → List β → Int → Option (List β))
    (h : ∀ (i : Nat) (hi : i < l.length) (o : List β) (r : List β), o.length = l.length → Ev (fun k => L k (o.set i (g l[i])) ((i + 1 : Nat) : Int)) r → Ev (fun k => L k o (i : Int)) r)
    (hE : ∀ o, Ev (fun k => L k o (l.length : Int)) o) : Ev (fun k => L k (List.replicate l.length z) 0) (l.map g) := by
  have := copy_up l g L h hE l.length 0 (List.replicate l.length z) (by omega) (by omega) (by simp) (by simp)
  simpa using this
/-- Sizes that are taken off one after another. -/
theorem size_up {α : Type} (l : List α) (P : α → Int → Prop) (hP : ∀ x a b, a ≤ b → P x a → P x b) (L : Nat → Int → Int → Option Int)
    (h : ∀ (i : Nat) (hi : i < l.length) (a : Int), 0 ≤ a → a ≤ 1048576 → ∃ t, -1 ≤ t ∧ t ≤ a ∧ (0 ≤ t → P l[i] a) ∧ ∀ r, Ev (fun k => if t < 0 then some (-1) else L k t ((i + 1 : Nat) : Int)) r → Ev (fun k => L k a (i : Int)) r)
    (hE : ∀ a, Ev (fun k => L k a (l.length : Int)) a) (d : Nat) :
    ∀ (i : Nat) (a : Int), i ≤ l.length → l.length - i = d → 0 ≤ a → a ≤ 1048576 → ∃ t, -1 ≤ t ∧ t ≤ a ∧ (0 ≤ t → ∀ x ∈ l.drop i, P x a) ∧ Ev (fun k => L k a (i : Int)) t := by
  induction d with
  | zero =>
    intro i a h1 hd ha ha1
    obtain rfl : i = l.length := by omega
    exact ⟨a, by omega, by omega, fun _ x hx => (by rw [List.drop_eq_nil_of_le (Nat.le_refl _)] at hx; cases hx), hE a⟩
  | succ d ih =>
    intro i a h1 hd ha ha1
    have hi : i < l.length := by omega
    obtain ⟨t, t0, t1, t2, t3⟩ := h i hi a ha ha1
    by_cases c : t < 0
    · exact ⟨-1, by omega, by omega, fun h => by omega, t3 _ (by simp only [if_pos c]; exact Ev.of fun _ => rfl)⟩
    · obtain ⟨u, u0, u1, u2, u3⟩ := ih (i + 1) t (by omega) (by omega) (by omega) (by omega)
      refine ⟨u, u0, by omega, fun hu x hx => ?_, t3 _ (by simp only [if_neg c]; exact u3)⟩
      rw [List.drop_eq_getElem_cons hi] at hx
      rcases List.mem_cons.1 hx with rfl | hx
      · exact t2 (by omega)
      · exact hP _ _ _ t1 (u2 hu x hx)
/-- What is written, part by part. -/
def wl {α γ : Type} (w : Nat → α → List γ) : Nat → List α → List γ
  | _, [] => []
  | i, x :: l => w i x ++ wl w (i + 1) l
theorem wl_map {α γ δ : Type} (f : γ → δ) (w : Nat → α → List γ) (l : List α) : ∀ i, (wl w i l).map f = wl (fun i x => (w i x).map f) i l := by
  induction l with
  | nil => intro i; rfl
  | cons x l ih => intro i; simp only [wl, List.map_append, ih]
theorem wl_le {α γ : Type} (w : Nat → α → List γ) (c : Nat) (l : List α) (h : ∀ i, ∀ x ∈ l, (w i x).length ≤ c) : ∀ i, (wl w i l).length ≤ c * l.length := by
  induction l with
  | nil => intro i; simp [wl]
  | cons x l ih =>
    intro i
    have h1 := h i x (by simp)
    have h2 := ih (fun i y hy => h i y (by simp [hy])) (i + 1)
    simp only [wl, List.length_append, List.length_cons, Nat.mul_add, Nat.mul_one]
    omega
theorem cont {α γ β : Type} (l : List α) (w : Nat → α → List γ) (L : Nat → List γ → Int → Option β)
    (h : ∀ (i : Nat) (hi : i < l.length) (a : List γ) (r : β), (a ++ w i l[i]).length ≤ 1000000000 → Ev (fun k => L k (a ++ w i l[i]) ((i + 1 : Nat) : Int)) r → Ev (fun k => L k a (i : Int)) r) (d : Nat) :
    ∀ (i : Nat) (a : List γ) (r : β), i ≤ l.length → l.length - i = d → (a ++ wl w i (l.drop i)).length ≤ 1000000000 → Ev (fun k => L k (a ++ wl w i (l.drop i)) (l.length : Int)) r → Ev (fun k => L k a (i : Int)) r := by
  induction d with
  | zero =>
    intro i a r h1 hd hn hr
    obtain rfl : i = l.length := by omega
    rw [List.drop_eq_nil_of_le (Nat.le_refl _)] at hr
    simpa [wl] using hr
  | succ d ih =>
    intro i a r h1 hd hn hr
    have hi : i < l.length := by omega
    rw [List.drop_eq_getElem_cons hi] at hr hn
    simp only [wl, ← List.append_assoc] at hr hn
    exact h i hi a r (by rw [List.length_append] at hn; omega) (ih (i + 1) _ r (by omega) (by omega) hn hr)
theorem cont0 {α γ β : Type} (l : List α) (w : Nat → α → List γ) (L : Nat → List γ → Int → Option β) (a : List γ) (r : β)
    (h : ∀ (i : Nat) (hi : i < l.length) (a : List γ) (r : β), (a ++ w i l[i]).length ≤ 1000000000 → Ev (fun k => L k (a ++ w i l[i]) ((i + 1 : Nat) : Int)) r → Ev (fun k => L k a (i : Int)) r)
    (hn : (a ++ wl w 0 l).length ≤ 1000000000) (hr : Ev (fun k => L k (a ++ wl w 0 l) (l.length : Int)) r) : Ev (fun k => L k a 0) r := by
  have := cont l w L h l.length 0 a r (by omega) (by omega) (by simpa using hn) (by simpa using hr)
  simpa using this
/-! ### laws.eqIntS, markIntS, heldIntS -/
theorem eqI_loop (l : List Int) (hn : l.length ≤ 1000000000) (d : Nat) : ∀ (k : Nat) (i : Int), 0 ≤ i → i ≤ l.length → (l.length : Int) - i = d → d < k → laws_eqIntS.l0 k l l i = some true := by
  induction d with
  | zero =>
    intro k i h0 h1 hd hk
    obtain ⟨k, rfl⟩ := pos_round (show 0 < k by omega)
    simp only [laws_eqIntS.l0]
    rw [if_neg (by omega)]
  | succ d ih =>
    intro k i h0 h1 hd hk
    obtain ⟨k, rfl⟩ := pos_round (show 0 < k by omega)
    simp only [laws_eqIntS.l0]
    rw [if_pos (by omega), if_pos h0, if_pos (by omega), w64 (x := i + 1) (by omega) (by omega)]
    simp only [if_true]
    exact ih k (i + 1) (by omega) (by omega) (by omega) (by omega)
theorem eqI (l : List Int) (hn : l.length ≤ 1000000000) (k : Nat) (hk : l.length < k) : laws_eqIntS.f k l l = some true := by
  unfold laws_eqIntS.f
  rw [if_pos rfl]
  exact eqI_loop l hn l.length k 0 (by omega) (by omega) (by omega) hk
theorem wn {i : Nat} (h : i < 9223372036854775807) : wrap64 ((i : Int) + 1) = ((i + 1 : Nat) : Int) := w64 (by omega) (by omega)
theorem R_nat {l : List Int} {i : Nat} (h : i < l.length) : rd l (i : Int) = l[i] := by simp [rd, List.getD_eq_getElem?_getD, List.getElem?_eq_getElem h]
theorem L1_nat {l : List (List Int)} {i : Nat} (h : i < l.length) : rd_L1 l (i : Int) = l[i] := by simp [rd_L1, List.getD_eq_getElem?_getD, List.getElem?_eq_getElem h]
/-! ### sizes, copies, equals -/
theorem szI (l : List Int) (hm : l.length ≤ 9223372036854775807) (a : Int) (ha : 0 ≤ a) (ha1 : a ≤ 1048576) : ∃ t : Int, -1 ≤ t ∧ t ≤ a ∧ (0 ≤ t → (l.length : Int) ≤ a) ∧ laws_szIntS.f l a = some t := by
  unfold laws_szIntS.f
  rw [w64 (by omega) (by omega)]
  by_cases c : a - (l.length : Int) < 0
  · exact ⟨-1, by omega, by omega, fun h => by omega, by rw [if_pos c]⟩
  · exact ⟨a - l.length, by omega, by omega, fun h => by omega, by rw [if_neg c]⟩
theorem szII (l : List (List Int)) (hm : l.length ≤ 9223372036854775807) (hq : ∀ x ∈ l, x.length ≤ 9223372036854775807) (a : Int) (ha : 0 ≤ a) (ha1 : a ≤ 1048576) :
    ∃ t : Int, -1 ≤ t ∧ t ≤ a ∧ (0 ≤ t → (l.length : Int) ≤ a ∧ ∀ x ∈ l, (x.length : Int) ≤ a) ∧ Ev (fun k => laws_szIntSS.f k l a) t := by
  by_cases c : a - (l.length : Int) < 0
  · exact ⟨-1, by omega, by omega, fun h => by omega, Ev.of fun k => by unfold laws_szIntSS.f; rw [w64 (by omega) (by omega), if_pos c]⟩
  · have HS := size_up l (fun x a => (x.length : Int) ≤ a) (fun x a b h1 h2 => by omega)
      (fun k a i => laws_szIntSS.l0 k l a i) ?_ ?_ l.length 0 (a - l.length) (by omega) (by omega) (by omega) (by omega)
    · obtain ⟨t, t0, t1, t2, t3⟩ := HS
      refine ⟨t, t0, by omega, fun ht => ⟨by omega, fun x hx => ?_⟩, t3.to fun k => ?_⟩
      · have := t2 ht x (by simpa using hx)
        omega
      · show laws_szIntSS.f k l a = laws_szIntSS.l0 k l _ 0
        unfold laws_szIntSS.f
        rw [w64 (by omega) (by omega), if_neg c]
    · intro i hi a ha ha1
      obtain ⟨t, t0, t1, t2, t3⟩ := szI l[i] (hq _ (List.getElem_mem hi)) a ha ha1
      refine ⟨t, t0, t1, t2, fun r hr => Ev.succ ((Ev.bind (g := fun k t => if t < 0 then some (-1) else laws_szIntSS.l0 k l t (wrap64 ((i : Int) + 1))) (f := fun _ => laws_szIntS.f l[i] a) (Ev.of fun _ => t3) ?_).to fun k => ?_)⟩
      · rw [wn (by omega)]; exact hr
      · simp only [laws_szIntSS.l0]
        rw [if_pos (by omega), if_pos (by omega), L1_nat hi]
    · intro a
      refine Ev.succ (Ev.of fun k => ?_)
      simp only [laws_szIntSS.l0]
      rw [if_neg (by omega)]
theorem szH (a0 a1 : Int) (l : List (List Int)) (hm : l.length ≤ 9223372036854775807) (hq : ∀ x ∈ l, x.length ≤ 9223372036854775807) :
    ∃ t : Int, (0 ≤ t → l.length ≤ 1048576 ∧ ∀ x ∈ l, x.length ≤ 1048576) ∧ Ev (fun k => laws_szHull.f k a0 a1 l 1048576) t := by
  obtain ⟨t, t0, t1, t2, t3⟩ := szII l hm hq 1048576 (by omega) (by omega)
  refine ⟨t, fun h => ⟨by have := (t2 h).1; omega, fun x hx => by have := (t2 h).2 x hx; omega⟩, Ev.bind t3 (Ev.of fun k => ?_)⟩
  split
  · congr 1; omega
  · rfl
def small (l : List (List Int)) : Prop := l.length ≤ 1048576 ∧ ∀ x ∈ l, x.length ≤ 1048576
theorem toI (l : List Int) (hn : l.length ≤ 1048576) : Ev (fun k => laws_toIntS.f k l) l := by
  have h0 := copy_up0 l (fun x => x) (0 : Int) (fun k o i => laws_toIntS.l0 k l o i) ?_ ?_
  · refine (by simpa using h0 : Ev _ l).to fun k => ?_
    unfold laws_toIntS.f
    rw [if_pos (by omega), if_pos (by omega), Int.toNat_natCast]
  · intro i hi o r ho hr
    refine Ev.succ (hr.to fun k => ?_)
    simp only [laws_toIntS.l0, Int.toNat_natCast]
    rw [if_pos (by omega), if_pos (by omega), if_pos (by omega), R_nat hi, wn (by omega)]
  · intro o
    refine Ev.succ (Ev.of fun k => ?_)
    simp only [laws_toIntS.l0]
    rw [if_neg (by omega)]
theorem toII (l : List (List Int)) (hs : small l) : Ev (fun k => laws_toIntSS.f k l) l := by
  have h0 := copy_up0 l (fun x => x) ([] : List Int) (fun k o i => laws_toIntSS.l0 k l o i) ?_ ?_
  · refine (by simpa using h0 : Ev _ l).to fun k => ?_
    unfold laws_toIntSS.f
    have := hs.1
    rw [if_pos (by omega), if_pos (by omega), Int.toNat_natCast]
  · intro i hi o r ho hr
    have := hs.1
    refine Ev.succ ((Ev.bind (g := fun k t => if (i : Int) < (o.length : Int) then laws_toIntSS.l0 k l (o.set i t) (wrap64 ((i : Int) + 1)) else none) (toI l[i] (hs.2 _ (List.getElem_mem hi))) ?_).to fun k => ?_)
    · rw [wn (by omega)]; simp only [if_pos (show (i : Int) < (o.length : Int) by omega)]; exact hr
    · simp only [laws_toIntSS.l0, Int.toNat_natCast]
      rw [if_pos (by omega), if_pos (by omega), L1_nat hi]
  · intro o
    refine Ev.succ (Ev.of fun k => ?_)
    simp only [laws_toIntSS.l0]
    rw [if_neg (by omega)]
theorem toH (a b : Int) (l : List (List Int)) (hs : small l) : Ev (fun k => laws_toHull.f k a b l) (a, b, l) := Ev.bind (toII l hs) (Ev.of fun _ => rfl)
theorem eqII (l : List (List Int)) (hs : small l) : Ev (fun k => laws_eqIntSS.f k l l) true := by
  have h0 := all_down0 l (fun _ => true) (fun k i => laws_eqIntSS.l0 k l l i) true ?_ ?_
  · rw [show (l.all fun _ => true) = true from List.all_eq_true.2 fun _ _ => rfl] at h0
    refine h0.to fun k => ?_
    unfold laws_eqIntSS.f
    rw [if_pos rfl]
  · intro i hi b hb
    have := hs.1
    refine Ev.succ ((Ev.bind (g := fun k t => if t = true then laws_eqIntSS.l0 k l l (wrap64 ((i : Int) + 1)) else some false) ⟨_, eqI l[i] (by have := hs.2 _ (List.getElem_mem hi); omega)⟩ ?_).to fun k => ?_)
    · rw [wn (by omega)]; simp only [if_true, Bool.true_and]; exact hb rfl
    · simp only [laws_eqIntSS.l0]
      rw [if_pos (by omega), if_pos (by omega), if_pos (by omega), L1_nat hi]
  · intro _
    refine Ev.succ (Ev.of fun k => ?_)
    simp only [laws_eqIntSS.l0]
    rw [if_neg (by omega)]
theorem eqH (a b : Int) (l : List (List Int)) (hs : small l) : Ev (fun k => laws_eqHull.f k a b l a b l) true := by
  refine (Ev.bind (g := fun _ t => if t = true then some true else some false) (eqII l hs) (Ev.of fun _ => rfl)).to fun k => ?_
  unfold laws_eqHull.f
  rw [if_pos rfl, if_pos rfl]
/-! ### marks -/
def rg (c : Int) : Nat → List Int
  | 0 => []
  | n + 1 => c :: rg (c + 1) n
theorem rg_length (n : Nat) : ∀ c, (rg c n).length = n := by
  induction n with
  | zero => intro c; rfl
  | succ n ih => intro c; simp [rg, ih]
def mk (c : Int) : List (List Int) → List (List Int)
  | [] => []
  | x :: l => rg c x.length :: mk (c + x.length) l
theorem mk_length (l : List (List Int)) : ∀ c, (mk c l).length = l.length := by
  induction l with
  | nil => intro c; rfl
  | cons x l ih => intro c; simp [mk, ih]
def tot : List (List Int) → Nat
  | [] => 0
  | x :: l => x.length + tot l
theorem tot_le (l : List (List Int)) (h : ∀ x ∈ l, x.length ≤ 1048576) : tot l ≤ 1048576 * l.length := by
  induction l with
  | nil => simp [tot]
  | cons x l ih =>
    have := h x (by simp)
    have := ih (fun y hy => h y (by simp [hy]))
    simp only [tot, List.length_cons]; omega
theorem at_pre {α : Type} (pre : List α) (x y : α) (suf : List α) : (pre ++ x :: suf).set pre.length y = (pre ++ [y]) ++ suf := by
  simp [List.set_append_right]
theorem markI_ev (suf : List Int) : ∀ (pre : List Int) (c : Int), pre.length + suf.length ≤ 1000000000 → 0 ≤ c → c + suf.length ≤ 4611686018427387904 → Ev (fun k => laws_markIntS.l0 k (pre ++ suf) c (pre.length : Int)) (c + suf.length, pre ++ rg c suf.length) := by
  induction suf with
  | nil =>
    intro pre c hn h0 h1
    refine Ev.succ (Ev.of fun k => ?_)
    simp only [laws_markIntS.l0, List.append_nil, rg, List.length_nil]
    rw [if_neg (by omega)]
    congr 2
    omega
  | cons x suf ih =>
    intro pre c hn h0 h1
    simp only [List.length_cons] at hn h1 ⊢
    have h := ih (pre ++ [c]) (c + 1) (by simp only [List.length_append, List.length_cons, List.length_nil]; omega) (by omega) (by omega)
    rw [List.append_assoc _ _ (rg _ _), show c + 1 + (suf.length : Int) = c + ((suf.length + 1 : Nat) : Int) by omega] at h
    refine Ev.succ (Ev.to (f := fun k => laws_markIntS.l0 (k + 1) (pre ++ x :: suf) c (pre.length : Int)) h fun k => ?_)
    simp only [laws_markIntS.l0, Int.toNat_natCast]
    rw [if_pos (by simp only [List.length_append, List.length_cons]; omega), if_pos (by omega), at_pre, w64 (x := c + 1) (by omega) (by omega), wn (by omega)]
    simp only [List.length_append, List.length_cons, List.length_nil]
theorem rd_pre (pre : List Int) (x : Int) (suf : List Int) : rd (pre ++ x :: suf) (pre.length : Int) = x := by simp [rd, List.getD_eq_getElem?_getD]
theorem L1_pre (pre : List (List Int)) (x : List Int) (suf : List (List Int)) : rd_L1 (pre ++ x :: suf) (pre.length : Int) = x := by simp [rd_L1, List.getD_eq_getElem?_getD]
theorem heldI_ev (n : Nat) : ∀ (pre : List Int) (c : Int), pre.length + n ≤ 1000000000 → 0 ≤ c → c + n ≤ 4611686018427387904 → Ev (fun k => laws_heldIntS.l0 k (pre ++ rg c n) c (pre.length : Int)) (c + n) := by
  induction n with
  | zero =>
    intro pre c hn h0 h1
    refine Ev.succ (Ev.of fun k => ?_)
    simp only [laws_heldIntS.l0, List.append_nil, rg]
    rw [if_neg (by omega)]
    congr 1
    omega
  | succ n ih =>
    intro pre c hn h0 h1
    have h := ih (pre ++ [c]) (c + 1) (by simp only [List.length_append, List.length_cons, List.length_nil]; omega) (by omega) (by omega)
    rw [List.append_assoc, show c + 1 + (n : Int) = c + ((n + 1 : Nat) : Int) by omega] at h
    have e : rg c (n + 1) = c :: rg (c + 1) n := rfl
    rw [e]
    refine Ev.succ (h.to fun k => ?_)
    simp only [laws_heldIntS.l0]
    rw [if_pos (by simp only [List.length_append, List.length_cons]; omega), if_pos (by omega), rd_pre, if_pos rfl, w64 (x := c + 1) (by omega) (by omega), wn (by omega)]
    simp only [List.length_append, List.length_cons, List.length_nil]
    rfl
theorem markII_ev (suf : List (List Int)) : ∀ (pre : List (List Int)) (c : Int), pre.length + suf.length ≤ 1000000000 → (∀ x ∈ suf, x.length ≤ 1048576) → 0 ≤ c → c + tot suf ≤ 4611686018427387904 → Ev (fun k => laws_markIntSS.l0 k (pre ++ suf) c (pre.length : Int)) (c + tot suf, pre ++ mk c suf) := by
  induction suf with
  | nil =>
    intro pre c hn hq h0 h1
    refine Ev.succ (Ev.of fun k => ?_)
    simp only [laws_markIntSS.l0, List.append_nil, mk, tot]
    rw [if_neg (by omega)]
    congr 2
    omega
  | cons x suf ih =>
    intro pre c hn hq h0 h1
    simp only [List.length_cons, tot] at hn h1
    have hx := hq x (by simp)
    have h := ih (pre ++ [rg c x.length]) (c + x.length) (by simp only [List.length_append, List.length_cons, List.length_nil]; omega) (fun y hy => hq y (by simp [hy])) (by omega) (by omega)
    rw [List.append_assoc, show c + (x.length : Int) + (tot suf : Int) = c + ((tot (x :: suf) : Nat) : Int) by simp only [tot]; omega] at h
    have hm := markI_ev x [] c (by simp only [List.length_nil]; omega) h0 (by omega)
    simp only [List.nil_append, List.length_nil] at hm
    refine Ev.succ ((Ev.bind (g := fun k (bt : Int × List Int) => laws_markIntSS.l0 k ((pre ++ x :: suf).set pre.length bt.2) bt.1 (wrap64 ((pre.length : Int) + 1))) hm ?_).to fun k => ?_)
    · simp only [at_pre, wn (show pre.length < 9223372036854775807 by omega)]
      simpa [mk] using h
    · simp only [laws_markIntSS.l0, Int.toNat_natCast]
      rw [if_pos (by simp only [List.length_append, List.length_cons]; omega), if_pos (by omega), L1_pre]
      rfl
theorem heldII_ev (suf : List (List Int)) : ∀ (pre : List (List Int)) (c : Int), pre.length + suf.length ≤ 1000000000 → (∀ x ∈ suf, x.length ≤ 1048576) → 0 ≤ c → c + tot suf ≤ 4611686018427387904 → Ev (fun k => laws_heldIntSS.l0 k (pre ++ mk c suf) c (pre.length : Int)) (c + tot suf) := by
  induction suf with
  | nil =>
    intro pre c hn hq h0 h1
    refine Ev.succ (Ev.of fun k => ?_)
    simp only [laws_heldIntSS.l0, List.append_nil, mk, tot]
    rw [if_neg (by omega)]
    congr 1
    omega
  | cons x suf ih =>
    intro pre c hn hq h0 h1
    simp only [List.length_cons, tot] at hn h1
    have hx := hq x (by simp)
    have h := ih (pre ++ [rg c x.length]) (c + x.length) (by simp only [List.length_append, List.length_cons, List.length_nil]; omega) (fun y hy => hq y (by simp [hy])) (by omega) (by omega)
    rw [List.append_assoc, show c + (x.length : Int) + (tot suf : Int) = c + ((tot (x :: suf) : Nat) : Int) by simp only [tot]; omega] at h
    have hm := heldI_ev x.length [] c (by simp only [List.length_nil]; omega) h0 (by omega)
    simp only [List.nil_append, List.length_nil] at hm
    refine Ev.succ ((Ev.bind (g := fun k t => if t < 0 then some (-1) else laws_heldIntSS.l0 k (pre ++ mk c (x :: suf)) t (wrap64 ((pre.length : Int) + 1))) hm ?_).to fun k => ?_)
    · simp only [if_neg (show ¬ c + (x.length : Int) < 0 by omega), wn (show pre.length < 9223372036854775807 by omega)]
      simpa [mk] using h
    · simp only [laws_heldIntSS.l0]
      rw [if_pos (by simp only [List.length_append, mk, List.length_cons]; omega), if_pos (by omega), mk, L1_pre]
      rfl
theorem tot_small (l : List (List Int)) (hs : small l) : tot l ≤ 1099511627776 := by
  have := tot_le l hs.2
  have := hs.1
  omega
theorem markH (a b : Int) (l : List (List Int)) (hs : small l) : Ev (fun k => laws_markHull.f k a b l 1) (1 + tot l, mk 1 l) := by
  have := tot_small l hs
  have := hs.1
  exact (by simpa using markII_ev l [] 1 (by simp only [List.length_nil]; omega) hs.2 (by omega) (by omega) : Ev (fun k => laws_markIntSS.l0 k l 1 0) _)
theorem heldH (a b : Int) (l : List (List Int)) (hs : small l) : Ev (fun k => laws_heldHull.f k a b (mk 1 l) 1) (1 + tot l) := by
  have := tot_small l hs
  have := hs.1
  have h := heldII_ev l [] 1 (by simp only [List.length_nil]; omega) hs.2 (by omega) (by omega)
  refine Ev.bind (by simpa using h : Ev (fun k => laws_heldIntSS.l0 k (mk 1 l) 1 0) (1 + (tot l : Int))) (Ev.of fun k => ?_)
  rw [if_neg (by omega)]
/-! ### what is a right hull, and its mirror -/
def inB (x a b : Int) : Bool := decide (a ≤ x) && decide (x ≤ b)
theorem in_ok (x a b : Int) : impl_in.f x a b = some (inB x a b) := by
  simp only [impl_in.f, inB, ge_iff_le]
  by_cases h : a ≤ x
  · rw [if_pos h, decide_eq_true h, Bool.true_and]
  · rw [if_neg h, decide_eq_false h, Bool.false_and]
theorem sin_ok (x a b : Int) : spec_l1In.f x a b = some (inB x a b) := in_ok x a b
def rowOk (n : Nat) (x : List Int) : Bool := decide (x.length = n) && x.all fun y => inB y 0 50
def hullOk (a b : Int) (l : List (List Int)) : Bool := inB a 1 100 && (inB b 1 20 && (inB (l.length : Int) 2 12 && (inB ((rd_L1 l 0).length : Int) 2 10 && l.all (rowOk (rd_L1 l 0).length))))
theorem hull_ok (a b : Int) (l : List (List Int)) (hs : small l) : Ev (fun k => impl_HullOk.f k a b l) (hullOk a b l) := by
  have hf : Ev (fun k => impl_HullOk.j0 k true a b l) false := Ev.succ (Ev.of fun k => by simp only [impl_HullOk.j0]; rw [if_pos trivial])
  have hl := hs.1
  refine Ev.to (g := fun k => if inB a 1 100 = true then if inB b 1 20 = true then if inB (l.length : Int) 2 12 = true then if 0 < (l.length : Int) then impl_HullOk.j0 k (!inB ((rd_L1 l 0).length : Int) 2 10) a b l else none else impl_HullOk.j0 k true a b l else impl_HullOk.j0 k true a b l else impl_HullOk.j0 k true a b l) ?_ fun k => by simp only [impl_HullOk.f, in_ok, Option.bind_some]
  unfold hullOk
  cases h1 : inB a 1 100
  · simpa using hf
  cases h2 : inB b 1 20
  · simpa using hf
  cases h3 : inB (l.length : Int) 2 12
  · simpa using hf
  have hp : 0 < l.length := by simp only [inB, Bool.and_eq_true, decide_eq_true_eq] at h3; omega
  simp only [if_true, if_pos (show 0 < (l.length : Int) by omega), Bool.true_and]
  cases h4 : inB ((rd_L1 l 0).length : Int) 2 10
  · simpa using hf
  simp only [Bool.not_true, Bool.true_and]
  have h0 := all_down0 l (rowOk (rd_L1 l 0).length) (fun k i => impl_HullOk.l0 k l (l.length : Int) i a b l) true ?_ ?_
  · rw [Bool.and_true] at h0
    exact Ev.succ (h0.to fun k => by simp only [impl_HullOk.j0]; rw [if_neg (by simp)])
  · intro i hi b' hb
    refine Ev.succ (Ev.to (g := fun k => if l[i].length = (rd_L1 l 0).length then if (l[i].all fun y => inB y 0 50) = true then impl_HullOk.l0 k l (l.length : Int) ((i + 1 : Nat) : Int) a b l else some false else some false) ?_ fun k => ?_)
    · unfold rowOk at hb ⊢
      by_cases c : l[i].length = (rd_L1 l 0).length
      · simp only [if_pos c, decide_eq_true c, Bool.true_and] at hb ⊢
        cases h : l[i].all fun y => inB y 0 50
        · exact Ev.of fun _ => rfl
        · simpa using hb h
      · simp only [if_neg c, decide_eq_false c, Bool.false_and]
        exact Ev.of fun _ => rfl
    · simp only [impl_HullOk.l0]
      rw [if_pos (by omega), if_pos (by omega), if_pos (by omega), if_pos (by omega), L1_nat hi, wn (by omega)]
      by_cases c : l[i].length = (rd_L1 l 0).length
      · rw [if_pos (by omega), if_pos c]; rfl
      · rw [if_neg (by omega), if_neg c]
  · intro _
    refine Ev.succ (Ev.of fun k => ?_)
    simp only [impl_HullOk.l0]
    rw [if_neg (by omega)]
def rowS (n : Nat) (x : List Int) : Bool := (decide (x.length = n) && inB (x.length : Int) 2 10) && x.all fun y => inB y 0 50
theorem rows_same (l : List (List Int)) (hp : 0 < l.length) : (inB ((rd_L1 l 0).length : Int) 2 10 && l.all (rowOk (rd_L1 l 0).length)) = l.all (rowS (rd_L1 l 0).length) := by
  cases h : inB ((rd_L1 l 0).length : Int) 2 10
  · rw [Bool.false_and]
    symm
    rw [← Bool.not_eq_true, List.all_eq_true]
    intro ha
    have hm : rd_L1 l 0 ∈ l := by
      have e := L1_nat (l := l) (i := 0) hp
      rw [show ((0 : Nat) : Int) = 0 from rfl] at e
      rw [e]; exact List.getElem_mem hp
    have := ha _ hm
    simp [rowS, h] at this
  · rw [Bool.true_and]
    rw [Bool.eq_iff_iff, List.all_eq_true, List.all_eq_true]
    have hx : ∀ x : List Int, rowOk (rd_L1 l 0).length x = rowS (rd_L1 l 0).length x := by
      intro x
      unfold rowOk rowS
      by_cases c : x.length = (rd_L1 l 0).length
      · rw [c, h, Bool.and_true]
      · rw [decide_eq_false c]; rfl
    simp only [hx]
theorem shull_ok (a b : Int) (l : List (List Int)) (hs : small l) : Ev (fun k => spec_HullOk.f k a b l) (hullOk a b l) := by
  have hf : Ev (fun k => spec_HullOk.j0 k true a b l) false := Ev.succ (Ev.of fun k => by simp only [spec_HullOk.j0]; rw [if_pos trivial])
  have hl := hs.1
  refine Ev.to (g := fun k => if inB a 1 100 = true then if inB b 1 20 = true then spec_HullOk.j0 k (!inB (l.length : Int) 2 12) a b l else spec_HullOk.j0 k true a b l else spec_HullOk.j0 k true a b l) ?_ fun k => by simp only [spec_HullOk.f, sin_ok, Option.bind_some]
  unfold hullOk
  cases h1 : inB a 1 100
  · simpa using hf
  cases h2 : inB b 1 20
  · simpa using hf
  cases h3 : inB (l.length : Int) 2 12
  · simpa using hf
  have hp : 0 < l.length := by simp only [inB, Bool.and_eq_true, decide_eq_true_eq] at h3; omega
  simp only [if_true, Bool.true_and, Bool.not_true]
  rw [rows_same l hp]
  have h0 := all_down0 l (rowS (rd_L1 l 0).length) (fun k i => spec_HullOk.l0 k i a b l) true ?_ ?_
  · rw [Bool.and_true] at h0
    exact Ev.succ (h0.to fun k => by simp only [spec_HullOk.j0]; rw [if_neg (by simp)])
  · intro i hi b' hb
    refine Ev.succ (Ev.to (g := fun k => spec_HullOk.j2 k (i : Int) (!(decide (l[i].length = (rd_L1 l 0).length) && inB (l[i].length : Int) 2 10)) a b l) (Ev.succ ?_) fun k => ?_)
    · unfold rowS at hb ⊢
      cases c : (decide (l[i].length = (rd_L1 l 0).length) && inB (l[i].length : Int) 2 10)
      · exact Ev.of fun k => by simp only [spec_HullOk.j2]; rw [if_pos (by simp)]; rfl
      · rw [c] at hb
        simp only [Bool.true_and] at hb ⊢
        have hi2 : l[i].length ≤ 1048576 := hs.2 _ (List.getElem_mem hi)
        have h1 := all_down0 l[i] (fun y => inB y 0 50) (fun k j => spec_HullOk.l1 k (i : Int) j a b l) b' ?_ ?_
        · exact h1.to fun k => by simp only [spec_HullOk.j2]; rw [if_neg (by simp)]
        · intro j hj b2 hb2
          refine Ev.succ (Ev.to (g := fun k => if inB l[i][j] 0 50 = true then spec_HullOk.l1 k (i : Int) ((j + 1 : Nat) : Int) a b l else some false) ?_ fun k => ?_)
          · cases h : inB l[i][j] 0 50
            · exact Ev.of fun _ => rfl
            · simpa using hb2 h
          · simp only [spec_HullOk.l1]
            rw [if_pos (by omega), if_pos (by omega), L1_nat hi, if_pos (by omega), if_pos (by omega), R_nat hj, sin_ok, Option.bind_some, wn (by omega)]
        · intro hall
          refine Ev.succ ((hb hall).to fun k => ?_)
          simp only [spec_HullOk.l1]
          rw [if_pos (by omega), if_pos (by omega), L1_nat hi, if_neg (by omega), wn (by omega)]
    · simp only [spec_HullOk.l0]
      rw [if_pos (by omega), if_pos (by omega), if_pos (by omega), L1_nat hi]
      by_cases c : l[i].length = (rd_L1 l 0).length
      · rw [if_pos (by omega), sin_ok, Option.bind_some, decide_eq_true c, Bool.true_and]
      · rw [if_neg (by omega), decide_eq_false c, Bool.false_and]; rfl
  · intro _
    refine Ev.succ (Ev.of fun k => ?_)
    simp only [spec_HullOk.l0]
    rw [if_neg (by omega)]
theorem own1 (l : List Int) (h : l.length ≤ 1048576) : impl_own_int_28.f l = some l := by
  unfold impl_own_int_28.f
  rw [if_pos (by omega), if_pos (by omega), Option.bind_some, List.nil_append, if_pos (by simp only [List.length_nil]; omega)]
theorem own2 (l : List (List Int)) (h : l.length ≤ 1048576) : impl_own_int_29.f l = some l := by
  unfold impl_own_int_29.f
  rw [if_pos (by omega), if_pos (by omega), if_pos (by omega)]
theorem mirror_ev (a b : Int) (l : List (List Int)) (hs : small l) (n : Nat) : ∀ acc : List (List Int), n ≤ l.length → acc.length + n = l.length → Ev (fun k => impl_Mirror.l0 k ((n : Int) - 1) a b l a b acc) (a, b, acc ++ (l.take n).reverse) := by
  have hl := hs.1
  induction n with
  | zero =>
    intro acc hn ha
    refine Ev.succ (Ev.of fun k => ?_)
    simp only [impl_Mirror.l0]
    rw [if_neg (by omega), own2 _ (by omega)]
    simp
  | succ n ih =>
    intro acc hn ha
    have h := ih (acc ++ [l[n]]) (by omega) (by simp only [List.length_append, List.length_cons, List.length_nil]; omega)
    rw [List.append_assoc] at h
    refine Ev.succ (Ev.to (g := fun k => impl_Mirror.l0 k ((n : Int) - 1) a b l a b (acc ++ [l[n]])) ?_ fun k => ?_)
    · rw [List.take_succ_eq_append_getElem (by omega), List.reverse_append]
      exact h
    · simp only [impl_Mirror.l0]
      rw [show ((n + 1 : Nat) : Int) - 1 = (n : Int) by omega, if_pos (by omega), if_pos (by omega), if_pos (by omega), L1_nat (by omega), own1 _ (hs.2 _ (List.getElem_mem _)), Option.bind_some, if_pos (by omega), w64 (by omega) (by omega)]
theorem smirror_ev (a b : Int) (l : List (List Int)) (hs : small l) (n : Nat) : ∀ acc : List (List Int), n ≤ l.length → acc.length + n = l.length → Ev (fun k => spec_Mirror.l0 k ((n : Int) - 1) a b l a b acc) (a, b, acc ++ (l.take n).reverse) := by
  have hl := hs.1
  induction n with
  | zero =>
    intro acc hn ha
    refine Ev.succ (Ev.of fun k => ?_)
    simp only [spec_Mirror.l0]
    rw [if_neg (by omega)]
    simp
  | succ n ih =>
    intro acc hn ha
    have h := ih (acc ++ [l[n]]) (by omega) (by simp only [List.length_append, List.length_cons, List.length_nil]; omega)
    rw [List.append_assoc] at h
    refine Ev.succ (Ev.to (g := fun k => spec_Mirror.l0 k ((n : Int) - 1) a b l a b (acc ++ [l[n]])) ?_ fun k => ?_)
    · rw [List.take_succ_eq_append_getElem (by omega), List.reverse_append]
      exact h
    · have h2 := hs.2 _ (List.getElem_mem (show n < l.length by omega))
      simp only [spec_Mirror.l0, Option.bind_some, List.nil_append, List.length_nil]
      rw [show ((n + 1 : Nat) : Int) - 1 = (n : Int) by omega, if_pos (by omega), if_pos (by omega), if_pos (by omega), L1_nat (by omega), if_pos (by omega), if_pos (by omega), w64 (by omega) (by omega)]
def mir (a b : Int) (l : List (List Int)) : Int × Int × List (List Int) := if hullOk a b l = true then (a, b, l.reverse) else (0, 0, [])
theorem mir_ok (a b : Int) (l : List (List Int)) (hs : small l) : Ev (fun k => impl_Mirror.f k a b l) (mir a b l) := by
  refine Ev.bind (hull_ok a b l hs) ?_
  unfold mir
  cases h : hullOk a b l
  · exact Ev.of fun k => rfl
  · have h1 := mirror_ev a b l hs l.length [] (by omega) (by simp)
    have := hs.1
    simp only [if_true, w64 (show -9223372036854775808 ≤ (l.length : Int) - 1 by omega) (by omega)]
    simpa using h1
theorem smir_ok (a b : Int) (l : List (List Int)) (hs : small l) : Ev (fun k => spec_Mirror.f k a b l) (mir a b l) := by
  refine Ev.bind (shull_ok a b l hs) ?_
  unfold mir
  cases h : hullOk a b l
  · exact Ev.of fun k => rfl
  · have h1 := smirror_ev a b l hs l.length [] (by omega) (by simp)
    have := hs.1
    simp only [if_true, w64 (show -9223372036854775808 ≤ (l.length : Int) - 1 by omega) (by omega)]
    simpa using h1
theorem mir_small (a b : Int) (l : List (List Int)) (hs : small l) : small (mir a b l).2.2 := by
  unfold mir
  split
  · exact ⟨by simpa using hs.1, fun x hx => hs.2 x (by simpa using hx)⟩
  · exact ⟨by simp, fun x hx => by cases hx⟩
theorem FnExactMirror : laws_FnExactMirror.Pure := by
  intro a b l _ _ hq
  obtain ⟨t, ht, hz⟩ := szH a b l hq.1 fun x hx => (hq.2 x hx).1
  apply Ev.get
  refine Ev.bind hz ?_
  by_cases c : t < 0
  · simp only [if_pos c]; exact Ev.of fun _ => rfl
  · simp only [if_neg c]
    have hs : small l := ht (by omega)
    have hm := mir_small a b l hs
    refine Ev.bind (toH a b l hs) (Ev.bind (smir_ok a b l hs) (Ev.bind (toH a b l hs) (Ev.bind (mir_ok a b l hs) (Ev.bind (eqH _ _ _ hm) ?_))))
    simp only [if_true]
    refine Ev.bind (toH a b l hs) (Ev.bind (eqH _ _ _ hs) ?_)
    simp only [if_true]
    refine Ev.bind (markH a b l hs) ?_
    simp only [if_neg (show ¬ 1 + (tot l : Int) < 0 by omega)]
    refine Ev.bind (eqH _ _ _ hm) (Ev.succ ?_)
    refine Ev.to (g := fun k => ((laws_markHull.f k (mir a b l).1 (mir a b l).2.1 (mir a b l).2.2 1).bind fun bt229 => ((laws_heldHull.f k (mir a b l).1 (mir a b l).2.1 bt229.2 1).bind fun t231 => (if t231 < 0 then (some false) else (if t231 = bt229.1 then ((laws_toHull.f k a b l).bind fun bt232 => ((impl_Mirror.f k bt232.1 bt232.2.1 bt232.2.2).bind fun bt237 => ((laws_eqHull.f k bt237.1 bt237.2.1 bt237.2.2 (mir a b l).1 (mir a b l).2.1 (mir a b l).2.2).bind fun t243 => (if t243 = true then ((laws_heldHull.f k (mir a b l).1 (mir a b l).2.1 bt229.2 1).bind fun t244 => (if t244 < 0 then (some false) else (if t244 = bt229.1 then (some true) else (some false)))) else (some false))))) else (some false)))))) ?_ fun k => by simp only [laws_FnExactMirror.j0]; rw [if_neg (by simp)]
    refine Ev.bind (markH _ _ _ hm) (Ev.bind (heldH _ _ _ hm) ?_)
    simp only [if_neg (show ¬ 1 + (tot (mir a b l).2.2 : Int) < 0 by omega), if_true]
    refine Ev.bind (toH a b l hs) (Ev.bind (mir_ok a b l hs) (Ev.bind (eqH _ _ _ hm) ?_))
    simp only [if_true]
    refine Ev.bind (heldH _ _ _ hm) (Ev.of fun k => ?_)
    rw [if_neg (by omega), if_pos rfl]

end Go.Proofs.Ytpimebjddebdkaa.Pure
