import Derived.Test.YtacekdgajpaomaaVEarliestWWords
import Derived.Test.YtacekdgajpaomaaVEarliestWXtra
import Derived.ChangeArms
import Derived.ChangeSlices
import Derived.ChangeOld
import Derived.WideShapes
set_option linter.unusedVariables false
namespace Go.Proofs.YtacekdgajpaomaaW.PrintWords
open Go.RowKit
namespace Kd
theorem add_add_ (a : Addr) (i j : Nat) : (a.add i).add j = a.add (i + j) := by
  unfold Addr.add
  by_cases hi : i = 0 <;> by_cases hj : j = 0 <;> simp [hi, hj, Nat.add_assoc]
theorem cells_of_ {w : World} {base n : Nat} {a : Addr} {c : List Value} (h : w.cells? base a n = some c) (j : Nat) (u : Value) (hu : c[j]? = some u) : w.cell? (a.add j) = some u := by
  unfold World.cells? at h
  split at h
  · have hj : j < c.length := (List.getElem?_eq_some_iff.1 hu).1
    have hl := mapM_some_length h
    rw [List.length_range] at hl
    have := mapM_some_get h j j (by rw [List.getElem?_range (by omega)])
    rw [this]; exact hu
  · cases h
theorem list_of {α : Type} {P : Nat → α → Prop} (n : Nat) (h : ∀ i, i < n → ∃ p, P i p) : ∃ xs : List α, xs.length = n ∧ ∀ j p, xs[j]? = some p → P j p := by
  induction n with
  | zero => exact ⟨[], rfl, fun j p h => by simp at h⟩
  | succ n ih =>
    obtain ⟨xs, hl, hx⟩ := ih (fun i hi => h i (by omega))
    obtain ⟨p, hp⟩ := h n (by omega)
    refine ⟨xs ++ [p], by simp [hl], fun j q hq => ?_⟩
    rcases Nat.lt_or_ge j xs.length with hj | hj
    · rw [List.getElem?_append_left hj] at hq; exact hx j q hq
    · rw [List.getElem?_append_right hj] at hq
      have : j = xs.length := by
        have := (List.getElem?_eq_some_iff.1 hq).1
        simp at this; omega
      subst this
      simp at hq
      rw [← hq, hl]; exact hp
section
variable {P : Program} {α β : Type}
def Reads (P : Program) (d : Kd α) (t : TypeId) (ok : α → Prop) : Prop :=
  ∀ (H : Type) (enc : TypeId × Value → H) (W : World) (base : Nat) (spare : Nat → Bool) (held : Bool) (fuel : Nat) (cs : List Value) (x : DataW H × List MemPlace),
    DataW.trod enc P W base spare held fuel t cs = some x → ∃ a, d.K W a cs ∧ ok a
theorem reads_int (k : IntKind) {t : TypeId} (ht : P.underlying t = some (.int k)) : Reads P (Kd.int k) t (fun n => (Lit.int k n).wf = true) := by
  intro H enc W base spare held fuel cs x h
  obtain ⟨n, rfl, _, hw⟩ := DataW.trod_int ht h
  exact ⟨n, rfl, hw⟩
theorem reads_slice {d : Kd α} {t e : TypeId} {ok : α → Prop} (ht : P.underlying t = some (.slice e)) (hc : P.cellsOf e = d.sz) (hd : Reads P d e ok) :
    Reads P (Kd.slice e d) t (fun l => l.length ≤ 9223372036854775807 ∧ ∀ a ∈ l, ok a) := by
  intro H enc W base spare held fuel cs x h
  rcases DataW.trod_slice ht h with ⟨rfl, _⟩ | ⟨a, len, cap, elems, rest, n, _, rfl, rfl, hb, hl, hm, hlen, hel, hsp, hns⟩
  · exact ⟨[], ⟨none, 0, rfl, Nat.le_refl _, C_nil d W⟩, by simp, fun a ha => by cases ha⟩
  · have hm' : cap ≤ 9223372036854775807 := by simpa [maxLen] using hm
    have each : ∀ i, i < len → ∃ p, ∃ c, c.length = d.sz ∧ d.K W p c ∧ ok p ∧ ∀ j u, c[j]? = some u → W.cell? (a.add (i * d.sz + j)) = some u := by
      intro i hi
      have h1 := hel i hi
      have h2 : i < elems.length := by omega
      rw [List.getElem?_eq_getElem h2, Option.bind_eq_some_iff] at h1
      obtain ⟨c, hcs, hy⟩ := h1
      obtain ⟨p, hK, hok⟩ := hd H enc W base spare held n c _ hy
      refine ⟨p, c, d.K_len hK, hK, hok, fun j u hu => ?_⟩
      have h3 := cells_of_ hcs j u hu
      rw [hc] at h3
      rw [← h3, add_add_]
    obtain ⟨xs, hxl, hx⟩ := list_of (P := fun i p => ∃ c, c.length = d.sz ∧ d.K W p c ∧ ok p ∧ ∀ j u, c[j]? = some u → W.cell? (a.add (i * d.sz + j)) = some u) len each
    refine ⟨xs, ⟨some a, cap, by rw [hxl], by omega, rfl, by omega, fun _ => ⟨a, rfl, fun j p hp => ?_⟩⟩, by omega, fun p hp => ?_⟩
    · obtain ⟨c, h1, h2, _, h4⟩ := hx j p hp
      exact ⟨c, h1, h2, h4⟩
    · obtain ⟨j, hj⟩ := List.getElem?_of_mem hp
      obtain ⟨c, _, _, h3, _⟩ := hx j p hj
      exact h3
def ReadsF (P : Program) (d : Kd α) (fs : List Field) (off : Nat) (ok : α → Prop) : Prop :=
  ∀ (H : Type) (enc : TypeId × Value → H) (W : World) (base : Nat) (spare : Nat → Bool) (held : Bool) (n : Nat) (cs : List Value),
    (∀ (i : Nat) (f : Field), fs[i]? = some f → ∃ y, DataW.trod enc P W base spare held n f.type ((cs.drop f.offset).take (P.cellsOf f.type)) = some y) → ∃ a, d.K W a ((cs.drop off).take d.sz) ∧ ok a
theorem readsF_one {d : Kd α} {f : Field} {off : Nat} {ok : α → Prop} (h : Reads P d f.type ok) (ho : f.offset = off) (hs : P.cellsOf f.type = d.sz) : ReadsF P d [f] off ok := by
  intro H enc W base spare held n cs hf
  obtain ⟨y, hy⟩ := hf 0 f rfl
  rw [ho, hs] at hy
  exact h H enc W base spare held n _ y hy
theorem readsF_cons {d : Kd α} {e : Kd β} {f : Field} {fs : List Field} {off : Nat} {ok : α → Prop} {ok' : β → Prop} (h : Reads P d f.type ok) (ho : f.offset = off) (hs : P.cellsOf f.type = d.sz) (hr : ReadsF P e fs (off + d.sz) ok') :
    ReadsF P (Kd.pair d e) (f :: fs) off (fun p => ok p.1 ∧ ok' p.2) := by
  intro H enc W base spare held n cs hf
  obtain ⟨y, hy⟩ := hf 0 f rfl
  rw [ho, hs] at hy
  obtain ⟨a, hK, hok⟩ := h H enc W base spare held n _ y hy
  obtain ⟨b, hK', hok'⟩ := hr H enc W base spare held n cs (fun i g hg => hf (i + 1) g (by simpa using hg))
  refine ⟨(a, b), ⟨_, _, ?_, hK, hK'⟩, hok, hok'⟩
  show (cs.drop off).take (d.sz + e.sz) = _
  rw [List.take_add, List.drop_drop]
theorem reads_struct {d : Kd α} {t : TypeId} {fs : Array Field} {ok : α → Prop} (ht : P.underlying t = some (.struct fs)) (hc : P.cellsOf t = d.sz) (h : ReadsF P d fs.toList 0 ok) : Reads P d t ok := by
  intro H enc W base spare held fuel cs x hx
  obtain ⟨xs, n, _, rfl, hl, hlen, hf⟩ := DataW.trod_struct ht hx
  obtain ⟨a, hK, hok⟩ := h H enc W base spare held n cs (fun i f hf' => by
    have hi : i < fs.toList.length := (List.getElem?_eq_some_iff.1 hf').1
    have h2 := hf i f (by simpa using hf')
    exact ⟨xs[i]'(by rw [hlen]; simpa using hi), by rw [h2]; simp⟩)
  rw [List.drop_zero, List.take_of_length_le (by rw [hl, hc]; exact Nat.le_refl _)] at hK
  exact ⟨a, hK, hok⟩
theorem reads_iso {d : Kd α} {t : TypeId} {ok : α → Prop} (f : β → α) (g : α → β) (hfg : ∀ a, f (g a) = a) (h : Reads P d t ok) : Reads P (Kd.iso d f) t (fun b => ok (f b)) := by
  intro H enc W base spare held fuel cs x hx
  obtain ⟨a, hK, hok⟩ := h H enc W base spare held fuel cs x hx
  exact ⟨g a, by show d.K W (f (g a)) cs; rw [hfg]; exact hK, by show ok (f (g a)); rw [hfg]; exact hok⟩
theorem reads_mono {d : Kd α} {t : TypeId} {ok ok' : α → Prop} (h : Reads P d t ok) (hk : ∀ a, ok a → ok' a) : Reads P d t ok' := by
  intro H enc W base spare held fuel cs x hx
  obtain ⟨a, hK, hok⟩ := h H enc W base spare held fuel cs x hx
  exact ⟨a, hK, hk a hok⟩
end
end Kd
end Go.Proofs.YtacekdgajpaomaaW.PrintWords
