/- Laws on readings: an argument that reads as data, opened to the print's own words for what its cells say (Kd.K), kind by kind: numbers, bools, strings, slices, structs, whatever is nested. No condition beyond those in each law. -/
import Derived.Test.YtepjadcnnakpoaaWWords
import Derived.Deep.Slices
import Derived.ChangeArms
namespace Go.Proofs.Ytepjadcnnakpoaa.Opn
open Go.RowKit Go.ChangeShapes Go.WideShapes Go.Proofs.YtepjadcnnakpoaaW.PrintWords

/-- Whatever reads as data at type t is a value of kind d, with what G says. -/
def Opn {α : Type} (P : Program) (t : TypeId) (d : Kd α) (G : α → Prop) : Prop :=
  ∀ {H : Type} (enc : TypeId × Value → H) (w : World) (base : Nat) (spare : Nat → Bool) (held : Bool) (fuel : Nat) (cs : List Value) (x : DataW H × List MemPlace),
    DataW.trod enc P w base spare held fuel t cs = some x → ∃ a, d.K w a cs ∧ G a
theorem Opn.get {α : Type} {P : Program} {t : TypeId} {d : Kd α} {G : α → Prop} (o : Opn P t d G) {H : Type} {enc : TypeId × Value → H} {w : World} {base : Nat} {spare : Nat → Bool} {held : Bool} {v : Value} {x : DataW H} {ps : List MemPlace}
    (h : DataW.Trod enc P w base spare held t v x ps) : ∃ a, d.K w a v.cells.toList ∧ G a := by
  obtain ⟨fuel, hf⟩ := h
  exact o enc w base spare held fuel _ _ hf
theorem opn_int {P : Program} {t : TypeId} {k : IntKind} (ht : P.underlying t = some (.int k)) : Opn P t (Kd.int k) (fun a => (Lit.int k a).wf = true) := by
  intro H enc w base spare held fuel cs x h
  obtain ⟨n, rfl, _, hw⟩ := DataW.trod_int ht h
  exact ⟨n, rfl, hw⟩
theorem opn_bool {P : Program} {t : TypeId} (ht : P.underlying t = some .bool) : Opn P t Kd.bool (fun _ => True) := by
  intro H enc w base spare held fuel cs x h
  obtain ⟨b, rfl, _⟩ := DataW.trod_bool ht h
  exact ⟨b, rfl, trivial⟩
theorem opn_string {P : Program} {t : TypeId} (ht : P.underlying t = some .string) : Opn P t Kd.string (fun s => s.size ≤ maxLen) := by
  intro H enc w base spare held fuel cs x h
  obtain ⟨s, rfl, _, hs⟩ := DataW.trod_string ht h
  exact ⟨s, rfl, hs⟩
theorem collect {α : Type} (f : Nat → Option α) (len : Nat) (hf : ∀ i, i < len → ∃ a, f i = some a) : ∃ xs : List α, xs.length = len ∧ ∀ i, i < len → xs[i]? = f i := by
  induction len with
  | zero => exact ⟨[], rfl, fun i hi => absurd hi (by omega)⟩
  | succ n ih =>
    obtain ⟨xs, h1, h2⟩ := ih (fun i hi => hf i (by omega))
    obtain ⟨a', e⟩ := hf n (by omega)
    refine ⟨xs ++ [a'], by simp [h1], fun i hi => ?_⟩
    by_cases hin : i < n
    · rw [List.getElem?_append_left (by omega)]; exact h2 i hin
    · have : i = n := by omega
      subst this
      rw [← h1]; simp [h1, e]
theorem opn_slice {α : Type} {P : Program} {t e : TypeId} {d : Kd α} {G : α → Prop} (ht : P.underlying t = some (.slice e)) (hc : P.cellsOf e = d.sz) (o : Opn P e d G) :
    Opn P t (Kd.slice e d) (fun xs => xs.length ≤ maxLen ∧ ∀ x ∈ xs, G x) := by
  intro H enc w base spare held fuel cs x h
  rcases Deep.open_slice ht h with ⟨rfl, _⟩ | ⟨a, len, cap, m, n, D, Pl, rfl, _, hl, hm, hmm, _, hi⟩
  · exact ⟨[], ⟨none, 0, rfl, Nat.le_refl _, rfl, by simp, fun hp => absurd hp (by simp)⟩, by simp, by simp⟩
  · have hlm : len ≤ m := by rw [hmm]; split <;> omega
    have hx : ∀ i : Nat, ∃ y : Option α, i < len → ∃ a' cs', y = some a' ∧ cs'.length = d.sz ∧ d.K w a' cs' ∧ G a' ∧ ∀ j u, cs'[j]? = some u → w.cell? (a.add (i * d.sz + j)) = some u := by
      intro i
      by_cases hil : i < len
      · obtain ⟨cs', hcs, htr⟩ := hi i (by omega)
        obtain ⟨_, hlen, hcell⟩ := World.cells?_some hcs
        obtain ⟨a', hk, hg⟩ := o enc w base spare held n cs' _ htr
        refine ⟨some a', fun _ => ⟨a', cs', rfl, d.K_len hk, hk, hg, fun j u hu => ?_⟩⟩
        have hj : j < cs'.length := by
          rcases Nat.lt_or_ge j cs'.length with h1 | h1
          · exact h1
          · rw [List.getElem?_eq_none h1] at hu; cases hu
        have := hcell j (by omega)
        rw [Deep.add_add, hc] at this
        rw [this, hu]
      · exact ⟨none, fun h => absurd h hil⟩
    obtain ⟨f, hf⟩ : ∃ f : Nat → Option α, ∀ i, i < len → ∃ a' cs', f i = some a' ∧ cs'.length = d.sz ∧ d.K w a' cs' ∧ G a' ∧ ∀ j u, cs'[j]? = some u → w.cell? (a.add (i * d.sz + j)) = some u :=
      ⟨fun i => Classical.choose (hx i), fun i => Classical.choose_spec (hx i)⟩
    obtain ⟨xs, hxl, hxs⟩ := collect f len (fun i hi => by obtain ⟨a', _, e, _⟩ := hf i hi; exact ⟨a', e⟩)
    have hml : maxLen = 9223372036854775807 := rfl
    refine ⟨xs, ⟨some a, cap, by rw [hxl], by omega, rfl, by omega, fun _ => ⟨a, rfl, fun j p hp => ?_⟩⟩, by omega, fun x hx => ?_⟩
    · have hj : j < xs.length := by
        rcases Nat.lt_or_ge j xs.length with h1 | h1
        · exact h1
        · rw [List.getElem?_eq_none h1] at hp; cases hp
      obtain ⟨a', cs', e, hs, hk, _, hcell⟩ := hf j (by omega)
      rw [hxs j (by omega), e] at hp
      injection hp with hp
      subst hp
      exact ⟨cs', hs, hk, hcell⟩
    · obtain ⟨j, hj, rfl⟩ := List.getElem_of_mem hx
      obtain ⟨a', cs', e, _, _, hg, _⟩ := hf j (by omega)
      have := hxs j (by omega)
      rw [List.getElem?_eq_getElem hj, e] at this
      injection this with this
      rw [this]
      exact hg
/-- The fields from a place on. -/
def OpnAt {α : Type} (P : Program) (fs : List Field) (o : Nat) (d : Kd α) (G : α → Prop) : Prop :=
  ∀ {H : Type} (enc : TypeId × Value → H) (w : World) (base : Nat) (spare : Nat → Bool) (held : Bool) (fuel : Nat) (cs : List Value),
    (∀ f ∈ fs, ∃ y, DataW.trod enc P w base spare held fuel f.type ((cs.drop f.offset).take (P.cellsOf f.type)) = some y) → cs.length = o + d.sz → ∃ a, d.K w a (cs.drop o) ∧ G a
theorem opn_last {α : Type} {P : Program} {f : Field} {o : Nat} {d : Kd α} {G : α → Prop} (ho : f.offset = o) (hc : P.cellsOf f.type = d.sz) (h : Opn P f.type d G) : OpnAt P [f] o d G := by
  intro H enc w base spare held fuel cs hf hl
  obtain ⟨y, hy⟩ := hf f (List.mem_singleton.2 rfl)
  rw [ho, hc, List.take_of_length_le (by simp; omega)] at hy
  exact h enc w base spare held fuel _ _ hy
theorem opn_more {α β : Type} {P : Program} {f : Field} {fs : List Field} {o o' : Nat} {d : Kd α} {d' : Kd β} {G : α → Prop} {G' : β → Prop} (ho : f.offset = o) (hc : P.cellsOf f.type = d.sz) (ho' : o' = o + d.sz) (h : Opn P f.type d G) (h' : OpnAt P fs o' d' G') :
    OpnAt P (f :: fs) o (Kd.pair d d') (fun x => G x.1 ∧ G' x.2) := by
  intro H enc w base spare held fuel cs hf hl
  have hl2 : cs.length = o + (d.sz + d'.sz) := hl
  obtain ⟨y, hy⟩ := hf f List.mem_cons_self
  rw [ho, hc] at hy
  obtain ⟨a, hk, hg⟩ := h enc w base spare held fuel _ _ hy
  obtain ⟨b, hk', hg'⟩ := h' enc w base spare held fuel cs (fun g hg => hf g (List.mem_cons_of_mem _ hg)) (by omega)
  refine ⟨(a, b), ⟨_, _, ?_, hk, hk'⟩, hg, hg'⟩
  rw [ho', ← List.drop_drop, List.take_append_drop]
theorem opn_struct {α : Type} {P : Program} {t : TypeId} {fs : Array Field} {d : Kd α} {G : α → Prop} (ht : P.underlying t = some (.struct fs)) (hc : P.cellsOf t = d.sz) (h : OpnAt P fs.toList 0 d G) : Opn P t d G := by
  intro H enc w base spare held fuel cs x hx
  obtain ⟨xs, n, rfl, _, hl, hxl, hi⟩ := DataW.trod_struct ht hx
  have := h enc w base spare held n cs (fun f hf => by
    obtain ⟨i, hi', rfl⟩ := List.getElem_of_mem hf
    have hi2 : i < fs.size := by simpa using hi'
    have := hi i fs.toList[i] (by simp [hi2])
    rw [this, List.getElem?_eq_getElem (by omega)]
    exact ⟨_, rfl⟩) (by omega)
  simpa using this
theorem opn_iso {α β : Type} {P : Program} {t : TypeId} {d : Kd α} {G : α → Prop} {f : β → α} (g : α → β) (hg : ∀ a, f (g a) = a) (h : Opn P t d G) : Opn P t (Kd.iso d f) (fun b => G (f b)) := by
  intro H enc w base spare held fuel cs x hx
  obtain ⟨a, hk, hG⟩ := h enc w base spare held fuel cs x hx
  exact ⟨g a, by show d.K w (f (g a)) cs; rw [hg]; exact hk, by show G (f (g a)); rw [hg]; exact hG⟩
theorem Opn.weak {α : Type} {P : Program} {t : TypeId} {d : Kd α} {G G' : α → Prop} (h : Opn P t d G) (hg : ∀ a, G a → G' a) : Opn P t d G' := by
  intro H enc w base spare held fuel cs x hx
  obtain ⟨a, hk, hG⟩ := h enc w base spare held fuel cs x hx
  exact ⟨a, hk, hg a hG⟩
end Go.Proofs.Ytepjadcnnakpoaa.Opn
