/- Proved: the law FnExactInsHas answers true: the program's InsHas and the reference's agree at every number. No condition. -/
import Derived.Test.YthomfkdoaembbaaPFnExactInsHasx1
namespace Go.Proofs.Ythomfkdoaembbaa.Pure
open Go.RowKit Go.Proofs.Ythomfkdoaembbaa.PFnExactInsHas Go.Proofs.YthomfkdoaembbaaW.PrintWords Go.Proofs.YthomfkdoaembbaaW.PrintLast
theorem w_id {x : Int} (h0 : -9223372036854775808 ≤ x) (h1 : x ≤ 9223372036854775807) : wrap64 x = x := by unfold wrap64; omega
theorem Ev.pos {α : Type} {c : Prop} [Decidable c] {f g : Nat → Option α} {r : α} (h : c) (k : Ev f r) : Ev (fun n => if c then f n else g n) r := Ev.congr (fun _ => if_pos h) k
theorem Ev.neg {α : Type} {c : Prop} [Decidable c] {f g : Nat → Option α} {r : α} (h : ¬ c) (k : Ev g r) : Ev (fun n => if c then f n else g n) r := Ev.congr (fun _ => if_neg h) k
theorem Ev.ite {α : Type} {c : Prop} [Decidable c] {f g : Nat → Option α} {r : α} (h : c → Ev f r) (k : ¬ c → Ev g r) : Ev (fun n => if c then f n else g n) r := by
  by_cases hc : c
  · exact Ev.pos hc (h hc)
  · exact Ev.neg hc (k hc)
theorem Ev.got {α β : Type} {o : Option α} {f : Nat → α → Option β} {a : α} {r : β} (h : o = some a) (k : Ev (fun n => f n a) r) : Ev (fun n => o.bind (f n)) r := Ev.congr (fun _ => by rw [h]; rfl) k
theorem Ev.next {α : Type} {g : Nat → Option α} {r : α} (k : Ev (fun n => g (n + 1)) r) : Ev g r := Ev.step (fun _ => rfl) k
theorem Ev.some_ {α : Type} {a r : α} (h : a = r) : Ev (fun _ => some a) r := ⟨0, fun _ _ => by rw [h]⟩
theorem Ev.ex_ite {α : Type} {c : Prop} [Decidable c] {f g : Nat → Option α} {P : α → Prop} (h : c → ∃ r, Ev f r ∧ P r) (k : ¬ c → ∃ r, Ev g r ∧ P r) : ∃ r, Ev (fun n => if c then f n else g n) r ∧ P r := by
  by_cases hc : c
  · obtain ⟨r, a, b⟩ := h hc
    exact ⟨r, Ev.pos hc a, b⟩
  · obtain ⟨r, a, b⟩ := k hc
    exact ⟨r, Ev.neg hc a, b⟩
theorem has_other (a : Int) (h : ¬ (1 ≤ a ∧ a ≤ 33) ∨ a = 6 ∨ a = 7 ∨ a = 8 ∨ a = 9 ∨ a = 10 ∨ a = 11 ∨ a = 20 ∨ a = 21 ∨ a = 24 ∨ a = 29 ∨ a = 30 ∨ a = 31 ∨ a = 32) : (0 : Int) = HIns.insHas a := by
  rcases h with h | h
  · unfold HIns.insHas; rw [if_neg h]
  · rcases h with rfl | rfl | rfl | rfl | rfl | rfl | rfl | rfl | rfl | rfl | rfl | rfl | rfl <;> rfl
theorem specHas_ev (a : Int) : Ev (fun k => spec_InsHas.f k a) (HIns.insHas a) := by
  unfold spec_InsHas.f
  refine Ev.ite (fun h => ?_) (fun h => ?_)
  · refine Ev.next ?_
    subst h
    simp only [spec_InsHas.j0]
    exact Ev.pos (by rfl) (Ev.some_ rfl)
  · refine Ev.next ?_
    simp only [spec_InsHas.j0]
    refine Ev.ite (fun h2 => ?_) (fun h2 => ?_)
    · have : a = 15 := by simpa using h2
      subst this
      exact Ev.some_ rfl
    · have h15 : a ≠ 15 := by simpa using h2
      repeat refine Ev.ite (fun h => Ev.some_ (by subst h; rfl)) (fun h => ?_)
      exact Ev.some_ (has_other a (by omega))
theorem FnExactInsHas : laws_FnExactInsHas.Pure := by
  intro a _
  apply Ev.rounds
  unfold laws_FnExactInsHas.f
  exact (specHas_ev a).bind (Ev.got rfl (Ev.pos rfl (Ev.now _)))
end Go.Proofs.Ythomfkdoaembbaa.Pure
