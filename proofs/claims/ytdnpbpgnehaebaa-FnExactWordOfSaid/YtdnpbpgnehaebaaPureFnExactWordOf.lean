/- Proved: the law FnExactWordOf answers true: the program's WordOf and the reference's agree at every value. No condition. -/
import Derived.Test.YtdnpbpgnehaebaaPFnExactWordOfx1
namespace Go.Proofs.Ytdnpbpgnehaebaa.Pure
open Go.RowKit Go.Proofs.Ytdnpbpgnehaebaa.PFnExactWordOf Go.Proofs.YtdnpbpgnehaebaaW.PrintWords Go.Proofs.YtdnpbpgnehaebaaW.PrintLast
theorem w_id {x : Int} (h0 : -9223372036854775808 ≤ x) (h1 : x ≤ 9223372036854775807) : wrap64 x = x := by unfold wrap64; omega
theorem Ev.pos {α : Type} {c : Prop} [Decidable c] {f g : Nat → Option α} {r : α} (h : c) (k : Ev f r) : Ev (fun n => if c then f n else g n) r := Ev.congr (fun _ => if_pos h) k
theorem Ev.neg {α : Type} {c : Prop} [Decidable c] {f g : Nat → Option α} {r : α} (h : ¬ c) (k : Ev g r) : Ev (fun n => if c then f n else g n) r := Ev.congr (fun _ => if_neg h) k
theorem Ev.ite {α : Type} {c : Prop} [Decidable c] {f g : Nat → Option α} {r : α} (h : c → Ev f r) (k : ¬ c → Ev g r) : Ev (fun n => if c then f n else g n) r := by
  by_cases hc : c
  · exact Ev.pos hc (h hc)
  · exact Ev.neg hc (k hc)
theorem Ev.got {α β : Type} {o : Option α} {f : Nat → α → Option β} {a : α} {r : β} (h : o = some a) (k : Ev (fun n => f n a) r) : Ev (fun n => o.bind (f n)) r := Ev.congr (fun _ => by rw [h]; rfl) k
theorem Ev.next {α : Type} {g : Nat → Option α} {r : α} (k : Ev (fun n => g (n + 1)) r) : Ev g r := Ev.step (fun _ => rfl) k
theorem Ev.some_ {α : Type} {a r : α} (h : a = r) : Ev (fun _ => some a) r := ⟨0, fun _ _ => by rw [h]⟩
theorem Ev.ex_ite {α : Type} {c : Prop} [Decidable c] {f g : Nat → Option α} {P : α → Prop} (h : c → ∃ r, Ev f r ∧ P r) (k : ¬ c → ∃ r, Ev g r ∧ P r) : ∃ r, Ev (fun n => if c then f n else g n) r ∧ P r := by
  by_cases hc : c
  · obtain ⟨r, a, b⟩ := h hc
    exact ⟨r, Ev.pos hc a, b⟩
  · obtain ⟨r, a, b⟩ := k hc
    exact ⟨r, Ev.neg hc a, b⟩
/-- The word of a value. -/
def word (K N : Int) : Int := if K = 1 ∧ 0 ≤ N ∧ N < 9973 then N else if K = 3 ∧ 0 ≤ N ∧ N < 9973 then 2 * N + 1 else if K = 4 ∧ 0 ≤ N ∧ N < 160 then 2 * N + 2 else 0
theorem isNum_eq (n : Int) : impl_isNum.f n = some (decide (0 ≤ n ∧ n < 9973)) := by
  unfold impl_isNum.f
  by_cases h : n ≥ 0
  · rw [if_pos h]; simp [h]
  · rw [if_neg h]; simp; omega
theorem implWordOf_ev (K N : Int) : Ev (fun k => impl_WordOf.f k K N) (word K N) := by
  have j1 : ∀ b : Bool, b = decide (K = 3 ∧ 0 ≤ N ∧ N < 9973) → ¬ (K = 1 ∧ 0 ≤ N ∧ N < 9973) → Ev (fun k => impl_WordOf.j1 k b K N) (word K N) := by
    intro b hb h1
    refine Ev.next ?_
    simp only [impl_WordOf.j1]
    refine Ev.ite (fun c => ?_) (fun c => ?_)
    · have c' : K = 3 ∧ 0 ≤ N ∧ N < 9973 := by rw [hb] at c; simpa using c
      refine Ev.some_ ?_
      rw [w_id (x := 2 * N) (by omega) (by omega), w_id (by omega) (by omega)]
      unfold word; (repeat' split) <;> omega
    · have c' : ¬ (K = 3 ∧ 0 ≤ N ∧ N < 9973) := by rw [hb] at c; simpa using c
      refine Ev.ite (fun d => Ev.ite (fun e => Ev.ite (fun g => Ev.some_ ?_) (fun g => Ev.some_ ?_)) (fun e => Ev.some_ ?_)) (fun d => Ev.some_ ?_)
      · rw [w_id (x := 2 * N) (by omega) (by omega), w_id (by omega) (by omega)]
        unfold word; (repeat' split) <;> omega
      all_goals unfold word; (repeat' split) <;> omega
  have j0 : ∀ b : Bool, b = decide (K = 1 ∧ 0 ≤ N ∧ N < 9973) → Ev (fun k => impl_WordOf.j0 k b K N) (word K N) := by
    intro b hb
    refine Ev.next ?_
    simp only [impl_WordOf.j0]
    refine Ev.ite (fun c => ?_) (fun c => ?_)
    · have c' : K = 1 ∧ 0 ≤ N ∧ N < 9973 := by rw [hb] at c; simpa using c
      refine Ev.some_ ?_
      unfold word; (repeat' split) <;> omega
    · have c' : ¬ (K = 1 ∧ 0 ≤ N ∧ N < 9973) := by rw [hb] at c; simpa using c
      by_cases d : K = 3
      · exact Ev.pos d (Ev.got (isNum_eq N) (j1 _ (by simp [d]) c'))
      · exact Ev.neg d (j1 _ (by simp [d]) c')
  unfold impl_WordOf.f
  by_cases h : K = 1
  · exact Ev.pos h (Ev.got (isNum_eq N) (j0 _ (by simp [h])))
  · exact Ev.neg h (j0 _ (by simp [h]))
/-- Whether a value has the form of its kind. -/
def form (K N : Int) : Bool := if K = 1 ∨ K = 3 then decide (0 ≤ N ∧ N < 9973) else if K = 2 then N == 0 else if K = 4 then decide (0 ≤ N ∧ N < 160) else false
theorem specForm_ev (K N : Int) : Ev (fun k => spec_l5Form.f k K N 160) (form K N) := by
  have num : spec_l5Number.f N = some (decide (0 ≤ N ∧ N < 9973)) := by
    unfold spec_l5Number.f
    by_cases h : N ≥ 0
    · rw [if_pos h]; simp [h]
    · rw [if_neg h]; simp; omega
  have j0 : ∀ b : Bool, b = decide (K = 1 ∨ K = 3) → Ev (fun k => spec_l5Form.j0 k 160 K b K N) (form K N) := by
    intro b hb
    refine Ev.next ?_
    simp only [spec_l5Form.j0]
    refine Ev.ite (fun c => Ev.got num (Ev.some_ ?_)) (fun c => Ev.ite (fun d => Ev.some_ ?_) (fun d => Ev.ite (fun e => Ev.ite (fun g => Ev.some_ ?_) (fun g => Ev.some_ ?_)) (fun e => Ev.some_ ?_)))
    · have c' : K = 1 ∨ K = 3 := by rw [hb] at c; simpa using c
      unfold form; rw [if_pos c']
    all_goals have c' : ¬ (K = 1 ∨ K = 3) := by rw [hb] at c; simpa using c
    all_goals unfold form; rw [if_neg c']
    · rw [if_pos d]
    · rw [if_neg d, if_pos e]; simp [g]
    · rw [if_neg d, if_pos e]; simp; omega
    · rw [if_neg d, if_neg e]
  unfold spec_l5Form.f
  by_cases h : K = 1
  · exact Ev.pos h (j0 _ (by simp [h]))
  · exact Ev.neg h (j0 _ (by simp [h]; rfl))
theorem form_ev (K N : Int) : Ev (fun k => spec_l7Form.f k K N) (form K N) := by
  unfold spec_l7Form.f
  exact Ev.got rfl ((specForm_ev K N).bind (Ev.now _))
theorem specWordOf_ev (K N : Int) : Ev (fun k => spec_WordOf.f k K N) (word K N) := by
  unfold spec_WordOf.f
  refine (form_ev K N).bind ?_
  refine Ev.ite (fun c => ?_) (fun c => Ev.some_ ?_)
  · have hN : -1000000 ≤ N ∧ N ≤ 1000000 ∨ ¬ (K = 3 ∨ K = 4) := by
      unfold form at c
      by_cases h : K = 3 ∨ K = 4
      · rcases h with h | h <;> · subst h; simp at c; omega
      · exact .inr h
    unfold form at c
    refine Ev.ite (fun d => Ev.some_ ?_) (fun d => Ev.ite (fun e => Ev.some_ ?_) (fun e => Ev.ite (fun g => Ev.some_ ?_) (fun g => Ev.some_ ?_)))
    · subst d; simp at c; unfold word; (repeat' split) <;> omega
    · subst e; simp at c
      rw [w_id (x := 2 * N) (by omega) (by omega), w_id (by omega) (by omega)]
      unfold word; (repeat' split) <;> omega
    · subst g; simp at c
      rw [w_id (x := 2 * N) (by omega) (by omega), w_id (by omega) (by omega)]
      unfold word; (repeat' split) <;> omega
    · unfold word; (repeat' split) <;> omega
  · unfold form at c
    unfold word
    (repeat' split) <;> first | rfl | (exfalso; rename_i h; obtain ⟨rfl, h1, h2⟩ := h; simp at c; omega)
theorem FnExactWordOf : laws_FnExactWordOf.Pure := by
  intro K N _ _
  apply Ev.rounds
  unfold laws_FnExactWordOf.f laws_toVal.f
  exact Ev.got rfl ((specWordOf_ev K N).bind (Ev.got rfl ((implWordOf_ev K N).bind (Ev.pos rfl (Ev.now _)))))
end Go.Proofs.Ytdnpbpgnehaebaa.Pure
