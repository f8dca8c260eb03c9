/- Proved: the law FnExactNumDo answers true: the program's NumDo and the reference's agree at every kind and all numbers. No condition. -/
import Derived.Test.YtdnpbpgnehaebaaPFnExactNumDox1
namespace Go.Proofs.Ytdnpbpgnehaebaa.Pure
open Go.RowKit Go.Proofs.Ytdnpbpgnehaebaa.PFnExactNumDo Go.Proofs.YtdnpbpgnehaebaaW.PrintWords Go.Proofs.YtdnpbpgnehaebaaW.PrintLast
theorem w_id {x : Int} (h0 : -9223372036854775808 ≤ x) (h1 : x ≤ 9223372036854775807) : wrap64 x = x := by unfold wrap64; omega
theorem Ev.pos {α : Type} {c : Prop} [Decidable c] {f g : Nat → Option α} {r : α} (h : c) (k : Ev f r) : Ev (fun n => if c then f n else g n) r := Ev.congr (fun _ => if_pos h) k
theorem Ev.neg {α : Type} {c : Prop} [Decidable c] {f g : Nat → Option α} {r : α} (h : ¬ c) (k : Ev g r) : Ev (fun n => if c then f n else g n) r := Ev.congr (fun _ => if_neg h) k
theorem Ev.ite {α : Type} {c : Prop} [Decidable c] {f g : Nat → Option α} {r : α} (h : c → Ev f r) (k : ¬ c → Ev g r) : Ev (fun n => if c then f n else g n) r := by
  by_cases hc : c
  · exact Ev.pos hc (h hc)
  · exact Ev.neg hc (k hc)
theorem Ev.got {α β : Type} {o : Option α} {f : Nat → α → Option β} {a : α} {r : β} (h : o = some a) (k : Ev (fun n => f n a) r) : Ev (fun n => o.bind (f n)) r := Ev.congr (fun _ => by rw [h]; rfl) k
theorem Ev.next {α : Type} {g : Nat → Option α} {r : α} (k : Ev (fun n => g (n + 1)) r) : Ev g r := Ev.step (fun _ => rfl) k
theorem Ev.some_ {α : Type} {a r : α} (h : a = r) : Ev (fun _ => some a) r := ⟨0, fun _ _ => by rw [h]⟩
theorem Ev.ex_ite {α : Type} {c : Prop} [Decidable c] {f g : Nat → Option α} {P : α → Prop} (h : c → ∃ r, Ev f r ∧ P r) (k : ¬ c → ∃ r, Ev g r ∧ P r) : ∃ r, Ev (fun n => if c then f n else g n) r ∧ P r := by
  by_cases hc : c
  · obtain ⟨r, a, b⟩ := h hc
    exact ⟨r, Ev.pos hc a, b⟩
  · obtain ⟨r, a, b⟩ := k hc
    exact ⟨r, Ev.neg hc a, b⟩
theorem nd7 (a b : Int) : HNumDo.numDo 7 a b = (a + b) % 9973 := by unfold HNumDo.numDo; simp
theorem nd8 (a b : Int) : HNumDo.numDo 8 a b = (a * b) % 9973 := by unfold HNumDo.numDo; simp [← Int.mul_emod]
theorem nd9 (a b : Int) : HNumDo.numDo 9 a b = if a % 9973 < b % 9973 then 1 else 0 := by unfold HNumDo.numDo; simp
theorem nd_range (op a b : Int) : 0 ≤ HNumDo.numDo op a b ∧ HNumDo.numDo op a b < 9973 := by
  unfold HNumDo.numDo
  repeat' split
  all_goals omega
theorem nd_comm (op a b : Int) (h : op ≠ 9) : HNumDo.numDo op a b = HNumDo.numDo op b a := by
  by_cases h7 : op = 7
  · subst h7; rw [nd7, nd7, Int.add_comm]
  · by_cases h8 : op = 8
    · subst h8; rw [nd8, nd8, Int.mul_comm]
    · unfold HNumDo.numDo; rw [if_neg h7, if_neg h8, if_neg h, if_neg h7, if_neg h8, if_neg h]
theorem implNumDo_eq (op a b : Int) : impl_NumDo.f op a b = some (HNumDo.numDo op a b) := rfl
theorem l2Mod_eq (a : Int) : spec_l2Mod.f a = some (a % 9973) := by
  have h1 := Int.tmod_lt_of_pos a (show (0:Int) < 9973 by omega)
  have h2 := Int.lt_tmod_of_pos a (show (0:Int) < 9973 by omega)
  have h3 := HNumDo.tmod_add a
  unfold spec_l2Mod.f
  split
  · rw [w_id (by omega) (by omega), ← h3, Int.emod_eq_of_lt (by omega) (by omega)]
  · rw [← h3]; congr 1; omega
theorem specNumDo_eq (op a b : Int) : spec_NumDo.f op a b = some (HNumDo.numDo op a b) := by
  have hm := HNumDo.mul_bounds (a % 9973) (b % 9973) (by omega) (by omega) (by omega) (by omega)
  unfold spec_NumDo.f
  rw [l2Mod_eq, l2Mod_eq]
  simp only [Option.bind_some]
  rw [w_id (x := a % 9973 + b % 9973) (by omega) (by omega), w_id (x := a % 9973 * (b % 9973)) (by omega) (by omega), l2Mod_eq, l2Mod_eq]
  unfold HNumDo.numDo
  by_cases h7 : op = 7
  · simp only [if_pos h7, Option.bind_some]
  · by_cases h8 : op = 8
    · simp only [if_neg h7, if_pos h8, Option.bind_some]
    · by_cases h9 : op = 9
      · simp only [if_neg h7, if_neg h8, if_pos h9]; split <;> rfl
      · simp only [if_neg h7, if_neg h8, if_neg h9]
theorem FnExactNumDo : laws_FnExactNumDo.Pure := by
  intro op a b _ _ _
  unfold laws_FnExactNumDo.f
  rw [specNumDo_eq, implNumDo_eq]
  simp
end Go.Proofs.Ytdnpbpgnehaebaa.Pure
