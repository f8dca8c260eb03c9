/- Proved: the law FnExactBinOfNum answers true: the program's BinOfNum and the reference's agree at every number. No condition. -/
import Derived.Test.YtdnpbpgnehaebaaPFnExactBinOfNumx1
namespace Go.Proofs.Ytdnpbpgnehaebaa.Pure
open Go.RowKit Go.Proofs.Ytdnpbpgnehaebaa.PFnExactBinOfNum Go.Proofs.YtdnpbpgnehaebaaW.PrintWords Go.Proofs.YtdnpbpgnehaebaaW.PrintLast
theorem w_id {x : Int} (h0 : -9223372036854775808 ≤ x) (h1 : x ≤ 9223372036854775807) : wrap64 x = x := by unfold wrap64; omega
theorem Ev.pos {α : Type} {c : Prop} [Decidable c] {f g : Nat → Option α} {r : α} (h : c) (k : Ev f r) : Ev (fun n => if c then f n else g n) r := Ev.congr (fun _ => if_pos h) k
theorem Ev.neg {α : Type} {c : Prop} [Decidable c] {f g : Nat → Option α} {r : α} (h : ¬ c) (k : Ev g r) : Ev (fun n => if c then f n else g n) r := Ev.congr (fun _ => if_neg h) k
theorem Ev.ite {α : Type} {c : Prop} [Decidable c] {f g : Nat → Option α} {r : α} (h : c → Ev f r) (k : ¬ c → Ev g r) : Ev (fun n => if c then f n else g n) r := by
  by_cases hc : c
  · exact Ev.pos hc (h hc)
  · exact Ev.neg hc (k hc)
theorem Ev.got {α β : Type} {o : Option α} {f : Nat → α → Option β} {a : α} {r : β} (h : o = some a) (k : Ev (fun n => f n a) r) : Ev (fun n => o.bind (f n)) r := Ev.congr (fun _ => by rw [h]; rfl) k
theorem Ev.next {α : Type} {g : Nat → Option α} {r : α} (k : Ev (fun n => g (n + 1)) r) : Ev g r := Ev.step (fun _ => rfl) k
theorem Ev.some_ {α : Type} {a r : α} (h : a = r) : Ev (fun _ => some a) r := ⟨0, fun _ _ => by rw [h]⟩
theorem same_j0 : impl_BinOfNum.j0 = spec_BinOfNum.j0 := by
  funext k
  cases k <;> rfl
theorem same_f : impl_BinOfNum.f = spec_BinOfNum.f := by
  funext k a
  unfold impl_BinOfNum.f spec_BinOfNum.f
  rw [same_j0]
theorem spec_some (n : Int) : ∃ r, Ev (fun k => spec_BinOfNum.f k n) r := by
  have h : ∀ b : Bool, ∃ r, Ev (fun k => spec_BinOfNum.j0 k n b) r := by
    intro b
    by_cases hb : b = true
    · exact ⟨_, Ev.next (by simp only [spec_BinOfNum.j0]; exact Ev.pos hb (Ev.now _))⟩
    · by_cases hn : n < 128
      · exact ⟨_, Ev.next (by simp only [spec_BinOfNum.j0]; exact Ev.neg hb (Ev.pos hn (Ev.now _)))⟩
      · exact ⟨_, Ev.next (by simp only [spec_BinOfNum.j0]; exact Ev.neg hb (Ev.neg hn (Ev.now _)))⟩
  unfold spec_BinOfNum.f
  by_cases hn : n < 0
  · obtain ⟨r, hr⟩ := h true
    exact ⟨r, Ev.pos hn hr⟩
  · obtain ⟨r, hr⟩ := h (decide (n > 16383))
    exact ⟨r, Ev.neg hn hr⟩
theorem FnExactBinOfNum : laws_FnExactBinOfNum.Pure := by
  intro n _
  apply Ev.rounds
  unfold laws_FnExactBinOfNum.f
  obtain ⟨r, hr⟩ := spec_some n
  refine hr.bind ?_
  rw [same_f]
  refine hr.bind ?_
  exact Ev.pos rfl (Ev.now _)
end Go.Proofs.Ytdnpbpgnehaebaa.Pure
