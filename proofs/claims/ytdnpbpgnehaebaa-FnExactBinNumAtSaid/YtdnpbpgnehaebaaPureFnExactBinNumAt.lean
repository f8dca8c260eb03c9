/- Proved: the law FnExactBinNumAt answers true: the program's BinNumAt and the reference's agree at every text and place. No condition. -/
import Derived.Test.YtdnpbpgnehaebaaPFnExactBinNumAtx1
namespace Go.Proofs.Ytdnpbpgnehaebaa.Pure
open Go.RowKit Go.Proofs.Ytdnpbpgnehaebaa.PFnExactBinNumAt Go.Proofs.YtdnpbpgnehaebaaW.PrintWords Go.Proofs.YtdnpbpgnehaebaaW.PrintLast
theorem w_id {x : Int} (h0 : -9223372036854775808 ≤ x) (h1 : x ≤ 9223372036854775807) : wrap64 x = x := by unfold wrap64; omega
theorem Ev.pos {α : Type} {c : Prop} [Decidable c] {f g : Nat → Option α} {r : α} (h : c) (k : Ev f r) : Ev (fun n => if c then f n else g n) r := Ev.congr (fun _ => if_pos h) k
theorem Ev.neg {α : Type} {c : Prop} [Decidable c] {f g : Nat → Option α} {r : α} (h : ¬ c) (k : Ev g r) : Ev (fun n => if c then f n else g n) r := Ev.congr (fun _ => if_neg h) k
theorem Ev.ite {α : Type} {c : Prop} [Decidable c] {f g : Nat → Option α} {r : α} (h : c → Ev f r) (k : ¬ c → Ev g r) : Ev (fun n => if c then f n else g n) r := by
  by_cases hc : c
  · exact Ev.pos hc (h hc)
  · exact Ev.neg hc (k hc)
theorem Ev.got {α β : Type} {o : Option α} {f : Nat → α → Option β} {a : α} {r : β} (h : o = some a) (k : Ev (fun n => f n a) r) : Ev (fun n => o.bind (f n)) r := Ev.congr (fun _ => by rw [h]; rfl) k
theorem Ev.next {α : Type} {g : Nat → Option α} {r : α} (k : Ev (fun n => g (n + 1)) r) : Ev g r := Ev.step (fun _ => rfl) k
theorem Ev.some_ {α : Type} {a r : α} (h : a = r) : Ev (fun _ => some a) r := ⟨0, fun _ _ => by rw [h]⟩
/-- The number at a place. -/
def numAt (s : ByteArray) (i : Int) : Int × Int × Int :=
  if i < 0 ∨ i ≥ s.size then (0, 0, 2) else if bt s i < 128 then (bt s i, i + 1, 0) else if i + 1 ≥ s.size then (0, 0, 2) else if bt s (i + 1) = 0 ∨ bt s (i + 1) ≥ 128 then (0, 0, 3) else (bt s i - 128 + 128 * bt s (i + 1), i + 2, 0)
theorem numAt_out {s : ByteArray} {i : Int} (h : i < 0 ∨ i ≥ s.size) : numAt s i = (0, 0, 2) := if_pos h
theorem numAt_one {s : ByteArray} {i : Int} (h : 0 ≤ i) (h1 : i < s.size) (c : bt s i < 128) : numAt s i = (bt s i, i + 1, 0) := by unfold numAt; rw [if_neg (by omega), if_pos c]
theorem numAt_short {s : ByteArray} {i : Int} (h : 0 ≤ i) (h1 : i < s.size) (c : ¬ bt s i < 128) (d : i + 1 ≥ s.size) : numAt s i = (0, 0, 2) := by unfold numAt; rw [if_neg (by omega), if_neg c, if_pos d]
theorem numAt_bad {s : ByteArray} {i : Int} (h : 0 ≤ i) (h1 : i + 1 < s.size) (c : ¬ bt s i < 128) (d : bt s (i + 1) = 0 ∨ bt s (i + 1) ≥ 128) : numAt s i = (0, 0, 3) := by unfold numAt; rw [if_neg (by omega), if_neg c, if_neg (by omega), if_pos d]
theorem numAt_two {s : ByteArray} {i : Int} (h : 0 ≤ i) (h1 : i + 1 < s.size) (c : ¬ bt s i < 128) (d : ¬ (bt s (i + 1) = 0 ∨ bt s (i + 1) ≥ 128)) : numAt s i = (bt s i - 128 + 128 * bt s (i + 1), i + 2, 0) := by unfold numAt; rw [if_neg (by omega), if_neg c, if_neg (by omega), if_neg d]
theorem implNumAt_ev (s : ByteArray) (i : Int) (hs : s.size ≤ 140737488355328) : Ev (fun k => impl_BinNumAt.f k s i) (numAt s i) := by
  unfold impl_BinNumAt.f
  by_cases h : i < 0
  · refine Ev.pos h (Ev.next ?_)
    simp only [impl_BinNumAt.j0]
    rw [numAt_out (.inl h)]
    exact Ev.pos trivial (Ev.now _)
  · refine Ev.neg h (Ev.next ?_)
    simp only [impl_BinNumAt.j0]
    by_cases h1 : i ≥ s.size
    · rw [numAt_out (.inr h1)]
      exact Ev.pos (decide_eq_true h1) (Ev.now _)
    · have r0 := bt_range s i
      have r1 := bt_range s (i + 1)
      rw [w_id (x := i + 1) (by omega) (by omega), w_id (x := i + 2) (by omega) (by omega)]
      rw [w_id (x := bt s i) (by omega) (by omega), w_id (x := bt s (i + 1)) (by omega) (by omega)]
      rw [w_id (x := bt s i - 128) (by omega) (by omega), w_id (x := 128 * bt s (i + 1)) (by omega) (by omega), w_id (x := bt s i - 128 + 128 * bt s (i + 1)) (by omega) (by omega)]
      refine Ev.neg (by rw [decide_eq_false h1]; simp) (Ev.pos (by omega) (Ev.pos (by omega) ?_))
      by_cases c : bt s i < 128
      · rw [numAt_one (by omega) (by omega) c]; exact Ev.pos c (Ev.now _)
      · refine Ev.neg c ?_
        by_cases d : i + 1 ≥ s.size
        · rw [numAt_short (by omega) (by omega) c d]; exact Ev.pos d (Ev.now _)
        · refine Ev.neg d (Ev.pos (by omega) (Ev.pos (by omega) ?_))
          by_cases e : bt s (i + 1) = 0
          · rw [numAt_bad (by omega) (by omega) c (.inl e)]; exact Ev.pos e (Ev.now _)
          · refine Ev.neg e ?_
            by_cases g : bt s (i + 1) ≥ 128
            · rw [numAt_bad (by omega) (by omega) c (.inr g)]; exact Ev.pos g (Ev.now _)
            · rw [numAt_two (by omega) (by omega) c (by omega)]; exact Ev.neg g (Ev.now _)
theorem specNumAt_ev (s : ByteArray) (i : Int) (hs : s.size ≤ 140737488355328) : Ev (fun k => spec_BinNumAt.f k s i) (numAt s i) := by
  unfold spec_BinNumAt.f
  by_cases h : i < 0
  · refine Ev.pos h (Ev.next ?_)
    simp only [spec_BinNumAt.j0]
    rw [numAt_out (.inl h)]
    exact Ev.pos trivial (Ev.now _)
  · refine Ev.neg h (Ev.next ?_)
    simp only [spec_BinNumAt.j0]
    by_cases h1 : i ≥ s.size
    · rw [numAt_out (.inr h1)]
      exact Ev.pos (decide_eq_true h1) (Ev.now _)
    · have r0 := bt_range s i
      have r1 := bt_range s (i + 1)
      rw [w_id (x := i + 1) (by omega) (by omega), w_id (x := i + 2) (by omega) (by omega)]
      rw [w_id (x := bt s i) (by omega) (by omega), w_id (x := bt s (i + 1)) (by omega) (by omega)]
      rw [w_id (x := bt s i - 128) (by omega) (by omega), w_id (x := 128 * bt s (i + 1)) (by omega) (by omega), w_id (x := bt s i - 128 + 128 * bt s (i + 1)) (by omega) (by omega)]
      refine Ev.neg (by rw [decide_eq_false h1]; simp) (Ev.pos (by omega) (Ev.pos (by omega) ?_))
      by_cases c : bt s i < 128
      · rw [numAt_one (by omega) (by omega) c]; exact Ev.pos c (Ev.now _)
      · refine Ev.neg c ?_
        by_cases d : i + 1 ≥ s.size
        · rw [numAt_short (by omega) (by omega) c d]; exact Ev.pos d (Ev.now _)
        · refine Ev.neg d (Ev.pos (by omega) (Ev.pos (by omega) ?_))
          by_cases e : bt s (i + 1) = 0
          · rw [numAt_bad (by omega) (by omega) c (.inl e)]; exact Ev.pos e (Ev.now _)
          · refine Ev.neg e ?_
            by_cases g : bt s (i + 1) > 127
            · rw [numAt_bad (by omega) (by omega) c (.inr (by omega))]; exact Ev.pos g (Ev.now _)
            · rw [numAt_two (by omega) (by omega) c (by omega)]; exact Ev.neg g (Ev.now _)
theorem FnExactBinNumAt : laws_FnExactBinNumAt.Pure := by
  intro s i hs _
  apply Ev.rounds
  unfold laws_FnExactBinNumAt.f
  refine Ev.ite (fun _ => Ev.now true) fun _ => ?_
  refine (specNumAt_ev s i (by omega)).bind ?_
  refine (implNumAt_ev s i (by omega)).bind ?_
  exact Ev.pos rfl (Ev.pos rfl (Ev.pos rfl (Ev.now _)))
end Go.Proofs.Ytdnpbpgnehaebaa.Pure
