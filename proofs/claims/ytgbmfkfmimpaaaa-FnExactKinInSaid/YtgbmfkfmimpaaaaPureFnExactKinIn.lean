/- Proved: the law FnExactKinIn answers true: the program's KinIn and the reference's agree at all lists, and neither list is turned. No condition. -/
import Derived.Test.YtgbmfkfmimpaaaaPFnExactKinInx1
namespace Go.Proofs.Ytgbmfkfmimpaaaa.Pure
open Go.RowKit Go.Proofs.Ytgbmfkfmimpaaaa.PFnExactKinIn Go.Proofs.YtgbmfkfmimpaaaaW.PrintWords Go.Proofs.YtgbmfkfmimpaaaaW.PrintLast
theorem w_id {x : Int} (h0 : -9223372036854775808 ≤ x) (h1 : x ≤ 9223372036854775807) : wrap64 x = x := by unfold wrap64; omega
theorem Ev.pos {α : Type} {c : Prop} [Decidable c] {f g : Nat → Option α} {r : α} (h : c) (k : Ev f r) : Ev (fun n => if c then f n else g n) r := Ev.congr (fun _ => if_pos h) k
theorem Ev.neg {α : Type} {c : Prop} [Decidable c] {f g : Nat → Option α} {r : α} (h : ¬ c) (k : Ev g r) : Ev (fun n => if c then f n else g n) r := Ev.congr (fun _ => if_neg h) k
theorem Ev.ite {α : Type} {c : Prop} [Decidable c] {f g : Nat → Option α} {r : α} (h : c → Ev f r) (k : ¬ c → Ev g r) : Ev (fun n => if c then f n else g n) r := by
  by_cases hc : c
  · exact Ev.pos hc (h hc)
  · exact Ev.neg hc (k hc)
theorem Ev.got {α β : Type} {o : Option α} {f : Nat → α → Option β} {a : α} {r : β} (h : o = some a) (k : Ev (fun n => f n a) r) : Ev (fun n => o.bind (f n)) r := Ev.congr (fun _ => by rw [h]; rfl) k
theorem Ev.next {α : Type} {g : Nat → Option α} {r : α} (k : Ev (fun n => g (n + 1)) r) : Ev g r := Ev.step (fun _ => rfl) k
theorem Ev.some_ {α : Type} {a r : α} (h : a = r) : Ev (fun _ => some a) r := ⟨0, fun _ _ => by rw [h]⟩
theorem toIntS_l0 (x0 : List Int) (hl : x0.length ≤ 1048576) (d : Nat) : ∀ (k i : Nat) (x3 : List Int), i + d = x0.length → x3.length = x0.length → x3.take i = x0.take i → d < k → laws_toIntS.l0 k x0 x3 (i : Int) = some x0 := by
  induction d with
  | zero =>
    intro k i x3 hi h3 ht hk
    obtain ⟨k, rfl⟩ : ∃ m, k = m + 1 := ⟨k - 1, by omega⟩
    simp only [laws_toIntS.l0]
    rw [if_neg (by omega)]
    rw [List.take_of_length_le (by omega), List.take_of_length_le (by omega)] at ht
    rw [ht]
  | succ d ih =>
    intro k i x3 hi h3 ht hk
    obtain ⟨k, rfl⟩ : ∃ m, k = m + 1 := ⟨k - 1, by omega⟩
    simp only [laws_toIntS.l0]
    rw [if_pos (by omega), if_pos (by omega), if_pos (by omega), w_id (by omega) (by omega)]
    refine ih k (i + 1) _ (by omega) (by simpa using h3) ?_ (by omega)
    apply List.ext_getElem?
    intro j
    simp only [List.getElem?_take, List.getElem?_set, Int.toNat_natCast, rd]
    have hg := congrArg (fun l => l[j]?) ht
    simp only [List.getElem?_take] at hg
    by_cases hj : j < i
    · simp [hj, show i ≠ j by omega, show j < i + 1 by omega] at hg ⊢
      exact hg
    · by_cases hji : i = j
      · subst hji
        simp [h3, show i < x0.length by omega, List.getD_eq_getElem?_getD]
      · simp [show ¬ j < i + 1 by omega]

theorem toIntS_ev (x0 : List Int) (hl : x0.length ≤ 1048576) : Ev (fun k => laws_toIntS.f k x0) x0 := by
  refine ⟨x0.length + 1, fun k hk => ?_⟩
  simp only [laws_toIntS.f]
  rw [if_pos (by omega), if_pos (by omega)]
  exact toIntS_l0 x0 hl x0.length k 0 _ (by omega) (by simp) (by simp) (by omega)

theorem eqIntS_l0 (x0 : List Int) (hl : x0.length ≤ 1048576) (d : Nat) : ∀ (k i : Nat), i + d = x0.length → d < k → laws_eqIntS.l0 k x0 x0 (i : Int) = some true := by
  induction d with
  | zero =>
    intro k i hi hk
    obtain ⟨k, rfl⟩ : ∃ m, k = m + 1 := ⟨k - 1, by omega⟩
    simp only [laws_eqIntS.l0]
    rw [if_neg (by omega)]
  | succ d ih =>
    intro k i hi hk
    obtain ⟨k, rfl⟩ : ∃ m, k = m + 1 := ⟨k - 1, by omega⟩
    simp only [laws_eqIntS.l0]
    rw [if_pos (by omega), if_pos (by omega), if_pos (by omega), if_true, w_id (by omega) (by omega)]
    exact ih k (i + 1) (by omega) (by omega)

theorem eqIntS_ev (x0 : List Int) (hl : x0.length ≤ 1048576) : Ev (fun k => laws_eqIntS.f k x0 x0) true := by
  refine ⟨x0.length + 1, fun k hk => ?_⟩
  simp only [laws_eqIntS.f, if_true]
  exact eqIntS_l0 x0 hl x0.length k 0 (by omega) (by omega)
theorem KinIn_some (l0 l1 : List Int) (h1 : l1.length ≤ 1048576) : ∃ b, spec_KinIn.f l0 l1 = some b ∧ impl_KinIn.f l0 l1 = some b := by
  simp only [spec_KinIn.f, impl_KinIn.f]
  rw [w_id (by omega) (by omega)]
  by_cases a : (l1.length : Int) > 0
  · by_cases b : (l1.length : Int) ≤ (l0.length : Int)
    · rw [if_pos a, if_pos b, if_pos (by omega), if_pos (by omega), if_pos (by omega)]
      exact ⟨_, rfl, by rw [if_pos (by omega), if_pos (by omega)]⟩
    · rw [if_pos a, if_neg b]
      exact ⟨_, rfl, by rw [if_pos (by omega), if_neg (by omega)]⟩
  · rw [if_neg a]
    exact ⟨_, rfl, by rw [if_neg (by omega)]⟩

theorem FnExactKinIn : laws_FnExactKinIn.Pure := by
  intro l0 l1 _ _ _ _ _ _
  apply Ev.rounds
  unfold laws_FnExactKinIn.f
  refine Ev.ite (fun _ => Ev.now true) fun h0 => Ev.ite (fun _ => Ev.now true) fun h1 => ?_
  obtain ⟨b, hs, hi⟩ := KinIn_some l0 l1 (by omega)
  have t0 := toIntS_ev l0 (by omega)
  have t1 := toIntS_ev l1 (by omega)
  have e0 := eqIntS_ev l0 (by omega)
  have e1 := eqIntS_ev l1 (by omega)
  refine t0.bind ?_
  refine t1.bind ?_
  refine Ev.got hs ?_
  refine t0.bind ?_
  refine t1.bind ?_
  refine Ev.got hi ?_
  refine Ev.neg (by simp) ?_
  refine t0.bind ?_
  refine e0.bind ?_
  refine Ev.pos rfl ?_
  refine t1.bind ?_
  refine e1.bind ?_
  exact Ev.pos rfl (Ev.now true)
end Go.Proofs.Ytgbmfkfmimpaaaa.Pure
