/- Proved: the law FnExactHeapSame answers true: the program's HeapSame and the reference's agree at all heaps, and neither is turned. No condition. -/
import Derived.Test.YtgbmfkfmimpaaaaPFnExactHeapSamex3
namespace Go.Proofs.Ytgbmfkfmimpaaaa.Pure
open Go.RowKit Go.Proofs.Ytgbmfkfmimpaaaa.PFnExactHeapSame Go.Proofs.YtgbmfkfmimpaaaaW.PrintWords Go.Proofs.YtgbmfkfmimpaaaaW.PrintLast
theorem w_id {x : Int} (h0 : -9223372036854775808 ≤ x) (h1 : x ≤ 9223372036854775807) : wrap64 x = x := by unfold wrap64; omega
theorem Ev.pos {α : Type} {c : Prop} [Decidable c] {f g : Nat → Option α} {r : α} (h : c) (k : Ev f r) : Ev (fun n => if c then f n else g n) r := Ev.congr (fun _ => if_pos h) k
theorem Ev.neg {α : Type} {c : Prop} [Decidable c] {f g : Nat → Option α} {r : α} (h : ¬ c) (k : Ev g r) : Ev (fun n => if c then f n else g n) r := Ev.congr (fun _ => if_neg h) k
theorem Ev.ite {α : Type} {c : Prop} [Decidable c] {f g : Nat → Option α} {r : α} (h : c → Ev f r) (k : ¬ c → Ev g r) : Ev (fun n => if c then f n else g n) r := by
  by_cases hc : c
  · exact Ev.pos hc (h hc)
  · exact Ev.neg hc (k hc)
theorem Ev.got {α β : Type} {o : Option α} {f : Nat → α → Option β} {a : α} {r : β} (h : o = some a) (k : Ev (fun n => f n a) r) : Ev (fun n => o.bind (f n)) r := Ev.congr (fun _ => by rw [h]; rfl) k
theorem Ev.next {α : Type} {g : Nat → Option α} {r : α} (k : Ev (fun n => g (n + 1)) r) : Ev g r := Ev.step (fun _ => rfl) k
theorem Ev.some_ {α : Type} {a r : α} (h : a = r) : Ev (fun _ => some a) r := ⟨0, fun _ _ => by rw [h]⟩
theorem Ev.ex_ite {α : Type} {c : Prop} [Decidable c] {f g : Nat → Option α} {P : α → Prop} (h : c → ∃ r, Ev f r ∧ P r) (k : ¬ c → ∃ r, Ev g r ∧ P r) : ∃ r, Ev (fun n => if c then f n else g n) r ∧ P r := by
  by_cases hc : c
  · obtain ⟨r, a, b⟩ := h hc
    exact ⟨r, Ev.pos hc a, b⟩
  · obtain ⟨r, a, b⟩ := k hc
    exact ⟨r, Ev.neg hc a, b⟩
/-- A loop that goes on while a test holds. -/
theorem Ev.all {g : Nat → Int → Option Bool} (n : Nat) (p : Nat → Bool)
    (hs : ∀ i : Nat, i < n → p i = true → ∀ r, Ev (fun k => g k ((i : Int) + 1)) r → Ev (fun k => g k (i : Int)) r)
    (hf : ∀ i : Nat, i < n → p i = false → Ev (fun k => g k (i : Int)) false) (he : Ev (fun k => g k (n : Int)) true)
    (b : Bool) (hb : b = true ↔ ∀ j, j < n → p j = true) : Ev (fun k => g k 0) b := by
  have h : ∀ (d i : Nat) (b : Bool), i + d = n → (b = true ↔ ∀ j, i ≤ j → j < n → p j = true) → Ev (fun k => g k (i : Int)) b := by
    intro d
    induction d with
    | zero =>
      intro i b hi hb
      obtain rfl : i = n := by omega
      rw [hb.2 (fun j h1 h2 => by omega)]
      exact he
    | succ d ih =>
      intro i b hi hb
      cases hp : p i with
      | true =>
        refine hs i (by omega) hp _ ?_
        have := ih (i + 1) b (by omega) (hb.trans ⟨fun h j h1 h2 => h j (by omega) h2, fun h j h1 h2 => by
            by_cases e : i = j
            · subst e; exact hp
            · exact h j (by omega) h2⟩)
        simpa using this
      | false =>
        cases b with
        | true => have := hb.1 rfl i (Nat.le_refl _) (by omega); rw [hp] at this; cases this
        | false => exact hf i (by omega) hp
  have := h n 0 b (by omega) (hb.trans ⟨fun h j _ h2 => h j h2, fun h j h2 => h j (by omega) h2⟩)
  simpa using this
theorem getD_eq_iff {α : Type} (z : α) {xs ys : List α} (h : xs.length = ys.length) : (∀ j, j < xs.length → xs.getD j z = ys.getD j z) ↔ xs = ys := by
  constructor
  · intro hj
    apply List.ext_getElem h
    intro j h1 h2
    have := hj j h1
    simpa [List.getD_eq_getElem?_getD, List.getElem?_eq_getElem h1, List.getElem?_eq_getElem h2] using this
  · rintro rfl j _; rfl
/-- A loop that fills a row of the right length from the front. -/
theorem Ev.fill {α : Type} {g : Nat → List α → Int → Option (List α)} (n : Nat) (f : Nat → α)
    (hs : ∀ (i : Nat) (o : List α), i < n → o.length = n → ∀ r, Ev (fun k => g k (o.set i (f i)) ((i : Int) + 1)) r → Ev (fun k => g k o (i : Int)) r)
    (he : ∀ o : List α, o.length = n → Ev (fun k => g k o (n : Int)) o) (o : List α) (ho : o.length = n) : Ev (fun k => g k o 0) ((List.range n).map f) := by
  have h : ∀ (d i : Nat) (o : List α), i + d = n → o.length = n → (∀ j, j < i → o[j]? = some (f j)) → Ev (fun k => g k o (i : Int)) ((List.range n).map f) := by
    intro d
    induction d with
    | zero =>
      intro i o hi hl hj
      obtain rfl : i = n := by omega
      rw [show (List.range i).map f = o from by
        apply List.ext_getElem?
        intro j
        by_cases hjn : j < i
        · rw [hj j hjn]; simp [hjn]
        · rw [List.getElem?_eq_none (by simp; omega), List.getElem?_eq_none (by omega)]]
      exact he o hl
    | succ d ih =>
      intro i o hi hl hj
      refine hs i o (by omega) hl _ ?_
      have := ih (i + 1) (o.set i (f i)) (by omega) (by simpa using hl) (fun j hji => by
        rw [List.getElem?_set]
        by_cases e : i = j
        · subst e; simp [show i < o.length by omega]
        · rw [if_neg e]; exact hj j (by omega))
      simpa using this
  have := h n 0 o (by omega) ho (fun j hj => by omega)
  simpa using this
theorem range_getD {α : Type} (z : α) (xs : List α) : ((List.range xs.length).map fun i => xs.getD i z) = xs := by
  apply List.ext_getElem?
  intro j
  by_cases h : j < xs.length
  · simp [h, List.getD_eq_getElem?_getD]
  · rw [List.getElem?_eq_none (by simp; omega), List.getElem?_eq_none (by omega)]
theorem intsOf {P : Nat → List Int → List Int → Int → Option Bool} (a b : List Int) (hl : a.length ≤ 1000000000) (h : a.length = b.length)
    (hP : ∀ k i, P (k + 1) a b i = if i < (a.length : Int) then (if 0 ≤ i then (if i < (b.length : Int) then (if (rd a i) = (rd b i) then (P k a b (wrap64 (i + 1))) else (some false)) else (none)) else (none)) else (some true)) :
    Ev (fun k => P k a b 0) (a == b) := by
  refine Ev.all (g := fun k i => P k a b i) a.length (fun j => decide (a.getD j 0 = b.getD j 0)) (fun i hi hp r hr => ?_) (fun i hi hp => ?_) ?_ (a == b) (by simp only [beq_iff_eq, decide_eq_true_eq]; exact (getD_eq_iff 0 h).symm)
  · refine Ev.next ?_
    simp only [hP]
    refine Ev.pos (by omega) (Ev.pos (by omega) (Ev.pos (by omega) (Ev.pos (by simpa [rd] using hp) ?_)))
    rw [w_id (by omega) (by omega)]
    exact hr
  · refine Ev.next ?_
    simp only [hP]
    exact Ev.pos (by omega) (Ev.pos (by omega) (Ev.pos (by omega) (Ev.neg (by simpa [rd] using hp) (Ev.now _))))
  · refine Ev.next ?_
    simp only [hP]
    exact Ev.neg (by omega) (Ev.now _)
theorem eqInts_ev (a b : List Int) (hl : a.length ≤ 1000000000) : Ev (fun k => laws_eqIntS.f k a b) (a == b) := by
  unfold laws_eqIntS.f
  refine Ev.ite (fun h => ?_) (fun h => Ev.some_ ?_)
  · exact intsOf a b hl (by omega) (fun k i => rfl)
  · rw [eq_comm, beq_eq_false_iff_ne]; rintro rfl; exact h rfl
theorem toInts_ev (xs : List Int) (hl : xs.length ≤ 1048576) : Ev (fun k => laws_toIntS.f k xs) xs := by
  unfold laws_toIntS.f
  refine Ev.pos (by omega) (Ev.pos (by omega) ?_)
  have := Ev.fill (g := fun k o i => laws_toIntS.l0 k xs o i) xs.length (fun i => xs.getD i 0) (fun i o hi ho r hr => ?_) (fun o ho => ?_) (List.replicate ((xs.length : Int) : Int).toNat 0) (by simp)
  · rw [range_getD] at this; exact this
  · refine Ev.next ?_
    simp only [laws_toIntS.l0]
    refine Ev.pos (by omega) (Ev.pos (by omega) (Ev.pos (by omega) ?_))
    rw [w_id (by omega) (by omega)]
    simpa [rd] using hr
  · refine Ev.next ?_
    simp only [laws_toIntS.l0]
    exact Ev.neg (by omega) (Ev.now _)
theorem l5Ints_ev (a b : List Int) (hl : a.length ≤ 1000000000) : Ev (fun k => spec_l5Ints.f k a b) (a == b) := by
  unfold spec_l5Ints.f
  refine Ev.ite (fun h => ?_) (fun h => Ev.some_ ?_)
  · exact intsOf a b hl (by omega) (fun k i => rfl)
  · rw [eq_comm, beq_eq_false_iff_ne]; rintro rfl; exact h rfl
theorem equal_ev (a b : List Int) (hl : a.length ≤ 1000000000) : Ev (fun k => slices_Equal_int_int.f k a b) (a == b) := by
  unfold slices_Equal_int_int.f
  refine Ev.ite (fun h => ?_) (fun h => Ev.some_ ?_)
  · refine intsOf (P := fun k a b i => slices_Equal_int_int.l0 k a b (a.length : Int) i) a b hl (by omega) (fun k i => ?_)
    simp only [slices_Equal_int_int.l0]
    by_cases h1 : i < (a.length : Int)
    · rw [if_pos h1, if_pos h1, if_pos h1]
    · rw [if_neg h1, if_neg h1]
  · rw [eq_comm, beq_eq_false_iff_ne]; rintro rfl; exact h rfl
theorem szInts (l : List Int) (a : Int) (hl : l.length ≤ maxLen) (ha : 0 ≤ a) (ha1 : a ≤ 1048576) : ∃ r, laws_szIntS.f l a = some r ∧ r ≤ 1048576 ∧ (0 ≤ r → l.length ≤ 1048576) := by
  have hm : maxLen = 9223372036854775807 := rfl
  unfold laws_szIntS.f
  rw [w_id (by omega) (by omega)]
  split
  · exact ⟨_, rfl, by omega, fun h => by omega⟩
  · exact ⟨_, rfl, by omega, fun h => by omega⟩
theorem szHeap (l : List Int) (x y z : Int) (m : List Int) (a : Int) (hl : l.length ≤ maxLen) (hm : m.length ≤ maxLen) (ha : 0 ≤ a) (ha1 : a ≤ 1048576) : ∃ r, laws_szHeap.f l x y z m a = some r ∧ r ≤ 1048576 ∧ (0 ≤ r → l.length ≤ 1048576 ∧ m.length ≤ 1048576) := by
  unfold laws_szHeap.f
  obtain ⟨r, hr, r1, r2⟩ := szInts l a hl ha ha1
  rw [hr]
  simp only [Option.bind_some]
  by_cases c : r < 0
  · rw [if_pos c]; exact ⟨_, rfl, by omega, fun h => by omega⟩
  · rw [if_neg c]
    obtain ⟨s, hs, s1, s2⟩ := szInts m r hm (by omega) r1
    rw [hs]
    simp only [Option.bind_some]
    by_cases d : s < 0
    · rw [if_pos d]; exact ⟨_, rfl, by omega, fun h => by omega⟩
    · rw [if_neg d]; exact ⟨_, rfl, s1, fun _ => ⟨r2 (by omega), s2 (by omega)⟩⟩
theorem toHeap_ev (l : List Int) (x y z : Int) (m : List Int) (hl : l.length ≤ 1048576) (hm : m.length ≤ 1048576) : Ev (fun k => laws_toHeap.f k l x y z m) (l, x, y, z, m) := by
  unfold laws_toHeap.f
  exact (toInts_ev l hl).bind ((toInts_ev m hm).bind (Ev.now _))
theorem eqHeap_ev (l : List Int) (x y z : Int) (m : List Int) (hl : l.length ≤ 1048576) (hm : m.length ≤ 1048576) : Ev (fun k => laws_eqHeap.f k l x y z m l x y z m) true := by
  unfold laws_eqHeap.f
  refine (eqInts_ev l l (by omega)).bind (Ev.pos (by simp) (Ev.pos rfl (Ev.pos rfl (Ev.pos rfl ((eqInts_ev m m (by omega)).bind (Ev.pos (by simp) (Ev.now _)))))))
theorem FnExactHeapSame : laws_FnExactHeapSame.Pure := by
  intro l x y z m l' x' y' z' m' hl _ _ _ hm hl' _ _ _ hm'
  apply Ev.rounds
  unfold laws_FnExactHeapSame.f
  obtain ⟨r, hr, r1, r2⟩ := szHeap l x y z m 1048576 hl.1 hm.1 (by omega) (by omega)
  refine Ev.got hr (Ev.ite (fun _ => Ev.now _) fun c => ?_)
  obtain ⟨s, hs, s1, s2⟩ := szHeap l' x' y' z' m' r hl'.1 hm'.1 (by omega) r1
  refine Ev.got hs (Ev.ite (fun _ => Ev.now _) fun d => ?_)
  obtain ⟨b1, b2⟩ := r2 (by omega)
  obtain ⟨b3, b4⟩ := s2 (by omega)
  have t := toHeap_ev l x y z m b1 b2
  have t' := toHeap_ev l' x' y' z' m' b3 b4
  have spec : Ev (fun k => spec_HeapSame.f k l x y z m l' x' y' z' m') (decide (x = x' ∧ y = y' ∧ z = z') && ((l == l') && (m == m'))) := by
    unfold spec_HeapSame.f
    refine Ev.ite (fun h1 => Ev.ite (fun h2 => Ev.ite (fun h3 => ?_) (fun h => Ev.some_ ?_)) (fun h => Ev.some_ ?_)) (fun h => Ev.some_ ?_)
    · refine (l5Ints_ev l l' (by omega)).bind (Ev.ite (fun h => (l5Ints_ev m m' (by omega)).bind (Ev.some_ ?_)) (fun h => Ev.some_ ?_))
      · simp [h1, h2, h3, h]
      · simp at h; simp [h]
    all_goals simp [h]
  have impl : Ev (fun k => impl_HeapSame.f k l x y z m l' x' y' z' m') (decide (x = x' ∧ y = y' ∧ z = z') && ((l == l') && (m == m'))) := by
    unfold impl_HeapSame.f
    refine (equal_ev l l' (by omega)).bind (Ev.ite (fun h => Ev.ite (fun h1 => Ev.ite (fun h2 => Ev.ite (fun h3 => ?_) (fun h => Ev.some_ ?_)) (fun h => Ev.some_ ?_)) (fun h => Ev.some_ ?_)) (fun h => Ev.some_ ?_))
    · refine (equal_ev m m' (by omega)).bind (Ev.some_ ?_)
      simp [h1, h2, h3, h]
    · simp [h]
    · simp [h]
    · simp [h]
    · simp at h; simp [h]
  refine t.bind (t'.bind (spec.bind (t.bind (t'.bind (impl.bind (Ev.neg (by simp) (t.bind ((eqHeap_ev l x y z m b1 b2).bind (Ev.pos rfl (t'.bind ((eqHeap_ev l' x' y' z' m' b3 b4).bind (Ev.pos rfl (Ev.now _)))))))))))))
end Go.Proofs.Ytgbmfkfmimpaaaa.Pure
