/- Proved: the law FnExactHeapNew answers true: the program's HeapNew and the reference's agree at all sizes, and each result is new memory. No condition. -/
import Derived.Test.YtgbmfkfmimpaaaaPFnExactHeapNewx2
namespace Go.Proofs.Ytgbmfkfmimpaaaa.Pure
open Go.RowKit Go.Proofs.Ytgbmfkfmimpaaaa.PFnExactHeapNew Go.Proofs.YtgbmfkfmimpaaaaW.PrintWords Go.Proofs.YtgbmfkfmimpaaaaW.PrintLast
theorem w_id {x : Int} (h0 : -9223372036854775808 ≤ x) (h1 : x ≤ 9223372036854775807) : wrap64 x = x := by unfold wrap64; omega
theorem Ev.pos {α : Type} {c : Prop} [Decidable c] {f g : Nat → Option α} {r : α} (h : c) (k : Ev f r) : Ev (fun n => if c then f n else g n) r := Ev.congr (fun _ => if_pos h) k
theorem Ev.neg {α : Type} {c : Prop} [Decidable c] {f g : Nat → Option α} {r : α} (h : ¬ c) (k : Ev g r) : Ev (fun n => if c then f n else g n) r := Ev.congr (fun _ => if_neg h) k
theorem Ev.ite {α : Type} {c : Prop} [Decidable c] {f g : Nat → Option α} {r : α} (h : c → Ev f r) (k : ¬ c → Ev g r) : Ev (fun n => if c then f n else g n) r := by
  by_cases hc : c
  · exact Ev.pos hc (h hc)
  · exact Ev.neg hc (k hc)
theorem Ev.got {α β : Type} {o : Option α} {f : Nat → α → Option β} {a : α} {r : β} (h : o = some a) (k : Ev (fun n => f n a) r) : Ev (fun n => o.bind (f n)) r := Ev.congr (fun _ => by rw [h]; rfl) k
theorem Ev.next {α : Type} {g : Nat → Option α} {r : α} (k : Ev (fun n => g (n + 1)) r) : Ev g r := Ev.step (fun _ => rfl) k
theorem Ev.some_ {α : Type} {a r : α} (h : a = r) : Ev (fun _ => some a) r := ⟨0, fun _ _ => by rw [h]⟩
theorem Ev.ex_ite {α : Type} {c : Prop} [Decidable c] {f g : Nat → Option α} {P : α → Prop} (h : c → ∃ r, Ev f r ∧ P r) (k : ¬ c → ∃ r, Ev g r ∧ P r) : ∃ r, Ev (fun n => if c then f n else g n) r ∧ P r := by
  by_cases hc : c
  · obtain ⟨r, a, b⟩ := h hc
    exact ⟨r, Ev.pos hc a, b⟩
  · obtain ⟨r, a, b⟩ := k hc
    exact ⟨r, Ev.neg hc a, b⟩
/-- A loop that goes on while a test holds. -/
theorem Ev.all {g : Nat → Int → Option Bool} (n : Nat) (p : Nat → Bool)
    (hs : ∀ i : Nat, i < n → p i = true → ∀ r, Ev (fun k => g k ((i : Int) + 1)) r → Ev (fun k => g k (i : Int)) r)
    (hf : ∀ i : Nat, i < n → p i = false → Ev (fun k => g k (i : Int)) false) (he : Ev (fun k => g k (n : Int)) true)
    (b : Bool) (hb : b = true ↔ ∀ j, j < n → p j = true) : Ev (fun k => g k 0) b := by
  have h : ∀ (d i : Nat) (b : Bool), i + d = n → (b = true ↔ ∀ j, i ≤ j → j < n → p j = true) → Ev (fun k => g k (i : Int)) b := by
    intro d
    induction d with
    | zero =>
      intro i b hi hb
      obtain rfl : i = n := by omega
      rw [hb.2 (fun j h1 h2 => by omega)]
      exact he
    | succ d ih =>
      intro i b hi hb
      cases hp : p i with
      | true =>
        refine hs i (by omega) hp _ ?_
        have := ih (i + 1) b (by omega) (hb.trans ⟨fun h j h1 h2 => h j (by omega) h2, fun h j h1 h2 => by
            by_cases e : i = j
            · subst e; exact hp
            · exact h j (by omega) h2⟩)
        simpa using this
      | false =>
        cases b with
        | true => have := hb.1 rfl i (Nat.le_refl _) (by omega); rw [hp] at this; cases this
        | false => exact hf i (by omega) hp
  have := h n 0 b (by omega) (hb.trans ⟨fun h j _ h2 => h j h2, fun h j h2 => h j (by omega) h2⟩)
  simpa using this
theorem getD_eq_iff {α : Type} (z : α) {xs ys : List α} (h : xs.length = ys.length) : (∀ j, j < xs.length → xs.getD j z = ys.getD j z) ↔ xs = ys := by
  constructor
  · intro hj
    apply List.ext_getElem h
    intro j h1 h2
    have := hj j h1
    simpa [List.getD_eq_getElem?_getD, List.getElem?_eq_getElem h1, List.getElem?_eq_getElem h2] using this
  · rintro rfl j _; rfl
/-- A loop that fills a row of the right length from the front. -/
theorem Ev.fill {α : Type} {g : Nat → List α → Int → Option (List α)} (n : Nat) (f : Nat → α)
    (hs : ∀ (i : Nat) (o : List α), i < n → o.length = n → ∀ r, Ev (fun k => g k (o.set i (f i)) ((i : Int) + 1)) r → Ev (fun k => g k o (i : Int)) r)
    (he : ∀ o : List α, o.length = n → Ev (fun k => g k o (n : Int)) o) (o : List α) (ho : o.length = n) : Ev (fun k => g k o 0) ((List.range n).map f) := by
  have h : ∀ (d i : Nat) (o : List α), i + d = n → o.length = n → (∀ j, j < i → o[j]? = some (f j)) → Ev (fun k => g k o (i : Int)) ((List.range n).map f) := by
    intro d
    induction d with
    | zero =>
      intro i o hi hl hj
      obtain rfl : i = n := by omega
      rw [show (List.range i).map f = o from by
        apply List.ext_getElem?
        intro j
        by_cases hjn : j < i
        · rw [hj j hjn]; simp [hjn]
        · rw [List.getElem?_eq_none (by simp; omega), List.getElem?_eq_none (by omega)]]
      exact he o hl
    | succ d ih =>
      intro i o hi hl hj
      refine hs i o (by omega) hl _ ?_
      have := ih (i + 1) (o.set i (f i)) (by omega) (by simpa using hl) (fun j hji => by
        rw [List.getElem?_set]
        by_cases e : i = j
        · subst e; simp [show i < o.length by omega]
        · rw [if_neg e]; exact hj j (by omega))
      simpa using this
  have := h n 0 o (by omega) ho (fun j hj => by omega)
  simpa using this
theorem range_getD {α : Type} (z : α) (xs : List α) : ((List.range xs.length).map fun i => xs.getD i z) = xs := by
  apply List.ext_getElem?
  intro j
  by_cases h : j < xs.length
  · simp [h, List.getD_eq_getElem?_getD]
  · rw [List.getElem?_eq_none (by simp; omega), List.getElem?_eq_none (by omega)]
theorem intsOf {P : Nat → List Int → List Int → Int → Option Bool} (a b : List Int) (hl : a.length ≤ 1000000000) (h : a.length = b.length)
    (hP : ∀ k i, P (k + 1) a b i = if i < (a.length : Int) then (if 0 ≤ i then (if i < (b.length : Int) then (if (rd a i) = (rd b i) then (P k a b (wrap64 (i + 1))) else (some false)) else (none)) else (none)) else (some true)) :
    Ev (fun k => P k a b 0) (a == b) := by
  refine Ev.all (g := fun k i => P k a b i) a.length (fun j => decide (a.getD j 0 = b.getD j 0)) (fun i hi hp r hr => ?_) (fun i hi hp => ?_) ?_ (a == b) (by simp only [beq_iff_eq, decide_eq_true_eq]; exact (getD_eq_iff 0 h).symm)
  · refine Ev.next ?_
    simp only [hP]
    refine Ev.pos (by omega) (Ev.pos (by omega) (Ev.pos (by omega) (Ev.pos (by simpa [rd] using hp) ?_)))
    rw [w_id (by omega) (by omega)]
    exact hr
  · refine Ev.next ?_
    simp only [hP]
    exact Ev.pos (by omega) (Ev.pos (by omega) (Ev.pos (by omega) (Ev.neg (by simpa [rd] using hp) (Ev.now _))))
  · refine Ev.next ?_
    simp only [hP]
    exact Ev.neg (by omega) (Ev.now _)
theorem eqInts_ev (a b : List Int) (hl : a.length ≤ 1000000000) : Ev (fun k => laws_eqIntS.f k a b) (a == b) := by
  unfold laws_eqIntS.f
  refine Ev.ite (fun h => ?_) (fun h => Ev.some_ ?_)
  · exact intsOf a b hl (by omega) (fun k i => rfl)
  · rw [eq_comm, beq_eq_false_iff_ne]; rintro rfl; exact h rfl
/-- What marking lays into a row of numbers. -/
def marked (m : Int) (n : Nat) : List Int := (List.range n).map fun i : Nat => m + (i : Int)
theorem marked_len (m : Int) (n : Nat) : (marked m n).length = n := by simp [marked]
theorem marked_rd (m : Int) (n : Nat) (i : Nat) (h : i < n) : rd (marked m n) (i : Int) = m + i := by simp [marked, rd, List.getD_eq_getElem?_getD, h]
theorem markInts_ev (xs : List Int) (m : Int) (hl : xs.length ≤ 1048576) (h0 : 0 ≤ m) (h1 : m ≤ 1000000000) : Ev (fun k => laws_markIntS.f k xs m) (m + xs.length, marked m xs.length) := by
  unfold laws_markIntS.f
  have h : ∀ (n d i : Nat) (o : List Int), n = xs.length → i + d = n → o.length = n → (∀ j, j < i → o[j]? = some (m + (j : Int))) → Ev (fun k => laws_markIntS.l0 k o (m + (i : Int)) (i : Int)) (m + n, marked m n) := by
    intro n d
    induction d with
    | zero =>
      intro i o hn hi ho hj
      obtain rfl : i = n := by omega
      refine Ev.next ?_
      simp only [laws_markIntS.l0]
      refine Ev.neg (by omega) (Ev.some_ ?_)
      rw [show o = marked m i from by
        apply List.ext_getElem?
        intro j
        by_cases hji : j < i
        · rw [hj j hji]; simp [marked, hji]
        · rw [List.getElem?_eq_none (by omega), List.getElem?_eq_none (by rw [marked_len]; omega)]]
    | succ d ih =>
      intro i o hn hi ho hj
      refine Ev.next ?_
      simp only [laws_markIntS.l0]
      refine Ev.pos (by omega) (Ev.pos (by omega) ?_)
      rw [w_id (x := m + (i : Int) + 1) (by omega) (by omega), w_id (by omega) (by omega)]
      have := ih (i + 1) (o.set i (m + (i : Int))) hn (by omega) (by simpa using ho) (fun j hji => by
        rw [List.getElem?_set]
        by_cases e : i = j
        · subst e; simp [show i < o.length by omega]
        · rw [if_neg e]; exact hj j (by omega))
      simpa [Int.add_assoc] using this
  have := h xs.length xs.length 0 xs rfl (by omega) rfl (fun j hj => by omega)
  simpa using this
theorem heldInts_ev (n : Nat) (m : Int) (hl : n ≤ 1048576) (h0 : 0 ≤ m) (h1 : m ≤ 1000000000) : Ev (fun k => laws_heldIntS.f k (marked m n) m) (m + n) := by
  unfold laws_heldIntS.f
  have h : ∀ (d i : Nat), i + d = n → Ev (fun k => laws_heldIntS.l0 k (marked m n) (m + (i : Int)) (i : Int)) (m + n) := by
    intro d
    induction d with
    | zero =>
      intro i hi
      obtain rfl : i = n := by omega
      refine Ev.next ?_
      simp only [laws_heldIntS.l0, marked_len]
      exact Ev.neg (by omega) (Ev.now _)
    | succ d ih =>
      intro i hi
      refine Ev.next ?_
      simp only [laws_heldIntS.l0, marked_len]
      refine Ev.pos (by omega) (Ev.pos (by omega) (Ev.pos (marked_rd m n i (by omega)) ?_))
      rw [w_id (x := m + (i : Int) + 1) (by omega) (by omega), w_id (by omega) (by omega)]
      have := ih (i + 1) (by omega)
      simpa [Int.add_assoc] using this
  have := h n 0 (by omega)
  simpa using this
theorem heapNew_some (a b : Int) : ∃ l x, l.length ≤ 1000 ∧ spec_HeapNew.f a b = some (l, x, 0, 0, []) := by
  unfold spec_HeapNew.f
  by_cases h1 : a < 1
  · exact ⟨[], 0, by simp, by rw [if_pos h1]⟩
  · by_cases h2 : a > 120
    · exact ⟨[], 0, by simp, by rw [if_neg h1, if_pos h2]⟩
    · by_cases h3 : b < 0
      · exact ⟨[], 0, by simp, by rw [if_neg h1, if_neg h2, if_pos h3]⟩
      · by_cases h4 : b > 40
        · exact ⟨[], 0, by simp, by rw [if_neg h1, if_neg h2, if_neg h3, if_pos h4]⟩
        · rw [if_neg h1, if_neg h2, if_neg h3, if_neg h4, w_id (by omega) (by omega), if_pos (by omega), if_pos (by omega)]
          exact ⟨_, _, by simp; omega, rfl⟩
theorem eqHeap_ev (l : List Int) (x y z : Int) (m : List Int) (hl : l.length ≤ 1048576) (hm : m.length ≤ 1048576) : Ev (fun k => laws_eqHeap.f k l x y z m l x y z m) true := by
  unfold laws_eqHeap.f
  refine (eqInts_ev l l (by omega)).bind (Ev.pos (by simp) (Ev.pos rfl (Ev.pos rfl (Ev.pos rfl ((eqInts_ev m m (by omega)).bind (Ev.pos (by simp) (Ev.now _)))))))
theorem FnExactHeapNew : laws_FnExactHeapNew.Pure := by
  intro a b _ _
  apply Ev.rounds
  unfold laws_FnExactHeapNew.f
  obtain ⟨l, x, hl, hs⟩ := heapNew_some a b
  have hi : impl_HeapNew.f a b = some (l, x, 0, 0, []) := hs
  have e := eqHeap_ev l x 0 0 [] (by omega) (by simp)
  have mk : Ev (fun k => laws_markHeap.f k l x 0 0 [] 1) (1 + l.length, marked 1 l.length, []) := by
    unfold laws_markHeap.f
    refine (markInts_ev l 1 (by omega) (by omega) (by omega)).bind ((markInts_ev [] (1 + l.length) (by simp) (by omega) (by omega)).bind (Ev.some_ ?_))
    simp [marked]
  have hd : Ev (fun k => laws_heldHeap.f k (marked 1 l.length) x 0 0 [] 1) (1 + l.length) := by
    unfold laws_heldHeap.f
    refine (heldInts_ev l.length 1 (by omega) (by omega) (by omega)).bind (Ev.neg (by omega) ?_)
    have := heldInts_ev 0 (1 + l.length) (by omega) (by omega) (by omega)
    simp [marked] at this
    exact this.bind (Ev.neg (by omega) (Ev.now _))
  refine Ev.got hs (Ev.got hi (e.bind (Ev.pos rfl (mk.bind (hd.bind (Ev.neg (by omega) (Ev.pos rfl ?_)))))))
  exact Ev.got hi (e.bind (Ev.pos rfl (hd.bind (Ev.neg (by omega) (Ev.pos rfl (Ev.now _))))))
end Go.Proofs.Ytgbmfkfmimpaaaa.Pure
