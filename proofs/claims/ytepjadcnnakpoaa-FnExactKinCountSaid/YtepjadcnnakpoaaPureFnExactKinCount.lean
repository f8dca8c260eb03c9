/- Proved: the law FnExactKinCount answers true: the program's KinCount counts what the reference's counts, for all groups, and turns nothing. No condition. -/
import Derived.Test.YtepjadcnnakpoaaPFnExactKinCountx4
namespace Go.Proofs.Ytepjadcnnakpoaa.Pure
open Go.RowKit Go.Proofs.Ytepjadcnnakpoaa.PFnExactKinCount Go.Proofs.YtepjadcnnakpoaaW.PrintWords Go.Proofs.YtepjadcnnakpoaaW.PrintLast
theorem w_id {x : Int} (h0 : -9223372036854775808 ≤ x) (h1 : x ≤ 9223372036854775807) : wrap64 x = x := by unfold wrap64; omega
theorem Ev.pos {α : Type} {c : Prop} [Decidable c] {f g : Nat → Option α} {r : α} (h : c) (k : Ev f r) : Ev (fun n => if c then f n else g n) r := Ev.congr (fun _ => if_pos h) k
theorem Ev.neg {α : Type} {c : Prop} [Decidable c] {f g : Nat → Option α} {r : α} (h : ¬ c) (k : Ev g r) : Ev (fun n => if c then f n else g n) r := Ev.congr (fun _ => if_neg h) k
theorem Ev.ite {α : Type} {c : Prop} [Decidable c] {f g : Nat → Option α} {r : α} (h : c → Ev f r) (k : ¬ c → Ev g r) : Ev (fun n => if c then f n else g n) r := by
  by_cases hc : c
  · exact Ev.pos hc (h hc)
  · exact Ev.neg hc (k hc)
theorem Ev.got {α β : Type} {o : Option α} {f : Nat → α → Option β} {a : α} {r : β} (h : o = some a) (k : Ev (fun n => f n a) r) : Ev (fun n => o.bind (f n)) r := Ev.congr (fun _ => by rw [h]; rfl) k
theorem Ev.next {α : Type} {g : Nat → Option α} {r : α} (k : Ev (fun n => g (n + 1)) r) : Ev g r := Ev.step (fun _ => rfl) k
theorem Ev.some_ {α : Type} {a r : α} (h : a = r) : Ev (fun _ => some a) r := ⟨0, fun _ _ => by rw [h]⟩
theorem Ev.ex_ite {α : Type} {c : Prop} [Decidable c] {f g : Nat → Option α} {P : α → Prop} (h : c → ∃ r, Ev f r ∧ P r) (k : ¬ c → ∃ r, Ev g r ∧ P r) : ∃ r, Ev (fun n => if c then f n else g n) r ∧ P r := by
  by_cases hc : c
  · obtain ⟨r, a, b⟩ := h hc
    exact ⟨r, Ev.pos hc a, b⟩
  · obtain ⟨r, a, b⟩ := k hc
    exact ⟨r, Ev.neg hc a, b⟩
/-- A loop that goes on while a test holds. -/
theorem Ev.all {g : Nat → Int → Option Bool} (n : Nat) (p : Nat → Bool)
    (hs : ∀ i : Nat, i < n → p i = true → ∀ r, Ev (fun k => g k ((i : Int) + 1)) r → Ev (fun k => g k (i : Int)) r)
    (hf : ∀ i : Nat, i < n → p i = false → Ev (fun k => g k (i : Int)) false) (he : Ev (fun k => g k (n : Int)) true)
    (b : Bool) (hb : b = true ↔ ∀ j, j < n → p j = true) : Ev (fun k => g k 0) b := by
  have h : ∀ (d i : Nat) (b : Bool), i + d = n → (b = true ↔ ∀ j, i ≤ j → j < n → p j = true) → Ev (fun k => g k (i : Int)) b := by
    intro d
    induction d with
    | zero =>
      intro i b hi hb
      obtain rfl : i = n := by omega
      rw [hb.2 (fun j h1 h2 => by omega)]
      exact he
    | succ d ih =>
      intro i b hi hb
      cases hp : p i with
      | true =>
        refine hs i (by omega) hp _ ?_
        have := ih (i + 1) b (by omega) (hb.trans ⟨fun h j h1 h2 => h j (by omega) h2, fun h j h1 h2 => by
            by_cases e : i = j
            · subst e; exact hp
            · exact h j (by omega) h2⟩)
        simpa using this
      | false =>
        cases b with
        | true => have := hb.1 rfl i (Nat.le_refl _) (by omega); rw [hp] at this; cases this
        | false => exact hf i (by omega) hp
  have := h n 0 b (by omega) (hb.trans ⟨fun h j _ h2 => h j h2, fun h j h2 => h j (by omega) h2⟩)
  simpa using this
theorem getD_eq_iff {α : Type} (z : α) {xs ys : List α} (h : xs.length = ys.length) : (∀ j, j < xs.length → xs.getD j z = ys.getD j z) ↔ xs = ys := by
  constructor
  · intro hj
    apply List.ext_getElem h
    intro j h1 h2
    have := hj j h1
    simpa [List.getD_eq_getElem?_getD, List.getElem?_eq_getElem h1, List.getElem?_eq_getElem h2] using this
  · rintro rfl j _; rfl
/-- A loop that fills a row of the right length from the front. -/
theorem Ev.fill {α : Type} {g : Nat → List α → Int → Option (List α)} (n : Nat) (f : Nat → α)
    (hs : ∀ (i : Nat) (o : List α), i < n → o.length = n → ∀ r, Ev (fun k => g k (o.set i (f i)) ((i : Int) + 1)) r → Ev (fun k => g k o (i : Int)) r)
    (he : ∀ o : List α, o.length = n → Ev (fun k => g k o (n : Int)) o) (o : List α) (ho : o.length = n) : Ev (fun k => g k o 0) ((List.range n).map f) := by
  have h : ∀ (d i : Nat) (o : List α), i + d = n → o.length = n → (∀ j, j < i → o[j]? = some (f j)) → Ev (fun k => g k o (i : Int)) ((List.range n).map f) := by
    intro d
    induction d with
    | zero =>
      intro i o hi hl hj
      obtain rfl : i = n := by omega
      rw [show (List.range i).map f = o from by
        apply List.ext_getElem?
        intro j
        by_cases hjn : j < i
        · rw [hj j hjn]; simp [hjn]
        · rw [List.getElem?_eq_none (by simp; omega), List.getElem?_eq_none (by omega)]]
      exact he o hl
    | succ d ih =>
      intro i o hi hl hj
      refine hs i o (by omega) hl _ ?_
      have := ih (i + 1) (o.set i (f i)) (by omega) (by simpa using hl) (fun j hji => by
        rw [List.getElem?_set]
        by_cases e : i = j
        · subst e; simp [show i < o.length by omega]
        · rw [if_neg e]; exact hj j (by omega))
      simpa using this
  have := h n 0 o (by omega) ho (fun j hj => by omega)
  simpa using this
theorem range_getD {α : Type} (z : α) (xs : List α) : ((List.range xs.length).map fun i => xs.getD i z) = xs := by
  apply List.ext_getElem?
  intro j
  by_cases h : j < xs.length
  · simp [h, List.getD_eq_getElem?_getD]
  · rw [List.getElem?_eq_none (by simp; omega), List.getElem?_eq_none (by omega)]
/-- From some number of rounds on there is an answer of which P holds. -/
def EvP {α : Type} (g : Nat → Option α) (P : α → Prop) : Prop := ∃ r, Ev g r ∧ P r
theorem EvP.bind {α β : Type} {g : Nat → Option α} {f : Nat → α → Option β} {P : α → Prop} {Q : β → Prop} (h : EvP g P) (k : ∀ a, P a → EvP (fun n => f n a) Q) : EvP (fun n => (g n).bind (f n)) Q := by
  obtain ⟨a, ha, hp⟩ := h
  obtain ⟨b, hb, hq⟩ := k a hp
  exact ⟨b, ha.bind hb, hq⟩
theorem EvP.got {α β : Type} {o : Option α} {f : Nat → α → Option β} {a : α} {Q : β → Prop} (h : o = some a) (k : EvP (fun n => f n a) Q) : EvP (fun n => o.bind (f n)) Q := by
  obtain ⟨b, hb, hq⟩ := k
  exact ⟨b, Ev.got h hb, hq⟩
theorem EvP.ite {α : Type} {c : Prop} [Decidable c] {f g : Nat → Option α} {Q : α → Prop} (h : c → EvP f Q) (k : ¬ c → EvP g Q) : EvP (fun n => if c then f n else g n) Q := by
  by_cases hc : c
  · obtain ⟨r, a, b⟩ := h hc
    exact ⟨r, Ev.pos hc a, b⟩
  · obtain ⟨r, a, b⟩ := k hc
    exact ⟨r, Ev.neg hc a, b⟩
theorem EvP.pos {α : Type} {c : Prop} [Decidable c] {f g : Nat → Option α} {Q : α → Prop} (hc : c) (h : EvP f Q) : EvP (fun n => if c then f n else g n) Q := EvP.ite (fun _ => h) (fun n => absurd hc n)
theorem EvP.neg {α : Type} {c : Prop} [Decidable c] {f g : Nat → Option α} {Q : α → Prop} (hc : ¬ c) (h : EvP g Q) : EvP (fun n => if c then f n else g n) Q := EvP.ite (fun n => absurd n hc) (fun _ => h)
theorem EvP.now {α : Type} {Q : α → Prop} {a : α} (h : Q a) : EvP (fun _ => some a) Q := ⟨a, Ev.now a, h⟩
theorem EvP.next {α : Type} {g : Nat → Option α} {Q : α → Prop} (k : EvP (fun n => g (n + 1)) Q) : EvP g Q := by
  obtain ⟨r, a, b⟩ := k
  exact ⟨r, Ev.next a, b⟩
theorem EvP.of {α : Type} {g : Nat → Option α} {Q : α → Prop} {r : α} (h : Ev g r) (q : Q r) : EvP g Q := ⟨r, h, q⟩
theorem EvP.weak {α : Type} {g : Nat → Option α} {P Q : α → Prop} (h : EvP g P) (k : ∀ a, P a → Q a) : EvP g Q := by
  obtain ⟨r, a, b⟩ := h
  exact ⟨r, a, k r b⟩
theorem EvP.congr {α : Type} {g f : Nat → Option α} {Q : α → Prop} (h : ∀ k, g k = f k) (k : EvP f Q) : EvP g Q := by
  obtain ⟨r, a, b⟩ := k
  exact ⟨r, Ev.congr h a, b⟩
/-- An answer that tells whether p holds. -/
def EvB (f : Nat → Option Bool) (p : Prop) : Prop := EvP f (fun c => c = true ↔ p)
theorem EvB.yes : EvB (fun _ => some true) True := EvP.now (by simp)
theorem EvB.no : EvB (fun _ => some false) False := EvP.now (by simp)
theorem EvB.iff {f : Nat → Option Bool} {p q : Prop} (h : EvB f p) (e : p ↔ q) : EvB f q := EvP.weak h (fun _ a => a.trans e)
theorem EvB.now {b : Bool} {p : Prop} (h : b = true ↔ p) : EvB (fun _ => some b) p := EvP.now h
theorem EvB.bindAnd {f : Nat → Option Bool} {g : Nat → Option Bool} {p q : Prop} (h : EvB f p) (k : p → EvB g q) : EvB (fun n => (f n).bind fun t => if t = true then g n else some false) (p ∧ q) :=
  EvP.bind h (fun c hc => by
    cases c with
    | true => exact (k (hc.1 rfl)).iff ⟨fun h => ⟨hc.1 rfl, h⟩, fun h => h.2⟩ |>.weak (fun _ h => h)
    | false => exact EvP.now ⟨(fun h => nomatch h), fun h => by have := hc.2 h.1; cases this⟩)
theorem EvB.ifAnd {c : Prop} [Decidable c] {g : Nat → Option Bool} {q : Prop} (k : c → EvB g q) : EvB (fun n => if c then g n else some false) (c ∧ q) :=
  EvP.ite (fun h => (k h).iff ⟨fun x => ⟨h, x⟩, fun x => x.2⟩) (fun h => EvP.now ⟨(fun x => nomatch x), fun x => absurd x.1 h⟩)
theorem EvB.tail {f : Nat → Option Bool} {p : Prop} (h : EvB f p) : EvB (fun n => (f n).bind fun t => some t) p := EvP.bind h (fun _ hc => EvP.now hc)
theorem EvB.congr {f g : Nat → Option Bool} {p : Prop} (h : ∀ k, g k = f k) (k : EvB f p) : EvB g p := EvP.congr h k
/-- A loop over two rows of one length, that stops at the first two parts that differ. -/
theorem eqLoop {α : Type} (z : α) (a b : List α) (h : a.length = b.length) (hl : a.length ≤ 1000000000) {E : Nat → α → α → Option Bool} {P : Nat → Int → Option Bool}
    (hE : ∀ x, x ∈ a → ∀ y, EvB (fun k => E k x y) (x = y))
    (hP : ∀ k i, 0 ≤ i → i < (a.length : Int) → i < (b.length : Int) → P (k + 1) i = (E k (a.getD i.toNat z) (b.getD i.toNat z)).bind fun t => if t = true then P k (wrap64 (i + 1)) else some false)
    (he : ∀ k, P (k + 1) (a.length : Int) = some true) : EvB (fun k => P k 0) (a = b) := by
  classical
  have hx : ∀ i : Nat, i < a.length → a.getD i z ∈ a := fun i hi => by
    rw [List.getD_eq_getElem?_getD, List.getElem?_eq_getElem hi]; exact List.getElem_mem hi
  refine ⟨decide (a = b), ?_, by simp⟩
  refine Ev.all (g := fun k i => P k i) a.length (fun j => decide (a.getD j z = b.getD j z)) (fun i hi hp r hr => ?_) (fun i hi hp => ?_) ?_ (decide (a = b)) (by simp only [decide_eq_true_eq]; exact (getD_eq_iff z h).symm)
  · refine Ev.next (Ev.congr (fun k => hP k i (by omega) (by omega) (by omega)) ?_)
    obtain ⟨c, hc, hq⟩ := hE _ (hx i hi) (b.getD i z)
    have hc' : c = true := hq.2 (of_decide_eq_true hp)
    refine Ev.bind (by simpa using hc) (Ev.pos hc' ?_)
    rw [w_id (by omega) (by omega)]
    exact hr
  · refine Ev.next (Ev.congr (fun k => hP k i (by omega) (by omega) (by omega)) ?_)
    obtain ⟨c, hc, hq⟩ := hE _ (hx i hi) (b.getD i z)
    have hc' : ¬ c = true := fun e => absurd (hq.1 e) (of_decide_eq_false hp)
    exact Ev.bind (by simpa using hc) (Ev.neg hc' (Ev.now _))
  · exact Ev.next (Ev.congr (fun k => he k) (Ev.now _))
theorem eqRow {α : Type} (z : α) (a b : List α) (hl : a.length ≤ 1000000000) {E : Nat → α → α → Option Bool} {P : Nat → Int → Option Bool}
    (hE : ∀ x, x ∈ a → ∀ y, EvB (fun k => E k x y) (x = y))
    (hP : a.length = b.length → ∀ k i, 0 ≤ i → i < (a.length : Int) → i < (b.length : Int) → P (k + 1) i = (E k (a.getD i.toNat z) (b.getD i.toNat z)).bind fun t => if t = true then P k (wrap64 (i + 1)) else some false)
    (he : a.length = b.length → ∀ k, P (k + 1) (a.length : Int) = some true) : EvB (fun k => if (a.length : Int) = (b.length : Int) then P k 0 else some false) (a = b) :=
  (EvB.ifAnd (fun h => eqLoop z a b (by omega) hl hE (hP (by omega)) (he (by omega)))).iff ⟨fun h => h.2, fun h => ⟨by rw [h], h⟩⟩
/-- A loop that copies a row. -/
theorem fillRow {α β γ : Type} (z : α) (z' : β) (c : α → β) (xs : List α) (hl : xs.length ≤ 1000000000) {F : Nat → α → Option γ} {mk : γ → β} {P : Nat → List β → Int → Option (List β)}
    (hF : ∀ x, x ∈ xs → ∃ t, Ev (fun k => F k x) t ∧ mk t = c x)
    (hP : ∀ k o i, 0 ≤ i → i < (xs.length : Int) → P (k + 1) o i = (F k (xs.getD i.toNat z)).bind fun t => if i < (o.length : Int) then P k (o.set i.toNat (mk t)) (wrap64 (i + 1)) else none)
    (he : ∀ k o, P (k + 1) o (xs.length : Int) = some o) : Ev (fun k => P k (List.replicate ((xs.length : Int) : Int).toNat z') 0) (xs.map c) := by
  have hx : ∀ i : Nat, i < xs.length → xs.getD i z ∈ xs := fun i hi => by
    rw [List.getD_eq_getElem?_getD, List.getElem?_eq_getElem hi]; exact List.getElem_mem hi
  have := Ev.fill (g := fun k o i => P k o i) xs.length (fun i => c (xs.getD i z)) (fun i o hi ho r hr => ?_) (fun o ho => ?_) (List.replicate ((xs.length : Int) : Int).toNat z') (by simp)
  · have e : (List.range xs.length).map (fun i => c (xs.getD i z)) = xs.map c := by
      conv => rhs; rw [← range_getD z xs]
      simp
    rw [e] at this; exact this
  · refine Ev.next (Ev.congr (fun k => hP k o i (by omega) (by omega)) ?_)
    obtain ⟨t, ht, hm⟩ := hF _ (hx i hi)
    refine Ev.bind (by simpa using ht) (Ev.pos (by omega) ?_)
    rw [w_id (by omega) (by omega), hm]
    simpa using hr
  · exact Ev.next (Ev.congr (fun k => he k o) (Ev.now _))
/-- What a size function tells: no more than it was given, and -1 when it is too much. -/
def Sz (f : Nat → Int → Option Int) (Q : Prop) : Prop := ∀ a, 0 ≤ a → a ≤ 1048576 → EvP (fun k => f k a) (fun r => r ≤ 1048576 ∧ (0 ≤ r → Q))
theorem Sz.row {f : Nat → Int → Option Int} {n : Nat} (hn : n ≤ maxLen) (hf : ∀ k a, f k a = if (wrap64 (a - (n : Int))) < 0 then (some (-1)) else (some (wrap64 (a - (n : Int))))) : Sz f (n ≤ 1048576) := by
  have hm : maxLen = 9223372036854775807 := rfl
  intro a h0 h1
  refine EvP.congr (fun k => hf k a) ?_
  rw [w_id (by omega) (by omega)]
  exact EvP.ite (fun h => EvP.now ⟨by omega, fun h => by omega⟩) (fun h => EvP.now ⟨by omega, fun h => by omega⟩)
theorem Sz.bind {f g : Nat → Int → Option Int} {P Q : Prop} (h : Sz f P) (k : Sz g Q) : Sz (fun n a => (f n a).bind fun t => if t < 0 then some (-1) else g n t) (P ∧ Q) := by
  intro a h0 h1
  refine EvP.bind (h a h0 h1) (fun r hr => EvP.ite (fun c => EvP.now ⟨by omega, fun h => by omega⟩) (fun c => EvP.weak (k r (by omega) hr.1) (fun s hs => ⟨hs.1, fun h => ⟨hr.2 (by omega), hs.2 h⟩⟩)))
theorem Sz.last {f : Nat → Int → Option Int} {P : Prop} (h : Sz f P) : Sz (fun n a => (f n a).bind fun t => if t < 0 then some (-1) else some t) P := by
  intro a h0 h1
  refine EvP.bind (h a h0 h1) (fun r hr => EvP.ite (fun c => EvP.now ⟨by omega, fun h => by omega⟩) (fun c => EvP.now hr))
theorem Sz.loop {α : Type} (z : α) (xs : List α) (hn : xs.length ≤ maxLen) {F : Nat → α → Int → Option Int} {P : Nat → Int → Int → Option Int} {f : Nat → Int → Option Int} {Q : α → Prop}
    (hF : ∀ x, x ∈ xs → Sz (fun k a => F k x a) (Q x))
    (hf : ∀ k a, f k a = if (wrap64 (a - (xs.length : Int))) < 0 then (some (-1)) else P k (wrap64 (a - (xs.length : Int))) 0)
    (hP : ∀ k a i, 0 ≤ i → i < (xs.length : Int) → P (k + 1) a i = (F k (xs.getD i.toNat z) a).bind fun t => if t < 0 then some (-1) else P k t (wrap64 (i + 1)))
    (he : ∀ k a, P (k + 1) a (xs.length : Int) = some a) : Sz f (xs.length ≤ 1048576 ∧ ∀ x, x ∈ xs → Q x) := by
  have hm : maxLen = 9223372036854775807 := rfl
  have hx : ∀ i : Nat, i < xs.length → xs.getD i z ∈ xs := fun i hi => by
    rw [List.getD_eq_getElem?_getD, List.getElem?_eq_getElem hi]; exact List.getElem_mem hi
  intro a h0 h1
  refine EvP.congr (fun k => hf k a) ?_
  rw [w_id (by omega) (by omega)]
  refine EvP.ite (fun h => EvP.now ⟨by omega, fun h => by omega⟩) (fun h => ?_)
  have hl : xs.length ≤ 1048576 := by omega
  have go : ∀ (d i : Nat) (a : Int), i + d = xs.length → 0 ≤ a → a ≤ 1048576 → EvP (fun k => P k a (i : Int)) (fun r => r ≤ 1048576 ∧ (0 ≤ r → ∀ j, i ≤ j → j < xs.length → Q (xs.getD j z))) := by
    intro d
    induction d with
    | zero =>
      intro i a hi h0 h1
      obtain rfl : i = xs.length := by omega
      exact EvP.next (EvP.congr (fun k => he k a) (EvP.now ⟨h1, fun _ j _ _ => by omega⟩))
    | succ d ih =>
      intro i a hi h0 h1
      refine EvP.next (EvP.congr (fun k => hP k a i (by omega) (by omega)) ?_)
      have hq : EvP (fun k => F k (xs.getD (i : Int).toNat z) a) (fun r => r ≤ 1048576 ∧ (0 ≤ r → Q (xs.getD i z))) := by simpa using hF _ (hx i (by omega)) a h0 h1
      refine EvP.bind hq (fun r hr => EvP.ite (fun c => EvP.now ⟨by omega, fun h => by omega⟩) (fun c => ?_))
      rw [w_id (by omega) (by omega)]
      have := ih (i + 1) r (by omega) (by omega) hr.1
      have hq2 : EvP (fun k => P k r ((i : Int) + 1)) (fun r => r ≤ 1048576 ∧ (0 ≤ r → ∀ j, i + 1 ≤ j → j < xs.length → Q (xs.getD j z))) := by simpa using this
      refine EvP.weak hq2 (fun s hs => ⟨hs.1, fun h j h1 h2 => ?_⟩)
      by_cases e : i = j
      · subst e; exact hr.2 (by omega)
      · exact hs.2 h j (by omega) h2
  refine EvP.weak (go xs.length 0 _ (by omega) (by omega) (by omega)) (fun r hr => ⟨hr.1, fun h => ⟨hl, fun x hx => ?_⟩⟩)
  obtain ⟨j, hj, e⟩ := List.getElem_of_mem hx
  have := hr.2 h j (by omega) hj
  rw [List.getD_eq_getElem?_getD, List.getElem?_eq_getElem hj] at this
  rw [← e]; exact this
theorem ifBind {c : Prop} [Decidable c] {a x r : Option Bool} (h : a = x.bind fun t => if t = true then r else some false) : (if c then a else some false) = (if c then x else some false).bind fun t => if t = true then r else some false := by
  rw [h]; split <;> rfl
theorem bindBind {a x y r : Option Bool} (h : a = y.bind fun t => if t = true then r else some false) : (x.bind fun u => if u = true then a else some false) = (x.bind fun u => if u = true then y else some false).bind fun t => if t = true then r else some false := by
  rw [h]
  cases x with
  | none => rfl
  | some u => cases u <;> rfl
theorem EvB.andElse {c : Prop} [Decidable c] {f g : Nat → Option Bool} {p : Prop} (h : c → EvB f p) (k : EvB g False) : EvB (fun n => if c then f n else g n) (c ∧ p) :=
  EvP.ite (fun hc => (h hc).iff ⟨fun x => ⟨hc, x⟩, fun x => x.2⟩) (fun hc => k.iff ⟨False.elim, fun x => hc x.1⟩)
theorem EvB.orElse {c : Prop} [Decidable c] {f g : Nat → Option Bool} {p : Prop} (h : ¬ c → EvB f p) (k : EvB g False) : EvB (fun n => if c then g n else f n) (¬ c ∧ p) :=
  EvP.ite (fun hc => k.iff ⟨False.elim, fun x => x.1 hc⟩) (fun hc => (h hc).iff ⟨fun x => ⟨hc, x⟩, fun x => x.2⟩)
theorem EvB.bindElse {f g h : Nat → Option Bool} {p q : Prop} (a : EvB f p) (b : p → EvB g q) (c : EvB h False) : EvB (fun n => (f n).bind fun t => if t = true then g n else h n) (p ∧ q) :=
  EvP.bind a (fun t ht => (EvB.andElse (c := t = true) (fun e => b (ht.1 e)) c).iff ⟨fun x => ⟨ht.1 x.1, x.2⟩, fun x => ⟨ht.2 x.1, x.2⟩⟩)
theorem EvB.bindNot {f : Nat → Option Bool} {J : Nat → Bool → Option Bool} {p q : Prop} (a : EvB f p) (b : ∀ t, EvB (fun n => J n t) (t = false ∧ q)) : EvB (fun n => (f n).bind fun t => J n (!t)) (p ∧ q) :=
  EvP.bind a (fun t ht => (b (!t)).iff ⟨fun x => ⟨ht.1 (by simpa using x.1), x.2⟩, fun x => ⟨by simpa using ht.2 x.1, x.2⟩⟩)
/-- The same loop, told step by step, with something behind it. -/
theorem eqLoopJ {α : Type} (z : α) (a b : List α) (h : a.length = b.length) {P : Nat → Int → Option Bool} {q : Prop}
    (hs : ∀ i : Nat, i < a.length → i < b.length → a.getD i z ∈ a → ∀ p, EvB (fun k => P k ((i : Int) + 1)) p → EvB (fun k => P k (i : Int)) (a.getD i z = b.getD i z ∧ p))
    (he : EvB (fun k => P k (a.length : Int)) q) : EvB (fun k => P k 0) (a = b ∧ q) := by
  have hx : ∀ i : Nat, i < a.length → a.getD i z ∈ a := fun i hi => by
    rw [List.getD_eq_getElem?_getD, List.getElem?_eq_getElem hi]; exact List.getElem_mem hi
  have go : ∀ (d i : Nat), i + d = a.length → EvB (fun k => P k (i : Int)) ((∀ j, i ≤ j → j < a.length → a.getD j z = b.getD j z) ∧ q) := by
    intro d
    induction d with
    | zero =>
      intro i hi
      obtain rfl : i = a.length := by omega
      exact he.iff ⟨fun x => ⟨fun j h1 h2 => by omega, x⟩, fun x => x.2⟩
    | succ d ih =>
      intro i hi
      have hp : EvB (fun k => P k ((i : Int) + 1)) ((∀ j, i + 1 ≤ j → j < a.length → a.getD j z = b.getD j z) ∧ q) := by simpa using ih (i + 1) (by omega)
      refine (hs i (by omega) (by omega) (hx i (by omega)) _ hp).iff ⟨fun x => ⟨fun j h1 h2 => ?_, x.2.2⟩, fun x => ⟨x.1 i (Nat.le_refl _) (by omega), fun j h1 h2 => x.1 j (by omega) h2, x.2⟩⟩
      by_cases e : i = j
      · subst e; exact x.1
      · exact x.2.1 j (by omega) h2
  have h0 : EvB (fun k => P k 0) ((∀ j, 0 ≤ j → j < a.length → a.getD j z = b.getD j z) ∧ q) := by simpa using go a.length 0 (by omega)
  refine h0.iff ⟨fun x => ⟨(getD_eq_iff z h).1 (fun j hj => x.1 j (Nat.zero_le _) hj), x.2⟩, fun x => ⟨fun j _ hj => (getD_eq_iff z h).2 x.1 j hj, x.2⟩⟩
theorem flipIf (u v : Bool) (r s : Option Bool) : (if (!u || !v) = true then s else r) = if (u && v) = true then r else s := by cases u <;> cases v <;> rfl
theorem flipIf3 (u v w : Bool) (r s : Option Bool) : (if (!u || (!v || !w)) = true then s else r) = if (u && (v && w)) = true then r else s := by cases u <;> cases v <;> cases w <;> rfl
def cF (x : S45) : S47 := ⟨x.f0, x.f1, x.f2⟩
def cT (x : S103) : S30 := ⟨x.f0, x.f1, x.f2, x.f3.map cF⟩
theorem field_ev (x y : S47) : EvB (fun _ => laws_eqField.f x.f0 x.f1 x.f2 y.f0 y.f1 y.f2) (x = y) := by
  unfold laws_eqField.f
  exact (EvB.ifAnd (fun _ => EvB.ifAnd (fun _ => EvB.orElse (fun _ => EvB.yes) EvB.no))).iff (by cases x; cases y; simp)
theorem lFields (a b : List S47) (hl : a.length ≤ 1000000000) : EvB (fun k => laws_eqFieldS.f k a b) (a = b) := by
  unfold laws_eqFieldS.f
  refine eqRow z47 a b hl (E := fun k x y => laws_eqField.f x.f0 x.f1 x.f2 y.f0 y.f1 y.f2) (P := fun k i => laws_eqFieldS.l0 k a b i) (fun x hx y => ?_) (fun h k i h0 h1 h2 => ?_) (fun h k => ?_)
  · exact field_ev x y
  · simp only [laws_eqFieldS.l0]; rw [if_pos h1, if_pos h0, if_pos h2]; rfl
  · simp only [laws_eqFieldS.l0]; rw [if_neg (by omega)]
theorem lTypes (a b : List S30) (hl : a.length ≤ 1000000000) (ha : ∀ x ∈ a, x.f3.length ≤ 1000000000) : EvB (fun k => laws_eqTypeS.f k a b) (a = b) := by
  unfold laws_eqTypeS.f
  refine eqRow z30 a b hl (E := fun k x y => laws_eqType.f k x.f0 x.f1 x.f2 x.f3 y.f0 y.f1 y.f2 y.f3) (P := fun k i => laws_eqTypeS.l0 k a b i) (fun x hx y => ?_) (fun h k i h0 h1 h2 => ?_) (fun h k => ?_)
  · unfold laws_eqType.f; exact (EvB.ifAnd (fun _ => EvB.ifAnd (fun _ => EvB.orElse (fun _ => (lFields x.f3 y.f3 (ha x hx)).bindAnd (fun _ => EvB.yes)) EvB.no))).iff (by cases x; cases y; simp)
  · simp only [laws_eqTypeS.l0]; rw [if_pos h1, if_pos h0, if_pos h2]; rfl
  · simp only [laws_eqTypeS.l0]; rw [if_neg (by omega)]
theorem lTypess (a b : List (List S30)) (hl : a.length ≤ 1000000000) (ha : ∀ x ∈ a, x.length ≤ 1000000000 ∧ ∀ y ∈ x, y.f3.length ≤ 1000000000) : EvB (fun k => laws_eqTypeSS.f k a b) (a = b) := by
  unfold laws_eqTypeSS.f
  refine eqRow ([] : List S30) a b hl (E := fun k x y => laws_eqTypeS.f k x y) (P := fun k i => laws_eqTypeSS.l0 k a b i) (fun x hx y => ?_) (fun h k i h0 h1 h2 => ?_) (fun h k => ?_)
  · exact lTypes x y (ha x hx).1 (ha x hx).2
  · simp only [laws_eqTypeSS.l0]; rw [if_pos h1, if_pos h0, if_pos h2]; rfl
  · simp only [laws_eqTypeSS.l0]; rw [if_neg (by omega)]
theorem toFields_ev (xs : List S45) (hl : xs.length ≤ 1048576) : Ev (fun k => laws_toFieldS.f k xs) (xs.map cF) := by
  unfold laws_toFieldS.f
  refine Ev.pos (by omega) (Ev.pos (by omega) ?_)
  refine fillRow z45 z47 _ xs (by omega) (F := fun _ x => laws_toField.f x.f0 x.f1 x.f2) (mk := fun t => ⟨t.1, t.2.1, t.2.2⟩) (P := fun k o i => laws_toFieldS.l0 k xs o i) (fun x _ => ⟨_, Ev.now _, rfl⟩) (fun k o i h0 h1 => ?_) (fun k o => ?_)
  · simp only [laws_toFieldS.l0]; rw [if_pos h1, if_pos h0]; rfl
  · simp only [laws_toFieldS.l0]; rw [if_neg (by omega)]
theorem toTypes_ev (xs : List S103) (hl : xs.length ≤ 1048576) (h : ∀ x ∈ xs, x.f3.length ≤ 1048576) : Ev (fun k => laws_toTypeS.f k xs) (xs.map cT) := by
  unfold laws_toTypeS.f
  refine Ev.pos (by omega) (Ev.pos (by omega) ?_)
  refine fillRow z103 z30 cT xs (by omega) (F := fun k x => laws_toType.f k x.f0 x.f1 x.f2 x.f3) (mk := fun t => ⟨t.1, t.2.1, t.2.2.1, t.2.2.2⟩) (P := fun k o i => laws_toTypeS.l0 k xs o i) (fun x hx => ⟨(x.f0, x.f1, x.f2, x.f3.map cF), ?_, rfl⟩) (fun k o i h0 h1 => ?_) (fun k o => ?_)
  · exact (toFields_ev x.f3 (h x hx)).bind (Ev.now _)
  · simp only [laws_toTypeS.l0]; rw [if_pos h1, if_pos h0]; rfl
  · simp only [laws_toTypeS.l0]; rw [if_neg (by omega)]
theorem toTypess_ev (xs : List (List S103)) (hl : xs.length ≤ 1048576) (h : ∀ x ∈ xs, x.length ≤ 1048576 ∧ ∀ y ∈ x, y.f3.length ≤ 1048576) : Ev (fun k => laws_toTypeSS.f k xs) (xs.map fun x => x.map cT) := by
  unfold laws_toTypeSS.f
  refine Ev.pos (by omega) (Ev.pos (by omega) ?_)
  refine fillRow ([] : List S103) ([] : List S30) (fun x => x.map cT) xs (by omega) (F := fun k x => laws_toTypeS.f k x) (mk := fun t => t) (P := fun k o i => laws_toTypeSS.l0 k xs o i) (fun x hx => ⟨x.map cT, toTypes_ev x (h x hx).1 (h x hx).2, rfl⟩) (fun k o i h0 h1 => ?_) (fun k o => ?_)
  · simp only [laws_toTypeSS.l0]; rw [if_pos h1, if_pos h0]; rfl
  · simp only [laws_toTypeSS.l0]; rw [if_neg (by omega)]
/-- What a size function tells: what is left, when it is enough. -/
def SzN (f : Nat → Int → Option Int) (n : Nat) (Q : Prop) : Prop := ∀ a, 0 ≤ a → a ≤ 1048576 → EvP (fun k => f k a) (fun r => r ≤ a ∧ (0 ≤ r → r + n ≤ a ∧ Q))
theorem SzN.row {f : Nat → Int → Option Int} {n : Nat} (hn : n ≤ maxLen) (hf : ∀ k a, f k a = if (wrap64 (a - (n : Int))) < 0 then (some (-1)) else (some (wrap64 (a - (n : Int))))) : SzN f n True := by
  have hm : maxLen = 9223372036854775807 := rfl
  intro a h0 h1
  refine EvP.congr (fun k => hf k a) ?_
  rw [w_id (by omega) (by omega)]
  exact EvP.ite (fun h => EvP.now ⟨by omega, fun h => by omega⟩) (fun h => EvP.now ⟨by omega, fun h => ⟨by omega, trivial⟩⟩)
theorem SzN.last {f : Nat → Int → Option Int} {n : Nat} {P : Prop} (h : SzN f n P) : SzN (fun k a => (f k a).bind fun t => if t < 0 then some (-1) else some t) n P := by
  intro a h0 h1
  refine EvP.bind (h a h0 h1) (fun r hr => EvP.ite (fun c => EvP.now ⟨by omega, fun h => by omega⟩) (fun c => EvP.now hr))
theorem SzN.loop {α : Type} (z : α) (xs : List α) (hn : xs.length ≤ maxLen) {F : Nat → α → Int → Option Int} {P : Nat → Int → Int → Option Int} {f : Nat → Int → Option Int} {c : α → Nat} {Q : α → Prop}
    (hF : ∀ x, x ∈ xs → SzN (fun k a => F k x a) (c x) (Q x))
    (hf : ∀ k a, f k a = if (wrap64 (a - (xs.length : Int))) < 0 then (some (-1)) else P k (wrap64 (a - (xs.length : Int))) 0)
    (hP : ∀ k a i, 0 ≤ i → i < (xs.length : Int) → P (k + 1) a i = (F k (xs.getD i.toNat z) a).bind fun t => if t < 0 then some (-1) else P k t (wrap64 (i + 1)))
    (he : ∀ k a, P (k + 1) a (xs.length : Int) = some a) : SzN f (xs.length + (xs.map c).sum) (∀ x, x ∈ xs → Q x) := by
  have hm : maxLen = 9223372036854775807 := rfl
  have hx : ∀ i : Nat, i < xs.length → xs.getD i z ∈ xs := fun i hi => by
    rw [List.getD_eq_getElem?_getD, List.getElem?_eq_getElem hi]; exact List.getElem_mem hi
  intro a h0 h1
  refine EvP.congr (fun k => hf k a) ?_
  rw [w_id (by omega) (by omega)]
  refine EvP.ite (fun h => EvP.now ⟨by omega, fun h => by omega⟩) (fun h => ?_)
  have hl : xs.length ≤ 1048576 := by omega
  have go : ∀ (d i : Nat) (a : Int), i + d = xs.length → 0 ≤ a → a ≤ 1048576 → EvP (fun k => P k a (i : Int)) (fun r => r ≤ a ∧ (0 ≤ r → r + (((xs.drop i).map c).sum : Nat) ≤ a ∧ ∀ j, i ≤ j → j < xs.length → Q (xs.getD j z))) := by
    intro d
    induction d with
    | zero =>
      intro i a hi h0 h1
      obtain rfl : i = xs.length := by omega
      exact EvP.next (EvP.congr (fun k => he k a) (EvP.now ⟨by omega, fun _ => ⟨by simp, fun j _ _ => by omega⟩⟩))
    | succ d ih =>
      intro i a hi h0 h1
      have hi' : i < xs.length := by omega
      have ei : xs.getD i z = xs[i] := by rw [List.getD_eq_getElem?_getD, List.getElem?_eq_getElem hi']; rfl
      refine EvP.next (EvP.congr (fun k => hP k a i (by omega) (by omega)) ?_)
      have hq : EvP (fun k => F k (xs.getD (i : Int).toNat z) a) (fun r => r ≤ a ∧ (0 ≤ r → r + c (xs.getD i z) ≤ a ∧ Q (xs.getD i z))) := by simpa using hF _ (hx i (by omega)) a h0 h1
      refine EvP.bind hq (fun r hr => EvP.ite (fun c => EvP.now ⟨by omega, fun h => by omega⟩) (fun c1 => ?_))
      rw [w_id (by omega) (by omega)]
      obtain ⟨q1, q2⟩ := hr.2 (by omega)
      have := ih (i + 1) r (by omega) (by omega) (by omega)
      have hq2 : EvP (fun k => P k r ((i : Int) + 1)) (fun s => s ≤ r ∧ (0 ≤ s → s + (((xs.drop (i + 1)).map c).sum : Nat) ≤ r ∧ ∀ j, i + 1 ≤ j → j < xs.length → Q (xs.getD j z))) := by simpa using this
      refine EvP.weak hq2 (fun s hs => ⟨by omega, fun h => ?_⟩)
      obtain ⟨s1, s2⟩ := hs.2 h
      refine ⟨?_, fun j h1 h2 => ?_⟩
      · rw [List.drop_eq_getElem_cons hi', List.map_cons, List.sum_cons, ← ei]; omega
      · by_cases e : i = j
        · subst e; exact q2
        · exact s2 j (by omega) h2
  refine EvP.weak (go xs.length 0 _ (by omega) (by omega) (by omega)) (fun r hr => ⟨by omega, fun h => ?_⟩)
  obtain ⟨h2, h3⟩ := hr.2 h
  rw [List.drop_zero] at h2
  refine ⟨by omega, fun x hx => ?_⟩
  obtain ⟨j, hj, e⟩ := List.getElem_of_mem hx
  have := h3 j (by omega) hj
  rw [List.getD_eq_getElem?_getD, List.getElem?_eq_getElem hj] at this
  rw [← e]; exact this
theorem szFields (l : List S45) (h : l.length ≤ maxLen) : SzN (fun _ a => laws_szFieldS.f l a) l.length True := SzN.row h (fun _ _ => rfl)
theorem szTypes (l : List S103) (h : l.length ≤ maxLen ∧ ∀ x ∈ l, x.f3.length ≤ maxLen) : SzN (fun k a => laws_szTypeS.f k l a) (l.length + (l.map fun x => x.f3.length).sum) (∀ x ∈ l, True) := by
  refine SzN.loop z103 l h.1 (F := fun _ x a => laws_szType.f x.f0 x.f1 x.f2 x.f3 a) (P := fun k a i => laws_szTypeS.l0 k l a i) (c := fun x => x.f3.length) (Q := fun _ => True) (fun x hx => ?_) (fun k a => rfl) (fun k a i h0 h1 => ?_) (fun k a => ?_)
  · unfold laws_szType.f; exact (szFields x.f3 (h.2 x hx)).last
  · simp only [laws_szTypeS.l0]; rw [if_pos h1, if_pos h0]; rfl
  · simp only [laws_szTypeS.l0]; rw [if_neg (by omega)]
def cN (g : List S103) : Nat := g.length + (g.map fun x => x.f3.length).sum
theorem szTypess (l : List (List S103)) (h : l.length ≤ maxLen ∧ ∀ x ∈ l, x.length ≤ maxLen ∧ ∀ y ∈ x, y.f3.length ≤ maxLen) : SzN (fun k a => laws_szTypeSS.f k l a) (l.length + (l.map cN).sum) (∀ x ∈ l, ∀ y ∈ x, True) := by
  refine SzN.loop ([] : List S103) l h.1 (F := fun k x a => laws_szTypeS.f k x a) (P := fun k a i => laws_szTypeSS.l0 k l a i) (c := cN) (Q := fun x => ∀ y ∈ x, True) (fun x hx => szTypes x (h.2 x hx)) (fun k a => rfl) (fun k a i h0 h1 => ?_) (fun k a => ?_)
  · simp only [laws_szTypeSS.l0]; rw [if_pos h1, if_pos h0]; rfl
  · simp only [laws_szTypeSS.l0]; rw [if_neg (by omega)]
theorem le_sum {α : Type} (c : α → Nat) : ∀ (l : List α) (x : α), x ∈ l → c x ≤ (l.map c).sum := by
  intro l
  induction l with
  | nil => intro x h; cases h
  | cons y l ih =>
    intro x h
    rw [List.map_cons, List.sum_cons]
    rcases List.mem_cons.1 h with rfl | h
    · omega
    · have := ih x h; omega
/-- Groups that are not too great. -/
structure OkG (g : List (List S30)) : Prop where
  g0 : g.length ≤ 1048576
  g1 : (g.map List.length).sum ≤ 1048576
  g2 : ∀ x ∈ g, x.length ≤ 1048576 ∧ ∀ y ∈ x, y.f3.length ≤ 1048576
def cG (g : List (List S103)) : List (List S30) := g.map fun x => x.map cT
theorem small (l : List (List S103)) (hn : l.length + (l.map cN).sum ≤ 1048576) : OkG (cG l) ∧ ∀ x ∈ l, x.length ≤ 1048576 ∧ ∀ y ∈ x, y.f3.length ≤ 1048576 := by
  have hq : ∀ x ∈ l, x.length ≤ 1048576 ∧ ∀ y ∈ x, y.f3.length ≤ 1048576 := by
    intro x hx
    have h1 := le_sum cN l x hx
    have hc : cN x = x.length + (x.map fun x => x.f3.length).sum := rfl
    refine ⟨by omega, fun y hy => ?_⟩
    have h2 := le_sum (fun x : S103 => x.f3.length) x y hy
    have h3 : y.f3.length ≤ (x.map fun x => x.f3.length).sum := h2
    omega
  refine ⟨⟨by simp [cG]; omega, ?_, ?_⟩, hq⟩
  · have : ((cG l).map List.length).sum ≤ (l.map cN).sum := by
      clear hn hq
      induction l with
      | nil => simp [cG]
      | cons x l ih =>
        simp only [cG, List.map_cons, List.sum_cons, List.length_map] at ih ⊢
        have hc : cN x = x.length + (x.map fun x => x.f3.length).sum := rfl
        omega
    omega
  · intro x hx
    obtain ⟨y, hy, rfl⟩ := List.mem_map.1 hx
    refine ⟨by have := (hq y hy).1; simp; omega, fun z hz => ?_⟩
    obtain ⟨v, hv, rfl⟩ := List.mem_map.1 hz
    have := (hq y hy).2 v hv; simp [cT]; omega
/-- What a law over groups begins with. -/
theorem begin_ (l : List (List S103)) (h : l.length ≤ maxLen ∧ ∀ x ∈ l, x.length ≤ maxLen ∧ ∀ y ∈ x, y.f3.length ≤ maxLen) : EvP (fun k => laws_szTypeSS.f k l 1048576) (fun r => 0 ≤ r → OkG (cG l) ∧ Ev (fun k => laws_toTypeSS.f k l) (cG l)) := by
  refine EvP.weak (szTypess l h 1048576 (by omega) (by omega)) (fun r hr h0 => ?_)
  obtain ⟨h1, _⟩ := hr.2 h0
  obtain ⟨h2, h3⟩ := small l (by omega)
  exact ⟨h2, toTypess_ev l (by have := h2.g0; simpa [cG] using this) h3⟩
theorem eqG (g : List (List S30)) (h : OkG g) : Ev (fun k => laws_eqTypeSS.f k g g) true := by
  obtain ⟨r, hr, hq⟩ := lTypess g g (by have := h.g0; omega) (fun x hx => ⟨by have := (h.g2 x hx).1; omega, fun y hy => by have := (h.g2 x hx).2 y hy; omega⟩)
  obtain rfl : r = true := hq.2 rfl
  exact hr
theorem spec_count (g : List (List S30)) (h : OkG g) : Ev (fun k => spec_KinCount.f k g) (((g.map List.length).sum : Nat) : Int) := by
  unfold spec_KinCount.f
  have go : ∀ (d i : Nat), i + d = g.length → Ev (fun k => spec_KinCount.l0 k g ((((g.take i).map List.length).sum : Nat) : Int) (i : Int)) (((g.map List.length).sum : Nat) : Int) := by
    intro d
    induction d with
    | zero =>
      intro i hi
      obtain rfl : i = g.length := by omega
      rw [List.take_length]
      refine Ev.next ?_
      simp only [spec_KinCount.l0]
      exact Ev.neg (by omega) (Ev.now _)
    | succ d ih =>
      intro i hi
      have hi' : i < g.length := by omega
      have h0 := h.g0
      have h1 := h.g1
      have h2 := sum_take_le g i hi'
      refine Ev.next ?_
      simp only [spec_KinCount.l0]
      refine Ev.pos (by omega) (Ev.pos (by omega) ?_)
      rw [rd_L9_get g i hi', w_id (x := (i : Int) + 1) (by omega) (by omega), w_id (by omega) (by omega)]
      have := ih (i + 1) (by omega)
      rw [List.take_add_one, List.getElem?_eq_getElem hi', Option.toList_some, List.map_append, List.sum_append] at this
      simpa using this
  simpa using go g.length 0 (by omega)
theorem FnExactKinCount : laws_FnExactKinCount.Pure := by
  intro l hl
  suffices h : EvP (fun k => laws_FnExactKinCount.f k l) (fun r => r = true) by
    obtain ⟨r, hr, rfl⟩ := h
    exact Ev.rounds hr
  unfold laws_FnExactKinCount.f
  refine EvP.bind (begin_ l ⟨hl.1, fun x hx => ⟨(hl.2 x hx).1, fun y hy => ((hl.2 x hx).2 y hy).2.2.2.1⟩⟩) (fun r hr => EvP.ite (fun _ => EvP.now rfl) (fun c => ?_))
  obtain ⟨ok, hto⟩ := hr (by omega)
  have hc : impl_KinCount.f (cG l) = some ((((cG l).map List.length).sum : Nat) : Int) := if_pos ⟨by have := ok.g0; omega, by have := ok.g1; omega⟩
  exact EvP.of (hto.bind ((spec_count _ ok).bind (hto.bind (Ev.got hc (Ev.pos rfl (hto.bind ((eqG _ ok).bind (Ev.pos rfl (Ev.now true))))))))) rfl
end Go.Proofs.Ytepjadcnnakpoaa.Pure
