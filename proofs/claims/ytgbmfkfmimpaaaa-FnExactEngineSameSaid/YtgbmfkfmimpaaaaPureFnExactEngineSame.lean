/- Proved: the law FnExactEngineSame answers true: the program's EngineSame and the reference's agree at all engines, and neither is turned. No condition. -/
import Derived.Test.YtgbmfkfmimpaaaaPFnExactEngineSamex10
namespace Go.Proofs.Ytgbmfkfmimpaaaa.Pure
open Go.RowKit Go.Proofs.Ytgbmfkfmimpaaaa.PFnExactEngineSame Go.Proofs.YtgbmfkfmimpaaaaW.PrintWords Go.Proofs.YtgbmfkfmimpaaaaW.PrintLast
theorem w_id {x : Int} (h0 : -9223372036854775808 ≤ x) (h1 : x ≤ 9223372036854775807) : wrap64 x = x := by unfold wrap64; omega
theorem Ev.pos {α : Type} {c : Prop} [Decidable c] {f g : Nat → Option α} {r : α} (h : c) (k : Ev f r) : Ev (fun n => if c then f n else g n) r := Ev.congr (fun _ => if_pos h) k
theorem Ev.neg {α : Type} {c : Prop} [Decidable c] {f g : Nat → Option α} {r : α} (h : ¬ c) (k : Ev g r) : Ev (fun n => if c then f n else g n) r := Ev.congr (fun _ => if_neg h) k
theorem Ev.ite {α : Type} {c : Prop} [Decidable c] {f g : Nat → Option α} {r : α} (h : c → Ev f r) (k : ¬ c → Ev g r) : Ev (fun n => if c then f n else g n) r := by
  by_cases hc : c
  · exact Ev.pos hc (h hc)
  · exact Ev.neg hc (k hc)
theorem Ev.got {α β : Type} {o : Option α} {f : Nat → α → Option β} {a : α} {r : β} (h : o = some a) (k : Ev (fun n => f n a) r) : Ev (fun n => o.bind (f n)) r := Ev.congr (fun _ => by rw [h]; rfl) k
theorem Ev.next {α : Type} {g : Nat → Option α} {r : α} (k : Ev (fun n => g (n + 1)) r) : Ev g r := Ev.step (fun _ => rfl) k
theorem Ev.some_ {α : Type} {a r : α} (h : a = r) : Ev (fun _ => some a) r := ⟨0, fun _ _ => by rw [h]⟩
theorem Ev.ex_ite {α : Type} {c : Prop} [Decidable c] {f g : Nat → Option α} {P : α → Prop} (h : c → ∃ r, Ev f r ∧ P r) (k : ¬ c → ∃ r, Ev g r ∧ P r) : ∃ r, Ev (fun n => if c then f n else g n) r ∧ P r := by
  by_cases hc : c
  · obtain ⟨r, a, b⟩ := h hc
    exact ⟨r, Ev.pos hc a, b⟩
  · obtain ⟨r, a, b⟩ := k hc
    exact ⟨r, Ev.neg hc a, b⟩
/-- A loop that goes on while a test holds. -/
theorem Ev.all {g : Nat → Int → Option Bool} (n : Nat) (p : Nat → Bool)
    (hs : ∀ i : Nat, i < n → p i = true → ∀ r, Ev (fun k => g k ((i : Int) + 1)) r → Ev (fun k => g k (i : Int)) r)
    (hf : ∀ i : Nat, i < n → p i = false → Ev (fun k => g k (i : Int)) false) (he : Ev (fun k => g k (n : Int)) true)
    (b : Bool) (hb : b = true ↔ ∀ j, j < n → p j = true) : Ev (fun k => g k 0) b := by
  have h : ∀ (d i : Nat) (b : Bool), i + d = n → (b = true ↔ ∀ j, i ≤ j → j < n → p j = true) → Ev (fun k => g k (i : Int)) b := by
    intro d
    induction d with
    | zero =>
      intro i b hi hb
      obtain rfl : i = n := by omega
      rw [hb.2 (fun j h1 h2 => by omega)]
      exact he
    | succ d ih =>
      intro i b hi hb
      cases hp : p i with
      | true =>
        refine hs i (by omega) hp _ ?_
        have := ih (i + 1) b (by omega) (hb.trans ⟨fun h j h1 h2 => h j (by omega) h2, fun h j h1 h2 => by
            by_cases e : i = j
            · subst e; exact hp
            · exact h j (by omega) h2⟩)
        simpa using this
      | false =>
        cases b with
        | true => have := hb.1 rfl i (Nat.le_refl _) (by omega); rw [hp] at this; cases this
        | false => exact hf i (by omega) hp
  have := h n 0 b (by omega) (hb.trans ⟨fun h j _ h2 => h j h2, fun h j h2 => h j (by omega) h2⟩)
  simpa using this
theorem getD_eq_iff {α : Type} (z : α) {xs ys : List α} (h : xs.length = ys.length) : (∀ j, j < xs.length → xs.getD j z = ys.getD j z) ↔ xs = ys := by
  constructor
  · intro hj
    apply List.ext_getElem h
    intro j h1 h2
    have := hj j h1
    simpa [List.getD_eq_getElem?_getD, List.getElem?_eq_getElem h1, List.getElem?_eq_getElem h2] using this
  · rintro rfl j _; rfl
/-- A loop that fills a row of the right length from the front. -/
theorem Ev.fill {α : Type} {g : Nat → List α → Int → Option (List α)} (n : Nat) (f : Nat → α)
    (hs : ∀ (i : Nat) (o : List α), i < n → o.length = n → ∀ r, Ev (fun k => g k (o.set i (f i)) ((i : Int) + 1)) r → Ev (fun k => g k o (i : Int)) r)
    (he : ∀ o : List α, o.length = n → Ev (fun k => g k o (n : Int)) o) (o : List α) (ho : o.length = n) : Ev (fun k => g k o 0) ((List.range n).map f) := by
  have h : ∀ (d i : Nat) (o : List α), i + d = n → o.length = n → (∀ j, j < i → o[j]? = some (f j)) → Ev (fun k => g k o (i : Int)) ((List.range n).map f) := by
    intro d
    induction d with
    | zero =>
      intro i o hi hl hj
      obtain rfl : i = n := by omega
      rw [show (List.range i).map f = o from by
        apply List.ext_getElem?
        intro j
        by_cases hjn : j < i
        · rw [hj j hjn]; simp [hjn]
        · rw [List.getElem?_eq_none (by simp; omega), List.getElem?_eq_none (by omega)]]
      exact he o hl
    | succ d ih =>
      intro i o hi hl hj
      refine hs i o (by omega) hl _ ?_
      have := ih (i + 1) (o.set i (f i)) (by omega) (by simpa using hl) (fun j hji => by
        rw [List.getElem?_set]
        by_cases e : i = j
        · subst e; simp [show i < o.length by omega]
        · rw [if_neg e]; exact hj j (by omega))
      simpa using this
  have := h n 0 o (by omega) ho (fun j hj => by omega)
  simpa using this
theorem range_getD {α : Type} (z : α) (xs : List α) : ((List.range xs.length).map fun i => xs.getD i z) = xs := by
  apply List.ext_getElem?
  intro j
  by_cases h : j < xs.length
  · simp [h, List.getD_eq_getElem?_getD]
  · rw [List.getElem?_eq_none (by simp; omega), List.getElem?_eq_none (by omega)]
/-- From some number of rounds on there is an answer of which P holds. -/
def EvP {α : Type} (g : Nat → Option α) (P : α → Prop) : Prop := ∃ r, Ev g r ∧ P r
theorem EvP.bind {α β : Type} {g : Nat → Option α} {f : Nat → α → Option β} {P : α → Prop} {Q : β → Prop} (h : EvP g P) (k : ∀ a, P a → EvP (fun n => f n a) Q) : EvP (fun n => (g n).bind (f n)) Q := by
  obtain ⟨a, ha, hp⟩ := h
  obtain ⟨b, hb, hq⟩ := k a hp
  exact ⟨b, ha.bind hb, hq⟩
theorem EvP.got {α β : Type} {o : Option α} {f : Nat → α → Option β} {a : α} {Q : β → Prop} (h : o = some a) (k : EvP (fun n => f n a) Q) : EvP (fun n => o.bind (f n)) Q := by
  obtain ⟨b, hb, hq⟩ := k
  exact ⟨b, Ev.got h hb, hq⟩
theorem EvP.ite {α : Type} {c : Prop} [Decidable c] {f g : Nat → Option α} {Q : α → Prop} (h : c → EvP f Q) (k : ¬ c → EvP g Q) : EvP (fun n => if c then f n else g n) Q := by
  by_cases hc : c
  · obtain ⟨r, a, b⟩ := h hc
    exact ⟨r, Ev.pos hc a, b⟩
  · obtain ⟨r, a, b⟩ := k hc
    exact ⟨r, Ev.neg hc a, b⟩
theorem EvP.pos {α : Type} {c : Prop} [Decidable c] {f g : Nat → Option α} {Q : α → Prop} (hc : c) (h : EvP f Q) : EvP (fun n => if c then f n else g n) Q := EvP.ite (fun _ => h) (fun n => absurd hc n)
theorem EvP.neg {α : Type} {c : Prop} [Decidable c] {f g : Nat → Option α} {Q : α → Prop} (hc : ¬ c) (h : EvP g Q) : EvP (fun n => if c then f n else g n) Q := EvP.ite (fun n => absurd n hc) (fun _ => h)
theorem EvP.now {α : Type} {Q : α → Prop} {a : α} (h : Q a) : EvP (fun _ => some a) Q := ⟨a, Ev.now a, h⟩
theorem EvP.next {α : Type} {g : Nat → Option α} {Q : α → Prop} (k : EvP (fun n => g (n + 1)) Q) : EvP g Q := by
  obtain ⟨r, a, b⟩ := k
  exact ⟨r, Ev.next a, b⟩
theorem EvP.of {α : Type} {g : Nat → Option α} {Q : α → Prop} {r : α} (h : Ev g r) (q : Q r) : EvP g Q := ⟨r, h, q⟩
theorem EvP.weak {α : Type} {g : Nat → Option α} {P Q : α → Prop} (h : EvP g P) (k : ∀ a, P a → Q a) : EvP g Q := by
  obtain ⟨r, a, b⟩ := h
  exact ⟨r, a, k r b⟩
theorem EvP.congr {α : Type} {g f : Nat → Option α} {Q : α → Prop} (h : ∀ k, g k = f k) (k : EvP f Q) : EvP g Q := by
  obtain ⟨r, a, b⟩ := k
  exact ⟨r, Ev.congr h a, b⟩
/-- An answer that tells whether p holds. -/
def EvB (f : Nat → Option Bool) (p : Prop) : Prop := EvP f (fun c => c = true ↔ p)
theorem EvB.yes : EvB (fun _ => some true) True := EvP.now (by simp)
theorem EvB.no : EvB (fun _ => some false) False := EvP.now (by simp)
theorem EvB.iff {f : Nat → Option Bool} {p q : Prop} (h : EvB f p) (e : p ↔ q) : EvB f q := EvP.weak h (fun _ a => a.trans e)
theorem EvB.now {b : Bool} {p : Prop} (h : b = true ↔ p) : EvB (fun _ => some b) p := EvP.now h
theorem EvB.bindAnd {f : Nat → Option Bool} {g : Nat → Option Bool} {p q : Prop} (h : EvB f p) (k : p → EvB g q) : EvB (fun n => (f n).bind fun t => if t = true then g n else some false) (p ∧ q) :=
  EvP.bind h (fun c hc => by
    cases c with
    | true => exact (k (hc.1 rfl)).iff ⟨fun h => ⟨hc.1 rfl, h⟩, fun h => h.2⟩ |>.weak (fun _ h => h)
    | false => exact EvP.now ⟨(fun h => nomatch h), fun h => by have := hc.2 h.1; cases this⟩)
theorem EvB.ifAnd {c : Prop} [Decidable c] {g : Nat → Option Bool} {q : Prop} (k : c → EvB g q) : EvB (fun n => if c then g n else some false) (c ∧ q) :=
  EvP.ite (fun h => (k h).iff ⟨fun x => ⟨h, x⟩, fun x => x.2⟩) (fun h => EvP.now ⟨(fun x => nomatch x), fun x => absurd x.1 h⟩)
theorem EvB.tail {f : Nat → Option Bool} {p : Prop} (h : EvB f p) : EvB (fun n => (f n).bind fun t => some t) p := EvP.bind h (fun _ hc => EvP.now hc)
theorem EvB.congr {f g : Nat → Option Bool} {p : Prop} (h : ∀ k, g k = f k) (k : EvB f p) : EvB g p := EvP.congr h k
/-- A loop over two rows of one length, that stops at the first two parts that differ. -/
theorem eqLoop {α : Type} (z : α) (a b : List α) (h : a.length = b.length) (hl : a.length ≤ 1000000000) {E : Nat → α → α → Option Bool} {P : Nat → Int → Option Bool}
    (hE : ∀ x, x ∈ a → ∀ y, EvB (fun k => E k x y) (x = y))
    (hP : ∀ k i, 0 ≤ i → i < (a.length : Int) → i < (b.length : Int) → P (k + 1) i = (E k (a.getD i.toNat z) (b.getD i.toNat z)).bind fun t => if t = true then P k (wrap64 (i + 1)) else some false)
    (he : ∀ k, P (k + 1) (a.length : Int) = some true) : EvB (fun k => P k 0) (a = b) := by
  classical
  have hx : ∀ i : Nat, i < a.length → a.getD i z ∈ a := fun i hi => by
    rw [List.getD_eq_getElem?_getD, List.getElem?_eq_getElem hi]; exact List.getElem_mem hi
  refine ⟨decide (a = b), ?_, by simp⟩
  refine Ev.all (g := fun k i => P k i) a.length (fun j => decide (a.getD j z = b.getD j z)) (fun i hi hp r hr => ?_) (fun i hi hp => ?_) ?_ (decide (a = b)) (by simp only [decide_eq_true_eq]; exact (getD_eq_iff z h).symm)
  · refine Ev.next (Ev.congr (fun k => hP k i (by omega) (by omega) (by omega)) ?_)
    obtain ⟨c, hc, hq⟩ := hE _ (hx i hi) (b.getD i z)
    have hc' : c = true := hq.2 (of_decide_eq_true hp)
    refine Ev.bind (by simpa using hc) (Ev.pos hc' ?_)
    rw [w_id (by omega) (by omega)]
    exact hr
  · refine Ev.next (Ev.congr (fun k => hP k i (by omega) (by omega) (by omega)) ?_)
    obtain ⟨c, hc, hq⟩ := hE _ (hx i hi) (b.getD i z)
    have hc' : ¬ c = true := fun e => absurd (hq.1 e) (of_decide_eq_false hp)
    exact Ev.bind (by simpa using hc) (Ev.neg hc' (Ev.now _))
  · exact Ev.next (Ev.congr (fun k => he k) (Ev.now _))
theorem eqRow {α : Type} (z : α) (a b : List α) (hl : a.length ≤ 1000000000) {E : Nat → α → α → Option Bool} {P : Nat → Int → Option Bool}
    (hE : ∀ x, x ∈ a → ∀ y, EvB (fun k => E k x y) (x = y))
    (hP : a.length = b.length → ∀ k i, 0 ≤ i → i < (a.length : Int) → i < (b.length : Int) → P (k + 1) i = (E k (a.getD i.toNat z) (b.getD i.toNat z)).bind fun t => if t = true then P k (wrap64 (i + 1)) else some false)
    (he : a.length = b.length → ∀ k, P (k + 1) (a.length : Int) = some true) : EvB (fun k => if (a.length : Int) = (b.length : Int) then P k 0 else some false) (a = b) :=
  (EvB.ifAnd (fun h => eqLoop z a b (by omega) hl hE (hP (by omega)) (he (by omega)))).iff ⟨fun h => h.2, fun h => ⟨by rw [h], h⟩⟩
/-- A loop that copies a row. -/
theorem fillRow {α β γ : Type} (z : α) (z' : β) (c : α → β) (xs : List α) (hl : xs.length ≤ 1000000000) {F : Nat → α → Option γ} {mk : γ → β} {P : Nat → List β → Int → Option (List β)}
    (hF : ∀ x, x ∈ xs → ∃ t, Ev (fun k => F k x) t ∧ mk t = c x)
    (hP : ∀ k o i, 0 ≤ i → i < (xs.length : Int) → P (k + 1) o i = (F k (xs.getD i.toNat z)).bind fun t => if i < (o.length : Int) then P k (o.set i.toNat (mk t)) (wrap64 (i + 1)) else none)
    (he : ∀ k o, P (k + 1) o (xs.length : Int) = some o) : Ev (fun k => P k (List.replicate ((xs.length : Int) : Int).toNat z') 0) (xs.map c) := by
  have hx : ∀ i : Nat, i < xs.length → xs.getD i z ∈ xs := fun i hi => by
    rw [List.getD_eq_getElem?_getD, List.getElem?_eq_getElem hi]; exact List.getElem_mem hi
  have := Ev.fill (g := fun k o i => P k o i) xs.length (fun i => c (xs.getD i z)) (fun i o hi ho r hr => ?_) (fun o ho => ?_) (List.replicate ((xs.length : Int) : Int).toNat z') (by simp)
  · have e : (List.range xs.length).map (fun i => c (xs.getD i z)) = xs.map c := by
      conv => rhs; rw [← range_getD z xs]
      simp
    rw [e] at this; exact this
  · refine Ev.next (Ev.congr (fun k => hP k o i (by omega) (by omega)) ?_)
    obtain ⟨t, ht, hm⟩ := hF _ (hx i hi)
    refine Ev.bind (by simpa using ht) (Ev.pos (by omega) ?_)
    rw [w_id (by omega) (by omega), hm]
    simpa using hr
  · exact Ev.next (Ev.congr (fun k => he k o) (Ev.now _))
/-- What a size function tells: no more than it was given, and -1 when it is too much. -/
def Sz (f : Nat → Int → Option Int) (Q : Prop) : Prop := ∀ a, 0 ≤ a → a ≤ 1048576 → EvP (fun k => f k a) (fun r => r ≤ 1048576 ∧ (0 ≤ r → Q))
theorem Sz.row {f : Nat → Int → Option Int} {n : Nat} (hn : n ≤ maxLen) (hf : ∀ k a, f k a = if (wrap64 (a - (n : Int))) < 0 then (some (-1)) else (some (wrap64 (a - (n : Int))))) : Sz f (n ≤ 1048576) := by
  have hm : maxLen = 9223372036854775807 := rfl
  intro a h0 h1
  refine EvP.congr (fun k => hf k a) ?_
  rw [w_id (by omega) (by omega)]
  exact EvP.ite (fun h => EvP.now ⟨by omega, fun h => by omega⟩) (fun h => EvP.now ⟨by omega, fun h => by omega⟩)
theorem Sz.bind {f g : Nat → Int → Option Int} {P Q : Prop} (h : Sz f P) (k : Sz g Q) : Sz (fun n a => (f n a).bind fun t => if t < 0 then some (-1) else g n t) (P ∧ Q) := by
  intro a h0 h1
  refine EvP.bind (h a h0 h1) (fun r hr => EvP.ite (fun c => EvP.now ⟨by omega, fun h => by omega⟩) (fun c => EvP.weak (k r (by omega) hr.1) (fun s hs => ⟨hs.1, fun h => ⟨hr.2 (by omega), hs.2 h⟩⟩)))
theorem Sz.last {f : Nat → Int → Option Int} {P : Prop} (h : Sz f P) : Sz (fun n a => (f n a).bind fun t => if t < 0 then some (-1) else some t) P := by
  intro a h0 h1
  refine EvP.bind (h a h0 h1) (fun r hr => EvP.ite (fun c => EvP.now ⟨by omega, fun h => by omega⟩) (fun c => EvP.now hr))
theorem Sz.loop {α : Type} (z : α) (xs : List α) (hn : xs.length ≤ maxLen) {F : Nat → α → Int → Option Int} {P : Nat → Int → Int → Option Int} {f : Nat → Int → Option Int} {Q : α → Prop}
    (hF : ∀ x, x ∈ xs → Sz (fun k a => F k x a) (Q x))
    (hf : ∀ k a, f k a = if (wrap64 (a - (xs.length : Int))) < 0 then (some (-1)) else P k (wrap64 (a - (xs.length : Int))) 0)
    (hP : ∀ k a i, 0 ≤ i → i < (xs.length : Int) → P (k + 1) a i = (F k (xs.getD i.toNat z) a).bind fun t => if t < 0 then some (-1) else P k t (wrap64 (i + 1)))
    (he : ∀ k a, P (k + 1) a (xs.length : Int) = some a) : Sz f (xs.length ≤ 1048576 ∧ ∀ x, x ∈ xs → Q x) := by
  have hm : maxLen = 9223372036854775807 := rfl
  have hx : ∀ i : Nat, i < xs.length → xs.getD i z ∈ xs := fun i hi => by
    rw [List.getD_eq_getElem?_getD, List.getElem?_eq_getElem hi]; exact List.getElem_mem hi
  intro a h0 h1
  refine EvP.congr (fun k => hf k a) ?_
  rw [w_id (by omega) (by omega)]
  refine EvP.ite (fun h => EvP.now ⟨by omega, fun h => by omega⟩) (fun h => ?_)
  have hl : xs.length ≤ 1048576 := by omega
  have go : ∀ (d i : Nat) (a : Int), i + d = xs.length → 0 ≤ a → a ≤ 1048576 → EvP (fun k => P k a (i : Int)) (fun r => r ≤ 1048576 ∧ (0 ≤ r → ∀ j, i ≤ j → j < xs.length → Q (xs.getD j z))) := by
    intro d
    induction d with
    | zero =>
      intro i a hi h0 h1
      obtain rfl : i = xs.length := by omega
      exact EvP.next (EvP.congr (fun k => he k a) (EvP.now ⟨h1, fun _ j _ _ => by omega⟩))
    | succ d ih =>
      intro i a hi h0 h1
      refine EvP.next (EvP.congr (fun k => hP k a i (by omega) (by omega)) ?_)
      have hq : EvP (fun k => F k (xs.getD (i : Int).toNat z) a) (fun r => r ≤ 1048576 ∧ (0 ≤ r → Q (xs.getD i z))) := by simpa using hF _ (hx i (by omega)) a h0 h1
      refine EvP.bind hq (fun r hr => EvP.ite (fun c => EvP.now ⟨by omega, fun h => by omega⟩) (fun c => ?_))
      rw [w_id (by omega) (by omega)]
      have := ih (i + 1) r (by omega) (by omega) hr.1
      have hq2 : EvP (fun k => P k r ((i : Int) + 1)) (fun r => r ≤ 1048576 ∧ (0 ≤ r → ∀ j, i + 1 ≤ j → j < xs.length → Q (xs.getD j z))) := by simpa using this
      refine EvP.weak hq2 (fun s hs => ⟨hs.1, fun h j h1 h2 => ?_⟩)
      by_cases e : i = j
      · subst e; exact hr.2 (by omega)
      · exact hs.2 h j (by omega) h2
  refine EvP.weak (go xs.length 0 _ (by omega) (by omega) (by omega)) (fun r hr => ⟨hr.1, fun h => ⟨hl, fun x hx => ?_⟩⟩)
  obtain ⟨j, hj, e⟩ := List.getElem_of_mem hx
  have := hr.2 h j (by omega) hj
  rw [List.getD_eq_getElem?_getD, List.getElem?_eq_getElem hj] at this
  rw [← e]; exact this
theorem ifBind {c : Prop} [Decidable c] {a x r : Option Bool} (h : a = x.bind fun t => if t = true then r else some false) : (if c then a else some false) = (if c then x else some false).bind fun t => if t = true then r else some false := by
  rw [h]; split <;> rfl
theorem bindBind {a x y r : Option Bool} (h : a = y.bind fun t => if t = true then r else some false) : (x.bind fun u => if u = true then a else some false) = (x.bind fun u => if u = true then y else some false).bind fun t => if t = true then r else some false := by
  rw [h]
  cases x with
  | none => rfl
  | some u => cases u <;> rfl
theorem EvB.andElse {c : Prop} [Decidable c] {f g : Nat → Option Bool} {p : Prop} (h : c → EvB f p) (k : EvB g False) : EvB (fun n => if c then f n else g n) (c ∧ p) :=
  EvP.ite (fun hc => (h hc).iff ⟨fun x => ⟨hc, x⟩, fun x => x.2⟩) (fun hc => k.iff ⟨False.elim, fun x => hc x.1⟩)
theorem EvB.orElse {c : Prop} [Decidable c] {f g : Nat → Option Bool} {p : Prop} (h : ¬ c → EvB f p) (k : EvB g False) : EvB (fun n => if c then g n else f n) (¬ c ∧ p) :=
  EvP.ite (fun hc => k.iff ⟨False.elim, fun x => x.1 hc⟩) (fun hc => (h hc).iff ⟨fun x => ⟨hc, x⟩, fun x => x.2⟩)
theorem EvB.bindElse {f g h : Nat → Option Bool} {p q : Prop} (a : EvB f p) (b : p → EvB g q) (c : EvB h False) : EvB (fun n => (f n).bind fun t => if t = true then g n else h n) (p ∧ q) :=
  EvP.bind a (fun t ht => (EvB.andElse (c := t = true) (fun e => b (ht.1 e)) c).iff ⟨fun x => ⟨ht.1 x.1, x.2⟩, fun x => ⟨ht.2 x.1, x.2⟩⟩)
theorem EvB.bindNot {f : Nat → Option Bool} {J : Nat → Bool → Option Bool} {p q : Prop} (a : EvB f p) (b : ∀ t, EvB (fun n => J n t) (t = false ∧ q)) : EvB (fun n => (f n).bind fun t => J n (!t)) (p ∧ q) :=
  EvP.bind a (fun t ht => (b (!t)).iff ⟨fun x => ⟨ht.1 (by simpa using x.1), x.2⟩, fun x => ⟨by simpa using ht.2 x.1, x.2⟩⟩)
/-- The same loop, told step by step, with something behind it. -/
theorem eqLoopJ {α : Type} (z : α) (a b : List α) (h : a.length = b.length) {P : Nat → Int → Option Bool} {q : Prop}
    (hs : ∀ i : Nat, i < a.length → i < b.length → a.getD i z ∈ a → ∀ p, EvB (fun k => P k ((i : Int) + 1)) p → EvB (fun k => P k (i : Int)) (a.getD i z = b.getD i z ∧ p))
    (he : EvB (fun k => P k (a.length : Int)) q) : EvB (fun k => P k 0) (a = b ∧ q) := by
  have hx : ∀ i : Nat, i < a.length → a.getD i z ∈ a := fun i hi => by
    rw [List.getD_eq_getElem?_getD, List.getElem?_eq_getElem hi]; exact List.getElem_mem hi
  have go : ∀ (d i : Nat), i + d = a.length → EvB (fun k => P k (i : Int)) ((∀ j, i ≤ j → j < a.length → a.getD j z = b.getD j z) ∧ q) := by
    intro d
    induction d with
    | zero =>
      intro i hi
      obtain rfl : i = a.length := by omega
      exact he.iff ⟨fun x => ⟨fun j h1 h2 => by omega, x⟩, fun x => x.2⟩
    | succ d ih =>
      intro i hi
      have hp : EvB (fun k => P k ((i : Int) + 1)) ((∀ j, i + 1 ≤ j → j < a.length → a.getD j z = b.getD j z) ∧ q) := by simpa using ih (i + 1) (by omega)
      refine (hs i (by omega) (by omega) (hx i (by omega)) _ hp).iff ⟨fun x => ⟨fun j h1 h2 => ?_, x.2.2⟩, fun x => ⟨x.1 i (Nat.le_refl _) (by omega), fun j h1 h2 => x.1 j (by omega) h2, x.2⟩⟩
      by_cases e : i = j
      · subst e; exact x.1
      · exact x.2.1 j (by omega) h2
  have h0 : EvB (fun k => P k 0) ((∀ j, 0 ≤ j → j < a.length → a.getD j z = b.getD j z) ∧ q) := by simpa using go a.length 0 (by omega)
  refine h0.iff ⟨fun x => ⟨(getD_eq_iff z h).1 (fun j hj => x.1 j (Nat.zero_le _) hj), x.2⟩, fun x => ⟨fun j _ hj => (getD_eq_iff z h).2 x.1 j hj, x.2⟩⟩
theorem flipIf (u v : Bool) (r s : Option Bool) : (if (!u || !v) = true then s else r) = if (u && v) = true then r else s := by cases u <;> cases v <;> rfl
theorem flipIf3 (u v w : Bool) (r s : Option Bool) : (if (!u || (!v || !w)) = true then s else r) = if (u && (v && w)) = true then r else s := by cases u <;> cases v <;> cases w <;> rfl
theorem intsOf {P : Nat → List Int → List Int → Int → Option Bool} (a b : List Int) (hl : a.length ≤ 1000000000) (h : a.length = b.length)
    (hP : ∀ k i, P (k + 1) a b i = if i < (a.length : Int) then (if 0 ≤ i then (if i < (b.length : Int) then (if (rd a i) = (rd b i) then (P k a b (wrap64 (i + 1))) else (some false)) else (none)) else (none)) else (some true)) :
    Ev (fun k => P k a b 0) (a == b) := by
  refine Ev.all (g := fun k i => P k a b i) a.length (fun j => decide (a.getD j 0 = b.getD j 0)) (fun i hi hp r hr => ?_) (fun i hi hp => ?_) ?_ (a == b) (by simp only [beq_iff_eq, decide_eq_true_eq]; exact (getD_eq_iff 0 h).symm)
  · refine Ev.next ?_
    simp only [hP]
    refine Ev.pos (by omega) (Ev.pos (by omega) (Ev.pos (by omega) (Ev.pos (by simpa [rd] using hp) ?_)))
    rw [w_id (by omega) (by omega)]
    exact hr
  · refine Ev.next ?_
    simp only [hP]
    exact Ev.pos (by omega) (Ev.pos (by omega) (Ev.pos (by omega) (Ev.neg (by simpa [rd] using hp) (Ev.now _))))
  · refine Ev.next ?_
    simp only [hP]
    exact Ev.neg (by omega) (Ev.now _)
theorem eqInts_ev (a b : List Int) (hl : a.length ≤ 1000000000) : Ev (fun k => laws_eqIntS.f k a b) (a == b) := by
  unfold laws_eqIntS.f
  refine Ev.ite (fun h => ?_) (fun h => Ev.some_ ?_)
  · exact intsOf a b hl (by omega) (fun k i => rfl)
  · rw [eq_comm, beq_eq_false_iff_ne]; rintro rfl; exact h rfl
theorem toInts_ev (xs : List Int) (hl : xs.length ≤ 1048576) : Ev (fun k => laws_toIntS.f k xs) xs := by
  unfold laws_toIntS.f
  refine Ev.pos (by omega) (Ev.pos (by omega) ?_)
  have := Ev.fill (g := fun k o i => laws_toIntS.l0 k xs o i) xs.length (fun i => xs.getD i 0) (fun i o hi ho r hr => ?_) (fun o ho => ?_) (List.replicate ((xs.length : Int) : Int).toNat 0) (by simp)
  · rw [range_getD] at this; exact this
  · refine Ev.next ?_
    simp only [laws_toIntS.l0]
    refine Ev.pos (by omega) (Ev.pos (by omega) (Ev.pos (by omega) ?_))
    rw [w_id (by omega) (by omega)]
    simpa [rd] using hr
  · refine Ev.next ?_
    simp only [laws_toIntS.l0]
    exact Ev.neg (by omega) (Ev.now _)
theorem toVals_ev (xs : List S147) (hl : xs.length ≤ 1048576) : Ev (fun k => laws_toValS.f k xs) (xs.map fun x => (⟨x.f0, x.f1⟩ : S104)) := by
  unfold laws_toValS.f
  refine Ev.pos (by omega) (Ev.pos (by omega) ?_)
  refine fillRow z147 z104 _ xs (by omega) (F := fun _ x => laws_toVal.f x.f0 x.f1) (mk := fun t => ⟨t.1, t.2⟩) (P := fun k o i => laws_toValS.l0 k xs o i) (fun x _ => ⟨_, Ev.now _, rfl⟩) (fun k o i h0 h1 => ?_) (fun k o => ?_)
  · simp only [laws_toValS.l0]; rw [if_pos h1, if_pos h0]; rfl
  · simp only [laws_toValS.l0]; rw [if_neg (by omega)]
def cF (x : S145) : S98 := ⟨x.f0, x.f1, x.f2.map fun x => ⟨x.f0, x.f1⟩, x.f3.map fun x => ⟨x.f0, x.f1⟩⟩
theorem toFrames_ev (xs : List S145) (hl : xs.length ≤ 1048576) (h : ∀ x ∈ xs, x.f2.length ≤ 1048576 ∧ x.f3.length ≤ 1048576) : Ev (fun k => laws_toFrameS.f k xs) (xs.map cF) := by
  unfold laws_toFrameS.f
  refine Ev.pos (by omega) (Ev.pos (by omega) ?_)
  refine fillRow z145 z98 cF xs (by omega) (F := fun k x => laws_toFrame.f k x.f0 x.f1 x.f2 x.f3) (mk := fun t => ⟨t.1, t.2.1, t.2.2.1, t.2.2.2⟩) (P := fun k o i => laws_toFrameS.l0 k xs o i) (fun x hx => ⟨(x.f0, x.f1, x.f2.map fun x => ⟨x.f0, x.f1⟩, x.f3.map fun x => ⟨x.f0, x.f1⟩), ?_, rfl⟩) (fun k o i h0 h1 => ?_) (fun k o => ?_)
  · exact (toVals_ev x.f2 (h x hx).1).bind ((toVals_ev x.f3 (h x hx).2).bind (Ev.now _))
  · simp only [laws_toFrameS.l0]; rw [if_pos h1, if_pos h0]; rfl
  · simp only [laws_toFrameS.l0]; rw [if_neg (by omega)]
theorem val_iff (x y : S104) : (x.f0 == y.f0 && x.f1 == y.f1) = true ↔ x = y := by
  cases x; cases y; simp
theorem sVals (a b : List S104) (hl : a.length ≤ 1000000000) : EvB (fun k => spec_l5Vals.f k a b) (a = b) := by
  unfold spec_l5Vals.f
  refine eqRow z104 a b hl (E := fun _ x y => some (x.f0 == y.f0 && x.f1 == y.f1)) (P := fun k i => spec_l5Vals.l0 k a b i) (fun x _ y => EvB.now (val_iff x y)) (fun h k i h0 h1 h2 => ?_) (fun h k => ?_)
  · simp only [spec_l5Vals.l0]; rw [if_pos h1, if_pos h0, if_pos h2]
    exact flipIf _ _ _ _
  · simp only [spec_l5Vals.l0]; rw [if_neg (by omega)]
theorem iVals (a b : List S104) (hl : a.length ≤ 1000000000) : EvB (fun k => impl_Val.f k a b) (a = b) := by
  unfold impl_Val.f
  refine eqRow z104 a b hl (E := fun _ x y => some (x.f0 == y.f0 && x.f1 == y.f1)) (P := fun k i => impl_Val.l0 k a b (a.length : Int) i) (fun x _ y => EvB.now (val_iff x y)) (fun h k i h0 h1 h2 => ?_) (fun h k => ?_)
  · simp only [impl_Val.l0]; rw [if_pos h1, if_pos h0, if_pos h1, if_pos h2]
    exact flipIf _ _ _ _
  · simp only [impl_Val.l0]; rw [if_neg (by omega)]
theorem lVals (a b : List S104) (hl : a.length ≤ 1000000000) : EvB (fun k => laws_eqValS.f k a b) (a = b) := by
  unfold laws_eqValS.f
  refine eqRow z104 a b hl (E := fun _ x y => laws_eqVal.f x.f0 x.f1 y.f0 y.f1) (P := fun k i => laws_eqValS.l0 k a b i) (fun x _ y => ?_) (fun h k i h0 h1 h2 => ?_) (fun h k => ?_)
  · unfold laws_eqVal.f
    exact (EvB.ifAnd (fun _ => EvB.ifAnd (fun _ => EvB.yes))).iff (by cases x; cases y; simp)
  · simp only [laws_eqValS.l0]; rw [if_pos h1, if_pos h0, if_pos h2]; rfl
  · simp only [laws_eqValS.l0]; rw [if_neg (by omega)]
theorem sInts (a b : List Int) (hl : a.length ≤ 1000000000) : EvB (fun k => spec_l5Ints.f k a b) (a = b) := by
  unfold spec_l5Ints.f
  exact (EvB.ifAnd (q := a = b) (fun h => EvP.of (intsOf a b hl (by omega) (fun k i => rfl)) (by simp))).iff ⟨fun h => h.2, fun h => ⟨by rw [h], h⟩⟩
theorem iInts (a b : List Int) (hl : a.length ≤ 1000000000) : EvB (fun k => slices_Equal_int_int.f k a b) (a = b) := by
  unfold slices_Equal_int_int.f
  refine (EvB.ifAnd (q := a = b) (fun h => EvP.of (intsOf (P := fun k a b i => slices_Equal_int_int.l0 k a b (a.length : Int) i) a b hl (by omega) (fun k i => ?_)) (by simp))).iff ⟨fun h => h.2, fun h => ⟨by rw [h], h⟩⟩
  simp only [slices_Equal_int_int.l0]
  by_cases h1 : i < (a.length : Int)
  · rw [if_pos h1, if_pos h1, if_pos h1]
  · rw [if_neg h1, if_neg h1]
theorem lInts (a b : List Int) (hl : a.length ≤ 1000000000) : EvB (fun k => laws_eqIntS.f k a b) (a = b) := EvP.of (eqInts_ev a b hl) (by simp)
theorem tJump (a b : List S114) (i : Nat) (hi : i ≤ 1000000000) (p : Prop) (h : EvB (fun k => spec_l5Things.l0 k a b ((i : Int) + 1)) p) (t : Bool) : EvB (fun k => spec_l5Things.j1 k a b (i : Int) t) (t = false ∧ p) := by
  refine EvP.next ?_
  simp only [spec_l5Things.j1]
  refine (EvB.orElse (c := t = true) (f := fun k => spec_l5Things.l0 k a b (wrap64 ((i : Int) + 1))) (p := p) (fun _ => ?_) EvB.no).iff (by simp)
  rw [w_id (by omega) (by omega)]; exact h
theorem tNo (a b : List S114) (i : Nat) : EvB (fun k => spec_l5Things.j1 k a b (i : Int) true) False := by
  refine EvP.next ?_
  simp only [spec_l5Things.j1]
  exact EvP.pos (by trivial) (EvP.now (by simp))
theorem sThings (a b : List S114) (hl : a.length ≤ 1000000000) (ha : ∀ x ∈ a, x.f1.length ≤ 1000000000) : EvB (fun k => spec_l5Things.f k a b) (a = b) := by
  unfold spec_l5Things.f
  refine (EvB.ifAnd (q := a = b ∧ True) (fun h => eqLoopJ z114 a b (by omega) (P := fun k i => spec_l5Things.l0 k a b i) (fun i h1 h2 hx p hp => ?_) ?_)).iff ⟨fun h => h.2.1, fun h => ⟨by rw [h], h, trivial⟩⟩
  · refine EvP.next ?_
    simp only [spec_l5Things.l0]
    refine EvP.pos (by omega) (EvP.pos (by omega) (EvP.pos (by omega) ?_))
    refine (EvB.andElse (fun _ => EvB.bindNot (sVals _ _ ?_) (fun t => tJump a b i (by omega) p hp t)) (tNo a b i)).iff ?_
    · exact ha _ hx
    · simp only [rd_T114, Int.toNat_natCast]
      generalize a.getD i z114 = x; generalize b.getD i z114 = y
      obtain ⟨x0, x1⟩ := x
      obtain ⟨y0, y1⟩ := y
      simp only [S114.mk.injEq]
      exact ⟨fun ⟨a, b, c⟩ => ⟨⟨a, b⟩, c⟩, fun ⟨⟨a, b⟩, c⟩ => ⟨a, b, c⟩⟩
  · refine EvP.next ?_
    simp only [spec_l5Things.l0]
    exact EvP.neg (by omega) EvB.yes
theorem iFrames (a b : List S98) (hl : a.length ≤ 1000000000) (ha : ∀ x ∈ a, x.f2.length ≤ 1000000000 ∧ x.f3.length ≤ 1000000000) : EvB (fun k => impl_Frame.f k a b) (a = b) := by
  unfold impl_Frame.f
  refine eqRow z98 a b hl (E := fun k x y => impl_sameFrame.f k x.f0 x.f1 x.f2 x.f3 y.f0 y.f1 y.f2 y.f3) (P := fun k i => impl_Frame.l0 k b a (a.length : Int) i) (fun x hx y => ?_) (fun h k i h0 h1 h2 => ?_) (fun h k => ?_)
  · unfold impl_sameFrame.f
    exact (EvB.ifAnd (fun _ => EvB.ifAnd (fun _ => (iVals x.f2 y.f2 (ha x hx).1).bindAnd (fun _ => (iVals x.f3 y.f3 (ha x hx).2).tail)))).iff (by cases x; cases y; simp)
  · simp only [impl_Frame.l0]; rw [if_pos h1, if_pos h0, if_pos h1, if_pos h2]; rfl
  · simp only [impl_Frame.l0]; rw [if_neg (by omega)]
theorem lFrames (a b : List S98) (hl : a.length ≤ 1000000000) (ha : ∀ x ∈ a, x.f2.length ≤ 1000000000 ∧ x.f3.length ≤ 1000000000) : EvB (fun k => laws_eqFrameS.f k a b) (a = b) := by
  unfold laws_eqFrameS.f
  refine eqRow z98 a b hl (E := fun k x y => laws_eqFrame.f k x.f0 x.f1 x.f2 x.f3 y.f0 y.f1 y.f2 y.f3) (P := fun k i => laws_eqFrameS.l0 k a b i) (fun x hx y => ?_) (fun h k i h0 h1 h2 => ?_) (fun h k => ?_)
  · unfold laws_eqFrame.f
    exact (EvB.ifAnd (fun _ => EvB.ifAnd (fun _ => (lVals x.f2 y.f2 (ha x hx).1).bindAnd (fun _ => (lVals x.f3 y.f3 (ha x hx).2).bindAnd (fun _ => EvB.yes))))).iff (by cases x; cases y; simp)
  · simp only [laws_eqFrameS.l0]; rw [if_pos h1, if_pos h0, if_pos h2]; rfl
  · simp only [laws_eqFrameS.l0]; rw [if_neg (by omega)]
structure Ok (t : List S114) (g : List S104) (f : List S98) (o : List Int) : Prop where
  t0 : t.length ≤ 1000000000
  t1 : ∀ x ∈ t, x.f1.length ≤ 1000000000
  g0 : g.length ≤ 1000000000
  f0 : f.length ≤ 1000000000
  f1 : ∀ x ∈ f, x.f2.length ≤ 1000000000 ∧ x.f3.length ≤ 1000000000
  o0 : o.length ≤ 1000000000
theorem mJump (t g f o a c t' g' f' o' a' c') (i : Nat) (hi : i ≤ 1000000000) (p : Prop) (h : EvB (fun k => spec_MeanSame.l0 k ((i : Int) + 1) t g f o a c t' g' f' o' a' c') p) (u : Bool) : EvB (fun k => spec_MeanSame.j2 k (i : Int) u t g f o a c t' g' f' o' a' c') (u = false ∧ p) := by
  refine EvP.next ?_
  simp only [spec_MeanSame.j2]
  refine (EvB.orElse (c := u = true) (f := fun k => spec_MeanSame.l0 k (wrap64 ((i : Int) + 1)) t g f o a c t' g' f' o' a' c') (p := p) (fun _ => ?_) EvB.no).iff (by simp)
  rw [w_id (by omega) (by omega)]; exact h
theorem mNo (t g f o a c t' g' f' o' a' c') (i : Nat) : EvB (fun k => spec_MeanSame.j2 k (i : Int) true t g f o a c t' g' f' o' a' c') False := by
  refine EvP.next ?_
  simp only [spec_MeanSame.j2]
  exact EvP.pos (by trivial) (EvP.now (by simp))
theorem sLoop (t g f o a c t' g' f' o' a' c') (h : Ok t g f o) (hf : f.length = f'.length) : EvB (fun k => spec_MeanSame.l0 k 0 t g f o a c t' g' f' o' a' c') (f = f') := by
  refine (eqLoopJ z98 f f' hf (q := True) (P := fun k i => spec_MeanSame.l0 k i t g f o a c t' g' f' o' a' c') (fun i h1 h2 hx p hp => ?_) ?_).iff (by simp)
  · have := h.f0
    refine EvP.next ?_
    simp only [spec_MeanSame.l0]
    refine EvP.pos (by omega) (EvP.pos (by omega) (EvP.pos (by omega) ?_))
    have no := mNo t g f o a c t' g' f' o' a' c' i
    refine (EvB.andElse (fun _ => EvB.andElse (fun _ => EvB.bindElse (sVals _ _ ?_) (fun _ => EvB.bindNot (sVals _ _ ?_) (fun u => mJump t g f o a c t' g' f' o' a' c' i (by omega) p hp u)) no) no) no).iff ?_
    · exact (h.f1 _ hx).1
    · exact (h.f1 _ hx).2
    · simp only [rd_T98, Int.toNat_natCast]
      generalize f.getD i z98 = x; generalize f'.getD i z98 = y
      obtain ⟨x0, x1, x2, x3⟩ := x
      obtain ⟨y0, y1, y2, y3⟩ := y
      simp only [S98.mk.injEq]
      exact ⟨fun ⟨a, b, c, d, e⟩ => ⟨⟨a, b, c, d⟩, e⟩, fun ⟨⟨a, b, c, d⟩, e⟩ => ⟨a, b, c, d, e⟩⟩
  · refine EvP.next ?_
    simp only [spec_MeanSame.l0]
    exact EvP.neg (by omega) EvB.yes
theorem sJump (t g f o a c t' g' f' o' a' c') (h : Ok t g f o) (hf : f.length = f'.length) (b : Bool) : EvB (fun k => spec_MeanSame.j0 k b t g f o a c t' g' f' o' a' c') (b = false ∧ f = f') := by
  refine EvP.next ?_
  simp only [spec_MeanSame.j0]
  refine EvP.ite (fun e => EvP.now (by simp [e])) (fun e => ?_)
  exact EvB.iff (sLoop t g f o a c t' g' f' o' a' c' h hf) (by simp [e])
theorem sNo (t g f o a c t' g' f' o' a' c') (p : Prop) (hp : ¬ p) : EvB (fun k => spec_MeanSame.j0 k true t g f o a c t' g' f' o' a' c') p := by
  refine EvP.next ?_
  simp only [spec_MeanSame.j0]
  exact EvP.pos (by trivial) (EvP.now (by simp [hp]))
theorem mean_ev (t g f o a c t' g' f' o' a' c') (h : Ok t g f o) : EvB (fun k => spec_MeanSame.f k t g f o a c t' g' f' o' a' c') (t = t' ∧ g = g' ∧ f = f' ∧ o = o' ∧ a = a' ∧ c = c') := by
  unfold spec_MeanSame.f
  refine EvP.ite (fun h1 => EvP.ite (fun h2 => EvP.ite (fun h3 => ?_) (fun n => sNo _ _ _ _ _ _ _ _ _ _ _ _ _ fun e => n (by rw [e.2.2.1]))) (fun n => sNo _ _ _ _ _ _ _ _ _ _ _ _ _ fun e => n e.2.2.2.2.2)) (fun n => sNo _ _ _ _ _ _ _ _ _ _ _ _ _ fun e => n e.2.2.2.2.1)
  refine EvP.bind (sInts o o' h.o0) (fun u hu => EvP.ite (fun e => ?_) (fun n => sNo _ _ _ _ _ _ _ _ _ _ _ _ _ fun e => n (hu.2 e.2.2.2.1)))
  refine EvP.bind (sVals g g' h.g0) (fun v hv => EvP.ite (fun e2 => ?_) (fun n => sNo _ _ _ _ _ _ _ _ _ _ _ _ _ fun e => n (hv.2 e.2.1)))
  refine EvP.bind (sThings t t' h.t0 h.t1) (fun w hw => ?_)
  refine EvB.iff (sJump t g f o a c t' g' f' o' a' c' h (by omega) (!w)) ?_
  have := hu.1 e; have := hv.1 e2
  simp only [Bool.not_eq_false']
  rw [hw]
  exact ⟨fun x => ⟨x.1, by assumption, x.2, by assumption, h1, h2⟩, fun x => ⟨x.1, x.2.2.1⟩⟩
structure OkE (h : List Int) (m : List Int) (g : List S104) (f : List S98) (o : List Int) : Prop where
  h0 : h.length ≤ 1000000000
  m0 : m.length ≤ 1000000000
  ok : Ok [] g f o
theorem spec_ev (h b e z m g f o a c y h' b' e' z' m' g' f' o' a' c' y') (k : OkE h m g f o) : EvB (fun n => spec_EngineSame.f n h b e z m g f o a c y h' b' e' z' m' g' f' o' a' c' y') (h = h' ∧ b = b' ∧ e = e' ∧ z = z' ∧ m = m' ∧ g = g' ∧ f = f' ∧ o = o' ∧ a = a' ∧ c = c' ∧ y = y') := by
  unfold spec_EngineSame.f spec_HeapSame.f
  refine (EvB.ifAnd (fun _ => EvB.bindAnd (EvB.ifAnd (fun _ => EvB.ifAnd (fun _ => EvB.ifAnd (fun _ => (sInts h h' k.h0).bindAnd (fun _ => (sInts m m' k.m0).tail))))) (fun _ => (mean_ev [] g f o a c [] g' f' o' a' c' k.ok).tail))).iff ?_
  exact ⟨fun ⟨q1, ⟨q2, q3, q4, q5, q6⟩, _, q7, q8, q9, q10, q11⟩ => ⟨q5, q2, q3, q4, q6, q7, q8, q9, q10, q11, q1⟩, fun ⟨q5, q2, q3, q4, q6, q7, q8, q9, q10, q11, q1⟩ => ⟨q1, ⟨q2, q3, q4, q5, q6⟩, rfl, q7, q8, q9, q10, q11⟩⟩
theorem impl_ev (h b e z m g f o a c y h' b' e' z' m' g' f' o' a' c' y') (k : OkE h m g f o) : EvB (fun n => impl_EngineSame.f n h b e z m g f o a c y h' b' e' z' m' g' f' o' a' c' y') (h = h' ∧ b = b' ∧ e = e' ∧ z = z' ∧ m = m' ∧ g = g' ∧ f = f' ∧ o = o' ∧ a = a' ∧ c = c' ∧ y = y') := by
  unfold impl_EngineSame.f impl_HeapSame.f
  refine (EvB.bindAnd ((iInts h h' k.h0).bindAnd (fun _ => EvB.ifAnd (fun _ => EvB.ifAnd (fun _ => EvB.ifAnd (fun _ => (iInts m m' k.m0).tail))))) (fun _ => (iVals g g' k.ok.g0).bindAnd (fun _ => (iFrames f f' k.ok.f0 k.ok.f1).bindAnd (fun _ => (iInts o o' k.ok.o0).bindAnd (fun _ => EvB.ifAnd (fun _ => EvB.ifAnd (fun _ => EvB.now (p := y = y') (by simp)))))))).iff ?_
  exact ⟨fun ⟨⟨q1, q2, q3, q4, q5⟩, q6⟩ => ⟨q1, q2, q3, q4, q5, q6⟩, fun ⟨q1, q2, q3, q4, q5, q6⟩ => ⟨⟨q1, q2, q3, q4, q5⟩, q6⟩⟩
theorem eq_ev (h b e z m g f o a c y) (k : OkE h m g f o) : Ev (fun n => laws_eqEngine.f n h b e z m g f o a c y h b e z m g f o a c y) true := by
  unfold laws_eqEngine.f laws_eqHeap.f
  obtain ⟨r, hr, hq⟩ := EvB.bindAnd ((lInts h h k.h0).bindAnd (fun _ => EvB.ifAnd (c := b = b) (fun _ => EvB.ifAnd (c := e = e) (fun _ => EvB.ifAnd (c := z = z) (fun _ => (lInts m m k.m0).bindAnd (fun _ => EvB.yes)))))) (fun _ => (lVals g g k.ok.g0).bindAnd (fun _ => (lFrames f f k.ok.f0 k.ok.f1).bindAnd (fun _ => (lInts o o k.ok.o0).bindAnd (fun _ => EvB.ifAnd (c := a = a) (fun _ => EvB.ifAnd (c := c = c) (fun _ => EvB.ifAnd (c := y = y) (fun _ => EvB.yes)))))))
  obtain rfl : r = true := hq.2 (by simp)
  exact hr
theorem szVals (l : List S147) (h : l.length ≤ maxLen) : Sz (fun _ a => laws_szValS.f l a) (l.length ≤ 1048576) := Sz.row h (fun _ _ => rfl)
theorem szInts (l : List Int) (h : l.length ≤ maxLen) : Sz (fun _ a => laws_szIntS.f l a) (l.length ≤ 1048576) := Sz.row h (fun _ _ => rfl)
theorem szFrames (l : List S145) (h : l.length ≤ maxLen ∧ ∀ x ∈ l, x.f2.length ≤ maxLen ∧ x.f3.length ≤ maxLen) : Sz (fun k a => laws_szFrameS.f k l a) (l.length ≤ 1048576 ∧ ∀ x ∈ l, x.f2.length ≤ 1048576 ∧ x.f3.length ≤ 1048576) := by
  refine Sz.loop z145 l h.1 (F := fun _ x a => laws_szFrame.f x.f0 x.f1 x.f2 x.f3 a) (P := fun k a i => laws_szFrameS.l0 k l a i) (fun x hx => ?_) (fun k a => rfl) (fun k a i h0 h1 => ?_) (fun k a => ?_)
  · unfold laws_szFrame.f; exact (szVals x.f2 (h.2 x hx).1).bind (szVals x.f3 (h.2 x hx).2).last
  · simp only [laws_szFrameS.l0]; rw [if_pos h1, if_pos h0]; rfl
  · simp only [laws_szFrameS.l0]; rw [if_neg (by omega)]
theorem both (h : List Int) (b e z : Int) (m : List Int) (g : List S147) (f : List S145) (o : List Int) (a c y : Int) (hh : h.length ≤ maxLen) (hm : m.length ≤ maxLen) (hg : g.length ≤ maxLen) (hf : f.length ≤ maxLen ∧ ∀ x ∈ f, x.f2.length ≤ maxLen ∧ x.f3.length ≤ maxLen) (ho : o.length ≤ maxLen) :
    Sz (fun k n => laws_szEngine.f k h b e z m g f o a c y n) (∃ g' f', OkE h m g' f' o ∧ Ev (fun k => laws_toEngine.f k h b e z m g f o a c y) (h, b, e, z, m, g', f', o, a, c, y)) := by
  intro n h0 h1
  refine EvP.weak (show EvP (fun k => laws_szEngine.f k h b e z m g f o a c y n) _ from (Sz.bind (f := fun _ a => laws_szHeap.f h b e z m a) ((szInts h hh).bind (szInts m hm).last) ((szVals g hg).bind ((szFrames f hf).bind (szInts o ho).last))) n h0 h1) (fun r hr => ⟨hr.1, fun hx => ?_⟩)
  obtain ⟨⟨a1, a2⟩, a3, ⟨a4, a5⟩, a6⟩ := hr.2 hx
  refine ⟨g.map fun x => ⟨x.f0, x.f1⟩, f.map cF, ⟨by omega, by omega, by simp, by simp, by simp; omega, by simp; omega, ?_, by omega⟩, ?_⟩
  · intro x hx; obtain ⟨y, hy, rfl⟩ := List.mem_map.1 hx; have := a5 y hy; simp [cF]; omega
  · unfold laws_toEngine.f laws_toHeap.f
    exact Ev.bind ((toInts_ev h a1).bind ((toInts_ev m a2).bind (Ev.now _))) ((toVals_ev g a3).bind ((toFrames_ev f a4 a5).bind ((toInts_ev o a6).bind (Ev.now _))))
theorem FnExactEngineSame : laws_FnExactEngineSame.Pure := by
  intro h b e z m g f o a c y h' b' e' z' m' g' f' o' a' c' y' hh _ _ _ hm hg hf ho _ _ _ hh' _ _ _ hm' hg' hf' ho' _ _ _
  apply Ev.rounds
  unfold laws_FnExactEngineSame.f
  obtain ⟨r, hr, r1, r2⟩ := both h b e z m g f o a c y hh.1 hm.1 hg.1 ⟨hf.1, fun x hx => ⟨(hf.2 x hx).2.2.1.1, (hf.2 x hx).2.2.2.1⟩⟩ ho.1 1048576 (by omega) (by omega)
  refine Ev.bind hr (Ev.ite (fun _ => Ev.now _) fun n => ?_)
  obtain ⟨s, hs, s1, s2⟩ := both h' b' e' z' m' g' f' o' a' c' y' hh'.1 hm'.1 hg'.1 ⟨hf'.1, fun x hx => ⟨(hf'.2 x hx).2.2.1.1, (hf'.2 x hx).2.2.2.1⟩⟩ ho'.1 r (by omega) r1
  refine Ev.bind hs (Ev.ite (fun _ => Ev.now _) fun n' => ?_)
  obtain ⟨g1, f1, k1, e1⟩ := r2 (by omega)
  obtain ⟨g2, f2, k2, e2⟩ := s2 (by omega)
  refine e1.bind (e2.bind ?_)
  obtain ⟨u, hu, hu'⟩ := spec_ev h b e z m g1 f1 o a c y h' b' e' z' m' g2 f2 o' a' c' y' k1
  obtain ⟨v, hv, hv'⟩ := impl_ev h b e z m g1 f1 o a c y h' b' e' z' m' g2 f2 o' a' c' y' k1
  have e : v = u := by rw [Bool.eq_iff_iff, hu', hv']
  refine hu.bind (e1.bind (e2.bind (hv.bind (Ev.neg (by simp [e]) ?_))))
  exact e1.bind ((eq_ev _ _ _ _ _ _ _ _ _ _ _ k1).bind (Ev.pos rfl (e2.bind ((eq_ev _ _ _ _ _ _ _ _ _ _ _ k2).bind (Ev.pos rfl (Ev.now _))))))
end Go.Proofs.Ytgbmfkfmimpaaaa.Pure
