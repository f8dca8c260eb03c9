/- Proved: the law FnExactThingText answers true: the program's ThingText writes what the reference's writes, for all things. No condition. -/
import Derived.Test.YthomfkdoaembbaaDoorPFnExactThingTextx2
import Derived.Lib.ItoaLen
namespace Go.Proofs.YthomfkdoaembbaaDoor.Pure
open Go.RowKit Go.Proofs.YthomfkdoaembbaaDoor.PFnExactThingText Go.Proofs.YthomfkdoaembbaaDoorW.PrintWords Go.Proofs.YthomfkdoaembbaaDoorW.PrintLast
theorem w_id {x : Int} (h0 : -9223372036854775808 ≤ x) (h1 : x ≤ 9223372036854775807) : wrap64 x = x := by unfold wrap64; omega
theorem Ev.pos {α : Type} {c : Prop} [Decidable c] {f g : Nat → Option α} {r : α} (h : c) (k : Ev f r) : Ev (fun n => if c then f n else g n) r := Ev.congr (fun _ => if_pos h) k
theorem Ev.neg {α : Type} {c : Prop} [Decidable c] {f g : Nat → Option α} {r : α} (h : ¬ c) (k : Ev g r) : Ev (fun n => if c then f n else g n) r := Ev.congr (fun _ => if_neg h) k
theorem Ev.ite {α : Type} {c : Prop} [Decidable c] {f g : Nat → Option α} {r : α} (h : c → Ev f r) (k : ¬ c → Ev g r) : Ev (fun n => if c then f n else g n) r := by
  by_cases hc : c
  · exact Ev.pos hc (h hc)
  · exact Ev.neg hc (k hc)
theorem Ev.got {α β : Type} {o : Option α} {f : Nat → α → Option β} {a : α} {r : β} (h : o = some a) (k : Ev (fun n => f n a) r) : Ev (fun n => o.bind (f n)) r := Ev.congr (fun _ => by rw [h]; rfl) k
theorem Ev.next {α : Type} {g : Nat → Option α} {r : α} (k : Ev (fun n => g (n + 1)) r) : Ev g r := Ev.step (fun _ => rfl) k
theorem Ev.some_ {α : Type} {a r : α} (h : a = r) : Ev (fun _ => some a) r := ⟨0, fun _ _ => by rw [h]⟩
theorem Ev.ex_ite {α : Type} {c : Prop} [Decidable c] {f g : Nat → Option α} {P : α → Prop} (h : c → ∃ r, Ev f r ∧ P r) (k : ¬ c → ∃ r, Ev g r ∧ P r) : ∃ r, Ev (fun n => if c then f n else g n) r ∧ P r := by
  by_cases hc : c
  · obtain ⟨r, a, b⟩ := h hc
    exact ⟨r, Ev.pos hc a, b⟩
  · obtain ⟨r, a, b⟩ := k hc
    exact ⟨r, Ev.neg hc a, b⟩
/-- A loop that goes on while a test holds. -/
theorem Ev.all {g : Nat → Int → Option Bool} (n : Nat) (p : Nat → Bool)
    (hs : ∀ i : Nat, i < n → p i = true → ∀ r, Ev (fun k => g k ((i : Int) + 1)) r → Ev (fun k => g k (i : Int)) r)
    (hf : ∀ i : Nat, i < n → p i = false → Ev (fun k => g k (i : Int)) false) (he : Ev (fun k => g k (n : Int)) true)
    (b : Bool) (hb : b = true ↔ ∀ j, j < n → p j = true) : Ev (fun k => g k 0) b := by
  have h : ∀ (d i : Nat) (b : Bool), i + d = n → (b = true ↔ ∀ j, i ≤ j → j < n → p j = true) → Ev (fun k => g k (i : Int)) b := by
    intro d
    induction d with
    | zero =>
      intro i b hi hb
      obtain rfl : i = n := by omega
      rw [hb.2 (fun j h1 h2 => by omega)]
      exact he
    | succ d ih =>
      intro i b hi hb
      cases hp : p i with
      | true =>
        refine hs i (by omega) hp _ ?_
        have := ih (i + 1) b (by omega) (hb.trans ⟨fun h j h1 h2 => h j (by omega) h2, fun h j h1 h2 => by
            by_cases e : i = j
            · subst e; exact hp
            · exact h j (by omega) h2⟩)
        simpa using this
      | false =>
        cases b with
        | true => have := hb.1 rfl i (Nat.le_refl _) (by omega); rw [hp] at this; cases this
        | false => exact hf i (by omega) hp
  have := h n 0 b (by omega) (hb.trans ⟨fun h j _ h2 => h j h2, fun h j h2 => h j (by omega) h2⟩)
  simpa using this
theorem getD_eq_iff {α : Type} (z : α) {xs ys : List α} (h : xs.length = ys.length) : (∀ j, j < xs.length → xs.getD j z = ys.getD j z) ↔ xs = ys := by
  constructor
  · intro hj
    apply List.ext_getElem h
    intro j h1 h2
    have := hj j h1
    simpa [List.getD_eq_getElem?_getD, List.getElem?_eq_getElem h1, List.getElem?_eq_getElem h2] using this
  · rintro rfl j _; rfl
/-- A loop that fills a row of the right length from the front. -/
theorem Ev.fill {α : Type} {g : Nat → List α → Int → Option (List α)} (n : Nat) (f : Nat → α)
    (hs : ∀ (i : Nat) (o : List α), i < n → o.length = n → ∀ r, Ev (fun k => g k (o.set i (f i)) ((i : Int) + 1)) r → Ev (fun k => g k o (i : Int)) r)
    (he : ∀ o : List α, o.length = n → Ev (fun k => g k o (n : Int)) o) (o : List α) (ho : o.length = n) : Ev (fun k => g k o 0) ((List.range n).map f) := by
  have h : ∀ (d i : Nat) (o : List α), i + d = n → o.length = n → (∀ j, j < i → o[j]? = some (f j)) → Ev (fun k => g k o (i : Int)) ((List.range n).map f) := by
    intro d
    induction d with
    | zero =>
      intro i o hi hl hj
      obtain rfl : i = n := by omega
      rw [show (List.range i).map f = o from by
        apply List.ext_getElem?
        intro j
        by_cases hjn : j < i
        · rw [hj j hjn]; simp [hjn]
        · rw [List.getElem?_eq_none (by simp; omega), List.getElem?_eq_none (by omega)]]
      exact he o hl
    | succ d ih =>
      intro i o hi hl hj
      refine hs i o (by omega) hl _ ?_
      have := ih (i + 1) (o.set i (f i)) (by omega) (by simpa using hl) (fun j hji => by
        rw [List.getElem?_set]
        by_cases e : i = j
        · subst e; simp [show i < o.length by omega]
        · rw [if_neg e]; exact hj j (by omega))
      simpa using this
  have := h n 0 o (by omega) ho (fun j hj => by omega)
  simpa using this
theorem range_getD {α : Type} (z : α) (xs : List α) : ((List.range xs.length).map fun i => xs.getD i z) = xs := by
  apply List.ext_getElem?
  intro j
  by_cases h : j < xs.length
  · simp [h, List.getD_eq_getElem?_getD]
  · rw [List.getElem?_eq_none (by simp; omega), List.getElem?_eq_none (by omega)]
/-- From some number of rounds on there is an answer of which P holds. -/
def EvP {α : Type} (g : Nat → Option α) (P : α → Prop) : Prop := ∃ r, Ev g r ∧ P r
theorem EvP.bind {α β : Type} {g : Nat → Option α} {f : Nat → α → Option β} {P : α → Prop} {Q : β → Prop} (h : EvP g P) (k : ∀ a, P a → EvP (fun n => f n a) Q) : EvP (fun n => (g n).bind (f n)) Q := by
  obtain ⟨a, ha, hp⟩ := h
  obtain ⟨b, hb, hq⟩ := k a hp
  exact ⟨b, ha.bind hb, hq⟩
theorem EvP.got {α β : Type} {o : Option α} {f : Nat → α → Option β} {a : α} {Q : β → Prop} (h : o = some a) (k : EvP (fun n => f n a) Q) : EvP (fun n => o.bind (f n)) Q := by
  obtain ⟨b, hb, hq⟩ := k
  exact ⟨b, Ev.got h hb, hq⟩
theorem EvP.ite {α : Type} {c : Prop} [Decidable c] {f g : Nat → Option α} {Q : α → Prop} (h : c → EvP f Q) (k : ¬ c → EvP g Q) : EvP (fun n => if c then f n else g n) Q := by
  by_cases hc : c
  · obtain ⟨r, a, b⟩ := h hc
    exact ⟨r, Ev.pos hc a, b⟩
  · obtain ⟨r, a, b⟩ := k hc
    exact ⟨r, Ev.neg hc a, b⟩
theorem EvP.pos {α : Type} {c : Prop} [Decidable c] {f g : Nat → Option α} {Q : α → Prop} (hc : c) (h : EvP f Q) : EvP (fun n => if c then f n else g n) Q := EvP.ite (fun _ => h) (fun n => absurd hc n)
theorem EvP.neg {α : Type} {c : Prop} [Decidable c] {f g : Nat → Option α} {Q : α → Prop} (hc : ¬ c) (h : EvP g Q) : EvP (fun n => if c then f n else g n) Q := EvP.ite (fun n => absurd n hc) (fun _ => h)
theorem EvP.now {α : Type} {Q : α → Prop} {a : α} (h : Q a) : EvP (fun _ => some a) Q := ⟨a, Ev.now a, h⟩
theorem EvP.next {α : Type} {g : Nat → Option α} {Q : α → Prop} (k : EvP (fun n => g (n + 1)) Q) : EvP g Q := by
  obtain ⟨r, a, b⟩ := k
  exact ⟨r, Ev.next a, b⟩
theorem EvP.of {α : Type} {g : Nat → Option α} {Q : α → Prop} {r : α} (h : Ev g r) (q : Q r) : EvP g Q := ⟨r, h, q⟩
theorem EvP.weak {α : Type} {g : Nat → Option α} {P Q : α → Prop} (h : EvP g P) (k : ∀ a, P a → Q a) : EvP g Q := by
  obtain ⟨r, a, b⟩ := h
  exact ⟨r, a, k r b⟩
theorem EvP.congr {α : Type} {g f : Nat → Option α} {Q : α → Prop} (h : ∀ k, g k = f k) (k : EvP f Q) : EvP g Q := by
  obtain ⟨r, a, b⟩ := k
  exact ⟨r, Ev.congr h a, b⟩
/-- An answer that tells whether p holds. -/
def EvB (f : Nat → Option Bool) (p : Prop) : Prop := EvP f (fun c => c = true ↔ p)
theorem EvB.yes : EvB (fun _ => some true) True := EvP.now (by simp)
theorem EvB.no : EvB (fun _ => some false) False := EvP.now (by simp)
theorem EvB.iff {f : Nat → Option Bool} {p q : Prop} (h : EvB f p) (e : p ↔ q) : EvB f q := EvP.weak h (fun _ a => a.trans e)
theorem EvB.now {b : Bool} {p : Prop} (h : b = true ↔ p) : EvB (fun _ => some b) p := EvP.now h
theorem EvB.bindAnd {f : Nat → Option Bool} {g : Nat → Option Bool} {p q : Prop} (h : EvB f p) (k : p → EvB g q) : EvB (fun n => (f n).bind fun t => if t = true then g n else some false) (p ∧ q) :=
  EvP.bind h (fun c hc => by
    cases c with
    | true => exact (k (hc.1 rfl)).iff ⟨fun h => ⟨hc.1 rfl, h⟩, fun h => h.2⟩ |>.weak (fun _ h => h)
    | false => exact EvP.now ⟨(fun h => nomatch h), fun h => by have := hc.2 h.1; cases this⟩)
theorem EvB.ifAnd {c : Prop} [Decidable c] {g : Nat → Option Bool} {q : Prop} (k : c → EvB g q) : EvB (fun n => if c then g n else some false) (c ∧ q) :=
  EvP.ite (fun h => (k h).iff ⟨fun x => ⟨h, x⟩, fun x => x.2⟩) (fun h => EvP.now ⟨(fun x => nomatch x), fun x => absurd x.1 h⟩)
theorem EvB.tail {f : Nat → Option Bool} {p : Prop} (h : EvB f p) : EvB (fun n => (f n).bind fun t => some t) p := EvP.bind h (fun _ hc => EvP.now hc)
theorem EvB.congr {f g : Nat → Option Bool} {p : Prop} (h : ∀ k, g k = f k) (k : EvB f p) : EvB g p := EvP.congr h k
/-- A loop over two rows of one length, that stops at the first two parts that differ. -/
theorem eqLoop {α : Type} (z : α) (a b : List α) (h : a.length = b.length) (hl : a.length ≤ 1000000000) {E : Nat → α → α → Option Bool} {P : Nat → Int → Option Bool}
    (hE : ∀ x, x ∈ a → ∀ y, EvB (fun k => E k x y) (x = y))
    (hP : ∀ k i, 0 ≤ i → i < (a.length : Int) → i < (b.length : Int) → P (k + 1) i = (E k (a.getD i.toNat z) (b.getD i.toNat z)).bind fun t => if t = true then P k (wrap64 (i + 1)) else some false)
    (he : ∀ k, P (k + 1) (a.length : Int) = some true) : EvB (fun k => P k 0) (a = b) := by
  classical
  have hx : ∀ i : Nat, i < a.length → a.getD i z ∈ a := fun i hi => by
    rw [List.getD_eq_getElem?_getD, List.getElem?_eq_getElem hi]; exact List.getElem_mem hi
  refine ⟨decide (a = b), ?_, by simp⟩
  refine Ev.all (g := fun k i => P k i) a.length (fun j => decide (a.getD j z = b.getD j z)) (fun i hi hp r hr => ?_) (fun i hi hp => ?_) ?_ (decide (a = b)) (by simp only [decide_eq_true_eq]; exact (getD_eq_iff z h).symm)
  · refine Ev.next (Ev.congr (fun k => hP k i (by omega) (by omega) (by omega)) ?_)
    obtain ⟨c, hc, hq⟩ := hE _ (hx i hi) (b.getD i z)
    have hc' : c = true := hq.2 (of_decide_eq_true hp)
    refine Ev.bind (by simpa using hc) (Ev.pos hc' ?_)
    rw [w_id (by omega) (by omega)]
    exact hr
  · refine Ev.next (Ev.congr (fun k => hP k i (by omega) (by omega) (by omega)) ?_)
    obtain ⟨c, hc, hq⟩ := hE _ (hx i hi) (b.getD i z)
    have hc' : ¬ c = true := fun e => absurd (hq.1 e) (of_decide_eq_false hp)
    exact Ev.bind (by simpa using hc) (Ev.neg hc' (Ev.now _))
  · exact Ev.next (Ev.congr (fun k => he k) (Ev.now _))
theorem eqRow {α : Type} (z : α) (a b : List α) (hl : a.length ≤ 1000000000) {E : Nat → α → α → Option Bool} {P : Nat → Int → Option Bool}
    (hE : ∀ x, x ∈ a → ∀ y, EvB (fun k => E k x y) (x = y))
    (hP : a.length = b.length → ∀ k i, 0 ≤ i → i < (a.length : Int) → i < (b.length : Int) → P (k + 1) i = (E k (a.getD i.toNat z) (b.getD i.toNat z)).bind fun t => if t = true then P k (wrap64 (i + 1)) else some false)
    (he : a.length = b.length → ∀ k, P (k + 1) (a.length : Int) = some true) : EvB (fun k => if (a.length : Int) = (b.length : Int) then P k 0 else some false) (a = b) :=
  (EvB.ifAnd (fun h => eqLoop z a b (by omega) hl hE (hP (by omega)) (he (by omega)))).iff ⟨fun h => h.2, fun h => ⟨by rw [h], h⟩⟩
/-- A loop that copies a row. -/
theorem fillRow {α β γ : Type} (z : α) (z' : β) (c : α → β) (xs : List α) (hl : xs.length ≤ 1000000000) {F : Nat → α → Option γ} {mk : γ → β} {P : Nat → List β → Int → Option (List β)}
    (hF : ∀ x, x ∈ xs → ∃ t, Ev (fun k => F k x) t ∧ mk t = c x)
    (hP : ∀ k o i, 0 ≤ i → i < (xs.length : Int) → P (k + 1) o i = (F k (xs.getD i.toNat z)).bind fun t => if i < (o.length : Int) then P k (o.set i.toNat (mk t)) (wrap64 (i + 1)) else none)
    (he : ∀ k o, P (k + 1) o (xs.length : Int) = some o) : Ev (fun k => P k (List.replicate ((xs.length : Int) : Int).toNat z') 0) (xs.map c) := by
  have hx : ∀ i : Nat, i < xs.length → xs.getD i z ∈ xs := fun i hi => by
    rw [List.getD_eq_getElem?_getD, List.getElem?_eq_getElem hi]; exact List.getElem_mem hi
  have := Ev.fill (g := fun k o i => P k o i) xs.length (fun i => c (xs.getD i z)) (fun i o hi ho r hr => ?_) (fun o ho => ?_) (List.replicate ((xs.length : Int) : Int).toNat z') (by simp)
  · have e : (List.range xs.length).map (fun i => c (xs.getD i z)) = xs.map c := by
      conv => rhs; rw [← range_getD z xs]
      simp
    rw [e] at this; exact this
  · refine Ev.next (Ev.congr (fun k => hP k o i (by omega) (by omega)) ?_)
    obtain ⟨t, ht, hm⟩ := hF _ (hx i hi)
    refine Ev.bind (by simpa using ht) (Ev.pos (by omega) ?_)
    rw [w_id (by omega) (by omega), hm]
    simpa using hr
  · exact Ev.next (Ev.congr (fun k => he k o) (Ev.now _))
/-- What a size function tells: no more than it was given, and -1 when it is too much. -/
def Sz (f : Nat → Int → Option Int) (Q : Prop) : Prop := ∀ a, 0 ≤ a → a ≤ 1048576 → EvP (fun k => f k a) (fun r => r ≤ 1048576 ∧ (0 ≤ r → Q))
theorem Sz.row {f : Nat → Int → Option Int} {n : Nat} (hn : n ≤ maxLen) (hf : ∀ k a, f k a = if (wrap64 (a - (n : Int))) < 0 then (some (-1)) else (some (wrap64 (a - (n : Int))))) : Sz f (n ≤ 1048576) := by
  have hm : maxLen = 9223372036854775807 := rfl
  intro a h0 h1
  refine EvP.congr (fun k => hf k a) ?_
  rw [w_id (by omega) (by omega)]
  exact EvP.ite (fun h => EvP.now ⟨by omega, fun h => by omega⟩) (fun h => EvP.now ⟨by omega, fun h => by omega⟩)
theorem Sz.bind {f g : Nat → Int → Option Int} {P Q : Prop} (h : Sz f P) (k : Sz g Q) : Sz (fun n a => (f n a).bind fun t => if t < 0 then some (-1) else g n t) (P ∧ Q) := by
  intro a h0 h1
  refine EvP.bind (h a h0 h1) (fun r hr => EvP.ite (fun c => EvP.now ⟨by omega, fun h => by omega⟩) (fun c => EvP.weak (k r (by omega) hr.1) (fun s hs => ⟨hs.1, fun h => ⟨hr.2 (by omega), hs.2 h⟩⟩)))
theorem Sz.last {f : Nat → Int → Option Int} {P : Prop} (h : Sz f P) : Sz (fun n a => (f n a).bind fun t => if t < 0 then some (-1) else some t) P := by
  intro a h0 h1
  refine EvP.bind (h a h0 h1) (fun r hr => EvP.ite (fun c => EvP.now ⟨by omega, fun h => by omega⟩) (fun c => EvP.now hr))
theorem Sz.loop {α : Type} (z : α) (xs : List α) (hn : xs.length ≤ maxLen) {F : Nat → α → Int → Option Int} {P : Nat → Int → Int → Option Int} {f : Nat → Int → Option Int} {Q : α → Prop}
    (hF : ∀ x, x ∈ xs → Sz (fun k a => F k x a) (Q x))
    (hf : ∀ k a, f k a = if (wrap64 (a - (xs.length : Int))) < 0 then (some (-1)) else P k (wrap64 (a - (xs.length : Int))) 0)
    (hP : ∀ k a i, 0 ≤ i → i < (xs.length : Int) → P (k + 1) a i = (F k (xs.getD i.toNat z) a).bind fun t => if t < 0 then some (-1) else P k t (wrap64 (i + 1)))
    (he : ∀ k a, P (k + 1) a (xs.length : Int) = some a) : Sz f (xs.length ≤ 1048576 ∧ ∀ x, x ∈ xs → Q x) := by
  have hm : maxLen = 9223372036854775807 := rfl
  have hx : ∀ i : Nat, i < xs.length → xs.getD i z ∈ xs := fun i hi => by
    rw [List.getD_eq_getElem?_getD, List.getElem?_eq_getElem hi]; exact List.getElem_mem hi
  intro a h0 h1
  refine EvP.congr (fun k => hf k a) ?_
  rw [w_id (by omega) (by omega)]
  refine EvP.ite (fun h => EvP.now ⟨by omega, fun h => by omega⟩) (fun h => ?_)
  have hl : xs.length ≤ 1048576 := by omega
  have go : ∀ (d i : Nat) (a : Int), i + d = xs.length → 0 ≤ a → a ≤ 1048576 → EvP (fun k => P k a (i : Int)) (fun r => r ≤ 1048576 ∧ (0 ≤ r → ∀ j, i ≤ j → j < xs.length → Q (xs.getD j z))) := by
    intro d
    induction d with
    | zero =>
      intro i a hi h0 h1
      obtain rfl : i = xs.length := by omega
      exact EvP.next (EvP.congr (fun k => he k a) (EvP.now ⟨h1, fun _ j _ _ => by omega⟩))
    | succ d ih =>
      intro i a hi h0 h1
      refine EvP.next (EvP.congr (fun k => hP k a i (by omega) (by omega)) ?_)
      have hq : EvP (fun k => F k (xs.getD (i : Int).toNat z) a) (fun r => r ≤ 1048576 ∧ (0 ≤ r → Q (xs.getD i z))) := by simpa using hF _ (hx i (by omega)) a h0 h1
      refine EvP.bind hq (fun r hr => EvP.ite (fun c => EvP.now ⟨by omega, fun h => by omega⟩) (fun c => ?_))
      rw [w_id (by omega) (by omega)]
      have := ih (i + 1) r (by omega) (by omega) hr.1
      have hq2 : EvP (fun k => P k r ((i : Int) + 1)) (fun r => r ≤ 1048576 ∧ (0 ≤ r → ∀ j, i + 1 ≤ j → j < xs.length → Q (xs.getD j z))) := by simpa using this
      refine EvP.weak hq2 (fun s hs => ⟨hs.1, fun h j h1 h2 => ?_⟩)
      by_cases e : i = j
      · subst e; exact hr.2 (by omega)
      · exact hs.2 h j (by omega) h2
  refine EvP.weak (go xs.length 0 _ (by omega) (by omega) (by omega)) (fun r hr => ⟨hr.1, fun h => ⟨hl, fun x hx => ?_⟩⟩)
  obtain ⟨j, hj, e⟩ := List.getElem_of_mem hx
  have := hr.2 h j (by omega) hj
  rw [List.getD_eq_getElem?_getD, List.getElem?_eq_getElem hj] at this
  rw [← e]; exact this
theorem ifBind {c : Prop} [Decidable c] {a x r : Option Bool} (h : a = x.bind fun t => if t = true then r else some false) : (if c then a else some false) = (if c then x else some false).bind fun t => if t = true then r else some false := by
  rw [h]; split <;> rfl
theorem bindBind {a x y r : Option Bool} (h : a = y.bind fun t => if t = true then r else some false) : (x.bind fun u => if u = true then a else some false) = (x.bind fun u => if u = true then y else some false).bind fun t => if t = true then r else some false := by
  rw [h]
  cases x with
  | none => rfl
  | some u => cases u <;> rfl
theorem EvB.andElse {c : Prop} [Decidable c] {f g : Nat → Option Bool} {p : Prop} (h : c → EvB f p) (k : EvB g False) : EvB (fun n => if c then f n else g n) (c ∧ p) :=
  EvP.ite (fun hc => (h hc).iff ⟨fun x => ⟨hc, x⟩, fun x => x.2⟩) (fun hc => k.iff ⟨False.elim, fun x => hc x.1⟩)
theorem EvB.orElse {c : Prop} [Decidable c] {f g : Nat → Option Bool} {p : Prop} (h : ¬ c → EvB f p) (k : EvB g False) : EvB (fun n => if c then g n else f n) (¬ c ∧ p) :=
  EvP.ite (fun hc => k.iff ⟨False.elim, fun x => x.1 hc⟩) (fun hc => (h hc).iff ⟨fun x => ⟨hc, x⟩, fun x => x.2⟩)
theorem EvB.bindElse {f g h : Nat → Option Bool} {p q : Prop} (a : EvB f p) (b : p → EvB g q) (c : EvB h False) : EvB (fun n => (f n).bind fun t => if t = true then g n else h n) (p ∧ q) :=
  EvP.bind a (fun t ht => (EvB.andElse (c := t = true) (fun e => b (ht.1 e)) c).iff ⟨fun x => ⟨ht.1 x.1, x.2⟩, fun x => ⟨ht.2 x.1, x.2⟩⟩)
theorem EvB.bindNot {f : Nat → Option Bool} {J : Nat → Bool → Option Bool} {p q : Prop} (a : EvB f p) (b : ∀ t, EvB (fun n => J n t) (t = false ∧ q)) : EvB (fun n => (f n).bind fun t => J n (!t)) (p ∧ q) :=
  EvP.bind a (fun t ht => (b (!t)).iff ⟨fun x => ⟨ht.1 (by simpa using x.1), x.2⟩, fun x => ⟨by simpa using ht.2 x.1, x.2⟩⟩)
/-- The same loop, told step by step, with something behind it. -/
theorem eqLoopJ {α : Type} (z : α) (a b : List α) (h : a.length = b.length) {P : Nat → Int → Option Bool} {q : Prop}
    (hs : ∀ i : Nat, i < a.length → i < b.length → a.getD i z ∈ a → ∀ p, EvB (fun k => P k ((i : Int) + 1)) p → EvB (fun k => P k (i : Int)) (a.getD i z = b.getD i z ∧ p))
    (he : EvB (fun k => P k (a.length : Int)) q) : EvB (fun k => P k 0) (a = b ∧ q) := by
  have hx : ∀ i : Nat, i < a.length → a.getD i z ∈ a := fun i hi => by
    rw [List.getD_eq_getElem?_getD, List.getElem?_eq_getElem hi]; exact List.getElem_mem hi
  have go : ∀ (d i : Nat), i + d = a.length → EvB (fun k => P k (i : Int)) ((∀ j, i ≤ j → j < a.length → a.getD j z = b.getD j z) ∧ q) := by
    intro d
    induction d with
    | zero =>
      intro i hi
      obtain rfl : i = a.length := by omega
      exact he.iff ⟨fun x => ⟨fun j h1 h2 => by omega, x⟩, fun x => x.2⟩
    | succ d ih =>
      intro i hi
      have hp : EvB (fun k => P k ((i : Int) + 1)) ((∀ j, i + 1 ≤ j → j < a.length → a.getD j z = b.getD j z) ∧ q) := by simpa using ih (i + 1) (by omega)
      refine (hs i (by omega) (by omega) (hx i (by omega)) _ hp).iff ⟨fun x => ⟨fun j h1 h2 => ?_, x.2.2⟩, fun x => ⟨x.1 i (Nat.le_refl _) (by omega), fun j h1 h2 => x.1 j (by omega) h2, x.2⟩⟩
      by_cases e : i = j
      · subst e; exact x.1
      · exact x.2.1 j (by omega) h2
  have h0 : EvB (fun k => P k 0) ((∀ j, 0 ≤ j → j < a.length → a.getD j z = b.getD j z) ∧ q) := by simpa using go a.length 0 (by omega)
  refine h0.iff ⟨fun x => ⟨(getD_eq_iff z h).1 (fun j hj => x.1 j (Nat.zero_le _) hj), x.2⟩, fun x => ⟨fun j _ hj => (getD_eq_iff z h).2 x.1 j hj, x.2⟩⟩
theorem flipIf (u v : Bool) (r s : Option Bool) : (if (!u || !v) = true then s else r) = if (u && v) = true then r else s := by cases u <;> cases v <;> rfl
theorem flipIf3 (u v w : Bool) (r s : Option Bool) : (if (!u || (!v || !w)) = true then s else r) = if (u && (v && w)) = true then r else s := by cases u <;> cases v <;> cases w <;> rfl
/-- A text out of its bytes. -/
def mkS (l : List UInt8) : ByteArray := ⟨l.toArray⟩
theorem mkS_size (l : List UInt8) : (mkS l).size = l.length := by simp [mkS, ByteArray.size]
theorem mkS_append (l m : List UInt8) : mkS l ++ mkS m = mkS (l ++ m) := by
  apply ByteArray.ext; simp [mkS, ByteArray.data_append]
theorem mkS_toList (l : List UInt8) : (mkS l).data.toList = l := by simp [mkS]
theorem dg_eq (x : Int) (h0 : 0 ≤ x) (h1 : x < 10) : strOfNums [(wrap64 (48 + x)) % 256] = mkS [UInt8.ofNat (48 + x.toNat)] := by
  rw [w_id (by omega) (by omega)]
  unfold strOfNums mkS
  simp only [List.map_cons, List.map_nil]
  rw [show ((48 + x) % 256).toNat = 48 + x.toNat by omega]
theorem dec_len (u : Nat) (h : u < 18446744073709551616) : (Lib.decDigits u).length ≤ 20 := by
  rw [Lib.decDigits_length]; exact Lib.nDigits_le20 u h
theorem dec_loop : ∀ (u : Nat) (acc : List UInt8), u ≤ 9223372036854775807 → acc.length + (Lib.decDigits u).length ≤ 9223372036854775807 →
    Ev (fun k => spec_l14Dec.l0 k (u : Int) (mkS acc)) (mkS (Lib.decDigits u ++ acc)) := by
  intro u
  induction u using Nat.strongRecOn with
  | _ u ih =>
    intro acc hu hl
    refine Ev.next ?_
    simp only [spec_l14Dec.l0]
    have tm : Int.tmod (u : Int) 10 = ((u % 10 : Nat) : Int) := rfl
    have td : Int.tdiv (u : Int) 10 = ((u / 10 : Nat) : Int) := rfl
    by_cases h : u < 10
    · rw [Lib.decDigits, dif_pos h] at hl ⊢
      simp at hl
      refine Ev.neg (by omega) (Ev.got rfl ?_)
      rw [dg_eq (u : Int) (by omega) (by omega), mkS_append, mkS_size, mkS_size]
      refine Ev.pos (by simp; omega) (Ev.some_ ?_)
      simp
    · rw [Lib.decDigits, dif_neg h] at hl ⊢
      simp at hl
      refine Ev.pos (by omega) (Ev.got rfl ?_)
      rw [tm, td, dg_eq ((u % 10 : Nat) : Int) (by omega) (by omega), Int.toNat_natCast, mkS_append, mkS_size, mkS_size, w_id (x := ((u / 10 : Nat) : Int)) (by omega) (by omega)]
      refine Ev.pos (by simp; omega) ?_
      have := ih (u / 10) (by omega) (UInt8.ofNat (48 + u % 10) :: acc) (by omega) (by simp; omega)
      simpa using this
theorem dec_nonneg (u : Nat) (hu : u ≤ 9223372036854775807) : Ev (fun k => spec_l14Dec.f k (u : Int)) (mkS (Lib.decDigits u)) := by
  refine Ev.next ?_
  simp only [spec_l14Dec.f]
  refine Ev.neg (by omega) (Ev.neg (by omega) ?_)
  have := dec_loop u [] hu (by have := dec_len u (by omega); simp; omega)
  rw [List.append_nil] at this
  exact this
theorem dec_low : Lib.decDigits 9223372036854775808 = [57, 50, 50, 51, 51, 55, 50, 48, 51, 54, 56, 53, 52, 55, 55, 53, 56, 48, 56] := by
  rw [Lib.decDigits_eq, Lib.nDigits_unique 18 9223372036854775808 (by decide) (by decide)]
  decide +kernel
/-- l14Dec is the numeral. -/
theorem dec_ev (n : Int) (h0 : -9223372036854775808 ≤ n) (h1 : n ≤ 9223372036854775807) : Ev (fun k => spec_l14Dec.f k n) (mkS (Lib.itoa n)) := by
  by_cases hn : n < 0
  · refine Ev.next ?_
    simp only [spec_l14Dec.f]
    unfold Lib.itoa
    rw [if_pos hn]
    refine Ev.ite (fun h => ?_) (fun h => Ev.pos hn ?_)
    · obtain rfl : n = -9223372036854775808 := by omega
      rw [show (-9223372036854775808 : Int).natAbs = 9223372036854775808 from rfl, dec_low]
      exact Ev.some_ rfl
    · rw [w_id (x := -n) (by omega) (by omega)]
      have e : -n = ((n.natAbs : Nat) : Int) := by omega
      rw [e]
      refine (dec_nonneg n.natAbs (by omega)).bind ?_
      have := dec_len n.natAbs (by omega)
      rw [mkS_size]
      refine Ev.pos (by omega) (Ev.some_ ?_)
      exact mkS_append [45] _
  · obtain ⟨u, rfl⟩ : ∃ u : Nat, n = (u : Int) := ⟨n.toNat, by omega⟩
    unfold Lib.itoa
    rw [if_neg hn, Int.toNat_natCast]
    exact dec_nonneg u (by omega)
theorem itoa_len {n : Int} (h0 : -9223372036854775808 ≤ n) (h1 : n ≤ 9223372036854775807) : (Lib.itoa n).length ≤ 21 := by
  unfold Lib.itoa
  split
  · have := dec_len n.natAbs (by omega); simp; omega
  · have := dec_len n.toNat (by omega); omega
theorem dec_ge (u : Nat) : ∀ b ∈ Lib.decDigits u, 48 ≤ b.toNat ∧ b.toNat ≤ 57 := by
  induction u using Nat.strongRecOn with
  | _ u ih =>
    intro b hb
    rw [Lib.decDigits] at hb
    split at hb
    · simp only [List.mem_singleton] at hb
      subst hb
      rw [UInt8.toNat_ofNat']; omega
    · rw [List.mem_append, List.mem_singleton] at hb
      rcases hb with hb | rfl
      · exact ih (u / 10) (by omega) b hb
      · rw [UInt8.toNat_ofNat']; omega
/-- A value's text. -/
def valT (x : S57) : List UInt8 := if x.f0 = 1 then Lib.itoa x.f1 else if x.f0 = 3 then 99 :: Lib.itoa x.f1 else if x.f0 = 4 then 64 :: Lib.itoa x.f1 else [45]
def Int64 (n : Int) : Prop := -9223372036854775808 ≤ n ∧ n ≤ 9223372036854775807
theorem valT_len {x : S57} (h : Int64 x.f1) : (valT x).length ≤ 22 := by
  have := itoa_len h.1 h.2
  unfold valT
  repeat' split
  all_goals simp; try omega
def tailT (xs : List S57) : List UInt8 := xs.flatMap fun x => 32 :: valT x
/-- A loop that writes a text behind a text. -/
theorem writes (xs : List S57) (hx : ∀ x ∈ xs, Int64 x.f1) (hl : xs.length ≤ 1000000000) {P : Nat → ByteArray → Int → Option ByteArray}
    (hs : ∀ (i : Nat) (acc : List UInt8) r, i < xs.length → acc.length ≤ 1000000000000 → Int64 (rd_T57 xs i).f1 → Ev (fun k => P k (mkS (acc ++ 32 :: valT (rd_T57 xs i))) ((i : Int) + 1)) r → Ev (fun k => P k (mkS acc) (i : Int)) r)
    (he : ∀ acc, Ev (fun k => P k acc (xs.length : Int)) acc) (a : List UInt8) (ha : a.length ≤ 1000) : Ev (fun k => P k (mkS a) 0) (mkS (a ++ tailT xs)) := by
  have go : ∀ (d i : Nat) (acc : List UInt8), i + d = xs.length → acc.length ≤ 1000 + 23 * i → Ev (fun k => P k (mkS acc) (i : Int)) (mkS (acc ++ tailT (xs.drop i))) := by
    intro d
    induction d with
    | zero =>
      intro i acc hi _
      obtain rfl : i = xs.length := by omega
      simpa [tailT] using he (mkS acc)
    | succ d ih =>
      intro i acc hi hacc
      have hi' : i < xs.length := by omega
      have e : rd_T57 xs (i : Int) = xs[i] := by simp [rd_T57, hi']
      have hm : Int64 (rd_T57 xs (i : Int)).f1 := by rw [e]; exact hx _ (List.getElem_mem hi')
      have hv := valT_len hm
      refine hs i acc _ hi' (by omega) hm ?_
      have := ih (i + 1) (acc ++ 32 :: valT (rd_T57 xs (i : Int))) (by omega) (by simp; omega)
      rw [List.drop_eq_getElem_cons hi']
      simp only [tailT, List.flatMap_cons]
      rw [← e]
      simpa [tailT] using this
  simpa using go xs.length 0 a (by omega) (by omega)
theorem impl_ev (t : Int) (xs : List S57) (ht : Int64 t) (hx : ∀ x ∈ xs, Int64 x.f1) (hl : xs.length ≤ 1000000000) : Ev (fun k => impl_ThingText.f k t xs) (mkS (Lib.itoa t ++ tailT xs)) := by
  unfold impl_ThingText.f
  have hlen := itoa_len ht.1 ht.2
  refine Ev.got (show strconv_Itoa.f t = some (mkS (Lib.itoa t)) from if_pos ht) ?_
  refine writes xs hx hl (P := fun k a i => impl_ThingText.l0 k a xs (xs.length : Int) i) (fun i acc r hi hacc hm hr => ?_) (fun acc => ?_) _ (by omega)
  · refine Ev.next ?_
    simp only [impl_ThingText.l0]
    have hv := itoa_len hm.1 hm.2
    have hI : strconv_Itoa.f (rd_T57 xs (i : Int)).f1 = some (mkS (Lib.itoa (rd_T57 xs (i : Int)).f1)) := if_pos hm
    refine Ev.pos (by omega) (Ev.pos (by omega) (Ev.pos (by omega) ?_))
    rw [w_id (x := (i : Int) + 1) (by omega) (by omega)]
    unfold valT at hr
    refine Ev.ite (fun h1 => ?_) (fun h1 => Ev.ite (fun h2 => ?_) (fun h2 => Ev.ite (fun h3 => ?_) (fun h3 => ?_)))
    · rw [if_pos h1] at hr
      refine Ev.got hI ?_
      rw [show (⟨#[32]⟩ : ByteArray) = mkS [32] from rfl, mkS_append, mkS_append, mkS_size, mkS_size, mkS_size]
      exact Ev.pos (by omega) (Ev.pos (by simp; omega) hr)
    · rw [if_neg h1, if_pos h2] at hr
      refine Ev.got hI ?_
      rw [show (⟨#[32, 99]⟩ : ByteArray) = mkS [32, 99] from rfl, mkS_append, mkS_append, mkS_size, mkS_size, mkS_size]
      exact Ev.pos (by omega) (Ev.pos (by simp; omega) hr)
    · rw [if_neg h1, if_neg h2, if_pos h3] at hr
      refine Ev.got hI ?_
      rw [show (⟨#[32, 64]⟩ : ByteArray) = mkS [32, 64] from rfl, mkS_append, mkS_append, mkS_size, mkS_size, mkS_size]
      exact Ev.pos (by omega) (Ev.pos (by simp; omega) hr)
    · rw [if_neg h1, if_neg h2, if_neg h3] at hr
      rw [show (⟨#[32, 45]⟩ : ByteArray) = mkS [32, 45] from rfl, mkS_append, mkS_size]
      exact Ev.pos (by omega) hr
  · refine Ev.next ?_
    simp only [impl_ThingText.l0]
    exact Ev.neg (by omega) (Ev.now _)
theorem val_ev (x : S57) (h : Int64 x.f1) : Ev (fun k => spec_l13Val.f k x.f0 x.f1) (mkS (valT x)) := by
  unfold spec_l13Val.f valT
  have hv := itoa_len h.1 h.2
  refine Ev.ite (fun h1 => ?_) (fun h1 => Ev.ite (fun h2 => ?_) (fun h2 => Ev.ite (fun h3 => ?_) (fun h3 => ?_)))
  · rw [if_pos h1]; exact (dec_ev x.f1 h.1 h.2).bind (Ev.now _)
  · rw [if_neg h1, if_pos h2]
    refine (dec_ev x.f1 h.1 h.2).bind ?_
    rw [mkS_size]
    exact Ev.pos (by omega) (Ev.some_ (mkS_append [99] _))
  · rw [if_neg h1, if_neg h2, if_pos h3]
    refine (dec_ev x.f1 h.1 h.2).bind ?_
    rw [mkS_size]
    exact Ev.pos (by omega) (Ev.some_ (mkS_append [64] _))
  · rw [if_neg h1, if_neg h2, if_neg h3]; exact Ev.some_ rfl
theorem spec_ev (t : Int) (xs : List S57) (ht : Int64 t) (hx : ∀ x ∈ xs, Int64 x.f1) (hl : xs.length ≤ 1000000000) : Ev (fun k => spec_ThingText.f k t xs) (mkS (Lib.itoa t ++ tailT xs)) := by
  unfold spec_ThingText.f
  have hlen := itoa_len ht.1 ht.2
  refine (dec_ev t ht.1 ht.2).bind ?_
  refine writes xs hx hl (P := fun k a i => spec_ThingText.l0 k a i t xs) (fun i acc r hi hacc hm hr => ?_) (fun acc => ?_) _ (by omega)
  · refine Ev.next ?_
    simp only [spec_ThingText.l0]
    have hv := valT_len hm
    rw [mkS_size]
    refine Ev.pos (by omega) (Ev.pos (by omega) (Ev.pos (by omega) ((val_ev _ hm).bind ?_)))
    rw [w_id (x := (i : Int) + 1) (by omega) (by omega), show (⟨#[32]⟩ : ByteArray) = mkS [32] from rfl, mkS_append, mkS_size, mkS_size, mkS_append]
    refine Ev.pos (by simp; omega) ?_
    simpa using hr
  · refine Ev.next ?_
    simp only [spec_ThingText.l0]
    exact Ev.neg (by omega) (Ev.now _)
theorem toVals_ev (xs : List S120) (hl : xs.length ≤ 1048576) : Ev (fun k => laws_toValS.f k xs) (xs.map fun x => (⟨x.f0, x.f1⟩ : S57)) := by
  unfold laws_toValS.f
  refine Ev.pos (by omega) (Ev.pos (by omega) ?_)
  refine fillRow z120 z57 _ xs (by omega) (F := fun _ x => laws_toVal.f x.f0 x.f1) (mk := fun t => ⟨t.1, t.2⟩) (P := fun k o i => laws_toValS.l0 k xs o i) (fun x _ => ⟨_, Ev.now _, rfl⟩) (fun k o i h0 h1 => ?_) (fun k o => ?_)
  · simp only [laws_toValS.l0]; rw [if_pos h1, if_pos h0]; rfl
  · simp only [laws_toValS.l0]; rw [if_neg (by omega)]
theorem lVals (a b : List S57) (hl : a.length ≤ 1000000000) : EvB (fun k => laws_eqValS.f k a b) (a = b) := by
  unfold laws_eqValS.f
  refine eqRow z57 a b hl (E := fun _ x y => laws_eqVal.f x.f0 x.f1 y.f0 y.f1) (P := fun k i => laws_eqValS.l0 k a b i) (fun x _ y => ?_) (fun h k i h0 h1 h2 => ?_) (fun h k => ?_)
  · unfold laws_eqVal.f
    exact (EvB.ifAnd (fun _ => EvB.ifAnd (fun _ => EvB.yes))).iff (by cases x; cases y; simp)
  · simp only [laws_eqValS.l0]; rw [if_pos h1, if_pos h0, if_pos h2]; rfl
  · simp only [laws_eqValS.l0]; rw [if_neg (by omega)]
theorem wf64 {n : Int} (h : (Lit.int .i64 n).wf = true) : Int64 n := by
  simpa [Lit.wf, IntKind.min, IntKind.max, IntKind.signed, IntKind.bits, Int64] using h
theorem FnExactThingText : laws_FnExactThingText.Pure := by
  intro t xs ht ⟨hx0, hx⟩
  apply Ev.rounds
  unfold laws_FnExactThingText.f
  have hm : maxLen = 9223372036854775807 := rfl
  have sz : laws_szThing.f t xs 1048576 = some (if 1048576 - (xs.length : Int) < 0 then -1 else 1048576 - (xs.length : Int)) := by
    unfold laws_szThing.f laws_szValS.f
    rw [w_id (by omega) (by omega)]
    by_cases h : 1048576 - (xs.length : Int) < 0
    · rw [if_pos h, if_pos h]; rfl
    · rw [if_neg h, if_neg h]; exact if_neg h
  refine Ev.got sz ?_
  by_cases hl : 1048576 - (xs.length : Int) < 0
  · rw [if_pos hl]; exact Ev.pos (by omega) (Ev.now _)
  rw [if_neg hl]
  refine Ev.neg hl ?_
  have hto : Ev (fun k => laws_toThing.f k t xs) (t, xs.map fun x => (⟨x.f0, x.f1⟩ : S57)) := by
    unfold laws_toThing.f
    exact (toVals_ev xs (by omega)).bind (Ev.now _)
  have h64 : ∀ x ∈ (xs.map fun x => (⟨x.f0, x.f1⟩ : S57)), Int64 x.f1 := by
    intro x hx'
    rw [List.mem_map] at hx'
    obtain ⟨y, hy, rfl⟩ := hx'
    exact wf64 (hx y hy).2
  refine hto.bind ((spec_ev t _ (wf64 ht) h64 (by simp; omega)).bind (hto.bind ((impl_ev t _ (wf64 ht) h64 (by simp; omega)).bind (Ev.pos rfl (hto.bind ?_)))))
  refine Ev.bind (a := true) ?_ (Ev.pos rfl (Ev.now _))
  unfold laws_eqThing.f
  refine Ev.pos rfl ?_
  obtain ⟨r, hr, hq⟩ := lVals (xs.map fun x => (⟨x.f0, x.f1⟩ : S57)) (xs.map fun x => (⟨x.f0, x.f1⟩ : S57)) (by simp; omega)
  obtain rfl : r = true := hq.2 rfl
  exact hr.bind (Ev.pos rfl (Ev.now _))
end Go.Proofs.YthomfkdoaembbaaDoor.Pure
