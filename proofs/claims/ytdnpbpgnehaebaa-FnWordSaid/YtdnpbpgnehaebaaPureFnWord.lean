/- Proved: for every drawn value, field and word the law FnWord answers true: values are decoded from their words exactly, as the reference has it. No condition. -/
import Derived.Test.YtdnpbpgnehaebaaPFnWordx6
namespace Go.Proofs.Ytdnpbpgnehaebaa.Pure
open Go.RowKit Go.Proofs.Ytdnpbpgnehaebaa.PFnWord Go.Proofs.YtdnpbpgnehaebaaW.PrintWords Go.Proofs.YtdnpbpgnehaebaaW.PrintLast
theorem w_id {x : Int} (h0 : -9223372036854775808 ≤ x) (h1 : x ≤ 9223372036854775807) : wrap64 x = x := by unfold wrap64; omega
theorem Ev.pos {α : Type} {c : Prop} [Decidable c] {f g : Nat → Option α} {r : α} (h : c) (k : Ev f r) : Ev (fun n => if c then f n else g n) r := Ev.congr (fun _ => if_pos h) k
theorem Ev.neg {α : Type} {c : Prop} [Decidable c] {f g : Nat → Option α} {r : α} (h : ¬ c) (k : Ev g r) : Ev (fun n => if c then f n else g n) r := Ev.congr (fun _ => if_neg h) k
theorem Ev.ite {α : Type} {c : Prop} [Decidable c] {f g : Nat → Option α} {r : α} (h : c → Ev f r) (k : ¬ c → Ev g r) : Ev (fun n => if c then f n else g n) r := by
  by_cases hc : c
  · exact Ev.pos hc (h hc)
  · exact Ev.neg hc (k hc)
theorem Ev.got {α β : Type} {o : Option α} {f : Nat → α → Option β} {a : α} {r : β} (h : o = some a) (k : Ev (fun n => f n a) r) : Ev (fun n => o.bind (f n)) r := Ev.congr (fun _ => by rw [h]; rfl) k
theorem Ev.next {α : Type} {g : Nat → Option α} {r : α} (k : Ev (fun n => g (n + 1)) r) : Ev g r := Ev.step (fun _ => rfl) k
theorem Ev.some_ {α : Type} {a r : α} (h : a = r) : Ev (fun _ => some a) r := ⟨0, fun _ _ => by rw [h]⟩
theorem Ev.ex_ite {α : Type} {c : Prop} [Decidable c] {f g : Nat → Option α} {P : α → Prop} (h : c → ∃ r, Ev f r ∧ P r) (k : ¬ c → ∃ r, Ev g r ∧ P r) : ∃ r, Ev (fun n => if c then f n else g n) r ∧ P r := by
  by_cases hc : c
  · obtain ⟨r, a, b⟩ := h hc
    exact ⟨r, Ev.pos hc a, b⟩
  · obtain ⟨r, a, b⟩ := k hc
    exact ⟨r, Ev.neg hc a, b⟩
theorem xor_nonneg (x y : Int) (hx : 0 ≤ x) (hx1 : x < 4611686018427387904) (hy : 0 ≤ y) (hy1 : y < 4611686018427387904) : 0 ≤ Go.bits .xor .i64 x y := by
  obtain ⟨a, rfl⟩ := Int.eq_ofNat_of_zero_le hx
  obtain ⟨b, rfl⟩ := Int.eq_ofNat_of_zero_le hy
  have ha : a < 2 ^ 62 := by omega
  have hb : b < 2 ^ 62 := by omega
  have h := Nat.xor_lt_two_pow ha hb
  have ea : a % 2 ^ IntKind.i64.bits = a := Nat.mod_eq_of_lt (by show a < 2 ^ 64; omega)
  have eb : b % 2 ^ IntKind.i64.bits = b := Nat.mod_eq_of_lt (by show b < 2 ^ 64; omega)
  have e : Go.bits .xor .i64 (a : Int) (b : Int) = IntKind.i64.wrap (((a ^^^ b : Nat) : Nat) : Int) := by
    simp only [Go.bits, BitVec.ofInt_natCast, BitVec.toNat_xor, BitVec.toNat_ofNat, ea, eb]
  rw [e, IntKind.wrap_i64]
  omega
theorem rd_byte {b : List Int} (hb : ∀ x ∈ b, 0 ≤ x ∧ x ≤ 255) (i : Int) : 0 ≤ rd b i ∧ rd b i ≤ 255 := by
  unfold rd
  rw [List.getD_eq_getElem?_getD]
  cases h : b[i.toNat]? with
  | none => simp
  | some v => exact hb v (List.mem_of_getElem? h)
theorem pick_ev {b : List Int} (hb : ∀ x ∈ b, 0 ≤ x ∧ x ≤ 255) (hl : b.length ≤ 2000) (p n : Int) (hp : 0 ≤ p) (hp1 : p ≤ 1000000000) :
    ∃ v, Ev (fun k => spec_l14Rd_pick.f k b p n) (v, p + 1) ∧ 0 ≤ v ∧ (1 ≤ n → v < n) ∧ (n < 1 → v = 0) := by
  unfold spec_l14Rd_pick.f
  rw [w_id (x := p + 1) (by omega) (by omega)]
  by_cases hn : n < 1
  · refine ⟨0, Ev.pos hn (Ev.next ?_), by omega, fun h => by omega, fun _ => rfl⟩
    simp only [spec_l14Rd_pick.j0]
    exact Ev.pos trivial (Ev.now _)
  · suffices hs : ∃ v, Ev (fun k => spec_l14Rd_pick.j0 (k + 1) n ((b.length : Int) == 0) b (p + 1)) (v, p + 1) ∧ 0 ≤ v ∧ (1 ≤ n → v < n) ∧ (n < 1 → v = 0) by
      obtain ⟨v, h, r⟩ := hs
      exact ⟨v, Ev.neg hn (Ev.next h), r⟩
    have hm := fun x : Int => Int.tmod_nonneg (a := x) n
    have hm2 := fun x : Int => Int.tmod_lt_of_pos x (show 0 < n by omega)
    have ep : p + 1 - 1 = p := by omega
    simp only [spec_l14Rd_pick.j0, ep]
    by_cases h0 : (b.length : Int) = 0
    · exact ⟨0, Ev.pos (by simpa using h0) (Ev.now _), by omega, fun h => by omega, fun _ => rfl⟩
    · have e0 : ¬ ((((b.length : Int) == 0)) = true) := by simpa using h0
      rw [w_id (x := p) (by omega) (by omega)]
      by_cases hpl : p < (b.length : Int)
      · have r1 := rd_byte hb p
        refine ⟨_, Ev.neg e0 (Ev.pos hpl (Ev.pos hp (Ev.neg (by omega) (Ev.now _)))), ?_, fun _ => hm2 _, fun h => by omega⟩
        rw [w_id (by omega) (by omega)]
        exact hm _ r1.1
      · have hL : (0 : Int) < b.length := by omega
        have a0 : 0 ≤ Int.tmod p b.length := Int.tmod_nonneg _ hp
        have a1 := Int.tmod_lt_of_pos p hL
        rw [w_id (x := p * 7) (by omega) (by omega), w_id (x := p * 7 + 3) (by omega) (by omega)]
        have b0 : 0 ≤ Int.tmod (p * 7 + 3) b.length := Int.tmod_nonneg _ (by omega)
        have b1 := Int.tmod_lt_of_pos (p * 7 + 3) hL
        have r1 := rd_byte hb (Int.tmod p b.length)
        have r2 := rd_byte hb (Int.tmod (p * 7 + 3) b.length)
        have d0 : 0 ≤ Int.tdiv p b.length := Int.tdiv_nonneg hp (by omega)
        have d1 : Int.tdiv p b.length ≤ p := by rw [Int.tdiv_eq_ediv_of_nonneg hp]; exact Int.ediv_le_self _ hp
        generalize rd b (Int.tmod p b.length) = x at *
        generalize rd b (Int.tmod (p * 7 + 3) b.length) = y at *
        generalize Int.tdiv p b.length = d at *
        have e : wrap64 (wrap64 (wrap64 (wrap64 (wrap64 x * 131) + wrap64 (wrap64 y * 1117)) + wrap64 (p * 29)) + wrap64 (wrap64 d * 53)) = x * 131 + y * 1117 + p * 29 + d * 53 := by
          rw [w_id (x := x) (by omega) (by omega), w_id (x := y) (by omega) (by omega), w_id (x := d) (by omega) (by omega)]
          rw [w_id (x := x * 131) (by omega) (by omega), w_id (x := y * 1117) (by omega) (by omega), w_id (x := p * 29) (by omega) (by omega), w_id (x := d * 53) (by omega) (by omega)]
          rw [w_id (x := x * 131 + y * 1117) (by omega) (by omega), w_id (x := x * 131 + y * 1117 + p * 29) (by omega) (by omega), w_id (by omega) (by omega)]
        rw [e]
        have q0 : 0 ≤ Int.tdiv (x * 131 + y * 1117 + p * 29 + d * 53) 64 := Int.tdiv_nonneg (by omega) (by omega)
        have q1 : Int.tdiv (x * 131 + y * 1117 + p * 29 + d * 53) 64 ≤ x * 131 + y * 1117 + p * 29 + d * 53 := by rw [Int.tdiv_eq_ediv_of_nonneg (by omega)]; exact Int.ediv_le_self _ (by omega)
        rw [w_id (x := Int.tdiv _ 64) (by omega) (by omega)]
        refine ⟨_, Ev.neg e0 (Ev.neg hpl (Ev.neg h0 (Ev.pos a0 (Ev.pos a1 (Ev.pos b0 (Ev.pos b1 (Ev.neg (by omega) (Ev.now _)))))))), ?_, fun _ => hm2 _, fun h => by omega⟩
        exact hm _ (xor_nonneg _ _ (by omega) (by omega) q0 (by omega))
theorem open_ok {l : List Int} (hw : ∀ x ∈ l, (Lit.int .u8 x).wf = true) : ∃ b, spec_l14Open.f l = some (b, 0) ∧ (∀ x ∈ b, 0 ≤ x ∧ x ≤ 255) ∧ b.length ≤ 2000 := by
  have hx : ∀ x ∈ l, 0 ≤ x ∧ x ≤ 255 := fun x h => by simpa [Lit.wf, IntKind.min, IntKind.max, IntKind.signed, IntKind.bits] using hw x h
  unfold spec_l14Open.f
  by_cases h : (l.length : Int) > 2000
  · rw [if_pos h, if_pos (by omega)]
    exact ⟨_, rfl, fun x hm => hx x (List.mem_of_mem_take hm), by simp; omega⟩
  · rw [if_neg h]
    exact ⟨_, rfl, hx, by omega⟩
theorem num_ev {b : List Int} (hb : ∀ x ∈ b, 0 ≤ x ∧ x ≤ 255) (hl : b.length ≤ 2000) (p : Int) (hp : 0 ≤ p) (hp1 : p ≤ 1000000000) (l : List Int) (h0 : l ≠ []) :
    ∃ v, Ev (fun k => spec_l14Rd_num.f k b p l) (v, p + 1) ∧ v ∈ l := by
  have hlen : 0 < l.length := List.length_pos_iff.2 h0
  obtain ⟨v, h, v0, v1, _⟩ := pick_ev hb hl p (l.length : Int) hp hp1
  have hv := v1 (by omega)
  refine ⟨rd l v, ?_, ?_⟩
  · unfold spec_l14Rd_num.f
    refine h.bind ?_
    exact Ev.pos v0 (Ev.pos hv (Ev.now _))
  · unfold rd
    rw [List.getD_eq_getElem?_getD, List.getElem?_eq_getElem (by omega)]
    exact List.getElem_mem _
/-- From some number of rounds on there is an answer of which P holds. -/
def EvP {α : Type} (g : Nat → Option α) (P : α → Prop) : Prop := ∃ r, Ev g r ∧ P r
theorem EvP.bind {α β : Type} {g : Nat → Option α} {f : Nat → α → Option β} {P : α → Prop} {Q : β → Prop} (h : EvP g P) (k : ∀ a, P a → EvP (fun n => f n a) Q) : EvP (fun n => (g n).bind (f n)) Q := by
  obtain ⟨a, ha, hp⟩ := h
  obtain ⟨b, hb, hq⟩ := k a hp
  exact ⟨b, ha.bind hb, hq⟩
theorem EvP.got {α β : Type} {o : Option α} {f : Nat → α → Option β} {a : α} {Q : β → Prop} (h : o = some a) (k : EvP (fun n => f n a) Q) : EvP (fun n => o.bind (f n)) Q := by
  obtain ⟨b, hb, hq⟩ := k
  exact ⟨b, Ev.got h hb, hq⟩
theorem EvP.ite {α : Type} {c : Prop} [Decidable c] {f g : Nat → Option α} {Q : α → Prop} (h : c → EvP f Q) (k : ¬ c → EvP g Q) : EvP (fun n => if c then f n else g n) Q := by
  by_cases hc : c
  · obtain ⟨r, a, b⟩ := h hc
    exact ⟨r, Ev.pos hc a, b⟩
  · obtain ⟨r, a, b⟩ := k hc
    exact ⟨r, Ev.neg hc a, b⟩
theorem EvP.pos {α : Type} {c : Prop} [Decidable c] {f g : Nat → Option α} {Q : α → Prop} (hc : c) (h : EvP f Q) : EvP (fun n => if c then f n else g n) Q := EvP.ite (fun _ => h) (fun n => absurd hc n)
theorem EvP.neg {α : Type} {c : Prop} [Decidable c] {f g : Nat → Option α} {Q : α → Prop} (hc : ¬ c) (h : EvP g Q) : EvP (fun n => if c then f n else g n) Q := EvP.ite (fun n => absurd n hc) (fun _ => h)
theorem EvP.now {α : Type} {Q : α → Prop} {a : α} (h : Q a) : EvP (fun _ => some a) Q := ⟨a, Ev.now a, h⟩
theorem EvP.next {α : Type} {g : Nat → Option α} {Q : α → Prop} (k : EvP (fun n => g (n + 1)) Q) : EvP g Q := by
  obtain ⟨r, a, b⟩ := k
  exact ⟨r, Ev.next a, b⟩
theorem EvP.of {α : Type} {g : Nat → Option α} {Q : α → Prop} {r : α} (h : Ev g r) (q : Q r) : EvP g Q := ⟨r, h, q⟩
theorem EvP.weak {α : Type} {g : Nat → Option α} {P Q : α → Prop} (h : EvP g P) (k : ∀ a, P a → Q a) : EvP g Q := by
  obtain ⟨r, a, b⟩ := h
  exact ⟨r, a, k r b⟩
theorem EvP.congr {α : Type} {g f : Nat → Option α} {Q : α → Prop} (h : ∀ k, g k = f k) (k : EvP f Q) : EvP g Q := by
  obtain ⟨r, a, b⟩ := k
  exact ⟨r, Ev.congr h a, b⟩
theorem pickP {b : List Int} (hb : ∀ x ∈ b, 0 ≤ x ∧ x ≤ 255) (hl : b.length ≤ 2000) (p n : Int) (hp : 0 ≤ p) (hp1 : p ≤ 1000000000) :
    EvP (fun k => spec_l14Rd_pick.f k b p n) (fun r => r.2 = p + 1 ∧ 0 ≤ r.1 ∧ (1 ≤ n → r.1 < n) ∧ (n < 1 → r.1 = 0)) := by
  obtain ⟨v, h, r⟩ := pick_ev hb hl p n hp hp1
  exact ⟨_, h, rfl, r⟩
theorem numP {b : List Int} (hb : ∀ x ∈ b, 0 ≤ x ∧ x ≤ 255) (hl : b.length ≤ 2000) (p : Int) (hp : 0 ≤ p) (hp1 : p ≤ 1000000000) (l : List Int) (h0 : l ≠ []) :
    EvP (fun k => spec_l14Rd_num.f k b p l) (fun r => r.2 = p + 1 ∧ r.1 ∈ l) := by
  obtain ⟨v, h, r⟩ := num_ev hb hl p hp hp1 l h0
  exact ⟨_, h, rfl, r⟩
/-- The word of a value. -/
def word (K N : Int) : Int := if K = 1 ∧ 0 ≤ N ∧ N < 9973 then N else if K = 3 ∧ 0 ≤ N ∧ N < 9973 then 2 * N + 1 else if K = 4 ∧ 0 ≤ N ∧ N < 160 then 2 * N + 2 else 0
theorem isNum_eq (n : Int) : impl_isNum.f n = some (decide (0 ≤ n ∧ n < 9973)) := by
  unfold impl_isNum.f
  by_cases h : n ≥ 0
  · rw [if_pos h]; simp [h]
  · rw [if_neg h]; simp; omega
theorem implWordOf_ev (K N : Int) : Ev (fun k => impl_WordOf.f k K N) (word K N) := by
  have j1 : ∀ b : Bool, b = decide (K = 3 ∧ 0 ≤ N ∧ N < 9973) → ¬ (K = 1 ∧ 0 ≤ N ∧ N < 9973) → Ev (fun k => impl_WordOf.j1 k b K N) (word K N) := by
    intro b hb h1
    refine Ev.next ?_
    simp only [impl_WordOf.j1]
    refine Ev.ite (fun c => ?_) (fun c => ?_)
    · have c' : K = 3 ∧ 0 ≤ N ∧ N < 9973 := by rw [hb] at c; simpa using c
      refine Ev.some_ ?_
      rw [w_id (x := 2 * N) (by omega) (by omega), w_id (by omega) (by omega)]
      unfold word; (repeat' split) <;> omega
    · have c' : ¬ (K = 3 ∧ 0 ≤ N ∧ N < 9973) := by rw [hb] at c; simpa using c
      refine Ev.ite (fun d => Ev.ite (fun e => Ev.ite (fun g => Ev.some_ ?_) (fun g => Ev.some_ ?_)) (fun e => Ev.some_ ?_)) (fun d => Ev.some_ ?_)
      · rw [w_id (x := 2 * N) (by omega) (by omega), w_id (by omega) (by omega)]
        unfold word; (repeat' split) <;> omega
      all_goals unfold word; (repeat' split) <;> omega
  have j0 : ∀ b : Bool, b = decide (K = 1 ∧ 0 ≤ N ∧ N < 9973) → Ev (fun k => impl_WordOf.j0 k b K N) (word K N) := by
    intro b hb
    refine Ev.next ?_
    simp only [impl_WordOf.j0]
    refine Ev.ite (fun c => ?_) (fun c => ?_)
    · have c' : K = 1 ∧ 0 ≤ N ∧ N < 9973 := by rw [hb] at c; simpa using c
      refine Ev.some_ ?_
      unfold word; (repeat' split) <;> omega
    · have c' : ¬ (K = 1 ∧ 0 ≤ N ∧ N < 9973) := by rw [hb] at c; simpa using c
      by_cases d : K = 3
      · exact Ev.pos d (Ev.got (isNum_eq N) (j1 _ (by simp [d]) c'))
      · exact Ev.neg d (j1 _ (by simp [d]) c')
  unfold impl_WordOf.f
  by_cases h : K = 1
  · exact Ev.pos h (Ev.got (isNum_eq N) (j0 _ (by simp [h])))
  · exact Ev.neg h (j0 _ (by simp [h]))
/-- Whether a value has the form of its kind. -/
def form (K N : Int) : Bool := if K = 1 ∨ K = 3 then decide (0 ≤ N ∧ N < 9973) else if K = 2 then N == 0 else if K = 4 then decide (0 ≤ N ∧ N < 160) else false
theorem specForm_ev (K N : Int) : Ev (fun k => spec_l5Form.f k K N 160) (form K N) := by
  have num : spec_l5Number.f N = some (decide (0 ≤ N ∧ N < 9973)) := by
    unfold spec_l5Number.f
    by_cases h : N ≥ 0
    · rw [if_pos h]; simp [h]
    · rw [if_neg h]; simp; omega
  have j0 : ∀ b : Bool, b = decide (K = 1 ∨ K = 3) → Ev (fun k => spec_l5Form.j0 k 160 K b K N) (form K N) := by
    intro b hb
    refine Ev.next ?_
    simp only [spec_l5Form.j0]
    refine Ev.ite (fun c => Ev.got num (Ev.some_ ?_)) (fun c => Ev.ite (fun d => Ev.some_ ?_) (fun d => Ev.ite (fun e => Ev.ite (fun g => Ev.some_ ?_) (fun g => Ev.some_ ?_)) (fun e => Ev.some_ ?_)))
    · have c' : K = 1 ∨ K = 3 := by rw [hb] at c; simpa using c
      unfold form; rw [if_pos c']
    all_goals have c' : ¬ (K = 1 ∨ K = 3) := by rw [hb] at c; simpa using c
    all_goals unfold form; rw [if_neg c']
    · rw [if_pos d]
    · rw [if_neg d, if_pos e]; simp [g]
    · rw [if_neg d, if_pos e]; simp; omega
    · rw [if_neg d, if_neg e]
  unfold spec_l5Form.f
  by_cases h : K = 1
  · exact Ev.pos h (j0 _ (by simp [h]))
  · exact Ev.neg h (j0 _ (by simp [h]; rfl))
theorem form_ev (K N : Int) : Ev (fun k => spec_l7Form.f k K N) (form K N) := by
  unfold spec_l7Form.f
  exact Ev.got rfl ((specForm_ev K N).bind (Ev.now _))
/-- The value of a word. -/
def wval (FK w : Int) : Int × Int × Bool :=
  if w < 0 ∨ FK < 1 ∨ FK > 3 then (0, 0, false) else if FK = 1 then (if w < 9973 then (1, w, true) else (0, 0, false)) else if w = 0 then (if FK = 3 then (0, 0, false) else (2, 0, true)) else
  if w % 2 = 1 then (if w / 2 < 9973 then (3, w / 2, true) else (0, 0, false)) else if w / 2 - 1 < 160 then (4, w / 2 - 1, true) else (0, 0, false)
theorem word3 {N : Int} (h : 0 ≤ N) : word 3 N = if N < 9973 then 2 * N + 1 else 0 := by unfold word; (repeat' split) <;> omega
theorem word4 {N : Int} (h : 0 ≤ N) : word 4 N = if N < 160 then 2 * N + 2 else 0 := by unfold word; (repeat' split) <;> omega
theorem word1 {N : Int} (h : 0 ≤ N) : word 1 N = if N < 9973 then N else 0 := by unfold word; (repeat' split) <;> omega
theorem implWordVal_ev (FK O : Int) (M : Bool) (w : Int) (hw : (Lit.int .i64 w).wf = true) : Ev (fun k => impl_WordVal.f k FK O M w) (wval FK w) := by
  have hw2 : -9223372036854775808 ≤ w ∧ w ≤ 9223372036854775807 := by simpa [Lit.wf, IntKind.min, IntKind.max, IntKind.signed, IntKind.bits] using hw
  have j1 : ∀ b : Bool, b = decide (w = 0 ∧ FK = 3) → 0 ≤ w → ¬ (FK < 1 ∨ FK > 3) → FK ≠ 1 → Ev (fun k => impl_WordVal.j1 k w b) (wval FK w) := by
    intro b hb h0 h1 h2
    refine Ev.next ?_
    simp only [impl_WordVal.j1]
    rw [Int.tmod_eq_emod_of_nonneg h0, Int.tdiv_eq_ediv_of_nonneg h0, w_id (x := w / 2) (by omega) (by omega), w_id (x := w / 2 - 1) (by omega) (by omega)]
    refine Ev.ite (fun c => Ev.some_ ?_) (fun c => Ev.ite (fun z => Ev.some_ ?_) (fun z => Ev.ite (fun d => ?_) (fun d => ?_)))
    · have c' : w = 0 ∧ FK = 3 := by rw [hb] at c; simpa using c
      unfold wval; (repeat' split) <;> first | rfl | (exfalso; omega)
    · have c' : ¬ (w = 0 ∧ FK = 3) := by rw [hb] at c; simpa using c
      unfold wval; (repeat' split) <;> first | rfl | (exfalso; omega)
    · refine (implWordOf_ev 3 (w / 2)).bind ?_
      rw [word3 (by omega)]
      refine Ev.ite (fun e => Ev.some_ ?_) (fun e => Ev.some_ ?_)
      all_goals split at e
      all_goals unfold wval; (repeat' split) <;> first | rfl | (exfalso; omega)
    · refine (implWordOf_ev 4 (w / 2 - 1)).bind ?_
      rw [word4 (by omega)]
      refine Ev.ite (fun e => Ev.some_ ?_) (fun e => Ev.some_ ?_)
      all_goals split at e
      all_goals unfold wval; (repeat' split) <;> first | rfl | (exfalso; omega)
  have j0 : ∀ b : Bool, b = decide (w < 0 ∨ FK < 1 ∨ FK > 3) → Ev (fun k => impl_WordVal.j0 k w b FK O M) (wval FK w) := by
    intro b hb
    refine Ev.next ?_
    simp only [impl_WordVal.j0]
    refine Ev.ite (fun c => Ev.some_ ?_) (fun c => ?_)
    · have c' : w < 0 ∨ FK < 1 ∨ FK > 3 := by rw [hb] at c; simpa using c
      unfold wval; (repeat' split) <;> first | rfl | (exfalso; omega)
    · have c' : ¬ (w < 0 ∨ FK < 1 ∨ FK > 3) := by rw [hb] at c; simpa using c
      refine Ev.ite (fun d => ?_) (fun d => ?_)
      · refine (implWordOf_ev 1 w).bind ?_
        rw [word1 (by omega)]
        refine Ev.ite (fun e => Ev.some_ ?_) (fun e => Ev.some_ ?_)
        all_goals split at e
        all_goals unfold wval; (repeat' split) <;> first | rfl | (exfalso; omega)
      · by_cases z : w = 0
        · exact Ev.pos z (j1 _ (by simp [z]; rfl) (by omega) (by omega) d)
        · exact Ev.neg z (j1 _ (by simp [z]) (by omega) (by omega) d)
  unfold impl_WordVal.f
  by_cases h : w < 0
  · exact Ev.pos h (j0 _ (by simp [h]))
  · by_cases h2 : FK < 1
    · exact Ev.neg h (Ev.pos h2 (j0 _ (by simp [h2])))
    · exact Ev.neg h (Ev.neg h2 (j0 _ (by simp [h, h2])))
theorem specWordVal_ev (FK O : Int) (M : Bool) (w : Int) (hw : (Lit.int .i64 w).wf = true) : Ev (fun k => spec_WordVal.f k FK O M w) (wval FK w) := by
  have hw2 : -9223372036854775808 ≤ w ∧ w ≤ 9223372036854775807 := by simpa [Lit.wf, IntKind.min, IntKind.max, IntKind.signed, IntKind.bits] using hw
  unfold spec_WordVal.f
  by_cases c : w < 0 ∨ FK < 1 ∨ FK > 3
  · obtain ⟨v, hv⟩ : ∃ v, spec_l7Val.f FK O M w = some v := by
      unfold spec_l7Val.f spec_l5NumVal.f
      repeat' (first | exact ⟨_, rfl⟩ | split)
    rw [show wval FK w = (0, 0, false) from if_pos c]
    refine Ev.got hv (Ev.ite (fun _ => Ev.now _) fun a => Ev.ite (fun _ => Ev.now _) fun b => Ev.pos (by omega) (Ev.now _))
  · have h0 : 0 ≤ w := by omega
    have fin : ∀ K N, spec_l7Val.f FK O M w = some (K, N) → (form K N = true → wval FK w = if FK = 3 ∧ K = 2 then (0, 0, false) else (K, N, true)) → (form K N = false → wval FK w = (0, 0, false)) → Ev (fun k => (spec_l7Val.f FK O M w).bind fun bt122 => (if FK < 1 then (some (0, 0, false)) else (if FK > 3 then (some (0, 0, false)) else (if w < 0 then (some (0, 0, false)) else ((spec_l7Form.f k bt122.1 bt122.2).bind fun t125 => (if t125 = true then (if FK = 3 then (if bt122.1 = 2 then (some (0, 0, false)) else (some (bt122.1, bt122.2, true))) else (some (bt122.1, bt122.2, true))) else (some (0, 0, false)))))))) (wval FK w) := by
      intro K N h1 h2 h3
      refine Ev.got h1 (Ev.neg (by omega) (Ev.neg (by omega) (Ev.neg (by omega) ((form_ev K N).bind ?_))))
      refine Ev.ite (fun e => ?_) (fun e => Ev.some_ (h3 (by simpa using e)).symm)
      rw [h2 e]
      refine Ev.ite (fun g => Ev.ite (fun i => Ev.some_ (by rw [if_pos ⟨g, i⟩])) (fun i => Ev.some_ (by rw [if_neg (by omega)]))) (fun g => Ev.some_ (by rw [if_neg (by omega)]))
    by_cases d : FK = 1
    · refine fin 1 w (by unfold spec_l7Val.f; rw [if_pos d]; rfl) (fun h => ?_) (fun h => ?_)
      all_goals simp [form] at h
      all_goals unfold wval; (repeat' split) <;> first | rfl | (exfalso; omega)
    · by_cases z : w = 0
      · refine fin 2 0 (by unfold spec_l7Val.f; rw [if_neg d, if_pos z]) (fun h => ?_) (fun h => ?_)
        all_goals simp [form] at h
        all_goals unfold wval; (repeat' split) <;> first | rfl | (exfalso; omega)
      · by_cases p : w % 2 = 1
        · refine fin 3 (w / 2) (by unfold spec_l7Val.f; rw [if_neg d, if_neg z, Int.tmod_eq_emod_of_nonneg h0, Int.tdiv_eq_ediv_of_nonneg h0, w_id (x := w / 2) (by omega) (by omega), if_pos p]) (fun h => ?_) (fun h => ?_)
          all_goals simp [form] at h
          all_goals unfold wval; (repeat' split) <;> first | rfl | (exfalso; omega)
        · refine fin 4 (w / 2 - 1) (by unfold spec_l7Val.f; rw [if_neg d, if_neg z, Int.tmod_eq_emod_of_nonneg h0, Int.tdiv_eq_ediv_of_nonneg h0, w_id (x := w / 2) (by omega) (by omega), w_id (x := w / 2 - 1) (by omega) (by omega), if_neg p]) (fun h => ?_) (fun h => ?_)
          all_goals simp [form] at h
          all_goals unfold wval; (repeat' split) <;> first | rfl | (exfalso; omega)
theorem specWordOf_ev (K N : Int) : Ev (fun k => spec_WordOf.f k K N) (word K N) := by
  unfold spec_WordOf.f
  refine (form_ev K N).bind ?_
  refine Ev.ite (fun c => ?_) (fun c => Ev.some_ ?_)
  · have hN : -1000000 ≤ N ∧ N ≤ 1000000 ∨ ¬ (K = 3 ∨ K = 4) := by
      unfold form at c
      by_cases h : K = 3 ∨ K = 4
      · rcases h with h | h <;> · subst h; simp at c; omega
      · exact .inr h
    unfold form at c
    refine Ev.ite (fun d => Ev.some_ ?_) (fun d => Ev.ite (fun e => Ev.some_ ?_) (fun e => Ev.ite (fun g => Ev.some_ ?_) (fun g => Ev.some_ ?_)))
    · subst d; simp at c; unfold word; (repeat' split) <;> omega
    · subst e; simp at c
      rw [w_id (x := 2 * N) (by omega) (by omega), w_id (by omega) (by omega)]
      unfold word; (repeat' split) <;> omega
    · subst g; simp at c
      rw [w_id (x := 2 * N) (by omega) (by omega), w_id (by omega) (by omega)]
      unfold word; (repeat' split) <;> omega
    · unfold word; (repeat' split) <;> omega
  · unfold form at c
    unfold word
    (repeat' split) <;> first | rfl | (exfalso; rename_i h; obtain ⟨rfl, h1, h2⟩ := h; simp at c; omega)
theorem l1Field_ev {b : List Int} (hb : ∀ x ∈ b, 0 ≤ x ∧ x ≤ 255) (hl : b.length ≤ 2000) (p : Int) (hp : 0 ≤ p) (hp1 : p ≤ 900000000) (n : Int) (hn : -1 ≤ n) (hn1 : n ≤ 1000000) :
    ∃ K O M q, Ev (fun k => spec_l1Field.f k b p n) (K, O, M, q) ∧ p ≤ q ∧ q ≤ p + 3 ∧ (K = 1 ∨ K = 2 ∨ K = 3) ∧ (K = 1 → O = 0) ∧ -2 ≤ O ∧ (O < n ∨ O = 0) := by
  obtain ⟨v, h1, hv⟩ := num_ev hb hl p hp (by omega) [1, 2, 2, 3, 1, 2] (by simp)
  obtain ⟨x, h2, _⟩ := pick_ev hb hl (p + 1) 2 (by omega) (by omega)
  obtain ⟨y, h3, y0, y1, y2⟩ := pick_ev hb hl (p + 1 + 1) (n + 2) (by omega) (by omega)
  unfold spec_l1Field.f
  by_cases hv1 : v = 1
  · refine ⟨v, 0, _, p + 1 + 1, h1.bind (h2.bind (Ev.pos hv1 (Ev.now _))), by omega, by omega, by omega, fun _ => rfl, by omega, by omega⟩
  · have hy := y1 (by omega)
    refine ⟨v, y - 2, x == 0, p + 1 + 1 + 1, h1.bind (h2.bind (Ev.neg hv1 ?_)), by omega, by omega, by simp at hv; omega, fun h => absurd h hv1, by omega, by omega⟩
    rw [w_id (x := n + 2) (by omega) (by omega)]
    refine h3.bind (Ev.some_ ?_)
    rw [w_id (by omega) (by omega)]
theorem wfi {x : Int} (h0 : -9223372036854775808 ≤ x) (h1 : x ≤ 9223372036854775807) : (Lit.int .i64 x).wf = true := by simpa [Lit.wf, IntKind.min, IntKind.max, IntKind.signed, IntKind.bits] using ⟨h0, h1⟩
theorem word_range (K N : Int) : 0 ≤ word K N ∧ word K N ≤ 20000 := by
  unfold word
  repeat' split
  all_goals omega
theorem wval_back {FK w a b : Int} (h : wval FK w = (a, b, true)) : word a b = w := by
  unfold wval at h
  repeat' split at h
  all_goals simp only [Prod.mk.injEq] at h
  all_goals first | (exfalso; simp at h; done) | skip
  all_goals obtain ⟨rfl, rfl, _⟩ := h
  all_goals unfold word
  all_goals (repeat' split) <;> first | rfl | omega
theorem wval_none {FK w a b : Int} (h : wval FK w = (a, b, false)) : a = 0 ∧ b = 0 := by
  unfold wval at h
  repeat' split at h
  all_goals simp only [Prod.mk.injEq] at h
  all_goals first | (exfalso; simp at h; done) | (obtain ⟨rfl, rfl, _⟩ := h; exact ⟨rfl, rfl⟩)
theorem l5ValP {b : List Int} (hb : ∀ x ∈ b, 0 ≤ x ∧ x ≤ 255) (hl : b.length ≤ 2000) (p : Int) (hp : 0 ≤ p) (hp1 : p ≤ 900000000) (n : Int) : EvP (fun k => spec_l5Val.f k b p n) (fun _ => True) := by
  unfold spec_l5Val.f
  refine (pickP hb hl p _ hp (by omega)).bind fun r h => ?_
  refine EvP.ite (fun _ => (numP hb hl _ (by omega) (by omega) _ (by simp)).bind fun r2 h2 => EvP.got rfl (EvP.now trivial)) fun _ => ?_
  refine EvP.ite (fun _ => (pickP hb hl _ _ (by omega) (by omega)).bind fun r2 h2 => EvP.now trivial) fun _ => ?_
  refine EvP.ite (fun _ => (numP hb hl _ (by omega) (by omega) _ (by simp)).bind fun r2 h2 => EvP.now trivial) fun _ => ?_
  refine EvP.ite (fun _ => (numP hb hl _ (by omega) (by omega) _ (by simp)).bind fun r2 h2 => (pickP hb hl _ _ (by omega) (by omega)).bind fun r3 h3 => EvP.now trivial) fun _ => ?_
  exact (pickP hb hl _ _ (by omega) (by omega)).bind fun r3 h3 => EvP.now trivial
theorem drawOfP {l : List Int} (hw : ∀ x ∈ l, (Lit.int .u8 x).wf = true) : EvP (fun k => spec_DrawWordOf.f k l) (fun _ => True) := by
  obtain ⟨b, ho, hb, hl⟩ := open_ok hw
  unfold spec_DrawWordOf.f
  refine EvP.got ho ((numP hb hl 0 (by omega) (by omega) _ (by simp)).bind fun r h => ?_)
  exact (l5ValP hb hl _ (by omega) (by omega) _).bind fun _ _ => EvP.now trivial
theorem drawValP {l : List Int} (hw : ∀ x ∈ l, (Lit.int .u8 x).wf = true) : EvP (fun k => spec_DrawWordVal.f k l) (fun r => -100 ≤ r.2.2.2 ∧ r.2.2.2 ≤ 100000) := by
  obtain ⟨b, ho, hb, hl⟩ := open_ok hw
  unfold spec_DrawWordVal.f
  obtain ⟨K, O, M, q, hf, q0, q1, _⟩ := l1Field_ev hb hl 0 (by omega) (by omega) 3 (by omega) (by omega)
  refine EvP.got ho ((EvP.of (Q := fun r => r = (K, O, M, q)) hf rfl).bind fun r h => ?_)
  subst h
  refine (pickP hb hl _ _ (by simp only; omega) (by simp only; omega)).bind fun r h => ?_
  dsimp only at h
  refine EvP.ite (fun _ => (numP hb hl _ (by omega) (by omega) _ (by simp)).bind fun r2 h2 => (numP hb hl _ (by omega) (by omega) _ (by simp)).bind fun r3 h3 => EvP.now ?_) fun _ => (numP hb hl _ (by omega) (by omega) _ (by simp)).bind fun r3 h3 => EvP.now ?_
  all_goals (have := h3.2; simp at this; dsimp only; omega)
theorem word_j2 (K N : Int) (h1 : K ≠ 1) : ∀ c : Bool, c = decide (K = 3 ∨ K = 4) → Ev (fun k => laws_FnWord.j2 k (word K N) c K N 2 (-1) false 3 (-1) false) true := by
  intro c hc
  have r := word_range K N
  refine Ev.next ?_
  simp only [laws_FnWord.j2]
  have w2 : wval 2 0 = (2, 0, true) := rfl
  have w3 : wval 3 0 = (0, 0, false) := rfl
  refine Ev.ite (fun e => ?_) (fun e => ?_)
  · rw [hc] at e
    simp at e
    refine (implWordVal_ev 3 (-1) false (word K N) (wfi (by omega) (by omega))).bind (Ev.ite (fun _ => Ev.now _) fun z => ?_)
    have : wval 3 (word K N) = (K, N, true) := by
      rcases e with e | e
      · subst e
        unfold word at z ⊢
        split at z
        · omega
        · split at z
          · rename_i h2 h3
            rw [if_neg h2, if_pos h3]
            unfold wval
            rw [if_neg (by omega), if_neg (by omega), if_neg (by omega), if_pos (by omega), if_pos (by omega), show (2 * N + 1) / 2 = N by omega]
          · split at z <;> omega
      · subst e
        unfold word at z ⊢
        split at z
        · omega
        · split at z
          · omega
          · split at z
            · rename_i h2 h3 h4
              rw [if_neg h2, if_neg h3, if_pos h4]
              unfold wval
              rw [if_neg (by omega), if_neg (by omega), if_neg (by omega), if_neg (by omega), if_pos (by omega), show (2 * N + 2) / 2 - 1 = N by omega]
            · omega
    rw [this]
    exact Ev.pos rfl (Ev.some_ (by simp))
  · rw [hc] at e
    simp at e
    have z : word K N = 0 := by unfold word; (repeat' split) <;> omega
    have v2 := implWordVal_ev 2 (-1) false 0 rfl
    have v3 := implWordVal_ev 3 (-1) false 0 rfl
    rw [w2] at v2
    rw [w3] at v3
    exact v2.bind (v3.bind (Ev.pos z (Ev.pos rfl (Ev.neg (by simp) (Ev.some_ rfl)))))
theorem word_j1 (K N : Int) : Ev (fun k => laws_FnWord.j1 k (word K N) false K N) true := by
  have r := word_range K N
  refine Ev.next ?_
  simp only [laws_FnWord.j1]
  refine Ev.neg (by simp) (Ev.ite (fun e => ?_) (fun e => ?_))
  · subst e
    refine (implWordVal_ev 1 0 false (word 1 N) (wfi (by omega) (by omega))).bind ?_
    have : wval 1 (word 1 N) = (1, word 1 N, true) := by
      unfold wval
      have : word 1 N < 9973 := by unfold word; (repeat' split) <;> omega
      rw [if_neg (by omega), if_pos rfl, if_pos this]
    rw [this]
    refine Ev.pos rfl (Ev.ite (fun _ => Ev.now _) fun g => Ev.ite (fun _ => Ev.now _) fun i => Ev.some_ (decide_eq_true ?_))
    refine Decidable.byContradiction fun n => g ?_
    unfold word
    rw [if_pos ⟨rfl, by omega, by omega⟩]
    simp
  · refine Ev.ite (fun g => word_j2 K N e _ (by simp [g])) (fun g => word_j2 K N e _ (by simp [g]; rfl))
theorem word_j0 (l m : List Int) (hl : ∀ x ∈ l, (Lit.int .u8 x).wf = true) (hm : ∀ x ∈ m, (Lit.int .u8 x).wf = true) : ∀ c : Bool, Ev (fun k => laws_FnWord.j0 k l m c) true := by
  intro c
  refine Ev.next ?_
  simp only [laws_FnWord.j0]
  refine Ev.ite (fun _ => Ev.now _) fun _ => ?_
  obtain ⟨⟨K, N⟩, h1, _⟩ := drawOfP hl
  obtain ⟨⟨FK, O, M, w⟩, h2, w0, w1⟩ := drawValP hm
  dsimp only at w0 w1
  have hw := wfi (x := w) (by omega) (by omega)
  refine h1.bind (h2.bind ((implWordOf_ev K N).bind ((implWordVal_ev FK O M w hw).bind ((specWordVal_ev FK O M w hw).bind ((specWordOf_ev K N).bind (Ev.pos rfl (Ev.neg (by simp) ?_)))))))
  generalize hv : wval FK w = r
  obtain ⟨a, b, t⟩ := r
  cases t with
  | true =>
    refine Ev.pos rfl ((implWordOf_ev a b).bind (Ev.pos (wval_back hv) ?_))
    exact word_j1 K N
  | false =>
    obtain ⟨rfl, rfl⟩ := wval_none hv
    exact Ev.neg (by simp) (word_j1 K N)
theorem FnWord : laws_FnWord.Pure := by
  intro l m _ _ hl _ _ hm
  apply Ev.rounds
  unfold laws_FnWord.f
  exact Ev.ite (fun _ => word_j0 l m hl hm _) (fun _ => word_j0 l m hl hm _)
end Go.Proofs.Ytdnpbpgnehaebaa.Pure
