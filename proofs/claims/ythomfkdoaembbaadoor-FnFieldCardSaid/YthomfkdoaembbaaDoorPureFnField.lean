/- Proved: the law FnField answers true: a field is read back from its text, and a text that is read is its field's text, whatever is drawn. No condition. -/
import Derived.Test.YthomfkdoaembbaaDoorPFnFieldx7
import Derived.Lib.ItoaLen
namespace Go.Proofs.YthomfkdoaembbaaDoor.Pure
open Go.RowKit Go.Proofs.YthomfkdoaembbaaDoor.PFnField Go.Proofs.YthomfkdoaembbaaDoorW.PrintWords Go.Proofs.YthomfkdoaembbaaDoorW.PrintLast
theorem w_id {x : Int} (h0 : -9223372036854775808 ≤ x) (h1 : x ≤ 9223372036854775807) : wrap64 x = x := by unfold wrap64; omega
theorem Ev.pos {α : Type} {c : Prop} [Decidable c] {f g : Nat → Option α} {r : α} (h : c) (k : Ev f r) : Ev (fun n => if c then f n else g n) r := Ev.congr (fun _ => if_pos h) k
theorem Ev.neg {α : Type} {c : Prop} [Decidable c] {f g : Nat → Option α} {r : α} (h : ¬ c) (k : Ev g r) : Ev (fun n => if c then f n else g n) r := Ev.congr (fun _ => if_neg h) k
theorem Ev.ite {α : Type} {c : Prop} [Decidable c] {f g : Nat → Option α} {r : α} (h : c → Ev f r) (k : ¬ c → Ev g r) : Ev (fun n => if c then f n else g n) r := by
  by_cases hc : c
  · exact Ev.pos hc (h hc)
  · exact Ev.neg hc (k hc)
theorem Ev.got {α β : Type} {o : Option α} {f : Nat → α → Option β} {a : α} {r : β} (h : o = some a) (k : Ev (fun n => f n a) r) : Ev (fun n => o.bind (f n)) r := Ev.congr (fun _ => by rw [h]; rfl) k
theorem Ev.next {α : Type} {g : Nat → Option α} {r : α} (k : Ev (fun n => g (n + 1)) r) : Ev g r := Ev.step (fun _ => rfl) k
theorem Ev.some_ {α : Type} {a r : α} (h : a = r) : Ev (fun _ => some a) r := ⟨0, fun _ _ => by rw [h]⟩
theorem Ev.ex_ite {α : Type} {c : Prop} [Decidable c] {f g : Nat → Option α} {P : α → Prop} (h : c → ∃ r, Ev f r ∧ P r) (k : ¬ c → ∃ r, Ev g r ∧ P r) : ∃ r, Ev (fun n => if c then f n else g n) r ∧ P r := by
  by_cases hc : c
  · obtain ⟨r, a, b⟩ := h hc
    exact ⟨r, Ev.pos hc a, b⟩
  · obtain ⟨r, a, b⟩ := k hc
    exact ⟨r, Ev.neg hc a, b⟩
/-- A text out of its bytes. -/
def mkS (l : List UInt8) : ByteArray := ⟨l.toArray⟩
theorem mkS_size (l : List UInt8) : (mkS l).size = l.length := by simp [mkS, ByteArray.size]
theorem mkS_append (l m : List UInt8) : mkS l ++ mkS m = mkS (l ++ m) := by
  apply ByteArray.ext; simp [mkS, ByteArray.data_append]
theorem mkS_toList (l : List UInt8) : (mkS l).data.toList = l := by simp [mkS]
theorem dg_eq (x : Int) (h0 : 0 ≤ x) (h1 : x < 10) : strOfNums [(wrap64 (48 + x)) % 256] = mkS [UInt8.ofNat (48 + x.toNat)] := by
  rw [w_id (by omega) (by omega)]
  unfold strOfNums mkS
  simp only [List.map_cons, List.map_nil]
  rw [show ((48 + x) % 256).toNat = 48 + x.toNat by omega]
theorem dec_len (u : Nat) (h : u < 18446744073709551616) : (Lib.decDigits u).length ≤ 20 := by
  rw [Lib.decDigits_length]; exact Lib.nDigits_le20 u h
theorem dec_loop : ∀ (u : Nat) (acc : List UInt8), u ≤ 9223372036854775807 → acc.length + (Lib.decDigits u).length ≤ 9223372036854775807 →
    Ev (fun k => spec_l14Dec.l0 k (u : Int) (mkS acc)) (mkS (Lib.decDigits u ++ acc)) := by
  intro u
  induction u using Nat.strongRecOn with
  | _ u ih =>
    intro acc hu hl
    refine Ev.next ?_
    simp only [spec_l14Dec.l0]
    have tm : Int.tmod (u : Int) 10 = ((u % 10 : Nat) : Int) := rfl
    have td : Int.tdiv (u : Int) 10 = ((u / 10 : Nat) : Int) := rfl
    by_cases h : u < 10
    · rw [Lib.decDigits, dif_pos h] at hl ⊢
      simp at hl
      refine Ev.neg (by omega) (Ev.got rfl ?_)
      rw [dg_eq (u : Int) (by omega) (by omega), mkS_append, mkS_size, mkS_size]
      refine Ev.pos (by simp; omega) (Ev.some_ ?_)
      simp
    · rw [Lib.decDigits, dif_neg h] at hl ⊢
      simp at hl
      refine Ev.pos (by omega) (Ev.got rfl ?_)
      rw [tm, td, dg_eq ((u % 10 : Nat) : Int) (by omega) (by omega), Int.toNat_natCast, mkS_append, mkS_size, mkS_size, w_id (x := ((u / 10 : Nat) : Int)) (by omega) (by omega)]
      refine Ev.pos (by simp; omega) ?_
      have := ih (u / 10) (by omega) (UInt8.ofNat (48 + u % 10) :: acc) (by omega) (by simp; omega)
      simpa using this
theorem dec_nonneg (u : Nat) (hu : u ≤ 9223372036854775807) : Ev (fun k => spec_l14Dec.f k (u : Int)) (mkS (Lib.decDigits u)) := by
  refine Ev.next ?_
  simp only [spec_l14Dec.f]
  refine Ev.neg (by omega) (Ev.neg (by omega) ?_)
  have := dec_loop u [] hu (by have := dec_len u (by omega); simp; omega)
  rw [List.append_nil] at this
  exact this
theorem dec_low : Lib.decDigits 9223372036854775808 = [57, 50, 50, 51, 51, 55, 50, 48, 51, 54, 56, 53, 52, 55, 55, 53, 56, 48, 56] := by
  rw [Lib.decDigits_eq, Lib.nDigits_unique 18 9223372036854775808 (by decide) (by decide)]
  decide +kernel
/-- l14Dec is the numeral. -/
theorem dec_ev (n : Int) (h0 : -9223372036854775808 ≤ n) (h1 : n ≤ 9223372036854775807) : Ev (fun k => spec_l14Dec.f k n) (mkS (Lib.itoa n)) := by
  by_cases hn : n < 0
  · refine Ev.next ?_
    simp only [spec_l14Dec.f]
    unfold Lib.itoa
    rw [if_pos hn]
    refine Ev.ite (fun h => ?_) (fun h => Ev.pos hn ?_)
    · obtain rfl : n = -9223372036854775808 := by omega
      rw [show (-9223372036854775808 : Int).natAbs = 9223372036854775808 from rfl, dec_low]
      exact Ev.some_ rfl
    · rw [w_id (x := -n) (by omega) (by omega)]
      have e : -n = ((n.natAbs : Nat) : Int) := by omega
      rw [e]
      refine (dec_nonneg n.natAbs (by omega)).bind ?_
      have := dec_len n.natAbs (by omega)
      rw [mkS_size]
      refine Ev.pos (by omega) (Ev.some_ ?_)
      exact mkS_append [45] _
  · obtain ⟨u, rfl⟩ : ∃ u : Nat, n = (u : Int) := ⟨n.toNat, by omega⟩
    unfold Lib.itoa
    rw [if_neg hn, Int.toNat_natCast]
    exact dec_nonneg u (by omega)
theorem itoa_len {n : Int} (h0 : -9223372036854775808 ≤ n) (h1 : n ≤ 9223372036854775807) : (Lib.itoa n).length ≤ 21 := by
  unfold Lib.itoa
  split
  · have := dec_len n.natAbs (by omega); simp; omega
  · have := dec_len n.toNat (by omega); omega
theorem dec_ge (u : Nat) : ∀ b ∈ Lib.decDigits u, 48 ≤ b.toNat ∧ b.toNat ≤ 57 := by
  induction u using Nat.strongRecOn with
  | _ u ih =>
    intro b hb
    rw [Lib.decDigits] at hb
    split at hb
    · simp only [List.mem_singleton] at hb
      subst hb
      rw [UInt8.toNat_ofNat']; omega
    · rw [List.mem_append, List.mem_singleton] at hb
      rcases hb with hb | rfl
      · exact ih (u / 10) (by omega) b hb
      · rw [UInt8.toNat_ofNat']; omega
/-- The text of what a reference is to. -/
def ofT (o : Int) : List UInt8 := if o = -1 then [97, 110, 121] else if o = -2 then [99, 104, 105, 112] else Lib.itoa o
/-- Is a field right among eight types? -/
def okF (k o : Int) : Prop := (k = 1 ∧ o = 0) ∨ ((k = 2 ∨ k = 3) ∧ -2 ≤ o ∧ o < 8)
instance (k o : Int) : Decidable (okF k o) := by unfold okF; infer_instance
/-- The text of a right field. -/
def fT (k o : Int) (m : Bool) : List UInt8 := (if k = 1 then [110] else (if k = 2 then 114 else 115) :: ofT o) ++ (if m = true then [33] else [])
/-- The text of a field. -/
def fieldT (k o : Int) (m : Bool) : List UInt8 := if okF k o then fT k o m else []
theorem ofT_len {o : Int} (h0 : -2 ≤ o) (h1 : o < 8) : (ofT o).length ≤ 21 := by
  have := itoa_len (n := o) (by omega) (by omega)
  unfold ofT; repeat' split
  all_goals simp; try omega
theorem implOf {o : Int} (h0 : -2 ≤ o) (h1 : o < 8) : PFld.impl_ofText.f o = some (mkS (ofT o)) := by
  unfold PFld.impl_ofText.f ofT
  by_cases a : o = -1
  · rw [if_pos a, if_pos a]; rfl
  · rw [if_neg a, if_neg a]
    by_cases b : o = -2
    · rw [if_pos b, if_pos b]; rfl
    · rw [if_neg b, if_neg b]
      unfold PFld.strconv_Itoa.f
      rw [if_pos ⟨by omega, by omega⟩]; rfl
theorem specOf {o : Int} (h0 : -2 ≤ o) (h1 : o < 8) : Ev (fun k => spec_l2Of.f k o) (mkS (ofT o)) := by
  unfold spec_l2Of.f ofT
  by_cases a : o = -1
  · rw [if_pos a]; exact Ev.pos a (Ev.some_ rfl)
  · rw [if_neg a]
    refine Ev.neg a ?_
    by_cases b : o = -2
    · rw [if_pos b]; exact Ev.pos b (Ev.some_ rfl)
    · rw [if_neg b]
      exact Ev.neg b ((dec_ev o (by omega) (by omega)).bind (Ev.now _))
theorem implFieldOk (k o : Int) (m : Bool) : PFld.impl_fieldOk.f k o m 8 = some (decide (okF k o)) := by
  unfold PFld.impl_fieldOk.f okF
  by_cases a : k = 1
  · rw [if_pos a]; congr 1; subst a; by_cases h : o = 0 <;> simp [h]
  · rw [if_neg a]
    by_cases b : k = 2
    · subst b; rw [if_pos rfl]
      by_cases c : o ≥ -2
      · rw [if_pos c]; congr 1; by_cases h : o < 8 <;> simp [h]; omega
      · rw [if_neg c]; simp; omega
    · rw [if_neg b]
      by_cases d : k = 3
      · subst d; rw [if_pos rfl]
        by_cases c : o ≥ -2
        · rw [if_pos c]; congr 1; by_cases h : o < 8 <;> simp [h]; omega
        · rw [if_neg c]; simp; omega
      · rw [if_neg d]; simp [a, b, d]
theorem implField (k o : Int) (m : Bool) : HField.fieldText k o m = some (mkS (fieldT k o m)) := by
  unfold HField.fieldText fieldT
  rw [implFieldOk]
  simp only [Option.bind_some]
  by_cases h : okF k o
  · rw [if_pos (by simpa using h), if_pos h]
    unfold fT
    by_cases a : k = 1
    · rw [if_pos a, if_pos a]
      cases m <;> rfl
    · rw [if_neg a, if_neg a]
      have hr : (k = 2 ∨ k = 3) ∧ -2 ≤ o ∧ o < 8 := by unfold okF at h; omega
      have hl := ofT_len hr.2.1 hr.2.2
      rw [implOf hr.2.1 hr.2.2]
      simp only [Option.bind_some]
      rw [if_pos (by rw [mkS_size]; omega)]
      by_cases b : k = 2
      · rw [if_pos b, if_pos b]
        cases m
        · simp [mkS, ByteArray.ext_iff, ByteArray.data_append]
        · simp [mkS, ByteArray.ext_iff, ByteArray.data_append]
      · rw [if_neg b, if_neg b, if_pos (by omega)]
        cases m
        · simp [mkS, ByteArray.ext_iff, ByteArray.data_append]
        · simp [mkS, ByteArray.ext_iff, ByteArray.data_append]
  · rw [if_neg (by simpa using h), if_neg h]; rfl
theorem specFieldOk (k o : Int) (m : Bool) : spec_FieldOk.f k o m 8 = some (decide (okF k o)) := implFieldOk k o m
theorem specField (k o : Int) (m : Bool) : Ev (fun n => spec_FieldText.f n k o m) (mkS (fieldT k o m)) := by
  unfold spec_FieldText.f fieldT
  refine Ev.got (specFieldOk k o m) ?_
  by_cases h : okF k o
  · rw [if_pos h]
    refine Ev.pos (by simpa using h) ?_
    unfold fT
    by_cases a : k = 1
    · rw [if_pos a]
      refine Ev.neg (by omega) (Ev.neg (by omega) ?_)
      cases m
      · exact Ev.neg (by simp) (Ev.some_ rfl)
      · exact Ev.pos rfl (Ev.pos (by decide) (Ev.some_ rfl))
    · rw [if_neg a]
      have hr : (k = 2 ∨ k = 3) ∧ -2 ≤ o ∧ o < 8 := by unfold okF at h; omega
      have hl := ofT_len hr.2.1 hr.2.2
      by_cases b : k = 2
      · rw [if_pos b]
        refine Ev.pos b ((specOf hr.2.1 hr.2.2).bind ?_)
        rw [mkS_size, show (⟨#[114]⟩ : ByteArray) = mkS [114] from rfl, mkS_append, mkS_size]
        refine Ev.pos (by omega) ?_
        cases m
        · exact Ev.neg (by simp) (Ev.some_ (by simp))
        · exact Ev.pos rfl (Ev.pos (by simp; omega) (Ev.some_ (by rw [show (⟨#[33]⟩ : ByteArray) = mkS [33] from rfl, mkS_append]; simp)))
      · rw [if_neg b]
        refine Ev.neg b (Ev.pos (by omega) ((specOf hr.2.1 hr.2.2).bind ?_))
        rw [mkS_size, show (⟨#[115]⟩ : ByteArray) = mkS [115] from rfl, mkS_append, mkS_size]
        refine Ev.pos (by omega) ?_
        cases m
        · exact Ev.neg (by simp) (Ev.some_ (by simp))
        · exact Ev.pos rfl (Ev.pos (by simp; omega) (Ev.some_ (by rw [show (⟨#[33]⟩ : ByteArray) = mkS [33] from rfl, mkS_append]; simp)))
  · rw [if_neg h]
    exact Ev.neg (by simpa using h) (Ev.some_ rfl)
/-- From some number of rounds on there is an answer of which P holds. -/
def EvP {α : Type} (g : Nat → Option α) (P : α → Prop) : Prop := ∃ r, Ev g r ∧ P r
theorem EvP.bind {α β : Type} {g : Nat → Option α} {f : Nat → α → Option β} {P : α → Prop} {Q : β → Prop} (h : EvP g P) (k : ∀ a, P a → EvP (fun n => f n a) Q) : EvP (fun n => (g n).bind (f n)) Q := by
  obtain ⟨a, ha, hp⟩ := h
  obtain ⟨b, hb, hq⟩ := k a hp
  exact ⟨b, ha.bind hb, hq⟩
theorem EvP.got {α β : Type} {o : Option α} {f : Nat → α → Option β} {a : α} {Q : β → Prop} (h : o = some a) (k : EvP (fun n => f n a) Q) : EvP (fun n => o.bind (f n)) Q := by
  obtain ⟨b, hb, hq⟩ := k
  exact ⟨b, Ev.got h hb, hq⟩
theorem EvP.ite {α : Type} {c : Prop} [Decidable c] {f g : Nat → Option α} {Q : α → Prop} (h : c → EvP f Q) (k : ¬ c → EvP g Q) : EvP (fun n => if c then f n else g n) Q := by
  by_cases hc : c
  · obtain ⟨r, a, b⟩ := h hc
    exact ⟨r, Ev.pos hc a, b⟩
  · obtain ⟨r, a, b⟩ := k hc
    exact ⟨r, Ev.neg hc a, b⟩
theorem EvP.pos {α : Type} {c : Prop} [Decidable c] {f g : Nat → Option α} {Q : α → Prop} (hc : c) (h : EvP f Q) : EvP (fun n => if c then f n else g n) Q := EvP.ite (fun _ => h) (fun n => absurd hc n)
theorem EvP.neg {α : Type} {c : Prop} [Decidable c] {f g : Nat → Option α} {Q : α → Prop} (hc : ¬ c) (h : EvP g Q) : EvP (fun n => if c then f n else g n) Q := EvP.ite (fun n => absurd n hc) (fun _ => h)
theorem EvP.now {α : Type} {Q : α → Prop} {a : α} (h : Q a) : EvP (fun _ => some a) Q := ⟨a, Ev.now a, h⟩
theorem EvP.next {α : Type} {g : Nat → Option α} {Q : α → Prop} (k : EvP (fun n => g (n + 1)) Q) : EvP g Q := by
  obtain ⟨r, a, b⟩ := k
  exact ⟨r, Ev.next a, b⟩
theorem EvP.of {α : Type} {g : Nat → Option α} {Q : α → Prop} {r : α} (h : Ev g r) (q : Q r) : EvP g Q := ⟨r, h, q⟩
theorem EvP.weak {α : Type} {g : Nat → Option α} {P Q : α → Prop} (h : EvP g P) (k : ∀ a, P a → Q a) : EvP g Q := by
  obtain ⟨r, a, b⟩ := h
  exact ⟨r, a, k r b⟩
theorem EvP.congr {α : Type} {g f : Nat → Option α} {Q : α → Prop} (h : ∀ k, g k = f k) (k : EvP f Q) : EvP g Q := by
  obtain ⟨r, a, b⟩ := k
  exact ⟨r, Ev.congr h a, b⟩
theorem bt_mkS (l : List UInt8) (i : Nat) (h : i < l.length) : bt (mkS l) (i : Int) = (l[i].toNat : Int) := by
  unfold bt
  rw [dif_pos (by rw [mkS_size]; exact h)]
  rfl
theorem eq_mkS (s : ByteArray) : s = mkS s.data.toList := by cases s; simp [mkS]
theorem mkS_tl (l : List UInt8) : (mkS l).toList = l := by rw [Lib.toList_data, mkS_toList]
theorem mkS_cut (l : List UInt8) (i j : Nat) : (mkS l).extract i j = mkS ((l.drop i).take (j - i)) := by
  apply ByteArray.ext
  simp [mkS, ByteArray.data_extract, List.extract_eq_take_drop]
/-- The value of digits behind a value. -/
def dv : List UInt8 → Int → Int
  | [], n => n
  | b :: l, n => dv l (10 * n + ((b.toNat : Int) - 48))
theorem dv_snoc (l : List UInt8) (b : UInt8) (n : Int) : dv (l ++ [b]) n = 10 * dv l n + ((b.toNat : Int) - 48) := by
  induction l generalizing n with
  | nil => rfl
  | cons c l ih => exact ih _
theorem dv_dec (u : Nat) : dv (Lib.decDigits u) 0 = (u : Int) := by
  induction u using Nat.strongRecOn with
  | _ u ih =>
    rw [Lib.decDigits]
    split
    · simp only [dv]
      rw [UInt8.toNat_ofNat']; omega
    · rw [dv_snoc, ih (u / 10) (by omega), UInt8.toNat_ofNat']; omega
theorem dec_ne (u : Nat) : Lib.decDigits u ≠ [] := by
  rw [Lib.decDigits]; split
  · simp
  · simp
theorem dec_head : ∀ (u : Nat), 1 ≤ u → ∀ b l, Lib.decDigits u = b :: l → b.toNat ≠ 48 := by
  intro u
  induction u using Nat.strongRecOn with
  | _ u ih =>
    intro hu b l e
    rw [Lib.decDigits] at e
    split at e
    · simp only [List.cons.injEq] at e
      rw [← e.1, UInt8.toNat_ofNat']; omega
    · cases h : Lib.decDigits (u / 10) with
      | nil => exact absurd h (dec_ne _)
      | cons c r =>
        rw [h] at e
        simp only [List.cons_append, List.cons.injEq] at e
        rw [← e.1]
        exact ih (u / 10) (by omega) (by omega) c r h
theorem dec_len_lt (u k : Nat) (h : u < 10 ^ (k + 1)) : (Lib.decDigits u).length ≤ k + 1 := by
  induction k generalizing u with
  | zero => rw [Lib.decDigits, dif_pos (by simpa using h)]; simp
  | succ k ih =>
    rw [Lib.decDigits]
    split
    · simp
    · have := ih (u / 10) (by rw [Nat.pow_succ] at h; omega)
      simp; omega
theorem dec_17 (u : Nat) (h : u < 100000000000000000) : (Lib.decDigits u).length ≤ 17 := dec_len_lt u 16 (by simpa using h)
theorem natGo_ok (l : List UInt8) : ∀ (p : Nat) (n : Int), (∀ b ∈ l, HNat.isDig b) → p + l.length ≤ 17 → HNat.natGo l p n = some (dv l n) := by
  induction l with
  | nil => intro p n _ _; rfl
  | cons b l ih =>
    intro p n hd hl
    simp only [List.length_cons] at hl
    simp only [HNat.natGo]
    rw [if_neg (by omega), if_pos (hd b List.mem_cons_self)]
    exact ih (p + 1) _ (fun c hc => hd c (List.mem_cons_of_mem _ hc)) (by omega)
/-- natural reads a numeral. -/
theorem nat_dec (u : Nat) (h : u < 100000000000000000) : HNat.nat (mkS (Lib.decDigits u)) = ((u : Int), true) := by
  unfold HNat.nat
  rw [mkS_toList, natGo_ok _ 0 0 (fun b hb => dec_ge u b hb) (by have := dec_17 u h; omega), dv_dec]
  simp only [mkS_tl]
  have e : (Lib.decDigits u).isEmpty = false := by
    cases he : Lib.decDigits u with
    | nil => exact absurd he (dec_ne u)
    | cons _ _ => rfl
  have i : Lib.itoa (u : Int) = Lib.decDigits u := by unfold Lib.itoa; rw [if_neg (by omega), Int.toNat_natCast]
  rw [e, i]
  simp
/-- A number as it is read back. -/
theorem l14_loop (l : List UInt8) : ∀ (d i : Nat) (n : Int), i + d = l.length → l.length ≤ 17 → (∀ b ∈ l, HNat.isDig b) → 0 ≤ n → n < ((10 ^ i : Nat) : Int) →
    Ev (fun k => spec_l14Num.l0 k (mkS l) false n (i : Int)) (dv (l.drop i) n, true) := by
  intro d
  induction d with
  | zero =>
    intro i n hi hl hd h0 h1
    obtain rfl : i = l.length := by omega
    refine Ev.next ?_
    simp only [spec_l14Num.l0, mkS_size]
    refine Ev.neg (by omega) (Ev.neg (by simp) (Ev.some_ ?_))
    simp [dv]
  | succ d ih =>
    intro i n hi hl hd h0 h1
    have hi' : i < l.length := by omega
    have hb := hd l[i] (List.getElem_mem hi')
    have hp10 : 10 ^ i ≤ 10 ^ 16 := Nat.pow_le_pow_right (by decide) (by omega)
    have hs10 : 10 ^ (i + 1) = 10 ^ i * 10 := Nat.pow_succ ..
    have hb1 := hb.1; have hb2 := hb.2
    refine Ev.next ?_
    simp only [spec_l14Num.l0, mkS_size]
    rw [bt_mkS l i hi']
    refine Ev.pos (by omega) (Ev.pos (by omega) (Ev.neg (by omega) (Ev.neg (by omega) ?_)))
    rw [w_id (x := n * 10) (by omega) (by omega), w_id (x := (i : Int) + 1) (by omega) (by omega), w_id (by omega) (by omega)]
    have e : n * 10 + ((l[i].toNat : Int) - 48) % 256 = 10 * n + ((l[i].toNat : Int) - 48) := by omega
    rw [e]
    have := ih (i + 1) (10 * n + ((l[i].toNat : Int) - 48)) (by omega) hl hd (by omega) (by rw [hs10]; omega)
    rw [List.drop_eq_getElem_cons hi']
    simpa [dv] using this
theorem l14_dec (u : Nat) (h : u < 100000000000000000) : Ev (fun k => spec_l14Num.f k (mkS (Lib.decDigits u))) ((u : Int), true) := by
  have hl := dec_17 u h
  have hpos : 0 < (Lib.decDigits u).length := List.length_pos_iff.2 (dec_ne u)
  have hd : ∀ b ∈ Lib.decDigits u, HNat.isDig b := fun b hb => dec_ge u b hb
  have hb := hd _ (List.getElem_mem hpos)
  have hb1 := hb.1
  have b0 := bt_mkS (Lib.decDigits u) 0 hpos
  unfold spec_l14Num.f
  rw [mkS_size, show (bt (mkS (Lib.decDigits u)) 0) = _ from b0]
  refine Ev.pos (by omega) (Ev.pos (by omega) ?_)
  rw [show (((Lib.decDigits u)[0].toNat : Int) == 45) = false from beq_eq_false_iff_ne.2 (by omega)]
  refine Ev.next ?_
  simp only [spec_l14Num.j0]
  refine Ev.neg (by simp) (Ev.next ?_)
  simp only [spec_l14Num.j1]
  rw [mkS_size, show (bt (mkS (Lib.decDigits u)) 0) = _ from b0]
  have fin : Ev (fun k => spec_l14Num.j2 k (mkS (Lib.decDigits u)) false false) ((u : Int), true) := by
    refine Ev.next ?_
    simp only [spec_l14Num.j2]
    refine Ev.neg (by simp) ?_
    have := l14_loop (Lib.decDigits u) (Lib.decDigits u).length 0 0 (by omega) hl hd (by omega) (by simp)
    simpa [dv_dec] using this
  refine Ev.neg (by omega) (Ev.neg (by omega) (Ev.pos (by omega) (Ev.ite (fun c => ?_) (fun _ => fin))))
  refine Ev.neg (fun c2 => ?_) fin
  have hu : 1 ≤ u := by
    rcases Nat.lt_or_ge u 10 with hu | hu
    · rw [Lib.decDigits, dif_pos hu] at c2; simp at c2
    · omega
  refine dec_head u hu (Lib.decDigits u)[0] ((Lib.decDigits u).drop 1) ?_ (by omega)
  rw [← List.drop_eq_getElem_cons hpos, List.drop_zero]
/-- It always tells something. -/
theorem l14_any (s : ByteArray) (hs : s.size ≤ 1000000000) : EvP (fun k => spec_l14Num.f k s) (fun _ => True) := by
  have loop : ∀ (d i : Nat) (s : ByteArray) (neg : Bool) (n : Int), i + d = s.size → s.size ≤ 1000000000 → EvP (fun k => spec_l14Num.l0 k s neg n (i : Int)) (fun _ => True) := by
    intro d
    induction d with
    | zero =>
      intro i s neg n hi hs
      refine EvP.next ?_
      simp only [spec_l14Num.l0]
      exact EvP.neg (by omega) (EvP.ite (fun _ => EvP.now trivial) (fun _ => EvP.now trivial))
    | succ d ih =>
      intro i s neg n hi hs
      refine EvP.next ?_
      simp only [spec_l14Num.l0]
      refine EvP.pos (by omega) (EvP.pos (by omega) (EvP.ite (fun _ => EvP.now trivial) (fun _ => EvP.ite (fun _ => EvP.now trivial) (fun _ => ?_))))
      rw [w_id (x := (i : Int) + 1) (by omega) (by omega)]
      have := ih (i + 1) s neg (wrap64 (wrap64 (n * 10) + (bt s (i : Int) - 48) % 256)) (by omega) hs
      simpa using this
  have j2 : ∀ (s : ByteArray) (neg b : Bool), s.size ≤ 1000000000 → EvP (fun k => spec_l14Num.j2 k s neg b) (fun _ => True) := by
    intro s neg b hs
    refine EvP.next ?_
    simp only [spec_l14Num.j2]
    exact EvP.ite (fun _ => EvP.now trivial) (fun _ => loop s.size 0 s neg 0 (by omega) hs)
  have j1 : ∀ (s : ByteArray) (neg : Bool), s.size ≤ 1000000000 → EvP (fun k => spec_l14Num.j1 k s neg) (fun _ => True) := by
    intro s neg hs
    refine EvP.next ?_
    simp only [spec_l14Num.j1]
    exact EvP.ite (fun _ => j2 _ _ _ hs) (fun _ => EvP.ite (fun _ => j2 _ _ _ hs) (fun _ => EvP.pos (by omega) (EvP.ite (fun _ => EvP.ite (fun _ => j2 _ _ _ hs) (fun _ => j2 _ _ _ hs)) (fun _ => j2 _ _ _ hs))))
  have j0 : ∀ (s : ByteArray) (neg : Bool), s.size ≤ 1000000000 → (neg = true → 1 ≤ s.size) → EvP (fun k => spec_l14Num.j0 k s neg) (fun _ => True) := by
    intro s neg hs hn
    refine EvP.next ?_
    simp only [spec_l14Num.j0]
    refine EvP.ite (fun c => EvP.pos (by have := hn c; omega) (j1 _ _ ?_)) (fun _ => j1 _ _ hs)
    rw [ByteArray.size_extract]; omega
  unfold spec_l14Num.f
  exact EvP.ite (fun _ => EvP.pos (by omega) (j0 _ _ hs (fun _ => by omega))) (fun _ => j0 _ _ hs (fun h => by cases h))
theorem of_any (s : ByteArray) (hs : s.size ≤ 1000000000) : EvP (fun k => spec_l2OfRead.f k s) (fun _ => True) := by
  unfold spec_l2OfRead.f
  exact EvP.ite (fun _ => EvP.now trivial) (fun _ => EvP.ite (fun _ => EvP.now trivial) (fun _ => EvP.bind (l14_any s hs) (fun _ _ => EvP.ite (fun _ => EvP.now trivial) (fun _ => EvP.now trivial))))
theorem ofT_nat (u : Nat) : ofT (u : Int) = Lib.decDigits u := by
  unfold ofT Lib.itoa
  rw [if_neg (by omega), if_neg (by omega), if_neg (by omega), Int.toNat_natCast]
theorem dec_no_word (u : Nat) (w : List UInt8) (b : UInt8) (r : List UInt8) (hw : w = b :: r) (hb : 58 ≤ b.toNat) : Lib.decDigits u ≠ w := by
  intro e
  have := dec_ge u b (by rw [e, hw]; exact List.mem_cons_self)
  omega
theorem specOfRead {o : Int} (h0 : -2 ≤ o) (h1 : o < 100000000000000000) : EvP (fun k => spec_l2OfRead.f k (mkS (ofT o))) (fun r => r.1 = o) := by
  unfold spec_l2OfRead.f
  rw [mkS_tl]
  by_cases a : o = -1
  · subst a; exact EvP.pos rfl (EvP.now rfl)
  · by_cases b : o = -2
    · subst b; exact EvP.neg (by decide) (EvP.pos rfl (EvP.now rfl))
    · obtain ⟨u, rfl⟩ : ∃ u : Nat, o = (u : Int) := ⟨o.toNat, by omega⟩
      rw [ofT_nat]
      refine EvP.neg (dec_no_word u _ 97 _ rfl (by decide)) (EvP.neg (dec_no_word u _ 99 _ rfl (by decide)) ?_)
      exact EvP.bind (EvP.of (l14_dec u (by omega)) rfl) (fun r hr => by subst hr; exact EvP.pos rfl (EvP.now rfl))
theorem implOfRead {o : Int} (h0 : -2 ≤ o) (h1 : o < 100000000000000000) : impl_readOf.f (mkS (ofT o)) = some (o, true) := by
  unfold impl_readOf.f
  rw [mkS_tl]
  by_cases a : o = -1
  · subst a; rfl
  · by_cases b : o = -2
    · subst b; rfl
    · obtain ⟨u, rfl⟩ : ∃ u : Nat, o = (u : Int) := ⟨o.toNat, by omega⟩
      rw [ofT_nat, if_neg (dec_no_word u _ 97 _ rfl (by decide)), if_neg (dec_no_word u _ 99 _ rfl (by decide))]
      unfold impl_natural.f
      rw [nat_dec u (by omega)]
      rfl
/-- The text ahead of the mark. -/
def core (k o : Int) : List UInt8 := if k = 1 then [110] else (if k = 2 then 114 else 115) :: ofT o
theorem fT_core (k o : Int) (m : Bool) : fT k o m = core k o ++ (if m = true then [33] else []) := rfl
theorem ofT_no {o : Int} (h : -2 ≤ o) : ∀ b ∈ ofT o, b.toNat ≠ 33 := by
  intro b hb
  by_cases a : o = -1
  · subst a; have : b ∈ ([97, 110, 121] : List UInt8) := hb; revert b; decide
  · by_cases c : o = -2
    · subst c; have : b ∈ ([99, 104, 105, 112] : List UInt8) := hb; revert b; decide
    · obtain ⟨u, rfl⟩ : ∃ u : Nat, o = (u : Int) := ⟨o.toNat, by omega⟩
      rw [ofT_nat] at hb
      have := dec_ge u b hb
      omega
theorem core_no {k o : Int} (h : okF k o) : ∀ b ∈ core k o, b.toNat ≠ 33 := by
  intro b hb
  unfold core at hb
  split at hb
  · simp only [List.mem_singleton] at hb; subst hb; decide
  · have ho : -2 ≤ o := by unfold okF at h; omega
    rcases List.mem_cons.1 hb with rfl | hb
    · split <;> decide
    · exact ofT_no ho b hb
theorem core_ne (k o : Int) : core k o ≠ [] := by unfold core; split <;> simp
theorem fT_ne (k o : Int) (m : Bool) : fT k o m ≠ [] := by rw [fT_core]; intro e; exact core_ne k o (List.append_eq_nil_iff.1 e).1
theorem chk {T : List UInt8} (hT : T ≠ []) {k o : Int} {m : Bool} (e : fieldT k o m = T) : okF k o ∧ fT k o m = T := by
  unfold fieldT at e
  by_cases h : okF k o
  · rw [if_pos h] at e; exact ⟨h, e⟩
  · rw [if_neg h] at e; exact absurd e.symm hT
theorem fieldT_ok {k o : Int} {m : Bool} (h : okF k o) : fieldT k o m = fT k o m := if_pos h
/-- Nothing, or the field of which it is the text. -/
def Told (T : List UInt8) (r : Int × Int × Bool × Bool) : Prop := r = (0, 0, false, false) ∨ ∃ k o m, r = (k, o, m, true) ∧ okF k o ∧ fT k o m = T
theorem size_ne {s : ByteArray} (h : s.toList ≠ []) : 0 < s.size := by
  rw [Lib.toList_data] at h
  have : s.data.toList.length = s.size := Array.length_toList
  have := List.length_pos_iff.2 h
  omega
theorem spec_any (s : ByteArray) (hs : s.size ≤ 1000000000) : EvP (fun n => spec_FieldRead.f n s) (Told s.data.toList) := by
  have j2 : ∀ (x5 : ByteArray) (k o : Int) (m : Bool), s.data.toList ≠ [] → (k > 1 → 1 ≤ x5.size) → x5.size ≤ 1000000000 → EvP (fun n => spec_FieldRead.j2 n s x5 k o m) (Told s.data.toList) := by
    intro x5 k o m hT hk hx
    refine EvP.next ?_
    simp only [spec_FieldRead.j2, Lib.toList_data]
    refine EvP.ite (fun c => EvP.pos (by have := hk c; omega) (EvP.bind (of_any _ (by rw [ByteArray.size_extract]; omega)) (fun r _ => EvP.bind (EvP.of (specField k r.1 m) rfl) (fun t ht => ?_)))) (fun _ => EvP.bind (EvP.of (specField k o m) rfl) (fun t ht => ?_))
    · subst ht
      rw [mkS_toList]
      exact EvP.ite (fun e => EvP.now (Or.inr ⟨_, _, _, rfl, chk hT e⟩)) (fun _ => EvP.now (Or.inl rfl))
    · subst ht
      rw [mkS_toList]
      exact EvP.ite (fun e => EvP.now (Or.inr ⟨_, _, _, rfl, chk hT e⟩)) (fun _ => EvP.now (Or.inl rfl))
  have j1 : ∀ (x5 : ByteArray) (o : Int) (m : Bool), (s.data.toList = [] → x5.toList = []) → x5.size ≤ 1000000000 → EvP (fun n => spec_FieldRead.j1 n s x5 0 o m) (Told s.data.toList) := by
    intro x5 o m hT hx
    refine EvP.next ?_
    simp only [spec_FieldRead.j1]
    refine EvP.ite (fun _ => EvP.now (Or.inl rfl)) (fun c => ?_)
    have h0 := size_ne c
    have hT' : s.data.toList ≠ [] := fun e => c (hT e)
    exact EvP.pos (by omega) (EvP.ite (fun _ => j2 _ _ _ _ hT' (fun _ => h0) hx) (fun _ => EvP.ite (fun _ => j2 _ _ _ _ hT' (fun _ => h0) hx) (fun _ => EvP.ite (fun _ => j2 _ _ _ _ hT' (fun _ => h0) hx) (fun _ => j2 _ _ _ _ hT' (fun _ => h0) hx))))
  have hsz : s.data.toList.length = s.size := Array.length_toList
  unfold spec_FieldRead.f
  refine EvP.ite (fun c => ?_) (fun c => EvP.next ?_)
  · rw [w_id (x := (s.size : Int) - 1) (by omega) (by omega)]
    refine EvP.pos (by omega) (EvP.pos (by omega) (EvP.next ?_))
    simp only [spec_FieldRead.j0]
    rw [w_id (x := (s.size : Int) - 1) (by omega) (by omega)]
    have hne : s.data.toList ≠ [] := fun e => by rw [e] at hsz; simp at hsz; omega
    exact EvP.ite (fun _ => EvP.pos (by omega) (EvP.pos (by omega) (j1 _ _ _ (fun e => absurd e hne) (by rw [ByteArray.size_extract]; omega)))) (fun _ => j1 _ _ _ (fun e => absurd e hne) hs)
  · simp only [spec_FieldRead.j0]
    exact EvP.neg (by simp) (j1 _ _ _ (fun e => by rw [Lib.toList_data]; exact e) hs)
theorem spec_ok {k o : Int} (m : Bool) (h : okF k o) : EvP (fun n => spec_FieldRead.f n (mkS (fT k o m))) (fun r => r = (k, o, m, true)) := by
  have hk : k = 1 ∨ k = 2 ∨ k = 3 := by unfold okF at h; omega
  have hT := fieldT_ok (m := m) h
  have j2 : EvP (fun n => spec_FieldRead.j2 n (mkS (fT k o m)) (mkS (core k o)) k 0 m) (fun r => r = (k, o, m, true)) := by
    refine EvP.next ?_
    simp only [spec_FieldRead.j2, mkS_tl, mkS_size]
    by_cases k1 : k = 1
    · have o0 : o = 0 := by unfold okF at h; omega
      refine EvP.neg (by omega) (EvP.bind (EvP.of (specField k 0 m) rfl) (fun t ht => ?_))
      subst ht; subst o0
      rw [mkS_tl]
      exact EvP.pos hT (EvP.now rfl)
    · have ho : -2 ≤ o ∧ o < 8 := by unfold okF at h; omega
      have ec : core k o = (if k = 2 then 114 else 115) :: ofT o := if_neg k1
      refine EvP.pos (by omega) (EvP.pos (by rw [ec]; simp; omega) ?_)
      rw [mkS_cut, ec]
      have e2 : (((if k = 2 then (114 : UInt8) else 115) :: ofT o).drop 1).take ((mkS ((if k = 2 then (114 : UInt8) else 115) :: ofT o)).size - 1) = ofT o := by rw [mkS_size]; simp
      have := e2
      refine EvP.bind (P := fun r => r.1 = o) ?_ (fun r hr => ?_)
      · simp only [List.length_cons, Nat.add_sub_cancel, List.drop_succ_cons, List.drop_zero, List.take_length]
        exact specOfRead ho.1 (by omega)
      · rw [hr]
        refine EvP.bind (EvP.of (specField k o m) rfl) (fun t ht => ?_)
        subst ht
        rw [mkS_tl]
        exact EvP.pos hT (EvP.now rfl)
  have j1 : EvP (fun n => spec_FieldRead.j1 n (mkS (fT k o m)) (mkS (core k o)) 0 0 m) (fun r => r = (k, o, m, true)) := by
    refine EvP.next ?_
    simp only [spec_FieldRead.j1, mkS_tl, mkS_size]
    have hpos : 0 < (core k o).length := List.length_pos_iff.2 (core_ne k o)
    have b0 : bt (mkS (core k o)) 0 = ((core k o)[0].toNat : Int) := bt_mkS (core k o) 0 hpos
    refine EvP.neg (core_ne k o) (EvP.pos (by omega) ?_)
    rw [b0]
    rcases hk with rfl | rfl | rfl
    · exact EvP.pos rfl j2
    · exact EvP.neg (by show ¬ ((114 : UInt8).toNat : Int) = 110; decide) (EvP.pos rfl j2)
    · exact EvP.neg (by show ¬ ((115 : UInt8).toNat : Int) = 110; decide) (EvP.neg (by show ¬ ((115 : UInt8).toNat : Int) = 114; decide) (EvP.pos rfl j2))
  have hcl : 0 < (core k o).length := List.length_pos_iff.2 (core_ne k o)
  have hco : (core k o).length ≤ 22 := by
    unfold core; split
    · simp
    · have := ofT_len (o := o) (by unfold okF at h; omega) (by unfold okF at h; omega); simp; omega
  unfold spec_FieldRead.f
  rw [mkS_size]
  cases m with
  | true =>
    have el : (fT k o true).length = (core k o).length + 1 := by rw [fT_core]; simp
    rw [el, w_id (by omega) (by omega)]
    have b : bt (mkS (fT k o true)) ((((core k o).length + 1 : Nat) : Int) - 1) = 33 := by
      rw [show (((core k o).length + 1 : Nat) : Int) - 1 = ((core k o).length : Int) by omega, bt_mkS _ _ (by omega)]
      simp [fT_core]
    rw [b]
    refine EvP.pos (by omega) (EvP.pos (by omega) (EvP.pos (by omega) (EvP.next ?_)))
    simp only [spec_FieldRead.j0, mkS_size]
    rw [el, w_id (by omega) (by omega)]
    refine EvP.pos rfl (EvP.pos (by omega) (EvP.pos (by omega) ?_))
    rw [mkS_cut, show ((((core k o).length + 1 : Nat) : Int) - 1).toNat - 0 = (core k o).length by omega, List.drop_zero, show (fT k o true).take (core k o).length = core k o by rw [fT_core]; simp]
    exact j1
  | false =>
    have et : fT k o false = core k o := by rw [fT_core]; simp
    rw [et] at j1 ⊢
    rw [w_id (by omega) (by omega)]
    have b : bt (mkS (core k o)) (((core k o).length : Int) - 1) ≠ 33 := by
      rw [show ((core k o).length : Int) - 1 = (((core k o).length - 1 : Nat) : Int) by omega, bt_mkS _ _ (by omega)]
      have := core_no h _ (List.getElem_mem (l := core k o) (n := (core k o).length - 1) (by omega))
      omega
    rw [beq_eq_false_iff_ne.2 b]
    refine EvP.pos (by omega) (EvP.pos (by omega) (EvP.pos (by omega) (EvP.next ?_)))
    simp only [spec_FieldRead.j0]
    exact EvP.neg (by simp) j1
theorem readOf_any (s : ByteArray) : ∃ r, impl_readOf.f s = some r := by
  unfold impl_readOf.f
  split
  · exact ⟨_, rfl⟩
  · split
    · exact ⟨_, rfl⟩
    · exact ⟨_, rfl⟩
theorem impl_any (s : ByteArray) (hs : s.size ≤ 1000000000) : EvP (fun n => impl_FieldRead.f n s) (Told s.data.toList) := by
  have j0 : ∀ (x5 : ByteArray) (b : Bool) (k : Int) (m : Bool), s.data.toList ≠ [] → EvP (fun n => impl_FieldRead.j0 n s x5 b k 0 m) (Told s.data.toList) := by
    intro x5 b k m hT
    refine EvP.next ?_
    simp only [impl_FieldRead.j0, Lib.toList_data]
    refine EvP.ite (fun _ => ?_) (fun _ => EvP.got (implField k 0 m) ?_)
    · obtain ⟨r, hr⟩ := readOf_any x5
      refine EvP.got hr (EvP.ite (fun _ => EvP.got (implField k r.1 m) ?_) (fun _ => EvP.now (Or.inl rfl)))
      rw [mkS_toList]
      exact EvP.ite (fun e => EvP.now (Or.inr ⟨_, _, _, rfl, chk hT e⟩)) (fun _ => EvP.now (Or.inl rfl))
    · rw [mkS_toList]
      exact EvP.ite (fun e => EvP.now (Or.inr ⟨_, _, _, rfl, chk hT e⟩)) (fun _ => EvP.now (Or.inl rfl))
  unfold impl_FieldRead.f
  refine EvP.ite (fun _ => EvP.now (Or.inl rfl)) (fun c => ?_)
  have h0 := size_ne c
  rw [Lib.toList_data] at c
  refine EvP.pos (by omega) (EvP.got rfl (EvP.pos (by omega) (EvP.got (if_pos (by rw [ByteArray.size_extract]; omega)) ?_)))
  exact EvP.ite (fun _ => j0 _ _ _ _ c) (fun _ => j0 _ _ _ _ c)
theorem suffix_yes (l : List UInt8) : Lib.hasSuffix (l ++ [33]) [33] = true := by
  unfold Lib.hasSuffix
  rw [List.isSuffixOf_iff_suffix]
  exact List.suffix_append _ _
theorem suffix_no (l : List UInt8) (h : ∀ b ∈ l, b.toNat ≠ 33) : Lib.hasSuffix l [33] = false := by
  cases e : Lib.hasSuffix l [33] with
  | false => rfl
  | true =>
    unfold Lib.hasSuffix at e
    rw [List.isSuffixOf_iff_suffix] at e
    exact absurd rfl (h 33 (e.subset List.mem_cons_self))
theorem cut_mark (l : List UInt8) (h : ∀ b ∈ l, b.toNat ≠ 33) (hl : l.length ≤ 1000) (m : Bool) : strings_CutSuffix.f (mkS (l ++ (if m = true then [33] else []))) (⟨#[33]⟩ : ByteArray) = some (mkS l, m) := by
  unfold strings_CutSuffix.f
  rw [if_pos (by rw [mkS_size]; cases m <;> simp <;> omega), mkS_toList]
  show some ((⟨(Lib.trimSuffix _ [33]).toArray⟩ : ByteArray), Lib.hasSuffix _ [33]) = _
  unfold Lib.trimSuffix
  cases m with
  | true => simp only [if_true]; rw [suffix_yes]; simp [mkS]
  | false =>
    have e : l ++ (if (false : Bool) = true then [33] else []) = l := by simp
    rw [e, suffix_no l h]; rfl
theorem impl_ok {k o : Int} (m : Bool) (h : okF k o) : EvP (fun n => impl_FieldRead.f n (mkS (fT k o m))) (fun r => r = (k, o, m, true)) := by
  have hk : k = 1 ∨ k = 2 ∨ k = 3 := by unfold okF at h; omega
  have hT := fieldT_ok (m := m) h
  have hcl : 0 < (core k o).length := List.length_pos_iff.2 (core_ne k o)
  have ec : core k o = (if k = 1 then 110 else if k = 2 then 114 else 115) :: (if k = 1 then [] else ofT o) := by unfold core; rcases hk with rfl | rfl | rfl <;> rfl
  generalize hh : (if k = 1 then (110 : UInt8) else if k = 2 then 114 else 115) = c0 at ec
  generalize hr : (if k = 1 then ([] : List UInt8) else ofT o) = r0 at ec
  have hr0 : ∀ b ∈ r0, b.toNat ≠ 33 := fun b hb => core_no h b (by rw [ec]; exact List.mem_cons_of_mem _ hb)
  have hrl : r0.length ≤ 1000 := by
    rw [← hr]; split
    · simp
    · have := ofT_len (o := o) (by unfold okF at h; omega) (by unfold okF at h; omega); omega
  have eT : fT k o m = c0 :: (r0 ++ (if m = true then [33] else [])) := by rw [fT_core, ec]; rfl
  have hlen : (fT k o m).length = 1 + (r0 ++ (if m = true then [33] else [])).length := by rw [eT]; simp; omega
  have b0 : bt (mkS (fT k o m)) 0 = (c0.toNat : Int) := by
    rw [show (0 : Int) = ((0 : Nat) : Int) from rfl, bt_mkS _ 0 (by omega)]; simp [eT]
  have ix : strings_IndexByte.f (⟨#[32, 110, 114, 115]⟩ : ByteArray) (bt (mkS (fT k o m)) 0) = some k := by
    rw [b0, ← hh]
    rcases hk with rfl | rfl | rfl <;> decide
  unfold impl_FieldRead.f
  rw [mkS_tl, mkS_size]
  refine EvP.neg (fT_ne k o m) (EvP.pos (by omega) (EvP.got ix (EvP.pos (by omega) (EvP.got (a := (mkS r0, m)) ?_ ?_))))
  · rw [mkS_cut, hlen, Nat.add_sub_cancel_left, eT, List.drop_succ_cons, List.drop_zero, List.take_length]
    exact cut_mark r0 hr0 hrl m
  · have j0 : ∀ b : Bool, (b = true ↔ k ≠ 1) → EvP (fun n => impl_FieldRead.j0 n (mkS (fT k o m)) (mkS r0) b k 0 m) (fun r => r = (k, o, m, true)) := by
      intro b hb
      refine EvP.next ?_
      simp only [impl_FieldRead.j0, mkS_tl]
      by_cases k1 : k = 1
      · have o0 : o = 0 := by unfold okF at h; omega
        subst o0
        refine EvP.neg (fun e => (hb.1 e) k1) (EvP.got (implField k 0 m) ?_)
        rw [mkS_tl]
        exact EvP.pos hT (EvP.now rfl)
      · have ho : -2 ≤ o ∧ o < 8 := by unfold okF at h; omega
        rw [if_neg k1] at hr
        subst hr
        refine EvP.pos (hb.2 k1) (EvP.got (implOfRead ho.1 (by omega)) (EvP.pos rfl (EvP.got (implField k o m) ?_)))
        rw [mkS_tl]
        exact EvP.pos hT (EvP.now rfl)
    refine EvP.ite (fun k2 => j0 true ⟨fun _ => by omega, fun _ => rfl⟩) (fun k2 => j0 _ ?_)
    rw [beq_iff_eq]; omega
theorem both_read (s : ByteArray) (hs : s.size ≤ 1000000000) : ∃ r, EvP (fun n => spec_FieldRead.f n s) (fun x => x = r) ∧ EvP (fun n => impl_FieldRead.f n s) (fun x => x = r) ∧ Told s.data.toList r := by
  by_cases c : ∃ k o m, okF k o ∧ fT k o m = s.data.toList
  · obtain ⟨k, o, m, h, e⟩ := c
    refine ⟨(k, o, m, true), ?_, ?_, Or.inr ⟨k, o, m, rfl, h, e⟩⟩
    · rw [eq_mkS s, ← e]; exact spec_ok m h
    · rw [eq_mkS s, ← e]; exact impl_ok m h
  · refine ⟨(0, 0, false, false), EvP.weak (spec_any s hs) (fun r hr => ?_), EvP.weak (impl_any s hs) (fun r hr => ?_), Or.inl rfl⟩
    · rcases hr with h | ⟨k, o, m, _, h⟩
      · exact h
      · exact absurd ⟨k, o, m, h⟩ c
    · rcases hr with h | ⟨k, o, m, _, h⟩
      · exact h
      · exact absurd ⟨k, o, m, h⟩ c
theorem xor_nonneg (x y : Int) (hx : 0 ≤ x) (hx1 : x < 4611686018427387904) (hy : 0 ≤ y) (hy1 : y < 4611686018427387904) : 0 ≤ Go.bits .xor .i64 x y := by
  obtain ⟨a, rfl⟩ := Int.eq_ofNat_of_zero_le hx
  obtain ⟨b, rfl⟩ := Int.eq_ofNat_of_zero_le hy
  have ha : a < 2 ^ 62 := by omega
  have hb : b < 2 ^ 62 := by omega
  have h := Nat.xor_lt_two_pow ha hb
  have ea : a % 2 ^ IntKind.i64.bits = a := Nat.mod_eq_of_lt (by show a < 2 ^ 64; omega)
  have eb : b % 2 ^ IntKind.i64.bits = b := Nat.mod_eq_of_lt (by show b < 2 ^ 64; omega)
  have e : Go.bits .xor .i64 (a : Int) (b : Int) = IntKind.i64.wrap (((a ^^^ b : Nat) : Nat) : Int) := by
    simp only [Go.bits, BitVec.ofInt_natCast, BitVec.toNat_xor, BitVec.toNat_ofNat, ea, eb]
  rw [e, IntKind.wrap_i64]
  omega
theorem rd_byte {b : List Int} (hb : ∀ x ∈ b, 0 ≤ x ∧ x ≤ 255) (i : Int) : 0 ≤ rd b i ∧ rd b i ≤ 255 := by
  unfold rd
  rw [List.getD_eq_getElem?_getD]
  cases h : b[i.toNat]? with
  | none => simp
  | some v => exact hb v (List.mem_of_getElem? h)
theorem pick_ev {b : List Int} (hb : ∀ x ∈ b, 0 ≤ x ∧ x ≤ 255) (hl : b.length ≤ 2000) (p n : Int) (hp : 0 ≤ p) (hp1 : p ≤ 1000000000) :
    ∃ v, Ev (fun k => spec_l14Rd_pick.f k b p n) (v, p + 1) ∧ 0 ≤ v ∧ (1 ≤ n → v < n) ∧ (n < 1 → v = 0) := by
  unfold spec_l14Rd_pick.f
  rw [w_id (x := p + 1) (by omega) (by omega)]
  by_cases hn : n < 1
  · refine ⟨0, Ev.pos hn (Ev.next ?_), by omega, fun h => by omega, fun _ => rfl⟩
    simp only [spec_l14Rd_pick.j0]
    exact Ev.pos trivial (Ev.now _)
  · suffices hs : ∃ v, Ev (fun k => spec_l14Rd_pick.j0 (k + 1) n ((b.length : Int) == 0) b (p + 1)) (v, p + 1) ∧ 0 ≤ v ∧ (1 ≤ n → v < n) ∧ (n < 1 → v = 0) by
      obtain ⟨v, h, r⟩ := hs
      exact ⟨v, Ev.neg hn (Ev.next h), r⟩
    have hm := fun x : Int => Int.tmod_nonneg (a := x) n
    have hm2 := fun x : Int => Int.tmod_lt_of_pos x (show 0 < n by omega)
    have ep : p + 1 - 1 = p := by omega
    simp only [spec_l14Rd_pick.j0, ep]
    by_cases h0 : (b.length : Int) = 0
    · exact ⟨0, Ev.pos (by simpa using h0) (Ev.now _), by omega, fun h => by omega, fun _ => rfl⟩
    · have e0 : ¬ ((((b.length : Int) == 0)) = true) := by simpa using h0
      rw [w_id (x := p) (by omega) (by omega)]
      by_cases hpl : p < (b.length : Int)
      · have r1 := rd_byte hb p
        refine ⟨_, Ev.neg e0 (Ev.pos hpl (Ev.pos hp (Ev.neg (by omega) (Ev.now _)))), ?_, fun _ => hm2 _, fun h => by omega⟩
        rw [w_id (by omega) (by omega)]
        exact hm _ r1.1
      · have hL : (0 : Int) < b.length := by omega
        have a0 : 0 ≤ Int.tmod p b.length := Int.tmod_nonneg _ hp
        have a1 := Int.tmod_lt_of_pos p hL
        rw [w_id (x := p * 7) (by omega) (by omega), w_id (x := p * 7 + 3) (by omega) (by omega)]
        have b0 : 0 ≤ Int.tmod (p * 7 + 3) b.length := Int.tmod_nonneg _ (by omega)
        have b1 := Int.tmod_lt_of_pos (p * 7 + 3) hL
        have r1 := rd_byte hb (Int.tmod p b.length)
        have r2 := rd_byte hb (Int.tmod (p * 7 + 3) b.length)
        have d0 : 0 ≤ Int.tdiv p b.length := Int.tdiv_nonneg hp (by omega)
        have d1 : Int.tdiv p b.length ≤ p := by rw [Int.tdiv_eq_ediv_of_nonneg hp]; exact Int.ediv_le_self _ hp
        generalize rd b (Int.tmod p b.length) = x at *
        generalize rd b (Int.tmod (p * 7 + 3) b.length) = y at *
        generalize Int.tdiv p b.length = d at *
        have e : wrap64 (wrap64 (wrap64 (wrap64 (wrap64 x * 131) + wrap64 (wrap64 y * 1117)) + wrap64 (p * 29)) + wrap64 (wrap64 d * 53)) = x * 131 + y * 1117 + p * 29 + d * 53 := by
          rw [w_id (x := x) (by omega) (by omega), w_id (x := y) (by omega) (by omega), w_id (x := d) (by omega) (by omega)]
          rw [w_id (x := x * 131) (by omega) (by omega), w_id (x := y * 1117) (by omega) (by omega), w_id (x := p * 29) (by omega) (by omega), w_id (x := d * 53) (by omega) (by omega)]
          rw [w_id (x := x * 131 + y * 1117) (by omega) (by omega), w_id (x := x * 131 + y * 1117 + p * 29) (by omega) (by omega), w_id (by omega) (by omega)]
        rw [e]
        have q0 : 0 ≤ Int.tdiv (x * 131 + y * 1117 + p * 29 + d * 53) 64 := Int.tdiv_nonneg (by omega) (by omega)
        have q1 : Int.tdiv (x * 131 + y * 1117 + p * 29 + d * 53) 64 ≤ x * 131 + y * 1117 + p * 29 + d * 53 := by rw [Int.tdiv_eq_ediv_of_nonneg (by omega)]; exact Int.ediv_le_self _ (by omega)
        rw [w_id (x := Int.tdiv _ 64) (by omega) (by omega)]
        refine ⟨_, Ev.neg e0 (Ev.neg hpl (Ev.neg h0 (Ev.pos a0 (Ev.pos a1 (Ev.pos b0 (Ev.pos b1 (Ev.neg (by omega) (Ev.now _)))))))), ?_, fun _ => hm2 _, fun h => by omega⟩
        exact hm _ (xor_nonneg _ _ (by omega) (by omega) q0 (by omega))
theorem open_ok {l : List Int} (hw : ∀ x ∈ l, (Lit.int .u8 x).wf = true) : ∃ b, spec_l14Open.f l = some (b, 0) ∧ (∀ x ∈ b, 0 ≤ x ∧ x ≤ 255) ∧ b.length ≤ 2000 := by
  have hx : ∀ x ∈ l, 0 ≤ x ∧ x ≤ 255 := fun x h => by simpa [Lit.wf, IntKind.min, IntKind.max, IntKind.signed, IntKind.bits] using hw x h
  unfold spec_l14Open.f
  by_cases h : (l.length : Int) > 2000
  · rw [if_pos h, if_pos (by omega)]
    exact ⟨_, rfl, fun x hm => hx x (List.mem_of_mem_take hm), by simp; omega⟩
  · rw [if_neg h]
    exact ⟨_, rfl, hx, by omega⟩
theorem num_ev {b : List Int} (hb : ∀ x ∈ b, 0 ≤ x ∧ x ≤ 255) (hl : b.length ≤ 2000) (p : Int) (hp : 0 ≤ p) (hp1 : p ≤ 1000000000) (l : List Int) (h0 : l ≠ []) :
    ∃ v, Ev (fun k => spec_l14Rd_num.f k b p l) (v, p + 1) ∧ v ∈ l := by
  have hlen : 0 < l.length := List.length_pos_iff.2 h0
  obtain ⟨v, h, v0, v1, _⟩ := pick_ev hb hl p (l.length : Int) hp hp1
  have hv := v1 (by omega)
  refine ⟨rd l v, ?_, ?_⟩
  · unfold spec_l14Rd_num.f
    refine h.bind ?_
    exact Ev.pos v0 (Ev.pos hv (Ev.now _))
  · unfold rd
    rw [List.getD_eq_getElem?_getD, List.getElem?_eq_getElem (by omega)]
    exact List.getElem_mem _
theorem pickP {b : List Int} (hb : ∀ x ∈ b, 0 ≤ x ∧ x ≤ 255) (hl : b.length ≤ 2000) (p n : Int) (hp : 0 ≤ p) (hp1 : p ≤ 1000000000) :
    EvP (fun k => spec_l14Rd_pick.f k b p n) (fun r => r.2 = p + 1 ∧ 0 ≤ r.1 ∧ (1 ≤ n → r.1 < n) ∧ (n < 1 → r.1 = 0)) := by
  obtain ⟨v, h, r⟩ := pick_ev hb hl p n hp hp1
  exact ⟨_, h, rfl, r⟩
theorem numP {b : List Int} (hb : ∀ x ∈ b, 0 ≤ x ∧ x ≤ 255) (hl : b.length ≤ 2000) (p : Int) (hp : 0 ≤ p) (hp1 : p ≤ 1000000000) (l : List Int) (h0 : l ≠ []) :
    EvP (fun k => spec_l14Rd_num.f k b p l) (fun r => r.2 = p + 1 ∧ r.1 ∈ l) := by
  obtain ⟨v, h, r⟩ := num_ev hb hl p hp hp1 l h0
  exact ⟨_, h, rfl, r⟩
theorem ofP {b : List Int} (hb : ∀ x ∈ b, 0 ≤ x ∧ x ≤ 255) (hl : b.length ≤ 2000) (p : Int) (hp : 0 ≤ p) (hp1 : p ≤ 1000000000) (l : List ByteArray) (h0 : l ≠ []) :
    EvP (fun k => spec_l14Rd_of.f k b p l) (fun r => r.2 = p + 1 ∧ r.1 ∈ l) := by
  have hlen : 0 < l.length := List.length_pos_iff.2 h0
  unfold spec_l14Rd_of.f
  refine EvP.bind (pickP hb hl p (l.length : Int) hp hp1) (fun r hr => ?_)
  obtain ⟨r1, r2, r3, _⟩ := hr
  have r3' := r3 (by omega)
  refine EvP.pos r2 (EvP.pos r3' (EvP.now ⟨r1, ?_⟩))
  show rdOf ByteArray.empty l r.1 ∈ l
  unfold rdOf
  rw [List.getD_eq_getElem?_getD, List.getElem?_eq_getElem (by omega)]
  exact List.getElem_mem _
theorem l1Field_ev {b : List Int} (hb : ∀ x ∈ b, 0 ≤ x ∧ x ≤ 255) (hl : b.length ≤ 2000) (p : Int) (hp : 0 ≤ p) (hp1 : p ≤ 900000000) (n : Int) (hn : -1 ≤ n) (hn1 : n ≤ 1000000) :
    ∃ K O M q, Ev (fun k => spec_l1Field.f k b p n) (K, O, M, q) ∧ p ≤ q ∧ q ≤ p + 3 ∧ (K = 1 ∨ K = 2 ∨ K = 3) ∧ (K = 1 → O = 0) ∧ -2 ≤ O ∧ (O < n ∨ O = 0) := by
  obtain ⟨v, h1, hv⟩ := num_ev hb hl p hp (by omega) [1, 2, 2, 3, 1, 2] (by simp)
  obtain ⟨x, h2, _⟩ := pick_ev hb hl (p + 1) 2 (by omega) (by omega)
  obtain ⟨y, h3, y0, y1, y2⟩ := pick_ev hb hl (p + 1 + 1) (n + 2) (by omega) (by omega)
  unfold spec_l1Field.f
  by_cases hv1 : v = 1
  · refine ⟨v, 0, _, p + 1 + 1, h1.bind (h2.bind (Ev.pos hv1 (Ev.now _))), by omega, by omega, by omega, fun _ => rfl, by omega, by omega⟩
  · have hy := y1 (by omega)
    refine ⟨v, y - 2, x == 0, p + 1 + 1 + 1, h1.bind (h2.bind (Ev.neg hv1 ?_)), by omega, by omega, by simp at hv; omega, fun h => absurd h hv1, by omega, by omega⟩
    rw [w_id (x := n + 2) (by omega) (by omega)]
    refine h3.bind (Ev.some_ ?_)
    rw [w_id (by omega) (by omega)]
theorem drawFieldOk_ev {l : List Int} (hw : ∀ x ∈ l, (Lit.int .u8 x).wf = true) : ∃ K O M N, Ev (fun k => spec_DrawFieldOk.f k l) (K, O, M, N) ∧ 0 ≤ N ∧ N ≤ 5 := by
  obtain ⟨b, ho, hb, hl⟩ := open_ok hw
  unfold spec_DrawFieldOk.f
  obtain ⟨n, h1, n0, n1, _⟩ := pick_ev hb hl 0 6 (by omega) (by omega)
  have n2 := n1 (by omega)
  obtain ⟨K, O, M, q, h2, q0, q1, hK, _, hO, hO1⟩ := l1Field_ev hb hl (0 + 1) (by omega) (by omega) (n + 1) (by omega) (by omega)
  obtain ⟨x, h3, x0, x1, _⟩ := pick_ev hb hl q 9 (by omega) (by omega)
  obtain ⟨y, h4, y0, y1, _⟩ := pick_ev hb hl (q + 1) 6 (by omega) (by omega)
  by_cases a : x = 0
  · exact ⟨_, _, _, n, Ev.got ho (h1.bind (by rw [w_id (x := n + 1) (by omega) (by omega)]; exact h2.bind (h3.bind (Ev.pos a (h4.bind (Ev.now _)))))), n0, by omega⟩
  · by_cases c : x = 1
    · exact ⟨_, _, _, n, Ev.got ho (h1.bind (by rw [w_id (x := n + 1) (by omega) (by omega)]; exact h2.bind (h3.bind (Ev.neg a (Ev.pos c (h4.bind (Ev.now _))))))), n0, by omega⟩
    · exact ⟨_, _, _, n, Ev.got ho (h1.bind (by rw [w_id (x := n + 1) (by omega) (by omega)]; exact h2.bind (h3.bind (Ev.neg a (Ev.neg c (Ev.now _)))))), n0, by omega⟩
theorem last_mark {k o : Int} (m : Bool) (h : okF k o) : bt (mkS (fT k o m)) (((fT k o m).length : Int) - 1) = 33 ↔ m = true := by
  have hcl : 0 < (core k o).length := List.length_pos_iff.2 (core_ne k o)
  cases m with
  | true =>
    have el : (fT k o true).length = (core k o).length + 1 := by rw [fT_core]; simp
    rw [el, show (((core k o).length + 1 : Nat) : Int) - 1 = ((core k o).length : Int) by omega, bt_mkS _ _ (by omega)]
    simp [fT_core]
  | false =>
    have et : fT k o false = core k o := by rw [fT_core]; simp
    rw [et, show ((core k o).length : Int) - 1 = (((core k o).length - 1 : Nat) : Int) by omega, bt_mkS _ _ (by omega)]
    have := core_no h _ (List.getElem_mem (l := core k o) (n := (core k o).length - 1) (by omega))
    constructor
    · intro e; omega
    · intro e; cases e
theorem fT_len {k o : Int} (m : Bool) (h : okF k o) : (fT k o m).length ≤ 23 := by
  have hco : (core k o).length ≤ 22 := by
    unfold core; split
    · simp
    · have := ofT_len (o := o) (by unfold okF at h; omega) (by unfold okF at h; omega); simp; omega
  rw [fT_core]; cases m <;> simp <;> omega
theorem fieldT_len (k o : Int) (m : Bool) : (fieldT k o m).length ≤ 23 := by
  unfold fieldT; split
  · exact fT_len m (by assumption)
  · simp
theorem drawText (l : List Int) (hw : ∀ x ∈ l, (Lit.int .u8 x).wf = true) : EvP (fun k => spec_DrawFieldRead.f k l) (fun s => s.size ≤ 100) := by
  obtain ⟨b, ho, hb, hl⟩ := open_ok hw
  unfold spec_DrawFieldRead.f
  obtain ⟨K, O, M, q, h2, q0, q1, hK, _, hO, hO1⟩ := l1Field_ev hb hl 0 (by omega) (by omega) 8 (by omega) (by omega)
  refine EvP.got ho (EvP.bind (EvP.of h2 rfl) (fun r hr => ?_))
  subst hr
  refine EvP.bind (EvP.of (specField K O M) rfl) (fun t ht => ?_)
  subst ht
  have hfl := fieldT_len K O M
  have j0 : ∀ (x : Bool) (p : Int), 0 ≤ p → p ≤ 1000 → (x = false → 0 < (fieldT K O M).length) → EvP (fun k => spec_DrawFieldRead.j0 k (mkS (fieldT K O M)) x b p) (fun s => s.size ≤ 100) := by
    intro x p hp hp1 hx
    refine EvP.next ?_
    simp only [spec_DrawFieldRead.j0, mkS_size]
    refine EvP.ite (fun _ => EvP.now (by show (mkS (fieldT K O M)).size ≤ 100; rw [mkS_size]; omega)) (fun c => ?_)
    have hx' := hx (by cases x <;> simp_all)
    refine EvP.bind (pickP hb hl p _ hp (by omega)) (fun r hr => ?_)
    obtain ⟨r1, r2, r3, _⟩ := hr
    have r3' := r3 (by omega)
    refine EvP.pos r2 (EvP.pos (by omega) (EvP.bind (ofP hb hl r.2 (by omega) (by omega) _ (by simp)) (fun t ht => ?_)))
    obtain ⟨t1, t2⟩ := ht
    have t3 : t.1.size ≤ 3 := by
      simp only [List.mem_cons, List.not_mem_nil, or_false] at t2
      rcases t2 with h | h | h | h | h | h | h | h <;> rw [h] <;> decide
    have e1 : ((mkS (fieldT K O M)).extract 0 (r.1 : Int).toNat).size ≤ 23 := by rw [ByteArray.size_extract, mkS_size]; omega
    refine EvP.pos (by omega) (EvP.bind (pickP hb hl t.2 2 (by omega) (by omega)) (fun v hv => ?_))
    obtain ⟨v1, v2, v3, _⟩ := hv
    have v3' := v3 (by omega)
    rw [w_id (x := r.1 + v.1) (by omega) (by omega)]
    have e2 : ((mkS (fieldT K O M)).extract (r.1 + v.1).toNat (fieldT K O M).length).size ≤ 23 := by rw [ByteArray.size_extract, mkS_size]; omega
    have e3 : (((mkS (fieldT K O M)).extract 0 (r.1 : Int).toNat) ++ t.1).size ≤ 26 := by rw [ByteArray.size_append]; omega
    refine EvP.pos (by omega) (EvP.pos (by omega) (EvP.pos (by omega) (EvP.now ?_)))
    show (_ ++ _ : ByteArray).size ≤ 100
    rw [ByteArray.size_append]; omega
  rw [mkS_size]
  refine EvP.ite (fun _ => j0 true q (by omega) (by omega) (fun h => by cases h)) (fun c => EvP.bind (pickP hb hl q 2 (by omega) (by omega)) (fun r hr => ?_))
  obtain ⟨r1, r2, r3, _⟩ := hr
  exact j0 _ _ (by omega) (by omega) (fun _ => by omega)
theorem FnField : laws_FnField.Pure := by
  intro l0 l1 _ _ h0 _ _ h1
  suffices h : EvP (fun k => laws_FnField.f k l0 l1) (fun r => r = true) by
    obtain ⟨r, hr, rfl⟩ := h
    exact Ev.rounds hr
  have j2 : EvP (fun k => laws_FnField.j2 k l1 false) (fun r => r = true) := by
    refine EvP.next ?_
    simp only [laws_FnField.j2]
    refine EvP.neg (by simp) (EvP.bind (drawText l1 h1) (fun s hs => ?_))
    obtain ⟨r, e1, e2, e3⟩ := both_read s (by omega)
    refine EvP.bind e2 (fun a ha => EvP.bind e1 (fun b hb => ?_))
    rw [ha, hb]
    refine EvP.pos (by simp) (EvP.ite (fun c => ?_) (fun _ => EvP.now rfl))
    rcases e3 with e3 | ⟨k, o, m, e3, h, e⟩
    · rw [e3] at c; simp at c
    · rw [e3]
      refine EvP.got (implField k o m) (EvP.now ?_)
      rw [mkS_tl, fieldT_ok h, e, Lib.toList_data]
      simp
  have j1 : ∀ (s : ByteArray) (K O : Int) (M : Bool) (b : Bool), (b = true → okF K O ∧ s = mkS (fT K O M)) → EvP (fun k => laws_FnField.j1 k l1 s b false K O M) (fun r => r = true) := by
    intro s K O M b hb
    refine EvP.next ?_
    simp only [laws_FnField.j1]
    refine EvP.neg (by simp) (EvP.ite (fun c => ?_) (fun _ => j2))
    obtain ⟨h, rfl⟩ := hb c
    have hl := fT_len M h
    have hp : 0 < (fT K O M).length := List.length_pos_iff.2 (fT_ne K O M)
    rw [mkS_size, w_id (by omega) (by omega)]
    refine EvP.pos (by omega) (EvP.pos (by omega) ?_)
    have e : (bt (mkS (fT K O M)) (((fT K O M).length : Int) - 1) == 33) = M := by
      rw [Bool.eq_iff_iff, beq_iff_eq]; exact last_mark M h
    rw [e]
    cases M <;> exact j2
  have j0 : ∀ b : Bool, EvP (fun k => laws_FnField.j0 k l0 l1 b) (fun r => r = true) := by
    intro b
    refine EvP.next ?_
    simp only [laws_FnField.j0]
    refine EvP.ite (fun _ => EvP.now rfl) (fun _ => ?_)
    obtain ⟨K, O, M, N, hd, _, _⟩ := drawFieldOk_ev h0
    have hd' : EvP (fun k => spec_DrawFieldText.f k l0) (fun r => r = (K, O, M)) := by
      unfold spec_DrawFieldText.f
      exact EvP.bind (EvP.of hd rfl) (fun r hr => by subst hr; exact EvP.now rfl)
    refine EvP.bind hd' (fun r hr => ?_)
    subst hr
    refine EvP.got (implField K O M) ?_
    have ok : impl_FieldOk.f K O M 8 = some (decide (okF K O)) := by
      unfold impl_FieldOk.f
      rw [show impl_fieldOk.f K O M 8 = some (decide (okF K O)) from implFieldOk K O M]; rfl
    by_cases h : okF K O
    · rw [fieldT_ok h]
      refine EvP.bind (impl_ok M h) (fun r hr => ?_)
      subst hr
      refine EvP.bind (EvP.of (specField K O M) rfl) (fun t ht => ?_)
      subst ht
      rw [fieldT_ok h]
      refine EvP.pos rfl (EvP.got ok (EvP.neg (by simp [h]) (EvP.pos rfl ?_)))
      simp only [beq_self_eq_true, Bool.not_true, Bool.or_self]
      exact j1 _ K O M true (fun _ => ⟨h, rfl⟩)
    · have e0 : fieldT K O M = [] := if_neg h
      rw [e0]
      obtain ⟨r, _, e2, e3⟩ := both_read (mkS []) (by rw [mkS_size]; simp)
      have hr : r = (0, 0, false, false) := by
        rcases e3 with e3 | ⟨k, o, m, _, _, e⟩
        · exact e3
        · rw [mkS_toList] at e; exact absurd e (fT_ne k o m)
      refine EvP.bind e2 (fun a ha => ?_)
      rw [ha, hr]
      refine EvP.bind (EvP.of (specField K O M) rfl) (fun t ht => ?_)
      subst ht
      rw [e0]
      refine EvP.pos rfl (EvP.got ok (EvP.neg (by simp [h]) (EvP.neg (by simp) ?_)))
      exact j1 _ K O M false (fun e => by cases e)
  unfold laws_FnField.f
  exact EvP.ite (fun _ => j0 _) (fun _ => j0 _)
end Go.Proofs.YthomfkdoaembbaaDoor.Pure
