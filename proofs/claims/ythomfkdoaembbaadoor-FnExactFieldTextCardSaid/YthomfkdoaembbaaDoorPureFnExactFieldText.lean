/- Proved: the law FnExactFieldText answers true: the program's FieldText writes what the reference's writes, for all fields. No condition. -/
import Derived.Test.YthomfkdoaembbaaDoorPFnExactFieldTextx1
import Derived.Lib.ItoaLen
namespace Go.Proofs.YthomfkdoaembbaaDoor.Pure
open Go.RowKit Go.Proofs.YthomfkdoaembbaaDoor.PFnExactFieldText Go.Proofs.YthomfkdoaembbaaDoorW.PrintWords Go.Proofs.YthomfkdoaembbaaDoorW.PrintLast
theorem w_id {x : Int} (h0 : -9223372036854775808 ≤ x) (h1 : x ≤ 9223372036854775807) : wrap64 x = x := by unfold wrap64; omega
theorem Ev.pos {α : Type} {c : Prop} [Decidable c] {f g : Nat → Option α} {r : α} (h : c) (k : Ev f r) : Ev (fun n => if c then f n else g n) r := Ev.congr (fun _ => if_pos h) k
theorem Ev.neg {α : Type} {c : Prop} [Decidable c] {f g : Nat → Option α} {r : α} (h : ¬ c) (k : Ev g r) : Ev (fun n => if c then f n else g n) r := Ev.congr (fun _ => if_neg h) k
theorem Ev.ite {α : Type} {c : Prop} [Decidable c] {f g : Nat → Option α} {r : α} (h : c → Ev f r) (k : ¬ c → Ev g r) : Ev (fun n => if c then f n else g n) r := by
  by_cases hc : c
  · exact Ev.pos hc (h hc)
  · exact Ev.neg hc (k hc)
theorem Ev.got {α β : Type} {o : Option α} {f : Nat → α → Option β} {a : α} {r : β} (h : o = some a) (k : Ev (fun n => f n a) r) : Ev (fun n => o.bind (f n)) r := Ev.congr (fun _ => by rw [h]; rfl) k
theorem Ev.next {α : Type} {g : Nat → Option α} {r : α} (k : Ev (fun n => g (n + 1)) r) : Ev g r := Ev.step (fun _ => rfl) k
theorem Ev.some_ {α : Type} {a r : α} (h : a = r) : Ev (fun _ => some a) r := ⟨0, fun _ _ => by rw [h]⟩
theorem Ev.ex_ite {α : Type} {c : Prop} [Decidable c] {f g : Nat → Option α} {P : α → Prop} (h : c → ∃ r, Ev f r ∧ P r) (k : ¬ c → ∃ r, Ev g r ∧ P r) : ∃ r, Ev (fun n => if c then f n else g n) r ∧ P r := by
  by_cases hc : c
  · obtain ⟨r, a, b⟩ := h hc
    exact ⟨r, Ev.pos hc a, b⟩
  · obtain ⟨r, a, b⟩ := k hc
    exact ⟨r, Ev.neg hc a, b⟩
/-- A text out of its bytes. -/
def mkS (l : List UInt8) : ByteArray := ⟨l.toArray⟩
theorem mkS_size (l : List UInt8) : (mkS l).size = l.length := by simp [mkS, ByteArray.size]
theorem mkS_append (l m : List UInt8) : mkS l ++ mkS m = mkS (l ++ m) := by
  apply ByteArray.ext; simp [mkS, ByteArray.data_append]
theorem mkS_toList (l : List UInt8) : (mkS l).data.toList = l := by simp [mkS]
theorem dg_eq (x : Int) (h0 : 0 ≤ x) (h1 : x < 10) : strOfNums [(wrap64 (48 + x)) % 256] = mkS [UInt8.ofNat (48 + x.toNat)] := by
  rw [w_id (by omega) (by omega)]
  unfold strOfNums mkS
  simp only [List.map_cons, List.map_nil]
  rw [show ((48 + x) % 256).toNat = 48 + x.toNat by omega]
theorem dec_len (u : Nat) (h : u < 18446744073709551616) : (Lib.decDigits u).length ≤ 20 := by
  rw [Lib.decDigits_length]; exact Lib.nDigits_le20 u h
theorem dec_loop : ∀ (u : Nat) (acc : List UInt8), u ≤ 9223372036854775807 → acc.length + (Lib.decDigits u).length ≤ 9223372036854775807 →
    Ev (fun k => spec_l14Dec.l0 k (u : Int) (mkS acc)) (mkS (Lib.decDigits u ++ acc)) := by
  intro u
  induction u using Nat.strongRecOn with
  | _ u ih =>
    intro acc hu hl
    refine Ev.next ?_
    simp only [spec_l14Dec.l0]
    have tm : Int.tmod (u : Int) 10 = ((u % 10 : Nat) : Int) := rfl
    have td : Int.tdiv (u : Int) 10 = ((u / 10 : Nat) : Int) := rfl
    by_cases h : u < 10
    · rw [Lib.decDigits, dif_pos h] at hl ⊢
      simp at hl
      refine Ev.neg (by omega) (Ev.got rfl ?_)
      rw [dg_eq (u : Int) (by omega) (by omega), mkS_append, mkS_size, mkS_size]
      refine Ev.pos (by simp; omega) (Ev.some_ ?_)
      simp
    · rw [Lib.decDigits, dif_neg h] at hl ⊢
      simp at hl
      refine Ev.pos (by omega) (Ev.got rfl ?_)
      rw [tm, td, dg_eq ((u % 10 : Nat) : Int) (by omega) (by omega), Int.toNat_natCast, mkS_append, mkS_size, mkS_size, w_id (x := ((u / 10 : Nat) : Int)) (by omega) (by omega)]
      refine Ev.pos (by simp; omega) ?_
      have := ih (u / 10) (by omega) (UInt8.ofNat (48 + u % 10) :: acc) (by omega) (by simp; omega)
      simpa using this
theorem dec_nonneg (u : Nat) (hu : u ≤ 9223372036854775807) : Ev (fun k => spec_l14Dec.f k (u : Int)) (mkS (Lib.decDigits u)) := by
  refine Ev.next ?_
  simp only [spec_l14Dec.f]
  refine Ev.neg (by omega) (Ev.neg (by omega) ?_)
  have := dec_loop u [] hu (by have := dec_len u (by omega); simp; omega)
  rw [List.append_nil] at this
  exact this
theorem dec_low : Lib.decDigits 9223372036854775808 = [57, 50, 50, 51, 51, 55, 50, 48, 51, 54, 56, 53, 52, 55, 55, 53, 56, 48, 56] := by
  rw [Lib.decDigits_eq, Lib.nDigits_unique 18 9223372036854775808 (by decide) (by decide)]
  decide +kernel
/-- l14Dec is the numeral. -/
theorem dec_ev (n : Int) (h0 : -9223372036854775808 ≤ n) (h1 : n ≤ 9223372036854775807) : Ev (fun k => spec_l14Dec.f k n) (mkS (Lib.itoa n)) := by
  by_cases hn : n < 0
  · refine Ev.next ?_
    simp only [spec_l14Dec.f]
    unfold Lib.itoa
    rw [if_pos hn]
    refine Ev.ite (fun h => ?_) (fun h => Ev.pos hn ?_)
    · obtain rfl : n = -9223372036854775808 := by omega
      rw [show (-9223372036854775808 : Int).natAbs = 9223372036854775808 from rfl, dec_low]
      exact Ev.some_ rfl
    · rw [w_id (x := -n) (by omega) (by omega)]
      have e : -n = ((n.natAbs : Nat) : Int) := by omega
      rw [e]
      refine (dec_nonneg n.natAbs (by omega)).bind ?_
      have := dec_len n.natAbs (by omega)
      rw [mkS_size]
      refine Ev.pos (by omega) (Ev.some_ ?_)
      exact mkS_append [45] _
  · obtain ⟨u, rfl⟩ : ∃ u : Nat, n = (u : Int) := ⟨n.toNat, by omega⟩
    unfold Lib.itoa
    rw [if_neg hn, Int.toNat_natCast]
    exact dec_nonneg u (by omega)
theorem itoa_len {n : Int} (h0 : -9223372036854775808 ≤ n) (h1 : n ≤ 9223372036854775807) : (Lib.itoa n).length ≤ 21 := by
  unfold Lib.itoa
  split
  · have := dec_len n.natAbs (by omega); simp; omega
  · have := dec_len n.toNat (by omega); omega
theorem dec_ge (u : Nat) : ∀ b ∈ Lib.decDigits u, 48 ≤ b.toNat ∧ b.toNat ≤ 57 := by
  induction u using Nat.strongRecOn with
  | _ u ih =>
    intro b hb
    rw [Lib.decDigits] at hb
    split at hb
    · simp only [List.mem_singleton] at hb
      subst hb
      rw [UInt8.toNat_ofNat']; omega
    · rw [List.mem_append, List.mem_singleton] at hb
      rcases hb with hb | rfl
      · exact ih (u / 10) (by omega) b hb
      · rw [UInt8.toNat_ofNat']; omega
/-- The text of what a reference is to. -/
def ofT (o : Int) : List UInt8 := if o = -1 then [97, 110, 121] else if o = -2 then [99, 104, 105, 112] else Lib.itoa o
/-- Is a field right among eight types? -/
def okF (k o : Int) : Prop := (k = 1 ∧ o = 0) ∨ ((k = 2 ∨ k = 3) ∧ -2 ≤ o ∧ o < 8)
instance (k o : Int) : Decidable (okF k o) := by unfold okF; infer_instance
/-- The text of a right field. -/
def fT (k o : Int) (m : Bool) : List UInt8 := (if k = 1 then [110] else (if k = 2 then 114 else 115) :: ofT o) ++ (if m = true then [33] else [])
/-- The text of a field. -/
def fieldT (k o : Int) (m : Bool) : List UInt8 := if okF k o then fT k o m else []
theorem ofT_len {o : Int} (h0 : -2 ≤ o) (h1 : o < 8) : (ofT o).length ≤ 21 := by
  have := itoa_len (n := o) (by omega) (by omega)
  unfold ofT; repeat' split
  all_goals simp; try omega
theorem implOf {o : Int} (h0 : -2 ≤ o) (h1 : o < 8) : PFld.impl_ofText.f o = some (mkS (ofT o)) := by
  unfold PFld.impl_ofText.f ofT
  by_cases a : o = -1
  · rw [if_pos a, if_pos a]; rfl
  · rw [if_neg a, if_neg a]
    by_cases b : o = -2
    · rw [if_pos b, if_pos b]; rfl
    · rw [if_neg b, if_neg b]
      unfold PFld.strconv_Itoa.f
      rw [if_pos ⟨by omega, by omega⟩]; rfl
theorem specOf {o : Int} (h0 : -2 ≤ o) (h1 : o < 8) : Ev (fun k => spec_l2Of.f k o) (mkS (ofT o)) := by
  unfold spec_l2Of.f ofT
  by_cases a : o = -1
  · rw [if_pos a]; exact Ev.pos a (Ev.some_ rfl)
  · rw [if_neg a]
    refine Ev.neg a ?_
    by_cases b : o = -2
    · rw [if_pos b]; exact Ev.pos b (Ev.some_ rfl)
    · rw [if_neg b]
      exact Ev.neg b ((dec_ev o (by omega) (by omega)).bind (Ev.now _))
theorem implFieldOk (k o : Int) (m : Bool) : PFld.impl_fieldOk.f k o m 8 = some (decide (okF k o)) := by
  unfold PFld.impl_fieldOk.f okF
  by_cases a : k = 1
  · rw [if_pos a]; congr 1; subst a; by_cases h : o = 0 <;> simp [h]
  · rw [if_neg a]
    by_cases b : k = 2
    · subst b; rw [if_pos rfl]
      by_cases c : o ≥ -2
      · rw [if_pos c]; congr 1; by_cases h : o < 8 <;> simp [h]; omega
      · rw [if_neg c]; simp; omega
    · rw [if_neg b]
      by_cases d : k = 3
      · subst d; rw [if_pos rfl]
        by_cases c : o ≥ -2
        · rw [if_pos c]; congr 1; by_cases h : o < 8 <;> simp [h]; omega
        · rw [if_neg c]; simp; omega
      · rw [if_neg d]; simp [a, b, d]
theorem implField (k o : Int) (m : Bool) : HField.fieldText k o m = some (mkS (fieldT k o m)) := by
  unfold HField.fieldText fieldT
  rw [implFieldOk]
  simp only [Option.bind_some]
  by_cases h : okF k o
  · rw [if_pos (by simpa using h), if_pos h]
    unfold fT
    by_cases a : k = 1
    · rw [if_pos a, if_pos a]
      cases m <;> rfl
    · rw [if_neg a, if_neg a]
      have hr : (k = 2 ∨ k = 3) ∧ -2 ≤ o ∧ o < 8 := by unfold okF at h; omega
      have hl := ofT_len hr.2.1 hr.2.2
      rw [implOf hr.2.1 hr.2.2]
      simp only [Option.bind_some]
      rw [if_pos (by rw [mkS_size]; omega)]
      by_cases b : k = 2
      · rw [if_pos b, if_pos b]
        cases m
        · simp [mkS, ByteArray.ext_iff, ByteArray.data_append]
        · simp [mkS, ByteArray.ext_iff, ByteArray.data_append]
      · rw [if_neg b, if_neg b, if_pos (by omega)]
        cases m
        · simp [mkS, ByteArray.ext_iff, ByteArray.data_append]
        · simp [mkS, ByteArray.ext_iff, ByteArray.data_append]
  · rw [if_neg (by simpa using h), if_neg h]; rfl
theorem specFieldOk (k o : Int) (m : Bool) : spec_FieldOk.f k o m 8 = some (decide (okF k o)) := implFieldOk k o m
theorem specField (k o : Int) (m : Bool) : Ev (fun n => spec_FieldText.f n k o m) (mkS (fieldT k o m)) := by
  unfold spec_FieldText.f fieldT
  refine Ev.got (specFieldOk k o m) ?_
  by_cases h : okF k o
  · rw [if_pos h]
    refine Ev.pos (by simpa using h) ?_
    unfold fT
    by_cases a : k = 1
    · rw [if_pos a]
      refine Ev.neg (by omega) (Ev.neg (by omega) ?_)
      cases m
      · exact Ev.neg (by simp) (Ev.some_ rfl)
      · exact Ev.pos rfl (Ev.pos (by decide) (Ev.some_ rfl))
    · rw [if_neg a]
      have hr : (k = 2 ∨ k = 3) ∧ -2 ≤ o ∧ o < 8 := by unfold okF at h; omega
      have hl := ofT_len hr.2.1 hr.2.2
      by_cases b : k = 2
      · rw [if_pos b]
        refine Ev.pos b ((specOf hr.2.1 hr.2.2).bind ?_)
        rw [mkS_size, show (⟨#[114]⟩ : ByteArray) = mkS [114] from rfl, mkS_append, mkS_size]
        refine Ev.pos (by omega) ?_
        cases m
        · exact Ev.neg (by simp) (Ev.some_ (by simp))
        · exact Ev.pos rfl (Ev.pos (by simp; omega) (Ev.some_ (by rw [show (⟨#[33]⟩ : ByteArray) = mkS [33] from rfl, mkS_append]; simp)))
      · rw [if_neg b]
        refine Ev.neg b (Ev.pos (by omega) ((specOf hr.2.1 hr.2.2).bind ?_))
        rw [mkS_size, show (⟨#[115]⟩ : ByteArray) = mkS [115] from rfl, mkS_append, mkS_size]
        refine Ev.pos (by omega) ?_
        cases m
        · exact Ev.neg (by simp) (Ev.some_ (by simp))
        · exact Ev.pos rfl (Ev.pos (by simp; omega) (Ev.some_ (by rw [show (⟨#[33]⟩ : ByteArray) = mkS [33] from rfl, mkS_append]; simp)))
  · rw [if_neg h]
    exact Ev.neg (by simpa using h) (Ev.some_ rfl)
theorem FnExactFieldText : laws_FnExactFieldText.Pure := by
  intro k o m _ _
  apply Ev.rounds
  unfold laws_FnExactFieldText.f
  exact Ev.got rfl ((specField k o m).bind (Ev.got rfl (Ev.got (implField k o m) (Ev.pos rfl (Ev.now _)))))
end Go.Proofs.YthomfkdoaembbaaDoor.Pure
