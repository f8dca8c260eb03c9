/- The program's natural, walked: a decimal number's digits. Condition: the library's table lies in the world. -/
import Derived.Test.YthomfkdoaembbaaDoorHTab
import Derived.Test.YthomfkdoaembbaaDoorAid
import Derived.Laws.RangeAny
import Derived.Deep.QuietTactic
import Derived.BigQuiet
import Derived.Outline
import Derived.WalkMore
import Derived.Deep.RegionHeld3
namespace Go.Proofs.YthomfkdoaembbaaDoor.HNat
open Go.RowKit Go.Proofs.YthomfkdoaembbaaDoorW.PrintWords Go.Proofs.YthomfkdoaembbaaDoorW.PrintLast Go.Proofs.YthomfkdoaembbaaDoorW.PrintMore
set_option linter.unusedVariables false
def isDig (b : UInt8) : Prop := 48 ≤ b.toNat ∧ b.toNat ≤ 57
instance (b : UInt8) : Decidable (isDig b) := by unfold isDig; infer_instance
/-- The digits, one after the other: 'none' when there are too many. -/
def natGo : List UInt8 → Nat → Int → Option Int
  | [], _, n => some n
  | b :: l, pos, n => if pos > 16 then none else if isDig b then natGo l (pos + 1) (10 * n + ((b.toNat : Int) - 48)) else some (-1)
/-- What natural comes to. -/
def nat (s : ByteArray) : Int × Bool := match natGo s.data.toList 0 0 with
  | none => (0, false)
  | some n => (n, !s.toList.isEmpty && (decide (0 ≤ n) && (Lib.itoa n == s.toList)))
theorem byteArray_eq {a b : ByteArray} (h : (a == b) = true) : a = b := by
  cases a; cases b
  have h' : (_ == _) = true := h
  exact congrArg ByteArray.mk (eq_of_beq h')
theorem drop_at (s : ByteArray) (p : Nat) (h : p < s.size) : s.data.toList.drop p = s[p] :: s.data.toList.drop (p + 1) := by
  rw [List.drop_eq_getElem_cons (by simpa using h)]
  rfl
theorem drop_end (s : ByteArray) (p : Nat) (h : ¬ p < s.size) : s.data.toList.drop p = [] := by
  have : s.data.toList.length = s.size := Array.length_toList
  exact List.drop_eq_nil_of_le (by omega)
set_option maxRecDepth 1000000 in
set_option maxHeartbeats 4000000 in
theorem walk (s : ByteArray) (w : World) (hT : Tab w) : Calls Tryd.prog 56 #[.string s] w fun e w' => e = .returned (.tuple #[.int .i64 (nat s).1, .bool (nat s).2]) ∧ Below w.heap.size w w' := by
  go_enter Tryd.func56, Tryd.ntmps56
  go_wp2
  go_step3
  go_wp2
  go_step3
  go_wp2
  go_loopw [4] (fun n w' => ∃ (pos : Nat) (acc : Int), w' = w.iter s pos ∧ n = .int .i64 acc ∧ Aside0 (natGo (s.data.toList.drop pos) pos acc = natGo s.data.toList 0 0) ∧ Aside0 (0 ≤ acc ∧ acc < ((10 ^ pos : Nat) : Int) ∧ pos ≤ 17 ∧ pos ≤ s.size)) (fun _ w' => s.size - w'.iterPos w.heap.size)
  case atStart => exact ⟨0, 0, rfl, rfl, ⟨rfl⟩, ⟨by omega⟩⟩
  case round =>
    obtain ⟨pos, acc, rfl, rfl, hc, hb⟩ := hrel
    by_cases hp : pos < s.size
    · have hne0 : ¬ s = ⟨#[]⟩ := fun e => by subst e; exact absurd hp (Nat.not_lt_zero _)
      have hne : (s == (⟨#[]⟩ : ByteArray)) = false := by
        cases h : s == (⟨#[]⟩ : ByteArray) with
        | false => rfl
        | true => exact absurd (byteArray_eq h) hne0
      have hne2 : (s != (⟨#[]⟩ : ByteArray)) = true := by rw [bne, hne]; rfl
      have hnl : s.data.toList ≠ [] := fun e => by
        have : s.data.toList.length = s.size := Array.length_toList
        rw [e] at this; simp at this; omega
      have hcc := hc.out
      rw [drop_at s pos hp] at hcc
      simp only [natGo] at hcc
      by_cases h16 : 16 < pos
      · have hfin : nat s = (0, false) := by unfold nat; rw [← hcc, if_pos h16]
        have HF := Aside0.mk hfin
        clear hcc hfin
        have hnx : ∀ ty, (Instr.next (.pointer (some ⟨w.heap.size, 0, none⟩)) true ty).run Tryd.prog (w.iter s pos) = _ := fun ty => run_next_any w s pos ty hp
        have h16a : decide ((pos : Int) > 16) = true := decide_eq_true (by omega)
        have h16b : decide ((16 : Int) < (pos : Int)) = true := decide_eq_true (by omega)
        go_wp2
        rw [Exit.noGoto_ret]
        go_ret2
        exact ⟨by rw [HF.out]; rfl, below_alloc (Below.refl _ _) _⟩
      · rw [if_neg (by omega)] at hcc
        have h16a : decide ((pos : Int) > 16) = false := decide_eq_false (by omega)
        have h16b : decide ((16 : Int) < (pos : Int)) = false := decide_eq_false (by omega)
        by_cases hd : isDig s[pos]
        · rw [if_pos hd] at hcc
          have hnx : ∀ ty, (Instr.next (.pointer (some ⟨w.heap.size, 0, none⟩)) true ty).run Tryd.prog (w.iter s pos) = _ := fun ty => run_next_ascii w s pos ty hp (by have := hd.2; omega)
          have HC := Aside0.mk hcc
          have d0 : (48 : Int) ≤ ((s[pos]'hp).toNat : Int) := by have := hd.1; omega
          have d1 : ((s[pos]'hp).toNat : Int) ≤ 57 := by have := hd.2; omega
          clear hcc
          go_wp2
          have hb' := hb.out
          have hp10 : 10 ^ pos ≤ 10 ^ 16 := Nat.pow_le_pow_right (by decide) (by omega)
          have hs10 : 10 ^ (pos + 1) = 10 ^ pos * 10 := Nat.pow_succ ..
          have e1 : wrap64 (10 * acc) = 10 * acc := by unfold wrap64; omega
          have e2 : wrap64 (10 * acc + (((s[pos]'hp).toNat : Int) - 48)) = 10 * acc + (((s[pos]'hp).toNat : Int) - 48) := by unfold wrap64; omega
          go_roundw
          case rel =>
            refine ⟨pos + 1, 10 * acc + (((s[pos]'hp).toNat : Int) - 48), rfl, ?_, ⟨HC.out⟩, ⟨by omega, ?_, by omega, by omega⟩⟩
            · rw [e1, e2]
            · rw [hs10]; omega
          case measure =>
            simp
            omega
        · rw [if_neg hd] at hcc
          have hfin : nat s = (-1, false) := by unfold nat; rw [← hcc]; simp
          have HF := Aside0.mk hfin
          clear hcc hfin
          have hr : ¬ (48 ≤ (Utf8.decode s pos).1 ∧ (Utf8.decode s pos).1 ≤ 57) := by
            rcases Nat.lt_or_ge (s[pos]'hp).toNat 128 with h | h
            · rw [decode_ascii s pos hp h]; exact hd
            · have := (decode_high s pos hp h).1; omega
          have hnx : ∀ ty, (Instr.next (.pointer (some ⟨w.heap.size, 0, none⟩)) true ty).run Tryd.prog (w.iter s pos) = _ := fun ty => run_next_any w s pos ty hp
          generalize (Utf8.decode s pos).1 = q at *
          go_wp2
          all_goals
            (try rw [Exit.noGoto_ret])
            go_ret2
            exact ⟨by rw [HF.out]; rfl, below_alloc (Below.refl _ _) _⟩
    · have hnx : ∀ ty, (Instr.next (.pointer (some ⟨w.heap.size, 0, none⟩)) true ty).run Tryd.prog (w.iter s pos) = _ := fun ty => run_next_end w s pos ty hp
      have e := hc.out
      rw [drop_end s pos hp] at e
      simp only [natGo] at e
      have hb' := hb.out
      have hp10 : 10 ^ pos ≤ 10 ^ 17 := Nat.pow_le_pow_right (by decide) (by omega)
      have hacc1 : acc ≤ 9223372036854775807 := by omega
      have h0 : decide (0 ≤ acc) = true := decide_eq_true (by omega)
      have h0b : (acc < 0) = False := eq_false (by omega)
      have h0c : (0 ≤ acc) = True := eq_true (by omega)
      have HA : Aside0 (0 ≤ acc ∧ acc ≤ 9223372036854775807) := ⟨by omega, hacc1⟩
      have hfin : nat s = (acc, !s.toList.isEmpty && (Lib.itoa acc == s.toList)) := by unfold nat; rw [← e]; simp [h0c]
      have HF := Aside0.mk hfin
      clear e hb' hp10 hacc1 hfin hc hb
      cases hem : s.toList.isEmpty with
      | true =>
        go_wp2
        all_goals
          (try rw [Exit.noGoto_ret])
          go_ret2
          exact ⟨by rw [HF.out, hem]; rfl, below_alloc (Below.refl _ _) _⟩
      | false =>
        go_wp2_with (first | (go_at_call 47; refine (itoa_any acc _ (tab_below hT (below_alloc (Below.refl _ _) _)) (by have := HA.out; omega) HA.out.2).mono ?_; rintro e w2 ⟨rfl, hbw⟩))
        all_goals
          (try rw [Exit.noGoto_ret])
          go_ret2
          exact ⟨by rw [HF.out, hem]; rfl, below_step (below_alloc (Below.refl _ _) _) hbw⟩
end Go.Proofs.YthomfkdoaembbaaDoor.HNat
