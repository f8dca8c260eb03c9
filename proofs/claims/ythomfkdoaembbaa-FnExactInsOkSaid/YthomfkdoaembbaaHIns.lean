/- The program's InsHas, walked. No condition. -/
import Derived.Test.YthomfkdoaembbaaHForms
namespace Go.Proofs.Ythomfkdoaembbaa.HIns
open Go.RowKit Go.Proofs.YthomfkdoaembbaaW.PrintWords Go.Proofs.YthomfkdoaembbaaW.PrintLast Go.Proofs.YthomfkdoaembbaaW.PrintMore Go.Proofs.Ythomfkdoaembbaa.PForms Go.Proofs.Ythomfkdoaembbaa.HForms
set_option linter.unusedVariables false
theorem isOp_in (op : Int) (w : World) (h1 : 1 ≤ op) (h2 : op ≤ 33) : Calls Try.prog 10 #[.int .i64 op] w fun e w' => e = .returned (.bool true) ∧ w' = w := by
  go_enter Try.func10, Try.ntmps10
  go_wp2
  all_goals first | (go_ret; exact ⟨by simp [*], rfl⟩) | omega
theorem isOp_out (op : Int) (w : World) (h : op < 1 ∨ 33 < op) : Calls Try.prog 10 #[.int .i64 op] w fun e w' => e = .returned (.bool false) ∧ w' = w := by
  rcases h with h | h
  · have h1 : ¬ 1 ≤ op := by omega
    go_enter Try.func10, Try.ntmps10
    go_wp2
    all_goals first | (go_ret; exact ⟨by simp [*], rfl⟩) | omega
  · have h1 : ¬ op ≤ 33 := by omega
    have h2 : 1 ≤ op := by omega
    go_enter Try.func10, Try.ntmps10
    go_wp2
    all_goals first | (go_ret; exact ⟨by simp [*], rfl⟩) | omega
theorem insHas_out (op : Int) (w : World) (h : op < 1 ∨ 33 < op) : Calls Try.prog 6 #[.int .i64 op] w fun e w' => e = .returned (.int .i64 0) ∧ w' = w := by
  go_enter Try.func6, Try.ntmps6
  go_wp2_with (first | ((with_reducible refine gate_callee (f := 10) rfl ?_); refine goesL_ (some 4) rfl rfl Try.func10 (by kernel_rfl) rfl #[.int .i64 op] rfl (by (try simp only [List.map_toArray, List.map_cons, List.map_nil]); first | done | rfl) ?_; refine (isOp_out op _ h).mono ?_; rintro e w1 ⟨rfl, rfl⟩; refine ⟨_, rfl, ?_⟩))
  go_ret
  exact ⟨rfl, rfl⟩
theorem field_has (s : ByteArray) (A : Option Addr) (n c : Nat) (w : World) : Sem.run Try.prog (Instr.field 32 (.agg #[.string s, .slice A n c]) 1) w = .ok (.slice A n c) w := by kernel_rfl
theorem field_word (s : ByteArray) (A : Option Addr) (n c : Nat) (w : World) : Sem.run Try.prog (Instr.field 32 (.agg #[.string s, .slice A n c]) 0) w = .ok (.string s) w := by kernel_rfl
attribute [local go_sem] index_table field_has field_word
set_option maxHeartbeats 4000000 in
theorem insHas_in (n : Nat) (w : World) (h1 : 1 ≤ n) (h2 : n < 34) : Calls Try.prog 6 #[.int .i64 (n : Int)] w fun e w' => e = .returned (.int .i64 ((has n).length : Int)) ∧ Below w.heap.size w w' := by
  go_enter Try.func6, Try.ntmps6
  go_wp2_with (first | ((with_reducible refine gate_callee (f := 10) rfl ?_); refine goesL_ (some 4) rfl rfl Try.func10 (by kernel_rfl) rfl #[.int .i64 (n : Int)] rfl (by (try simp only [List.map_toArray, List.map_cons, List.map_nil]); first | done | rfl) ?_; refine (isOp_in (n : Int) _ (by omega) (by omega)).mono ?_; rintro e w1 ⟨rfl, rfl⟩; refine ⟨_, rfl, ?_⟩) | ((with_reducible refine gate_callee (f := 11) rfl ?_); refine goesL_ (some 6) rfl rfl Try.func11 (by kernel_rfl) rfl #[] rfl (by first | rfl | simp) ?_; refine (forms_any _).mono ?_; rintro e w1 ⟨A, c, rfl, hb, hf⟩; refine ⟨_, rfl, ?_⟩))
  go_ret
  exact ⟨rfl, hb⟩
/-- What InsHas comes to. -/
def insHas (op : Int) : Int := if 1 ≤ op ∧ op ≤ 33 then ((has op.toNat).length : Int) else 0
theorem insHas_any (op : Int) (w : World) : Calls Try.prog 6 #[.int .i64 op] w fun e w' => e = .returned (.int .i64 (insHas op)) ∧ Below w.heap.size w w' := by
  unfold insHas
  by_cases h : 1 ≤ op ∧ op ≤ 33
  · rw [if_pos h]
    obtain ⟨n, rfl⟩ : ∃ n : Nat, op = (n : Int) := ⟨op.toNat, by omega⟩
    exact insHas_in n w (by omega) (by omega)
  · rw [if_neg h]
    refine (insHas_out op w (by omega)).mono ?_
    rintro e w' ⟨rfl, rfl⟩
    exact ⟨rfl, Below.refl _ _⟩
end Go.Proofs.Ythomfkdoaembbaa.HIns
