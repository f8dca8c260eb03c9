/- Proved: the law FnExactKinCount answers true at every input, and each argument reads behind the call as before. No condition beyond the row's own. -/
import Derived.Test.YtepjadcnnakpoaaRows
import Derived.Test.YtepjadcnnakpoaaPFnExactKinCountx4
import Derived.Test.YtepjadcnnakpoaaPureFnExactKinCount
import Derived.Test.YtepjadcnnakpoaaOpn
import Derived.WalkKit
import Derived.ProofKit
import Derived.OpenShut
import Derived.ShutString
import Derived.ChangeOld
import Derived.Below
import Derived.SizedLaws
namespace Go.Proofs.Ytepjadcnnakpoaa.fnExactKinCount
open Go.ChangeShapes Go.WideShapes Go.ChangeAt Go.RowKit Go.Proofs.Ytepjadcnnakpoaa.Opn Go.Proofs.YtepjadcnnakpoaaW.PrintWords Go.Proofs.Ytepjadcnnakpoaa.PFnExactKinCount
open Go.ChangeMaps (open_string shut_string)
set_option linter.unusedVariables false
theorem own : ownKnob Try.prog.godebug = none := by kernel_rfl
theorem laidOut : laidOutB Try.prog = true := by kernel_rfl
theorem opnT45 : Opn Try.prog 45 (Kd.pair (Kd.int .i64) (Kd.pair (Kd.int .i64) Kd.bool)) (fun x_ => ((Lit.int .i64 x_.1).wf = true ∧ (Lit.int .i64 x_.2.1).wf = true ∧ True)) := opn_struct Try.underlying45 (by kernel_rfl) (opn_more rfl (by kernel_rfl) rfl (opn_int Try.underlying3) (opn_more rfl (by kernel_rfl) rfl (opn_int Try.underlying3) (opn_last rfl (by kernel_rfl) (opn_bool Try.underlying4))))
theorem opnE45 : Opn Try.prog 45 k45 (fun b => ((Lit.int .i64 b.f0).wf = true ∧ (Lit.int .i64 b.f1).wf = true ∧ True)) := opn_iso (fun x_ => (⟨x_.1, x_.2.1, x_.2.2⟩ : S45)) (fun _ => rfl) opnT45
theorem opnT103 : Opn Try.prog 103 (Kd.pair (Kd.int .i64) (Kd.pair (Kd.int .i64) (Kd.pair Kd.bool (Kd.slice 45 k45)))) (fun x_ => ((Lit.int .i64 x_.1).wf = true ∧ (Lit.int .i64 x_.2.1).wf = true ∧ True ∧ (x_.2.2.2.length ≤ maxLen ∧ ∀ x0 ∈ x_.2.2.2, ((Lit.int .i64 x0.f0).wf = true ∧ (Lit.int .i64 x0.f1).wf = true ∧ True)))) := opn_struct Try.underlying103 (by kernel_rfl) (opn_more rfl (by kernel_rfl) rfl (opn_int Try.underlying3) (opn_more rfl (by kernel_rfl) rfl (opn_int Try.underlying3) (opn_more rfl (by kernel_rfl) rfl (opn_bool Try.underlying4) (opn_last rfl (by kernel_rfl) (opn_slice Try.underlying101 (by kernel_rfl) opnE45)))))
theorem opnE103 : Opn Try.prog 103 k103 (fun b => ((Lit.int .i64 b.f0).wf = true ∧ (Lit.int .i64 b.f1).wf = true ∧ True ∧ (b.f3.length ≤ maxLen ∧ ∀ x0 ∈ b.f3, ((Lit.int .i64 x0.f0).wf = true ∧ (Lit.int .i64 x0.f1).wf = true ∧ True)))) := opn_iso (fun x_ => (⟨x_.1, x_.2.1, x_.2.2.1, x_.2.2.2⟩ : S103)) (fun _ => rfl) opnT103
set_option maxRecDepth 100000 in
theorem lifted (os : Os) (started : os.Started) (H : Type) (enc : TypeId × Value → H) :
    ReturnsInHanded {} Try.checked os 4 .any (Rows.fnExactKinCountSpec.pre6 enc Try.prog Try.f4 Rows.fnExactKinCountRow.domain false) (Rows.fnExactKinCountSpec.post enc Try.prog Try.f4 false true false false) := by
  refine returnsInHanded_of_change_sized (C := Try.checked) own started (by kernel_rfl) Try.func4
    (ChangeSpec.witness6 (enc := enc) (C := Try.checked) false ⟨#[], #[.slice none 0 0], []⟩ 8 (by kernel_rfl) (by kernel_rfl) (by kernel_rfl) (by kernel_rfl)) ?_
  intro W base args ds gs before hval0 hW hcnd hsz0 _
  have hval : ∀ (j : Nat) t v, Try.f4.params[j]? = some t → args[j]? = some v → Value.okWide Try.prog W .any base t v := hval0
  have hsz : (DataW.weightsEach Try.prog (Try.f4.params.toList ++ Rows.fnExactKinCountSpec.plain.varTypes Try.prog) (ds ++ gs)).all (· ≤ reachBytes) = true := hsz0
  have hW' := hW
  obtain ⟨p, q, hA0, hV, rfl, hfz, hnd⟩ := hW
  have hA : DataW.TrodAll enc Try.prog W 0 (fun _ => true) true Try.f4.params.toList args.toList ds p := hA0
  rw [Try.params4] at hA hval hsz
  obtain ⟨v0, vs0, d0, ds0, p0, q0, hargs, rfl, rfl, h0, r0⟩ := trodAll_cons hA
  obtain ⟨rfl, rfl, rfl⟩ := trodAll_nil r0
  obtain rfl : args = #[v0] := by cases args; simp_all
  obtain ⟨rfl, rfl⟩ := trodVars_none hV
  have k0 := h0
  have lt0 : ∀ x ∈ p0, x.block < W.heap.size := by obtain ⟨m, hm⟩ := k0; exact DataW.trod_lt m _ _ _ hm
  obtain ⟨aa0, len0, cap0, rfl⟩ := okWide_slice Try.underlying34 (hval 0 34 v0 rfl rfl)
  obtain ⟨l0, ⟨A0, c0, e0, hc0, hr0⟩, g0⟩ := Opn.get (opn_slice Try.underlying34 (by kernel_rfl) (opn_slice Try.underlying81 (by kernel_rfl) opnE103)) h0
  simp only [Value.cells, List.cons.injEq, Value.slice.injEq, and_true] at e0
  obtain ⟨rfl, rfl, rfl⟩ := e0
  obtain ⟨k, hf⟩ := Pure.FnExactKinCount l0 g0
  clear hA0 hval0 hsz0 hsz
  refine (laws_FnExactKinCount.calls k _ _ l0 true W hr0 hc0 rfl hf).mono fun e W' ⟨he, bel0⟩ => ?_
  have bel := bel0
  subst he
  exact ⟨_, rfl, _, _, _, [], _, [], hW', trodAll_mk1 (shut_bool Try.underlying4 _), (trodAll_cons_mk (Below.trod laidOut (by kernel_rfl) (of_decide_eq_true (by kernel_rfl)) k0 bel lt0) trodAll_mk0), rfl, bel.frame _, fun h => by cases h⟩
theorem over : Rows.fnExactKinCountRow.holds Try.pinned (OpenSpec.ofChange Rows.fnExactKinCountSpec) :=
  OpenClaim.holds_of_wide 4 Try.f4 rfl rfl rfl rfl rfl rfl rfl ⟨rfl, rfl, rfl, rfl, rfl⟩ rfl rfl rfl rfl rfl (by kernel_rfl) Try.func4 (by kernel_rfl)
    (of_decide_eq_true (by kernel_rfl)) (by unfold Func.isWrapper; first | (rw [if_pos (by decide +kernel)]; kernel_rfl) | (rw [if_neg (by decide +kernel)]; exact ⟨rfl, rfl⟩))
    (fun os started H enc _ => lifted os started H enc)
theorem proved : Rows.FnExactKinCountSaid := over
end Go.Proofs.Ytepjadcnnakpoaa.fnExactKinCount
namespace Go.Proofs.Ytepjadcnnakpoaa
/-- The row, under a short name, for the claim. -/
theorem fnExactKinCount_holds : Rows.FnExactKinCountSaid := fnExactKinCount.proved
end Go.Proofs.Ytepjadcnnakpoaa
