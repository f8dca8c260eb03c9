/- Proved: the law FnExactInsOk answers true at every input, and each argument reads behind the call as before. No condition beyond the row's own. -/
import Derived.Test.YthomfkdoaembbaaRows
import Derived.Test.YthomfkdoaembbaaPFnExactInsOkx2
import Derived.Test.YthomfkdoaembbaaPureFnExactInsOk
import Derived.Test.YthomfkdoaembbaaOpn
import Derived.WalkKit
import Derived.ProofKit
import Derived.OpenShut
import Derived.ShutString
import Derived.ChangeOld
import Derived.Below
import Derived.SizedLaws
namespace Go.Proofs.Ythomfkdoaembbaa.fnExactInsOk
open Go.ChangeShapes Go.WideShapes Go.ChangeAt Go.RowKit Go.Proofs.Ythomfkdoaembbaa.Opn Go.Proofs.YthomfkdoaembbaaW.PrintWords Go.Proofs.Ythomfkdoaembbaa.PFnExactInsOk
open Go.ChangeMaps (open_string shut_string)
set_option linter.unusedVariables false
theorem own : ownKnob Try.prog.godebug = none := by kernel_rfl
theorem laidOut : laidOutB Try.prog = true := by kernel_rfl
theorem opnS25 : Opn Try.prog 25 (Kd.pair (Kd.int .i64) (Kd.pair (Kd.int .i64) (Kd.int .i64))) (fun x_ => ((Lit.int .i64 x_.1).wf = true ∧ (Lit.int .i64 x_.2.1).wf = true ∧ (Lit.int .i64 x_.2.2).wf = true)) := opn_struct Try.underlying25 (by kernel_rfl) (opn_more rfl (by kernel_rfl) rfl (opn_int Try.underlying3) (opn_more rfl (by kernel_rfl) rfl (opn_int Try.underlying3) (opn_last rfl (by kernel_rfl) (opn_int Try.underlying3))))
set_option maxRecDepth 100000 in
theorem lifted (os : Os) (started : os.Started) (H : Type) (enc : TypeId × Value → H) :
    ReturnsInHanded {} Try.checked os 4 .any (Rows.fnExactInsOkSpec.pre6 enc Try.prog Try.f4 Rows.fnExactInsOkRow.domain false) (Rows.fnExactInsOkSpec.post enc Try.prog Try.f4 false true false false) := by
  refine returnsInHanded_of_change_sized (C := Try.checked) own started (by kernel_rfl) Try.func4
    (ChangeSpec.witness6 (enc := enc) (C := Try.checked) false ⟨#[], #[.agg #[.int .i64 0, .int .i64 0, .int .i64 0]], []⟩ 8 (by kernel_rfl) (by kernel_rfl) (by kernel_rfl) (by kernel_rfl)) ?_
  intro W base args ds gs before hval0 hW hcnd hsz0 _
  have hval : ∀ (j : Nat) t v, Try.f4.params[j]? = some t → args[j]? = some v → Value.okWide Try.prog W .any base t v := hval0
  have hsz : (DataW.weightsEach Try.prog (Try.f4.params.toList ++ Rows.fnExactInsOkSpec.plain.varTypes Try.prog) (ds ++ gs)).all (· ≤ reachBytes) = true := hsz0
  have hW' := hW
  obtain ⟨p, q, hA0, hV, rfl, hfz, hnd⟩ := hW
  have hA : DataW.TrodAll enc Try.prog W 0 (fun _ => true) true Try.f4.params.toList args.toList ds p := hA0
  rw [Try.params4] at hA hval hsz
  obtain ⟨v0, vs0, d0, ds0, p0, q0, hargs, rfl, rfl, h0, r0⟩ := trodAll_cons hA
  obtain ⟨rfl, rfl, rfl⟩ := trodAll_nil r0
  obtain rfl : args = #[v0] := by cases args; simp_all
  obtain ⟨rfl, rfl⟩ := trodVars_none hV
  have k0 := h0
  have lt0 : ∀ x ∈ p0, x.block < W.heap.size := by obtain ⟨m, hm⟩ := k0; exact DataW.trod_lt m _ _ _ hm
  obtain ⟨cs0, rfl, hcs0⟩ := okWide_struct Try.underlying25 (hval 0 25 v0 rfl rfl)
  obtain ⟨⟨a0_0, ⟨a0_1, a0_2⟩⟩, ⟨c0_1, d0_1, eK0, rfl, ⟨c0_2, d0_2, rfl, rfl, rfl⟩⟩, ⟨g0_0, ⟨g0_1, g0_2⟩⟩⟩ := Opn.get opnS25 h0
  obtain rfl : cs0 = #[.int .i64 a0_0, .int .i64 a0_1, .int .i64 a0_2] := by apply Array.ext'; simpa [Value.cells] using eK0
  obtain ⟨k, hf⟩ := Pure.FnExactInsOk a0_0 a0_1 a0_2 g0_0 g0_1 g0_2
  clear hA0 hval0 hsz0 hsz
  refine (laws_FnExactInsOk.calls k a0_0 a0_1 a0_2 true W rfl hf).mono fun e W' ⟨he, bel0⟩ => ?_
  have bel := bel0
  subst he
  exact ⟨_, rfl, _, _, _, [], _, [], hW', trodAll_mk1 (shut_bool Try.underlying4 _), (trodAll_cons_mk (Below.trod laidOut (by kernel_rfl) (of_decide_eq_true (by kernel_rfl)) k0 bel lt0) trodAll_mk0), rfl, bel.frame _, fun h => by cases h⟩
theorem over : Rows.fnExactInsOkRow.holds Try.pinned (OpenSpec.ofChange Rows.fnExactInsOkSpec) :=
  OpenClaim.holds_of_wide 4 Try.f4 rfl rfl rfl rfl rfl rfl rfl ⟨rfl, rfl, rfl, rfl, rfl⟩ rfl rfl rfl rfl rfl (by kernel_rfl) Try.func4 (by kernel_rfl)
    (of_decide_eq_true (by kernel_rfl)) (by unfold Func.isWrapper; first | (rw [if_pos (by decide +kernel)]; kernel_rfl) | (rw [if_neg (by decide +kernel)]; exact ⟨rfl, rfl⟩))
    (fun os started H enc _ => lifted os started H enc)
theorem proved : Rows.FnExactInsOkSaid := over
end Go.Proofs.Ythomfkdoaembbaa.fnExactInsOk
namespace Go.Proofs.Ythomfkdoaembbaa
/-- The row, under a short name, for the claim. -/
theorem fnExactInsOk_holds : Rows.FnExactInsOkSaid := fnExactInsOk.proved
end Go.Proofs.Ythomfkdoaembbaa
