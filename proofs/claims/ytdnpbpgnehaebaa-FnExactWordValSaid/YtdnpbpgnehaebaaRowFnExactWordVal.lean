/- Proved: the law FnExactWordVal answers true at every input, and each argument reads behind the call as before. No condition beyond the row's own. -/
import Derived.Test.YtdnpbpgnehaebaaRows
import Derived.Test.YtdnpbpgnehaebaaPFnExactWordValx2
import Derived.Test.YtdnpbpgnehaebaaPureFnExactWordVal
import Derived.Test.YtdnpbpgnehaebaaOpn
import Derived.WalkKit
import Derived.ProofKit
import Derived.OpenShut
import Derived.ShutString
import Derived.ChangeOld
import Derived.Below
import Derived.SizedLaws
namespace Go.Proofs.Ytdnpbpgnehaebaa.fnExactWordVal
open Go.ChangeShapes Go.WideShapes Go.ChangeAt Go.RowKit Go.Proofs.Ytdnpbpgnehaebaa.Opn Go.Proofs.YtdnpbpgnehaebaaW.PrintWords Go.Proofs.Ytdnpbpgnehaebaa.PFnExactWordVal
open Go.ChangeMaps (open_string shut_string)
set_option linter.unusedVariables false
theorem own : ownKnob Try.prog.godebug = none := by kernel_rfl
theorem laidOut : laidOutB Try.prog = true := by kernel_rfl
theorem opnS56 : Opn Try.prog 56 (Kd.pair (Kd.int .i64) (Kd.pair (Kd.int .i64) Kd.bool)) (fun x_ => ((Lit.int .i64 x_.1).wf = true ∧ (Lit.int .i64 x_.2.1).wf = true ∧ True)) := opn_struct Try.underlying56 (by kernel_rfl) (opn_more rfl (by kernel_rfl) rfl (opn_int Try.underlying3) (opn_more rfl (by kernel_rfl) rfl (opn_int Try.underlying3) (opn_last rfl (by kernel_rfl) (opn_bool Try.underlying4))))
set_option maxRecDepth 100000 in
theorem lifted (os : Os) (started : os.Started) (H : Type) (enc : TypeId × Value → H) :
    ReturnsInHanded {} Try.checked os 14 .any (Rows.fnExactWordValSpec.pre6 enc Try.prog Try.f14 Rows.fnExactWordValRow.domain false) (Rows.fnExactWordValSpec.post enc Try.prog Try.f14 false true false false) := by
  refine returnsInHanded_of_change_sized (C := Try.checked) own started (by kernel_rfl) Try.func14
    (ChangeSpec.witness6 (enc := enc) (C := Try.checked) false ⟨#[], #[.agg #[.int .i64 0, .int .i64 0, .bool false], .int .i64 0], []⟩ 8 (by kernel_rfl) (by kernel_rfl) (by kernel_rfl) (by kernel_rfl)) ?_
  intro W base args ds gs before hval0 hW hcnd hsz0 _
  have hval : ∀ (j : Nat) t v, Try.f14.params[j]? = some t → args[j]? = some v → Value.okWide Try.prog W .any base t v := hval0
  have hsz : (DataW.weightsEach Try.prog (Try.f14.params.toList ++ Rows.fnExactWordValSpec.plain.varTypes Try.prog) (ds ++ gs)).all (· ≤ reachBytes) = true := hsz0
  have hW' := hW
  obtain ⟨p, q, hA0, hV, rfl, hfz, hnd⟩ := hW
  have hA : DataW.TrodAll enc Try.prog W 0 (fun _ => true) true Try.f14.params.toList args.toList ds p := hA0
  rw [Try.params14] at hA hval hsz
  obtain ⟨v0, vs0, d0, ds0, p0, q0, hargs, rfl, rfl, h0, r0⟩ := trodAll_cons hA
  obtain ⟨v1, vs1, d1, ds1, p1, q1, rfl, rfl, rfl, h1, r1⟩ := trodAll_cons r0
  obtain ⟨rfl, rfl, rfl⟩ := trodAll_nil r1
  obtain rfl : args = #[v0, v1] := by cases args; simp_all
  obtain ⟨rfl, rfl⟩ := trodVars_none hV
  obtain ⟨a1, rfl, rfl, rfl, w1⟩ := open_int Try.underlying3 (hval 1 3 v1 rfl rfl) h1
  have k0 := h0
  have lt0 : ∀ x ∈ p0, x.block < W.heap.size := by obtain ⟨m, hm⟩ := k0; exact DataW.trod_lt m _ _ _ hm
  obtain ⟨cs0, rfl, hcs0⟩ := okWide_struct Try.underlying56 (hval 0 56 v0 rfl rfl)
  obtain ⟨⟨a0_0, ⟨a0_1, a0_2⟩⟩, ⟨c0_1, d0_1, eK0, rfl, ⟨c0_2, d0_2, rfl, rfl, rfl⟩⟩, ⟨g0_0, ⟨g0_1, _⟩⟩⟩ := Opn.get opnS56 h0
  obtain rfl : cs0 = #[.int .i64 a0_0, .int .i64 a0_1, .bool a0_2] := by apply Array.ext'; simpa [Value.cells] using eK0
  obtain ⟨k, hf⟩ := Pure.FnExactWordVal a0_0 a0_1 a0_2 a1 g0_0 g0_1 w1
  clear hA0 hval0 hsz0 hsz
  refine (laws_FnExactWordVal.calls k a0_0 a0_1 a0_2 a1 true W rfl hf).mono fun e W' ⟨he, bel0⟩ => ?_
  have bel := bel0
  subst he
  exact ⟨_, rfl, _, _, _, [], _, [], hW', trodAll_mk1 (shut_bool Try.underlying4 _), (trodAll_cons_mk (Below.trod laidOut (by kernel_rfl) (of_decide_eq_true (by kernel_rfl)) k0 bel lt0) (trodAll_cons_mk (shut_int Try.underlying3 w1) trodAll_mk0)), rfl, bel.frame _, fun h => by cases h⟩
theorem over : Rows.fnExactWordValRow.holds Try.pinned (OpenSpec.ofChange Rows.fnExactWordValSpec) :=
  OpenClaim.holds_of_wide 14 Try.f14 rfl rfl rfl rfl rfl rfl rfl ⟨rfl, rfl, rfl, rfl, rfl⟩ rfl rfl rfl rfl rfl (by kernel_rfl) Try.func14 (by kernel_rfl)
    (of_decide_eq_true (by kernel_rfl)) (by unfold Func.isWrapper; first | (rw [if_pos (by decide +kernel)]; kernel_rfl) | (rw [if_neg (by decide +kernel)]; exact ⟨rfl, rfl⟩))
    (fun os started H enc _ => lifted os started H enc)
theorem proved : Rows.FnExactWordValSaid := over
end Go.Proofs.Ytdnpbpgnehaebaa.fnExactWordVal
namespace Go.Proofs.Ytdnpbpgnehaebaa
/-- The row, under a short name, for the claim. -/
theorem fnExactWordVal_holds : Rows.FnExactWordValSaid := fnExactWordVal.proved
end Go.Proofs.Ytdnpbpgnehaebaa
