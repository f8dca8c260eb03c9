/- Proved: the law FnExactProgSame answers true at every input, and each argument reads behind the call as before. No condition beyond the row's own. -/
import Derived.Test.YtgbmfkfmimpaaaaRows
import Derived.Test.YtgbmfkfmimpaaaaPFnExactProgSamex13
import Derived.Test.YtgbmfkfmimpaaaaPureFnExactProgSame
import Derived.Test.YtgbmfkfmimpaaaaVFnExactProgSamea
import Derived.WalkKit
import Derived.ProofKit
import Derived.OpenShut
import Derived.ShutString
import Derived.ChangeOld
import Derived.Below
import Derived.SizedLaws
namespace Go.Proofs.Ytgbmfkfmimpaaaa.fnExactProgSame
open Go.ChangeShapes Go.WideShapes Go.ChangeAt Go.RowKit Go.Proofs.Ytgbmfkfmimpaaaa.Opn Go.Proofs.YtgbmfkfmimpaaaaW.PrintWords Go.Proofs.Ytgbmfkfmimpaaaa.PFnExactProgSame
open Go.ChangeMaps (open_string shut_string)
set_option linter.unusedVariables false
theorem own : ownKnob Try.prog.godebug = none := by kernel_rfl
theorem laidOut : laidOutB Try.prog = true := by kernel_rfl
theorem opnT161 : Opn Try.prog 161 (Kd.pair (Kd.int .i64) (Kd.pair (Kd.int .i64) Kd.bool)) (fun x_ => ((Lit.int .i64 x_.1).wf = true ∧ (Lit.int .i64 x_.2.1).wf = true ∧ True)) := opn_struct Try.underlying161 (by kernel_rfl) (opn_more rfl (by kernel_rfl) rfl (opn_int Try.underlying3) (opn_more rfl (by kernel_rfl) rfl (opn_int Try.underlying3) (opn_last rfl (by kernel_rfl) (opn_bool Try.underlying4))))
theorem opnE161 : Opn Try.prog 161 k161 (fun b => ((Lit.int .i64 b.f0).wf = true ∧ (Lit.int .i64 b.f1).wf = true ∧ True)) := opn_iso (fun x_ => (⟨x_.1, x_.2.1, x_.2.2⟩ : S161)) (fun _ => rfl) opnT161
theorem opnT173 : Opn Try.prog 173 (Kd.pair (Kd.int .i64) (Kd.pair (Kd.int .i64) (Kd.pair Kd.bool (Kd.slice 161 k161)))) (fun x_ => ((Lit.int .i64 x_.1).wf = true ∧ (Lit.int .i64 x_.2.1).wf = true ∧ True ∧ (x_.2.2.2.length ≤ maxLen ∧ ∀ x0 ∈ x_.2.2.2, ((Lit.int .i64 x0.f0).wf = true ∧ (Lit.int .i64 x0.f1).wf = true ∧ True)))) := opn_struct Try.underlying173 (by kernel_rfl) (opn_more rfl (by kernel_rfl) rfl (opn_int Try.underlying3) (opn_more rfl (by kernel_rfl) rfl (opn_int Try.underlying3) (opn_more rfl (by kernel_rfl) rfl (opn_bool Try.underlying4) (opn_last rfl (by kernel_rfl) (opn_slice Try.underlying78 (by kernel_rfl) opnE161)))))
theorem opnE173 : Opn Try.prog 173 k173 (fun b => ((Lit.int .i64 b.f0).wf = true ∧ (Lit.int .i64 b.f1).wf = true ∧ True ∧ (b.f3.length ≤ maxLen ∧ ∀ x0 ∈ b.f3, ((Lit.int .i64 x0.f0).wf = true ∧ (Lit.int .i64 x0.f1).wf = true ∧ True)))) := opn_iso (fun x_ => (⟨x_.1, x_.2.1, x_.2.2.1, x_.2.2.2⟩ : S173)) (fun _ => rfl) opnT173
theorem opnT24 : Opn Try.prog 24 (Kd.pair (Kd.int .i64) (Kd.pair (Kd.int .i64) (Kd.int .i64))) (fun x_ => ((Lit.int .i64 x_.1).wf = true ∧ (Lit.int .i64 x_.2.1).wf = true ∧ (Lit.int .i64 x_.2.2).wf = true)) := opn_struct Try.underlying24 (by kernel_rfl) (opn_more rfl (by kernel_rfl) rfl (opn_int Try.underlying3) (opn_more rfl (by kernel_rfl) rfl (opn_int Try.underlying3) (opn_last rfl (by kernel_rfl) (opn_int Try.underlying3))))
theorem opnE24 : Opn Try.prog 24 k24 (fun b => ((Lit.int .i64 b.f0).wf = true ∧ (Lit.int .i64 b.f1).wf = true ∧ (Lit.int .i64 b.f2).wf = true)) := opn_iso (fun x_ => (⟨x_.1, x_.2.1, x_.2.2⟩ : S24)) (fun _ => rfl) opnT24
theorem opnT164 : Opn Try.prog 164 (Kd.pair (Kd.slice 161 k161) (Kd.pair k161 (Kd.pair (Kd.slice 161 k161) (Kd.slice 24 k24)))) (fun x_ => ((x_.1.length ≤ maxLen ∧ ∀ x0 ∈ x_.1, ((Lit.int .i64 x0.f0).wf = true ∧ (Lit.int .i64 x0.f1).wf = true ∧ True)) ∧ ((Lit.int .i64 x_.2.1.f0).wf = true ∧ (Lit.int .i64 x_.2.1.f1).wf = true ∧ True) ∧ (x_.2.2.1.length ≤ maxLen ∧ ∀ x0 ∈ x_.2.2.1, ((Lit.int .i64 x0.f0).wf = true ∧ (Lit.int .i64 x0.f1).wf = true ∧ True)) ∧ (x_.2.2.2.length ≤ maxLen ∧ ∀ x0 ∈ x_.2.2.2, ((Lit.int .i64 x0.f0).wf = true ∧ (Lit.int .i64 x0.f1).wf = true ∧ (Lit.int .i64 x0.f2).wf = true)))) := opn_struct Try.underlying164 (by kernel_rfl) (opn_more rfl (by kernel_rfl) rfl (opn_slice Try.underlying78 (by kernel_rfl) opnE161) (opn_more rfl (by kernel_rfl) rfl opnE161 (opn_more rfl (by kernel_rfl) rfl (opn_slice Try.underlying78 (by kernel_rfl) opnE161) (opn_last rfl (by kernel_rfl) (opn_slice Try.underlying162 (by kernel_rfl) opnE24)))))
theorem opnE164 : Opn Try.prog 164 k164 (fun b => ((b.f0.length ≤ maxLen ∧ ∀ x0 ∈ b.f0, ((Lit.int .i64 x0.f0).wf = true ∧ (Lit.int .i64 x0.f1).wf = true ∧ True)) ∧ ((Lit.int .i64 b.f1.f0).wf = true ∧ (Lit.int .i64 b.f1.f1).wf = true ∧ True) ∧ (b.f2.length ≤ maxLen ∧ ∀ x0 ∈ b.f2, ((Lit.int .i64 x0.f0).wf = true ∧ (Lit.int .i64 x0.f1).wf = true ∧ True)) ∧ (b.f3.length ≤ maxLen ∧ ∀ x0 ∈ b.f3, ((Lit.int .i64 x0.f0).wf = true ∧ (Lit.int .i64 x0.f1).wf = true ∧ (Lit.int .i64 x0.f2).wf = true)))) := opn_iso (fun x_ => (⟨x_.1, x_.2.1, x_.2.2.1, x_.2.2.2⟩ : S164)) (fun _ => rfl) opnT164
theorem opnS81 : Opn Try.prog 81 (Kd.pair (Kd.slice 159 (Kd.slice 173 k173)) (Kd.pair (Kd.slice 161 k161) (Kd.slice 164 k164))) (fun x_ => ((x_.1.length ≤ maxLen ∧ ∀ x0 ∈ x_.1, (x0.length ≤ maxLen ∧ ∀ x1 ∈ x0, ((Lit.int .i64 x1.f0).wf = true ∧ (Lit.int .i64 x1.f1).wf = true ∧ True ∧ (x1.f3.length ≤ maxLen ∧ ∀ x2 ∈ x1.f3, ((Lit.int .i64 x2.f0).wf = true ∧ (Lit.int .i64 x2.f1).wf = true ∧ True))))) ∧ (x_.2.1.length ≤ maxLen ∧ ∀ x0 ∈ x_.2.1, ((Lit.int .i64 x0.f0).wf = true ∧ (Lit.int .i64 x0.f1).wf = true ∧ True)) ∧ (x_.2.2.length ≤ maxLen ∧ ∀ x0 ∈ x_.2.2, ((x0.f0.length ≤ maxLen ∧ ∀ x1 ∈ x0.f0, ((Lit.int .i64 x1.f0).wf = true ∧ (Lit.int .i64 x1.f1).wf = true ∧ True)) ∧ ((Lit.int .i64 x0.f1.f0).wf = true ∧ (Lit.int .i64 x0.f1.f1).wf = true ∧ True) ∧ (x0.f2.length ≤ maxLen ∧ ∀ x1 ∈ x0.f2, ((Lit.int .i64 x1.f0).wf = true ∧ (Lit.int .i64 x1.f1).wf = true ∧ True)) ∧ (x0.f3.length ≤ maxLen ∧ ∀ x1 ∈ x0.f3, ((Lit.int .i64 x1.f0).wf = true ∧ (Lit.int .i64 x1.f1).wf = true ∧ (Lit.int .i64 x1.f2).wf = true)))))) := opn_struct Try.underlying81 (by kernel_rfl) (opn_more rfl (by kernel_rfl) rfl (opn_slice Try.underlying77 (by kernel_rfl) (opn_slice Try.underlying159 (by kernel_rfl) opnE173)) (opn_more rfl (by kernel_rfl) rfl (opn_slice Try.underlying78 (by kernel_rfl) opnE161) (opn_last rfl (by kernel_rfl) (opn_slice Try.underlying79 (by kernel_rfl) opnE164))))
set_option maxRecDepth 100000 in
theorem lifted (os : Os) (started : os.Started) (H : Type) (enc : TypeId × Value → H) :
    ReturnsInHanded {} Try.checked os 13 .any (Rows.fnExactProgSameSpec.pre6 enc Try.prog Try.f13 Rows.fnExactProgSameRow.domain false) (Rows.fnExactProgSameSpec.post enc Try.prog Try.f13 false true false false) := by
  refine returnsInHanded_of_change_sized (C := Try.checked) own started (by kernel_rfl) Try.func13
    (ChangeSpec.witness6 (enc := enc) (C := Try.checked) false ⟨#[], #[.agg #[.slice none 0 0, .slice none 0 0, .slice none 0 0], .agg #[.slice none 0 0, .slice none 0 0, .slice none 0 0]], []⟩ 8 (by kernel_rfl) (by kernel_rfl) (by kernel_rfl) (by kernel_rfl)) ?_
  intro W base args ds gs before hval0 hW hcnd hsz0 _
  have hval : ∀ (j : Nat) t v, Try.f13.params[j]? = some t → args[j]? = some v → Value.okWide Try.prog W .any base t v := hval0
  have hsz : (DataW.weightsEach Try.prog (Try.f13.params.toList ++ Rows.fnExactProgSameSpec.plain.varTypes Try.prog) (ds ++ gs)).all (· ≤ reachBytes) = true := hsz0
  have hW' := hW
  obtain ⟨p, q, hA0, hV, rfl, hfz, hnd⟩ := hW
  have hA : DataW.TrodAll enc Try.prog W 0 (fun _ => true) true Try.f13.params.toList args.toList ds p := hA0
  rw [Try.params13] at hA hval hsz
  obtain ⟨v0, vs0, d0, ds0, p0, q0, hargs, rfl, rfl, h0, r0⟩ := trodAll_cons hA
  obtain ⟨v1, vs1, d1, ds1, p1, q1, rfl, rfl, rfl, h1, r1⟩ := trodAll_cons r0
  obtain ⟨rfl, rfl, rfl⟩ := trodAll_nil r1
  obtain rfl : args = #[v0, v1] := by cases args; simp_all
  obtain ⟨rfl, rfl⟩ := trodVars_none hV
  have k0 := h0
  have lt0 : ∀ x ∈ p0, x.block < W.heap.size := by obtain ⟨m, hm⟩ := k0; exact DataW.trod_lt m _ _ _ hm
  obtain ⟨cs0, rfl, hcs0⟩ := okWide_struct Try.underlying81 (hval 0 81 v0 rfl rfl)
  obtain ⟨⟨l0_0, ⟨l0_1, l0_2⟩⟩, ⟨c0_1, d0_1, eK0, ⟨A0_0, c0_0, rfl, hc0_0, hr0_0⟩, ⟨c0_2, d0_2, rfl, ⟨A0_1, c0_1, rfl, hc0_1, hr0_1⟩, ⟨A0_2, c0_2, rfl, hc0_2, hr0_2⟩⟩⟩, ⟨g0_0, ⟨g0_1, g0_2⟩⟩⟩ := Opn.get opnS81 h0
  obtain rfl : cs0 = #[.slice A0_0 l0_0.length c0_0, .slice A0_1 l0_1.length c0_1, .slice A0_2 l0_2.length c0_2] := by apply Array.ext'; simpa [Value.cells] using eK0
  have k1 := h1
  have lt1 : ∀ x ∈ p1, x.block < W.heap.size := by obtain ⟨m, hm⟩ := k1; exact DataW.trod_lt m _ _ _ hm
  obtain ⟨cs1, rfl, hcs1⟩ := okWide_struct Try.underlying81 (hval 1 81 v1 rfl rfl)
  obtain ⟨⟨l1_0, ⟨l1_1, l1_2⟩⟩, ⟨c1_1, d1_1, eK1, ⟨A1_0, c1_0, rfl, hc1_0, hr1_0⟩, ⟨c1_2, d1_2, rfl, ⟨A1_1, c1_1, rfl, hc1_1, hr1_1⟩, ⟨A1_2, c1_2, rfl, hc1_2, hr1_2⟩⟩⟩, ⟨g1_0, ⟨g1_1, g1_2⟩⟩⟩ := Opn.get opnS81 h1
  obtain rfl : cs1 = #[.slice A1_0 l1_0.length c1_0, .slice A1_1 l1_1.length c1_1, .slice A1_2 l1_2.length c1_2] := by apply Array.ext'; simpa [Value.cells] using eK1
  obtain ⟨k, hf⟩ := Pure.FnExactProgSame l0_0 l0_1 l0_2 l1_0 l1_1 l1_2 g0_0 g0_1 g0_2 g1_0 g1_1 g1_2
  clear hA0 hval0 hsz0 hsz
  refine (laws_FnExactProgSame.calls k _ _ l0_0 _ _ l0_1 _ _ l0_2 _ _ l1_0 _ _ l1_1 _ _ l1_2 true W hr0_0 hc0_0 hr0_1 hc0_1 hr0_2 hc0_2 hr1_0 hc1_0 hr1_1 hc1_1 hr1_2 hc1_2 rfl hf).mono fun e W' ⟨he, bel0⟩ => ?_
  have bel := bel0
  subst he
  exact ⟨_, rfl, _, _, _, [], _, [], hW', trodAll_mk1 (shut_bool Try.underlying4 _), (trodAll_cons_mk (Below.trod laidOut (by kernel_rfl) (of_decide_eq_true (by kernel_rfl)) k0 bel lt0) (trodAll_cons_mk (Below.trod laidOut (by kernel_rfl) (of_decide_eq_true (by kernel_rfl)) k1 bel lt1) trodAll_mk0)), rfl, bel.frame _, fun h => by cases h⟩
theorem over : Rows.fnExactProgSameRow.holds Try.pinned (OpenSpec.ofChange Rows.fnExactProgSameSpec) :=
  OpenClaim.holds_of_wide 13 Try.f13 rfl rfl rfl rfl rfl rfl rfl ⟨rfl, rfl, rfl, rfl, rfl⟩ rfl rfl rfl rfl rfl (by kernel_rfl) Try.func13 (by kernel_rfl)
    (of_decide_eq_true (by kernel_rfl)) (by unfold Func.isWrapper; first | (rw [if_pos (by decide +kernel)]; kernel_rfl) | (rw [if_neg (by decide +kernel)]; exact ⟨rfl, rfl⟩))
    (fun os started H enc _ => lifted os started H enc)
theorem proved : Rows.FnExactProgSameSaid := over
end Go.Proofs.Ytgbmfkfmimpaaaa.fnExactProgSame
namespace Go.Proofs.Ytgbmfkfmimpaaaa
/-- The row, under a short name, for the claim. -/
theorem fnExactProgSame_holds : Rows.FnExactProgSameSaid := fnExactProgSame.proved
end Go.Proofs.Ytgbmfkfmimpaaaa
