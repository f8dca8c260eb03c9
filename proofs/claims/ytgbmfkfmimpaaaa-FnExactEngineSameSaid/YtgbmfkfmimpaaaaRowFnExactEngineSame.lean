/- Proved: the law FnExactEngineSame answers true at every input, and each argument reads behind the call as before. No condition beyond the row's own. -/
import Derived.Test.YtgbmfkfmimpaaaaRows
import Derived.Test.YtgbmfkfmimpaaaaPFnExactEngineSamex10
import Derived.Test.YtgbmfkfmimpaaaaPureFnExactEngineSame
import Derived.Test.YtgbmfkfmimpaaaaVFnExactEngineSamea
import Derived.WalkKit
import Derived.ProofKit
import Derived.OpenShut
import Derived.ShutString
import Derived.ChangeOld
import Derived.Below
import Derived.SizedLaws
namespace Go.Proofs.Ytgbmfkfmimpaaaa.fnExactEngineSame
open Go.ChangeShapes Go.WideShapes Go.ChangeAt Go.RowKit Go.Proofs.Ytgbmfkfmimpaaaa.Opn Go.Proofs.YtgbmfkfmimpaaaaW.PrintWords Go.Proofs.Ytgbmfkfmimpaaaa.PFnExactEngineSame
open Go.ChangeMaps (open_string shut_string)
set_option linter.unusedVariables false
theorem own : ownKnob Try.prog.godebug = none := by kernel_rfl
theorem laidOut : laidOutB Try.prog = true := by kernel_rfl
theorem opnS46 : Opn Try.prog 46 (Kd.pair (Kd.slice 3 (Kd.int .i64)) (Kd.pair (Kd.int .i64) (Kd.pair (Kd.int .i64) (Kd.pair (Kd.int .i64) (Kd.slice 3 (Kd.int .i64)))))) (fun x_ => ((x_.1.length ≤ maxLen ∧ ∀ x0 ∈ x_.1, (Lit.int .i64 x0).wf = true) ∧ (Lit.int .i64 x_.2.1).wf = true ∧ (Lit.int .i64 x_.2.2.1).wf = true ∧ (Lit.int .i64 x_.2.2.2.1).wf = true ∧ (x_.2.2.2.2.length ≤ maxLen ∧ ∀ x0 ∈ x_.2.2.2.2, (Lit.int .i64 x0).wf = true))) := opn_struct Try.underlying46 (by kernel_rfl) (opn_more rfl (by kernel_rfl) rfl (opn_slice Try.underlying32 (by kernel_rfl) (opn_int Try.underlying3)) (opn_more rfl (by kernel_rfl) rfl (opn_int Try.underlying3) (opn_more rfl (by kernel_rfl) rfl (opn_int Try.underlying3) (opn_more rfl (by kernel_rfl) rfl (opn_int Try.underlying3) (opn_last rfl (by kernel_rfl) (opn_slice Try.underlying32 (by kernel_rfl) (opn_int Try.underlying3)))))))
theorem opnT147 : Opn Try.prog 147 (Kd.pair (Kd.int .i64) (Kd.int .i64)) (fun x_ => ((Lit.int .i64 x_.1).wf = true ∧ (Lit.int .i64 x_.2).wf = true)) := opn_struct Try.underlying147 (by kernel_rfl) (opn_more rfl (by kernel_rfl) rfl (opn_int Try.underlying3) (opn_last rfl (by kernel_rfl) (opn_int Try.underlying3)))
theorem opnE147 : Opn Try.prog 147 k147 (fun b => ((Lit.int .i64 b.f0).wf = true ∧ (Lit.int .i64 b.f1).wf = true)) := opn_iso (fun x_ => (⟨x_.1, x_.2⟩ : S147)) (fun _ => rfl) opnT147
theorem opnT145 : Opn Try.prog 145 (Kd.pair (Kd.int .i64) (Kd.pair (Kd.int .i64) (Kd.pair (Kd.slice 147 k147) (Kd.slice 147 k147)))) (fun x_ => ((Lit.int .i64 x_.1).wf = true ∧ (Lit.int .i64 x_.2.1).wf = true ∧ (x_.2.2.1.length ≤ maxLen ∧ ∀ x0 ∈ x_.2.2.1, ((Lit.int .i64 x0.f0).wf = true ∧ (Lit.int .i64 x0.f1).wf = true)) ∧ (x_.2.2.2.length ≤ maxLen ∧ ∀ x0 ∈ x_.2.2.2, ((Lit.int .i64 x0.f0).wf = true ∧ (Lit.int .i64 x0.f1).wf = true)))) := opn_struct Try.underlying145 (by kernel_rfl) (opn_more rfl (by kernel_rfl) rfl (opn_int Try.underlying3) (opn_more rfl (by kernel_rfl) rfl (opn_int Try.underlying3) (opn_more rfl (by kernel_rfl) rfl (opn_slice Try.underlying50 (by kernel_rfl) opnE147) (opn_last rfl (by kernel_rfl) (opn_slice Try.underlying50 (by kernel_rfl) opnE147)))))
theorem opnE145 : Opn Try.prog 145 k145 (fun b => ((Lit.int .i64 b.f0).wf = true ∧ (Lit.int .i64 b.f1).wf = true ∧ (b.f2.length ≤ maxLen ∧ ∀ x0 ∈ b.f2, ((Lit.int .i64 x0.f0).wf = true ∧ (Lit.int .i64 x0.f1).wf = true)) ∧ (b.f3.length ≤ maxLen ∧ ∀ x0 ∈ b.f3, ((Lit.int .i64 x0.f0).wf = true ∧ (Lit.int .i64 x0.f1).wf = true)))) := opn_iso (fun x_ => (⟨x_.1, x_.2.1, x_.2.2.1, x_.2.2.2⟩ : S145)) (fun _ => rfl) opnT145
theorem opnS53 : Opn Try.prog 53 (Kd.pair (Kd.pair (Kd.slice 3 (Kd.int .i64)) (Kd.pair (Kd.int .i64) (Kd.pair (Kd.int .i64) (Kd.pair (Kd.int .i64) (Kd.slice 3 (Kd.int .i64)))))) (Kd.pair (Kd.slice 147 k147) (Kd.pair (Kd.slice 145 k145) (Kd.pair (Kd.slice 3 (Kd.int .i64)) (Kd.pair (Kd.int .i64) (Kd.pair (Kd.int .i64) (Kd.int .i64))))))) (fun x_ => (((x_.1.1.length ≤ maxLen ∧ ∀ x0 ∈ x_.1.1, (Lit.int .i64 x0).wf = true) ∧ (Lit.int .i64 x_.1.2.1).wf = true ∧ (Lit.int .i64 x_.1.2.2.1).wf = true ∧ (Lit.int .i64 x_.1.2.2.2.1).wf = true ∧ (x_.1.2.2.2.2.length ≤ maxLen ∧ ∀ x0 ∈ x_.1.2.2.2.2, (Lit.int .i64 x0).wf = true)) ∧ (x_.2.1.length ≤ maxLen ∧ ∀ x0 ∈ x_.2.1, ((Lit.int .i64 x0.f0).wf = true ∧ (Lit.int .i64 x0.f1).wf = true)) ∧ (x_.2.2.1.length ≤ maxLen ∧ ∀ x0 ∈ x_.2.2.1, ((Lit.int .i64 x0.f0).wf = true ∧ (Lit.int .i64 x0.f1).wf = true ∧ (x0.f2.length ≤ maxLen ∧ ∀ x1 ∈ x0.f2, ((Lit.int .i64 x1.f0).wf = true ∧ (Lit.int .i64 x1.f1).wf = true)) ∧ (x0.f3.length ≤ maxLen ∧ ∀ x1 ∈ x0.f3, ((Lit.int .i64 x1.f0).wf = true ∧ (Lit.int .i64 x1.f1).wf = true)))) ∧ (x_.2.2.2.1.length ≤ maxLen ∧ ∀ x0 ∈ x_.2.2.2.1, (Lit.int .i64 x0).wf = true) ∧ (Lit.int .i64 x_.2.2.2.2.1).wf = true ∧ (Lit.int .i64 x_.2.2.2.2.2.1).wf = true ∧ (Lit.int .i64 x_.2.2.2.2.2.2).wf = true)) := opn_struct Try.underlying53 (by kernel_rfl) (opn_more rfl (by kernel_rfl) rfl opnS46 (opn_more rfl (by kernel_rfl) rfl (opn_slice Try.underlying50 (by kernel_rfl) opnE147) (opn_more rfl (by kernel_rfl) rfl (opn_slice Try.underlying51 (by kernel_rfl) opnE145) (opn_more rfl (by kernel_rfl) rfl (opn_slice Try.underlying32 (by kernel_rfl) (opn_int Try.underlying3)) (opn_more rfl (by kernel_rfl) rfl (opn_int Try.underlying3) (opn_more rfl (by kernel_rfl) rfl (opn_int Try.underlying3) (opn_last rfl (by kernel_rfl) (opn_int Try.underlying3))))))))
set_option maxRecDepth 100000 in
theorem lifted (os : Os) (started : os.Started) (H : Type) (enc : TypeId × Value → H) :
    ReturnsInHanded {} Try.checked os 11 .any (Rows.fnExactEngineSameSpec.pre6 enc Try.prog Try.f11 Rows.fnExactEngineSameRow.domain false) (Rows.fnExactEngineSameSpec.post enc Try.prog Try.f11 false true false false) := by
  refine returnsInHanded_of_change_sized (C := Try.checked) own started (by kernel_rfl) Try.func11
    (ChangeSpec.witness6 (enc := enc) (C := Try.checked) false ⟨#[], #[.agg #[.slice none 0 0, .int .i64 0, .int .i64 0, .int .i64 0, .slice none 0 0, .slice none 0 0, .slice none 0 0, .slice none 0 0, .int .i64 0, .int .i64 0, .int .i64 0], .agg #[.slice none 0 0, .int .i64 0, .int .i64 0, .int .i64 0, .slice none 0 0, .slice none 0 0, .slice none 0 0, .slice none 0 0, .int .i64 0, .int .i64 0, .int .i64 0]], []⟩ 8 (by kernel_rfl) (by kernel_rfl) (by kernel_rfl) (by kernel_rfl)) ?_
  intro W base args ds gs before hval0 hW hcnd hsz0 _
  have hval : ∀ (j : Nat) t v, Try.f11.params[j]? = some t → args[j]? = some v → Value.okWide Try.prog W .any base t v := hval0
  have hsz : (DataW.weightsEach Try.prog (Try.f11.params.toList ++ Rows.fnExactEngineSameSpec.plain.varTypes Try.prog) (ds ++ gs)).all (· ≤ reachBytes) = true := hsz0
  have hW' := hW
  obtain ⟨p, q, hA0, hV, rfl, hfz, hnd⟩ := hW
  have hA : DataW.TrodAll enc Try.prog W 0 (fun _ => true) true Try.f11.params.toList args.toList ds p := hA0
  rw [Try.params11] at hA hval hsz
  obtain ⟨v0, vs0, d0, ds0, p0, q0, hargs, rfl, rfl, h0, r0⟩ := trodAll_cons hA
  obtain ⟨v1, vs1, d1, ds1, p1, q1, rfl, rfl, rfl, h1, r1⟩ := trodAll_cons r0
  obtain ⟨rfl, rfl, rfl⟩ := trodAll_nil r1
  obtain rfl : args = #[v0, v1] := by cases args; simp_all
  obtain ⟨rfl, rfl⟩ := trodVars_none hV
  have k0 := h0
  have lt0 : ∀ x ∈ p0, x.block < W.heap.size := by obtain ⟨m, hm⟩ := k0; exact DataW.trod_lt m _ _ _ hm
  obtain ⟨cs0, rfl, hcs0⟩ := okWide_struct Try.underlying53 (hval 0 53 v0 rfl rfl)
  obtain ⟨⟨⟨l0_0, ⟨a0_1, ⟨a0_2, ⟨a0_3, l0_4⟩⟩⟩⟩, ⟨l0_5, ⟨l0_6, ⟨l0_7, ⟨a0_8, ⟨a0_9, a0_10⟩⟩⟩⟩⟩⟩, ⟨c0_5, d0_5, eK0, ⟨c0_1, d0_1, rfl, ⟨A0_0, c0_0, rfl, hc0_0, hr0_0⟩, ⟨c0_2, d0_2, rfl, rfl, ⟨c0_3, d0_3, rfl, rfl, ⟨c0_4, d0_4, rfl, rfl, ⟨A0_4, c0_4, rfl, hc0_4, hr0_4⟩⟩⟩⟩⟩, ⟨c0_6, d0_6, rfl, ⟨A0_5, c0_5, rfl, hc0_5, hr0_5⟩, ⟨c0_7, d0_7, rfl, ⟨A0_6, c0_6, rfl, hc0_6, hr0_6⟩, ⟨c0_8, d0_8, rfl, ⟨A0_7, c0_7, rfl, hc0_7, hr0_7⟩, ⟨c0_9, d0_9, rfl, rfl, ⟨c0_10, d0_10, rfl, rfl, rfl⟩⟩⟩⟩⟩⟩, ⟨⟨g0_0, ⟨g0_1, ⟨g0_2, ⟨g0_3, g0_4⟩⟩⟩⟩, ⟨g0_5, ⟨g0_6, ⟨g0_7, ⟨g0_8, ⟨g0_9, g0_10⟩⟩⟩⟩⟩⟩⟩ := Opn.get opnS53 h0
  obtain rfl : cs0 = #[.slice A0_0 l0_0.length c0_0, .int .i64 a0_1, .int .i64 a0_2, .int .i64 a0_3, .slice A0_4 l0_4.length c0_4, .slice A0_5 l0_5.length c0_5, .slice A0_6 l0_6.length c0_6, .slice A0_7 l0_7.length c0_7, .int .i64 a0_8, .int .i64 a0_9, .int .i64 a0_10] := by apply Array.ext'; simpa [Value.cells] using eK0
  have k1 := h1
  have lt1 : ∀ x ∈ p1, x.block < W.heap.size := by obtain ⟨m, hm⟩ := k1; exact DataW.trod_lt m _ _ _ hm
  obtain ⟨cs1, rfl, hcs1⟩ := okWide_struct Try.underlying53 (hval 1 53 v1 rfl rfl)
  obtain ⟨⟨⟨l1_0, ⟨a1_1, ⟨a1_2, ⟨a1_3, l1_4⟩⟩⟩⟩, ⟨l1_5, ⟨l1_6, ⟨l1_7, ⟨a1_8, ⟨a1_9, a1_10⟩⟩⟩⟩⟩⟩, ⟨c1_5, d1_5, eK1, ⟨c1_1, d1_1, rfl, ⟨A1_0, c1_0, rfl, hc1_0, hr1_0⟩, ⟨c1_2, d1_2, rfl, rfl, ⟨c1_3, d1_3, rfl, rfl, ⟨c1_4, d1_4, rfl, rfl, ⟨A1_4, c1_4, rfl, hc1_4, hr1_4⟩⟩⟩⟩⟩, ⟨c1_6, d1_6, rfl, ⟨A1_5, c1_5, rfl, hc1_5, hr1_5⟩, ⟨c1_7, d1_7, rfl, ⟨A1_6, c1_6, rfl, hc1_6, hr1_6⟩, ⟨c1_8, d1_8, rfl, ⟨A1_7, c1_7, rfl, hc1_7, hr1_7⟩, ⟨c1_9, d1_9, rfl, rfl, ⟨c1_10, d1_10, rfl, rfl, rfl⟩⟩⟩⟩⟩⟩, ⟨⟨g1_0, ⟨g1_1, ⟨g1_2, ⟨g1_3, g1_4⟩⟩⟩⟩, ⟨g1_5, ⟨g1_6, ⟨g1_7, ⟨g1_8, ⟨g1_9, g1_10⟩⟩⟩⟩⟩⟩⟩ := Opn.get opnS53 h1
  obtain rfl : cs1 = #[.slice A1_0 l1_0.length c1_0, .int .i64 a1_1, .int .i64 a1_2, .int .i64 a1_3, .slice A1_4 l1_4.length c1_4, .slice A1_5 l1_5.length c1_5, .slice A1_6 l1_6.length c1_6, .slice A1_7 l1_7.length c1_7, .int .i64 a1_8, .int .i64 a1_9, .int .i64 a1_10] := by apply Array.ext'; simpa [Value.cells] using eK1
  obtain ⟨k, hf⟩ := Pure.FnExactEngineSame l0_0 a0_1 a0_2 a0_3 l0_4 l0_5 l0_6 l0_7 a0_8 a0_9 a0_10 l1_0 a1_1 a1_2 a1_3 l1_4 l1_5 l1_6 l1_7 a1_8 a1_9 a1_10 g0_0 g0_1 g0_2 g0_3 g0_4 g0_5 g0_6 g0_7 g0_8 g0_9 g0_10 g1_0 g1_1 g1_2 g1_3 g1_4 g1_5 g1_6 g1_7 g1_8 g1_9 g1_10
  clear hA0 hval0 hsz0 hsz
  refine (laws_FnExactEngineSame.calls k _ _ l0_0 a0_1 a0_2 a0_3 _ _ l0_4 _ _ l0_5 _ _ l0_6 _ _ l0_7 a0_8 a0_9 a0_10 _ _ l1_0 a1_1 a1_2 a1_3 _ _ l1_4 _ _ l1_5 _ _ l1_6 _ _ l1_7 a1_8 a1_9 a1_10 true W hr0_0 hc0_0 hr0_4 hc0_4 hr0_5 hc0_5 hr0_6 hc0_6 hr0_7 hc0_7 hr1_0 hc1_0 hr1_4 hc1_4 hr1_5 hc1_5 hr1_6 hc1_6 hr1_7 hc1_7 rfl hf).mono fun e W' ⟨he, bel0⟩ => ?_
  have bel := bel0
  subst he
  exact ⟨_, rfl, _, _, _, [], _, [], hW', trodAll_mk1 (shut_bool Try.underlying4 _), (trodAll_cons_mk (Below.trod laidOut (by kernel_rfl) (of_decide_eq_true (by kernel_rfl)) k0 bel lt0) (trodAll_cons_mk (Below.trod laidOut (by kernel_rfl) (of_decide_eq_true (by kernel_rfl)) k1 bel lt1) trodAll_mk0)), rfl, bel.frame _, fun h => by cases h⟩
theorem over : Rows.fnExactEngineSameRow.holds Try.pinned (OpenSpec.ofChange Rows.fnExactEngineSameSpec) :=
  OpenClaim.holds_of_wide 11 Try.f11 rfl rfl rfl rfl rfl rfl rfl ⟨rfl, rfl, rfl, rfl, rfl⟩ rfl rfl rfl rfl rfl (by kernel_rfl) Try.func11 (by kernel_rfl)
    (of_decide_eq_true (by kernel_rfl)) (by unfold Func.isWrapper; first | (rw [if_pos (by decide +kernel)]; kernel_rfl) | (rw [if_neg (by decide +kernel)]; exact ⟨rfl, rfl⟩))
    (fun os started H enc _ => lifted os started H enc)
theorem proved : Rows.FnExactEngineSameSaid := over
end Go.Proofs.Ytgbmfkfmimpaaaa.fnExactEngineSame
namespace Go.Proofs.Ytgbmfkfmimpaaaa
/-- The row, under a short name, for the claim. -/
theorem fnExactEngineSame_holds : Rows.FnExactEngineSameSaid := fnExactEngineSame.proved
end Go.Proofs.Ytgbmfkfmimpaaaa
