/- Proved: the tied card of the law FnExactFieldText: the law answers true at every input, and each argument reads behind the call as before. Condition: the row's own: the listed tables of the library read as they are laid. -/
import Derived.Test.YthomfkdoaembbaaDoorHTab
import Derived.Test.YthomfkdoaembbaaDoorCards
import Derived.Test.YthomfkdoaembbaaDoorTie
import Derived.LaidMore
import Derived.Stop.Joined
import Derived.SevenTiedAt
import Derived.Test.YthomfkdoaembbaaDoorRows
import Derived.Test.YthomfkdoaembbaaDoorPFnExactFieldTextx1
import Derived.Test.YthomfkdoaembbaaDoorPureFnExactFieldText
import Derived.Test.YthomfkdoaembbaaDoorOpn
import Derived.WalkKit
import Derived.ProofKit
import Derived.OpenShut
import Derived.ShutString
import Derived.ChangeOld
import Derived.Below
import Derived.SizedLaws
namespace Go.Proofs.YthomfkdoaembbaaDoor.fnExactFieldText
open Go.ChangeShapes Go.WideShapes Go.ChangeAt Go.RowKit Go.Proofs.YthomfkdoaembbaaDoor.Opn Go.Proofs.YthomfkdoaembbaaDoorW.PrintWords Go.Proofs.YthomfkdoaembbaaDoor.PFnExactFieldText
open Go.ChangeMaps (open_string shut_string)
set_option linter.unusedVariables false
theorem own : ownKnob Tryd.prog.godebug = none := by kernel_rfl
theorem laidOut : laidOutB Tryd.prog = true := by kernel_rfl
theorem opnS41 : Opn Tryd.prog 41 (Kd.pair (Kd.int .i64) (Kd.pair (Kd.int .i64) Kd.bool)) (fun x_ => ((Lit.int .i64 x_.1).wf = true ∧ (Lit.int .i64 x_.2.1).wf = true ∧ True)) := opn_struct Tryd.underlying41 (by kernel_rfl) (opn_more rfl (by kernel_rfl) rfl (opn_int Tryd.underlying3) (opn_more rfl (by kernel_rfl) rfl (opn_int Tryd.underlying3) (opn_last rfl (by kernel_rfl) (opn_bool Tryd.underlying4))))
/-- The heap of the door's own run meets the condition. -/
theorem door_met (os : Os) (args : Array Value) : laidMetH Tryd.prog Rows.fnExactFieldTextRow.laid ((World.doorLaid Tryd.prog 34 os).forCall (fun _ _ => 0) ⟨#[], args, []⟩).memory :=
  laidMetH_of_parts3 (fuel := 8) (laidMet_of_run' 8 (by kernel_rfl) (by kernel_rfl)) (by kernel_rfl) (by kernel_rfl)
set_option maxRecDepth 100000 in
theorem lifted (os : Os) (started : os.Started) (H : Type) (enc : TypeId × Value → H) :
    ReturnsInHanded {} Tryd.checked os 7 .any (fun w args => (Rows.fnExactFieldTextSpec.pre enc Tryd.prog Tryd.f7 [] false w args ∧ laidMetH Tryd.prog Rows.fnExactFieldTextRow.laid w) ∧ sizedMet enc Tryd.prog Tryd.f7 (OpenSpec.ofChange Rows.fnExactFieldTextSpec) false w args) (Rows.fnExactFieldTextSpec.post enc Tryd.prog Tryd.f7 false true false false) := by
  refine returnsInHanded_of_change_and (C := Tryd.checked) (X := fun w _ => laidMetH Tryd.prog Rows.fnExactFieldTextRow.laid w) (fun _ _ _ hh h => h.of_heap hh) own started (by kernel_rfl) Tryd.func7
    (ChangeSpec.witness_shaped (enc := enc) (C := Tryd.checked) (os := os) (X := fun w _ => laidMetH Tryd.prog Rows.fnExactFieldTextRow.laid w) false (World.doorLaid Tryd.prog 34 os) #[.agg #[.int .i64 0, .int .i64 0, .bool false]] 8 rfl (World.shaped_of_RefB (by kernel_rfl) (by kernel_rfl)) (by kernel_rfl) (by kernel_rfl) (by kernel_rfl) (door_met os _)) ?_
  intro W base args ds gs before hval0 hW hcnd hsz0 hL _
  have hT : Tab W := tab_of_laid (rest := _) hL (by kernel_rfl)
  have hval : ∀ (j : Nat) t v, Tryd.f7.params[j]? = some t → args[j]? = some v → Value.okWide Tryd.prog W .any base t v := hval0
  have hsz : (DataW.weightsEach Tryd.prog (Tryd.f7.params.toList ++ Rows.fnExactFieldTextSpec.plain.varTypes Tryd.prog) (ds ++ gs)).all (· ≤ reachBytes) = true := hsz0
  have hW' := hW
  obtain ⟨p, q, hA0, hV, rfl, hfz, hnd⟩ := hW
  have hA : DataW.TrodAll enc Tryd.prog W 0 (fun _ => true) true Tryd.f7.params.toList args.toList ds p := hA0
  rw [Tryd.params7] at hA hval hsz
  obtain ⟨v0, vs0, d0, ds0, p0, q0, hargs, rfl, rfl, h0, r0⟩ := trodAll_cons hA
  obtain ⟨rfl, rfl, rfl⟩ := trodAll_nil r0
  obtain rfl : args = #[v0] := by cases args; simp_all
  obtain ⟨rfl, rfl⟩ := trodVars_none hV
  have k0 := h0
  have lt0 : ∀ x ∈ p0, x.block < W.heap.size := by obtain ⟨m, hm⟩ := k0; exact DataW.trod_lt m _ _ _ hm
  obtain ⟨cs0, rfl, hcs0⟩ := okWide_struct Tryd.underlying41 (hval 0 41 v0 rfl rfl)
  obtain ⟨⟨a0_0, ⟨a0_1, a0_2⟩⟩, ⟨c0_1, d0_1, eK0, rfl, ⟨c0_2, d0_2, rfl, rfl, rfl⟩⟩, ⟨g0_0, ⟨g0_1, _⟩⟩⟩ := Opn.get opnS41 h0
  obtain rfl : cs0 = #[.int .i64 a0_0, .int .i64 a0_1, .bool a0_2] := by apply Array.ext'; simpa [Value.cells] using eK0
  obtain ⟨k, hf⟩ := Pure.FnExactFieldText a0_0 a0_1 a0_2 g0_0 g0_1
  clear hA0 hval0 hsz0 hsz
  refine (laws_FnExactFieldText.calls k a0_0 a0_1 a0_2 true W hT rfl hf).mono fun e W' ⟨he, bel0⟩ => ?_
  have bel := bel0
  subst he
  exact ⟨_, rfl, _, _, _, [], _, [], hW', trodAll_mk1 (shut_bool Tryd.underlying4 _), (trodAll_cons_mk (Below.trod laidOut (by kernel_rfl) (of_decide_eq_true (by kernel_rfl)) k0 bel lt0) trodAll_mk0), rfl, bel.frame _, fun h => by cases h⟩
theorem over : Rows.fnExactFieldTextRow.holds Tryd.pinned (OpenSpec.ofChange Rows.fnExactFieldTextSpec) :=
  OpenClaim.holds_of_wide 7 Tryd.f7 rfl rfl rfl rfl rfl rfl rfl ⟨rfl, rfl, rfl, rfl, rfl⟩ rfl rfl rfl rfl rfl (by kernel_rfl) Tryd.func7 (by kernel_rfl)
    (of_decide_eq_true (by kernel_rfl)) (by unfold Func.isWrapper; first | (rw [if_pos (by decide +kernel)]; kernel_rfl) | (rw [if_neg (by decide +kernel)]; exact ⟨rfl, rfl⟩))
    (fun os started H enc _ => lifted os started H enc)
theorem proved : Rows.FnExactFieldTextSaid := over
end Go.Proofs.YthomfkdoaembbaaDoor.fnExactFieldText
namespace Go.Proofs.YthomfkdoaembbaaDoor
open Go
/-- The tied card. -/
theorem fnExactFieldText_holds : Rows.FnExactFieldTextCardSaid :=
  Claim7.holds_tied_plain_at .later [] [.data, .data, .data] true (true, "97d8c738457e999804cd0337d1a4a2dd508650e8e297000f91bc3f2376ba88c0") false
    fnExactFieldText.proved (fun _ h => by cases h) (by kernel_rfl) (fun _ h => by cases h) fnExactFieldText_row_tie rfl ⟨rfl, rfl⟩ (by kernel_rfl) rfl
    (fun f fn hf hfn => by
      obtain rfl : f = 7 := Option.some.inj ((show Tryd.prog.funcNamed "loop.example/lairage/laws.FnExactFieldText" = some 7 by kernel_rfl).symm.trans hf) |>.symm
      obtain rfl : fn = Tryd.f7 := (Option.some.inj (Tryd.func7.symm.trans hfn)).symm
      exact ⟨by kernel_rfl, fun j t ht => by
        rw [Tryd.params7] at ht
        have hm : t ∈ ([41] : List TypeId) := by simpa using Array.mem_of_getElem? ht
        have hall : (([41] : List TypeId).all fun u => !Tryd.prog.wantsStandIn u) = true := by kernel_rfl
        exact (show Tryd.prog.wantsStandIn t = false by simpa using List.all_eq_true.1 hall t hm)⟩)
    (by kernel_rfl)
end Go.Proofs.YthomfkdoaembbaaDoor
