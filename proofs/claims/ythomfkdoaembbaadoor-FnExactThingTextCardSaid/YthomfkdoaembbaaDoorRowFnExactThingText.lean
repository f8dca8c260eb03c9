/- Proved: the tied card of the law FnExactThingText: the law answers true at every input, and each argument reads behind the call as before. Condition: the row's own: the listed tables of the library read as they are laid. -/
import Derived.Test.YthomfkdoaembbaaDoorHTab
import Derived.Test.YthomfkdoaembbaaDoorCards
import Derived.Test.YthomfkdoaembbaaDoorTie
import Derived.LaidMore
import Derived.Stop.Joined
import Derived.SevenTiedAt
import Derived.Test.YthomfkdoaembbaaDoorRows
import Derived.Test.YthomfkdoaembbaaDoorPFnExactThingTextx2
import Derived.Test.YthomfkdoaembbaaDoorPureFnExactThingText
import Derived.Test.YthomfkdoaembbaaDoorOpn
import Derived.WalkKit
import Derived.ProofKit
import Derived.OpenShut
import Derived.ShutString
import Derived.ChangeOld
import Derived.Below
import Derived.SizedLaws
namespace Go.Proofs.YthomfkdoaembbaaDoor.fnExactThingText
open Go.ChangeShapes Go.WideShapes Go.ChangeAt Go.RowKit Go.Proofs.YthomfkdoaembbaaDoor.Opn Go.Proofs.YthomfkdoaembbaaDoorW.PrintWords Go.Proofs.YthomfkdoaembbaaDoor.PFnExactThingText
open Go.ChangeMaps (open_string shut_string)
set_option linter.unusedVariables false
theorem own : ownKnob Tryd.prog.godebug = none := by kernel_rfl
theorem laidOut : laidOutB Tryd.prog = true := by kernel_rfl
theorem opnT120 : Opn Tryd.prog 120 (Kd.pair (Kd.int .i64) (Kd.int .i64)) (fun x_ => ((Lit.int .i64 x_.1).wf = true ∧ (Lit.int .i64 x_.2).wf = true)) := opn_struct Tryd.underlying120 (by kernel_rfl) (opn_more rfl (by kernel_rfl) rfl (opn_int Tryd.underlying3) (opn_last rfl (by kernel_rfl) (opn_int Tryd.underlying3)))
theorem opnE120 : Opn Tryd.prog 120 k120 (fun b => ((Lit.int .i64 b.f0).wf = true ∧ (Lit.int .i64 b.f1).wf = true)) := opn_iso (fun x_ => (⟨x_.1, x_.2⟩ : S120)) (fun _ => rfl) opnT120
theorem opnS60 : Opn Tryd.prog 60 (Kd.pair (Kd.int .i64) (Kd.slice 120 k120)) (fun x_ => ((Lit.int .i64 x_.1).wf = true ∧ (x_.2.length ≤ maxLen ∧ ∀ x0 ∈ x_.2, ((Lit.int .i64 x0.f0).wf = true ∧ (Lit.int .i64 x0.f1).wf = true)))) := opn_struct Tryd.underlying60 (by kernel_rfl) (opn_more rfl (by kernel_rfl) rfl (opn_int Tryd.underlying3) (opn_last rfl (by kernel_rfl) (opn_slice Tryd.underlying58 (by kernel_rfl) opnE120)))
/-- The heap of the door's own run meets the condition. -/
theorem door_met (os : Os) (args : Array Value) : laidMetH Tryd.prog Rows.fnExactThingTextRow.laid ((World.doorLaid Tryd.prog 34 os).forCall (fun _ _ => 0) ⟨#[], args, []⟩).memory :=
  laidMetH_of_parts3 (fuel := 8) (laidMet_of_run' 8 (by kernel_rfl) (by kernel_rfl)) (by kernel_rfl) (by kernel_rfl)
set_option maxRecDepth 100000 in
theorem lifted (os : Os) (started : os.Started) (H : Type) (enc : TypeId × Value → H) :
    ReturnsInHanded {} Tryd.checked os 11 .any (fun w args => (Rows.fnExactThingTextSpec.pre enc Tryd.prog Tryd.f11 [] false w args ∧ laidMetH Tryd.prog Rows.fnExactThingTextRow.laid w) ∧ sizedMet enc Tryd.prog Tryd.f11 (OpenSpec.ofChange Rows.fnExactThingTextSpec) false w args) (Rows.fnExactThingTextSpec.post enc Tryd.prog Tryd.f11 false true false false) := by
  refine returnsInHanded_of_change_and (C := Tryd.checked) (X := fun w _ => laidMetH Tryd.prog Rows.fnExactThingTextRow.laid w) (fun _ _ _ hh h => h.of_heap hh) own started (by kernel_rfl) Tryd.func11
    (ChangeSpec.witness_shaped (enc := enc) (C := Tryd.checked) (os := os) (X := fun w _ => laidMetH Tryd.prog Rows.fnExactThingTextRow.laid w) false (World.doorLaid Tryd.prog 34 os) #[.agg #[.int .i64 0, .slice none 0 0]] 8 rfl (World.shaped_of_RefB (by kernel_rfl) (by kernel_rfl)) (by kernel_rfl) (by kernel_rfl) (by kernel_rfl) (door_met os _)) ?_
  intro W base args ds gs before hval0 hW hcnd hsz0 hL _
  have hT : Tab W := tab_of_laid (rest := _) hL (by kernel_rfl)
  have hval : ∀ (j : Nat) t v, Tryd.f11.params[j]? = some t → args[j]? = some v → Value.okWide Tryd.prog W .any base t v := hval0
  have hsz : (DataW.weightsEach Tryd.prog (Tryd.f11.params.toList ++ Rows.fnExactThingTextSpec.plain.varTypes Tryd.prog) (ds ++ gs)).all (· ≤ reachBytes) = true := hsz0
  have hW' := hW
  obtain ⟨p, q, hA0, hV, rfl, hfz, hnd⟩ := hW
  have hA : DataW.TrodAll enc Tryd.prog W 0 (fun _ => true) true Tryd.f11.params.toList args.toList ds p := hA0
  rw [Tryd.params11] at hA hval hsz
  obtain ⟨v0, vs0, d0, ds0, p0, q0, hargs, rfl, rfl, h0, r0⟩ := trodAll_cons hA
  obtain ⟨rfl, rfl, rfl⟩ := trodAll_nil r0
  obtain rfl : args = #[v0] := by cases args; simp_all
  obtain ⟨rfl, rfl⟩ := trodVars_none hV
  have k0 := h0
  have lt0 : ∀ x ∈ p0, x.block < W.heap.size := by obtain ⟨m, hm⟩ := k0; exact DataW.trod_lt m _ _ _ hm
  obtain ⟨cs0, rfl, hcs0⟩ := okWide_struct Tryd.underlying60 (hval 0 60 v0 rfl rfl)
  obtain ⟨⟨a0_0, l0_1⟩, ⟨c0_1, d0_1, eK0, rfl, ⟨A0_1, c0_1, rfl, hc0_1, hr0_1⟩⟩, ⟨g0_0, g0_1⟩⟩ := Opn.get opnS60 h0
  obtain rfl : cs0 = #[.int .i64 a0_0, .slice A0_1 l0_1.length c0_1] := by apply Array.ext'; simpa [Value.cells] using eK0
  obtain ⟨k, hf⟩ := Pure.FnExactThingText a0_0 l0_1 g0_0 g0_1
  clear hA0 hval0 hsz0 hsz
  refine (laws_FnExactThingText.calls k a0_0 _ _ l0_1 true W hT hr0_1 hc0_1 rfl hf).mono fun e W' ⟨he, bel0⟩ => ?_
  have bel := bel0
  subst he
  exact ⟨_, rfl, _, _, _, [], _, [], hW', trodAll_mk1 (shut_bool Tryd.underlying4 _), (trodAll_cons_mk (Below.trod laidOut (by kernel_rfl) (of_decide_eq_true (by kernel_rfl)) k0 bel lt0) trodAll_mk0), rfl, bel.frame _, fun h => by cases h⟩
theorem over : Rows.fnExactThingTextRow.holds Tryd.pinned (OpenSpec.ofChange Rows.fnExactThingTextSpec) :=
  OpenClaim.holds_of_wide 11 Tryd.f11 rfl rfl rfl rfl rfl rfl rfl ⟨rfl, rfl, rfl, rfl, rfl⟩ rfl rfl rfl rfl rfl (by kernel_rfl) Tryd.func11 (by kernel_rfl)
    (of_decide_eq_true (by kernel_rfl)) (by unfold Func.isWrapper; first | (rw [if_pos (by decide +kernel)]; kernel_rfl) | (rw [if_neg (by decide +kernel)]; exact ⟨rfl, rfl⟩))
    (fun os started H enc _ => lifted os started H enc)
theorem proved : Rows.FnExactThingTextSaid := over
end Go.Proofs.YthomfkdoaembbaaDoor.fnExactThingText
namespace Go.Proofs.YthomfkdoaembbaaDoor
open Go
/-- The tied card. -/
theorem fnExactThingText_holds : Rows.FnExactThingTextCardSaid :=
  Claim7.holds_tied_plain_at .later [] [.data, .data, .data] true (true, "97d8c738457e999804cd0337d1a4a2dd508650e8e297000f91bc3f2376ba88c0") false
    fnExactThingText.proved (fun _ h => by cases h) (by kernel_rfl) (fun _ h => by cases h) fnExactThingText_row_tie rfl ⟨rfl, rfl⟩ (by kernel_rfl) rfl
    (fun f fn hf hfn => by
      obtain rfl : f = 11 := Option.some.inj ((show Tryd.prog.funcNamed "loop.example/lairage/laws.FnExactThingText" = some 11 by kernel_rfl).symm.trans hf) |>.symm
      obtain rfl : fn = Tryd.f11 := (Option.some.inj (Tryd.func11.symm.trans hfn)).symm
      exact ⟨by kernel_rfl, fun j t ht => by
        rw [Tryd.params11] at ht
        have hm : t ∈ ([60] : List TypeId) := by simpa using Array.mem_of_getElem? ht
        have hall : (([60] : List TypeId).all fun u => !Tryd.prog.wantsStandIn u) = true := by kernel_rfl
        exact (show Tryd.prog.wantsStandIn t = false by simpa using List.all_eq_true.1 hall t hm)⟩)
    (by kernel_rfl)
end Go.Proofs.YthomfkdoaembbaaDoor
