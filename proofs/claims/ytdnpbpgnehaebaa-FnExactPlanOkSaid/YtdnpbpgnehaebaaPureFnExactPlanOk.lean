/- Proved: the law FnExactPlanOk answers true: the program's PlanOk and the reference's agree at every plan. No condition. -/
import Derived.Test.YtdnpbpgnehaebaaPFnExactPlanOkx1
namespace Go.Proofs.Ytdnpbpgnehaebaa.Pure
open Go.RowKit Go.Proofs.Ytdnpbpgnehaebaa.PFnExactPlanOk Go.Proofs.YtdnpbpgnehaebaaW.PrintWords Go.Proofs.YtdnpbpgnehaebaaW.PrintLast
theorem plan_some (a b c d : Int) : ∃ r, spec_PlanOk.f a b c d = some r := by
  unfold spec_PlanOk.f
  repeat' (first | exact ⟨_, rfl⟩ | split)
theorem FnExactPlanOk : laws_FnExactPlanOk.Pure := by
  intro a b c d _ _ _ _
  obtain ⟨r, h⟩ := plan_some a b c d
  have h2 : impl_PlanOk.f a b c d = some r := h
  unfold laws_FnExactPlanOk.f laws_toPlan.f
  simp only [Option.bind_some, h, h2]
  simp
end Go.Proofs.Ytdnpbpgnehaebaa.Pure
