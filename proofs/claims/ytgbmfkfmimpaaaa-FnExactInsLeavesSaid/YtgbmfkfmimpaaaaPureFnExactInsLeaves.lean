/- Proved: the law FnExactInsLeaves answers true: the program's InsLeaves and the reference's agree at every instruction. No condition. -/
import Derived.Test.YtgbmfkfmimpaaaaPFnExactInsLeavesx1
namespace Go.Proofs.Ytgbmfkfmimpaaaa.Pure
open Go.RowKit Go.Proofs.Ytgbmfkfmimpaaaa.PFnExactInsLeaves Go.Proofs.YtgbmfkfmimpaaaaW.PrintWords Go.Proofs.YtgbmfkfmimpaaaaW.PrintLast
theorem leaves_some (a b c : Int) : ∃ r, spec_InsLeaves.f a b c = some r := by
  unfold spec_InsLeaves.f
  repeat' (first | exact ⟨_, rfl⟩ | split)
theorem FnExactInsLeaves : laws_FnExactInsLeaves.Pure := by
  intro a b c _ _ _
  obtain ⟨r, h⟩ := leaves_some a b c
  have h2 : impl_InsLeaves.f a b c = some r := h
  unfold laws_FnExactInsLeaves.f laws_toIns.f
  simp only [Option.bind_some, h, h2]
  simp
end Go.Proofs.Ytgbmfkfmimpaaaa.Pure
