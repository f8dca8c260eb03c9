/- Proved: the law FnExactConstants answers true: each constant of the program has the document's value. No condition. -/
import Derived.Test.YtgbmfkfmimpaaaaPFnExactConstantsx1
namespace Go.Proofs.Ytgbmfkfmimpaaaa.Pure
open Go.RowKit Go.Proofs.Ytgbmfkfmimpaaaa.PFnExactConstants Go.Proofs.YtgbmfkfmimpaaaaW.PrintWords Go.Proofs.YtgbmfkfmimpaaaaW.PrintLast

theorem FnExactConstants : laws_FnExactConstants.Pure := rfl

end Go.Proofs.Ytgbmfkfmimpaaaa.Pure
