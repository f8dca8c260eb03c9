/- Functions of the program as plain Lean functions, and that the machine's calls come to what these tell: by the kit's print, turned by this session (NOTES.md). No condition beyond each theorem's own. -/
import Derived.Test.YtgbmfkfmimpaaaaProg
import Derived.Test.YtgbmfkfmimpaaaaAid
import Derived.Below
import Derived.Deep.Draws
import Derived.Deep.AppendLies
import Derived.Maps.AppendAt
import Derived.OwnWalk
import Derived.Laws.BytesArg
import Derived.Laws.MakeOwn
import Derived.Laws.OwnMore
import Derived.Deep.OwnRows
import Derived.Tactics
import Derived.Lib.ConvBytes
import Derived.Laws.Slices
import Derived.WalkKit
import Derived.KernelRfl
import Derived.RowKit3
import Derived.Deep.LoopGhost
import Derived.Deep.QuietTactic
import Derived.BigQuiet
import Derived.WideLaws
import Derived.Deep.DeepCutAuto
import Derived.Deep.CutBlock
import Derived.Deep.RegionHeld3
import Derived.Laws.Rows
import Derived.Lib.AppendStr
import Derived.ArgAppend
import Derived.Laws.IdiomCopy
import Derived.OrdersHeld
import Derived.Laws.BitsLemmas
import Derived.RowKit
import Derived.Test.YtgbmfkfmimpaaaaWWords
import Derived.Test.YtgbmfkfmimpaaaaWLast
import Derived.Test.YtgbmfkfmimpaaaaWTab
import Derived.Test.YtgbmfkfmimpaaaaWFour
import Derived.Test.YtgbmfkfmimpaaaaWQPut
import Derived.Test.YtgbmfkfmimpaaaaWApart
import Derived.Test.YtgbmfkfmimpaaaaWArr
import Derived.Test.YtgbmfkfmimpaaaaWZeros
import Derived.Test.YtgbmfkfmimpaaaaWFoot
import Derived.Test.YtgbmfkfmimpaaaaWKept
import Derived.Test.YtgbmfkfmimpaaaaWShare
import Derived.Test.YtgbmfkfmimpaaaaWN
import Derived.Test.YtgbmfkfmimpaaaaWFootNe
import Derived.Test.YtgbmfkfmimpaaaaWAt
import Derived.Test.YtgbmfkfmimpaaaaWEqStruct
import Derived.Test.YtgbmfkfmimpaaaaWRepsOne
import Derived.Test.YtgbmfkfmimpaaaaWInv
import Derived.Test.YtgbmfkfmimpaaaaWInvWords
import Derived.Test.YtgbmfkfmimpaaaaWGuard
import Derived.Test.YtgbmfkfmimpaaaaWNEv
import Derived.Test.YtgbmfkfmimpaaaaWMore
namespace Go.Proofs.Ytgbmfkfmimpaaaa.PFnExactHeapNew
open Go.RowKit Go.Proofs.YtgbmfkfmimpaaaaW.PrintWords Go.Proofs.YtgbmfkfmimpaaaaW.PrintLast Go.Proofs.YtgbmfkfmimpaaaaW.PrintMore
attribute [local go_sem] max2_int min2_int max_two min_two max_three min_three max_four min_four   -- for this text's walks alone
attribute [local go_sem] Go.Proofs.Ytgbmfkfmimpaaaa.Aid.cell_twice
set_option linter.unusedVariables false
set_option linter.unusedSimpArgs false



def errW : Option Int → Value
  | none => .nilIface
  | some c => .iface 0 (.int .i64 c)
theorem errW_none : errW none = .nilIface := rfl
theorem errW_some (c : Int) : errW (some c) = .iface 0 (.int .i64 c) := rfl

theorem info3 : (Try.prog.info? 3).map (fun i => (i.zero, i.size, i.bytes)) = some (some (.int .i64 0), 1, 8) := by kernel_rfl
-- the values' own types

end Go.Proofs.Ytgbmfkfmimpaaaa.PFnExactHeapNew
