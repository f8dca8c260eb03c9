/- Functions of the program as plain Lean functions, and that the machine's calls come to what these tell: by the kit's print, turned by this session (NOTES.md). No condition beyond each theorem's own. -/
import Derived.Test.YtdnpbpgnehaebaaProg
import Derived.Test.YtdnpbpgnehaebaaAid
import Derived.Below
import Derived.Deep.Draws
import Derived.Deep.AppendLies
import Derived.Maps.AppendAt
import Derived.OwnWalk
import Derived.Laws.BytesArg
import Derived.Laws.MakeOwn
import Derived.Laws.OwnMore
import Derived.Deep.OwnRows
import Derived.Tactics
import Derived.Lib.ConvBytes
import Derived.Laws.Slices
import Derived.WalkKit
import Derived.KernelRfl
import Derived.RowKit3
import Derived.Deep.LoopGhost
import Derived.Deep.QuietTactic
import Derived.BigQuiet
import Derived.WideLaws
import Derived.Deep.DeepCutAuto
import Derived.Deep.CutBlock
import Derived.Deep.RegionHeld3
import Derived.Laws.Rows
import Derived.Lib.AppendStr
import Derived.ArgAppend
import Derived.Laws.IdiomCopy
import Derived.OrdersHeld
import Derived.Laws.BitsLemmas
import Derived.RowKit
import Derived.Test.YtdnpbpgnehaebaaWWords
import Derived.Test.YtdnpbpgnehaebaaWLast
import Derived.Test.YtdnpbpgnehaebaaWTab
import Derived.Test.YtdnpbpgnehaebaaWFour
import Derived.Test.YtdnpbpgnehaebaaWQPut
import Derived.Test.YtdnpbpgnehaebaaWApart
import Derived.Test.YtdnpbpgnehaebaaWArr
import Derived.Test.YtdnpbpgnehaebaaWZeros
import Derived.Test.YtdnpbpgnehaebaaWFoot
import Derived.Test.YtdnpbpgnehaebaaWKept
import Derived.Test.YtdnpbpgnehaebaaWShare
import Derived.Test.YtdnpbpgnehaebaaWN
import Derived.Test.YtdnpbpgnehaebaaWFootNe
import Derived.Test.YtdnpbpgnehaebaaWAt
import Derived.Test.YtdnpbpgnehaebaaWEqStruct
import Derived.Test.YtdnpbpgnehaebaaWRepsOne
import Derived.Test.YtdnpbpgnehaebaaWInv
import Derived.Test.YtdnpbpgnehaebaaWInvWords
import Derived.Test.YtdnpbpgnehaebaaWGuard
import Derived.Test.YtdnpbpgnehaebaaWNEv
import Derived.Test.YtdnpbpgnehaebaaWMore
namespace Go.Proofs.Ytdnpbpgnehaebaa.PFnWord
open Go.RowKit Go.Proofs.YtdnpbpgnehaebaaW.PrintWords Go.Proofs.YtdnpbpgnehaebaaW.PrintLast Go.Proofs.YtdnpbpgnehaebaaW.PrintMore
attribute [local go_sem] max2_int min2_int max_two min_two max_three min_three max_four min_four   -- for this text's walks alone
attribute [local go_sem] Go.Proofs.Ytdnpbpgnehaebaa.Aid.cell_twice
set_option linter.unusedVariables false
set_option linter.unusedSimpArgs false



def errW : Option Int → Value
  | none => .nilIface
  | some c => .iface 0 (.int .i64 c)
theorem errW_none : errW none = .nilIface := rfl
theorem errW_some (c : Int) : errW (some c) = .iface 0 (.int .i64 c) := rfl

theorem info3 : (Try.prog.info? 3).map (fun i => (i.zero, i.size, i.bytes)) = some (some (.int .i64 0), 1, 8) := by kernel_rfl
theorem info5 : (Try.prog.info? 5).map (fun i => (i.zero, i.size, i.bytes)) = some (some (.int .u8 0), 1, 1) := by kernel_rfl
-- the values' own types

end Go.Proofs.Ytdnpbpgnehaebaa.PFnWord
