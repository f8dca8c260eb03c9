/- Functions of the program as plain Lean functions, and that the machine's calls come to what these tell: by the kit's print, turned by this session (NOTES.md). No condition beyond each theorem's own. -/
import Derived.Test.YthomfkdoaembbaaProg
import Derived.Test.YthomfkdoaembbaaAid
import Derived.Test.YthomfkdoaembbaaHIns
import Derived.Test.YthomfkdoaembbaaHOk
import Derived.Below
import Derived.Deep.Draws
import Derived.Deep.AppendLies
import Derived.Maps.AppendAt
import Derived.OwnWalk
import Derived.Laws.BytesArg
import Derived.Laws.MakeOwn
import Derived.Laws.OwnMore
import Derived.Deep.OwnRows
import Derived.Tactics
import Derived.Lib.ConvBytes
import Derived.Laws.Slices
import Derived.WalkKit
import Derived.KernelRfl
import Derived.RowKit3
import Derived.Deep.LoopGhost
import Derived.Deep.QuietTactic
import Derived.BigQuiet
import Derived.WideLaws
import Derived.Deep.DeepCutAuto
import Derived.Deep.CutBlock
import Derived.Deep.RegionHeld3
import Derived.Laws.Rows
import Derived.Lib.AppendStr
import Derived.ArgAppend
import Derived.Laws.IdiomCopy
import Derived.OrdersHeld
import Derived.Laws.BitsLemmas
import Derived.RowKit
import Derived.Test.YthomfkdoaembbaaWWords
import Derived.Test.YthomfkdoaembbaaWLast
import Derived.Test.YthomfkdoaembbaaWTab
import Derived.Test.YthomfkdoaembbaaWFour
import Derived.Test.YthomfkdoaembbaaWQPut
import Derived.Test.YthomfkdoaembbaaWApart
import Derived.Test.YthomfkdoaembbaaWArr
import Derived.Test.YthomfkdoaembbaaWZeros
import Derived.Test.YthomfkdoaembbaaWFoot
import Derived.Test.YthomfkdoaembbaaWKept
import Derived.Test.YthomfkdoaembbaaWShare
import Derived.Test.YthomfkdoaembbaaWN
import Derived.Test.YthomfkdoaembbaaWFootNe
import Derived.Test.YthomfkdoaembbaaWAt
import Derived.Test.YthomfkdoaembbaaWEqStruct
import Derived.Test.YthomfkdoaembbaaWRepsOne
import Derived.Test.YthomfkdoaembbaaWInv
import Derived.Test.YthomfkdoaembbaaWInvWords
import Derived.Test.YthomfkdoaembbaaWGuard
import Derived.Test.YthomfkdoaembbaaWNEv
import Derived.Test.YthomfkdoaembbaaWMore
namespace Go.Proofs.Ythomfkdoaembbaa.PFnExactInsOk
open Go.RowKit Go.Proofs.YthomfkdoaembbaaW.PrintWords Go.Proofs.YthomfkdoaembbaaW.PrintLast Go.Proofs.YthomfkdoaembbaaW.PrintMore
attribute [local go_sem] max2_int min2_int max_two min_two max_three min_three max_four min_four   -- for this text's walks alone
attribute [local go_sem] Go.Proofs.Ythomfkdoaembbaa.Aid.cell_twice
set_option linter.unusedVariables false
set_option linter.unusedSimpArgs false



def errW : Option Int → Value
  | none => .nilIface
  | some c => .iface 0 (.int .i64 c)
theorem errW_none : errW none = .nilIface := rfl
theorem errW_some (c : Int) : errW (some c) = .iface 0 (.int .i64 c) := rfl

-- the values' own types

end Go.Proofs.Ythomfkdoaembbaa.PFnExactInsOk
