/- Functions of the program as plain Lean functions, and that the machine's calls come to what these tell: by the kit's print, turned by this session (NOTES.md). No condition beyond each theorem's own. -/
import Derived.Test.YthomfkdoaembbaaDoorProg
import Derived.Test.YthomfkdoaembbaaDoorAid
import Derived.Test.YthomfkdoaembbaaDoorHTab
import Derived.Below
import Derived.Deep.Draws
import Derived.Deep.AppendLies
import Derived.Maps.AppendAt
import Derived.OwnWalk
import Derived.Laws.BytesArg
import Derived.Laws.MakeOwn
import Derived.Laws.OwnMore
import Derived.Deep.OwnRows
import Derived.Tactics
import Derived.Lib.ConvBytes
import Derived.Laws.Slices
import Derived.WalkKit
import Derived.KernelRfl
import Derived.RowKit3
import Derived.Deep.LoopGhost
import Derived.Deep.QuietTactic
import Derived.BigQuiet
import Derived.WideLaws
import Derived.Deep.DeepCutAuto
import Derived.Deep.CutBlock
import Derived.Deep.RegionHeld3
import Derived.Laws.Rows
import Derived.Lib.AppendStr
import Derived.ArgAppend
import Derived.Laws.IdiomCopy
import Derived.OrdersHeld
import Derived.Laws.BitsLemmas
import Derived.RowKit
import Derived.Test.YthomfkdoaembbaaDoorWWords
import Derived.Test.YthomfkdoaembbaaDoorWLast
import Derived.Test.YthomfkdoaembbaaDoorWTab
import Derived.Test.YthomfkdoaembbaaDoorWFour
import Derived.Test.YthomfkdoaembbaaDoorWQPut
import Derived.Test.YthomfkdoaembbaaDoorWApart
import Derived.Test.YthomfkdoaembbaaDoorWArr
import Derived.Test.YthomfkdoaembbaaDoorWZeros
import Derived.Test.YthomfkdoaembbaaDoorWFoot
import Derived.Test.YthomfkdoaembbaaDoorWKept
import Derived.Test.YthomfkdoaembbaaDoorWShare
import Derived.Test.YthomfkdoaembbaaDoorWN
import Derived.Test.YthomfkdoaembbaaDoorWFootNe
import Derived.Test.YthomfkdoaembbaaDoorWAt
import Derived.Test.YthomfkdoaembbaaDoorWEqStruct
import Derived.Test.YthomfkdoaembbaaDoorWRepsOne
import Derived.Test.YthomfkdoaembbaaDoorWInv
import Derived.Test.YthomfkdoaembbaaDoorWInvWords
import Derived.Test.YthomfkdoaembbaaDoorWGuard
import Derived.Test.YthomfkdoaembbaaDoorWNEv
import Derived.Test.YthomfkdoaembbaaDoorWMore
namespace Go.Proofs.YthomfkdoaembbaaDoor.PFld
open Go.RowKit Go.Proofs.YthomfkdoaembbaaDoorW.PrintWords Go.Proofs.YthomfkdoaembbaaDoorW.PrintLast Go.Proofs.YthomfkdoaembbaaDoorW.PrintMore
attribute [local go_sem] max2_int min2_int max_two min_two max_three min_three max_four min_four   -- for this text's walks alone
attribute [local go_sem] Go.Proofs.YthomfkdoaembbaaDoor.Aid.cell_twice
set_option linter.unusedVariables false
set_option linter.unusedSimpArgs false



def errW : Option Int → Value
  | none => .nilIface
  | some c => .iface 0 (.int .i64 c)
theorem errW_none : errW none = .nilIface := rfl
theorem errW_some (c : Int) : errW (some c) = .iface 0 (.int .i64 c) := rfl

-- the values' own types

end Go.Proofs.YthomfkdoaembbaaDoor.PFld
