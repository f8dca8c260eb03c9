/-
  No cell of these rows narrows 'for every input' (looked for: loops, veiled, ifaces, maps, wideKeys, modest, calm, conditions, laid).
  DERIVED. THE GIVEN ROWS OF THIS SEAT. 12 by the template 'for every input the law returns true; each argument reads behind the call as it read before'; 0 by the template 'total and deterministic' (their statements: YtdnpbpgnehaebaaTotals.lean).
  GIVEN WITH THE SEED: the statements are not yours to turn. If you find one false, say at which input.
  Laid BY PROGRAM, IN A SANDBOX (cutbox-rows.mjs): the forced cells as the released guide's own fill.sh prints them over the translation 84dea9f05cb47355… (all of the seat's roots in one cut). By AI agents, Wed Nov 11 2026. No macro, syntax, notation, axiom, sorry.
-/
import Derived.Test.YtdnpbpgnehaebaaChecked
import GoSem.Claim
import GoSem.ClaimJoined
import GoSem.ClaimMapViews
import Derived.JoinedTies
import Derived.KernelRfl
namespace Go.Proofs.Ytdnpbpgnehaebaa
/- THE CELL 'sum', in the pinned program and in every row, IS THE sha256 OF THE DUMP (.gsa) THAT YtdnpbpgnehaebaaProg.lean LOADS. Nothing in Lean hashes anything: it is a label: what it is worth is what the hold of that sum in a sandbox is worth. -/
noncomputable def Try.pinned : Pinned := { name := "ytdnpbpgnehaebaa", sum := "84dea9f05cb47355f30013533e70c74ca9e3793f660099a9360cd17821c377e8", checked := Try.checked }
namespace Rows
def none {H : Type} : Left H := { results := [], args := [] }

/-- 'laws.FnEnginePlan': WHATEVER THE INPUT: true; the input reads as it did. -/
def fnEnginePlanSpec : ChangeSpec := { name := "fnEnginePlan", fn := fun _ => fun
  | [d] => { results := [.lit (.bool true)], args := [d] }
  | _ => none }
def fnEnginePlanRow : OpenClaim := { program := "ytdnpbpgnehaebaa", sum := "84dea9f05cb47355f30013533e70c74ca9e3793f660099a9360cd17821c377e8", func := "loop.example/lairage/laws.FnEnginePlan", spec := "fnEnginePlan", apart := false }
def FnEnginePlanSaid : Prop := fnEnginePlanRow.holds Try.pinned (OpenSpec.ofChange fnEnginePlanSpec)

/-- ITS FALSE NEIGHBOUR: 'it returns false'. Refute it at one input. -/
def fnEnginePlanWrong : ChangeSpec := { name := "fnEnginePlan", fn := fun _ => fun
  | [d] => { results := [.lit (.bool false)], args := [d] }
  | _ => none }
def FnEnginePlanWrongFalsely : Prop := fnEnginePlanRow.holds Try.pinned (OpenSpec.ofChange fnEnginePlanWrong)

/-- 'laws.FnExactPlanOk': WHATEVER THE INPUT: true; the input reads as it did. -/
def fnExactPlanOkSpec : ChangeSpec := { name := "fnExactPlanOk", fn := fun _ => fun
  | [d] => { results := [.lit (.bool true)], args := [d] }
  | _ => none }
def fnExactPlanOkRow : OpenClaim := { program := "ytdnpbpgnehaebaa", sum := "84dea9f05cb47355f30013533e70c74ca9e3793f660099a9360cd17821c377e8", func := "loop.example/lairage/laws.FnExactPlanOk", spec := "fnExactPlanOk", apart := false }
def FnExactPlanOkSaid : Prop := fnExactPlanOkRow.holds Try.pinned (OpenSpec.ofChange fnExactPlanOkSpec)

/-- ITS FALSE NEIGHBOUR: 'it returns false'. Refute it at one input. -/
def fnExactPlanOkWrong : ChangeSpec := { name := "fnExactPlanOk", fn := fun _ => fun
  | [d] => { results := [.lit (.bool false)], args := [d] }
  | _ => none }
def FnExactPlanOkWrongFalsely : Prop := fnExactPlanOkRow.holds Try.pinned (OpenSpec.ofChange fnExactPlanOkWrong)

/-- 'laws.FnBinSeq': WHATEVER THE INPUT: true; the input reads as it did. -/
def fnBinSeqSpec : ChangeSpec := { name := "fnBinSeq", fn := fun _ => fun
  | [d1, d2] => { results := [.lit (.bool true)], args := [d1, d2] }
  | _ => none }
def fnBinSeqRow : OpenClaim := { program := "ytdnpbpgnehaebaa", sum := "84dea9f05cb47355f30013533e70c74ca9e3793f660099a9360cd17821c377e8", func := "loop.example/lairage/laws.FnBinSeq", spec := "fnBinSeq", apart := false }
def FnBinSeqSaid : Prop := fnBinSeqRow.holds Try.pinned (OpenSpec.ofChange fnBinSeqSpec)

/-- ITS FALSE NEIGHBOUR: 'it returns false'. Refute it at one input. -/
def fnBinSeqWrong : ChangeSpec := { name := "fnBinSeq", fn := fun _ => fun
  | [d1, d2] => { results := [.lit (.bool false)], args := [d1, d2] }
  | _ => none }
def FnBinSeqWrongFalsely : Prop := fnBinSeqRow.holds Try.pinned (OpenSpec.ofChange fnBinSeqWrong)

/-- 'laws.FnBinNum': WHATEVER THE INPUT: true; the input reads as it did. -/
def fnBinNumSpec : ChangeSpec := { name := "fnBinNum", fn := fun _ => fun
  | [d1, d2] => { results := [.lit (.bool true)], args := [d1, d2] }
  | _ => none }
def fnBinNumRow : OpenClaim := { program := "ytdnpbpgnehaebaa", sum := "84dea9f05cb47355f30013533e70c74ca9e3793f660099a9360cd17821c377e8", func := "loop.example/lairage/laws.FnBinNum", spec := "fnBinNum", apart := false }
def FnBinNumSaid : Prop := fnBinNumRow.holds Try.pinned (OpenSpec.ofChange fnBinNumSpec)

/-- ITS FALSE NEIGHBOUR: 'it returns false'. Refute it at one input. -/
def fnBinNumWrong : ChangeSpec := { name := "fnBinNum", fn := fun _ => fun
  | [d1, d2] => { results := [.lit (.bool false)], args := [d1, d2] }
  | _ => none }
def FnBinNumWrongFalsely : Prop := fnBinNumRow.holds Try.pinned (OpenSpec.ofChange fnBinNumWrong)

/-- 'laws.FnExactBinOfNum': WHATEVER THE INPUT: true; the input reads as it did. -/
def fnExactBinOfNumSpec : ChangeSpec := { name := "fnExactBinOfNum", fn := fun _ => fun
  | [d] => { results := [.lit (.bool true)], args := [d] }
  | _ => none }
def fnExactBinOfNumRow : OpenClaim := { program := "ytdnpbpgnehaebaa", sum := "84dea9f05cb47355f30013533e70c74ca9e3793f660099a9360cd17821c377e8", func := "loop.example/lairage/laws.FnExactBinOfNum", spec := "fnExactBinOfNum", apart := false }
def FnExactBinOfNumSaid : Prop := fnExactBinOfNumRow.holds Try.pinned (OpenSpec.ofChange fnExactBinOfNumSpec)

/-- ITS FALSE NEIGHBOUR: 'it returns false'. Refute it at one input. -/
def fnExactBinOfNumWrong : ChangeSpec := { name := "fnExactBinOfNum", fn := fun _ => fun
  | [d] => { results := [.lit (.bool false)], args := [d] }
  | _ => none }
def FnExactBinOfNumWrongFalsely : Prop := fnExactBinOfNumRow.holds Try.pinned (OpenSpec.ofChange fnExactBinOfNumWrong)

/-- 'laws.FnExactBinNumAt': WHATEVER THE INPUT: true; the input reads as it did. -/
def fnExactBinNumAtSpec : ChangeSpec := { name := "fnExactBinNumAt", fn := fun _ => fun
  | [d1, d2] => { results := [.lit (.bool true)], args := [d1, d2] }
  | _ => none }
def fnExactBinNumAtRow : OpenClaim := { program := "ytdnpbpgnehaebaa", sum := "84dea9f05cb47355f30013533e70c74ca9e3793f660099a9360cd17821c377e8", func := "loop.example/lairage/laws.FnExactBinNumAt", spec := "fnExactBinNumAt", apart := false }
def FnExactBinNumAtSaid : Prop := fnExactBinNumAtRow.holds Try.pinned (OpenSpec.ofChange fnExactBinNumAtSpec)

/-- ITS FALSE NEIGHBOUR: 'it returns false'. Refute it at one input. -/
def fnExactBinNumAtWrong : ChangeSpec := { name := "fnExactBinNumAt", fn := fun _ => fun
  | [d1, d2] => { results := [.lit (.bool false)], args := [d1, d2] }
  | _ => none }
def FnExactBinNumAtWrongFalsely : Prop := fnExactBinNumAtRow.holds Try.pinned (OpenSpec.ofChange fnExactBinNumAtWrong)

/-- 'laws.FnNumDo': WHATEVER THE INPUT: true; the input reads as it did. -/
def fnNumDoSpec : ChangeSpec := { name := "fnNumDo", fn := fun _ => fun
  | [d1, d2] => { results := [.lit (.bool true)], args := [d1, d2] }
  | _ => none }
def fnNumDoRow : OpenClaim := { program := "ytdnpbpgnehaebaa", sum := "84dea9f05cb47355f30013533e70c74ca9e3793f660099a9360cd17821c377e8", func := "loop.example/lairage/laws.FnNumDo", spec := "fnNumDo", unfollowed := true, recurses := true, apart := false }
def FnNumDoSaid : Prop := fnNumDoRow.holds Try.pinned (OpenSpec.ofChange fnNumDoSpec)

/-- ITS FALSE NEIGHBOUR: 'it returns false'. Refute it at one input. -/
def fnNumDoWrong : ChangeSpec := { name := "fnNumDo", fn := fun _ => fun
  | [d1, d2] => { results := [.lit (.bool false)], args := [d1, d2] }
  | _ => none }
def FnNumDoWrongFalsely : Prop := fnNumDoRow.holds Try.pinned (OpenSpec.ofChange fnNumDoWrong)

/-- 'laws.FnNumLess': WHATEVER THE INPUT: true; the input reads as it did. -/
def fnNumLessSpec : ChangeSpec := { name := "fnNumLess", fn := fun _ => fun
  | [d1, d2] => { results := [.lit (.bool true)], args := [d1, d2] }
  | _ => none }
def fnNumLessRow : OpenClaim := { program := "ytdnpbpgnehaebaa", sum := "84dea9f05cb47355f30013533e70c74ca9e3793f660099a9360cd17821c377e8", func := "loop.example/lairage/laws.FnNumLess", spec := "fnNumLess", unfollowed := true, recurses := true, apart := false }
def FnNumLessSaid : Prop := fnNumLessRow.holds Try.pinned (OpenSpec.ofChange fnNumLessSpec)

/-- ITS FALSE NEIGHBOUR: 'it returns false'. Refute it at one input. -/
def fnNumLessWrong : ChangeSpec := { name := "fnNumLess", fn := fun _ => fun
  | [d1, d2] => { results := [.lit (.bool false)], args := [d1, d2] }
  | _ => none }
def FnNumLessWrongFalsely : Prop := fnNumLessRow.holds Try.pinned (OpenSpec.ofChange fnNumLessWrong)

/-- 'laws.FnExactNumDo': WHATEVER THE INPUT: true; the input reads as it did. -/
def fnExactNumDoSpec : ChangeSpec := { name := "fnExactNumDo", fn := fun _ => fun
  | [d1, d2, d3] => { results := [.lit (.bool true)], args := [d1, d2, d3] }
  | _ => none }
def fnExactNumDoRow : OpenClaim := { program := "ytdnpbpgnehaebaa", sum := "84dea9f05cb47355f30013533e70c74ca9e3793f660099a9360cd17821c377e8", func := "loop.example/lairage/laws.FnExactNumDo", spec := "fnExactNumDo", unfollowed := true, recurses := true, apart := false }
def FnExactNumDoSaid : Prop := fnExactNumDoRow.holds Try.pinned (OpenSpec.ofChange fnExactNumDoSpec)

/-- ITS FALSE NEIGHBOUR: 'it returns false'. Refute it at one input. -/
def fnExactNumDoWrong : ChangeSpec := { name := "fnExactNumDo", fn := fun _ => fun
  | [d1, d2, d3] => { results := [.lit (.bool false)], args := [d1, d2, d3] }
  | _ => none }
def FnExactNumDoWrongFalsely : Prop := fnExactNumDoRow.holds Try.pinned (OpenSpec.ofChange fnExactNumDoWrong)

/-- 'laws.FnWord': WHATEVER THE INPUT: true; the input reads as it did. -/
def fnWordSpec : ChangeSpec := { name := "fnWord", fn := fun _ => fun
  | [d1, d2] => { results := [.lit (.bool true)], args := [d1, d2] }
  | _ => none }
def fnWordRow : OpenClaim := { program := "ytdnpbpgnehaebaa", sum := "84dea9f05cb47355f30013533e70c74ca9e3793f660099a9360cd17821c377e8", func := "loop.example/lairage/laws.FnWord", spec := "fnWord", apart := false }
def FnWordSaid : Prop := fnWordRow.holds Try.pinned (OpenSpec.ofChange fnWordSpec)

/-- ITS FALSE NEIGHBOUR: 'it returns false'. Refute it at one input. -/
def fnWordWrong : ChangeSpec := { name := "fnWord", fn := fun _ => fun
  | [d1, d2] => { results := [.lit (.bool false)], args := [d1, d2] }
  | _ => none }
def FnWordWrongFalsely : Prop := fnWordRow.holds Try.pinned (OpenSpec.ofChange fnWordWrong)

/-- 'laws.FnExactWordOf': WHATEVER THE INPUT: true; the input reads as it did. -/
def fnExactWordOfSpec : ChangeSpec := { name := "fnExactWordOf", fn := fun _ => fun
  | [d] => { results := [.lit (.bool true)], args := [d] }
  | _ => none }
def fnExactWordOfRow : OpenClaim := { program := "ytdnpbpgnehaebaa", sum := "84dea9f05cb47355f30013533e70c74ca9e3793f660099a9360cd17821c377e8", func := "loop.example/lairage/laws.FnExactWordOf", spec := "fnExactWordOf", apart := false }
def FnExactWordOfSaid : Prop := fnExactWordOfRow.holds Try.pinned (OpenSpec.ofChange fnExactWordOfSpec)

/-- ITS FALSE NEIGHBOUR: 'it returns false'. Refute it at one input. -/
def fnExactWordOfWrong : ChangeSpec := { name := "fnExactWordOf", fn := fun _ => fun
  | [d] => { results := [.lit (.bool false)], args := [d] }
  | _ => none }
def FnExactWordOfWrongFalsely : Prop := fnExactWordOfRow.holds Try.pinned (OpenSpec.ofChange fnExactWordOfWrong)

/-- 'laws.FnExactWordVal': WHATEVER THE INPUT: true; the input reads as it did. -/
def fnExactWordValSpec : ChangeSpec := { name := "fnExactWordVal", fn := fun _ => fun
  | [d1, d2] => { results := [.lit (.bool true)], args := [d1, d2] }
  | _ => none }
def fnExactWordValRow : OpenClaim := { program := "ytdnpbpgnehaebaa", sum := "84dea9f05cb47355f30013533e70c74ca9e3793f660099a9360cd17821c377e8", func := "loop.example/lairage/laws.FnExactWordVal", spec := "fnExactWordVal", apart := false }
def FnExactWordValSaid : Prop := fnExactWordValRow.holds Try.pinned (OpenSpec.ofChange fnExactWordValSpec)

/-- ITS FALSE NEIGHBOUR: 'it returns false'. Refute it at one input. -/
def fnExactWordValWrong : ChangeSpec := { name := "fnExactWordVal", fn := fun _ => fun
  | [d1, d2] => { results := [.lit (.bool false)], args := [d1, d2] }
  | _ => none }
def FnExactWordValWrongFalsely : Prop := fnExactWordValRow.holds Try.pinned (OpenSpec.ofChange fnExactWordValWrong)

/- THE SECOND FORM. 'bulk': how many values and letters a reading holds, each counted each time it is reached (what is shared counts as often as it is met; a slice's spare places count too). A statement '..UptoSaid' is the law's where the arguments, and the package variables that the reading takes, are together of bulk at most 1048576: NARROWER than '..Said'. Prove '..Said' where nothing that the law and all that it calls make is longer than what came in: it says more and counts as full. Else prove '..UptoSaid'. A law counts once. -/
mutual
def uptoBulk {H : Type} : DataW H → Nat
  | .lit (.string bytes) => bytes.length + 1
  | .lit _ => 1
  | .nil => 1
  | .ptr d => uptoBulk d + 1
  | .slice elems spare => uptoBulkAll elems + uptoBulkAll spare + 1
  | .agg parts => uptoBulkAll parts + 1
  | .iface _ d => uptoBulk d + 1
  | .map entries => uptoBulkEntries entries + 1
  | .held _ => 1
def uptoBulkAll {H : Type} : List (DataW H) → Nat
  | [] => 0
  | d :: r => uptoBulk d + uptoBulkAll r
def uptoBulkEntries {H : Type} : List (Lit × DataW H) → Nat
  | [] => 0
  | x :: r => uptoBulkEntry x + uptoBulkEntries r
def uptoBulkEntry {H : Type} : Lit × DataW H → Nat
  | (.string bytes, d) => bytes.length + uptoBulk d + 1
  | (_, d) => uptoBulk d + 1
 end
def uptoSmall : (H : Type) → List (DataW H) → Bool := fun _ ds => decide (uptoBulkAll ds ≤ 1048576)
def OpenSpec.upto (s : _root_.Go.ChangeSpec) : _root_.Go.OpenSpec := { _root_.Go.OpenSpec.ofChange s with cond := some uptoSmall }

/-- 'laws.FnEnginePlan', WHERE WHAT IT READS IS OF BULK AT MOST 1048576: true; the input reads as it did. -/
def fnEnginePlanUptoRow : OpenClaim := { program := "ytdnpbpgnehaebaa", sum := "84dea9f05cb47355f30013533e70c74ca9e3793f660099a9360cd17821c377e8", func := "loop.example/lairage/laws.FnEnginePlan", spec := "fnEnginePlan", apart := false, narrowed := true }
def FnEnginePlanUptoSaid : Prop := fnEnginePlanUptoRow.holds Try.pinned (OpenSpec.upto fnEnginePlanSpec)

/-- 'laws.FnExactPlanOk', WHERE WHAT IT READS IS OF BULK AT MOST 1048576: true; the input reads as it did. -/
def fnExactPlanOkUptoRow : OpenClaim := { program := "ytdnpbpgnehaebaa", sum := "84dea9f05cb47355f30013533e70c74ca9e3793f660099a9360cd17821c377e8", func := "loop.example/lairage/laws.FnExactPlanOk", spec := "fnExactPlanOk", apart := false, narrowed := true }
def FnExactPlanOkUptoSaid : Prop := fnExactPlanOkUptoRow.holds Try.pinned (OpenSpec.upto fnExactPlanOkSpec)

/-- 'laws.FnBinSeq', WHERE WHAT IT READS IS OF BULK AT MOST 1048576: true; the input reads as it did. -/
def fnBinSeqUptoRow : OpenClaim := { program := "ytdnpbpgnehaebaa", sum := "84dea9f05cb47355f30013533e70c74ca9e3793f660099a9360cd17821c377e8", func := "loop.example/lairage/laws.FnBinSeq", spec := "fnBinSeq", apart := false, narrowed := true }
def FnBinSeqUptoSaid : Prop := fnBinSeqUptoRow.holds Try.pinned (OpenSpec.upto fnBinSeqSpec)

/-- 'laws.FnBinNum', WHERE WHAT IT READS IS OF BULK AT MOST 1048576: true; the input reads as it did. -/
def fnBinNumUptoRow : OpenClaim := { program := "ytdnpbpgnehaebaa", sum := "84dea9f05cb47355f30013533e70c74ca9e3793f660099a9360cd17821c377e8", func := "loop.example/lairage/laws.FnBinNum", spec := "fnBinNum", apart := false, narrowed := true }
def FnBinNumUptoSaid : Prop := fnBinNumUptoRow.holds Try.pinned (OpenSpec.upto fnBinNumSpec)

/-- 'laws.FnExactBinOfNum', WHERE WHAT IT READS IS OF BULK AT MOST 1048576: true; the input reads as it did. -/
def fnExactBinOfNumUptoRow : OpenClaim := { program := "ytdnpbpgnehaebaa", sum := "84dea9f05cb47355f30013533e70c74ca9e3793f660099a9360cd17821c377e8", func := "loop.example/lairage/laws.FnExactBinOfNum", spec := "fnExactBinOfNum", apart := false, narrowed := true }
def FnExactBinOfNumUptoSaid : Prop := fnExactBinOfNumUptoRow.holds Try.pinned (OpenSpec.upto fnExactBinOfNumSpec)

/-- 'laws.FnExactBinNumAt', WHERE WHAT IT READS IS OF BULK AT MOST 1048576: true; the input reads as it did. -/
def fnExactBinNumAtUptoRow : OpenClaim := { program := "ytdnpbpgnehaebaa", sum := "84dea9f05cb47355f30013533e70c74ca9e3793f660099a9360cd17821c377e8", func := "loop.example/lairage/laws.FnExactBinNumAt", spec := "fnExactBinNumAt", apart := false, narrowed := true }
def FnExactBinNumAtUptoSaid : Prop := fnExactBinNumAtUptoRow.holds Try.pinned (OpenSpec.upto fnExactBinNumAtSpec)

/-- 'laws.FnNumDo', WHERE WHAT IT READS IS OF BULK AT MOST 1048576: true; the input reads as it did. -/
def fnNumDoUptoRow : OpenClaim := { program := "ytdnpbpgnehaebaa", sum := "84dea9f05cb47355f30013533e70c74ca9e3793f660099a9360cd17821c377e8", func := "loop.example/lairage/laws.FnNumDo", spec := "fnNumDo", unfollowed := true, recurses := true, apart := false, narrowed := true }
def FnNumDoUptoSaid : Prop := fnNumDoUptoRow.holds Try.pinned (OpenSpec.upto fnNumDoSpec)

/-- 'laws.FnNumLess', WHERE WHAT IT READS IS OF BULK AT MOST 1048576: true; the input reads as it did. -/
def fnNumLessUptoRow : OpenClaim := { program := "ytdnpbpgnehaebaa", sum := "84dea9f05cb47355f30013533e70c74ca9e3793f660099a9360cd17821c377e8", func := "loop.example/lairage/laws.FnNumLess", spec := "fnNumLess", unfollowed := true, recurses := true, apart := false, narrowed := true }
def FnNumLessUptoSaid : Prop := fnNumLessUptoRow.holds Try.pinned (OpenSpec.upto fnNumLessSpec)

/-- 'laws.FnExactNumDo', WHERE WHAT IT READS IS OF BULK AT MOST 1048576: true; the input reads as it did. -/
def fnExactNumDoUptoRow : OpenClaim := { program := "ytdnpbpgnehaebaa", sum := "84dea9f05cb47355f30013533e70c74ca9e3793f660099a9360cd17821c377e8", func := "loop.example/lairage/laws.FnExactNumDo", spec := "fnExactNumDo", unfollowed := true, recurses := true, apart := false, narrowed := true }
def FnExactNumDoUptoSaid : Prop := fnExactNumDoUptoRow.holds Try.pinned (OpenSpec.upto fnExactNumDoSpec)

/-- 'laws.FnWord', WHERE WHAT IT READS IS OF BULK AT MOST 1048576: true; the input reads as it did. -/
def fnWordUptoRow : OpenClaim := { program := "ytdnpbpgnehaebaa", sum := "84dea9f05cb47355f30013533e70c74ca9e3793f660099a9360cd17821c377e8", func := "loop.example/lairage/laws.FnWord", spec := "fnWord", apart := false, narrowed := true }
def FnWordUptoSaid : Prop := fnWordUptoRow.holds Try.pinned (OpenSpec.upto fnWordSpec)

/-- 'laws.FnExactWordOf', WHERE WHAT IT READS IS OF BULK AT MOST 1048576: true; the input reads as it did. -/
def fnExactWordOfUptoRow : OpenClaim := { program := "ytdnpbpgnehaebaa", sum := "84dea9f05cb47355f30013533e70c74ca9e3793f660099a9360cd17821c377e8", func := "loop.example/lairage/laws.FnExactWordOf", spec := "fnExactWordOf", apart := false, narrowed := true }
def FnExactWordOfUptoSaid : Prop := fnExactWordOfUptoRow.holds Try.pinned (OpenSpec.upto fnExactWordOfSpec)

/-- 'laws.FnExactWordVal', WHERE WHAT IT READS IS OF BULK AT MOST 1048576: true; the input reads as it did. -/
def fnExactWordValUptoRow : OpenClaim := { program := "ytdnpbpgnehaebaa", sum := "84dea9f05cb47355f30013533e70c74ca9e3793f660099a9360cd17821c377e8", func := "loop.example/lairage/laws.FnExactWordVal", spec := "fnExactWordVal", apart := false, narrowed := true }
def FnExactWordValUptoSaid : Prop := fnExactWordValUptoRow.holds Try.pinned (OpenSpec.upto fnExactWordValSpec)

end Rows
end Go.Proofs.Ytdnpbpgnehaebaa
