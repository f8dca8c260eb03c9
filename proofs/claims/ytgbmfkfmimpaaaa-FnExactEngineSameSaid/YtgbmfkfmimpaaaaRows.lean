/-
  No cell of these rows narrows 'for every input' (looked for: loops, veiled, ifaces, maps, wideKeys, modest, calm, conditions, laid).
  DERIVED. THE GIVEN ROWS OF THIS SEAT. 11 by the template 'for every input the law returns true; each argument reads behind the call as it read before'; 0 by the template 'total and deterministic' (their statements: YtgbmfkfmimpaaaaTotals.lean).
  GIVEN WITH THE SEED: the statements are not yours to turn. If you find one false, say at which input.
  Laid BY PROGRAM, IN A SANDBOX (cutbox-rows.mjs): the forced cells as the released guide's own fill.sh prints them over the translation 8b8db1e8a25baab8… (all of the seat's roots in one cut). By AI agents, Wed Nov 11 2026. No macro, syntax, notation, axiom, sorry.
-/
import Derived.Test.YtgbmfkfmimpaaaaChecked
import GoSem.Claim
import GoSem.ClaimJoined
import GoSem.ClaimMapViews
import Derived.JoinedTies
import Derived.KernelRfl
namespace Go.Proofs.Ytgbmfkfmimpaaaa
/- THE CELL 'sum', in the pinned program and in every row, IS THE sha256 OF THE DUMP (.gsa) THAT YtgbmfkfmimpaaaaProg.lean LOADS. Nothing in Lean hashes anything: it is a label: what it is worth is what the hold of that sum in a sandbox is worth. -/
noncomputable def Try.pinned : Pinned := { name := "ytgbmfkfmimpaaaa", sum := "8b8db1e8a25baab82f8757fcb056e26bb6882d58da4debf583ce633a9669f6f3", checked := Try.checked }
namespace Rows
def none {H : Type} : Left H := { results := [], args := [] }

/-- 'laws.FnExactConstants': WHATEVER THE INPUT: true; the input reads as it did. -/
def fnExactConstantsSpec : ChangeSpec := { name := "fnExactConstants", fn := fun _ => fun
  | [] => { results := [.lit (.bool true)], args := [] }
  | _ => none }
def fnExactConstantsRow : OpenClaim := { program := "ytgbmfkfmimpaaaa", sum := "8b8db1e8a25baab82f8757fcb056e26bb6882d58da4debf583ce633a9669f6f3", func := "loop.example/lairage/laws.FnExactConstants", spec := "fnExactConstants", apart := false }
def FnExactConstantsSaid : Prop := fnExactConstantsRow.holds Try.pinned (OpenSpec.ofChange fnExactConstantsSpec)

/-- ITS FALSE NEIGHBOUR: 'it returns false'. Refute it at one input. -/
def fnExactConstantsWrong : ChangeSpec := { name := "fnExactConstants", fn := fun _ => fun
  | [] => { results := [.lit (.bool false)], args := [] }
  | _ => none }
def FnExactConstantsWrongFalsely : Prop := fnExactConstantsRow.holds Try.pinned (OpenSpec.ofChange fnExactConstantsWrong)

/-- 'laws.FnExactInsLeaves': WHATEVER THE INPUT: true; the input reads as it did. -/
def fnExactInsLeavesSpec : ChangeSpec := { name := "fnExactInsLeaves", fn := fun _ => fun
  | [d] => { results := [.lit (.bool true)], args := [d] }
  | _ => none }
def fnExactInsLeavesRow : OpenClaim := { program := "ytgbmfkfmimpaaaa", sum := "8b8db1e8a25baab82f8757fcb056e26bb6882d58da4debf583ce633a9669f6f3", func := "loop.example/lairage/laws.FnExactInsLeaves", spec := "fnExactInsLeaves", apart := false }
def FnExactInsLeavesSaid : Prop := fnExactInsLeavesRow.holds Try.pinned (OpenSpec.ofChange fnExactInsLeavesSpec)

/-- ITS FALSE NEIGHBOUR: 'it returns false'. Refute it at one input. -/
def fnExactInsLeavesWrong : ChangeSpec := { name := "fnExactInsLeaves", fn := fun _ => fun
  | [d] => { results := [.lit (.bool false)], args := [d] }
  | _ => none }
def FnExactInsLeavesWrongFalsely : Prop := fnExactInsLeavesRow.holds Try.pinned (OpenSpec.ofChange fnExactInsLeavesWrong)

/-- 'laws.FnInsLeaves': WHATEVER THE INPUT: true; the input reads as it did. -/
def fnInsLeavesSpec : ChangeSpec := { name := "fnInsLeaves", fn := fun _ => fun
  | [d] => { results := [.lit (.bool true)], args := [d] }
  | _ => none }
def fnInsLeavesRow : OpenClaim := { program := "ytgbmfkfmimpaaaa", sum := "8b8db1e8a25baab82f8757fcb056e26bb6882d58da4debf583ce633a9669f6f3", func := "loop.example/lairage/laws.FnInsLeaves", spec := "fnInsLeaves", apart := false }
def FnInsLeavesSaid : Prop := fnInsLeavesRow.holds Try.pinned (OpenSpec.ofChange fnInsLeavesSpec)

/-- ITS FALSE NEIGHBOUR: 'it returns false'. Refute it at one input. -/
def fnInsLeavesWrong : ChangeSpec := { name := "fnInsLeaves", fn := fun _ => fun
  | [d] => { results := [.lit (.bool false)], args := [d] }
  | _ => none }
def FnInsLeavesWrongFalsely : Prop := fnInsLeavesRow.holds Try.pinned (OpenSpec.ofChange fnInsLeavesWrong)

/-- 'laws.FnExactKinIn': WHATEVER THE INPUT: true; the input reads as it did. -/
def fnExactKinInSpec : ChangeSpec := { name := "fnExactKinIn", fn := fun _ => fun
  | [d1, d2] => { results := [.lit (.bool true)], args := [d1, d2] }
  | _ => none }
def fnExactKinInRow : OpenClaim := { program := "ytgbmfkfmimpaaaa", sum := "8b8db1e8a25baab82f8757fcb056e26bb6882d58da4debf583ce633a9669f6f3", func := "loop.example/lairage/laws.FnExactKinIn", spec := "fnExactKinIn", apart := false }
def FnExactKinInSaid : Prop := fnExactKinInRow.holds Try.pinned (OpenSpec.ofChange fnExactKinInSpec)

/-- ITS FALSE NEIGHBOUR: 'it returns false'. Refute it at one input. -/
def fnExactKinInWrong : ChangeSpec := { name := "fnExactKinIn", fn := fun _ => fun
  | [d1, d2] => { results := [.lit (.bool false)], args := [d1, d2] }
  | _ => none }
def FnExactKinInWrongFalsely : Prop := fnExactKinInRow.holds Try.pinned (OpenSpec.ofChange fnExactKinInWrong)

/-- 'laws.FnSort': WHATEVER THE INPUT: true; the input reads as it did. -/
def fnSortSpec : ChangeSpec := { name := "fnSort", fn := fun _ => fun
  | [d] => { results := [.lit (.bool true)], args := [d] }
  | _ => none }
def fnSortRow : OpenClaim := { program := "ytgbmfkfmimpaaaa", sum := "8b8db1e8a25baab82f8757fcb056e26bb6882d58da4debf583ce633a9669f6f3", func := "loop.example/lairage/laws.FnSort", spec := "fnSort", apart := false }
def FnSortSaid : Prop := fnSortRow.holds Try.pinned (OpenSpec.ofChange fnSortSpec)

/-- ITS FALSE NEIGHBOUR: 'it returns false'. Refute it at one input. -/
def fnSortWrong : ChangeSpec := { name := "fnSort", fn := fun _ => fun
  | [d] => { results := [.lit (.bool false)], args := [d] }
  | _ => none }
def FnSortWrongFalsely : Prop := fnSortRow.holds Try.pinned (OpenSpec.ofChange fnSortWrong)

/-- 'laws.FnExactHeapNew': WHATEVER THE INPUT: true; the input reads as it did. -/
def fnExactHeapNewSpec : ChangeSpec := { name := "fnExactHeapNew", fn := fun _ => fun
  | [d1, d2] => { results := [.lit (.bool true)], args := [d1, d2] }
  | _ => none }
def fnExactHeapNewRow : OpenClaim := { program := "ytgbmfkfmimpaaaa", sum := "8b8db1e8a25baab82f8757fcb056e26bb6882d58da4debf583ce633a9669f6f3", func := "loop.example/lairage/laws.FnExactHeapNew", spec := "fnExactHeapNew", apart := false }
def FnExactHeapNewSaid : Prop := fnExactHeapNewRow.holds Try.pinned (OpenSpec.ofChange fnExactHeapNewSpec)

/-- ITS FALSE NEIGHBOUR: 'it returns false'. Refute it at one input. -/
def fnExactHeapNewWrong : ChangeSpec := { name := "fnExactHeapNew", fn := fun _ => fun
  | [d1, d2] => { results := [.lit (.bool false)], args := [d1, d2] }
  | _ => none }
def FnExactHeapNewWrongFalsely : Prop := fnExactHeapNewRow.holds Try.pinned (OpenSpec.ofChange fnExactHeapNewWrong)

/-- 'laws.FnExactHeapSame': WHATEVER THE INPUT: true; the input reads as it did. -/
def fnExactHeapSameSpec : ChangeSpec := { name := "fnExactHeapSame", fn := fun _ => fun
  | [d1, d2] => { results := [.lit (.bool true)], args := [d1, d2] }
  | _ => none }
def fnExactHeapSameRow : OpenClaim := { program := "ytgbmfkfmimpaaaa", sum := "8b8db1e8a25baab82f8757fcb056e26bb6882d58da4debf583ce633a9669f6f3", func := "loop.example/lairage/laws.FnExactHeapSame", spec := "fnExactHeapSame", apart := false }
def FnExactHeapSameSaid : Prop := fnExactHeapSameRow.holds Try.pinned (OpenSpec.ofChange fnExactHeapSameSpec)

/-- ITS FALSE NEIGHBOUR: 'it returns false'. Refute it at one input. -/
def fnExactHeapSameWrong : ChangeSpec := { name := "fnExactHeapSame", fn := fun _ => fun
  | [d1, d2] => { results := [.lit (.bool false)], args := [d1, d2] }
  | _ => none }
def FnExactHeapSameWrongFalsely : Prop := fnExactHeapSameRow.holds Try.pinned (OpenSpec.ofChange fnExactHeapSameWrong)

/-- 'laws.FnExactEngineRoots': WHATEVER THE INPUT: true; the input reads as it did. -/
def fnExactEngineRootsSpec : ChangeSpec := { name := "fnExactEngineRoots", fn := fun _ => fun
  | [d] => { results := [.lit (.bool true)], args := [d] }
  | _ => none }
def fnExactEngineRootsRow : OpenClaim := { program := "ytgbmfkfmimpaaaa", sum := "8b8db1e8a25baab82f8757fcb056e26bb6882d58da4debf583ce633a9669f6f3", func := "loop.example/lairage/laws.FnExactEngineRoots", spec := "fnExactEngineRoots", unfollowed := true, recurses := true, apart := false }
def FnExactEngineRootsSaid : Prop := fnExactEngineRootsRow.holds Try.pinned (OpenSpec.ofChange fnExactEngineRootsSpec)

/-- ITS FALSE NEIGHBOUR: 'it returns false'. Refute it at one input. -/
def fnExactEngineRootsWrong : ChangeSpec := { name := "fnExactEngineRoots", fn := fun _ => fun
  | [d] => { results := [.lit (.bool false)], args := [d] }
  | _ => none }
def FnExactEngineRootsWrongFalsely : Prop := fnExactEngineRootsRow.holds Try.pinned (OpenSpec.ofChange fnExactEngineRootsWrong)

/-- 'laws.FnExactEngineSame': WHATEVER THE INPUT: true; the input reads as it did. -/
def fnExactEngineSameSpec : ChangeSpec := { name := "fnExactEngineSame", fn := fun _ => fun
  | [d1, d2] => { results := [.lit (.bool true)], args := [d1, d2] }
  | _ => none }
def fnExactEngineSameRow : OpenClaim := { program := "ytgbmfkfmimpaaaa", sum := "8b8db1e8a25baab82f8757fcb056e26bb6882d58da4debf583ce633a9669f6f3", func := "loop.example/lairage/laws.FnExactEngineSame", spec := "fnExactEngineSame", unfollowed := true, recurses := true, apart := false }
def FnExactEngineSameSaid : Prop := fnExactEngineSameRow.holds Try.pinned (OpenSpec.ofChange fnExactEngineSameSpec)

/-- ITS FALSE NEIGHBOUR: 'it returns false'. Refute it at one input. -/
def fnExactEngineSameWrong : ChangeSpec := { name := "fnExactEngineSame", fn := fun _ => fun
  | [d1, d2] => { results := [.lit (.bool false)], args := [d1, d2] }
  | _ => none }
def FnExactEngineSameWrongFalsely : Prop := fnExactEngineSameRow.holds Try.pinned (OpenSpec.ofChange fnExactEngineSameWrong)

/-- 'laws.FnExactMeanSame': WHATEVER THE INPUT: true; the input reads as it did. -/
def fnExactMeanSameSpec : ChangeSpec := { name := "fnExactMeanSame", fn := fun _ => fun
  | [d1, d2] => { results := [.lit (.bool true)], args := [d1, d2] }
  | _ => none }
def fnExactMeanSameRow : OpenClaim := { program := "ytgbmfkfmimpaaaa", sum := "8b8db1e8a25baab82f8757fcb056e26bb6882d58da4debf583ce633a9669f6f3", func := "loop.example/lairage/laws.FnExactMeanSame", spec := "fnExactMeanSame", unfollowed := true, recurses := true, apart := false }
def FnExactMeanSameSaid : Prop := fnExactMeanSameRow.holds Try.pinned (OpenSpec.ofChange fnExactMeanSameSpec)

/-- ITS FALSE NEIGHBOUR: 'it returns false'. Refute it at one input. -/
def fnExactMeanSameWrong : ChangeSpec := { name := "fnExactMeanSame", fn := fun _ => fun
  | [d1, d2] => { results := [.lit (.bool false)], args := [d1, d2] }
  | _ => none }
def FnExactMeanSameWrongFalsely : Prop := fnExactMeanSameRow.holds Try.pinned (OpenSpec.ofChange fnExactMeanSameWrong)

/-- 'laws.FnExactProgSame': WHATEVER THE INPUT: true; the input reads as it did. -/
def fnExactProgSameSpec : ChangeSpec := { name := "fnExactProgSame", fn := fun _ => fun
  | [d1, d2] => { results := [.lit (.bool true)], args := [d1, d2] }
  | _ => none }
def fnExactProgSameRow : OpenClaim := { program := "ytgbmfkfmimpaaaa", sum := "8b8db1e8a25baab82f8757fcb056e26bb6882d58da4debf583ce633a9669f6f3", func := "loop.example/lairage/laws.FnExactProgSame", spec := "fnExactProgSame", unfollowed := true, recurses := true, apart := false }
def FnExactProgSameSaid : Prop := fnExactProgSameRow.holds Try.pinned (OpenSpec.ofChange fnExactProgSameSpec)

/-- ITS FALSE NEIGHBOUR: 'it returns false'. Refute it at one input. -/
def fnExactProgSameWrong : ChangeSpec := { name := "fnExactProgSame", fn := fun _ => fun
  | [d1, d2] => { results := [.lit (.bool false)], args := [d1, d2] }
  | _ => none }
def FnExactProgSameWrongFalsely : Prop := fnExactProgSameRow.holds Try.pinned (OpenSpec.ofChange fnExactProgSameWrong)

/- THE SECOND FORM. 'bulk': how many values and letters a reading holds, each counted each time it is reached (what is shared counts as often as it is met; a slice's spare places count too). A statement '..UptoSaid' is the law's where the arguments, and the package variables that the reading takes, are together of bulk at most 1048576: NARROWER than '..Said'. Prove '..Said' where nothing that the law and all that it calls make is longer than what came in: it says more and counts as full. Else prove '..UptoSaid'. A law counts once. -/
mutual
def uptoBulk {H : Type} : DataW H → Nat
  | .lit (.string bytes) => bytes.length + 1
  | .lit _ => 1
  | .nil => 1
  | .ptr d => uptoBulk d + 1
  | .slice elems spare => uptoBulkAll elems + uptoBulkAll spare + 1
  | .agg parts => uptoBulkAll parts + 1
  | .iface _ d => uptoBulk d + 1
  | .map entries => uptoBulkEntries entries + 1
  | .held _ => 1
def uptoBulkAll {H : Type} : List (DataW H) → Nat
  | [] => 0
  | d :: r => uptoBulk d + uptoBulkAll r
def uptoBulkEntries {H : Type} : List (Lit × DataW H) → Nat
  | [] => 0
  | x :: r => uptoBulkEntry x + uptoBulkEntries r
def uptoBulkEntry {H : Type} : Lit × DataW H → Nat
  | (.string bytes, d) => bytes.length + uptoBulk d + 1
  | (_, d) => uptoBulk d + 1
 end
def uptoSmall : (H : Type) → List (DataW H) → Bool := fun _ ds => decide (uptoBulkAll ds ≤ 1048576)
def OpenSpec.upto (s : _root_.Go.ChangeSpec) : _root_.Go.OpenSpec := { _root_.Go.OpenSpec.ofChange s with cond := some uptoSmall }

/-- 'laws.FnExactConstants', WHERE WHAT IT READS IS OF BULK AT MOST 1048576: true; the input reads as it did. -/
def fnExactConstantsUptoRow : OpenClaim := { program := "ytgbmfkfmimpaaaa", sum := "8b8db1e8a25baab82f8757fcb056e26bb6882d58da4debf583ce633a9669f6f3", func := "loop.example/lairage/laws.FnExactConstants", spec := "fnExactConstants", apart := false, narrowed := true }
def FnExactConstantsUptoSaid : Prop := fnExactConstantsUptoRow.holds Try.pinned (OpenSpec.upto fnExactConstantsSpec)

/-- 'laws.FnExactInsLeaves', WHERE WHAT IT READS IS OF BULK AT MOST 1048576: true; the input reads as it did. -/
def fnExactInsLeavesUptoRow : OpenClaim := { program := "ytgbmfkfmimpaaaa", sum := "8b8db1e8a25baab82f8757fcb056e26bb6882d58da4debf583ce633a9669f6f3", func := "loop.example/lairage/laws.FnExactInsLeaves", spec := "fnExactInsLeaves", apart := false, narrowed := true }
def FnExactInsLeavesUptoSaid : Prop := fnExactInsLeavesUptoRow.holds Try.pinned (OpenSpec.upto fnExactInsLeavesSpec)

/-- 'laws.FnInsLeaves', WHERE WHAT IT READS IS OF BULK AT MOST 1048576: true; the input reads as it did. -/
def fnInsLeavesUptoRow : OpenClaim := { program := "ytgbmfkfmimpaaaa", sum := "8b8db1e8a25baab82f8757fcb056e26bb6882d58da4debf583ce633a9669f6f3", func := "loop.example/lairage/laws.FnInsLeaves", spec := "fnInsLeaves", apart := false, narrowed := true }
def FnInsLeavesUptoSaid : Prop := fnInsLeavesUptoRow.holds Try.pinned (OpenSpec.upto fnInsLeavesSpec)

/-- 'laws.FnExactKinIn', WHERE WHAT IT READS IS OF BULK AT MOST 1048576: true; the input reads as it did. -/
def fnExactKinInUptoRow : OpenClaim := { program := "ytgbmfkfmimpaaaa", sum := "8b8db1e8a25baab82f8757fcb056e26bb6882d58da4debf583ce633a9669f6f3", func := "loop.example/lairage/laws.FnExactKinIn", spec := "fnExactKinIn", apart := false, narrowed := true }
def FnExactKinInUptoSaid : Prop := fnExactKinInUptoRow.holds Try.pinned (OpenSpec.upto fnExactKinInSpec)

/-- 'laws.FnSort', WHERE WHAT IT READS IS OF BULK AT MOST 1048576: true; the input reads as it did. -/
def fnSortUptoRow : OpenClaim := { program := "ytgbmfkfmimpaaaa", sum := "8b8db1e8a25baab82f8757fcb056e26bb6882d58da4debf583ce633a9669f6f3", func := "loop.example/lairage/laws.FnSort", spec := "fnSort", apart := false, narrowed := true }
def FnSortUptoSaid : Prop := fnSortUptoRow.holds Try.pinned (OpenSpec.upto fnSortSpec)

/-- 'laws.FnExactHeapNew', WHERE WHAT IT READS IS OF BULK AT MOST 1048576: true; the input reads as it did. -/
def fnExactHeapNewUptoRow : OpenClaim := { program := "ytgbmfkfmimpaaaa", sum := "8b8db1e8a25baab82f8757fcb056e26bb6882d58da4debf583ce633a9669f6f3", func := "loop.example/lairage/laws.FnExactHeapNew", spec := "fnExactHeapNew", apart := false, narrowed := true }
def FnExactHeapNewUptoSaid : Prop := fnExactHeapNewUptoRow.holds Try.pinned (OpenSpec.upto fnExactHeapNewSpec)

/-- 'laws.FnExactHeapSame', WHERE WHAT IT READS IS OF BULK AT MOST 1048576: true; the input reads as it did. -/
def fnExactHeapSameUptoRow : OpenClaim := { program := "ytgbmfkfmimpaaaa", sum := "8b8db1e8a25baab82f8757fcb056e26bb6882d58da4debf583ce633a9669f6f3", func := "loop.example/lairage/laws.FnExactHeapSame", spec := "fnExactHeapSame", apart := false, narrowed := true }
def FnExactHeapSameUptoSaid : Prop := fnExactHeapSameUptoRow.holds Try.pinned (OpenSpec.upto fnExactHeapSameSpec)

/-- 'laws.FnExactEngineRoots', WHERE WHAT IT READS IS OF BULK AT MOST 1048576: true; the input reads as it did. -/
def fnExactEngineRootsUptoRow : OpenClaim := { program := "ytgbmfkfmimpaaaa", sum := "8b8db1e8a25baab82f8757fcb056e26bb6882d58da4debf583ce633a9669f6f3", func := "loop.example/lairage/laws.FnExactEngineRoots", spec := "fnExactEngineRoots", unfollowed := true, recurses := true, apart := false, narrowed := true }
def FnExactEngineRootsUptoSaid : Prop := fnExactEngineRootsUptoRow.holds Try.pinned (OpenSpec.upto fnExactEngineRootsSpec)

/-- 'laws.FnExactEngineSame', WHERE WHAT IT READS IS OF BULK AT MOST 1048576: true; the input reads as it did. -/
def fnExactEngineSameUptoRow : OpenClaim := { program := "ytgbmfkfmimpaaaa", sum := "8b8db1e8a25baab82f8757fcb056e26bb6882d58da4debf583ce633a9669f6f3", func := "loop.example/lairage/laws.FnExactEngineSame", spec := "fnExactEngineSame", unfollowed := true, recurses := true, apart := false, narrowed := true }
def FnExactEngineSameUptoSaid : Prop := fnExactEngineSameUptoRow.holds Try.pinned (OpenSpec.upto fnExactEngineSameSpec)

/-- 'laws.FnExactMeanSame', WHERE WHAT IT READS IS OF BULK AT MOST 1048576: true; the input reads as it did. -/
def fnExactMeanSameUptoRow : OpenClaim := { program := "ytgbmfkfmimpaaaa", sum := "8b8db1e8a25baab82f8757fcb056e26bb6882d58da4debf583ce633a9669f6f3", func := "loop.example/lairage/laws.FnExactMeanSame", spec := "fnExactMeanSame", unfollowed := true, recurses := true, apart := false, narrowed := true }
def FnExactMeanSameUptoSaid : Prop := fnExactMeanSameUptoRow.holds Try.pinned (OpenSpec.upto fnExactMeanSameSpec)

/-- 'laws.FnExactProgSame', WHERE WHAT IT READS IS OF BULK AT MOST 1048576: true; the input reads as it did. -/
def fnExactProgSameUptoRow : OpenClaim := { program := "ytgbmfkfmimpaaaa", sum := "8b8db1e8a25baab82f8757fcb056e26bb6882d58da4debf583ce633a9669f6f3", func := "loop.example/lairage/laws.FnExactProgSame", spec := "fnExactProgSame", unfollowed := true, recurses := true, apart := false, narrowed := true }
def FnExactProgSameUptoSaid : Prop := fnExactProgSameUptoRow.holds Try.pinned (OpenSpec.upto fnExactProgSameSpec)

end Rows
end Go.Proofs.Ytgbmfkfmimpaaaa
