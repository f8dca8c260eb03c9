/-
  No cell of these rows narrows 'for every input' (looked for: loops, veiled, ifaces, maps, wideKeys, modest, calm, conditions, laid).
  DERIVED. THE GIVEN ROWS OF THIS SEAT. 14 by the template 'for every input the law returns true; each argument reads behind the call as it read before'; 0 by the template 'total and deterministic' (their statements: YtepjadcnnakpoaaTotals.lean).
  GIVEN WITH THE SEED: the statements are not yours to turn. If you find one false, say at which input.
  Laid BY PROGRAM, IN A SANDBOX (cutbox-rows.mjs): the forced cells as the released guide's own fill.sh prints them over the translation a9d80792c8702737… (all of the seat's roots in one cut). By AI agents, Wed Nov 11 2026. No macro, syntax, notation, axiom, sorry.
-/
import Derived.Test.YtepjadcnnakpoaaChecked
import GoSem.Claim
import GoSem.ClaimJoined
import GoSem.ClaimMapViews
import Derived.JoinedTies
import Derived.KernelRfl
namespace Go.Proofs.Ytepjadcnnakpoaa
/- THE CELL 'sum', in the pinned program and in every row, IS THE sha256 OF THE DUMP (.gsa) THAT YtepjadcnnakpoaaProg.lean LOADS. Nothing in Lean hashes anything: it is a label: what it is worth is what the hold of that sum in a sandbox is worth. -/
noncomputable def Try.pinned : Pinned := { name := "ytepjadcnnakpoaa", sum := "a9d80792c87027379444157535a4c508892b903c493068760479c6abc624aed2", checked := Try.checked }
namespace Rows
def none {H : Type} : Left H := { results := [], args := [] }

/-- 'laws.FnKinUp': WHATEVER THE INPUT: true; the input reads as it did. -/
def fnKinUpSpec : ChangeSpec := { name := "fnKinUp", fn := fun _ => fun
  | [d] => { results := [.lit (.bool true)], args := [d] }
  | _ => none }
def fnKinUpRow : OpenClaim := { program := "ytepjadcnnakpoaa", sum := "a9d80792c87027379444157535a4c508892b903c493068760479c6abc624aed2", func := "loop.example/lairage/laws.FnKinUp", spec := "fnKinUp", unfollowed := true, recurses := true, plainKeys := false, apart := false }
def FnKinUpSaid : Prop := fnKinUpRow.holds Try.pinned (OpenSpec.ofChange fnKinUpSpec)

/-- ITS FALSE NEIGHBOUR: 'it returns false'. Refute it at one input. -/
def fnKinUpWrong : ChangeSpec := { name := "fnKinUp", fn := fun _ => fun
  | [d] => { results := [.lit (.bool false)], args := [d] }
  | _ => none }
def FnKinUpWrongFalsely : Prop := fnKinUpRow.holds Try.pinned (OpenSpec.ofChange fnKinUpWrong)

/-- 'laws.FnExactKinCount': WHATEVER THE INPUT: true; the input reads as it did. -/
def fnExactKinCountSpec : ChangeSpec := { name := "fnExactKinCount", fn := fun _ => fun
  | [d] => { results := [.lit (.bool true)], args := [d] }
  | _ => none }
def fnExactKinCountRow : OpenClaim := { program := "ytepjadcnnakpoaa", sum := "a9d80792c87027379444157535a4c508892b903c493068760479c6abc624aed2", func := "loop.example/lairage/laws.FnExactKinCount", spec := "fnExactKinCount", plainKeys := false, apart := false }
def FnExactKinCountSaid : Prop := fnExactKinCountRow.holds Try.pinned (OpenSpec.ofChange fnExactKinCountSpec)

/-- ITS FALSE NEIGHBOUR: 'it returns false'. Refute it at one input. -/
def fnExactKinCountWrong : ChangeSpec := { name := "fnExactKinCount", fn := fun _ => fun
  | [d] => { results := [.lit (.bool false)], args := [d] }
  | _ => none }
def FnExactKinCountWrongFalsely : Prop := fnExactKinCountRow.holds Try.pinned (OpenSpec.ofChange fnExactKinCountWrong)

/-- 'laws.FnExactKinType': WHATEVER THE INPUT: true; the input reads as it did. -/
def fnExactKinTypeSpec : ChangeSpec := { name := "fnExactKinType", fn := fun _ => fun
  | [d1, d2] => { results := [.lit (.bool true)], args := [d1, d2] }
  | _ => none }
def fnExactKinTypeRow : OpenClaim := { program := "ytepjadcnnakpoaa", sum := "a9d80792c87027379444157535a4c508892b903c493068760479c6abc624aed2", func := "loop.example/lairage/laws.FnExactKinType", spec := "fnExactKinType", plainKeys := false, apart := false }
def FnExactKinTypeSaid : Prop := fnExactKinTypeRow.holds Try.pinned (OpenSpec.ofChange fnExactKinTypeSpec)

/-- ITS FALSE NEIGHBOUR: 'it returns false'. Refute it at one input. -/
def fnExactKinTypeWrong : ChangeSpec := { name := "fnExactKinType", fn := fun _ => fun
  | [d1, d2] => { results := [.lit (.bool false)], args := [d1, d2] }
  | _ => none }
def FnExactKinTypeWrongFalsely : Prop := fnExactKinTypeRow.holds Try.pinned (OpenSpec.ofChange fnExactKinTypeWrong)

/-- 'laws.FnExactKinOk': WHATEVER THE INPUT: true; the input reads as it did. -/
def fnExactKinOkSpec : ChangeSpec := { name := "fnExactKinOk", fn := fun _ => fun
  | [d] => { results := [.lit (.bool true)], args := [d] }
  | _ => none }
def fnExactKinOkRow : OpenClaim := { program := "ytepjadcnnakpoaa", sum := "a9d80792c87027379444157535a4c508892b903c493068760479c6abc624aed2", func := "loop.example/lairage/laws.FnExactKinOk", spec := "fnExactKinOk", unfollowed := true, recurses := true, plainKeys := false, apart := false }
def FnExactKinOkSaid : Prop := fnExactKinOkRow.holds Try.pinned (OpenSpec.ofChange fnExactKinOkSpec)

/-- ITS FALSE NEIGHBOUR: 'it returns false'. Refute it at one input. -/
def fnExactKinOkWrong : ChangeSpec := { name := "fnExactKinOk", fn := fun _ => fun
  | [d] => { results := [.lit (.bool false)], args := [d] }
  | _ => none }
def FnExactKinOkWrongFalsely : Prop := fnExactKinOkRow.holds Try.pinned (OpenSpec.ofChange fnExactKinOkWrong)

/-- 'laws.FnExactFieldUnder': WHATEVER THE INPUT: true; the input reads as it did. -/
def fnExactFieldUnderSpec : ChangeSpec := { name := "fnExactFieldUnder", fn := fun _ => fun
  | [d1, d2, d3] => { results := [.lit (.bool true)], args := [d1, d2, d3] }
  | _ => none }
def fnExactFieldUnderRow : OpenClaim := { program := "ytepjadcnnakpoaa", sum := "a9d80792c87027379444157535a4c508892b903c493068760479c6abc624aed2", func := "loop.example/lairage/laws.FnExactFieldUnder", spec := "fnExactFieldUnder", unfollowed := true, recurses := true, plainKeys := false, apart := false }
def FnExactFieldUnderSaid : Prop := fnExactFieldUnderRow.holds Try.pinned (OpenSpec.ofChange fnExactFieldUnderSpec)

/-- ITS FALSE NEIGHBOUR: 'it returns false'. Refute it at one input. -/
def fnExactFieldUnderWrong : ChangeSpec := { name := "fnExactFieldUnder", fn := fun _ => fun
  | [d1, d2, d3] => { results := [.lit (.bool false)], args := [d1, d2, d3] }
  | _ => none }
def FnExactFieldUnderWrongFalsely : Prop := fnExactFieldUnderRow.holds Try.pinned (OpenSpec.ofChange fnExactFieldUnderWrong)

/-- 'laws.FnExactKinSame': WHATEVER THE INPUT: true; the input reads as it did. -/
def fnExactKinSameSpec : ChangeSpec := { name := "fnExactKinSame", fn := fun _ => fun
  | [d1, d2, d3] => { results := [.lit (.bool true)], args := [d1, d2, d3] }
  | _ => none }
def fnExactKinSameRow : OpenClaim := { program := "ytepjadcnnakpoaa", sum := "a9d80792c87027379444157535a4c508892b903c493068760479c6abc624aed2", func := "loop.example/lairage/laws.FnExactKinSame", spec := "fnExactKinSame", unfollowed := true, recurses := true, plainKeys := false, apart := false }
def FnExactKinSameSaid : Prop := fnExactKinSameRow.holds Try.pinned (OpenSpec.ofChange fnExactKinSameSpec)

/-- ITS FALSE NEIGHBOUR: 'it returns false'. Refute it at one input. -/
def fnExactKinSameWrong : ChangeSpec := { name := "fnExactKinSame", fn := fun _ => fun
  | [d1, d2, d3] => { results := [.lit (.bool false)], args := [d1, d2, d3] }
  | _ => none }
def FnExactKinSameWrongFalsely : Prop := fnExactKinSameRow.holds Try.pinned (OpenSpec.ofChange fnExactKinSameWrong)

/-- 'laws.FnExactKinUnder': WHATEVER THE INPUT: true; the input reads as it did. -/
def fnExactKinUnderSpec : ChangeSpec := { name := "fnExactKinUnder", fn := fun _ => fun
  | [d1, d2, d3] => { results := [.lit (.bool true)], args := [d1, d2, d3] }
  | _ => none }
def fnExactKinUnderRow : OpenClaim := { program := "ytepjadcnnakpoaa", sum := "a9d80792c87027379444157535a4c508892b903c493068760479c6abc624aed2", func := "loop.example/lairage/laws.FnExactKinUnder", spec := "fnExactKinUnder", unfollowed := true, recurses := true, plainKeys := false, apart := false }
def FnExactKinUnderSaid : Prop := fnExactKinUnderRow.holds Try.pinned (OpenSpec.ofChange fnExactKinUnderSpec)

/-- ITS FALSE NEIGHBOUR: 'it returns false'. Refute it at one input. -/
def fnExactKinUnderWrong : ChangeSpec := { name := "fnExactKinUnder", fn := fun _ => fun
  | [d1, d2, d3] => { results := [.lit (.bool false)], args := [d1, d2, d3] }
  | _ => none }
def FnExactKinUnderWrongFalsely : Prop := fnExactKinUnderRow.holds Try.pinned (OpenSpec.ofChange fnExactKinUnderWrong)

/-- 'laws.FnExactKinCanon': WHATEVER THE INPUT: true; the input reads as it did. -/
def fnExactKinCanonSpec : ChangeSpec := { name := "fnExactKinCanon", fn := fun _ => fun
  | [d1, d2] => { results := [.lit (.bool true)], args := [d1, d2] }
  | _ => none }
def fnExactKinCanonRow : OpenClaim := { program := "ytepjadcnnakpoaa", sum := "a9d80792c87027379444157535a4c508892b903c493068760479c6abc624aed2", func := "loop.example/lairage/laws.FnExactKinCanon", spec := "fnExactKinCanon", unfollowed := true, recurses := true, plainKeys := false, apart := false }
def FnExactKinCanonSaid : Prop := fnExactKinCanonRow.holds Try.pinned (OpenSpec.ofChange fnExactKinCanonSpec)

/-- ITS FALSE NEIGHBOUR: 'it returns false'. Refute it at one input. -/
def fnExactKinCanonWrong : ChangeSpec := { name := "fnExactKinCanon", fn := fun _ => fun
  | [d1, d2] => { results := [.lit (.bool false)], args := [d1, d2] }
  | _ => none }
def FnExactKinCanonWrongFalsely : Prop := fnExactKinCanonRow.holds Try.pinned (OpenSpec.ofChange fnExactKinCanonWrong)

/-- 'laws.FnKinBent': WHATEVER THE INPUT: true; the input reads as it did. -/
def fnKinBentSpec : ChangeSpec := { name := "fnKinBent", fn := fun _ => fun
  | [d] => { results := [.lit (.bool true)], args := [d] }
  | _ => none }
def fnKinBentRow : OpenClaim := { program := "ytepjadcnnakpoaa", sum := "a9d80792c87027379444157535a4c508892b903c493068760479c6abc624aed2", func := "loop.example/lairage/laws.FnKinBent", spec := "fnKinBent", unfollowed := true, recurses := true, plainKeys := false, apart := false }
def FnKinBentSaid : Prop := fnKinBentRow.holds Try.pinned (OpenSpec.ofChange fnKinBentSpec)

/-- ITS FALSE NEIGHBOUR: 'it returns false'. Refute it at one input. -/
def fnKinBentWrong : ChangeSpec := { name := "fnKinBent", fn := fun _ => fun
  | [d] => { results := [.lit (.bool false)], args := [d] }
  | _ => none }
def FnKinBentWrongFalsely : Prop := fnKinBentRow.holds Try.pinned (OpenSpec.ofChange fnKinBentWrong)

/-- 'laws.FnKinUnder': WHATEVER THE INPUT: true; the input reads as it did. -/
def fnKinUnderSpec : ChangeSpec := { name := "fnKinUnder", fn := fun _ => fun
  | [d] => { results := [.lit (.bool true)], args := [d] }
  | _ => none }
def fnKinUnderRow : OpenClaim := { program := "ytepjadcnnakpoaa", sum := "a9d80792c87027379444157535a4c508892b903c493068760479c6abc624aed2", func := "loop.example/lairage/laws.FnKinUnder", spec := "fnKinUnder", unfollowed := true, recurses := true, plainKeys := false, apart := false }
def FnKinUnderSaid : Prop := fnKinUnderRow.holds Try.pinned (OpenSpec.ofChange fnKinUnderSpec)

/-- ITS FALSE NEIGHBOUR: 'it returns false'. Refute it at one input. -/
def fnKinUnderWrong : ChangeSpec := { name := "fnKinUnder", fn := fun _ => fun
  | [d] => { results := [.lit (.bool false)], args := [d] }
  | _ => none }
def FnKinUnderWrongFalsely : Prop := fnKinUnderRow.holds Try.pinned (OpenSpec.ofChange fnKinUnderWrong)

/-- 'laws.FnKinMore': WHATEVER THE INPUT: true; the input reads as it did. -/
def fnKinMoreSpec : ChangeSpec := { name := "fnKinMore", fn := fun _ => fun
  | [d] => { results := [.lit (.bool true)], args := [d] }
  | _ => none }
def fnKinMoreRow : OpenClaim := { program := "ytepjadcnnakpoaa", sum := "a9d80792c87027379444157535a4c508892b903c493068760479c6abc624aed2", func := "loop.example/lairage/laws.FnKinMore", spec := "fnKinMore", unfollowed := true, recurses := true, plainKeys := false, apart := false }
def FnKinMoreSaid : Prop := fnKinMoreRow.holds Try.pinned (OpenSpec.ofChange fnKinMoreSpec)

/-- ITS FALSE NEIGHBOUR: 'it returns false'. Refute it at one input. -/
def fnKinMoreWrong : ChangeSpec := { name := "fnKinMore", fn := fun _ => fun
  | [d] => { results := [.lit (.bool false)], args := [d] }
  | _ => none }
def FnKinMoreWrongFalsely : Prop := fnKinMoreRow.holds Try.pinned (OpenSpec.ofChange fnKinMoreWrong)

/-- 'laws.FnFieldUnder': WHATEVER THE INPUT: true; the input reads as it did. -/
def fnFieldUnderSpec : ChangeSpec := { name := "fnFieldUnder", fn := fun _ => fun
  | [d1, d2] => { results := [.lit (.bool true)], args := [d1, d2] }
  | _ => none }
def fnFieldUnderRow : OpenClaim := { program := "ytepjadcnnakpoaa", sum := "a9d80792c87027379444157535a4c508892b903c493068760479c6abc624aed2", func := "loop.example/lairage/laws.FnFieldUnder", spec := "fnFieldUnder", unfollowed := true, recurses := true, plainKeys := false, apart := false }
def FnFieldUnderSaid : Prop := fnFieldUnderRow.holds Try.pinned (OpenSpec.ofChange fnFieldUnderSpec)

/-- ITS FALSE NEIGHBOUR: 'it returns false'. Refute it at one input. -/
def fnFieldUnderWrong : ChangeSpec := { name := "fnFieldUnder", fn := fun _ => fun
  | [d1, d2] => { results := [.lit (.bool false)], args := [d1, d2] }
  | _ => none }
def FnFieldUnderWrongFalsely : Prop := fnFieldUnderRow.holds Try.pinned (OpenSpec.ofChange fnFieldUnderWrong)

/-- 'laws.FnKin': WHATEVER THE INPUT: true; the input reads as it did. -/
def fnKinSpec : ChangeSpec := { name := "fnKin", fn := fun _ => fun
  | [d] => { results := [.lit (.bool true)], args := [d] }
  | _ => none }
def fnKinRow : OpenClaim := { program := "ytepjadcnnakpoaa", sum := "a9d80792c87027379444157535a4c508892b903c493068760479c6abc624aed2", func := "loop.example/lairage/laws.FnKin", spec := "fnKin", unfollowed := true, recurses := true, plainKeys := false, apart := false }
def FnKinSaid : Prop := fnKinRow.holds Try.pinned (OpenSpec.ofChange fnKinSpec)

/-- ITS FALSE NEIGHBOUR: 'it returns false'. Refute it at one input. -/
def fnKinWrong : ChangeSpec := { name := "fnKin", fn := fun _ => fun
  | [d] => { results := [.lit (.bool false)], args := [d] }
  | _ => none }
def FnKinWrongFalsely : Prop := fnKinRow.holds Try.pinned (OpenSpec.ofChange fnKinWrong)

/-- 'laws.FnKinSame': WHATEVER THE INPUT: true; the input reads as it did. -/
def fnKinSameSpec : ChangeSpec := { name := "fnKinSame", fn := fun _ => fun
  | [d] => { results := [.lit (.bool true)], args := [d] }
  | _ => none }
def fnKinSameRow : OpenClaim := { program := "ytepjadcnnakpoaa", sum := "a9d80792c87027379444157535a4c508892b903c493068760479c6abc624aed2", func := "loop.example/lairage/laws.FnKinSame", spec := "fnKinSame", unfollowed := true, recurses := true, plainKeys := false, apart := false }
def FnKinSameSaid : Prop := fnKinSameRow.holds Try.pinned (OpenSpec.ofChange fnKinSameSpec)

/-- ITS FALSE NEIGHBOUR: 'it returns false'. Refute it at one input. -/
def fnKinSameWrong : ChangeSpec := { name := "fnKinSame", fn := fun _ => fun
  | [d] => { results := [.lit (.bool false)], args := [d] }
  | _ => none }
def FnKinSameWrongFalsely : Prop := fnKinSameRow.holds Try.pinned (OpenSpec.ofChange fnKinSameWrong)

/- THE SECOND FORM. 'bulk': how many values and letters a reading holds, each counted each time it is reached (what is shared counts as often as it is met; a slice's spare places count too). A statement '..UptoSaid' is the law's where the arguments, and the package variables that the reading takes, are together of bulk at most 1048576: NARROWER than '..Said'. Prove '..Said' where nothing that the law and all that it calls make is longer than what came in: it says more and counts as full. Else prove '..UptoSaid'. A law counts once. -/
mutual
def uptoBulk {H : Type} : DataW H → Nat
  | .lit (.string bytes) => bytes.length + 1
  | .lit _ => 1
  | .nil => 1
  | .ptr d => uptoBulk d + 1
  | .slice elems spare => uptoBulkAll elems + uptoBulkAll spare + 1
  | .agg parts => uptoBulkAll parts + 1
  | .iface _ d => uptoBulk d + 1
  | .map entries => uptoBulkEntries entries + 1
  | .held _ => 1
def uptoBulkAll {H : Type} : List (DataW H) → Nat
  | [] => 0
  | d :: r => uptoBulk d + uptoBulkAll r
def uptoBulkEntries {H : Type} : List (Lit × DataW H) → Nat
  | [] => 0
  | x :: r => uptoBulkEntry x + uptoBulkEntries r
def uptoBulkEntry {H : Type} : Lit × DataW H → Nat
  | (.string bytes, d) => bytes.length + uptoBulk d + 1
  | (_, d) => uptoBulk d + 1
 end
def uptoSmall : (H : Type) → List (DataW H) → Bool := fun _ ds => decide (uptoBulkAll ds ≤ 1048576)
def OpenSpec.upto (s : _root_.Go.ChangeSpec) : _root_.Go.OpenSpec := { _root_.Go.OpenSpec.ofChange s with cond := some uptoSmall }

/-- 'laws.FnKinUp', WHERE WHAT IT READS IS OF BULK AT MOST 1048576: true; the input reads as it did. -/
def fnKinUpUptoRow : OpenClaim := { program := "ytepjadcnnakpoaa", sum := "a9d80792c87027379444157535a4c508892b903c493068760479c6abc624aed2", func := "loop.example/lairage/laws.FnKinUp", spec := "fnKinUp", unfollowed := true, recurses := true, plainKeys := false, apart := false, narrowed := true }
def FnKinUpUptoSaid : Prop := fnKinUpUptoRow.holds Try.pinned (OpenSpec.upto fnKinUpSpec)

/-- 'laws.FnExactKinCount', WHERE WHAT IT READS IS OF BULK AT MOST 1048576: true; the input reads as it did. -/
def fnExactKinCountUptoRow : OpenClaim := { program := "ytepjadcnnakpoaa", sum := "a9d80792c87027379444157535a4c508892b903c493068760479c6abc624aed2", func := "loop.example/lairage/laws.FnExactKinCount", spec := "fnExactKinCount", plainKeys := false, apart := false, narrowed := true }
def FnExactKinCountUptoSaid : Prop := fnExactKinCountUptoRow.holds Try.pinned (OpenSpec.upto fnExactKinCountSpec)

/-- 'laws.FnExactKinType', WHERE WHAT IT READS IS OF BULK AT MOST 1048576: true; the input reads as it did. -/
def fnExactKinTypeUptoRow : OpenClaim := { program := "ytepjadcnnakpoaa", sum := "a9d80792c87027379444157535a4c508892b903c493068760479c6abc624aed2", func := "loop.example/lairage/laws.FnExactKinType", spec := "fnExactKinType", plainKeys := false, apart := false, narrowed := true }
def FnExactKinTypeUptoSaid : Prop := fnExactKinTypeUptoRow.holds Try.pinned (OpenSpec.upto fnExactKinTypeSpec)

/-- 'laws.FnExactKinOk', WHERE WHAT IT READS IS OF BULK AT MOST 1048576: true; the input reads as it did. -/
def fnExactKinOkUptoRow : OpenClaim := { program := "ytepjadcnnakpoaa", sum := "a9d80792c87027379444157535a4c508892b903c493068760479c6abc624aed2", func := "loop.example/lairage/laws.FnExactKinOk", spec := "fnExactKinOk", unfollowed := true, recurses := true, plainKeys := false, apart := false, narrowed := true }
def FnExactKinOkUptoSaid : Prop := fnExactKinOkUptoRow.holds Try.pinned (OpenSpec.upto fnExactKinOkSpec)

/-- 'laws.FnExactFieldUnder', WHERE WHAT IT READS IS OF BULK AT MOST 1048576: true; the input reads as it did. -/
def fnExactFieldUnderUptoRow : OpenClaim := { program := "ytepjadcnnakpoaa", sum := "a9d80792c87027379444157535a4c508892b903c493068760479c6abc624aed2", func := "loop.example/lairage/laws.FnExactFieldUnder", spec := "fnExactFieldUnder", unfollowed := true, recurses := true, plainKeys := false, apart := false, narrowed := true }
def FnExactFieldUnderUptoSaid : Prop := fnExactFieldUnderUptoRow.holds Try.pinned (OpenSpec.upto fnExactFieldUnderSpec)

/-- 'laws.FnExactKinSame', WHERE WHAT IT READS IS OF BULK AT MOST 1048576: true; the input reads as it did. -/
def fnExactKinSameUptoRow : OpenClaim := { program := "ytepjadcnnakpoaa", sum := "a9d80792c87027379444157535a4c508892b903c493068760479c6abc624aed2", func := "loop.example/lairage/laws.FnExactKinSame", spec := "fnExactKinSame", unfollowed := true, recurses := true, plainKeys := false, apart := false, narrowed := true }
def FnExactKinSameUptoSaid : Prop := fnExactKinSameUptoRow.holds Try.pinned (OpenSpec.upto fnExactKinSameSpec)

/-- 'laws.FnExactKinUnder', WHERE WHAT IT READS IS OF BULK AT MOST 1048576: true; the input reads as it did. -/
def fnExactKinUnderUptoRow : OpenClaim := { program := "ytepjadcnnakpoaa", sum := "a9d80792c87027379444157535a4c508892b903c493068760479c6abc624aed2", func := "loop.example/lairage/laws.FnExactKinUnder", spec := "fnExactKinUnder", unfollowed := true, recurses := true, plainKeys := false, apart := false, narrowed := true }
def FnExactKinUnderUptoSaid : Prop := fnExactKinUnderUptoRow.holds Try.pinned (OpenSpec.upto fnExactKinUnderSpec)

/-- 'laws.FnExactKinCanon', WHERE WHAT IT READS IS OF BULK AT MOST 1048576: true; the input reads as it did. -/
def fnExactKinCanonUptoRow : OpenClaim := { program := "ytepjadcnnakpoaa", sum := "a9d80792c87027379444157535a4c508892b903c493068760479c6abc624aed2", func := "loop.example/lairage/laws.FnExactKinCanon", spec := "fnExactKinCanon", unfollowed := true, recurses := true, plainKeys := false, apart := false, narrowed := true }
def FnExactKinCanonUptoSaid : Prop := fnExactKinCanonUptoRow.holds Try.pinned (OpenSpec.upto fnExactKinCanonSpec)

/-- 'laws.FnKinBent', WHERE WHAT IT READS IS OF BULK AT MOST 1048576: true; the input reads as it did. -/
def fnKinBentUptoRow : OpenClaim := { program := "ytepjadcnnakpoaa", sum := "a9d80792c87027379444157535a4c508892b903c493068760479c6abc624aed2", func := "loop.example/lairage/laws.FnKinBent", spec := "fnKinBent", unfollowed := true, recurses := true, plainKeys := false, apart := false, narrowed := true }
def FnKinBentUptoSaid : Prop := fnKinBentUptoRow.holds Try.pinned (OpenSpec.upto fnKinBentSpec)

/-- 'laws.FnKinUnder', WHERE WHAT IT READS IS OF BULK AT MOST 1048576: true; the input reads as it did. -/
def fnKinUnderUptoRow : OpenClaim := { program := "ytepjadcnnakpoaa", sum := "a9d80792c87027379444157535a4c508892b903c493068760479c6abc624aed2", func := "loop.example/lairage/laws.FnKinUnder", spec := "fnKinUnder", unfollowed := true, recurses := true, plainKeys := false, apart := false, narrowed := true }
def FnKinUnderUptoSaid : Prop := fnKinUnderUptoRow.holds Try.pinned (OpenSpec.upto fnKinUnderSpec)

/-- 'laws.FnKinMore', WHERE WHAT IT READS IS OF BULK AT MOST 1048576: true; the input reads as it did. -/
def fnKinMoreUptoRow : OpenClaim := { program := "ytepjadcnnakpoaa", sum := "a9d80792c87027379444157535a4c508892b903c493068760479c6abc624aed2", func := "loop.example/lairage/laws.FnKinMore", spec := "fnKinMore", unfollowed := true, recurses := true, plainKeys := false, apart := false, narrowed := true }
def FnKinMoreUptoSaid : Prop := fnKinMoreUptoRow.holds Try.pinned (OpenSpec.upto fnKinMoreSpec)

/-- 'laws.FnFieldUnder', WHERE WHAT IT READS IS OF BULK AT MOST 1048576: true; the input reads as it did. -/
def fnFieldUnderUptoRow : OpenClaim := { program := "ytepjadcnnakpoaa", sum := "a9d80792c87027379444157535a4c508892b903c493068760479c6abc624aed2", func := "loop.example/lairage/laws.FnFieldUnder", spec := "fnFieldUnder", unfollowed := true, recurses := true, plainKeys := false, apart := false, narrowed := true }
def FnFieldUnderUptoSaid : Prop := fnFieldUnderUptoRow.holds Try.pinned (OpenSpec.upto fnFieldUnderSpec)

/-- 'laws.FnKin', WHERE WHAT IT READS IS OF BULK AT MOST 1048576: true; the input reads as it did. -/
def fnKinUptoRow : OpenClaim := { program := "ytepjadcnnakpoaa", sum := "a9d80792c87027379444157535a4c508892b903c493068760479c6abc624aed2", func := "loop.example/lairage/laws.FnKin", spec := "fnKin", unfollowed := true, recurses := true, plainKeys := false, apart := false, narrowed := true }
def FnKinUptoSaid : Prop := fnKinUptoRow.holds Try.pinned (OpenSpec.upto fnKinSpec)

/-- 'laws.FnKinSame', WHERE WHAT IT READS IS OF BULK AT MOST 1048576: true; the input reads as it did. -/
def fnKinSameUptoRow : OpenClaim := { program := "ytepjadcnnakpoaa", sum := "a9d80792c87027379444157535a4c508892b903c493068760479c6abc624aed2", func := "loop.example/lairage/laws.FnKinSame", spec := "fnKinSame", unfollowed := true, recurses := true, plainKeys := false, apart := false, narrowed := true }
def FnKinSameUptoSaid : Prop := fnKinSameUptoRow.holds Try.pinned (OpenSpec.upto fnKinSameSpec)

end Rows
end Go.Proofs.Ytepjadcnnakpoaa
