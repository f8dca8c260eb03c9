/-
  DERIVED. GIVEN WITH THE SEED: THE CARDS: each row of YthomfkdoaembbaaDoorRows.lean that lists a variable, with what it lists TIED to the program's text (the seventh form; the later family's looks); each row that meets fmt, with fmt's text TOLD by the authors' own Lean function (tested against real Go, not proved from fmt's source: count such statements apart). THE CARD IS WHAT COUNTS. Prove the row's statement (the work); the ties are given (YthomfkdoaembbaaDoorTie.lean); close each card by the builder's one call (the guide's Derived/Test/ToyasCard.lean, 'card_holds'). Laid BY PROGRAM, IN A SANDBOX (cutbox-door.mjs). By AI agents, Wed Nov 11 2026. No macro, syntax, notation, axiom, sorry.
-/
import Derived.Test.YthomfkdoaembbaaDoorRows
import GoSem.ClaimSeven
namespace Go.Proofs.YthomfkdoaembbaaDoor
namespace Rows

/-- THE TIED CARD OF 'laws.FnExactInsText'. -/
def fnExactInsTextCard : Claim7 := { stood := { row := fnExactInsTextRow, standIns := [], harness := (true, "97d8c738457e999804cd0337d1a4a2dd508650e8e297000f91bc3f2376ba88c0"), looks := false }, kinds := [], alts := [], laidByText := true, laidKinds := [.data, .data, .data], laidTests := true, laidLooks := .later }
def FnExactInsTextCardSaid : Prop := Claim7.holds Tryd.pinned (.plain (OpenSpec.ofChange fnExactInsTextSpec)) fnExactInsTextCard

/-- THE TIED CARD OF 'laws.FnExactInsRead'. -/
def fnExactInsReadCard : Claim7 := { stood := { row := fnExactInsReadRow, standIns := [], harness := (true, "97d8c738457e999804cd0337d1a4a2dd508650e8e297000f91bc3f2376ba88c0"), looks := false }, kinds := [], alts := [], laidByText := true, laidKinds := [.data, .data, .data, .data, .pinned], laidTests := true, laidLooks := .later }
def FnExactInsReadCardSaid : Prop := Claim7.holds Tryd.pinned (.plain (OpenSpec.ofChange fnExactInsReadSpec)) fnExactInsReadCard

/-- THE TIED CARD OF 'laws.FnIns'. -/
def fnInsCard : Claim7 := { stood := { row := fnInsRow, standIns := [], harness := (true, "97d8c738457e999804cd0337d1a4a2dd508650e8e297000f91bc3f2376ba88c0"), looks := false }, kinds := [], alts := [], laidByText := true, laidKinds := [.data, .data, .data, .data, .pinned], laidTests := true, laidLooks := .later }
def FnInsCardSaid : Prop := Claim7.holds Tryd.pinned (.plain (OpenSpec.ofChange fnInsSpec)) fnInsCard

/-- THE TIED CARD OF 'laws.FnInsHas'. -/
def fnInsHasCard : Claim7 := { stood := { row := fnInsHasRow, standIns := [], harness := (true, "97d8c738457e999804cd0337d1a4a2dd508650e8e297000f91bc3f2376ba88c0"), looks := false }, kinds := [], alts := [], laidByText := true, laidKinds := [.data, .data, .data], laidTests := true, laidLooks := .later }
def FnInsHasCardSaid : Prop := Claim7.holds Tryd.pinned (.plain (OpenSpec.ofChange fnInsHasSpec)) fnInsHasCard

/-- THE TIED CARD OF 'laws.FnExactFieldText'. -/
def fnExactFieldTextCard : Claim7 := { stood := { row := fnExactFieldTextRow, standIns := [], harness := (true, "97d8c738457e999804cd0337d1a4a2dd508650e8e297000f91bc3f2376ba88c0"), looks := false }, kinds := [], alts := [], laidByText := true, laidKinds := [.data, .data, .data], laidTests := true, laidLooks := .later }
def FnExactFieldTextCardSaid : Prop := Claim7.holds Tryd.pinned (.plain (OpenSpec.ofChange fnExactFieldTextSpec)) fnExactFieldTextCard

/-- THE TIED CARD OF 'laws.FnExactFieldRead'. -/
def fnExactFieldReadCard : Claim7 := { stood := { row := fnExactFieldReadRow, standIns := [], harness := (true, "97d8c738457e999804cd0337d1a4a2dd508650e8e297000f91bc3f2376ba88c0"), looks := false }, kinds := [], alts := [], laidByText := true, laidKinds := [.data, .data, .data], laidTests := true, laidLooks := .later }
def FnExactFieldReadCardSaid : Prop := Claim7.holds Tryd.pinned (.plain (OpenSpec.ofChange fnExactFieldReadSpec)) fnExactFieldReadCard

/-- THE TIED CARD OF 'laws.FnField'. -/
def fnFieldCard : Claim7 := { stood := { row := fnFieldRow, standIns := [], harness := (true, "97d8c738457e999804cd0337d1a4a2dd508650e8e297000f91bc3f2376ba88c0"), looks := false }, kinds := [], alts := [], laidByText := true, laidKinds := [.data, .data, .data], laidTests := true, laidLooks := .later }
def FnFieldCardSaid : Prop := Claim7.holds Tryd.pinned (.plain (OpenSpec.ofChange fnFieldSpec)) fnFieldCard

/-- THE TIED CARD OF 'laws.FnThingText'. -/
def fnThingTextCard : Claim7 := { stood := { row := fnThingTextRow, standIns := [], harness := (true, "97d8c738457e999804cd0337d1a4a2dd508650e8e297000f91bc3f2376ba88c0"), looks := false }, kinds := [], alts := [], laidByText := true, laidKinds := [.data, .data, .data], laidTests := true, laidLooks := .later }
def FnThingTextCardSaid : Prop := Claim7.holds Tryd.pinned (.plain (OpenSpec.ofChange fnThingTextSpec)) fnThingTextCard

/-- THE TIED CARD OF 'laws.FnExactThingText'. -/
def fnExactThingTextCard : Claim7 := { stood := { row := fnExactThingTextRow, standIns := [], harness := (true, "97d8c738457e999804cd0337d1a4a2dd508650e8e297000f91bc3f2376ba88c0"), looks := false }, kinds := [], alts := [], laidByText := true, laidKinds := [.data, .data, .data], laidTests := true, laidLooks := .later }
def FnExactThingTextCardSaid : Prop := Claim7.holds Tryd.pinned (.plain (OpenSpec.ofChange fnExactThingTextSpec)) fnExactThingTextCard

/-- THE SECOND FORM's CARD OF 'laws.FnExactInsText'. -/
def fnExactInsTextUptoCard : Claim7 := { stood := { row := fnExactInsTextUptoRow, standIns := [], harness := (true, "97d8c738457e999804cd0337d1a4a2dd508650e8e297000f91bc3f2376ba88c0"), looks := false }, kinds := [], alts := [], laidByText := true, laidKinds := [.data, .data, .data], laidTests := true, laidLooks := .later }
def FnExactInsTextUptoCardSaid : Prop := Claim7.holds Tryd.pinned (.plain (OpenSpec.upto fnExactInsTextSpec)) fnExactInsTextUptoCard

/-- THE SECOND FORM's CARD OF 'laws.FnExactInsRead'. -/
def fnExactInsReadUptoCard : Claim7 := { stood := { row := fnExactInsReadUptoRow, standIns := [], harness := (true, "97d8c738457e999804cd0337d1a4a2dd508650e8e297000f91bc3f2376ba88c0"), looks := false }, kinds := [], alts := [], laidByText := true, laidKinds := [.data, .data, .data, .data, .pinned], laidTests := true, laidLooks := .later }
def FnExactInsReadUptoCardSaid : Prop := Claim7.holds Tryd.pinned (.plain (OpenSpec.upto fnExactInsReadSpec)) fnExactInsReadUptoCard

/-- THE SECOND FORM's CARD OF 'laws.FnIns'. -/
def fnInsUptoCard : Claim7 := { stood := { row := fnInsUptoRow, standIns := [], harness := (true, "97d8c738457e999804cd0337d1a4a2dd508650e8e297000f91bc3f2376ba88c0"), looks := false }, kinds := [], alts := [], laidByText := true, laidKinds := [.data, .data, .data, .data, .pinned], laidTests := true, laidLooks := .later }
def FnInsUptoCardSaid : Prop := Claim7.holds Tryd.pinned (.plain (OpenSpec.upto fnInsSpec)) fnInsUptoCard

/-- THE SECOND FORM's CARD OF 'laws.FnInsHas'. -/
def fnInsHasUptoCard : Claim7 := { stood := { row := fnInsHasUptoRow, standIns := [], harness := (true, "97d8c738457e999804cd0337d1a4a2dd508650e8e297000f91bc3f2376ba88c0"), looks := false }, kinds := [], alts := [], laidByText := true, laidKinds := [.data, .data, .data], laidTests := true, laidLooks := .later }
def FnInsHasUptoCardSaid : Prop := Claim7.holds Tryd.pinned (.plain (OpenSpec.upto fnInsHasSpec)) fnInsHasUptoCard

/-- THE SECOND FORM's CARD OF 'laws.FnExactFieldText'. -/
def fnExactFieldTextUptoCard : Claim7 := { stood := { row := fnExactFieldTextUptoRow, standIns := [], harness := (true, "97d8c738457e999804cd0337d1a4a2dd508650e8e297000f91bc3f2376ba88c0"), looks := false }, kinds := [], alts := [], laidByText := true, laidKinds := [.data, .data, .data], laidTests := true, laidLooks := .later }
def FnExactFieldTextUptoCardSaid : Prop := Claim7.holds Tryd.pinned (.plain (OpenSpec.upto fnExactFieldTextSpec)) fnExactFieldTextUptoCard

/-- THE SECOND FORM's CARD OF 'laws.FnExactFieldRead'. -/
def fnExactFieldReadUptoCard : Claim7 := { stood := { row := fnExactFieldReadUptoRow, standIns := [], harness := (true, "97d8c738457e999804cd0337d1a4a2dd508650e8e297000f91bc3f2376ba88c0"), looks := false }, kinds := [], alts := [], laidByText := true, laidKinds := [.data, .data, .data], laidTests := true, laidLooks := .later }
def FnExactFieldReadUptoCardSaid : Prop := Claim7.holds Tryd.pinned (.plain (OpenSpec.upto fnExactFieldReadSpec)) fnExactFieldReadUptoCard

/-- THE SECOND FORM's CARD OF 'laws.FnField'. -/
def fnFieldUptoCard : Claim7 := { stood := { row := fnFieldUptoRow, standIns := [], harness := (true, "97d8c738457e999804cd0337d1a4a2dd508650e8e297000f91bc3f2376ba88c0"), looks := false }, kinds := [], alts := [], laidByText := true, laidKinds := [.data, .data, .data], laidTests := true, laidLooks := .later }
def FnFieldUptoCardSaid : Prop := Claim7.holds Tryd.pinned (.plain (OpenSpec.upto fnFieldSpec)) fnFieldUptoCard

/-- THE SECOND FORM's CARD OF 'laws.FnThingText'. -/
def fnThingTextUptoCard : Claim7 := { stood := { row := fnThingTextUptoRow, standIns := [], harness := (true, "97d8c738457e999804cd0337d1a4a2dd508650e8e297000f91bc3f2376ba88c0"), looks := false }, kinds := [], alts := [], laidByText := true, laidKinds := [.data, .data, .data], laidTests := true, laidLooks := .later }
def FnThingTextUptoCardSaid : Prop := Claim7.holds Tryd.pinned (.plain (OpenSpec.upto fnThingTextSpec)) fnThingTextUptoCard

/-- THE SECOND FORM's CARD OF 'laws.FnExactThingText'. -/
def fnExactThingTextUptoCard : Claim7 := { stood := { row := fnExactThingTextUptoRow, standIns := [], harness := (true, "97d8c738457e999804cd0337d1a4a2dd508650e8e297000f91bc3f2376ba88c0"), looks := false }, kinds := [], alts := [], laidByText := true, laidKinds := [.data, .data, .data], laidTests := true, laidLooks := .later }
def FnExactThingTextUptoCardSaid : Prop := Claim7.holds Tryd.pinned (.plain (OpenSpec.upto fnExactThingTextSpec)) fnExactThingTextUptoCard
end Rows
end Go.Proofs.YthomfkdoaembbaaDoor
