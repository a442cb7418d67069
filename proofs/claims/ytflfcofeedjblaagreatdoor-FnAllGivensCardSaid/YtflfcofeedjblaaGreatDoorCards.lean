/-
  DERIVED. GIVEN WITH THE SEED: THE CARDS: each row of YtflfcofeedjblaaGreatDoorRows.lean that lists a variable, with what it lists TIED to the program's text (the seventh form; the later family's looks); each row that meets fmt, with fmt's text TOLD by the authors' own Lean function (tested against real Go, not proved from fmt's source: count such statements apart). THE CARD IS WHAT COUNTS. Prove the row's statement (the work); the ties are given (YtflfcofeedjblaaGreatDoorTie.lean); close each card by the builder's one call (the guide's Derived/Test/ToyasCard.lean, 'card_holds'). Laid BY PROGRAM, IN A SANDBOX (cutbox-door.mjs). By AI agents, Wed Nov 11 2026. No macro, syntax, notation, axiom, sorry.
-/
import Derived.Test.YtflfcofeedjblaaGreatDoorRows
import GoSem.ClaimSeven
namespace Go.Proofs.YtflfcofeedjblaaGreatDoor
namespace Rows

/-- THE TIED CARD OF 'laws.FnAllGivens'. -/
def fnAllGivensCard : Claim7 := { stood := { row := fnAllGivensRow, standIns := [], harness := (true, "cd85cf4d50049662faa833565df105de7a8b849d21b6793e30ecfbe77595fce5"), looks := false }, kinds := [], alts := [], laidByText := true, laidKinds := [.data, .data, .data], laidTests := true, laidLooks := .later }
def FnAllGivensCardSaid : Prop := Claim7.holds Tryz.pinned (.plain (OpenSpec.ofChange fnAllGivensSpec)) fnAllGivensCard

/-- THE TIED CARD OF 'laws.FnSpecialDict'. -/
def fnSpecialDictCard : Claim7 := { stood := { row := fnSpecialDictRow, standIns := [], harness := (true, "cd85cf4d50049662faa833565df105de7a8b849d21b6793e30ecfbe77595fce5"), looks := false }, kinds := [], alts := [], laidByText := true, laidKinds := [.data, .data, .data], laidTests := true, laidLooks := .later }
def FnSpecialDictCardSaid : Prop := Claim7.holds Tryz.pinned (.plain (OpenSpec.ofChange fnSpecialDictSpec)) fnSpecialDictCard

/-- THE TIED CARD OF 'laws.FnFindDict'. -/
def fnFindDictCard : Claim7 := { stood := { row := fnFindDictRow, standIns := [], harness := (true, "cd85cf4d50049662faa833565df105de7a8b849d21b6793e30ecfbe77595fce5"), looks := false }, kinds := [], alts := [], laidByText := true, laidKinds := [.data, .data, .data], laidTests := true, laidLooks := .later }
def FnFindDictCardSaid : Prop := Claim7.holds Tryz.pinned (.plain (OpenSpec.ofChange fnFindDictSpec)) fnFindDictCard

/-- THE TIED CARD OF 'laws.FnAskedFor'. -/
def fnAskedForCard : Claim7 := { stood := { row := fnAskedForRow, standIns := [], harness := (true, "cd85cf4d50049662faa833565df105de7a8b849d21b6793e30ecfbe77595fce5"), looks := false }, kinds := [], alts := [], laidByText := true, laidKinds := [.data, .data, .data], laidTests := true, laidLooks := .later }
def FnAskedForCardSaid : Prop := Claim7.holds Tryz.pinned (.plain (OpenSpec.ofChange fnAskedForSpec)) fnAskedForCard

/-- THE SECOND FORM's CARD OF 'laws.FnAllGivens'. -/
def fnAllGivensUptoCard : Claim7 := { stood := { row := fnAllGivensUptoRow, standIns := [], harness := (true, "cd85cf4d50049662faa833565df105de7a8b849d21b6793e30ecfbe77595fce5"), looks := false }, kinds := [], alts := [], laidByText := true, laidKinds := [.data, .data, .data], laidTests := true, laidLooks := .later }
def FnAllGivensUptoCardSaid : Prop := Claim7.holds Tryz.pinned (.plain (OpenSpec.upto fnAllGivensSpec)) fnAllGivensUptoCard

/-- THE SECOND FORM's CARD OF 'laws.FnSpecialDict'. -/
def fnSpecialDictUptoCard : Claim7 := { stood := { row := fnSpecialDictUptoRow, standIns := [], harness := (true, "cd85cf4d50049662faa833565df105de7a8b849d21b6793e30ecfbe77595fce5"), looks := false }, kinds := [], alts := [], laidByText := true, laidKinds := [.data, .data, .data], laidTests := true, laidLooks := .later }
def FnSpecialDictUptoCardSaid : Prop := Claim7.holds Tryz.pinned (.plain (OpenSpec.upto fnSpecialDictSpec)) fnSpecialDictUptoCard

/-- THE SECOND FORM's CARD OF 'laws.FnFindDict'. -/
def fnFindDictUptoCard : Claim7 := { stood := { row := fnFindDictUptoRow, standIns := [], harness := (true, "cd85cf4d50049662faa833565df105de7a8b849d21b6793e30ecfbe77595fce5"), looks := false }, kinds := [], alts := [], laidByText := true, laidKinds := [.data, .data, .data], laidTests := true, laidLooks := .later }
def FnFindDictUptoCardSaid : Prop := Claim7.holds Tryz.pinned (.plain (OpenSpec.upto fnFindDictSpec)) fnFindDictUptoCard

/-- THE SECOND FORM's CARD OF 'laws.FnAskedFor'. -/
def fnAskedForUptoCard : Claim7 := { stood := { row := fnAskedForUptoRow, standIns := [], harness := (true, "cd85cf4d50049662faa833565df105de7a8b849d21b6793e30ecfbe77595fce5"), looks := false }, kinds := [], alts := [], laidByText := true, laidKinds := [.data, .data, .data], laidTests := true, laidLooks := .later }
def FnAskedForUptoCardSaid : Prop := Claim7.holds Tryz.pinned (.plain (OpenSpec.upto fnAskedForSpec)) fnAskedForUptoCard
end Rows
end Go.Proofs.YtflfcofeedjblaaGreatDoor
