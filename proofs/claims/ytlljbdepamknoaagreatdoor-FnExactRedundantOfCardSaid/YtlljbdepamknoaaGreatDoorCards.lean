/-
  DERIVED. GIVEN WITH THE SEED: THE CARDS: each row of YtlljbdepamknoaaGreatDoorRows.lean that lists a variable, with what it lists TIED to the program's text (the seventh form; the later family's looks); each row that meets fmt, with fmt's text TOLD by the authors' own Lean function (tested against real Go, not proved from fmt's source: count such statements apart). THE CARD IS WHAT COUNTS. Prove the row's statement (the work); the ties are given (YtlljbdepamknoaaGreatDoorTie.lean); close each card by the builder's one call (the guide's Derived/Test/ToyasCard.lean, 'card_holds'). Laid BY PROGRAM, IN A SANDBOX (cutbox-door.mjs). By AI agents, Wed Nov 11 2026. No macro, syntax, notation, axiom, sorry.
-/
import Derived.Test.YtlljbdepamknoaaGreatDoorRows
import GoSem.ClaimSeven
namespace Go.Proofs.YtlljbdepamknoaaGreatDoor
namespace Rows

/-- THE TIED CARD OF 'laws.FnExactLevelOf'. -/
def fnExactLevelOfCard : Claim7 := { stood := { row := fnExactLevelOfRow, standIns := [], harness := (true, "cdaa4e50b62a3d7ba9bb0d62bb76ff79f060fa989bdaa8edd4d3485dd256112e"), looks := false }, kinds := [], alts := [], laidByText := true, laidKinds := [.data, .data, .data], laidTests := true, laidLooks := .later }
def FnExactLevelOfCardSaid : Prop := Claim7.holds Tryz.pinned (.plain (OpenSpec.ofChange fnExactLevelOfSpec)) fnExactLevelOfCard

/-- THE TIED CARD OF 'laws.FnExactFailingNeed'. -/
def fnExactFailingNeedCard : Claim7 := { stood := { row := fnExactFailingNeedRow, standIns := [], harness := (true, "cdaa4e50b62a3d7ba9bb0d62bb76ff79f060fa989bdaa8edd4d3485dd256112e"), looks := false }, kinds := [], alts := [], laidByText := true, laidKinds := [.data, .data, .data], laidTests := true, laidLooks := .later }
def FnExactFailingNeedCardSaid : Prop := Claim7.holds Tryz.pinned (.plain (OpenSpec.ofChange fnExactFailingNeedSpec)) fnExactFailingNeedCard

/-- THE TIED CARD OF 'laws.FnExactRedundantOf'. -/
def fnExactRedundantOfCard : Claim7 := { stood := { row := fnExactRedundantOfRow, standIns := [], harness := (true, "cdaa4e50b62a3d7ba9bb0d62bb76ff79f060fa989bdaa8edd4d3485dd256112e"), looks := false }, kinds := [], alts := [], laidByText := true, laidKinds := [.data, .data, .data], laidTests := true, laidLooks := .later }
def FnExactRedundantOfCardSaid : Prop := Claim7.holds Tryz.pinned (.plain (OpenSpec.ofChange fnExactRedundantOfSpec)) fnExactRedundantOfCard

/-- THE TIED CARD OF 'laws.FnExactCountDicts'. -/
def fnExactCountDictsCard : Claim7 := { stood := { row := fnExactCountDictsRow, standIns := [], harness := (true, "cdaa4e50b62a3d7ba9bb0d62bb76ff79f060fa989bdaa8edd4d3485dd256112e"), looks := false }, kinds := [], alts := [], laidByText := true, laidKinds := [.data, .data, .data], laidTests := true, laidLooks := .later }
def FnExactCountDictsCardSaid : Prop := Claim7.holds Tryz.pinned (.plain (OpenSpec.ofChange fnExactCountDictsSpec)) fnExactCountDictsCard

/-- THE TIED CARD OF 'laws.FnExactIsUnique'. -/
def fnExactIsUniqueCard : Claim7 := { stood := { row := fnExactIsUniqueRow, standIns := [], harness := (true, "cdaa4e50b62a3d7ba9bb0d62bb76ff79f060fa989bdaa8edd4d3485dd256112e"), looks := false }, kinds := [], alts := [], laidByText := true, laidKinds := [.data, .data, .data], laidTests := true, laidLooks := .later }
def FnExactIsUniqueCardSaid : Prop := Claim7.holds Tryz.pinned (.plain (OpenSpec.ofChange fnExactIsUniqueSpec)) fnExactIsUniqueCard

/-- THE SECOND FORM's CARD OF 'laws.FnExactLevelOf'. -/
def fnExactLevelOfUptoCard : Claim7 := { stood := { row := fnExactLevelOfUptoRow, standIns := [], harness := (true, "cdaa4e50b62a3d7ba9bb0d62bb76ff79f060fa989bdaa8edd4d3485dd256112e"), looks := false }, kinds := [], alts := [], laidByText := true, laidKinds := [.data, .data, .data], laidTests := true, laidLooks := .later }
def FnExactLevelOfUptoCardSaid : Prop := Claim7.holds Tryz.pinned (.plain (OpenSpec.upto fnExactLevelOfSpec)) fnExactLevelOfUptoCard

/-- THE SECOND FORM's CARD OF 'laws.FnExactFailingNeed'. -/
def fnExactFailingNeedUptoCard : Claim7 := { stood := { row := fnExactFailingNeedUptoRow, standIns := [], harness := (true, "cdaa4e50b62a3d7ba9bb0d62bb76ff79f060fa989bdaa8edd4d3485dd256112e"), looks := false }, kinds := [], alts := [], laidByText := true, laidKinds := [.data, .data, .data], laidTests := true, laidLooks := .later }
def FnExactFailingNeedUptoCardSaid : Prop := Claim7.holds Tryz.pinned (.plain (OpenSpec.upto fnExactFailingNeedSpec)) fnExactFailingNeedUptoCard

/-- THE SECOND FORM's CARD OF 'laws.FnExactRedundantOf'. -/
def fnExactRedundantOfUptoCard : Claim7 := { stood := { row := fnExactRedundantOfUptoRow, standIns := [], harness := (true, "cdaa4e50b62a3d7ba9bb0d62bb76ff79f060fa989bdaa8edd4d3485dd256112e"), looks := false }, kinds := [], alts := [], laidByText := true, laidKinds := [.data, .data, .data], laidTests := true, laidLooks := .later }
def FnExactRedundantOfUptoCardSaid : Prop := Claim7.holds Tryz.pinned (.plain (OpenSpec.upto fnExactRedundantOfSpec)) fnExactRedundantOfUptoCard

/-- THE SECOND FORM's CARD OF 'laws.FnExactCountDicts'. -/
def fnExactCountDictsUptoCard : Claim7 := { stood := { row := fnExactCountDictsUptoRow, standIns := [], harness := (true, "cdaa4e50b62a3d7ba9bb0d62bb76ff79f060fa989bdaa8edd4d3485dd256112e"), looks := false }, kinds := [], alts := [], laidByText := true, laidKinds := [.data, .data, .data], laidTests := true, laidLooks := .later }
def FnExactCountDictsUptoCardSaid : Prop := Claim7.holds Tryz.pinned (.plain (OpenSpec.upto fnExactCountDictsSpec)) fnExactCountDictsUptoCard

/-- THE SECOND FORM's CARD OF 'laws.FnExactIsUnique'. -/
def fnExactIsUniqueUptoCard : Claim7 := { stood := { row := fnExactIsUniqueUptoRow, standIns := [], harness := (true, "cdaa4e50b62a3d7ba9bb0d62bb76ff79f060fa989bdaa8edd4d3485dd256112e"), looks := false }, kinds := [], alts := [], laidByText := true, laidKinds := [.data, .data, .data], laidTests := true, laidLooks := .later }
def FnExactIsUniqueUptoCardSaid : Prop := Claim7.holds Tryz.pinned (.plain (OpenSpec.upto fnExactIsUniqueSpec)) fnExactIsUniqueUptoCard
end Rows
end Go.Proofs.YtlljbdepamknoaaGreatDoor
