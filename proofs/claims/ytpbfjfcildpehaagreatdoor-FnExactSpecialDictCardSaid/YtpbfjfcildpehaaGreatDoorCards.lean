/-
  DERIVED. GIVEN WITH THE SEED: THE CARDS: each row of YtpbfjfcildpehaaGreatDoorRows.lean that lists a variable, with what it lists TIED to the program's text (the seventh form; the later family's looks); each row that meets fmt, with fmt's text TOLD by the authors' own Lean function (tested against real Go, not proved from fmt's source: count such statements apart). THE CARD IS WHAT COUNTS. Prove the row's statement (the work); the ties are given (YtpbfjfcildpehaaGreatDoorTie.lean); close each card by the builder's one call (the guide's Derived/Test/ToyasCard.lean, 'card_holds'). Laid BY PROGRAM, IN A SANDBOX (cutbox-door.mjs). By AI agents, Wed Nov 11 2026. No macro, syntax, notation, axiom, sorry.
-/
import Derived.Test.YtpbfjfcildpehaaGreatDoorRows
import GoSem.ClaimSeven
namespace Go.Proofs.YtpbfjfcildpehaaGreatDoor
namespace Rows

/-- THE TIED CARD OF 'laws.FnExactLevelOf'. -/
def fnExactLevelOfCard : Claim7 := { stood := { row := fnExactLevelOfRow, standIns := [], harness := (true, "e8b0018b163e8728e78a26dffccef5d47fb8fa69a7b6c4dca9af3057092a0190"), looks := false }, kinds := [], alts := [], laidByText := true, laidKinds := [.data, .data, .data], laidTests := true, laidLooks := .later }
def FnExactLevelOfCardSaid : Prop := Claim7.holds Tryz.pinned (.plain (OpenSpec.ofChange fnExactLevelOfSpec)) fnExactLevelOfCard

/-- THE TIED CARD OF 'laws.FnExactFindDict'. -/
def fnExactFindDictCard : Claim7 := { stood := { row := fnExactFindDictRow, standIns := [], harness := (true, "e8b0018b163e8728e78a26dffccef5d47fb8fa69a7b6c4dca9af3057092a0190"), looks := false }, kinds := [], alts := [], laidByText := true, laidKinds := [.data, .data, .data], laidTests := true, laidLooks := .later }
def FnExactFindDictCardSaid : Prop := Claim7.holds Tryz.pinned (.plain (OpenSpec.ofChange fnExactFindDictSpec)) fnExactFindDictCard

/-- THE TIED CARD OF 'laws.FnExactSpecialDict'. -/
def fnExactSpecialDictCard : Claim7 := { stood := { row := fnExactSpecialDictRow, standIns := [], harness := (true, "e8b0018b163e8728e78a26dffccef5d47fb8fa69a7b6c4dca9af3057092a0190"), looks := false }, kinds := [], alts := [], laidByText := true, laidKinds := [.data, .data, .data], laidTests := true, laidLooks := .later }
def FnExactSpecialDictCardSaid : Prop := Claim7.holds Tryz.pinned (.plain (OpenSpec.ofChange fnExactSpecialDictSpec)) fnExactSpecialDictCard

/-- THE TIED CARD OF 'laws.FnExactFailingNeed'. -/
def fnExactFailingNeedCard : Claim7 := { stood := { row := fnExactFailingNeedRow, standIns := [], harness := (true, "e8b0018b163e8728e78a26dffccef5d47fb8fa69a7b6c4dca9af3057092a0190"), looks := false }, kinds := [], alts := [], laidByText := true, laidKinds := [.data, .data, .data], laidTests := true, laidLooks := .later }
def FnExactFailingNeedCardSaid : Prop := Claim7.holds Tryz.pinned (.plain (OpenSpec.ofChange fnExactFailingNeedSpec)) fnExactFailingNeedCard

/-- THE TIED CARD OF 'laws.FnExactHasInstance'. -/
def fnExactHasInstanceCard : Claim7 := { stood := { row := fnExactHasInstanceRow, standIns := [], harness := (true, "e8b0018b163e8728e78a26dffccef5d47fb8fa69a7b6c4dca9af3057092a0190"), looks := false }, kinds := [], alts := [], laidByText := true, laidKinds := [.data, .data, .data], laidTests := true, laidLooks := .later }
def FnExactHasInstanceCardSaid : Prop := Claim7.holds Tryz.pinned (.plain (OpenSpec.ofChange fnExactHasInstanceSpec)) fnExactHasInstanceCard

/-- THE TIED CARD OF 'laws.FnExactRedundantOf'. -/
def fnExactRedundantOfCard : Claim7 := { stood := { row := fnExactRedundantOfRow, standIns := [], harness := (true, "e8b0018b163e8728e78a26dffccef5d47fb8fa69a7b6c4dca9af3057092a0190"), looks := false }, kinds := [], alts := [], laidByText := true, laidKinds := [.data, .data, .data], laidTests := true, laidLooks := .later }
def FnExactRedundantOfCardSaid : Prop := Claim7.holds Tryz.pinned (.plain (OpenSpec.ofChange fnExactRedundantOfSpec)) fnExactRedundantOfCard

/-- THE TIED CARD OF 'laws.FnExactCountDicts'. -/
def fnExactCountDictsCard : Claim7 := { stood := { row := fnExactCountDictsRow, standIns := [], harness := (true, "e8b0018b163e8728e78a26dffccef5d47fb8fa69a7b6c4dca9af3057092a0190"), looks := false }, kinds := [], alts := [], laidByText := true, laidKinds := [.data, .data, .data], laidTests := true, laidLooks := .later }
def FnExactCountDictsCardSaid : Prop := Claim7.holds Tryz.pinned (.plain (OpenSpec.ofChange fnExactCountDictsSpec)) fnExactCountDictsCard

/-- THE TIED CARD OF 'laws.FnExactIsUnique'. -/
def fnExactIsUniqueCard : Claim7 := { stood := { row := fnExactIsUniqueRow, standIns := [], harness := (true, "e8b0018b163e8728e78a26dffccef5d47fb8fa69a7b6c4dca9af3057092a0190"), looks := false }, kinds := [], alts := [], laidByText := true, laidKinds := [.data, .data, .data], laidTests := true, laidLooks := .later }
def FnExactIsUniqueCardSaid : Prop := Claim7.holds Tryz.pinned (.plain (OpenSpec.ofChange fnExactIsUniqueSpec)) fnExactIsUniqueCard

/-- THE SECOND FORM's CARD OF 'laws.FnExactLevelOf'. -/
def fnExactLevelOfUptoCard : Claim7 := { stood := { row := fnExactLevelOfUptoRow, standIns := [], harness := (true, "e8b0018b163e8728e78a26dffccef5d47fb8fa69a7b6c4dca9af3057092a0190"), looks := false }, kinds := [], alts := [], laidByText := true, laidKinds := [.data, .data, .data], laidTests := true, laidLooks := .later }
def FnExactLevelOfUptoCardSaid : Prop := Claim7.holds Tryz.pinned (.plain (OpenSpec.upto fnExactLevelOfSpec)) fnExactLevelOfUptoCard

/-- THE SECOND FORM's CARD OF 'laws.FnExactFindDict'. -/
def fnExactFindDictUptoCard : Claim7 := { stood := { row := fnExactFindDictUptoRow, standIns := [], harness := (true, "e8b0018b163e8728e78a26dffccef5d47fb8fa69a7b6c4dca9af3057092a0190"), looks := false }, kinds := [], alts := [], laidByText := true, laidKinds := [.data, .data, .data], laidTests := true, laidLooks := .later }
def FnExactFindDictUptoCardSaid : Prop := Claim7.holds Tryz.pinned (.plain (OpenSpec.upto fnExactFindDictSpec)) fnExactFindDictUptoCard

/-- THE SECOND FORM's CARD OF 'laws.FnExactSpecialDict'. -/
def fnExactSpecialDictUptoCard : Claim7 := { stood := { row := fnExactSpecialDictUptoRow, standIns := [], harness := (true, "e8b0018b163e8728e78a26dffccef5d47fb8fa69a7b6c4dca9af3057092a0190"), looks := false }, kinds := [], alts := [], laidByText := true, laidKinds := [.data, .data, .data], laidTests := true, laidLooks := .later }
def FnExactSpecialDictUptoCardSaid : Prop := Claim7.holds Tryz.pinned (.plain (OpenSpec.upto fnExactSpecialDictSpec)) fnExactSpecialDictUptoCard

/-- THE SECOND FORM's CARD OF 'laws.FnExactFailingNeed'. -/
def fnExactFailingNeedUptoCard : Claim7 := { stood := { row := fnExactFailingNeedUptoRow, standIns := [], harness := (true, "e8b0018b163e8728e78a26dffccef5d47fb8fa69a7b6c4dca9af3057092a0190"), looks := false }, kinds := [], alts := [], laidByText := true, laidKinds := [.data, .data, .data], laidTests := true, laidLooks := .later }
def FnExactFailingNeedUptoCardSaid : Prop := Claim7.holds Tryz.pinned (.plain (OpenSpec.upto fnExactFailingNeedSpec)) fnExactFailingNeedUptoCard

/-- THE SECOND FORM's CARD OF 'laws.FnExactHasInstance'. -/
def fnExactHasInstanceUptoCard : Claim7 := { stood := { row := fnExactHasInstanceUptoRow, standIns := [], harness := (true, "e8b0018b163e8728e78a26dffccef5d47fb8fa69a7b6c4dca9af3057092a0190"), looks := false }, kinds := [], alts := [], laidByText := true, laidKinds := [.data, .data, .data], laidTests := true, laidLooks := .later }
def FnExactHasInstanceUptoCardSaid : Prop := Claim7.holds Tryz.pinned (.plain (OpenSpec.upto fnExactHasInstanceSpec)) fnExactHasInstanceUptoCard

/-- THE SECOND FORM's CARD OF 'laws.FnExactRedundantOf'. -/
def fnExactRedundantOfUptoCard : Claim7 := { stood := { row := fnExactRedundantOfUptoRow, standIns := [], harness := (true, "e8b0018b163e8728e78a26dffccef5d47fb8fa69a7b6c4dca9af3057092a0190"), looks := false }, kinds := [], alts := [], laidByText := true, laidKinds := [.data, .data, .data], laidTests := true, laidLooks := .later }
def FnExactRedundantOfUptoCardSaid : Prop := Claim7.holds Tryz.pinned (.plain (OpenSpec.upto fnExactRedundantOfSpec)) fnExactRedundantOfUptoCard

/-- THE SECOND FORM's CARD OF 'laws.FnExactCountDicts'. -/
def fnExactCountDictsUptoCard : Claim7 := { stood := { row := fnExactCountDictsUptoRow, standIns := [], harness := (true, "e8b0018b163e8728e78a26dffccef5d47fb8fa69a7b6c4dca9af3057092a0190"), looks := false }, kinds := [], alts := [], laidByText := true, laidKinds := [.data, .data, .data], laidTests := true, laidLooks := .later }
def FnExactCountDictsUptoCardSaid : Prop := Claim7.holds Tryz.pinned (.plain (OpenSpec.upto fnExactCountDictsSpec)) fnExactCountDictsUptoCard

/-- THE SECOND FORM's CARD OF 'laws.FnExactIsUnique'. -/
def fnExactIsUniqueUptoCard : Claim7 := { stood := { row := fnExactIsUniqueUptoRow, standIns := [], harness := (true, "e8b0018b163e8728e78a26dffccef5d47fb8fa69a7b6c4dca9af3057092a0190"), looks := false }, kinds := [], alts := [], laidByText := true, laidKinds := [.data, .data, .data], laidTests := true, laidLooks := .later }
def FnExactIsUniqueUptoCardSaid : Prop := Claim7.holds Tryz.pinned (.plain (OpenSpec.upto fnExactIsUniqueSpec)) fnExactIsUniqueUptoCard
end Rows
end Go.Proofs.YtpbfjfcildpehaaGreatDoor
