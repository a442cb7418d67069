/-
  DERIVED. GIVEN WITH THE SEED: THE CARDS: each row of YtgiiilhdmfddcaaDoorRows.lean that lists a variable, with what it lists TIED to the program's text (the seventh form; the later family's looks); each row that meets fmt, with fmt's text TOLD by the authors' own Lean function (tested against real Go, not proved from fmt's source: count such statements apart). THE CARD IS WHAT COUNTS. Prove the row's statement (the work); the ties are given (YtgiiilhdmfddcaaDoorTie.lean); close each card by the builder's one call (the guide's Derived/Test/ToyasCard.lean, 'card_holds'). Laid BY PROGRAM, IN A SANDBOX (cutbox-door.mjs). By AI agents, Wed Nov 11 2026. No macro, syntax, notation, axiom, sorry.
-/
import Derived.Test.YtgiiilhdmfddcaaDoorRows
import GoSem.ClaimSeven
namespace Go.Proofs.YtgiiilhdmfddcaaDoor
namespace Rows

/-- THE TIED CARD OF 'laws.FnExactFormatNumbers'. -/
def fnExactFormatNumbersCard : Claim7 := { stood := { row := fnExactFormatNumbersRow, standIns := [], harness := (true, "8c0b13dae8793243ca8a0f68a79977734dcd32c8cf319f54e85a1a625f9855a4"), looks := false }, kinds := [], alts := [], laidByText := true, laidKinds := [.data, .data, .data], laidTests := true, laidLooks := .later }
def FnExactFormatNumbersCardSaid : Prop := Claim7.holds Tryd.pinned (.plain (OpenSpec.ofChange fnExactFormatNumbersSpec)) fnExactFormatNumbersCard

/-- THE TIED CARD OF 'laws.FnExactFormatGaps'. -/
def fnExactFormatGapsCard : Claim7 := { stood := { row := fnExactFormatGapsRow, standIns := [], harness := (true, "8c0b13dae8793243ca8a0f68a79977734dcd32c8cf319f54e85a1a625f9855a4"), looks := false }, kinds := [], alts := [], laidByText := true, laidKinds := [.data, .data, .data], laidTests := true, laidLooks := .later }
def FnExactFormatGapsCardSaid : Prop := Claim7.holds Tryd.pinned (.plain (OpenSpec.ofChange fnExactFormatGapsSpec)) fnExactFormatGapsCard

/-- THE TIED CARD OF 'laws.FnTexts'. -/
def fnTextsCard : Claim7 := { stood := { row := fnTextsRow, standIns := [], harness := (true, "8c0b13dae8793243ca8a0f68a79977734dcd32c8cf319f54e85a1a625f9855a4"), looks := false }, kinds := [], alts := [], laidByText := true, laidKinds := [.data, .data, .data], laidTests := true, laidLooks := .later }
def FnTextsCardSaid : Prop := Claim7.holds Tryd.pinned (.plain (OpenSpec.ofChange fnTextsSpec)) fnTextsCard

/-- THE TIED CARD OF 'laws.FnExactParseNeeds'. -/
def fnExactParseNeedsCard : Claim7 := { stood := { row := fnExactParseNeedsRow, standIns := [], harness := (true, "8c0b13dae8793243ca8a0f68a79977734dcd32c8cf319f54e85a1a625f9855a4"), looks := false }, kinds := [], alts := [], laidByText := true, laidKinds := [.data, .pinned], laidTests := true, laidLooks := .later }
def FnExactParseNeedsCardSaid : Prop := Claim7.holds Tryd.pinned (.plain (OpenSpec.ofChange fnExactParseNeedsSpec)) fnExactParseNeedsCard

/-- THE SECOND FORM's CARD OF 'laws.FnExactFormatNumbers'. -/
def fnExactFormatNumbersUptoCard : Claim7 := { stood := { row := fnExactFormatNumbersUptoRow, standIns := [], harness := (true, "8c0b13dae8793243ca8a0f68a79977734dcd32c8cf319f54e85a1a625f9855a4"), looks := false }, kinds := [], alts := [], laidByText := true, laidKinds := [.data, .data, .data], laidTests := true, laidLooks := .later }
def FnExactFormatNumbersUptoCardSaid : Prop := Claim7.holds Tryd.pinned (.plain (OpenSpec.upto fnExactFormatNumbersSpec)) fnExactFormatNumbersUptoCard

/-- THE SECOND FORM's CARD OF 'laws.FnExactFormatGaps'. -/
def fnExactFormatGapsUptoCard : Claim7 := { stood := { row := fnExactFormatGapsUptoRow, standIns := [], harness := (true, "8c0b13dae8793243ca8a0f68a79977734dcd32c8cf319f54e85a1a625f9855a4"), looks := false }, kinds := [], alts := [], laidByText := true, laidKinds := [.data, .data, .data], laidTests := true, laidLooks := .later }
def FnExactFormatGapsUptoCardSaid : Prop := Claim7.holds Tryd.pinned (.plain (OpenSpec.upto fnExactFormatGapsSpec)) fnExactFormatGapsUptoCard

/-- THE SECOND FORM's CARD OF 'laws.FnTexts'. -/
def fnTextsUptoCard : Claim7 := { stood := { row := fnTextsUptoRow, standIns := [], harness := (true, "8c0b13dae8793243ca8a0f68a79977734dcd32c8cf319f54e85a1a625f9855a4"), looks := false }, kinds := [], alts := [], laidByText := true, laidKinds := [.data, .data, .data], laidTests := true, laidLooks := .later }
def FnTextsUptoCardSaid : Prop := Claim7.holds Tryd.pinned (.plain (OpenSpec.upto fnTextsSpec)) fnTextsUptoCard

/-- THE SECOND FORM's CARD OF 'laws.FnExactParseNeeds'. -/
def fnExactParseNeedsUptoCard : Claim7 := { stood := { row := fnExactParseNeedsUptoRow, standIns := [], harness := (true, "8c0b13dae8793243ca8a0f68a79977734dcd32c8cf319f54e85a1a625f9855a4"), looks := false }, kinds := [], alts := [], laidByText := true, laidKinds := [.data, .pinned], laidTests := true, laidLooks := .later }
def FnExactParseNeedsUptoCardSaid : Prop := Claim7.holds Tryd.pinned (.plain (OpenSpec.upto fnExactParseNeedsSpec)) fnExactParseNeedsUptoCard
end Rows
end Go.Proofs.YtgiiilhdmfddcaaDoor
