/-
  DERIVED. GIVEN WITH THE SEED: THE CARDS: each row of YtlmabmpdbcgabaaDoorRows.lean that lists a variable, with what it lists TIED to the program's text (the seventh form; the later family's looks); each row that meets fmt, with fmt's text TOLD by the authors' own Lean function (tested against real Go, not proved from fmt's source: count such statements apart). THE CARD IS WHAT COUNTS. Prove the row's statement (the work); the ties are given (YtlmabmpdbcgabaaDoorTie.lean); close each card by the builder's one call (the guide's Derived/Test/ToyasCard.lean, 'card_holds'). Laid BY PROGRAM, IN A SANDBOX (cutbox-door.mjs). By AI agents, Wed Nov 11 2026. No macro, syntax, notation, axiom, sorry.
-/
import Derived.Test.YtlmabmpdbcgabaaDoorRows
import GoSem.ClaimSeven
namespace Go.Proofs.YtlmabmpdbcgabaaDoor
namespace Rows

/-- THE TIED CARD OF 'wainwrightlaw27.RenderFits'. -/
def renderFitsCard : Claim7 := { stood := { row := renderFitsRow, standIns := [], harness := (true, "035bafd5e66d8d9ce146745bcc077fb06d6b2f88e4b382f8a4b700b4567f5d75"), looks := false }, kinds := [], alts := [], laidByText := true, laidKinds := [.data, .pinned], laidTests := true, laidLooks := .later }
def RenderFitsCardSaid : Prop := Claim7.holds Tryd.pinned (.plain (OpenSpec.ofChange renderFitsSpec)) renderFitsCard

/-- THE TIED CARD OF 'wainwrightlaw27.RenderValues'. -/
def renderValuesCard : Claim7 := { stood := { row := renderValuesRow, standIns := [], harness := (true, "035bafd5e66d8d9ce146745bcc077fb06d6b2f88e4b382f8a4b700b4567f5d75"), looks := false }, kinds := [], alts := [], laidByText := true, laidKinds := [.data, .pinned], laidTests := true, laidLooks := .later }
def RenderValuesCardSaid : Prop := Claim7.holds Tryd.pinned (.plain (OpenSpec.ofChange renderValuesSpec)) renderValuesCard

/-- THE TIED CARD OF 'wainwrightlaw27.RenderRules'. -/
def renderRulesCard : Claim7 := { stood := { row := renderRulesRow, standIns := [], harness := (true, "035bafd5e66d8d9ce146745bcc077fb06d6b2f88e4b382f8a4b700b4567f5d75"), looks := false }, kinds := [], alts := [], laidByText := true, laidKinds := [.data, .pinned], laidTests := true, laidLooks := .later }
def RenderRulesCardSaid : Prop := Claim7.holds Tryd.pinned (.plain (OpenSpec.ofChange renderRulesSpec)) renderRulesCard

/-- THE SECOND FORM's CARD OF 'wainwrightlaw27.RenderFits'. -/
def renderFitsUptoCard : Claim7 := { stood := { row := renderFitsUptoRow, standIns := [], harness := (true, "035bafd5e66d8d9ce146745bcc077fb06d6b2f88e4b382f8a4b700b4567f5d75"), looks := false }, kinds := [], alts := [], laidByText := true, laidKinds := [.data, .pinned], laidTests := true, laidLooks := .later }
def RenderFitsUptoCardSaid : Prop := Claim7.holds Tryd.pinned (.plain (OpenSpec.upto renderFitsSpec)) renderFitsUptoCard

/-- THE SECOND FORM's CARD OF 'wainwrightlaw27.RenderValues'. -/
def renderValuesUptoCard : Claim7 := { stood := { row := renderValuesUptoRow, standIns := [], harness := (true, "035bafd5e66d8d9ce146745bcc077fb06d6b2f88e4b382f8a4b700b4567f5d75"), looks := false }, kinds := [], alts := [], laidByText := true, laidKinds := [.data, .pinned], laidTests := true, laidLooks := .later }
def RenderValuesUptoCardSaid : Prop := Claim7.holds Tryd.pinned (.plain (OpenSpec.upto renderValuesSpec)) renderValuesUptoCard

/-- THE SECOND FORM's CARD OF 'wainwrightlaw27.RenderRules'. -/
def renderRulesUptoCard : Claim7 := { stood := { row := renderRulesUptoRow, standIns := [], harness := (true, "035bafd5e66d8d9ce146745bcc077fb06d6b2f88e4b382f8a4b700b4567f5d75"), looks := false }, kinds := [], alts := [], laidByText := true, laidKinds := [.data, .pinned], laidTests := true, laidLooks := .later }
def RenderRulesUptoCardSaid : Prop := Claim7.holds Tryd.pinned (.plain (OpenSpec.upto renderRulesSpec)) renderRulesUptoCard
end Rows
end Go.Proofs.YtlmabmpdbcgabaaDoor
