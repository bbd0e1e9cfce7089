/-
  DERIVED. GIVEN WITH THE SEED: THE CARDS: each row of YtkaegfgaemnemaaDoorRows.lean that lists a variable, with what it lists TIED to the program's text (the seventh form; the later family's looks); each row that meets fmt, with fmt's text TOLD by the authors' own Lean function (tested against real Go, not proved from fmt's source: count such statements apart). THE CARD IS WHAT COUNTS. Prove the row's statement (the work); the ties are given (YtkaegfgaemnemaaDoorTie.lean); close each card by the builder's one call (the guide's Derived/Test/ToyasCard.lean, 'card_holds'). Laid BY PROGRAM, IN A SANDBOX (cutbox-door.mjs). By AI agents, Wed Nov 11 2026. No macro, syntax, notation, axiom, sorry.
-/
import Derived.Test.YtkaegfgaemnemaaDoorRows
import GoSem.ClaimSeven
namespace Go.Proofs.YtkaegfgaemnemaaDoor
namespace Rows

/-- THE TIED CARD OF 'wainwrightlaw10.SyntaxDeep'. -/
def syntaxDeepCard : Claim7 := { stood := { row := syntaxDeepRow, standIns := [], harness := (true, "a6761e076776808ea9ed10eb0d8985d72490efd5bc50d8d3d0cbb1334c5b5250"), looks := true }, kinds := [], alts := [], laidByText := true, laidKinds := [.data, .pinned], laidTests := true, laidLooks := .later }
def SyntaxDeepCardSaid : Prop := Claim7.holds Tryd.pinned (.plain (OpenSpec.ofChange syntaxDeepSpec)) syntaxDeepCard

/-- THE TIED CARD OF 'wainwrightlaw10.SyntaxCalls'. -/
def syntaxCallsCard : Claim7 := { stood := { row := syntaxCallsRow, standIns := [], harness := (true, "a6761e076776808ea9ed10eb0d8985d72490efd5bc50d8d3d0cbb1334c5b5250"), looks := true }, kinds := [], alts := [], laidByText := true, laidKinds := [.data, .pinned], laidTests := true, laidLooks := .later }
def SyntaxCallsCardSaid : Prop := Claim7.holds Tryd.pinned (.plain (OpenSpec.ofChange syntaxCallsSpec)) syntaxCallsCard

/-- THE TIED CARD OF 'wainwrightlaw10.SyntaxPlain'. -/
def syntaxPlainCard : Claim7 := { stood := { row := syntaxPlainRow, standIns := [], harness := (true, "a6761e076776808ea9ed10eb0d8985d72490efd5bc50d8d3d0cbb1334c5b5250"), looks := true }, kinds := [], alts := [], laidByText := true, laidKinds := [.data, .pinned], laidTests := true, laidLooks := .later }
def SyntaxPlainCardSaid : Prop := Claim7.holds Tryd.pinned (.plain (OpenSpec.ofChange syntaxPlainSpec)) syntaxPlainCard

/-- THE TIED CARD OF 'wainwrightlaw11.PrintAll'. -/
def printAllCard : Claim7 := { stood := { row := printAllRow, standIns := [], harness := (true, "a6761e076776808ea9ed10eb0d8985d72490efd5bc50d8d3d0cbb1334c5b5250"), looks := true }, kinds := [], alts := [], laidByText := true, laidKinds := [.data, .pinned], laidTests := true, laidLooks := .later }
def PrintAllCardSaid : Prop := Claim7.holds Tryd.pinned (.plain (OpenSpec.ofChange printAllSpec)) printAllCard

/-- THE TIED CARD OF 'wainwrightlaw11.PrintBack'. -/
def printBackCard : Claim7 := { stood := { row := printBackRow, standIns := [], harness := (true, "a6761e076776808ea9ed10eb0d8985d72490efd5bc50d8d3d0cbb1334c5b5250"), looks := true }, kinds := [], alts := [], laidByText := true, laidKinds := [.data, .pinned], laidTests := true, laidLooks := .later }
def PrintBackCardSaid : Prop := Claim7.holds Tryd.pinned (.plain (OpenSpec.ofChange printBackSpec)) printBackCard

/-- THE TIED CARD OF 'wainwrightlaw11.PrintForms'. -/
def printFormsCard : Claim7 := { stood := { row := printFormsRow, standIns := [], harness := (true, "a6761e076776808ea9ed10eb0d8985d72490efd5bc50d8d3d0cbb1334c5b5250"), looks := true }, kinds := [], alts := [], laidByText := true, laidKinds := [.data, .pinned], laidTests := true, laidLooks := .later }
def PrintFormsCardSaid : Prop := Claim7.holds Tryd.pinned (.plain (OpenSpec.ofChange printFormsSpec)) printFormsCard

/-- THE SECOND FORM's CARD OF 'wainwrightlaw10.SyntaxDeep'. -/
def syntaxDeepUptoCard : Claim7 := { stood := { row := syntaxDeepUptoRow, standIns := [], harness := (true, "a6761e076776808ea9ed10eb0d8985d72490efd5bc50d8d3d0cbb1334c5b5250"), looks := true }, kinds := [], alts := [], laidByText := true, laidKinds := [.data, .pinned], laidTests := true, laidLooks := .later }
def SyntaxDeepUptoCardSaid : Prop := Claim7.holds Tryd.pinned (.plain (OpenSpec.upto syntaxDeepSpec)) syntaxDeepUptoCard

/-- THE SECOND FORM's CARD OF 'wainwrightlaw10.SyntaxCalls'. -/
def syntaxCallsUptoCard : Claim7 := { stood := { row := syntaxCallsUptoRow, standIns := [], harness := (true, "a6761e076776808ea9ed10eb0d8985d72490efd5bc50d8d3d0cbb1334c5b5250"), looks := true }, kinds := [], alts := [], laidByText := true, laidKinds := [.data, .pinned], laidTests := true, laidLooks := .later }
def SyntaxCallsUptoCardSaid : Prop := Claim7.holds Tryd.pinned (.plain (OpenSpec.upto syntaxCallsSpec)) syntaxCallsUptoCard

/-- THE SECOND FORM's CARD OF 'wainwrightlaw10.SyntaxPlain'. -/
def syntaxPlainUptoCard : Claim7 := { stood := { row := syntaxPlainUptoRow, standIns := [], harness := (true, "a6761e076776808ea9ed10eb0d8985d72490efd5bc50d8d3d0cbb1334c5b5250"), looks := true }, kinds := [], alts := [], laidByText := true, laidKinds := [.data, .pinned], laidTests := true, laidLooks := .later }
def SyntaxPlainUptoCardSaid : Prop := Claim7.holds Tryd.pinned (.plain (OpenSpec.upto syntaxPlainSpec)) syntaxPlainUptoCard

/-- THE SECOND FORM's CARD OF 'wainwrightlaw11.PrintAll'. -/
def printAllUptoCard : Claim7 := { stood := { row := printAllUptoRow, standIns := [], harness := (true, "a6761e076776808ea9ed10eb0d8985d72490efd5bc50d8d3d0cbb1334c5b5250"), looks := true }, kinds := [], alts := [], laidByText := true, laidKinds := [.data, .pinned], laidTests := true, laidLooks := .later }
def PrintAllUptoCardSaid : Prop := Claim7.holds Tryd.pinned (.plain (OpenSpec.upto printAllSpec)) printAllUptoCard

/-- THE SECOND FORM's CARD OF 'wainwrightlaw11.PrintBack'. -/
def printBackUptoCard : Claim7 := { stood := { row := printBackUptoRow, standIns := [], harness := (true, "a6761e076776808ea9ed10eb0d8985d72490efd5bc50d8d3d0cbb1334c5b5250"), looks := true }, kinds := [], alts := [], laidByText := true, laidKinds := [.data, .pinned], laidTests := true, laidLooks := .later }
def PrintBackUptoCardSaid : Prop := Claim7.holds Tryd.pinned (.plain (OpenSpec.upto printBackSpec)) printBackUptoCard

/-- THE SECOND FORM's CARD OF 'wainwrightlaw11.PrintForms'. -/
def printFormsUptoCard : Claim7 := { stood := { row := printFormsUptoRow, standIns := [], harness := (true, "a6761e076776808ea9ed10eb0d8985d72490efd5bc50d8d3d0cbb1334c5b5250"), looks := true }, kinds := [], alts := [], laidByText := true, laidKinds := [.data, .pinned], laidTests := true, laidLooks := .later }
def PrintFormsUptoCardSaid : Prop := Claim7.holds Tryd.pinned (.plain (OpenSpec.upto printFormsSpec)) printFormsUptoCard
end Rows
end Go.Proofs.YtkaegfgaemnemaaDoor
