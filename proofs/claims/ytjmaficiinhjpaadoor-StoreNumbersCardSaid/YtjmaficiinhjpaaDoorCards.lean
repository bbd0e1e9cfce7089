/-
  DERIVED. GIVEN WITH THE SEED: THE CARDS: each row of YtjmaficiinhjpaaDoorRows.lean that lists a variable, with what it lists TIED to the program's text (the seventh form; the later family's looks); each row that meets fmt, with fmt's text TOLD by the authors' own Lean function (tested against real Go, not proved from fmt's source: count such statements apart). THE CARD IS WHAT COUNTS. Prove the row's statement (the work); the ties are given (YtjmaficiinhjpaaDoorTie.lean); close each card by the builder's one call (the guide's Derived/Test/ToyasCard.lean, 'card_holds'). Laid BY PROGRAM, IN A SANDBOX (cutbox-door.mjs). By AI agents, Wed Nov 11 2026. No macro, syntax, notation, axiom, sorry.
-/
import Derived.Test.YtjmaficiinhjpaaDoorRows
import GoSem.ClaimSeven
namespace Go.Proofs.YtjmaficiinhjpaaDoor
namespace Rows

/-- THE TIED CARD OF 'wainwrightlaw17.StoreFrames'. -/
def storeFramesCard : Claim7 := { stood := { row := storeFramesRow, standIns := [], harness := (true, "10b669cd93afa53cf61dafcff1c5441297d8ca338b79502e9492bb594f910b73"), looks := false }, kinds := [], alts := [], laidByText := true, laidKinds := [.data, .pinned], laidTests := true, laidLooks := .later }
def StoreFramesCardSaid : Prop := Claim7.holds Tryd.pinned (.plain (OpenSpec.ofChange storeFramesSpec)) storeFramesCard

/-- THE TIED CARD OF 'wainwrightlaw17.StorePlays'. -/
def storePlaysCard : Claim7 := { stood := { row := storePlaysRow, standIns := [], harness := (true, "10b669cd93afa53cf61dafcff1c5441297d8ca338b79502e9492bb594f910b73"), looks := false }, kinds := [], alts := [], laidByText := true, laidKinds := [.data, .pinned], laidTests := true, laidLooks := .later }
def StorePlaysCardSaid : Prop := Claim7.holds Tryd.pinned (.plain (OpenSpec.ofChange storePlaysSpec)) storePlaysCard

/-- THE TIED CARD OF 'wainwrightlaw17.StoreNumbers'. -/
def storeNumbersCard : Claim7 := { stood := { row := storeNumbersRow, standIns := [], harness := (true, "10b669cd93afa53cf61dafcff1c5441297d8ca338b79502e9492bb594f910b73"), looks := false }, kinds := [], alts := [], laidByText := true, laidKinds := [.data, .pinned], laidTests := true, laidLooks := .later }
def StoreNumbersCardSaid : Prop := Claim7.holds Tryd.pinned (.plain (OpenSpec.ofChange storeNumbersSpec)) storeNumbersCard

/-- THE TIED CARD OF 'wainwrightlaw17.StoreOrder'. -/
def storeOrderCard : Claim7 := { stood := { row := storeOrderRow, standIns := [], harness := (true, "10b669cd93afa53cf61dafcff1c5441297d8ca338b79502e9492bb594f910b73"), looks := false }, kinds := [], alts := [], laidByText := true, laidKinds := [.data, .pinned], laidTests := true, laidLooks := .later }
def StoreOrderCardSaid : Prop := Claim7.holds Tryd.pinned (.plain (OpenSpec.ofChange storeOrderSpec)) storeOrderCard

/-- THE SECOND FORM's CARD OF 'wainwrightlaw17.StoreFrames'. -/
def storeFramesUptoCard : Claim7 := { stood := { row := storeFramesUptoRow, standIns := [], harness := (true, "10b669cd93afa53cf61dafcff1c5441297d8ca338b79502e9492bb594f910b73"), looks := false }, kinds := [], alts := [], laidByText := true, laidKinds := [.data, .pinned], laidTests := true, laidLooks := .later }
def StoreFramesUptoCardSaid : Prop := Claim7.holds Tryd.pinned (.plain (OpenSpec.upto storeFramesSpec)) storeFramesUptoCard

/-- THE SECOND FORM's CARD OF 'wainwrightlaw17.StorePlays'. -/
def storePlaysUptoCard : Claim7 := { stood := { row := storePlaysUptoRow, standIns := [], harness := (true, "10b669cd93afa53cf61dafcff1c5441297d8ca338b79502e9492bb594f910b73"), looks := false }, kinds := [], alts := [], laidByText := true, laidKinds := [.data, .pinned], laidTests := true, laidLooks := .later }
def StorePlaysUptoCardSaid : Prop := Claim7.holds Tryd.pinned (.plain (OpenSpec.upto storePlaysSpec)) storePlaysUptoCard

/-- THE SECOND FORM's CARD OF 'wainwrightlaw17.StoreNumbers'. -/
def storeNumbersUptoCard : Claim7 := { stood := { row := storeNumbersUptoRow, standIns := [], harness := (true, "10b669cd93afa53cf61dafcff1c5441297d8ca338b79502e9492bb594f910b73"), looks := false }, kinds := [], alts := [], laidByText := true, laidKinds := [.data, .pinned], laidTests := true, laidLooks := .later }
def StoreNumbersUptoCardSaid : Prop := Claim7.holds Tryd.pinned (.plain (OpenSpec.upto storeNumbersSpec)) storeNumbersUptoCard

/-- THE SECOND FORM's CARD OF 'wainwrightlaw17.StoreOrder'. -/
def storeOrderUptoCard : Claim7 := { stood := { row := storeOrderUptoRow, standIns := [], harness := (true, "10b669cd93afa53cf61dafcff1c5441297d8ca338b79502e9492bb594f910b73"), looks := false }, kinds := [], alts := [], laidByText := true, laidKinds := [.data, .pinned], laidTests := true, laidLooks := .later }
def StoreOrderUptoCardSaid : Prop := Claim7.holds Tryd.pinned (.plain (OpenSpec.upto storeOrderSpec)) storeOrderUptoCard
end Rows
end Go.Proofs.YtjmaficiinhjpaaDoor
