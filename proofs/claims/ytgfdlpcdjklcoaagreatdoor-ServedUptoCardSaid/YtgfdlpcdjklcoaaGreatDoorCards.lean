/-
  DERIVED. GIVEN WITH THE SEED: THE CARDS: each row of YtgfdlpcdjklcoaaGreatDoorRows.lean that lists a variable, with what it lists TIED to the program's text (the seventh form; the later family's looks); each row that meets fmt, with fmt's text TOLD by the authors' own Lean function (tested against real Go, not proved from fmt's source: count such statements apart). THE CARD IS WHAT COUNTS. Prove the row's statement (the work); the ties are given (YtgfdlpcdjklcoaaGreatDoorTie.lean); close each card by the builder's one call (the guide's Derived/Test/ToyasCard.lean, 'card_holds'). Laid BY PROGRAM, IN A SANDBOX (cutbox-door.mjs). By AI agents, Wed Nov 11 2026. No macro, syntax, notation, axiom, sorry.
-/
import Derived.Test.YtgfdlpcdjklcoaaGreatDoorRows
import GoSem.ClaimSeven
namespace Go.Proofs.YtgfdlpcdjklcoaaGreatDoor
namespace Rows

/-- THE TIED CARD OF 'sealstreamlaw.Streamed'. -/
def streamedCard : Claim7 := { stood := { row := streamedRow, standIns := [], harness := (true, "a00062586cfc72baa4653cc4a1d06c0f3782a545999bdf2d0b7afb9c1cc1d479"), looks := true }, kinds := [], alts := [], goes := true, laidByText := true, laidKinds := [.handle], laidTests := true, laidLooks := .later }
def StreamedCardSaid : Prop := Claim7.holds Tryz.pinned (.plain (OpenSpec.ofChange streamedSpec)) streamedCard

/-- THE TIED CARD OF 'sealstreamlaw.Sided'. -/
def sidedCard : Claim7 := { stood := { row := sidedRow, standIns := [], harness := (true, "a00062586cfc72baa4653cc4a1d06c0f3782a545999bdf2d0b7afb9c1cc1d479"), looks := true }, kinds := [], alts := [], goes := true, laidByText := true, laidKinds := [.handle], laidTests := true, laidLooks := .later }
def SidedCardSaid : Prop := Claim7.holds Tryz.pinned (.plain (OpenSpec.ofChange sidedSpec)) sidedCard

/-- THE TIED CARD OF 'sealstreamkeep.Carried'. -/
def carriedCard : Claim7 := { stood := { row := carriedRow, standIns := [], harness := (true, "a00062586cfc72baa4653cc4a1d06c0f3782a545999bdf2d0b7afb9c1cc1d479"), looks := true }, kinds := [], alts := [], goes := true, laidByText := true, laidKinds := [.handle], laidTests := true, laidLooks := .later }
def CarriedCardSaid : Prop := Claim7.holds Tryz.pinned (.plain (OpenSpec.ofChange carriedSpec)) carriedCard

/-- THE TIED CARD OF 'sealstreamkeep.Live'. -/
def liveCard : Claim7 := { stood := { row := liveRow, standIns := [], harness := (true, "a00062586cfc72baa4653cc4a1d06c0f3782a545999bdf2d0b7afb9c1cc1d479"), looks := true }, kinds := [], alts := [], goes := true, laidByText := true, laidKinds := [.handle], laidTests := true, laidLooks := .later }
def LiveCardSaid : Prop := Claim7.holds Tryz.pinned (.plain (OpenSpec.ofChange liveSpec)) liveCard

/-- THE TIED CARD OF 'sealstreamkeep.Given'. -/
def givenCard : Claim7 := { stood := { row := givenRow, standIns := [], harness := (true, "a00062586cfc72baa4653cc4a1d06c0f3782a545999bdf2d0b7afb9c1cc1d479"), looks := true }, kinds := [], alts := [], goes := true, laidByText := true, laidKinds := [.handle], laidTests := true, laidLooks := .later }
def GivenCardSaid : Prop := Claim7.holds Tryz.pinned (.plain (OpenSpec.ofChange givenSpec)) givenCard

/-- THE TIED CARD OF 'sealstreamlaw.Served'. -/
def servedCard : Claim7 := { stood := { row := servedRow, standIns := [], harness := (true, "a00062586cfc72baa4653cc4a1d06c0f3782a545999bdf2d0b7afb9c1cc1d479"), looks := true }, kinds := [], alts := [], goes := true, laidByText := true, laidKinds := [.handle], laidTests := true, laidLooks := .later }
def ServedCardSaid : Prop := Claim7.holds Tryz.pinned (.plain (OpenSpec.ofChange servedSpec)) servedCard

/-- THE TIED CARD OF 'sealstreamkeep.Left'. -/
def leftCard : Claim7 := { stood := { row := leftRow, standIns := [], harness := (true, "a00062586cfc72baa4653cc4a1d06c0f3782a545999bdf2d0b7afb9c1cc1d479"), looks := true }, kinds := [], alts := [], goes := true, laidByText := true, laidKinds := [.handle], laidTests := true, laidLooks := .later }
def LeftCardSaid : Prop := Claim7.holds Tryz.pinned (.plain (OpenSpec.ofChange leftSpec)) leftCard

/-- THE TIED CARD OF 'sealstreamkeep.Waits'. -/
def waitsCard : Claim7 := { stood := { row := waitsRow, standIns := [], harness := (true, "a00062586cfc72baa4653cc4a1d06c0f3782a545999bdf2d0b7afb9c1cc1d479"), looks := true }, kinds := [], alts := [], goes := true, laidByText := true, laidKinds := [.handle], laidTests := true, laidLooks := .later }
def WaitsCardSaid : Prop := Claim7.holds Tryz.pinned (.plain (OpenSpec.ofChange waitsSpec)) waitsCard

/-- THE SECOND FORM's CARD OF 'sealstreamlaw.Streamed'. -/
def streamedUptoCard : Claim7 := { stood := { row := streamedUptoRow, standIns := [], harness := (true, "a00062586cfc72baa4653cc4a1d06c0f3782a545999bdf2d0b7afb9c1cc1d479"), looks := true }, kinds := [], alts := [], goes := true, laidByText := true, laidKinds := [.handle], laidTests := true, laidLooks := .later }
def StreamedUptoCardSaid : Prop := Claim7.holds Tryz.pinned (.plain (OpenSpec.upto streamedSpec)) streamedUptoCard

/-- THE SECOND FORM's CARD OF 'sealstreamlaw.Sided'. -/
def sidedUptoCard : Claim7 := { stood := { row := sidedUptoRow, standIns := [], harness := (true, "a00062586cfc72baa4653cc4a1d06c0f3782a545999bdf2d0b7afb9c1cc1d479"), looks := true }, kinds := [], alts := [], goes := true, laidByText := true, laidKinds := [.handle], laidTests := true, laidLooks := .later }
def SidedUptoCardSaid : Prop := Claim7.holds Tryz.pinned (.plain (OpenSpec.upto sidedSpec)) sidedUptoCard

/-- THE SECOND FORM's CARD OF 'sealstreamkeep.Carried'. -/
def carriedUptoCard : Claim7 := { stood := { row := carriedUptoRow, standIns := [], harness := (true, "a00062586cfc72baa4653cc4a1d06c0f3782a545999bdf2d0b7afb9c1cc1d479"), looks := true }, kinds := [], alts := [], goes := true, laidByText := true, laidKinds := [.handle], laidTests := true, laidLooks := .later }
def CarriedUptoCardSaid : Prop := Claim7.holds Tryz.pinned (.plain (OpenSpec.upto carriedSpec)) carriedUptoCard

/-- THE SECOND FORM's CARD OF 'sealstreamkeep.Live'. -/
def liveUptoCard : Claim7 := { stood := { row := liveUptoRow, standIns := [], harness := (true, "a00062586cfc72baa4653cc4a1d06c0f3782a545999bdf2d0b7afb9c1cc1d479"), looks := true }, kinds := [], alts := [], goes := true, laidByText := true, laidKinds := [.handle], laidTests := true, laidLooks := .later }
def LiveUptoCardSaid : Prop := Claim7.holds Tryz.pinned (.plain (OpenSpec.upto liveSpec)) liveUptoCard

/-- THE SECOND FORM's CARD OF 'sealstreamkeep.Given'. -/
def givenUptoCard : Claim7 := { stood := { row := givenUptoRow, standIns := [], harness := (true, "a00062586cfc72baa4653cc4a1d06c0f3782a545999bdf2d0b7afb9c1cc1d479"), looks := true }, kinds := [], alts := [], goes := true, laidByText := true, laidKinds := [.handle], laidTests := true, laidLooks := .later }
def GivenUptoCardSaid : Prop := Claim7.holds Tryz.pinned (.plain (OpenSpec.upto givenSpec)) givenUptoCard

/-- THE SECOND FORM's CARD OF 'sealstreamlaw.Served'. -/
def servedUptoCard : Claim7 := { stood := { row := servedUptoRow, standIns := [], harness := (true, "a00062586cfc72baa4653cc4a1d06c0f3782a545999bdf2d0b7afb9c1cc1d479"), looks := true }, kinds := [], alts := [], goes := true, laidByText := true, laidKinds := [.handle], laidTests := true, laidLooks := .later }
def ServedUptoCardSaid : Prop := Claim7.holds Tryz.pinned (.plain (OpenSpec.upto servedSpec)) servedUptoCard

/-- THE SECOND FORM's CARD OF 'sealstreamkeep.Left'. -/
def leftUptoCard : Claim7 := { stood := { row := leftUptoRow, standIns := [], harness := (true, "a00062586cfc72baa4653cc4a1d06c0f3782a545999bdf2d0b7afb9c1cc1d479"), looks := true }, kinds := [], alts := [], goes := true, laidByText := true, laidKinds := [.handle], laidTests := true, laidLooks := .later }
def LeftUptoCardSaid : Prop := Claim7.holds Tryz.pinned (.plain (OpenSpec.upto leftSpec)) leftUptoCard

/-- THE SECOND FORM's CARD OF 'sealstreamkeep.Waits'. -/
def waitsUptoCard : Claim7 := { stood := { row := waitsUptoRow, standIns := [], harness := (true, "a00062586cfc72baa4653cc4a1d06c0f3782a545999bdf2d0b7afb9c1cc1d479"), looks := true }, kinds := [], alts := [], goes := true, laidByText := true, laidKinds := [.handle], laidTests := true, laidLooks := .later }
def WaitsUptoCardSaid : Prop := Claim7.holds Tryz.pinned (.plain (OpenSpec.upto waitsSpec)) waitsUptoCard
end Rows
end Go.Proofs.YtgfdlpcdjklcoaaGreatDoor
