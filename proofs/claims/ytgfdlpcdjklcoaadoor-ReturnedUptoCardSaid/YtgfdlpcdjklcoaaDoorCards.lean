/-
  DERIVED. GIVEN WITH THE SEED: THE CARDS: each row of YtgfdlpcdjklcoaaDoorRows.lean that lists a variable, with what it lists TIED to the program's text (the seventh form; the later family's looks); each row that meets fmt, with fmt's text TOLD by the authors' own Lean function (tested against real Go, not proved from fmt's source: count such statements apart). THE CARD IS WHAT COUNTS. Prove the row's statement (the work); the ties are given (YtgfdlpcdjklcoaaDoorTie.lean); close each card by the builder's one call (the guide's Derived/Test/ToyasCard.lean, 'card_holds'). Laid BY PROGRAM, IN A SANDBOX (cutbox-door.mjs). By AI agents, Wed Nov 11 2026. No macro, syntax, notation, axiom, sorry.
-/
import Derived.Test.YtgfdlpcdjklcoaaDoorRows
import GoSem.ClaimSeven
namespace Go.Proofs.YtgfdlpcdjklcoaaDoor
namespace Rows

/-- THE TIED CARD OF 'sealstreamlaw.Sealed'. -/
def sealedCard : Claim7 := { stood := { row := sealedRow, standIns := [], harness := (true, "b53ea09d2852b9fed165c032c761e57311d15212d428af5c0164e2de2d091d43"), looks := true }, kinds := [], alts := [], laidByText := true, laidKinds := [.handle], laidTests := true, laidLooks := .later }
def SealedCardSaid : Prop := Claim7.holds Tryd.pinned (.plain (OpenSpec.ofChange sealedSpec)) sealedCard

/-- THE TIED CARD OF 'sealstreamlaw.Coded'. -/
def codedCard : Claim7 := { stood := { row := codedRow, standIns := [], harness := (true, "b53ea09d2852b9fed165c032c761e57311d15212d428af5c0164e2de2d091d43"), looks := true }, kinds := [], alts := [], laidByText := true, laidKinds := [.handle], laidTests := true, laidLooks := .later }
def CodedCardSaid : Prop := Claim7.holds Tryd.pinned (.plain (OpenSpec.ofChange codedSpec)) codedCard

/-- THE TIED CARD OF 'sealstreamkeep.Returned'. -/
def returnedCard : Claim7 := { stood := { row := returnedRow, standIns := [], harness := (true, "b53ea09d2852b9fed165c032c761e57311d15212d428af5c0164e2de2d091d43"), looks := true }, kinds := [], alts := [], laidByText := true, laidKinds := [.handle], laidTests := true, laidLooks := .later }
def ReturnedCardSaid : Prop := Claim7.holds Tryd.pinned (.plain (OpenSpec.ofChange returnedSpec)) returnedCard

/-- THE SECOND FORM's CARD OF 'sealstreamlaw.Sealed'. -/
def sealedUptoCard : Claim7 := { stood := { row := sealedUptoRow, standIns := [], harness := (true, "b53ea09d2852b9fed165c032c761e57311d15212d428af5c0164e2de2d091d43"), looks := true }, kinds := [], alts := [], laidByText := true, laidKinds := [.handle], laidTests := true, laidLooks := .later }
def SealedUptoCardSaid : Prop := Claim7.holds Tryd.pinned (.plain (OpenSpec.upto sealedSpec)) sealedUptoCard

/-- THE SECOND FORM's CARD OF 'sealstreamlaw.Coded'. -/
def codedUptoCard : Claim7 := { stood := { row := codedUptoRow, standIns := [], harness := (true, "b53ea09d2852b9fed165c032c761e57311d15212d428af5c0164e2de2d091d43"), looks := true }, kinds := [], alts := [], laidByText := true, laidKinds := [.handle], laidTests := true, laidLooks := .later }
def CodedUptoCardSaid : Prop := Claim7.holds Tryd.pinned (.plain (OpenSpec.upto codedSpec)) codedUptoCard

/-- THE SECOND FORM's CARD OF 'sealstreamkeep.Returned'. -/
def returnedUptoCard : Claim7 := { stood := { row := returnedUptoRow, standIns := [], harness := (true, "b53ea09d2852b9fed165c032c761e57311d15212d428af5c0164e2de2d091d43"), looks := true }, kinds := [], alts := [], laidByText := true, laidKinds := [.handle], laidTests := true, laidLooks := .later }
def ReturnedUptoCardSaid : Prop := Claim7.holds Tryd.pinned (.plain (OpenSpec.upto returnedSpec)) returnedUptoCard
end Rows
end Go.Proofs.YtgfdlpcdjklcoaaDoor
