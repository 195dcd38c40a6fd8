/-
  DERIVED. GIVEN WITH THE SEED: THE CARDS: each row of YthkdojmamejkaaaDoorRows.lean that lists a variable, with what it lists TIED to the program's text (the seventh form; the later family's looks); each row that meets fmt, with fmt's text TOLD by the authors' own Lean function (tested against real Go, not proved from fmt's source: count such statements apart). THE CARD IS WHAT COUNTS. Prove the row's statement (the work); the ties are given (YthkdojmamejkaaaDoorTie.lean); close each card by the builder's one call (the guide's Derived/Test/ToyasCard.lean, 'card_holds'). Laid BY PROGRAM, IN A SANDBOX (cutbox-door.mjs). By AI agents, Wed Nov 11 2026. No macro, syntax, notation, axiom, sorry.
-/
import Derived.Test.YthkdojmamejkaaaDoorRows
import GoSem.ClaimSeven
namespace Go.Proofs.YthkdojmamejkaaaDoor
namespace Rows

/-- THE TIED CARD OF 'bitlofttop.TopReckoned'. -/
def topReckonedCard : Claim7 := { stood := { row := topReckonedRow, standIns := [], harness := (true, "efb466470060e360f01a54152eec133d5fe450d67088a808941a5c89c9bc89e4"), looks := false }, kinds := [], alts := [], laidByText := true, laidKinds := [.data, .data, .data], laidTests := true, laidLooks := .later }
def TopReckonedCardSaid : Prop := Claim7.holds Tryd.pinned (.plain (OpenSpec.ofChange topReckonedSpec)) topReckonedCard

/-- THE TIED CARD OF 'bitlofttop.TopWeighed'. -/
def topWeighedCard : Claim7 := { stood := { row := topWeighedRow, standIns := [], harness := (true, "efb466470060e360f01a54152eec133d5fe450d67088a808941a5c89c9bc89e4"), looks := false }, kinds := [], alts := [], laidByText := true, laidKinds := [.data, .data], laidTests := true, laidLooks := .later }
def TopWeighedCardSaid : Prop := Claim7.holds Tryd.pinned (.plain (OpenSpec.ofChange topWeighedSpec)) topWeighedCard

/-- THE TIED CARD OF 'bitlofttop.TopCounted'. -/
def topCountedCard : Claim7 := { stood := { row := topCountedRow, standIns := [], harness := (true, "efb466470060e360f01a54152eec133d5fe450d67088a808941a5c89c9bc89e4"), looks := false }, kinds := [], alts := [], laidByText := true, laidKinds := [.data, .pinned], laidTests := true, laidLooks := .later }
def TopCountedCardSaid : Prop := Claim7.holds Tryd.pinned (.plain (OpenSpec.ofChange topCountedSpec)) topCountedCard

/-- THE TIED CARD OF 'bitlofttop.TopAdapted'. -/
def topAdaptedCard : Claim7 := { stood := { row := topAdaptedRow, standIns := [], harness := (true, "efb466470060e360f01a54152eec133d5fe450d67088a808941a5c89c9bc89e4"), looks := false }, kinds := [], alts := [], laidByText := true, laidKinds := [.data, .data, .pinned], laidTests := true, laidLooks := .later }
def TopAdaptedCardSaid : Prop := Claim7.holds Tryd.pinned (.plain (OpenSpec.ofChange topAdaptedSpec)) topAdaptedCard

/-- THE TIED CARD OF 'bitlofttop.TopSieved'. -/
def topSievedCard : Claim7 := { stood := { row := topSievedRow, standIns := [], harness := (true, "efb466470060e360f01a54152eec133d5fe450d67088a808941a5c89c9bc89e4"), looks := false }, kinds := [], alts := [], laidByText := true, laidKinds := [.data, .pinned], laidTests := true, laidLooks := .later }
def TopSievedCardSaid : Prop := Claim7.holds Tryd.pinned (.plain (OpenSpec.ofChange topSievedSpec)) topSievedCard

/-- THE TIED CARD OF 'bitlofttop.TopSlotted'. -/
def topSlottedCard : Claim7 := { stood := { row := topSlottedRow, standIns := [], harness := (true, "efb466470060e360f01a54152eec133d5fe450d67088a808941a5c89c9bc89e4"), looks := false }, kinds := [], alts := [], laidByText := true, laidKinds := [.data, .pinned], laidTests := true, laidLooks := .later }
def TopSlottedCardSaid : Prop := Claim7.holds Tryd.pinned (.plain (OpenSpec.ofChange topSlottedSpec)) topSlottedCard

/-- THE SECOND FORM's CARD OF 'bitlofttop.TopReckoned'. -/
def topReckonedUptoCard : Claim7 := { stood := { row := topReckonedUptoRow, standIns := [], harness := (true, "efb466470060e360f01a54152eec133d5fe450d67088a808941a5c89c9bc89e4"), looks := false }, kinds := [], alts := [], laidByText := true, laidKinds := [.data, .data, .data], laidTests := true, laidLooks := .later }
def TopReckonedUptoCardSaid : Prop := Claim7.holds Tryd.pinned (.plain (OpenSpec.upto topReckonedSpec)) topReckonedUptoCard

/-- THE SECOND FORM's CARD OF 'bitlofttop.TopWeighed'. -/
def topWeighedUptoCard : Claim7 := { stood := { row := topWeighedUptoRow, standIns := [], harness := (true, "efb466470060e360f01a54152eec133d5fe450d67088a808941a5c89c9bc89e4"), looks := false }, kinds := [], alts := [], laidByText := true, laidKinds := [.data, .data], laidTests := true, laidLooks := .later }
def TopWeighedUptoCardSaid : Prop := Claim7.holds Tryd.pinned (.plain (OpenSpec.upto topWeighedSpec)) topWeighedUptoCard

/-- THE SECOND FORM's CARD OF 'bitlofttop.TopCounted'. -/
def topCountedUptoCard : Claim7 := { stood := { row := topCountedUptoRow, standIns := [], harness := (true, "efb466470060e360f01a54152eec133d5fe450d67088a808941a5c89c9bc89e4"), looks := false }, kinds := [], alts := [], laidByText := true, laidKinds := [.data, .pinned], laidTests := true, laidLooks := .later }
def TopCountedUptoCardSaid : Prop := Claim7.holds Tryd.pinned (.plain (OpenSpec.upto topCountedSpec)) topCountedUptoCard

/-- THE SECOND FORM's CARD OF 'bitlofttop.TopAdapted'. -/
def topAdaptedUptoCard : Claim7 := { stood := { row := topAdaptedUptoRow, standIns := [], harness := (true, "efb466470060e360f01a54152eec133d5fe450d67088a808941a5c89c9bc89e4"), looks := false }, kinds := [], alts := [], laidByText := true, laidKinds := [.data, .data, .pinned], laidTests := true, laidLooks := .later }
def TopAdaptedUptoCardSaid : Prop := Claim7.holds Tryd.pinned (.plain (OpenSpec.upto topAdaptedSpec)) topAdaptedUptoCard

/-- THE SECOND FORM's CARD OF 'bitlofttop.TopSieved'. -/
def topSievedUptoCard : Claim7 := { stood := { row := topSievedUptoRow, standIns := [], harness := (true, "efb466470060e360f01a54152eec133d5fe450d67088a808941a5c89c9bc89e4"), looks := false }, kinds := [], alts := [], laidByText := true, laidKinds := [.data, .pinned], laidTests := true, laidLooks := .later }
def TopSievedUptoCardSaid : Prop := Claim7.holds Tryd.pinned (.plain (OpenSpec.upto topSievedSpec)) topSievedUptoCard

/-- THE SECOND FORM's CARD OF 'bitlofttop.TopSlotted'. -/
def topSlottedUptoCard : Claim7 := { stood := { row := topSlottedUptoRow, standIns := [], harness := (true, "efb466470060e360f01a54152eec133d5fe450d67088a808941a5c89c9bc89e4"), looks := false }, kinds := [], alts := [], laidByText := true, laidKinds := [.data, .pinned], laidTests := true, laidLooks := .later }
def TopSlottedUptoCardSaid : Prop := Claim7.holds Tryd.pinned (.plain (OpenSpec.upto topSlottedSpec)) topSlottedUptoCard
end Rows
end Go.Proofs.YthkdojmamejkaaaDoor
