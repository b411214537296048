/-
  DERIVED. GIVEN WITH THE SEED: THE CARDS: each row of YtdoaeapahgmfoaaDoorRows.lean that lists a variable, with what it lists TIED to the program's text (the seventh form; the later family's looks); each row that meets fmt, with fmt's text TOLD by the authors' own Lean function (tested against real Go, not proved from fmt's source: count such statements apart). THE CARD IS WHAT COUNTS. Prove the row's statement (the work); the ties are given (YtdoaeapahgmfoaaDoorTie.lean); close each card by the builder's one call (the guide's Derived/Test/ToyasCard.lean, 'card_holds'). Laid BY PROGRAM, IN A SANDBOX (cutbox-door.mjs). By AI agents, Wed Nov 11 2026. No macro, syntax, notation, axiom, sorry.
-/
import Derived.Test.YtdoaeapahgmfoaaDoorRows
import GoSem.ClaimSeven
namespace Go.Proofs.YtdoaeapahgmfoaaDoor
namespace Rows

/-- THE TIED CARD OF 'nurserypylaw1.Names'. -/
def namesCard : Claim7 := { stood := { row := namesRow, standIns := [], harness := (true, "b56e68458e1d0a4b5ec60ede163cb417d6717ec06d73733a11ffef15a1b1df17"), looks := true }, kinds := [], alts := [], laidByText := true, laidKinds := [.handle, .sentinel, .sentinel, .sentinel, .sentinel, .sentinel, .sentinel, .sentinel], laidTests := true, laidLooks := .later }
def NamesCardSaid : Prop := Claim7.holds Tryd.pinned (.plain (OpenSpec.ofChange namesSpec)) namesCard

/-- THE TIED CARD OF 'nurserypylaw1.LexBlanks'. -/
def lexBlanksCard : Claim7 := { stood := { row := lexBlanksRow, standIns := [], harness := (true, "b56e68458e1d0a4b5ec60ede163cb417d6717ec06d73733a11ffef15a1b1df17"), looks := true }, kinds := [], alts := [], laidByText := true, laidKinds := [.data, .data, .data, .data, .sentinel, .sentinel, .sentinel, .sentinel, .widerDeep, .widerDeep, .pinned], laidTests := true, laidLooks := .later }
def LexBlanksCardSaid : Prop := Claim7.holds Tryd.pinned (.plain (OpenSpec.ofChange lexBlanksSpec)) lexBlanksCard

/-- THE TIED CARD OF 'nurserypylaw1.LexQuotes'. -/
def lexQuotesCard : Claim7 := { stood := { row := lexQuotesRow, standIns := [], harness := (true, "b56e68458e1d0a4b5ec60ede163cb417d6717ec06d73733a11ffef15a1b1df17"), looks := true }, kinds := [], alts := [], laidByText := true, laidKinds := [.data, .data, .data, .data, .sentinel, .sentinel, .sentinel, .sentinel, .widerDeep, .widerDeep, .pinned], laidTests := true, laidLooks := .later }
def LexQuotesCardSaid : Prop := Claim7.holds Tryd.pinned (.plain (OpenSpec.ofChange lexQuotesSpec)) lexQuotesCard

/-- THE TIED CARD OF 'nurserypylaw1.LexDeep'. -/
def lexDeepCard : Claim7 := { stood := { row := lexDeepRow, standIns := [], harness := (true, "b56e68458e1d0a4b5ec60ede163cb417d6717ec06d73733a11ffef15a1b1df17"), looks := true }, kinds := [], alts := [], laidByText := true, laidKinds := [.data, .data, .data, .data, .sentinel, .sentinel, .sentinel, .sentinel, .widerDeep, .widerDeep, .pinned], laidTests := true, laidLooks := .later }
def LexDeepCardSaid : Prop := Claim7.holds Tryd.pinned (.plain (OpenSpec.ofChange lexDeepSpec)) lexDeepCard

/-- THE TIED CARD OF 'nurserypylaw1.LexTwice'. -/
def lexTwiceCard : Claim7 := { stood := { row := lexTwiceRow, standIns := [], harness := (true, "b56e68458e1d0a4b5ec60ede163cb417d6717ec06d73733a11ffef15a1b1df17"), looks := true }, kinds := [], alts := [], laidByText := true, laidKinds := [.data, .data, .data, .data, .sentinel, .sentinel, .sentinel, .sentinel, .sentinel, .widerDeep, .widerDeep, .pinned], laidTests := true, laidLooks := .later }
def LexTwiceCardSaid : Prop := Claim7.holds Tryd.pinned (.plain (OpenSpec.ofChange lexTwiceSpec)) lexTwiceCard

/-- THE SECOND FORM's CARD OF 'nurserypylaw1.Names'. -/
def namesUptoCard : Claim7 := { stood := { row := namesUptoRow, standIns := [], harness := (true, "b56e68458e1d0a4b5ec60ede163cb417d6717ec06d73733a11ffef15a1b1df17"), looks := true }, kinds := [], alts := [], laidByText := true, laidKinds := [.handle, .sentinel, .sentinel, .sentinel, .sentinel, .sentinel, .sentinel, .sentinel], laidTests := true, laidLooks := .later }
def NamesUptoCardSaid : Prop := Claim7.holds Tryd.pinned (.plain (OpenSpec.upto namesSpec)) namesUptoCard

/-- THE SECOND FORM's CARD OF 'nurserypylaw1.LexBlanks'. -/
def lexBlanksUptoCard : Claim7 := { stood := { row := lexBlanksUptoRow, standIns := [], harness := (true, "b56e68458e1d0a4b5ec60ede163cb417d6717ec06d73733a11ffef15a1b1df17"), looks := true }, kinds := [], alts := [], laidByText := true, laidKinds := [.data, .data, .data, .data, .sentinel, .sentinel, .sentinel, .sentinel, .widerDeep, .widerDeep, .pinned], laidTests := true, laidLooks := .later }
def LexBlanksUptoCardSaid : Prop := Claim7.holds Tryd.pinned (.plain (OpenSpec.upto lexBlanksSpec)) lexBlanksUptoCard

/-- THE SECOND FORM's CARD OF 'nurserypylaw1.LexQuotes'. -/
def lexQuotesUptoCard : Claim7 := { stood := { row := lexQuotesUptoRow, standIns := [], harness := (true, "b56e68458e1d0a4b5ec60ede163cb417d6717ec06d73733a11ffef15a1b1df17"), looks := true }, kinds := [], alts := [], laidByText := true, laidKinds := [.data, .data, .data, .data, .sentinel, .sentinel, .sentinel, .sentinel, .widerDeep, .widerDeep, .pinned], laidTests := true, laidLooks := .later }
def LexQuotesUptoCardSaid : Prop := Claim7.holds Tryd.pinned (.plain (OpenSpec.upto lexQuotesSpec)) lexQuotesUptoCard

/-- THE SECOND FORM's CARD OF 'nurserypylaw1.LexDeep'. -/
def lexDeepUptoCard : Claim7 := { stood := { row := lexDeepUptoRow, standIns := [], harness := (true, "b56e68458e1d0a4b5ec60ede163cb417d6717ec06d73733a11ffef15a1b1df17"), looks := true }, kinds := [], alts := [], laidByText := true, laidKinds := [.data, .data, .data, .data, .sentinel, .sentinel, .sentinel, .sentinel, .widerDeep, .widerDeep, .pinned], laidTests := true, laidLooks := .later }
def LexDeepUptoCardSaid : Prop := Claim7.holds Tryd.pinned (.plain (OpenSpec.upto lexDeepSpec)) lexDeepUptoCard

/-- THE SECOND FORM's CARD OF 'nurserypylaw1.LexTwice'. -/
def lexTwiceUptoCard : Claim7 := { stood := { row := lexTwiceUptoRow, standIns := [], harness := (true, "b56e68458e1d0a4b5ec60ede163cb417d6717ec06d73733a11ffef15a1b1df17"), looks := true }, kinds := [], alts := [], laidByText := true, laidKinds := [.data, .data, .data, .data, .sentinel, .sentinel, .sentinel, .sentinel, .sentinel, .widerDeep, .widerDeep, .pinned], laidTests := true, laidLooks := .later }
def LexTwiceUptoCardSaid : Prop := Claim7.holds Tryd.pinned (.plain (OpenSpec.upto lexTwiceSpec)) lexTwiceUptoCard
end Rows
end Go.Proofs.YtdoaeapahgmfoaaDoor
