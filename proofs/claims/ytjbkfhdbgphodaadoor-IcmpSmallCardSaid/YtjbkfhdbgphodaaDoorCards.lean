/-
  DERIVED. GIVEN WITH THE SEED: THE CARDS: each row of YtjbkfhdbgphodaaDoorRows.lean that lists a variable, with what it lists TIED to the program's text (the seventh form; the later family's looks); each row that meets fmt, with fmt's text TOLD by the authors' own Lean function (tested against real Go, not proved from fmt's source: count such statements apart). THE CARD IS WHAT COUNTS. Prove the row's statement (the work); the ties are given (YtjbkfhdbgphodaaDoorTie.lean); close each card by the builder's one call (the guide's Derived/Test/ToyasCard.lean, 'card_holds'). Laid BY PROGRAM, IN A SANDBOX (cutbox-door.mjs). By AI agents, Wed Nov 11 2026. No macro, syntax, notation, axiom, sorry.
-/
import Derived.Test.YtjbkfhdbgphodaaDoorRows
import GoSem.ClaimSeven
namespace Go.Proofs.YtjbkfhdbgphodaaDoor
namespace Rows

/-- THE TIED CARD OF 'bafflelaw10.IcmpReads'. -/
def icmpReadsCard : Claim7 := { stood := { row := icmpReadsRow, standIns := [], harness := (true, "4d81389af4c6ca9826f5a3cd19bec93c327cec1903fd53cb503b9f0915637cec"), looks := false }, kinds := [], alts := [], laidByText := true, laidKinds := [.data], laidTests := true, laidLooks := .later }
def IcmpReadsCardSaid : Prop := Claim7.holds Tryd.pinned (.plain (OpenSpec.ofChange icmpReadsSpec)) icmpReadsCard

/-- THE TIED CARD OF 'bafflelaw10.IcmpWrites'. -/
def icmpWritesCard : Claim7 := { stood := { row := icmpWritesRow, standIns := [], harness := (true, "4d81389af4c6ca9826f5a3cd19bec93c327cec1903fd53cb503b9f0915637cec"), looks := false }, kinds := [], alts := [], laidByText := true, laidKinds := [.data], laidTests := true, laidLooks := .later }
def IcmpWritesCardSaid : Prop := Claim7.holds Tryd.pinned (.plain (OpenSpec.ofChange icmpWritesSpec)) icmpWritesCard

/-- THE TIED CARD OF 'bafflelaw10.IcmpTells'. -/
def icmpTellsCard : Claim7 := { stood := { row := icmpTellsRow, standIns := [], harness := (true, "4d81389af4c6ca9826f5a3cd19bec93c327cec1903fd53cb503b9f0915637cec"), looks := false }, kinds := [], alts := [], laidByText := true, laidKinds := [.data], laidTests := true, laidLooks := .later }
def IcmpTellsCardSaid : Prop := Claim7.holds Tryd.pinned (.plain (OpenSpec.ofChange icmpTellsSpec)) icmpTellsCard

/-- THE TIED CARD OF 'bafflelaw10.IcmpSmall'. -/
def icmpSmallCard : Claim7 := { stood := { row := icmpSmallRow, standIns := [], harness := (true, "4d81389af4c6ca9826f5a3cd19bec93c327cec1903fd53cb503b9f0915637cec"), looks := false }, kinds := [], alts := [], laidByText := true, laidKinds := [.data], laidTests := true, laidLooks := .later }
def IcmpSmallCardSaid : Prop := Claim7.holds Tryd.pinned (.plain (OpenSpec.ofChange icmpSmallSpec)) icmpSmallCard

/-- THE TIED CARD OF 'bafflelaw10.IcmpBack'. -/
def icmpBackCard : Claim7 := { stood := { row := icmpBackRow, standIns := [], harness := (true, "4d81389af4c6ca9826f5a3cd19bec93c327cec1903fd53cb503b9f0915637cec"), looks := false }, kinds := [], alts := [], laidByText := true, laidKinds := [.data, .data, .data, .data], laidTests := true, laidLooks := .later }
def IcmpBackCardSaid : Prop := Claim7.holds Tryd.pinned (.plain (OpenSpec.ofChange icmpBackSpec)) icmpBackCard

/-- THE TIED CARD OF 'bafflelaw10.IcmpAgain'. -/
def icmpAgainCard : Claim7 := { stood := { row := icmpAgainRow, standIns := [], harness := (true, "4d81389af4c6ca9826f5a3cd19bec93c327cec1903fd53cb503b9f0915637cec"), looks := false }, kinds := [], alts := [], laidByText := true, laidKinds := [.data], laidTests := true, laidLooks := .later }
def IcmpAgainCardSaid : Prop := Claim7.holds Tryd.pinned (.plain (OpenSpec.ofChange icmpAgainSpec)) icmpAgainCard

/-- THE TIED CARD OF 'bafflelaw10.IcmpAnswers'. -/
def icmpAnswersCard : Claim7 := { stood := { row := icmpAnswersRow, standIns := [], harness := (true, "4d81389af4c6ca9826f5a3cd19bec93c327cec1903fd53cb503b9f0915637cec"), looks := false }, kinds := [], alts := [], laidByText := true, laidKinds := [.data, .data, .data, .data], laidTests := true, laidLooks := .later }
def IcmpAnswersCardSaid : Prop := Claim7.holds Tryd.pinned (.plain (OpenSpec.ofChange icmpAnswersSpec)) icmpAnswersCard

/-- THE TIED CARD OF 'bafflelaw10.IcmpWrong'. -/
def icmpWrongCard : Claim7 := { stood := { row := icmpWrongRow, standIns := [], harness := (true, "4d81389af4c6ca9826f5a3cd19bec93c327cec1903fd53cb503b9f0915637cec"), looks := false }, kinds := [], alts := [], laidByText := true, laidKinds := [.data, .data, .data, .data], laidTests := true, laidLooks := .later }
def IcmpWrongCardSaid : Prop := Claim7.holds Tryd.pinned (.plain (OpenSpec.ofChange icmpWrongSpec)) icmpWrongCard

/-- THE TIED CARD OF 'bafflelaw10.IcmpQuotes'. -/
def icmpQuotesCard : Claim7 := { stood := { row := icmpQuotesRow, standIns := [], harness := (true, "4d81389af4c6ca9826f5a3cd19bec93c327cec1903fd53cb503b9f0915637cec"), looks := false }, kinds := [], alts := [], laidByText := true, laidKinds := [.data, .data, .data, .data], laidTests := true, laidLooks := .later }
def IcmpQuotesCardSaid : Prop := Claim7.holds Tryd.pinned (.plain (OpenSpec.ofChange icmpQuotesSpec)) icmpQuotesCard

/-- THE SECOND FORM's CARD OF 'bafflelaw10.IcmpReads'. -/
def icmpReadsUptoCard : Claim7 := { stood := { row := icmpReadsUptoRow, standIns := [], harness := (true, "4d81389af4c6ca9826f5a3cd19bec93c327cec1903fd53cb503b9f0915637cec"), looks := false }, kinds := [], alts := [], laidByText := true, laidKinds := [.data], laidTests := true, laidLooks := .later }
def IcmpReadsUptoCardSaid : Prop := Claim7.holds Tryd.pinned (.plain (OpenSpec.upto icmpReadsSpec)) icmpReadsUptoCard

/-- THE SECOND FORM's CARD OF 'bafflelaw10.IcmpWrites'. -/
def icmpWritesUptoCard : Claim7 := { stood := { row := icmpWritesUptoRow, standIns := [], harness := (true, "4d81389af4c6ca9826f5a3cd19bec93c327cec1903fd53cb503b9f0915637cec"), looks := false }, kinds := [], alts := [], laidByText := true, laidKinds := [.data], laidTests := true, laidLooks := .later }
def IcmpWritesUptoCardSaid : Prop := Claim7.holds Tryd.pinned (.plain (OpenSpec.upto icmpWritesSpec)) icmpWritesUptoCard

/-- THE SECOND FORM's CARD OF 'bafflelaw10.IcmpTells'. -/
def icmpTellsUptoCard : Claim7 := { stood := { row := icmpTellsUptoRow, standIns := [], harness := (true, "4d81389af4c6ca9826f5a3cd19bec93c327cec1903fd53cb503b9f0915637cec"), looks := false }, kinds := [], alts := [], laidByText := true, laidKinds := [.data], laidTests := true, laidLooks := .later }
def IcmpTellsUptoCardSaid : Prop := Claim7.holds Tryd.pinned (.plain (OpenSpec.upto icmpTellsSpec)) icmpTellsUptoCard

/-- THE SECOND FORM's CARD OF 'bafflelaw10.IcmpSmall'. -/
def icmpSmallUptoCard : Claim7 := { stood := { row := icmpSmallUptoRow, standIns := [], harness := (true, "4d81389af4c6ca9826f5a3cd19bec93c327cec1903fd53cb503b9f0915637cec"), looks := false }, kinds := [], alts := [], laidByText := true, laidKinds := [.data], laidTests := true, laidLooks := .later }
def IcmpSmallUptoCardSaid : Prop := Claim7.holds Tryd.pinned (.plain (OpenSpec.upto icmpSmallSpec)) icmpSmallUptoCard

/-- THE SECOND FORM's CARD OF 'bafflelaw10.IcmpBack'. -/
def icmpBackUptoCard : Claim7 := { stood := { row := icmpBackUptoRow, standIns := [], harness := (true, "4d81389af4c6ca9826f5a3cd19bec93c327cec1903fd53cb503b9f0915637cec"), looks := false }, kinds := [], alts := [], laidByText := true, laidKinds := [.data, .data, .data, .data], laidTests := true, laidLooks := .later }
def IcmpBackUptoCardSaid : Prop := Claim7.holds Tryd.pinned (.plain (OpenSpec.upto icmpBackSpec)) icmpBackUptoCard

/-- THE SECOND FORM's CARD OF 'bafflelaw10.IcmpAgain'. -/
def icmpAgainUptoCard : Claim7 := { stood := { row := icmpAgainUptoRow, standIns := [], harness := (true, "4d81389af4c6ca9826f5a3cd19bec93c327cec1903fd53cb503b9f0915637cec"), looks := false }, kinds := [], alts := [], laidByText := true, laidKinds := [.data], laidTests := true, laidLooks := .later }
def IcmpAgainUptoCardSaid : Prop := Claim7.holds Tryd.pinned (.plain (OpenSpec.upto icmpAgainSpec)) icmpAgainUptoCard

/-- THE SECOND FORM's CARD OF 'bafflelaw10.IcmpAnswers'. -/
def icmpAnswersUptoCard : Claim7 := { stood := { row := icmpAnswersUptoRow, standIns := [], harness := (true, "4d81389af4c6ca9826f5a3cd19bec93c327cec1903fd53cb503b9f0915637cec"), looks := false }, kinds := [], alts := [], laidByText := true, laidKinds := [.data, .data, .data, .data], laidTests := true, laidLooks := .later }
def IcmpAnswersUptoCardSaid : Prop := Claim7.holds Tryd.pinned (.plain (OpenSpec.upto icmpAnswersSpec)) icmpAnswersUptoCard

/-- THE SECOND FORM's CARD OF 'bafflelaw10.IcmpWrong'. -/
def icmpWrongUptoCard : Claim7 := { stood := { row := icmpWrongUptoRow, standIns := [], harness := (true, "4d81389af4c6ca9826f5a3cd19bec93c327cec1903fd53cb503b9f0915637cec"), looks := false }, kinds := [], alts := [], laidByText := true, laidKinds := [.data, .data, .data, .data], laidTests := true, laidLooks := .later }
def IcmpWrongUptoCardSaid : Prop := Claim7.holds Tryd.pinned (.plain (OpenSpec.upto icmpWrongSpec)) icmpWrongUptoCard

/-- THE SECOND FORM's CARD OF 'bafflelaw10.IcmpQuotes'. -/
def icmpQuotesUptoCard : Claim7 := { stood := { row := icmpQuotesUptoRow, standIns := [], harness := (true, "4d81389af4c6ca9826f5a3cd19bec93c327cec1903fd53cb503b9f0915637cec"), looks := false }, kinds := [], alts := [], laidByText := true, laidKinds := [.data, .data, .data, .data], laidTests := true, laidLooks := .later }
def IcmpQuotesUptoCardSaid : Prop := Claim7.holds Tryd.pinned (.plain (OpenSpec.upto icmpQuotesSpec)) icmpQuotesUptoCard
end Rows
end Go.Proofs.YtjbkfhdbgphodaaDoor
