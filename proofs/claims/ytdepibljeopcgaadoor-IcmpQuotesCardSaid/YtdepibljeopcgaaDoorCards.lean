/-
  DERIVED. GIVEN WITH THE SEED: THE CARDS: each row of YtdepibljeopcgaaDoorRows.lean that lists a variable, with what it lists TIED to the program's text (the seventh form; the later family's looks); each row that meets fmt, with fmt's text TOLD by the authors' own Lean function (tested against real Go, not proved from fmt's source: count such statements apart). THE CARD IS WHAT COUNTS. Prove the row's statement (the work); the ties are given (YtdepibljeopcgaaDoorTie.lean); close each card by the builder's one call (the guide's Derived/Test/ToyasCard.lean, 'card_holds'). Laid BY PROGRAM, IN A SANDBOX (cutbox-door.mjs). By AI agents, Wed Nov 11 2026. No macro, syntax, notation, axiom, sorry.
-/
import Derived.Test.YtdepibljeopcgaaDoorRows
import GoSem.ClaimSeven
namespace Go.Proofs.YtdepibljeopcgaaDoor
namespace Rows

/-- THE TIED CARD OF 'bafflelaw10.IcmpQuotes'. -/
def icmpQuotesCard : Claim7 := { stood := { row := icmpQuotesRow, standIns := [], harness := (true, "d3021f68a181bf1b0a8d8964e98b24f16b37f1b80124238f00b4b2bfee148c7f"), looks := false }, kinds := [], alts := [], laidByText := true, laidKinds := [.data, .data, .data, .data], laidTests := true, laidLooks := .later }
def IcmpQuotesCardSaid : Prop := Claim7.holds Tryd.pinned (.plain (OpenSpec.ofChange icmpQuotesSpec)) icmpQuotesCard

/-- THE SECOND FORM's CARD OF 'bafflelaw10.IcmpQuotes'. -/
def icmpQuotesUptoCard : Claim7 := { stood := { row := icmpQuotesUptoRow, standIns := [], harness := (true, "d3021f68a181bf1b0a8d8964e98b24f16b37f1b80124238f00b4b2bfee148c7f"), looks := false }, kinds := [], alts := [], laidByText := true, laidKinds := [.data, .data, .data, .data], laidTests := true, laidLooks := .later }
def IcmpQuotesUptoCardSaid : Prop := Claim7.holds Tryd.pinned (.plain (OpenSpec.upto icmpQuotesSpec)) icmpQuotesUptoCard
end Rows
end Go.Proofs.YtdepibljeopcgaaDoor
