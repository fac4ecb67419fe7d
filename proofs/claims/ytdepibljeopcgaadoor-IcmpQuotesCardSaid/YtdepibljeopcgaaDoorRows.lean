/-
  NARROWER THAN 'FOR EVERY INPUT', by the rows' own cells (each row's printed sentence says how): IcmpQuotes: laid.
  DERIVED. THE GIVEN ROWS OF THIS SEAT. 1 by the template 'for every input the law returns true; each argument reads behind the call as it read before'; 0 by the template 'total and deterministic' (their statements: YtdepibljeopcgaaDoorTotals.lean).
  GIVEN WITH THE SEED: the statements are not yours to turn. If you find one false, say at which input.
  Laid BY PROGRAM, IN A SANDBOX (cutbox-rows.mjs): the forced cells as the released guide's own fill.sh prints them over the translation a667fc456b6b2026… (all of the seat's roots in one cut). By AI agents, Wed Nov 11 2026. No macro, syntax, notation, axiom, sorry.
-/
import Derived.Test.YtdepibljeopcgaaDoorChecked
import GoSem.Claim
import GoSem.ClaimJoined
import GoSem.ClaimMapViews
import Derived.JoinedTies
import Derived.KernelRfl
namespace Go.Proofs.YtdepibljeopcgaaDoor
/- THE CELL 'sum', in the pinned program and in every row, IS THE sha256 OF THE DUMP (.gsa) THAT YtdepibljeopcgaaDoorProg.lean LOADS. Nothing in Lean hashes anything: it is a label: what it is worth is what the hold of that sum in a sandbox is worth. -/
noncomputable def Tryd.pinned : Pinned := { name := "ytdepibljeopcgaadoor", sum := "a667fc456b6b2026efc19ee43a43397706b92b6317e9ff2fc6d6967790591660", checked := Tryd.checked }
namespace Rows
def none {H : Type} : Left H := { results := [], args := [] }

/- WHAT THE LISTED PACKAGE-LEVEL VARIABLES READ AS WHEN THE CALL BEGINS. Each datum BY PROGRAM (the guide's laid-datum.mjs) off the statement by which the dump's own 'gosem.cut.vars' lays the variable. In a bare row this is a premise. The card (YtdepibljeopcgaaDoorCards.lean) ties it to the program's text. -/
def laid_baffle_icmp_sorts {H : Type} : DataW H := .agg [.agg [.lit (.int .u8 4), .lit (.int .u8 0), .lit (.int .u8 0)], .agg [.lit (.int .u8 0), .lit (.int .u8 0), .lit (.int .u8 0)], .agg [.lit (.int .u8 0), .lit (.int .u8 0), .lit (.int .u8 0)], .agg [.lit (.int .u8 5), .lit (.int .u8 15), .lit (.int .u8 0)], .agg [.lit (.int .u8 5), .lit (.int .u8 0), .lit (.int .u8 0)], .agg [.lit (.int .u8 5), .lit (.int .u8 3), .lit (.int .u8 0)], .agg [.lit (.int .u8 0), .lit (.int .u8 0), .lit (.int .u8 0)], .agg [.lit (.int .u8 0), .lit (.int .u8 0), .lit (.int .u8 0)], .agg [.lit (.int .u8 3), .lit (.int .u8 0), .lit (.int .u8 0)], .agg [.lit (.int .u8 0), .lit (.int .u8 0), .lit (.int .u8 0)], .agg [.lit (.int .u8 0), .lit (.int .u8 0), .lit (.int .u8 0)], .agg [.lit (.int .u8 5), .lit (.int .u8 1), .lit (.int .u8 0)], .agg [.lit (.int .u8 5), .lit (.int .u8 2), .lit (.int .u8 0)], .agg [.lit (.int .u8 3), .lit (.int .u8 0), .lit (.int .u8 14)], .agg [.lit (.int .u8 4), .lit (.int .u8 0), .lit (.int .u8 0)], .agg [.lit (.int .u8 0), .lit (.int .u8 0), .lit (.int .u8 0)], .agg [.lit (.int .u8 0), .lit (.int .u8 0), .lit (.int .u8 0)], .agg [.lit (.int .u8 3), .lit (.int .u8 0), .lit (.int .u8 18)], .agg [.lit (.int .u8 4), .lit (.int .u8 0), .lit (.int .u8 0)]]
def laid_baffle_bafflelaw10_queries {H : Type} : DataW H := .agg [.lit (.int .u8 8), .lit (.int .u8 13), .lit (.int .u8 17)]
def laid_baffle_bafflelaw10_replies {H : Type} : DataW H := .agg [.lit (.int .u8 0), .lit (.int .u8 14), .lit (.int .u8 18)]
def laid_baffle_bafflelaw10_errs {H : Type} : DataW H := .agg [.agg [.lit (.int .u8 3), .lit (.int .u8 15)], .agg [.lit (.int .u8 4), .lit (.int .u8 0)], .agg [.lit (.int .u8 5), .lit (.int .u8 3)], .agg [.lit (.int .u8 11), .lit (.int .u8 1)], .agg [.lit (.int .u8 12), .lit (.int .u8 2)]]

/-- 'bafflelaw10.IcmpQuotes': WHATEVER THE INPUT: true; the input reads as it did. -/
def icmpQuotesSpec : ChangeSpec := { name := "icmpQuotes", fn := fun _ => fun
  | [d1, d2] => { results := [.lit (.bool true)], args := [d1, d2] }
  | _ => none }
def icmpQuotesRow : OpenClaim := { program := "ytdepibljeopcgaadoor", sum := "a667fc456b6b2026efc19ee43a43397706b92b6317e9ff2fc6d6967790591660", func := "baffle/bafflelaw10.IcmpQuotes", spec := "icmpQuotes", unfollowed := true, recurses := true, named := ["baffle/icmp.sorts", "baffle/bafflelaw10.queries", "baffle/bafflelaw10.replies", "baffle/bafflelaw10.errs"], apart := false, laid := [("baffle/icmp.sorts", laid_baffle_icmp_sorts), ("baffle/bafflelaw10.queries", laid_baffle_bafflelaw10_queries), ("baffle/bafflelaw10.replies", laid_baffle_bafflelaw10_replies), ("baffle/bafflelaw10.errs", laid_baffle_bafflelaw10_errs)] }
def IcmpQuotesSaid : Prop := icmpQuotesRow.holds Tryd.pinned (OpenSpec.ofChange icmpQuotesSpec)

/-- ITS FALSE NEIGHBOUR: 'it returns false'. Refute it at one input. -/
def icmpQuotesWrong : ChangeSpec := { name := "icmpQuotes", fn := fun _ => fun
  | [d1, d2] => { results := [.lit (.bool false)], args := [d1, d2] }
  | _ => none }
def IcmpQuotesWrongFalsely : Prop := icmpQuotesRow.holds Tryd.pinned (OpenSpec.ofChange icmpQuotesWrong)

/- THE SECOND FORM. 'bulk': how many values and letters a reading holds, each counted each time it is reached (what is shared counts as often as it is met; a slice's spare places count too). A statement '..UptoSaid' is the law's where the arguments, and the package variables that the reading takes, are together of bulk at most 1048576: NARROWER than '..Said'. Prove '..Said' where nothing that the law and all that it calls make is longer than what came in: it says more and counts as full. Else prove '..UptoSaid'. A law counts once. -/
mutual
def uptoBulk {H : Type} : DataW H → Nat
  | .lit (.string bytes) => bytes.length + 1
  | .lit _ => 1
  | .nil => 1
  | .ptr d => uptoBulk d + 1
  | .slice elems spare => uptoBulkAll elems + uptoBulkAll spare + 1
  | .agg parts => uptoBulkAll parts + 1
  | .iface _ d => uptoBulk d + 1
  | .map entries => uptoBulkEntries entries + 1
  | .held _ => 1
def uptoBulkAll {H : Type} : List (DataW H) → Nat
  | [] => 0
  | d :: r => uptoBulk d + uptoBulkAll r
def uptoBulkEntries {H : Type} : List (Lit × DataW H) → Nat
  | [] => 0
  | x :: r => uptoBulkEntry x + uptoBulkEntries r
def uptoBulkEntry {H : Type} : Lit × DataW H → Nat
  | (.string bytes, d) => bytes.length + uptoBulk d + 1
  | (_, d) => uptoBulk d + 1
 end
def uptoSmall : (H : Type) → List (DataW H) → Bool := fun _ ds => decide (uptoBulkAll ds ≤ 1048576)
def OpenSpec.upto (s : _root_.Go.ChangeSpec) : _root_.Go.OpenSpec := { _root_.Go.OpenSpec.ofChange s with cond := some uptoSmall }

/-- 'bafflelaw10.IcmpQuotes', WHERE WHAT IT READS IS OF BULK AT MOST 1048576: true; the input reads as it did. -/
def icmpQuotesUptoRow : OpenClaim := { program := "ytdepibljeopcgaadoor", sum := "a667fc456b6b2026efc19ee43a43397706b92b6317e9ff2fc6d6967790591660", func := "baffle/bafflelaw10.IcmpQuotes", spec := "icmpQuotes", unfollowed := true, recurses := true, named := ["baffle/icmp.sorts", "baffle/bafflelaw10.queries", "baffle/bafflelaw10.replies", "baffle/bafflelaw10.errs"], apart := false, laid := [("baffle/icmp.sorts", laid_baffle_icmp_sorts), ("baffle/bafflelaw10.queries", laid_baffle_bafflelaw10_queries), ("baffle/bafflelaw10.replies", laid_baffle_bafflelaw10_replies), ("baffle/bafflelaw10.errs", laid_baffle_bafflelaw10_errs)], narrowed := true }
def IcmpQuotesUptoSaid : Prop := icmpQuotesUptoRow.holds Tryd.pinned (OpenSpec.upto icmpQuotesSpec)

end Rows
end Go.Proofs.YtdepibljeopcgaaDoor
