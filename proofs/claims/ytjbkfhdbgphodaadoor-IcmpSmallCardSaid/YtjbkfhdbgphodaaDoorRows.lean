/-
  NARROWER THAN 'FOR EVERY INPUT', by the rows' own cells (each row's printed sentence says how): IcmpReads: laid · IcmpWrites: laid · IcmpTells: laid · IcmpSmall: laid · IcmpBack: laid · IcmpAgain: laid · IcmpAnswers: laid · IcmpWrong: laid · IcmpQuotes: laid.
  DERIVED. THE GIVEN ROWS OF THIS SEAT. 9 by the template 'for every input the law returns true; each argument reads behind the call as it read before'; 0 by the template 'total and deterministic' (their statements: YtjbkfhdbgphodaaDoorTotals.lean).
  GIVEN WITH THE SEED: the statements are not yours to turn. If you find one false, say at which input.
  Laid BY PROGRAM, IN A SANDBOX (cutbox-rows.mjs): the forced cells as the released guide's own fill.sh prints them over the translation c311f126f2882745… (all of the seat's roots in one cut). By AI agents, Wed Nov 11 2026. No macro, syntax, notation, axiom, sorry.
-/
import Derived.Test.YtjbkfhdbgphodaaDoorChecked
import GoSem.Claim
import GoSem.ClaimJoined
import GoSem.ClaimMapViews
import Derived.JoinedTies
import Derived.KernelRfl
namespace Go.Proofs.YtjbkfhdbgphodaaDoor
/- THE CELL 'sum', in the pinned program and in every row, IS THE sha256 OF THE DUMP (.gsa) THAT YtjbkfhdbgphodaaDoorProg.lean LOADS. Nothing in Lean hashes anything: it is a label: what it is worth is what the hold of that sum in a sandbox is worth. -/
noncomputable def Tryd.pinned : Pinned := { name := "ytjbkfhdbgphodaadoor", sum := "c311f126f28827458c3695e4cc2c82d5972ee4771417b4938dc71b9b1806b7d4", checked := Tryd.checked }
namespace Rows
def none {H : Type} : Left H := { results := [], args := [] }

/- WHAT THE LISTED PACKAGE-LEVEL VARIABLES READ AS WHEN THE CALL BEGINS. Each datum BY PROGRAM (the guide's laid-datum.mjs) off the statement by which the dump's own 'gosem.cut.vars' lays the variable. In a bare row this is a premise. The card (YtjbkfhdbgphodaaDoorCards.lean) ties it to the program's text. -/
def laid_baffle_icmp_sorts {H : Type} : DataW H := .agg [.agg [.lit (.int .u8 4), .lit (.int .u8 0), .lit (.int .u8 0)], .agg [.lit (.int .u8 0), .lit (.int .u8 0), .lit (.int .u8 0)], .agg [.lit (.int .u8 0), .lit (.int .u8 0), .lit (.int .u8 0)], .agg [.lit (.int .u8 5), .lit (.int .u8 15), .lit (.int .u8 0)], .agg [.lit (.int .u8 5), .lit (.int .u8 0), .lit (.int .u8 0)], .agg [.lit (.int .u8 5), .lit (.int .u8 3), .lit (.int .u8 0)], .agg [.lit (.int .u8 0), .lit (.int .u8 0), .lit (.int .u8 0)], .agg [.lit (.int .u8 0), .lit (.int .u8 0), .lit (.int .u8 0)], .agg [.lit (.int .u8 3), .lit (.int .u8 0), .lit (.int .u8 0)], .agg [.lit (.int .u8 0), .lit (.int .u8 0), .lit (.int .u8 0)], .agg [.lit (.int .u8 0), .lit (.int .u8 0), .lit (.int .u8 0)], .agg [.lit (.int .u8 5), .lit (.int .u8 1), .lit (.int .u8 0)], .agg [.lit (.int .u8 5), .lit (.int .u8 2), .lit (.int .u8 0)], .agg [.lit (.int .u8 3), .lit (.int .u8 0), .lit (.int .u8 14)], .agg [.lit (.int .u8 4), .lit (.int .u8 0), .lit (.int .u8 0)], .agg [.lit (.int .u8 0), .lit (.int .u8 0), .lit (.int .u8 0)], .agg [.lit (.int .u8 0), .lit (.int .u8 0), .lit (.int .u8 0)], .agg [.lit (.int .u8 3), .lit (.int .u8 0), .lit (.int .u8 18)], .agg [.lit (.int .u8 4), .lit (.int .u8 0), .lit (.int .u8 0)]]
def laid_baffle_bafflelaw10_queries {H : Type} : DataW H := .agg [.lit (.int .u8 8), .lit (.int .u8 13), .lit (.int .u8 17)]
def laid_baffle_bafflelaw10_replies {H : Type} : DataW H := .agg [.lit (.int .u8 0), .lit (.int .u8 14), .lit (.int .u8 18)]
def laid_baffle_bafflelaw10_errs {H : Type} : DataW H := .agg [.agg [.lit (.int .u8 3), .lit (.int .u8 15)], .agg [.lit (.int .u8 4), .lit (.int .u8 0)], .agg [.lit (.int .u8 5), .lit (.int .u8 3)], .agg [.lit (.int .u8 11), .lit (.int .u8 1)], .agg [.lit (.int .u8 12), .lit (.int .u8 2)]]

/-- 'bafflelaw10.IcmpReads': WHATEVER THE INPUT: true; the input reads as it did. -/
def icmpReadsSpec : ChangeSpec := { name := "icmpReads", fn := fun _ => fun
  | [d1, d2, d3] => { results := [.lit (.bool true)], args := [d1, d2, d3] }
  | _ => none }
def icmpReadsRow : OpenClaim := { program := "ytjbkfhdbgphodaadoor", sum := "c311f126f28827458c3695e4cc2c82d5972ee4771417b4938dc71b9b1806b7d4", func := "baffle/bafflelaw10.IcmpReads", spec := "icmpReads", unfollowed := true, recurses := true, named := ["baffle/icmp.sorts"], apart := false, laid := [("baffle/icmp.sorts", laid_baffle_icmp_sorts)] }
def IcmpReadsSaid : Prop := icmpReadsRow.holds Tryd.pinned (OpenSpec.ofChange icmpReadsSpec)

/-- ITS FALSE NEIGHBOUR: 'it returns false'. Refute it at one input. -/
def icmpReadsWrong : ChangeSpec := { name := "icmpReads", fn := fun _ => fun
  | [d1, d2, d3] => { results := [.lit (.bool false)], args := [d1, d2, d3] }
  | _ => none }
def IcmpReadsWrongFalsely : Prop := icmpReadsRow.holds Tryd.pinned (OpenSpec.ofChange icmpReadsWrong)

/-- 'bafflelaw10.IcmpWrites': WHATEVER THE INPUT: true; the input reads as it did. -/
def icmpWritesSpec : ChangeSpec := { name := "icmpWrites", fn := fun _ => fun
  | [d1, d2] => { results := [.lit (.bool true)], args := [d1, d2] }
  | _ => none }
def icmpWritesRow : OpenClaim := { program := "ytjbkfhdbgphodaadoor", sum := "c311f126f28827458c3695e4cc2c82d5972ee4771417b4938dc71b9b1806b7d4", func := "baffle/bafflelaw10.IcmpWrites", spec := "icmpWrites", unfollowed := true, recurses := true, named := ["baffle/icmp.sorts"], apart := false, laid := [("baffle/icmp.sorts", laid_baffle_icmp_sorts)] }
def IcmpWritesSaid : Prop := icmpWritesRow.holds Tryd.pinned (OpenSpec.ofChange icmpWritesSpec)

/-- ITS FALSE NEIGHBOUR: 'it returns false'. Refute it at one input. -/
def icmpWritesWrong : ChangeSpec := { name := "icmpWrites", fn := fun _ => fun
  | [d1, d2] => { results := [.lit (.bool false)], args := [d1, d2] }
  | _ => none }
def IcmpWritesWrongFalsely : Prop := icmpWritesRow.holds Tryd.pinned (OpenSpec.ofChange icmpWritesWrong)

/-- 'bafflelaw10.IcmpTells': WHATEVER THE INPUT: true; the input reads as it did. -/
def icmpTellsSpec : ChangeSpec := { name := "icmpTells", fn := fun _ => fun
  | [d] => { results := [.lit (.bool true)], args := [d] }
  | _ => none }
def icmpTellsRow : OpenClaim := { program := "ytjbkfhdbgphodaadoor", sum := "c311f126f28827458c3695e4cc2c82d5972ee4771417b4938dc71b9b1806b7d4", func := "baffle/bafflelaw10.IcmpTells", spec := "icmpTells", unfollowed := true, recurses := true, named := ["baffle/icmp.sorts"], apart := false, laid := [("baffle/icmp.sorts", laid_baffle_icmp_sorts)] }
def IcmpTellsSaid : Prop := icmpTellsRow.holds Tryd.pinned (OpenSpec.ofChange icmpTellsSpec)

/-- ITS FALSE NEIGHBOUR: 'it returns false'. Refute it at one input. -/
def icmpTellsWrong : ChangeSpec := { name := "icmpTells", fn := fun _ => fun
  | [d] => { results := [.lit (.bool false)], args := [d] }
  | _ => none }
def IcmpTellsWrongFalsely : Prop := icmpTellsRow.holds Tryd.pinned (OpenSpec.ofChange icmpTellsWrong)

/-- 'bafflelaw10.IcmpSmall': WHATEVER THE INPUT: true; the input reads as it did. -/
def icmpSmallSpec : ChangeSpec := { name := "icmpSmall", fn := fun _ => fun
  | [] => { results := [.lit (.bool true)], args := [] }
  | _ => none }
def icmpSmallRow : OpenClaim := { program := "ytjbkfhdbgphodaadoor", sum := "c311f126f28827458c3695e4cc2c82d5972ee4771417b4938dc71b9b1806b7d4", func := "baffle/bafflelaw10.IcmpSmall", spec := "icmpSmall", unfollowed := true, recurses := true, named := ["baffle/icmp.sorts"], apart := false, laid := [("baffle/icmp.sorts", laid_baffle_icmp_sorts)] }
def IcmpSmallSaid : Prop := icmpSmallRow.holds Tryd.pinned (OpenSpec.ofChange icmpSmallSpec)

/-- ITS FALSE NEIGHBOUR: 'it returns false'. Refute it at one input. -/
def icmpSmallWrong : ChangeSpec := { name := "icmpSmall", fn := fun _ => fun
  | [] => { results := [.lit (.bool false)], args := [] }
  | _ => none }
def IcmpSmallWrongFalsely : Prop := icmpSmallRow.holds Tryd.pinned (OpenSpec.ofChange icmpSmallWrong)

/-- 'bafflelaw10.IcmpBack': WHATEVER THE INPUT: true; the input reads as it did. -/
def icmpBackSpec : ChangeSpec := { name := "icmpBack", fn := fun _ => fun
  | [d1, d2] => { results := [.lit (.bool true)], args := [d1, d2] }
  | _ => none }
def icmpBackRow : OpenClaim := { program := "ytjbkfhdbgphodaadoor", sum := "c311f126f28827458c3695e4cc2c82d5972ee4771417b4938dc71b9b1806b7d4", func := "baffle/bafflelaw10.IcmpBack", spec := "icmpBack", unfollowed := true, recurses := true, named := ["baffle/icmp.sorts", "baffle/bafflelaw10.queries", "baffle/bafflelaw10.replies", "baffle/bafflelaw10.errs"], apart := false, laid := [("baffle/icmp.sorts", laid_baffle_icmp_sorts), ("baffle/bafflelaw10.queries", laid_baffle_bafflelaw10_queries), ("baffle/bafflelaw10.replies", laid_baffle_bafflelaw10_replies), ("baffle/bafflelaw10.errs", laid_baffle_bafflelaw10_errs)] }
def IcmpBackSaid : Prop := icmpBackRow.holds Tryd.pinned (OpenSpec.ofChange icmpBackSpec)

/-- ITS FALSE NEIGHBOUR: 'it returns false'. Refute it at one input. -/
def icmpBackWrong : ChangeSpec := { name := "icmpBack", fn := fun _ => fun
  | [d1, d2] => { results := [.lit (.bool false)], args := [d1, d2] }
  | _ => none }
def IcmpBackWrongFalsely : Prop := icmpBackRow.holds Tryd.pinned (OpenSpec.ofChange icmpBackWrong)

/-- 'bafflelaw10.IcmpAgain': WHATEVER THE INPUT: true; the input reads as it did. -/
def icmpAgainSpec : ChangeSpec := { name := "icmpAgain", fn := fun _ => fun
  | [d] => { results := [.lit (.bool true)], args := [d] }
  | _ => none }
def icmpAgainRow : OpenClaim := { program := "ytjbkfhdbgphodaadoor", sum := "c311f126f28827458c3695e4cc2c82d5972ee4771417b4938dc71b9b1806b7d4", func := "baffle/bafflelaw10.IcmpAgain", spec := "icmpAgain", unfollowed := true, recurses := true, named := ["baffle/icmp.sorts"], apart := false, laid := [("baffle/icmp.sorts", laid_baffle_icmp_sorts)] }
def IcmpAgainSaid : Prop := icmpAgainRow.holds Tryd.pinned (OpenSpec.ofChange icmpAgainSpec)

/-- ITS FALSE NEIGHBOUR: 'it returns false'. Refute it at one input. -/
def icmpAgainWrong : ChangeSpec := { name := "icmpAgain", fn := fun _ => fun
  | [d] => { results := [.lit (.bool false)], args := [d] }
  | _ => none }
def IcmpAgainWrongFalsely : Prop := icmpAgainRow.holds Tryd.pinned (OpenSpec.ofChange icmpAgainWrong)

/-- 'bafflelaw10.IcmpAnswers': WHATEVER THE INPUT: true; the input reads as it did. -/
def icmpAnswersSpec : ChangeSpec := { name := "icmpAnswers", fn := fun _ => fun
  | [d1, d2] => { results := [.lit (.bool true)], args := [d1, d2] }
  | _ => none }
def icmpAnswersRow : OpenClaim := { program := "ytjbkfhdbgphodaadoor", sum := "c311f126f28827458c3695e4cc2c82d5972ee4771417b4938dc71b9b1806b7d4", func := "baffle/bafflelaw10.IcmpAnswers", spec := "icmpAnswers", unfollowed := true, recurses := true, named := ["baffle/bafflelaw10.queries", "baffle/bafflelaw10.replies", "baffle/icmp.sorts", "baffle/bafflelaw10.errs"], apart := false, laid := [("baffle/icmp.sorts", laid_baffle_icmp_sorts), ("baffle/bafflelaw10.queries", laid_baffle_bafflelaw10_queries), ("baffle/bafflelaw10.replies", laid_baffle_bafflelaw10_replies), ("baffle/bafflelaw10.errs", laid_baffle_bafflelaw10_errs)] }
def IcmpAnswersSaid : Prop := icmpAnswersRow.holds Tryd.pinned (OpenSpec.ofChange icmpAnswersSpec)

/-- ITS FALSE NEIGHBOUR: 'it returns false'. Refute it at one input. -/
def icmpAnswersWrong : ChangeSpec := { name := "icmpAnswers", fn := fun _ => fun
  | [d1, d2] => { results := [.lit (.bool false)], args := [d1, d2] }
  | _ => none }
def IcmpAnswersWrongFalsely : Prop := icmpAnswersRow.holds Tryd.pinned (OpenSpec.ofChange icmpAnswersWrong)

/-- 'bafflelaw10.IcmpWrong': WHATEVER THE INPUT: true; the input reads as it did. -/
def icmpWrongSpec : ChangeSpec := { name := "icmpWrong", fn := fun _ => fun
  | [d1, d2, d3] => { results := [.lit (.bool true)], args := [d1, d2, d3] }
  | _ => none }
def icmpWrongRow : OpenClaim := { program := "ytjbkfhdbgphodaadoor", sum := "c311f126f28827458c3695e4cc2c82d5972ee4771417b4938dc71b9b1806b7d4", func := "baffle/bafflelaw10.IcmpWrong", spec := "icmpWrong", unfollowed := true, recurses := true, named := ["baffle/icmp.sorts", "baffle/bafflelaw10.queries", "baffle/bafflelaw10.replies", "baffle/bafflelaw10.errs"], apart := false, laid := [("baffle/icmp.sorts", laid_baffle_icmp_sorts), ("baffle/bafflelaw10.queries", laid_baffle_bafflelaw10_queries), ("baffle/bafflelaw10.replies", laid_baffle_bafflelaw10_replies), ("baffle/bafflelaw10.errs", laid_baffle_bafflelaw10_errs)] }
def IcmpWrongSaid : Prop := icmpWrongRow.holds Tryd.pinned (OpenSpec.ofChange icmpWrongSpec)

/-- ITS FALSE NEIGHBOUR: 'it returns false'. Refute it at one input. -/
def icmpWrongWrong : ChangeSpec := { name := "icmpWrong", fn := fun _ => fun
  | [d1, d2, d3] => { results := [.lit (.bool false)], args := [d1, d2, d3] }
  | _ => none }
def IcmpWrongWrongFalsely : Prop := icmpWrongRow.holds Tryd.pinned (OpenSpec.ofChange icmpWrongWrong)

/-- 'bafflelaw10.IcmpQuotes': WHATEVER THE INPUT: true; the input reads as it did. -/
def icmpQuotesSpec : ChangeSpec := { name := "icmpQuotes", fn := fun _ => fun
  | [d1, d2] => { results := [.lit (.bool true)], args := [d1, d2] }
  | _ => none }
def icmpQuotesRow : OpenClaim := { program := "ytjbkfhdbgphodaadoor", sum := "c311f126f28827458c3695e4cc2c82d5972ee4771417b4938dc71b9b1806b7d4", func := "baffle/bafflelaw10.IcmpQuotes", spec := "icmpQuotes", unfollowed := true, recurses := true, named := ["baffle/icmp.sorts", "baffle/bafflelaw10.queries", "baffle/bafflelaw10.replies", "baffle/bafflelaw10.errs"], apart := false, laid := [("baffle/icmp.sorts", laid_baffle_icmp_sorts), ("baffle/bafflelaw10.queries", laid_baffle_bafflelaw10_queries), ("baffle/bafflelaw10.replies", laid_baffle_bafflelaw10_replies), ("baffle/bafflelaw10.errs", laid_baffle_bafflelaw10_errs)] }
def IcmpQuotesSaid : Prop := icmpQuotesRow.holds Tryd.pinned (OpenSpec.ofChange icmpQuotesSpec)

/-- ITS FALSE NEIGHBOUR: 'it returns false'. Refute it at one input. -/
def icmpQuotesWrong : ChangeSpec := { name := "icmpQuotes", fn := fun _ => fun
  | [d1, d2] => { results := [.lit (.bool false)], args := [d1, d2] }
  | _ => none }
def IcmpQuotesWrongFalsely : Prop := icmpQuotesRow.holds Tryd.pinned (OpenSpec.ofChange icmpQuotesWrong)

/- THE SECOND FORM. 'bulk': how many values and letters a reading holds, each counted each time it is reached (what is shared counts as often as it is met; a slice's spare places count too). A statement '..UptoSaid' is the law's where the arguments, and the package variables that the reading takes, are together of bulk at most 1048576: NARROWER than '..Said'. Prove '..Said' where nothing that the law and all that it calls make is longer than what came in: it says more and counts as full. Else prove '..UptoSaid'. A law counts once. -/
mutual
def uptoBulk {H : Type} : DataW H → Nat
  | .lit (.string bytes) => bytes.length + 1
  | .lit _ => 1
  | .nil => 1
  | .ptr d => uptoBulk d + 1
  | .slice elems spare => uptoBulkAll elems + uptoBulkAll spare + 1
  | .agg parts => uptoBulkAll parts + 1
  | .iface _ d => uptoBulk d + 1
  | .map entries => uptoBulkEntries entries + 1
  | .held _ => 1
def uptoBulkAll {H : Type} : List (DataW H) → Nat
  | [] => 0
  | d :: r => uptoBulk d + uptoBulkAll r
def uptoBulkEntries {H : Type} : List (Lit × DataW H) → Nat
  | [] => 0
  | x :: r => uptoBulkEntry x + uptoBulkEntries r
def uptoBulkEntry {H : Type} : Lit × DataW H → Nat
  | (.string bytes, d) => bytes.length + uptoBulk d + 1
  | (_, d) => uptoBulk d + 1
 end
def uptoSmall : (H : Type) → List (DataW H) → Bool := fun _ ds => decide (uptoBulkAll ds ≤ 1048576)
def OpenSpec.upto (s : _root_.Go.ChangeSpec) : _root_.Go.OpenSpec := { _root_.Go.OpenSpec.ofChange s with cond := some uptoSmall }

/-- 'bafflelaw10.IcmpReads', WHERE WHAT IT READS IS OF BULK AT MOST 1048576: true; the input reads as it did. -/
def icmpReadsUptoRow : OpenClaim := { program := "ytjbkfhdbgphodaadoor", sum := "c311f126f28827458c3695e4cc2c82d5972ee4771417b4938dc71b9b1806b7d4", func := "baffle/bafflelaw10.IcmpReads", spec := "icmpReads", unfollowed := true, recurses := true, named := ["baffle/icmp.sorts"], apart := false, laid := [("baffle/icmp.sorts", laid_baffle_icmp_sorts)], narrowed := true }
def IcmpReadsUptoSaid : Prop := icmpReadsUptoRow.holds Tryd.pinned (OpenSpec.upto icmpReadsSpec)

/-- 'bafflelaw10.IcmpWrites', WHERE WHAT IT READS IS OF BULK AT MOST 1048576: true; the input reads as it did. -/
def icmpWritesUptoRow : OpenClaim := { program := "ytjbkfhdbgphodaadoor", sum := "c311f126f28827458c3695e4cc2c82d5972ee4771417b4938dc71b9b1806b7d4", func := "baffle/bafflelaw10.IcmpWrites", spec := "icmpWrites", unfollowed := true, recurses := true, named := ["baffle/icmp.sorts"], apart := false, laid := [("baffle/icmp.sorts", laid_baffle_icmp_sorts)], narrowed := true }
def IcmpWritesUptoSaid : Prop := icmpWritesUptoRow.holds Tryd.pinned (OpenSpec.upto icmpWritesSpec)

/-- 'bafflelaw10.IcmpTells', WHERE WHAT IT READS IS OF BULK AT MOST 1048576: true; the input reads as it did. -/
def icmpTellsUptoRow : OpenClaim := { program := "ytjbkfhdbgphodaadoor", sum := "c311f126f28827458c3695e4cc2c82d5972ee4771417b4938dc71b9b1806b7d4", func := "baffle/bafflelaw10.IcmpTells", spec := "icmpTells", unfollowed := true, recurses := true, named := ["baffle/icmp.sorts"], apart := false, laid := [("baffle/icmp.sorts", laid_baffle_icmp_sorts)], narrowed := true }
def IcmpTellsUptoSaid : Prop := icmpTellsUptoRow.holds Tryd.pinned (OpenSpec.upto icmpTellsSpec)

/-- 'bafflelaw10.IcmpSmall', WHERE WHAT IT READS IS OF BULK AT MOST 1048576: true; the input reads as it did. -/
def icmpSmallUptoRow : OpenClaim := { program := "ytjbkfhdbgphodaadoor", sum := "c311f126f28827458c3695e4cc2c82d5972ee4771417b4938dc71b9b1806b7d4", func := "baffle/bafflelaw10.IcmpSmall", spec := "icmpSmall", unfollowed := true, recurses := true, named := ["baffle/icmp.sorts"], apart := false, laid := [("baffle/icmp.sorts", laid_baffle_icmp_sorts)], narrowed := true }
def IcmpSmallUptoSaid : Prop := icmpSmallUptoRow.holds Tryd.pinned (OpenSpec.upto icmpSmallSpec)

/-- 'bafflelaw10.IcmpBack', WHERE WHAT IT READS IS OF BULK AT MOST 1048576: true; the input reads as it did. -/
def icmpBackUptoRow : OpenClaim := { program := "ytjbkfhdbgphodaadoor", sum := "c311f126f28827458c3695e4cc2c82d5972ee4771417b4938dc71b9b1806b7d4", func := "baffle/bafflelaw10.IcmpBack", spec := "icmpBack", unfollowed := true, recurses := true, named := ["baffle/icmp.sorts", "baffle/bafflelaw10.queries", "baffle/bafflelaw10.replies", "baffle/bafflelaw10.errs"], apart := false, laid := [("baffle/icmp.sorts", laid_baffle_icmp_sorts), ("baffle/bafflelaw10.queries", laid_baffle_bafflelaw10_queries), ("baffle/bafflelaw10.replies", laid_baffle_bafflelaw10_replies), ("baffle/bafflelaw10.errs", laid_baffle_bafflelaw10_errs)], narrowed := true }
def IcmpBackUptoSaid : Prop := icmpBackUptoRow.holds Tryd.pinned (OpenSpec.upto icmpBackSpec)

/-- 'bafflelaw10.IcmpAgain', WHERE WHAT IT READS IS OF BULK AT MOST 1048576: true; the input reads as it did. -/
def icmpAgainUptoRow : OpenClaim := { program := "ytjbkfhdbgphodaadoor", sum := "c311f126f28827458c3695e4cc2c82d5972ee4771417b4938dc71b9b1806b7d4", func := "baffle/bafflelaw10.IcmpAgain", spec := "icmpAgain", unfollowed := true, recurses := true, named := ["baffle/icmp.sorts"], apart := false, laid := [("baffle/icmp.sorts", laid_baffle_icmp_sorts)], narrowed := true }
def IcmpAgainUptoSaid : Prop := icmpAgainUptoRow.holds Tryd.pinned (OpenSpec.upto icmpAgainSpec)

/-- 'bafflelaw10.IcmpAnswers', WHERE WHAT IT READS IS OF BULK AT MOST 1048576: true; the input reads as it did. -/
def icmpAnswersUptoRow : OpenClaim := { program := "ytjbkfhdbgphodaadoor", sum := "c311f126f28827458c3695e4cc2c82d5972ee4771417b4938dc71b9b1806b7d4", func := "baffle/bafflelaw10.IcmpAnswers", spec := "icmpAnswers", unfollowed := true, recurses := true, named := ["baffle/bafflelaw10.queries", "baffle/bafflelaw10.replies", "baffle/icmp.sorts", "baffle/bafflelaw10.errs"], apart := false, laid := [("baffle/icmp.sorts", laid_baffle_icmp_sorts), ("baffle/bafflelaw10.queries", laid_baffle_bafflelaw10_queries), ("baffle/bafflelaw10.replies", laid_baffle_bafflelaw10_replies), ("baffle/bafflelaw10.errs", laid_baffle_bafflelaw10_errs)], narrowed := true }
def IcmpAnswersUptoSaid : Prop := icmpAnswersUptoRow.holds Tryd.pinned (OpenSpec.upto icmpAnswersSpec)

/-- 'bafflelaw10.IcmpWrong', WHERE WHAT IT READS IS OF BULK AT MOST 1048576: true; the input reads as it did. -/
def icmpWrongUptoRow : OpenClaim := { program := "ytjbkfhdbgphodaadoor", sum := "c311f126f28827458c3695e4cc2c82d5972ee4771417b4938dc71b9b1806b7d4", func := "baffle/bafflelaw10.IcmpWrong", spec := "icmpWrong", unfollowed := true, recurses := true, named := ["baffle/icmp.sorts", "baffle/bafflelaw10.queries", "baffle/bafflelaw10.replies", "baffle/bafflelaw10.errs"], apart := false, laid := [("baffle/icmp.sorts", laid_baffle_icmp_sorts), ("baffle/bafflelaw10.queries", laid_baffle_bafflelaw10_queries), ("baffle/bafflelaw10.replies", laid_baffle_bafflelaw10_replies), ("baffle/bafflelaw10.errs", laid_baffle_bafflelaw10_errs)], narrowed := true }
def IcmpWrongUptoSaid : Prop := icmpWrongUptoRow.holds Tryd.pinned (OpenSpec.upto icmpWrongSpec)

/-- 'bafflelaw10.IcmpQuotes', WHERE WHAT IT READS IS OF BULK AT MOST 1048576: true; the input reads as it did. -/
def icmpQuotesUptoRow : OpenClaim := { program := "ytjbkfhdbgphodaadoor", sum := "c311f126f28827458c3695e4cc2c82d5972ee4771417b4938dc71b9b1806b7d4", func := "baffle/bafflelaw10.IcmpQuotes", spec := "icmpQuotes", unfollowed := true, recurses := true, named := ["baffle/icmp.sorts", "baffle/bafflelaw10.queries", "baffle/bafflelaw10.replies", "baffle/bafflelaw10.errs"], apart := false, laid := [("baffle/icmp.sorts", laid_baffle_icmp_sorts), ("baffle/bafflelaw10.queries", laid_baffle_bafflelaw10_queries), ("baffle/bafflelaw10.replies", laid_baffle_bafflelaw10_replies), ("baffle/bafflelaw10.errs", laid_baffle_bafflelaw10_errs)], narrowed := true }
def IcmpQuotesUptoSaid : Prop := icmpQuotesUptoRow.holds Tryd.pinned (OpenSpec.upto icmpQuotesSpec)

end Rows
end Go.Proofs.YtjbkfhdbgphodaaDoor
