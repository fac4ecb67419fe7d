/-
  No cell of these rows narrows 'for every input' (looked for: loops, veiled, ifaces, maps, wideKeys, modest, calm, conditions, laid).
  DERIVED. THE GIVEN ROWS OF THIS SEAT. 9 by the template 'for every input the law returns true; each argument reads behind the call as it read before'; 0 by the template 'total and deterministic' (their statements: YthdpcblmmjocmaaTotals.lean).
  GIVEN WITH THE SEED: the statements are not yours to turn. If you find one false, say at which input.
  Laid BY PROGRAM, IN A SANDBOX (cutbox-rows.mjs): the forced cells as the released guide's own fill.sh prints them over the translation 832a255d78b342b3… (all of the seat's roots in one cut). By AI agents, Wed Nov 11 2026. No macro, syntax, notation, axiom, sorry.
-/
import Derived.Test.YthdpcblmmjocmaaChecked
import GoSem.Claim
import GoSem.ClaimJoined
import GoSem.ClaimMapViews
import Derived.JoinedTies
import Derived.KernelRfl
namespace Go.Proofs.Ythdpcblmmjocmaa
/- THE CELL 'sum', in the pinned program and in every row, IS THE sha256 OF THE DUMP (.gsa) THAT YthdpcblmmjocmaaProg.lean LOADS. Nothing in Lean hashes anything: it is a label: what it is worth is what the hold of that sum in a sandbox is worth. -/
noncomputable def Try.pinned : Pinned := { name := "ythdpcblmmjocmaa", sum := "832a255d78b342b30536736a721b92a82d27eabc2761330e87806f3569574e8f", checked := Try.checked }
namespace Rows
def none {H : Type} : Left H := { results := [], args := [] }

/-- 'bafflelaw08.TcpReads': WHATEVER THE INPUT: true; the input reads as it did. -/
def tcpReadsSpec : ChangeSpec := { name := "tcpReads", fn := fun _ => fun
  | [d1, d2, d3, d4, d5] => { results := [.lit (.bool true)], args := [d1, d2, d3, d4, d5] }
  | _ => none }
def tcpReadsRow : OpenClaim := { program := "ythdpcblmmjocmaa", sum := "832a255d78b342b30536736a721b92a82d27eabc2761330e87806f3569574e8f", func := "baffle/bafflelaw08.TcpReads", spec := "tcpReads", unfollowed := true, recurses := true, apart := false }
def TcpReadsSaid : Prop := tcpReadsRow.holds Try.pinned (OpenSpec.ofChange tcpReadsSpec)

/-- ITS FALSE NEIGHBOUR: 'it returns false'. Refute it at one input. -/
def tcpReadsWrong : ChangeSpec := { name := "tcpReads", fn := fun _ => fun
  | [d1, d2, d3, d4, d5] => { results := [.lit (.bool false)], args := [d1, d2, d3, d4, d5] }
  | _ => none }
def TcpReadsWrongFalsely : Prop := tcpReadsRow.holds Try.pinned (OpenSpec.ofChange tcpReadsWrong)

/-- 'bafflelaw08.TcpWrites': WHATEVER THE INPUT: true; the input reads as it did. -/
def tcpWritesSpec : ChangeSpec := { name := "tcpWrites", fn := fun _ => fun
  | [d1, d2, d3, d4] => { results := [.lit (.bool true)], args := [d1, d2, d3, d4] }
  | _ => none }
def tcpWritesRow : OpenClaim := { program := "ythdpcblmmjocmaa", sum := "832a255d78b342b30536736a721b92a82d27eabc2761330e87806f3569574e8f", func := "baffle/bafflelaw08.TcpWrites", spec := "tcpWrites", unfollowed := true, recurses := true, apart := false }
def TcpWritesSaid : Prop := tcpWritesRow.holds Try.pinned (OpenSpec.ofChange tcpWritesSpec)

/-- ITS FALSE NEIGHBOUR: 'it returns false'. Refute it at one input. -/
def tcpWritesWrong : ChangeSpec := { name := "tcpWrites", fn := fun _ => fun
  | [d1, d2, d3, d4] => { results := [.lit (.bool false)], args := [d1, d2, d3, d4] }
  | _ => none }
def TcpWritesWrongFalsely : Prop := tcpWritesRow.holds Try.pinned (OpenSpec.ofChange tcpWritesWrong)

/-- 'bafflelaw08.TcpOptions': WHATEVER THE INPUT: true; the input reads as it did. -/
def tcpOptionsSpec : ChangeSpec := { name := "tcpOptions", fn := fun _ => fun
  | [d1, d2] => { results := [.lit (.bool true)], args := [d1, d2] }
  | _ => none }
def tcpOptionsRow : OpenClaim := { program := "ythdpcblmmjocmaa", sum := "832a255d78b342b30536736a721b92a82d27eabc2761330e87806f3569574e8f", func := "baffle/bafflelaw08.TcpOptions", spec := "tcpOptions", unfollowed := true, recurses := true, apart := false }
def TcpOptionsSaid : Prop := tcpOptionsRow.holds Try.pinned (OpenSpec.ofChange tcpOptionsSpec)

/-- ITS FALSE NEIGHBOUR: 'it returns false'. Refute it at one input. -/
def tcpOptionsWrong : ChangeSpec := { name := "tcpOptions", fn := fun _ => fun
  | [d1, d2] => { results := [.lit (.bool false)], args := [d1, d2] }
  | _ => none }
def TcpOptionsWrongFalsely : Prop := tcpOptionsRow.holds Try.pinned (OpenSpec.ofChange tcpOptionsWrong)

/-- 'bafflelaw08.TcpSmall': WHATEVER THE INPUT: true; the input reads as it did. -/
def tcpSmallSpec : ChangeSpec := { name := "tcpSmall", fn := fun _ => fun
  | [] => { results := [.lit (.bool true)], args := [] }
  | _ => none }
def tcpSmallRow : OpenClaim := { program := "ythdpcblmmjocmaa", sum := "832a255d78b342b30536736a721b92a82d27eabc2761330e87806f3569574e8f", func := "baffle/bafflelaw08.TcpSmall", spec := "tcpSmall", unfollowed := true, recurses := true, apart := false }
def TcpSmallSaid : Prop := tcpSmallRow.holds Try.pinned (OpenSpec.ofChange tcpSmallSpec)

/-- ITS FALSE NEIGHBOUR: 'it returns false'. Refute it at one input. -/
def tcpSmallWrong : ChangeSpec := { name := "tcpSmall", fn := fun _ => fun
  | [] => { results := [.lit (.bool false)], args := [] }
  | _ => none }
def TcpSmallWrongFalsely : Prop := tcpSmallRow.holds Try.pinned (OpenSpec.ofChange tcpSmallWrong)

/-- 'bafflelaw08.TcpBack': WHATEVER THE INPUT: true; the input reads as it did. -/
def tcpBackSpec : ChangeSpec := { name := "tcpBack", fn := fun _ => fun
  | [d1, d2] => { results := [.lit (.bool true)], args := [d1, d2] }
  | _ => none }
def tcpBackRow : OpenClaim := { program := "ythdpcblmmjocmaa", sum := "832a255d78b342b30536736a721b92a82d27eabc2761330e87806f3569574e8f", func := "baffle/bafflelaw08.TcpBack", spec := "tcpBack", unfollowed := true, recurses := true, apart := false }
def TcpBackSaid : Prop := tcpBackRow.holds Try.pinned (OpenSpec.ofChange tcpBackSpec)

/-- ITS FALSE NEIGHBOUR: 'it returns false'. Refute it at one input. -/
def tcpBackWrong : ChangeSpec := { name := "tcpBack", fn := fun _ => fun
  | [d1, d2] => { results := [.lit (.bool false)], args := [d1, d2] }
  | _ => none }
def TcpBackWrongFalsely : Prop := tcpBackRow.holds Try.pinned (OpenSpec.ofChange tcpBackWrong)

/-- 'bafflelaw08.TcpAgain': WHATEVER THE INPUT: true; the input reads as it did. -/
def tcpAgainSpec : ChangeSpec := { name := "tcpAgain", fn := fun _ => fun
  | [d1, d2, d3] => { results := [.lit (.bool true)], args := [d1, d2, d3] }
  | _ => none }
def tcpAgainRow : OpenClaim := { program := "ythdpcblmmjocmaa", sum := "832a255d78b342b30536736a721b92a82d27eabc2761330e87806f3569574e8f", func := "baffle/bafflelaw08.TcpAgain", spec := "tcpAgain", unfollowed := true, recurses := true, apart := false }
def TcpAgainSaid : Prop := tcpAgainRow.holds Try.pinned (OpenSpec.ofChange tcpAgainSpec)

/-- ITS FALSE NEIGHBOUR: 'it returns false'. Refute it at one input. -/
def tcpAgainWrong : ChangeSpec := { name := "tcpAgain", fn := fun _ => fun
  | [d1, d2, d3] => { results := [.lit (.bool false)], args := [d1, d2, d3] }
  | _ => none }
def TcpAgainWrongFalsely : Prop := tcpAgainRow.holds Try.pinned (OpenSpec.ofChange tcpAgainWrong)

/-- 'bafflelaw08.TcpKnowns': WHATEVER THE INPUT: true; the input reads as it did. -/
def tcpKnownsSpec : ChangeSpec := { name := "tcpKnowns", fn := fun _ => fun
  | [d] => { results := [.lit (.bool true)], args := [d] }
  | _ => none }
def tcpKnownsRow : OpenClaim := { program := "ythdpcblmmjocmaa", sum := "832a255d78b342b30536736a721b92a82d27eabc2761330e87806f3569574e8f", func := "baffle/bafflelaw08.TcpKnowns", spec := "tcpKnowns", unfollowed := true, recurses := true, apart := false }
def TcpKnownsSaid : Prop := tcpKnownsRow.holds Try.pinned (OpenSpec.ofChange tcpKnownsSpec)

/-- ITS FALSE NEIGHBOUR: 'it returns false'. Refute it at one input. -/
def tcpKnownsWrong : ChangeSpec := { name := "tcpKnowns", fn := fun _ => fun
  | [d] => { results := [.lit (.bool false)], args := [d] }
  | _ => none }
def TcpKnownsWrongFalsely : Prop := tcpKnownsRow.holds Try.pinned (OpenSpec.ofChange tcpKnownsWrong)

/-- 'bafflelaw08.TcpTwice': WHATEVER THE INPUT: true; the input reads as it did. -/
def tcpTwiceSpec : ChangeSpec := { name := "tcpTwice", fn := fun _ => fun
  | [d1, d2] => { results := [.lit (.bool true)], args := [d1, d2] }
  | _ => none }
def tcpTwiceRow : OpenClaim := { program := "ythdpcblmmjocmaa", sum := "832a255d78b342b30536736a721b92a82d27eabc2761330e87806f3569574e8f", func := "baffle/bafflelaw08.TcpTwice", spec := "tcpTwice", unfollowed := true, recurses := true, apart := false }
def TcpTwiceSaid : Prop := tcpTwiceRow.holds Try.pinned (OpenSpec.ofChange tcpTwiceSpec)

/-- ITS FALSE NEIGHBOUR: 'it returns false'. Refute it at one input. -/
def tcpTwiceWrong : ChangeSpec := { name := "tcpTwice", fn := fun _ => fun
  | [d1, d2] => { results := [.lit (.bool false)], args := [d1, d2] }
  | _ => none }
def TcpTwiceWrongFalsely : Prop := tcpTwiceRow.holds Try.pinned (OpenSpec.ofChange tcpTwiceWrong)

/-- 'bafflelaw08.TcpFlags': WHATEVER THE INPUT: true; the input reads as it did. -/
def tcpFlagsSpec : ChangeSpec := { name := "tcpFlags", fn := fun _ => fun
  | [d1, d2, d3] => { results := [.lit (.bool true)], args := [d1, d2, d3] }
  | _ => none }
def tcpFlagsRow : OpenClaim := { program := "ythdpcblmmjocmaa", sum := "832a255d78b342b30536736a721b92a82d27eabc2761330e87806f3569574e8f", func := "baffle/bafflelaw08.TcpFlags", spec := "tcpFlags", unfollowed := true, recurses := true, apart := false }
def TcpFlagsSaid : Prop := tcpFlagsRow.holds Try.pinned (OpenSpec.ofChange tcpFlagsSpec)

/-- ITS FALSE NEIGHBOUR: 'it returns false'. Refute it at one input. -/
def tcpFlagsWrong : ChangeSpec := { name := "tcpFlags", fn := fun _ => fun
  | [d1, d2, d3] => { results := [.lit (.bool false)], args := [d1, d2, d3] }
  | _ => none }
def TcpFlagsWrongFalsely : Prop := tcpFlagsRow.holds Try.pinned (OpenSpec.ofChange tcpFlagsWrong)

/- THE SECOND FORM. 'bulk': how many values and letters a reading holds, each counted each time it is reached (what is shared counts as often as it is met; a slice's spare places count too). A statement '..UptoSaid' is the law's where the arguments, and the package variables that the reading takes, are together of bulk at most 1048576: NARROWER than '..Said'. Prove '..Said' where nothing that the law and all that it calls make is longer than what came in: it says more and counts as full. Else prove '..UptoSaid'. A law counts once. -/
mutual
def uptoBulk {H : Type} : DataW H → Nat
  | .lit (.string bytes) => bytes.length + 1
  | .lit _ => 1
  | .nil => 1
  | .ptr d => uptoBulk d + 1
  | .slice elems spare => uptoBulkAll elems + uptoBulkAll spare + 1
  | .agg parts => uptoBulkAll parts + 1
  | .iface _ d => uptoBulk d + 1
  | .map entries => uptoBulkEntries entries + 1
  | .held _ => 1
def uptoBulkAll {H : Type} : List (DataW H) → Nat
  | [] => 0
  | d :: r => uptoBulk d + uptoBulkAll r
def uptoBulkEntries {H : Type} : List (Lit × DataW H) → Nat
  | [] => 0
  | x :: r => uptoBulkEntry x + uptoBulkEntries r
def uptoBulkEntry {H : Type} : Lit × DataW H → Nat
  | (.string bytes, d) => bytes.length + uptoBulk d + 1
  | (_, d) => uptoBulk d + 1
 end
def uptoSmall : (H : Type) → List (DataW H) → Bool := fun _ ds => decide (uptoBulkAll ds ≤ 1048576)
def OpenSpec.upto (s : _root_.Go.ChangeSpec) : _root_.Go.OpenSpec := { _root_.Go.OpenSpec.ofChange s with cond := some uptoSmall }

/-- 'bafflelaw08.TcpReads', WHERE WHAT IT READS IS OF BULK AT MOST 1048576: true; the input reads as it did. -/
def tcpReadsUptoRow : OpenClaim := { program := "ythdpcblmmjocmaa", sum := "832a255d78b342b30536736a721b92a82d27eabc2761330e87806f3569574e8f", func := "baffle/bafflelaw08.TcpReads", spec := "tcpReads", unfollowed := true, recurses := true, apart := false, narrowed := true }
def TcpReadsUptoSaid : Prop := tcpReadsUptoRow.holds Try.pinned (OpenSpec.upto tcpReadsSpec)

/-- 'bafflelaw08.TcpWrites', WHERE WHAT IT READS IS OF BULK AT MOST 1048576: true; the input reads as it did. -/
def tcpWritesUptoRow : OpenClaim := { program := "ythdpcblmmjocmaa", sum := "832a255d78b342b30536736a721b92a82d27eabc2761330e87806f3569574e8f", func := "baffle/bafflelaw08.TcpWrites", spec := "tcpWrites", unfollowed := true, recurses := true, apart := false, narrowed := true }
def TcpWritesUptoSaid : Prop := tcpWritesUptoRow.holds Try.pinned (OpenSpec.upto tcpWritesSpec)

/-- 'bafflelaw08.TcpOptions', WHERE WHAT IT READS IS OF BULK AT MOST 1048576: true; the input reads as it did. -/
def tcpOptionsUptoRow : OpenClaim := { program := "ythdpcblmmjocmaa", sum := "832a255d78b342b30536736a721b92a82d27eabc2761330e87806f3569574e8f", func := "baffle/bafflelaw08.TcpOptions", spec := "tcpOptions", unfollowed := true, recurses := true, apart := false, narrowed := true }
def TcpOptionsUptoSaid : Prop := tcpOptionsUptoRow.holds Try.pinned (OpenSpec.upto tcpOptionsSpec)

/-- 'bafflelaw08.TcpSmall', WHERE WHAT IT READS IS OF BULK AT MOST 1048576: true; the input reads as it did. -/
def tcpSmallUptoRow : OpenClaim := { program := "ythdpcblmmjocmaa", sum := "832a255d78b342b30536736a721b92a82d27eabc2761330e87806f3569574e8f", func := "baffle/bafflelaw08.TcpSmall", spec := "tcpSmall", unfollowed := true, recurses := true, apart := false, narrowed := true }
def TcpSmallUptoSaid : Prop := tcpSmallUptoRow.holds Try.pinned (OpenSpec.upto tcpSmallSpec)

/-- 'bafflelaw08.TcpBack', WHERE WHAT IT READS IS OF BULK AT MOST 1048576: true; the input reads as it did. -/
def tcpBackUptoRow : OpenClaim := { program := "ythdpcblmmjocmaa", sum := "832a255d78b342b30536736a721b92a82d27eabc2761330e87806f3569574e8f", func := "baffle/bafflelaw08.TcpBack", spec := "tcpBack", unfollowed := true, recurses := true, apart := false, narrowed := true }
def TcpBackUptoSaid : Prop := tcpBackUptoRow.holds Try.pinned (OpenSpec.upto tcpBackSpec)

/-- 'bafflelaw08.TcpAgain', WHERE WHAT IT READS IS OF BULK AT MOST 1048576: true; the input reads as it did. -/
def tcpAgainUptoRow : OpenClaim := { program := "ythdpcblmmjocmaa", sum := "832a255d78b342b30536736a721b92a82d27eabc2761330e87806f3569574e8f", func := "baffle/bafflelaw08.TcpAgain", spec := "tcpAgain", unfollowed := true, recurses := true, apart := false, narrowed := true }
def TcpAgainUptoSaid : Prop := tcpAgainUptoRow.holds Try.pinned (OpenSpec.upto tcpAgainSpec)

/-- 'bafflelaw08.TcpKnowns', WHERE WHAT IT READS IS OF BULK AT MOST 1048576: true; the input reads as it did. -/
def tcpKnownsUptoRow : OpenClaim := { program := "ythdpcblmmjocmaa", sum := "832a255d78b342b30536736a721b92a82d27eabc2761330e87806f3569574e8f", func := "baffle/bafflelaw08.TcpKnowns", spec := "tcpKnowns", unfollowed := true, recurses := true, apart := false, narrowed := true }
def TcpKnownsUptoSaid : Prop := tcpKnownsUptoRow.holds Try.pinned (OpenSpec.upto tcpKnownsSpec)

/-- 'bafflelaw08.TcpTwice', WHERE WHAT IT READS IS OF BULK AT MOST 1048576: true; the input reads as it did. -/
def tcpTwiceUptoRow : OpenClaim := { program := "ythdpcblmmjocmaa", sum := "832a255d78b342b30536736a721b92a82d27eabc2761330e87806f3569574e8f", func := "baffle/bafflelaw08.TcpTwice", spec := "tcpTwice", unfollowed := true, recurses := true, apart := false, narrowed := true }
def TcpTwiceUptoSaid : Prop := tcpTwiceUptoRow.holds Try.pinned (OpenSpec.upto tcpTwiceSpec)

/-- 'bafflelaw08.TcpFlags', WHERE WHAT IT READS IS OF BULK AT MOST 1048576: true; the input reads as it did. -/
def tcpFlagsUptoRow : OpenClaim := { program := "ythdpcblmmjocmaa", sum := "832a255d78b342b30536736a721b92a82d27eabc2761330e87806f3569574e8f", func := "baffle/bafflelaw08.TcpFlags", spec := "tcpFlags", unfollowed := true, recurses := true, apart := false, narrowed := true }
def TcpFlagsUptoSaid : Prop := tcpFlagsUptoRow.holds Try.pinned (OpenSpec.upto tcpFlagsSpec)

end Rows
end Go.Proofs.Ythdpcblmmjocmaa
