/-
  No cell of these rows narrows 'for every input' (looked for: loops, veiled, ifaces, maps, wideKeys, modest, calm, conditions, laid).
  DERIVED. THE GIVEN ROWS OF THIS SEAT. 7 by the template 'for every input the law returns true; each argument reads behind the call as it read before'; 0 by the template 'total and deterministic' (their statements: YtnocbpagdoihmaaTotals.lean).
  GIVEN WITH THE SEED: the statements are not yours to turn. If you find one false, say at which input.
  Laid BY PROGRAM, IN A SANDBOX (cutbox-rows.mjs): the forced cells as the released guide's own fill.sh prints them over the translation c62a878356df013e… (all of the seat's roots in one cut). By AI agents, Wed Nov 11 2026. No macro, syntax, notation, axiom, sorry.
-/
import Derived.Test.YtnocbpagdoihmaaChecked
import GoSem.Claim
import GoSem.ClaimJoined
import GoSem.ClaimMapViews
import Derived.JoinedTies
import Derived.KernelRfl
namespace Go.Proofs.Ytnocbpagdoihmaa
/- THE CELL 'sum', in the pinned program and in every row, IS THE sha256 OF THE DUMP (.gsa) THAT YtnocbpagdoihmaaProg.lean LOADS. Nothing in Lean hashes anything: it is a label: what it is worth is what the hold of that sum in a sandbox is worth. -/
noncomputable def Try.pinned : Pinned := { name := "ytnocbpagdoihmaa", sum := "c62a878356df013e3ba556c361512688f8e4838dc8163b15b3834faf27911c85", checked := Try.checked }
namespace Rows
def none {H : Type} : Left H := { results := [], args := [] }

/-- 'bafflelaw09.UdpReads': WHATEVER THE INPUT: true; the input reads as it did. -/
def udpReadsSpec : ChangeSpec := { name := "udpReads", fn := fun _ => fun
  | [d1, d2, d3] => { results := [.lit (.bool true)], args := [d1, d2, d3] }
  | _ => none }
def udpReadsRow : OpenClaim := { program := "ytnocbpagdoihmaa", sum := "c62a878356df013e3ba556c361512688f8e4838dc8163b15b3834faf27911c85", func := "baffle/bafflelaw09.UdpReads", spec := "udpReads", unfollowed := true, recurses := true, apart := false }
def UdpReadsSaid : Prop := udpReadsRow.holds Try.pinned (OpenSpec.ofChange udpReadsSpec)

/-- ITS FALSE NEIGHBOUR: 'it returns false'. Refute it at one input. -/
def udpReadsWrong : ChangeSpec := { name := "udpReads", fn := fun _ => fun
  | [d1, d2, d3] => { results := [.lit (.bool false)], args := [d1, d2, d3] }
  | _ => none }
def UdpReadsWrongFalsely : Prop := udpReadsRow.holds Try.pinned (OpenSpec.ofChange udpReadsWrong)

/-- 'bafflelaw09.UdpWrites': WHATEVER THE INPUT: true; the input reads as it did. -/
def udpWritesSpec : ChangeSpec := { name := "udpWrites", fn := fun _ => fun
  | [d1, d2, d3, d4] => { results := [.lit (.bool true)], args := [d1, d2, d3, d4] }
  | _ => none }
def udpWritesRow : OpenClaim := { program := "ytnocbpagdoihmaa", sum := "c62a878356df013e3ba556c361512688f8e4838dc8163b15b3834faf27911c85", func := "baffle/bafflelaw09.UdpWrites", spec := "udpWrites", unfollowed := true, recurses := true, apart := false }
def UdpWritesSaid : Prop := udpWritesRow.holds Try.pinned (OpenSpec.ofChange udpWritesSpec)

/-- ITS FALSE NEIGHBOUR: 'it returns false'. Refute it at one input. -/
def udpWritesWrong : ChangeSpec := { name := "udpWrites", fn := fun _ => fun
  | [d1, d2, d3, d4] => { results := [.lit (.bool false)], args := [d1, d2, d3, d4] }
  | _ => none }
def UdpWritesWrongFalsely : Prop := udpWritesRow.holds Try.pinned (OpenSpec.ofChange udpWritesWrong)

/-- 'bafflelaw09.UdpSmall': WHATEVER THE INPUT: true; the input reads as it did. -/
def udpSmallSpec : ChangeSpec := { name := "udpSmall", fn := fun _ => fun
  | [] => { results := [.lit (.bool true)], args := [] }
  | _ => none }
def udpSmallRow : OpenClaim := { program := "ytnocbpagdoihmaa", sum := "c62a878356df013e3ba556c361512688f8e4838dc8163b15b3834faf27911c85", func := "baffle/bafflelaw09.UdpSmall", spec := "udpSmall", unfollowed := true, recurses := true, apart := false }
def UdpSmallSaid : Prop := udpSmallRow.holds Try.pinned (OpenSpec.ofChange udpSmallSpec)

/-- ITS FALSE NEIGHBOUR: 'it returns false'. Refute it at one input. -/
def udpSmallWrong : ChangeSpec := { name := "udpSmall", fn := fun _ => fun
  | [] => { results := [.lit (.bool false)], args := [] }
  | _ => none }
def UdpSmallWrongFalsely : Prop := udpSmallRow.holds Try.pinned (OpenSpec.ofChange udpSmallWrong)

/-- 'bafflelaw09.UdpBack': WHATEVER THE INPUT: true; the input reads as it did. -/
def udpBackSpec : ChangeSpec := { name := "udpBack", fn := fun _ => fun
  | [d1, d2, d3] => { results := [.lit (.bool true)], args := [d1, d2, d3] }
  | _ => none }
def udpBackRow : OpenClaim := { program := "ytnocbpagdoihmaa", sum := "c62a878356df013e3ba556c361512688f8e4838dc8163b15b3834faf27911c85", func := "baffle/bafflelaw09.UdpBack", spec := "udpBack", unfollowed := true, recurses := true, apart := false }
def UdpBackSaid : Prop := udpBackRow.holds Try.pinned (OpenSpec.ofChange udpBackSpec)

/-- ITS FALSE NEIGHBOUR: 'it returns false'. Refute it at one input. -/
def udpBackWrong : ChangeSpec := { name := "udpBack", fn := fun _ => fun
  | [d1, d2, d3] => { results := [.lit (.bool false)], args := [d1, d2, d3] }
  | _ => none }
def UdpBackWrongFalsely : Prop := udpBackRow.holds Try.pinned (OpenSpec.ofChange udpBackWrong)

/-- 'bafflelaw09.UdpAgain': WHATEVER THE INPUT: true; the input reads as it did. -/
def udpAgainSpec : ChangeSpec := { name := "udpAgain", fn := fun _ => fun
  | [d1, d2, d3] => { results := [.lit (.bool true)], args := [d1, d2, d3] }
  | _ => none }
def udpAgainRow : OpenClaim := { program := "ytnocbpagdoihmaa", sum := "c62a878356df013e3ba556c361512688f8e4838dc8163b15b3834faf27911c85", func := "baffle/bafflelaw09.UdpAgain", spec := "udpAgain", unfollowed := true, recurses := true, apart := false }
def UdpAgainSaid : Prop := udpAgainRow.holds Try.pinned (OpenSpec.ofChange udpAgainSpec)

/-- ITS FALSE NEIGHBOUR: 'it returns false'. Refute it at one input. -/
def udpAgainWrong : ChangeSpec := { name := "udpAgain", fn := fun _ => fun
  | [d1, d2, d3] => { results := [.lit (.bool false)], args := [d1, d2, d3] }
  | _ => none }
def UdpAgainWrongFalsely : Prop := udpAgainRow.holds Try.pinned (OpenSpec.ofChange udpAgainWrong)

/-- 'bafflelaw09.UdpTurned': WHATEVER THE INPUT: true; the input reads as it did. -/
def udpTurnedSpec : ChangeSpec := { name := "udpTurned", fn := fun _ => fun
  | [d1, d2] => { results := [.lit (.bool true)], args := [d1, d2] }
  | _ => none }
def udpTurnedRow : OpenClaim := { program := "ytnocbpagdoihmaa", sum := "c62a878356df013e3ba556c361512688f8e4838dc8163b15b3834faf27911c85", func := "baffle/bafflelaw09.UdpTurned", spec := "udpTurned", unfollowed := true, recurses := true, apart := false }
def UdpTurnedSaid : Prop := udpTurnedRow.holds Try.pinned (OpenSpec.ofChange udpTurnedSpec)

/-- ITS FALSE NEIGHBOUR: 'it returns false'. Refute it at one input. -/
def udpTurnedWrong : ChangeSpec := { name := "udpTurned", fn := fun _ => fun
  | [d1, d2] => { results := [.lit (.bool false)], args := [d1, d2] }
  | _ => none }
def UdpTurnedWrongFalsely : Prop := udpTurnedRow.holds Try.pinned (OpenSpec.ofChange udpTurnedWrong)

/-- 'bafflelaw09.UdpWrong': WHATEVER THE INPUT: true; the input reads as it did. -/
def udpWrongSpec : ChangeSpec := { name := "udpWrong", fn := fun _ => fun
  | [d1, d2, d3] => { results := [.lit (.bool true)], args := [d1, d2, d3] }
  | _ => none }
def udpWrongRow : OpenClaim := { program := "ytnocbpagdoihmaa", sum := "c62a878356df013e3ba556c361512688f8e4838dc8163b15b3834faf27911c85", func := "baffle/bafflelaw09.UdpWrong", spec := "udpWrong", unfollowed := true, recurses := true, apart := false }
def UdpWrongSaid : Prop := udpWrongRow.holds Try.pinned (OpenSpec.ofChange udpWrongSpec)

/-- ITS FALSE NEIGHBOUR: 'it returns false'. Refute it at one input. -/
def udpWrongWrong : ChangeSpec := { name := "udpWrong", fn := fun _ => fun
  | [d1, d2, d3] => { results := [.lit (.bool false)], args := [d1, d2, d3] }
  | _ => none }
def UdpWrongWrongFalsely : Prop := udpWrongRow.holds Try.pinned (OpenSpec.ofChange udpWrongWrong)

/- THE SECOND FORM. 'bulk': how many values and letters a reading holds, each counted each time it is reached (what is shared counts as often as it is met; a slice's spare places count too). A statement '..UptoSaid' is the law's where the arguments, and the package variables that the reading takes, are together of bulk at most 1048576: NARROWER than '..Said'. Prove '..Said' where nothing that the law and all that it calls make is longer than what came in: it says more and counts as full. Else prove '..UptoSaid'. A law counts once. -/
mutual
def uptoBulk {H : Type} : DataW H → Nat
  | .lit (.string bytes) => bytes.length + 1
  | .lit _ => 1
  | .nil => 1
  | .ptr d => uptoBulk d + 1
  | .slice elems spare => uptoBulkAll elems + uptoBulkAll spare + 1
  | .agg parts => uptoBulkAll parts + 1
  | .iface _ d => uptoBulk d + 1
  | .map entries => uptoBulkEntries entries + 1
  | .held _ => 1
def uptoBulkAll {H : Type} : List (DataW H) → Nat
  | [] => 0
  | d :: r => uptoBulk d + uptoBulkAll r
def uptoBulkEntries {H : Type} : List (Lit × DataW H) → Nat
  | [] => 0
  | x :: r => uptoBulkEntry x + uptoBulkEntries r
def uptoBulkEntry {H : Type} : Lit × DataW H → Nat
  | (.string bytes, d) => bytes.length + uptoBulk d + 1
  | (_, d) => uptoBulk d + 1
 end
def uptoSmall : (H : Type) → List (DataW H) → Bool := fun _ ds => decide (uptoBulkAll ds ≤ 1048576)
def OpenSpec.upto (s : _root_.Go.ChangeSpec) : _root_.Go.OpenSpec := { _root_.Go.OpenSpec.ofChange s with cond := some uptoSmall }

/-- 'bafflelaw09.UdpReads', WHERE WHAT IT READS IS OF BULK AT MOST 1048576: true; the input reads as it did. -/
def udpReadsUptoRow : OpenClaim := { program := "ytnocbpagdoihmaa", sum := "c62a878356df013e3ba556c361512688f8e4838dc8163b15b3834faf27911c85", func := "baffle/bafflelaw09.UdpReads", spec := "udpReads", unfollowed := true, recurses := true, apart := false, narrowed := true }
def UdpReadsUptoSaid : Prop := udpReadsUptoRow.holds Try.pinned (OpenSpec.upto udpReadsSpec)

/-- 'bafflelaw09.UdpWrites', WHERE WHAT IT READS IS OF BULK AT MOST 1048576: true; the input reads as it did. -/
def udpWritesUptoRow : OpenClaim := { program := "ytnocbpagdoihmaa", sum := "c62a878356df013e3ba556c361512688f8e4838dc8163b15b3834faf27911c85", func := "baffle/bafflelaw09.UdpWrites", spec := "udpWrites", unfollowed := true, recurses := true, apart := false, narrowed := true }
def UdpWritesUptoSaid : Prop := udpWritesUptoRow.holds Try.pinned (OpenSpec.upto udpWritesSpec)

/-- 'bafflelaw09.UdpSmall', WHERE WHAT IT READS IS OF BULK AT MOST 1048576: true; the input reads as it did. -/
def udpSmallUptoRow : OpenClaim := { program := "ytnocbpagdoihmaa", sum := "c62a878356df013e3ba556c361512688f8e4838dc8163b15b3834faf27911c85", func := "baffle/bafflelaw09.UdpSmall", spec := "udpSmall", unfollowed := true, recurses := true, apart := false, narrowed := true }
def UdpSmallUptoSaid : Prop := udpSmallUptoRow.holds Try.pinned (OpenSpec.upto udpSmallSpec)

/-- 'bafflelaw09.UdpBack', WHERE WHAT IT READS IS OF BULK AT MOST 1048576: true; the input reads as it did. -/
def udpBackUptoRow : OpenClaim := { program := "ytnocbpagdoihmaa", sum := "c62a878356df013e3ba556c361512688f8e4838dc8163b15b3834faf27911c85", func := "baffle/bafflelaw09.UdpBack", spec := "udpBack", unfollowed := true, recurses := true, apart := false, narrowed := true }
def UdpBackUptoSaid : Prop := udpBackUptoRow.holds Try.pinned (OpenSpec.upto udpBackSpec)

/-- 'bafflelaw09.UdpAgain', WHERE WHAT IT READS IS OF BULK AT MOST 1048576: true; the input reads as it did. -/
def udpAgainUptoRow : OpenClaim := { program := "ytnocbpagdoihmaa", sum := "c62a878356df013e3ba556c361512688f8e4838dc8163b15b3834faf27911c85", func := "baffle/bafflelaw09.UdpAgain", spec := "udpAgain", unfollowed := true, recurses := true, apart := false, narrowed := true }
def UdpAgainUptoSaid : Prop := udpAgainUptoRow.holds Try.pinned (OpenSpec.upto udpAgainSpec)

/-- 'bafflelaw09.UdpTurned', WHERE WHAT IT READS IS OF BULK AT MOST 1048576: true; the input reads as it did. -/
def udpTurnedUptoRow : OpenClaim := { program := "ytnocbpagdoihmaa", sum := "c62a878356df013e3ba556c361512688f8e4838dc8163b15b3834faf27911c85", func := "baffle/bafflelaw09.UdpTurned", spec := "udpTurned", unfollowed := true, recurses := true, apart := false, narrowed := true }
def UdpTurnedUptoSaid : Prop := udpTurnedUptoRow.holds Try.pinned (OpenSpec.upto udpTurnedSpec)

/-- 'bafflelaw09.UdpWrong', WHERE WHAT IT READS IS OF BULK AT MOST 1048576: true; the input reads as it did. -/
def udpWrongUptoRow : OpenClaim := { program := "ytnocbpagdoihmaa", sum := "c62a878356df013e3ba556c361512688f8e4838dc8163b15b3834faf27911c85", func := "baffle/bafflelaw09.UdpWrong", spec := "udpWrong", unfollowed := true, recurses := true, apart := false, narrowed := true }
def UdpWrongUptoSaid : Prop := udpWrongUptoRow.holds Try.pinned (OpenSpec.upto udpWrongSpec)

end Rows
end Go.Proofs.Ytnocbpagdoihmaa
