/-
  No cell of these rows narrows 'for every input' (looked for: loops, veiled, ifaces, maps, wideKeys, modest, calm, conditions, laid).
  DERIVED. THE GIVEN ROWS OF THIS SEAT. 8 by the template 'for every input the law returns true; each argument reads behind the call as it read before'; 0 by the template 'total and deterministic' (their statements: YtljbfnabnkkfeaaTotals.lean).
  GIVEN WITH THE SEED: the statements are not yours to turn. If you find one false, say at which input.
  Laid BY PROGRAM, IN A SANDBOX (cutbox-rows.mjs): the forced cells as the released guide's own fill.sh prints them over the translation 1c082314ffd5b927… (all of the seat's roots in one cut). By AI agents, Wed Nov 11 2026. No macro, syntax, notation, axiom, sorry.
-/
import Derived.Test.YtljbfnabnkkfeaaChecked
import GoSem.Claim
import GoSem.ClaimJoined
import GoSem.ClaimMapViews
import Derived.JoinedTies
import Derived.KernelRfl
namespace Go.Proofs.Ytljbfnabnkkfeaa
/- THE CELL 'sum', in the pinned program and in every row, IS THE sha256 OF THE DUMP (.gsa) THAT YtljbfnabnkkfeaaProg.lean LOADS. Nothing in Lean hashes anything: it is a label: what it is worth is what the hold of that sum in a sandbox is worth. -/
noncomputable def Try.pinned : Pinned := { name := "ytljbfnabnkkfeaa", sum := "1c082314ffd5b9275480661e4dc8090100e0b5c1c46ceaf7bedcffceead2363d", checked := Try.checked }
namespace Rows
def none {H : Type} : Left H := { results := [], args := [] }

/-- 'bafflelaw07.FragWrong': WHATEVER THE INPUT: true; the input reads as it did. -/
def fragWrongSpec : ChangeSpec := { name := "fragWrong", fn := fun _ => fun
  | [d1, d2, d3] => { results := [.lit (.bool true)], args := [d1, d2, d3] }
  | _ => none }
def fragWrongRow : OpenClaim := { program := "ytljbfnabnkkfeaa", sum := "1c082314ffd5b9275480661e4dc8090100e0b5c1c46ceaf7bedcffceead2363d", func := "baffle/bafflelaw07.FragWrong", spec := "fragWrong", unfollowed := true, recurses := true, plainKeys := false, apart := false }
def FragWrongSaid : Prop := fragWrongRow.holds Try.pinned (OpenSpec.ofChange fragWrongSpec)

/-- ITS FALSE NEIGHBOUR: 'it returns false'. Refute it at one input. -/
def fragWrongWrong : ChangeSpec := { name := "fragWrong", fn := fun _ => fun
  | [d1, d2, d3] => { results := [.lit (.bool false)], args := [d1, d2, d3] }
  | _ => none }
def FragWrongWrongFalsely : Prop := fragWrongRow.holds Try.pinned (OpenSpec.ofChange fragWrongWrong)

/-- 'bafflelaw07.FragSplits': WHATEVER THE INPUT: true; the input reads as it did. -/
def fragSplitsSpec : ChangeSpec := { name := "fragSplits", fn := fun _ => fun
  | [d1, d2] => { results := [.lit (.bool true)], args := [d1, d2] }
  | _ => none }
def fragSplitsRow : OpenClaim := { program := "ytljbfnabnkkfeaa", sum := "1c082314ffd5b9275480661e4dc8090100e0b5c1c46ceaf7bedcffceead2363d", func := "baffle/bafflelaw07.FragSplits", spec := "fragSplits", unfollowed := true, recurses := true, plainKeys := false, apart := false }
def FragSplitsSaid : Prop := fragSplitsRow.holds Try.pinned (OpenSpec.ofChange fragSplitsSpec)

/-- ITS FALSE NEIGHBOUR: 'it returns false'. Refute it at one input. -/
def fragSplitsWrong : ChangeSpec := { name := "fragSplits", fn := fun _ => fun
  | [d1, d2] => { results := [.lit (.bool false)], args := [d1, d2] }
  | _ => none }
def FragSplitsWrongFalsely : Prop := fragSplitsRow.holds Try.pinned (OpenSpec.ofChange fragSplitsWrong)

/-- 'bafflelaw07.FragBack': WHATEVER THE INPUT: true; the input reads as it did. -/
def fragBackSpec : ChangeSpec := { name := "fragBack", fn := fun _ => fun
  | [d1, d2, d3] => { results := [.lit (.bool true)], args := [d1, d2, d3] }
  | _ => none }
def fragBackRow : OpenClaim := { program := "ytljbfnabnkkfeaa", sum := "1c082314ffd5b9275480661e4dc8090100e0b5c1c46ceaf7bedcffceead2363d", func := "baffle/bafflelaw07.FragBack", spec := "fragBack", unfollowed := true, recurses := true, plainKeys := false, apart := false }
def FragBackSaid : Prop := fragBackRow.holds Try.pinned (OpenSpec.ofChange fragBackSpec)

/-- ITS FALSE NEIGHBOUR: 'it returns false'. Refute it at one input. -/
def fragBackWrong : ChangeSpec := { name := "fragBack", fn := fun _ => fun
  | [d1, d2, d3] => { results := [.lit (.bool false)], args := [d1, d2, d3] }
  | _ => none }
def FragBackWrongFalsely : Prop := fragBackRow.holds Try.pinned (OpenSpec.ofChange fragBackWrong)

/-- 'bafflelaw07.FragMissing': WHATEVER THE INPUT: true; the input reads as it did. -/
def fragMissingSpec : ChangeSpec := { name := "fragMissing", fn := fun _ => fun
  | [d1, d2, d3, d4, d5] => { results := [.lit (.bool true)], args := [d1, d2, d3, d4, d5] }
  | _ => none }
def fragMissingRow : OpenClaim := { program := "ytljbfnabnkkfeaa", sum := "1c082314ffd5b9275480661e4dc8090100e0b5c1c46ceaf7bedcffceead2363d", func := "baffle/bafflelaw07.FragMissing", spec := "fragMissing", unfollowed := true, recurses := true, plainKeys := false, apart := false }
def FragMissingSaid : Prop := fragMissingRow.holds Try.pinned (OpenSpec.ofChange fragMissingSpec)

/-- ITS FALSE NEIGHBOUR: 'it returns false'. Refute it at one input. -/
def fragMissingWrong : ChangeSpec := { name := "fragMissing", fn := fun _ => fun
  | [d1, d2, d3, d4, d5] => { results := [.lit (.bool false)], args := [d1, d2, d3, d4, d5] }
  | _ => none }
def FragMissingWrongFalsely : Prop := fragMissingRow.holds Try.pinned (OpenSpec.ofChange fragMissingWrong)

/-- 'bafflelaw07.FragDead': WHATEVER THE INPUT: true; the input reads as it did. -/
def fragDeadSpec : ChangeSpec := { name := "fragDead", fn := fun _ => fun
  | [d1, d2, d3, d4] => { results := [.lit (.bool true)], args := [d1, d2, d3, d4] }
  | _ => none }
def fragDeadRow : OpenClaim := { program := "ytljbfnabnkkfeaa", sum := "1c082314ffd5b9275480661e4dc8090100e0b5c1c46ceaf7bedcffceead2363d", func := "baffle/bafflelaw07.FragDead", spec := "fragDead", unfollowed := true, recurses := true, plainKeys := false, apart := false }
def FragDeadSaid : Prop := fragDeadRow.holds Try.pinned (OpenSpec.ofChange fragDeadSpec)

/-- ITS FALSE NEIGHBOUR: 'it returns false'. Refute it at one input. -/
def fragDeadWrong : ChangeSpec := { name := "fragDead", fn := fun _ => fun
  | [d1, d2, d3, d4] => { results := [.lit (.bool false)], args := [d1, d2, d3, d4] }
  | _ => none }
def FragDeadWrongFalsely : Prop := fragDeadRow.holds Try.pinned (OpenSpec.ofChange fragDeadWrong)

/-- 'bafflelaw07.FragMixed': WHATEVER THE INPUT: true; the input reads as it did. -/
def fragMixedSpec : ChangeSpec := { name := "fragMixed", fn := fun _ => fun
  | [d1, d2, d3, d4] => { results := [.lit (.bool true)], args := [d1, d2, d3, d4] }
  | _ => none }
def fragMixedRow : OpenClaim := { program := "ytljbfnabnkkfeaa", sum := "1c082314ffd5b9275480661e4dc8090100e0b5c1c46ceaf7bedcffceead2363d", func := "baffle/bafflelaw07.FragMixed", spec := "fragMixed", unfollowed := true, recurses := true, plainKeys := false, apart := false }
def FragMixedSaid : Prop := fragMixedRow.holds Try.pinned (OpenSpec.ofChange fragMixedSpec)

/-- ITS FALSE NEIGHBOUR: 'it returns false'. Refute it at one input. -/
def fragMixedWrong : ChangeSpec := { name := "fragMixed", fn := fun _ => fun
  | [d1, d2, d3, d4] => { results := [.lit (.bool false)], args := [d1, d2, d3, d4] }
  | _ => none }
def FragMixedWrongFalsely : Prop := fragMixedRow.holds Try.pinned (OpenSpec.ofChange fragMixedWrong)

/-- 'bafflelaw07.FragAgain': WHATEVER THE INPUT: true; the input reads as it did. -/
def fragAgainSpec : ChangeSpec := { name := "fragAgain", fn := fun _ => fun
  | [d1, d2, d3] => { results := [.lit (.bool true)], args := [d1, d2, d3] }
  | _ => none }
def fragAgainRow : OpenClaim := { program := "ytljbfnabnkkfeaa", sum := "1c082314ffd5b9275480661e4dc8090100e0b5c1c46ceaf7bedcffceead2363d", func := "baffle/bafflelaw07.FragAgain", spec := "fragAgain", unfollowed := true, recurses := true, plainKeys := false, apart := false }
def FragAgainSaid : Prop := fragAgainRow.holds Try.pinned (OpenSpec.ofChange fragAgainSpec)

/-- ITS FALSE NEIGHBOUR: 'it returns false'. Refute it at one input. -/
def fragAgainWrong : ChangeSpec := { name := "fragAgain", fn := fun _ => fun
  | [d1, d2, d3] => { results := [.lit (.bool false)], args := [d1, d2, d3] }
  | _ => none }
def FragAgainWrongFalsely : Prop := fragAgainRow.holds Try.pinned (OpenSpec.ofChange fragAgainWrong)

/-- 'bafflelaw07.FragTells': WHATEVER THE INPUT: true; the input reads as it did. -/
def fragTellsSpec : ChangeSpec := { name := "fragTells", fn := fun _ => fun
  | [d1, d2, d3] => { results := [.lit (.bool true)], args := [d1, d2, d3] }
  | _ => none }
def fragTellsRow : OpenClaim := { program := "ytljbfnabnkkfeaa", sum := "1c082314ffd5b9275480661e4dc8090100e0b5c1c46ceaf7bedcffceead2363d", func := "baffle/bafflelaw07.FragTells", spec := "fragTells", unfollowed := true, recurses := true, plainKeys := false, apart := false }
def FragTellsSaid : Prop := fragTellsRow.holds Try.pinned (OpenSpec.ofChange fragTellsSpec)

/-- ITS FALSE NEIGHBOUR: 'it returns false'. Refute it at one input. -/
def fragTellsWrong : ChangeSpec := { name := "fragTells", fn := fun _ => fun
  | [d1, d2, d3] => { results := [.lit (.bool false)], args := [d1, d2, d3] }
  | _ => none }
def FragTellsWrongFalsely : Prop := fragTellsRow.holds Try.pinned (OpenSpec.ofChange fragTellsWrong)

/- THE SECOND FORM. 'bulk': how many values and letters a reading holds, each counted each time it is reached (what is shared counts as often as it is met; a slice's spare places count too). A statement '..UptoSaid' is the law's where the arguments, and the package variables that the reading takes, are together of bulk at most 1048576: NARROWER than '..Said'. Prove '..Said' where nothing that the law and all that it calls make is longer than what came in: it says more and counts as full. Else prove '..UptoSaid'. A law counts once. -/
mutual
def uptoBulk {H : Type} : DataW H → Nat
  | .lit (.string bytes) => bytes.length + 1
  | .lit _ => 1
  | .nil => 1
  | .ptr d => uptoBulk d + 1
  | .slice elems spare => uptoBulkAll elems + uptoBulkAll spare + 1
  | .agg parts => uptoBulkAll parts + 1
  | .iface _ d => uptoBulk d + 1
  | .map entries => uptoBulkEntries entries + 1
  | .held _ => 1
def uptoBulkAll {H : Type} : List (DataW H) → Nat
  | [] => 0
  | d :: r => uptoBulk d + uptoBulkAll r
def uptoBulkEntries {H : Type} : List (Lit × DataW H) → Nat
  | [] => 0
  | x :: r => uptoBulkEntry x + uptoBulkEntries r
def uptoBulkEntry {H : Type} : Lit × DataW H → Nat
  | (.string bytes, d) => bytes.length + uptoBulk d + 1
  | (_, d) => uptoBulk d + 1
 end
def uptoSmall : (H : Type) → List (DataW H) → Bool := fun _ ds => decide (uptoBulkAll ds ≤ 1048576)
def OpenSpec.upto (s : _root_.Go.ChangeSpec) : _root_.Go.OpenSpec := { _root_.Go.OpenSpec.ofChange s with cond := some uptoSmall }

/-- 'bafflelaw07.FragWrong', WHERE WHAT IT READS IS OF BULK AT MOST 1048576: true; the input reads as it did. -/
def fragWrongUptoRow : OpenClaim := { program := "ytljbfnabnkkfeaa", sum := "1c082314ffd5b9275480661e4dc8090100e0b5c1c46ceaf7bedcffceead2363d", func := "baffle/bafflelaw07.FragWrong", spec := "fragWrong", unfollowed := true, recurses := true, plainKeys := false, apart := false, narrowed := true }
def FragWrongUptoSaid : Prop := fragWrongUptoRow.holds Try.pinned (OpenSpec.upto fragWrongSpec)

/-- 'bafflelaw07.FragSplits', WHERE WHAT IT READS IS OF BULK AT MOST 1048576: true; the input reads as it did. -/
def fragSplitsUptoRow : OpenClaim := { program := "ytljbfnabnkkfeaa", sum := "1c082314ffd5b9275480661e4dc8090100e0b5c1c46ceaf7bedcffceead2363d", func := "baffle/bafflelaw07.FragSplits", spec := "fragSplits", unfollowed := true, recurses := true, plainKeys := false, apart := false, narrowed := true }
def FragSplitsUptoSaid : Prop := fragSplitsUptoRow.holds Try.pinned (OpenSpec.upto fragSplitsSpec)

/-- 'bafflelaw07.FragBack', WHERE WHAT IT READS IS OF BULK AT MOST 1048576: true; the input reads as it did. -/
def fragBackUptoRow : OpenClaim := { program := "ytljbfnabnkkfeaa", sum := "1c082314ffd5b9275480661e4dc8090100e0b5c1c46ceaf7bedcffceead2363d", func := "baffle/bafflelaw07.FragBack", spec := "fragBack", unfollowed := true, recurses := true, plainKeys := false, apart := false, narrowed := true }
def FragBackUptoSaid : Prop := fragBackUptoRow.holds Try.pinned (OpenSpec.upto fragBackSpec)

/-- 'bafflelaw07.FragMissing', WHERE WHAT IT READS IS OF BULK AT MOST 1048576: true; the input reads as it did. -/
def fragMissingUptoRow : OpenClaim := { program := "ytljbfnabnkkfeaa", sum := "1c082314ffd5b9275480661e4dc8090100e0b5c1c46ceaf7bedcffceead2363d", func := "baffle/bafflelaw07.FragMissing", spec := "fragMissing", unfollowed := true, recurses := true, plainKeys := false, apart := false, narrowed := true }
def FragMissingUptoSaid : Prop := fragMissingUptoRow.holds Try.pinned (OpenSpec.upto fragMissingSpec)

/-- 'bafflelaw07.FragDead', WHERE WHAT IT READS IS OF BULK AT MOST 1048576: true; the input reads as it did. -/
def fragDeadUptoRow : OpenClaim := { program := "ytljbfnabnkkfeaa", sum := "1c082314ffd5b9275480661e4dc8090100e0b5c1c46ceaf7bedcffceead2363d", func := "baffle/bafflelaw07.FragDead", spec := "fragDead", unfollowed := true, recurses := true, plainKeys := false, apart := false, narrowed := true }
def FragDeadUptoSaid : Prop := fragDeadUptoRow.holds Try.pinned (OpenSpec.upto fragDeadSpec)

/-- 'bafflelaw07.FragMixed', WHERE WHAT IT READS IS OF BULK AT MOST 1048576: true; the input reads as it did. -/
def fragMixedUptoRow : OpenClaim := { program := "ytljbfnabnkkfeaa", sum := "1c082314ffd5b9275480661e4dc8090100e0b5c1c46ceaf7bedcffceead2363d", func := "baffle/bafflelaw07.FragMixed", spec := "fragMixed", unfollowed := true, recurses := true, plainKeys := false, apart := false, narrowed := true }
def FragMixedUptoSaid : Prop := fragMixedUptoRow.holds Try.pinned (OpenSpec.upto fragMixedSpec)

/-- 'bafflelaw07.FragAgain', WHERE WHAT IT READS IS OF BULK AT MOST 1048576: true; the input reads as it did. -/
def fragAgainUptoRow : OpenClaim := { program := "ytljbfnabnkkfeaa", sum := "1c082314ffd5b9275480661e4dc8090100e0b5c1c46ceaf7bedcffceead2363d", func := "baffle/bafflelaw07.FragAgain", spec := "fragAgain", unfollowed := true, recurses := true, plainKeys := false, apart := false, narrowed := true }
def FragAgainUptoSaid : Prop := fragAgainUptoRow.holds Try.pinned (OpenSpec.upto fragAgainSpec)

/-- 'bafflelaw07.FragTells', WHERE WHAT IT READS IS OF BULK AT MOST 1048576: true; the input reads as it did. -/
def fragTellsUptoRow : OpenClaim := { program := "ytljbfnabnkkfeaa", sum := "1c082314ffd5b9275480661e4dc8090100e0b5c1c46ceaf7bedcffceead2363d", func := "baffle/bafflelaw07.FragTells", spec := "fragTells", unfollowed := true, recurses := true, plainKeys := false, apart := false, narrowed := true }
def FragTellsUptoSaid : Prop := fragTellsUptoRow.holds Try.pinned (OpenSpec.upto fragTellsSpec)

end Rows
end Go.Proofs.Ytljbfnabnkkfeaa
