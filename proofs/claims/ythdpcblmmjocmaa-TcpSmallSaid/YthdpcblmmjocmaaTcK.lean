import Derived.Test.YthdpcblmmjocmaaBase
/- package tcp: what is known of options, plain. No program in sight. -/
namespace Go.Proofs.Ythdpcblmmjocmaa
open Go.RowKit
set_option linter.unusedVariables false

/-- the number of four bytes -/
def lng (c : List Int) (i : Nat) : Int := wordAt c i * 65536 + wordAt c (i + 2)

/-- what is known of options -/
structure KN where
  mss : Int
  sc : Int
  sel : Bool
  st : Bool
  ts : Int
  ec : Int
  bl : List (Int × Int)
deriving DecidableEq

def kn0 : KN := ⟨0, -1, false, false, 0, 0, []⟩
def knZ : KN := ⟨0, 0, false, false, 0, 0, []⟩

/-- blocks out of their bytes -/
def blocksOf : Nat → List Int → List (Int × Int)
  | 0, _ => []
  | m + 1, c => (lng c 0, lng c 4) :: blocksOf m (c.drop 8)

/-- what one option of a kind does with its content -/
def take1 (kind : Int) (c : List Int) (k : KN) : Option KN :=
  if kind = 2 then (if c.length = 2 ∧ ¬ 0 < k.mss ∧ 0 < wordAt c 0 then some { k with mss := wordAt c 0 } else none)
  else if kind = 3 then (if c.length = 1 ∧ ¬ 0 ≤ k.sc ∧ c[0]?.getD 0 < 15 then some { k with sc := c[0]?.getD 0 } else none)
  else if kind = 4 then (if c.length = 0 ∧ k.sel = false then some { k with sel := true } else none)
  else if kind = 5 then (if c.length ≠ 0 ∧ c.length % 8 = 0 ∧ c.length ≤ 32 ∧ k.bl = [] then some { k with bl := blocksOf (c.length / 8) c } else none)
  else if kind = 8 then (if c.length = 8 ∧ k.st = false then some { k with st := true, ts := lng c 0, ec := lng c 4 } else none)
  else some k

/-- the bytes end here, or with a byte 0 -/
def atEnd (zs : List Int) : Bool := zs.isEmpty || zs[0]?.getD 0 == 0

/-- the length of the option at the head -/
def optLen (zs : List Int) : Option Nat :=
  if zs[0]?.getD 0 = 1 then some 1 else if zs.length < 2 ∨ zs[1]?.getD 0 < 2 ∨ (zs.length : Int) < zs[1]?.getD 0 then none else some (zs[1]?.getD 0).toNat

/-- what is known of options: none: an error -/
def parseF : Nat → List Int → KN → Option KN
  | 0, zs, k => if atEnd zs then some k else none
  | f + 1, zs, k => if atEnd zs then some k else
    match optLen zs with
    | none => none
    | some m => match take1 (zs[0]?.getD 0) ((zs.take m).drop 2) k with
      | none => none
      | some k' => parseF f (zs.drop m) k'

theorem optLen_one {zs : List Int} (h : zs[0]?.getD 0 = 1) : optLen zs = some 1 := by unfold optLen; rw [if_pos h]
theorem optLen_bad {zs : List Int} (h : zs[0]?.getD 0 ≠ 1) (h2 : zs.length < 2 ∨ zs[1]?.getD 0 < 2 ∨ (zs.length : Int) < zs[1]?.getD 0) : optLen zs = none := by unfold optLen; rw [if_neg h, if_pos h2]
theorem optLen_more {zs : List Int} (h : zs[0]?.getD 0 ≠ 1) (h2 : ¬ (zs.length < 2 ∨ zs[1]?.getD 0 < 2 ∨ (zs.length : Int) < zs[1]?.getD 0)) : optLen zs = some (zs[1]?.getD 0).toNat := by unfold optLen; rw [if_neg h, if_neg h2]
theorem optLen_le {zs : List Int} {m : Nat} (h : optLen zs = some m) (h0 : zs ≠ []) : 1 ≤ m ∧ m ≤ zs.length ∧ (m = 1 → zs[0]?.getD 0 = 1) := by
  have hl : 0 < zs.length := List.length_pos_iff.2 h0
  unfold optLen at h
  split at h
  · rename_i h1
    simp at h; exact ⟨by omega, by omega, fun _ => h1⟩
  · split at h
    · cases h
    · rename_i h1 h2
      simp at h
      refine ⟨by omega, by omega, fun _ => by omega⟩
theorem atEnd_nil : atEnd [] = true := rfl
theorem atEnd_iff {zs : List Int} : atEnd zs = true ↔ zs = [] ∨ zs[0]?.getD 0 = 0 := by unfold atEnd; cases zs <;> simp
theorem atEnd_false {zs : List Int} (h : atEnd zs = false) : zs ≠ [] ∧ zs[0]?.getD 0 ≠ 0 := by
  constructor
  · rintro rfl; cases h
  · intro h1; rw [atEnd_iff.2 (.inr h1)] at h; cases h
theorem parseF_end {f : Nat} {zs : List Int} {k : KN} (h : atEnd zs = true) : parseF f zs k = some k := by cases f <;> simp [parseF, h]
theorem parseF_bad {f : Nat} {zs : List Int} {k : KN} (h : atEnd zs = false) (h2 : optLen zs = none) : parseF f zs k = none := by cases f <;> simp [parseF, h, h2]
theorem parseF_take {f m : Nat} {zs : List Int} {k : KN} (h : atEnd zs = false) (h2 : optLen zs = some m) (h3 : take1 (zs[0]?.getD 0) ((zs.take m).drop 2) k = none) : parseF f zs k = none := by cases f <;> simp [parseF, h, h2, h3]
theorem parseF_more {f m : Nat} {zs : List Int} {k k' : KN} (h : atEnd zs = false) (h2 : optLen zs = some m) (h3 : take1 (zs[0]?.getD 0) ((zs.take m).drop 2) k = some k') : parseF (f + 1) zs k = parseF f (zs.drop m) k' := by simp [parseF, h, h2, h3]

end Go.Proofs.Ythdpcblmmjocmaa
