import Derived.Test.YthdpcblmmjocmaaTcK
/- package tcp: the bytes of options, plain. No program in sight. -/
namespace Go.Proofs.Ythdpcblmmjocmaa
open Go.RowKit
set_option linter.unusedVariables false

/-- two bytes, four bytes of a number -/
def w2 (x : Int) : List Int := [x / 256, x % 256]
def w4 (x : Int) : List Int := w2 (x / 65536) ++ w2 (x % 65536)
def w2s : List Int → List Int
  | [] => []
  | x :: l => w2 x ++ w2s l
def w4s : List Int → List Int
  | [] => []
  | x :: l => w4 x ++ w4s l
theorem w2s_len : ∀ l, (w2s l).length = 2 * l.length
  | [] => rfl
  | x :: l => by simp [w2s, w2, w2s_len l]; omega
theorem w4s_len : ∀ l, (w4s l).length = 4 * l.length
  | [] => rfl
  | x :: l => by simp [w4s, w4, w2, w4s_len l]; omega
theorem w2s_append : ∀ l m, w2s (l ++ m) = w2s l ++ w2s m
  | [], m => rfl
  | x :: l, m => by simp [w2s, w2s_append l m]
theorem w4s_append : ∀ l m, w4s (l ++ m) = w4s l ++ w4s m
  | [], m => rfl
  | x :: l, m => by simp [w4s, w4s_append l m]
theorem w2_bd {x : Int} (h : 0 ≤ x ∧ x ≤ 65535) : BD 255 (w2 x) := by
  intro y hy
  simp [w2] at hy
  omega
theorem w4_bd {x : Int} (h : 0 ≤ x ∧ x ≤ 4294967295) : BD 255 (w4 x) := (w2_bd (by omega)).append (w2_bd (by omega))
theorem w2s_bd : ∀ {l : List Int}, BD 65535 l → BD 255 (w2s l)
  | [], _ => fun y hy => by simp [w2s] at hy
  | x :: l, h => (w2_bd (h x (.head _))).append (w2s_bd fun y hy => h y (.tail _ hy))
theorem w4s_bd : ∀ {l : List Int}, BD 4294967295 l → BD 255 (w4s l)
  | [], _ => fun y hy => by simp [w4s] at hy
  | x :: l, h => (w4_bd (h x (.head _))).append (w4s_bd fun y hy => h y (.tail _ hy))

/-- what is known is right -/
def rightK (k : KN) : Bool := decide (0 ≤ k.mss ∧ k.mss ≤ 65535 ∧ -1 ≤ k.sc ∧ k.sc ≤ 14 ∧ (k.st = true ∨ k.ts = 0 ∧ k.ec = 0) ∧ k.bl.length ≤ 4)
/-- an option put behind others -/
def padN (n : Nat) : Nat := (4 - (2 + n) % 4) % 4
def optB (zs : List Int) (kind : Int) (c : List Int) : List Int := zs ++ List.replicate (padN c.length) 1 ++ [kind, 2 + c.length] ++ c
def pairB : List (Int × Int) → List Int
  | [] => []
  | p :: l => w4 p.1 ++ w4 p.2 ++ pairB l
theorem pairB_len : ∀ l, (pairB l).length = 8 * l.length
  | [] => rfl
  | p :: l => by simp [pairB, w4, w2, pairB_len l]; omega
theorem pairB_append : ∀ l m, pairB (l ++ m) = pairB l ++ pairB m
  | [], m => rfl
  | x :: l, m => by simp [pairB, pairB_append l m]
def fmt1 (k : KN) : List Int := if 0 < k.mss then optB [] 2 (w2 k.mss) else []
def fmt2 (k : KN) : List Int := if 0 ≤ k.sc then optB (fmt1 k) 3 [k.sc] else fmt1 k
def fmt3 (k : KN) : List Int := if k.sel = true then optB (fmt2 k) 4 [] else fmt2 k
def fmt4 (k : KN) : List Int := if k.st = true then optB (fmt3 k) 8 (w4s [k.ts, k.ec]) else fmt3 k
def fmt5 (k : KN) : List Int := if k.bl ≠ [] then optB (fmt4 k) 5 (pairB k.bl) else fmt4 k
/-- what Format gives: bytes and an error -/
def fmtB (k : KN) : List Int := if rightK k = true ∧ (fmt5 k).length ≤ 40 then fmt5 k else []
def fmtE (k : KN) : Int := if rightK k = true then (if (fmt5 k).length ≤ 40 then 0 else 3) else 2

/-- a number out of its bytes -/
theorem word_w2 {x : Int} (r : List Int) (h : 0 ≤ x ∧ x ≤ 65535) : wordAt (w2 x ++ r) 0 = x := by simp [wordAt, w2]; omega
theorem lng_w4 {x : Int} (r : List Int) (h : 0 ≤ x ∧ x ≤ 4294967295) : lng (w4 x ++ r) 0 = x := by simp [lng, wordAt, w4, w2]; omega

/-- what is known of options -/
def parse (zs : List Int) (k : KN) : Option KN := parseF zs.length zs k
theorem parseF_fuel : ∀ (f g : Nat) (zs : List Int) (k : KN), zs.length ≤ f → zs.length ≤ g → parseF f zs k = parseF g zs k
  | 0, g, zs, k, h, _ => by
    have : zs = [] := List.length_eq_zero_iff.1 (by omega)
    subst this
    rw [parseF_end (by rfl), parseF_end (by rfl)]
  | f + 1, 0, zs, k, _, h => by
    have : zs = [] := List.length_eq_zero_iff.1 (by omega)
    subst this
    rw [parseF_end (by rfl), parseF_end (by rfl)]
  | f + 1, g + 1, zs, k, h1, h2 => by
    cases ha : atEnd zs with
    | true => rw [parseF_end ha, parseF_end ha]
    | false =>
      cases ho : optLen zs with
      | none => rw [parseF_bad ha ho, parseF_bad ha ho]
      | some m =>
        cases ht : take1 (zs[0]?.getD 0) ((zs.take m).drop 2) k with
        | none => rw [parseF_take ha ho ht, parseF_take ha ho ht]
        | some k' =>
          rw [parseF_more ha ho ht, parseF_more ha ho ht]
          have := (optLen_le ho (atEnd_false ha).1).1
          exact parseF_fuel f g _ k' (by rw [List.length_drop]; omega) (by rw [List.length_drop]; omega)
theorem parse_end {zs : List Int} {k : KN} (h : atEnd zs = true) : parse zs k = some k := parseF_end h
theorem parse_nil (k : KN) : parse [] k = some k := parseF_end rfl
theorem parse_zero (zs : List Int) (k : KN) : parse (0 :: zs) k = some k := parseF_end (by simp [atEnd])
theorem parse_bad {zs : List Int} {k : KN} (h : atEnd zs = false) (h2 : optLen zs = none) : parse zs k = none := parseF_bad h h2
theorem parse_take {m : Nat} {zs : List Int} {k : KN} (h : atEnd zs = false) (h2 : optLen zs = some m) (h3 : take1 (zs[0]?.getD 0) ((zs.take m).drop 2) k = none) : parse zs k = none := parseF_take h h2 h3
theorem parse_more {m : Nat} {zs : List Int} {k k' : KN} (h : atEnd zs = false) (h2 : optLen zs = some m) (h3 : take1 (zs[0]?.getD 0) ((zs.take m).drop 2) k = some k') : parse zs k = parse (zs.drop m) k' := by
  have hm := optLen_le h2 (atEnd_false h).1
  obtain ⟨n, hn⟩ : ∃ n, zs.length = n + 1 := ⟨zs.length - 1, by omega⟩
  unfold parse
  rw [hn, parseF_more h h2 h3]
  exact parseF_fuel _ _ _ _ (by rw [List.length_drop]; omega) (Nat.le_refl _)
theorem parse_one (zs : List Int) (k : KN) : parse (1 :: zs) k = parse zs k :=
  parse_more (by simp [atEnd]) (optLen_one rfl) (by simp [take1])
theorem parse_ones (zs : List Int) (k : KN) : ∀ n, parse (List.replicate n 1 ++ zs) k = parse zs k
  | 0 => rfl
  | n + 1 => by rw [List.replicate_succ, List.cons_append, parse_one, parse_ones zs k n]
theorem parse_opt {kind : Int} (c zs : List Int) (k : KN) (h0 : kind ≠ 0) (h1 : kind ≠ 1) :
    parse ([kind, 2 + (c.length : Int)] ++ c ++ zs) k = (take1 kind c k).bind (parse zs) := by
  have ha : atEnd ([kind, 2 + (c.length : Int)] ++ c ++ zs) = false := by simp [atEnd, h0]
  have ho : optLen ([kind, 2 + (c.length : Int)] ++ c ++ zs) = some (2 + c.length) := by
    rw [optLen_more (by simpa using h1) (by simp; omega)]
    simp; omega
  have hc : (([kind, 2 + (c.length : Int)] ++ c ++ zs).take (2 + c.length)).drop 2 = c := by
    rw [show 2 + c.length = c.length + 2 by omega]; simp
  have hd : ([kind, 2 + (c.length : Int)] ++ c ++ zs).drop (2 + c.length) = zs := by
    rw [show 2 + c.length = c.length + 2 by omega]; simp
  cases ht : take1 kind c k with
  | none => exact parse_take ha ho (by rw [hc]; exact ht)
  | some k' => rw [parse_more ha ho (k' := k') (by rw [hc]; exact ht), hd]; rfl
/-- an option that was put ahead of the rest -/
theorem parse_optB {kind : Int} (c zs : List Int) (k : KN) (h0 : kind ≠ 0) (h1 : kind ≠ 1) :
    parse (List.replicate (padN c.length) 1 ++ [kind, 2 + (c.length : Int)] ++ c ++ zs) k = (take1 kind c k).bind (parse zs) := by
  rw [List.append_assoc, List.append_assoc, parse_ones, ← List.append_assoc]
  exact parse_opt c zs k h0 h1
end Go.Proofs.Ythdpcblmmjocmaa
