import Derived.Test.YtcipgkpcaecjdaaBase
/- Plain: texts of bytes. No program in sight. -/
namespace Go.Proofs.Ytcipgkpcaecjdaa
open Go.RowKit
set_option linter.unusedVariables false
set_option linter.unusedSimpArgs false

/-- the byte of a digit -/
def hxN (n : Nat) : UInt8 := if n < 10 then UInt8.ofNat (48 + n) else UInt8.ofNat (87 + n)
def hxB (z : Int) : List UInt8 := [hxN (z.toNat / 16), hxN (z.toNat % 16)]
def hexL (zs : List Int) : List UInt8 := zs.flatMap hxB
def hexS (zs : List Int) : ByteArray := ⟨(hexL zs).toArray⟩
theorem hexL_append (a b : List Int) : hexL (a ++ b) = hexL a ++ hexL b := by simp [hexL]
theorem hexL_len (zs : List Int) : (hexL zs).length = 2 * zs.length := by
  induction zs with
  | nil => rfl
  | cons z r ih => simp only [hexL, List.flatMap_cons, List.length_append, List.length_cons] at ih ⊢; rw [ih]; show 2 + 2 * r.length = 2 * (r.length + 1); omega
theorem hexL_take_succ {zs : List Int} {k : Nat} (hk : k < zs.length) : hexL (zs.take (k + 1)) = hexL (zs.take k) ++ hxB (zs[k]?.getD 0) := by
  rw [List.take_add_one, hexL_append]
  congr 1
  rw [List.getElem?_eq_getElem hk]
  simp [hexL]
/-- the number of a digit, or -1 -/
def dg (c : Int) : Int := if 48 ≤ c ∧ c ≤ 57 then c - 48 else if 97 ≤ c ∧ c ≤ 102 then c - 87 else -1
theorem dg_bd (c : Int) : -1 ≤ dg c ∧ dg c ≤ 15 := by unfold dg; split <;> (try split) <;> omega
/-- the bytes of a string, as numbers -/
def SB (s : ByteArray) : List Int := s.data.toList.map fun b => (b.toNat : Int)
theorem SB_len (s : ByteArray) : (SB s).length = s.size := by unfold SB; rw [List.length_map]; rfl
/-- the bytes of a text -/
def unL : List Int → Option (List Int)
  | [] => some []
  | [_] => none
  | a :: b :: r => if dg a < 0 ∨ dg b < 0 then none else (unL r).map ((16 * dg a + dg b) :: ·)
/-- what a text gives: bytes, error -/
def UNH (s : ByteArray) : List Int × Int := if 262144 < s.size then ([], 3) else match unL (SB s) with | none => ([], 10) | some l => (l, 0)
theorem unL_len : ∀ (m : Nat) (l z : List Int), l.length ≤ m → unL l = some z → l.length = 2 * z.length := by
  intro m
  induction m with
  | zero => intro l z hl h; match l, hl with | [], _ => simp [unL] at h; subst h; rfl
  | succ m ih =>
    intro l z hl h
    match l with
    | [] => simp [unL] at h; subst h; rfl
    | [_] => simp [unL] at h
    | a :: b :: r =>
      simp only [unL] at h
      split at h
      · cases h
      · cases hr : unL r with
        | none => rw [hr] at h; cases h
        | some y => rw [hr] at h; simp at h; subst h; have := ih r y (by simp at hl; omega) hr; simp; omega
theorem unL_bd : ∀ (m : Nat) (l z : List Int), l.length ≤ m → unL l = some z → BD 255 z := by
  intro m
  induction m with
  | zero => intro l z hl h; match l, hl with | [], _ => simp [unL] at h; subst h; intro x hx; cases hx
  | succ m ih =>
    intro l z hl h
    match l with
    | [] => simp [unL] at h; subst h; intro x hx; cases hx
    | [_] => simp [unL] at h
    | a :: b :: r =>
      simp only [unL] at h
      split at h
      · cases h
      · rename_i hd
        cases hr : unL r with
        | none => rw [hr] at h; cases h
        | some y =>
          rw [hr] at h; simp at h; subst h
          have := ih r y (by simp at hl; omega) hr
          have h1 := dg_bd a
          have h2 := dg_bd b
          intro x hx
          rcases List.mem_cons.1 hx with rfl | hx
          · omega
          · exact this x hx
/-- a round of the reading loop: with two good digits more -/
theorem unL_more : ∀ (acc l : List Int) (a b : Int) (m : Nat), l.length ≤ m → unL l = some acc → 0 ≤ dg a → 0 ≤ dg b → unL (l ++ [a, b]) = some (acc ++ [16 * dg a + dg b]) := by
  intro acc l a b m
  induction m generalizing acc l with
  | zero =>
    intro hl h ha hb
    match l, hl with
    | [], _ => simp [unL] at h; subst h; simp only [List.nil_append, unL]; rw [if_neg (by omega)]; rfl
  | succ m ih =>
    intro hl h ha hb
    match l with
    | [] => simp [unL] at h; subst h; simp only [List.nil_append, unL]; rw [if_neg (by omega)]; rfl
    | [_] => simp [unL] at h
    | x :: y :: r =>
      simp only [unL] at h
      split at h
      · cases h
      · rename_i hd
        cases hr : unL r with
        | none => rw [hr] at h; cases h
        | some z =>
          rw [hr] at h; simp at h; subst h
          have := ih z r (by simp at hl; omega) hr ha hb
          simp only [List.cons_append, unL]
          rw [if_neg hd, this]; rfl
/-- a bad pair behind good ones: none -/
theorem unL_bad : ∀ (acc l r : List Int) (a b : Int) (m : Nat), l.length ≤ m → unL l = some acc → (dg a < 0 ∨ dg b < 0) → unL (l ++ a :: b :: r) = none := by
  intro acc l r a b m
  induction m generalizing acc l with
  | zero =>
    intro hl h hab
    match l, hl with
    | [], _ => simp only [List.nil_append, unL]; rw [if_pos hab]
  | succ m ih =>
    intro hl h hab
    match l with
    | [] => simp only [List.nil_append, unL]; rw [if_pos hab]
    | [_] => simp [unL] at h
    | x :: y :: q =>
      simp only [unL] at h
      split at h
      · cases h
      · rename_i hd
        cases hr : unL q with
        | none => rw [hr] at h; cases h
        | some z =>
          rw [hr] at h; simp at h; subst h
          have := ih z q (by simp at hl; omega) hr hab
          simp only [List.cons_append, unL]
          rw [if_neg hd, this]; rfl
theorem unL_odd : ∀ (m : Nat) (l : List Int), l.length ≤ m → l.length % 2 = 1 → unL l = none := by
  intro m
  induction m with
  | zero => intro l hl h; match l, hl with | [], _ => simp at h
  | succ m ih =>
    intro l hl h
    match l with
    | [] => simp at h
    | [_] => rfl
    | a :: b :: r =>
      simp only [unL]
      split
      · rfl
      · rw [ih r (by simp at hl; omega) (by simp at h; omega)]; rfl
end Go.Proofs.Ytcipgkpcaecjdaa
