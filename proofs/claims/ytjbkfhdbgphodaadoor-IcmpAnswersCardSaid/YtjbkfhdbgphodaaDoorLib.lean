/- Plain arithmetic of the Internet checksum: folding, words of a list of bytes. No program in sight. -/
namespace Go.Proofs.YtjbkfhdbgphodaaDoor

/-- one step of Join: add and fold once. -/
def stepJ (s w : Int) : Int := (s + w) % 65536 + (s + w) / 65536
def foldJ (s : Int) (l : List Int) : Int := l.foldl stepJ s

theorem stepJ_bd {s w : Int} (h0 : 0 ≤ s) (h1 : s ≤ 65535) (h2 : 0 ≤ w) (h3 : w ≤ 65535) : 0 ≤ stepJ s w ∧ stepJ s w ≤ 65535 := by
  unfold stepJ; omega

theorem foldJ_bd : ∀ (l : List Int) {s : Int}, 0 ≤ s → s ≤ 65535 → (∀ x ∈ l, 0 ≤ x ∧ x ≤ 65535) → 0 ≤ foldJ s l ∧ foldJ s l ≤ 65535
  | [], _, h0, h1, _ => ⟨h0, h1⟩
  | x :: l, s, h0, h1, h => by
    have hx := h x (by simp)
    have hb := stepJ_bd h0 h1 hx.1 hx.2
    exact foldJ_bd l hb.1 hb.2 (fun y hy => h y (by simp [hy]))

theorem foldJ_snoc (s : Int) (l : List Int) (x : Int) : foldJ s (l ++ [x]) = stepJ (foldJ s l) x := by
  simp [foldJ]

theorem foldJ_take_succ (s : Int) (l : List Int) (k : Nat) (h : k < l.length) : foldJ s (l.take (k + 1)) = stepJ (foldJ s (l.take k)) (l[k]?.getD 0) := by
  rw [List.take_succ_eq_append_getElem h, foldJ_snoc]; simp [h]

/-- the words of some bytes -/
def wordsOf : List Int → List Int
  | [] => []
  | [x] => [x * 256]
  | x :: y :: l => (x * 256 + y) :: wordsOf l

def sumOf (l : List Int) : Int := foldJ 0 (wordsOf l)

theorem wordsOf_bd : ∀ (l : List Int), (∀ x ∈ l, 0 ≤ x ∧ x ≤ 255) → ∀ y ∈ wordsOf l, 0 ≤ y ∧ y ≤ 65535
  | [], _, y, hy => by simp [wordsOf] at hy
  | [x], h, y, hy => by
    have := h x (by simp)
    simp [wordsOf] at hy; omega
  | a :: b :: l, h, y, hy => by
    have h1 := h a (by simp)
    have h2 := h b (by simp)
    simp only [wordsOf, List.mem_cons] at hy
    rcases hy with hy | hy
    · omega
    · exact wordsOf_bd l (fun z hz => h z (by simp [hz])) y hy

theorem sumOf_bd (l : List Int) (h : ∀ x ∈ l, 0 ≤ x ∧ x ≤ 255) : 0 ≤ sumOf l ∧ sumOf l ≤ 65535 :=
  foldJ_bd _ (by omega) (by omega) (wordsOf_bd l h)

/-- the word at an index, and the words up to one -/
def wordAt (l : List Int) (i : Nat) : Int := l[i]?.getD 0 * 256 + l[i + 1]?.getD 0

theorem wordsOf_append (l m : List Int) : ∀ {k : Nat}, l.length = 2 * k → wordsOf (l ++ m) = wordsOf l ++ wordsOf m := by
  intro k
  induction k generalizing l with
  | zero => intro h; have : l = [] := List.length_eq_zero_iff.1 (by omega); subst this; simp [wordsOf]
  | succ k ih =>
    intro h
    match l, h with
    | [], h => simp at h
    | [x], h => simp at h; omega
    | x :: y :: l, h => simp only [List.cons_append, wordsOf]; rw [ih l (by simp at h; omega)]

theorem wordsOf_take_succ (l : List Int) (k : Nat) (h : 2 * k < l.length) :
    wordsOf (l.take (2 * k + 2)) = wordsOf (l.take (2 * k)) ++ [wordAt l (2 * k)] := by
  have hlen : (l.take (2 * k)).length = 2 * k := by simp; omega
  have e : l.take (2 * k + 2) = l.take (2 * k) ++ (l.drop (2 * k)).take 2 := by
    rw [← List.take_add]
  rw [e, wordsOf_append _ _ hlen]
  congr 1
  by_cases h2 : 2 * k + 1 < l.length
  · have e2 : (l.drop (2 * k)).take 2 = [l[2 * k], l[2 * k + 1]] := by
      rw [List.drop_eq_getElem_cons h, List.drop_eq_getElem_cons h2]; rfl
    rw [e2]; simp [wordsOf, wordAt, h, h2]
  · have e2 : (l.drop (2 * k)).take 2 = [l[2 * k]] := by
      rw [List.drop_eq_getElem_cons h, List.drop_eq_nil_of_le (by omega)]; simp
    have e3 : l[2 * k + 1]? = none := List.getElem?_eq_none (by omega)
    rw [e2]; simp [wordsOf, wordAt, h, e3]

/-- csum.Fix: two bytes replaced -/
def put2 (zs : List Int) (at_ : Nat) (x y : Int) : List Int := (zs.set at_ x).set (at_ + 1) y
def fixZ (zs : List Int) (at_ : Nat) : List Int := put2 zs at_ 0 0
def fixC (zs : List Int) (at_ : Nat) : Int := 65535 - sumOf (fixZ zs at_)
def fixOf (zs : List Int) (at_ : Nat) : List Int := put2 (fixZ zs at_) at_ (fixC zs at_ / 256) (fixC zs at_ % 256)
theorem put2_put2 (zs : List Int) (a : Nat) (x y x' y' : Int) : put2 (put2 zs a x y) a x' y' = put2 zs a x' y' := by
  unfold put2
  rw [List.set_comm _ _ (show a + 1 ≠ a by omega), List.set_set, List.set_set]
theorem put2_len (zs : List Int) (a : Nat) (x y : Int) : (put2 zs a x y).length = zs.length := by simp [put2]
theorem fixOf_len (zs : List Int) (a : Nat) : (fixOf zs a).length = zs.length := by simp [fixOf, fixZ, put2_len]
theorem put2_bd {m : Int} {zs : List Int} {a : Nat} {x y : Int} (h : ∀ z ∈ zs, 0 ≤ z ∧ z ≤ m) (hx : 0 ≤ x ∧ x ≤ m) (hy : 0 ≤ y ∧ y ≤ m) : ∀ z ∈ put2 zs a x y, 0 ≤ z ∧ z ≤ m := by
  intro z hz
  unfold put2 at hz
  rcases List.mem_or_eq_of_mem_set hz with hz | rfl
  · rcases List.mem_or_eq_of_mem_set hz with hz | rfl
    · exact h z hz
    · exact hx
  · exact hy
theorem fixC_bd {zs : List Int} (h : ∀ z ∈ zs, 0 ≤ z ∧ z ≤ 255) (a : Nat) : 0 ≤ fixC zs a ∧ fixC zs a ≤ 65535 := by
  have := sumOf_bd (fixZ zs a) (put2_bd h (by omega) (by omega))
  unfold fixC; omega
theorem fixOf_bd {zs : List Int} (h : ∀ z ∈ zs, 0 ≤ z ∧ z ≤ 255) (a : Nat) : ∀ z ∈ fixOf zs a, 0 ≤ z ∧ z ≤ 255 := by
  have := fixC_bd h a
  exact put2_bd (put2_bd h (by omega) (by omega)) (by omega) (by omega)

/-- csum.Update -/
def upd (a b c : Int) : Int := 65535 - foldJ 0 [65535 - a, 65535 - b, c]
theorem upd_bd {a b c : Int} (ha : 0 ≤ a) (ha' : a ≤ 65535) (hb : 0 ≤ b) (hb' : b ≤ 65535) (hc : 0 ≤ c) (hc' : c ≤ 65535) : 0 ≤ upd a b c ∧ upd a b c ≤ 65535 := by
  have := foldJ_bd [65535 - a, 65535 - b, c] (s := 0) (by omega) (by omega) (fun y hy => by simp at hy; omega)
  unfold upd; omega

/-- whether some byte is not 0 -/
def someNZ (zs : List Int) : Bool := zs.any (fun x => x != 0)
theorem someNZ_false {zs : List Int} : someNZ zs = false ↔ ∀ x ∈ zs, x = 0 := by
  simp [someNZ]

/-- a number of 16 bits -/
abbrev W16 := { x : Int // 0 ≤ x ∧ x ≤ 65535 }

theorem byte_bd (l : List Int) (h : ∀ x ∈ l, 0 ≤ x ∧ x ≤ 255) (i : Nat) : 0 ≤ l[i]?.getD 0 ∧ l[i]?.getD 0 ≤ 255 := by
  rcases Nat.lt_or_ge i l.length with hi | hi
  · have := h l[i] (List.getElem_mem hi)
    simpa [hi] using this
  · simp [hi]

def wordW (l : List Int) (h : ∀ x ∈ l, 0 ≤ x ∧ x ≤ 255) (i : Nat) : W16 :=
  ⟨wordAt l i, by have h1 := byte_bd l h i; have h2 := byte_bd l h (i + 1); unfold wordAt; omega⟩

/-- what has come when k rounds are over -/
def upto {α : Type} (f : Nat → α) (k : Nat) : List α := (List.range k).map f
theorem upto_succ {α : Type} (f : Nat → α) (k : Nat) : upto f (k + 1) = upto f k ++ [f k] := by simp [upto, List.range_succ]
theorem upto_length {α : Type} (f : Nat → α) (k : Nat) : (upto f k).length = k := by simp [upto]

theorem upto_words (l : List Int) (h : ∀ x ∈ l, 0 ≤ x ∧ x ≤ 255) : ∀ k, 2 * k ≤ l.length + 1 → (upto (fun j => wordW l h (2 * j)) k).map (·.1) = wordsOf (l.take (2 * k))
  | 0, _ => by simp [upto, wordsOf]
  | k + 1, hk => by
    rw [upto_succ, List.map_append, upto_words l h k (by omega), show 2 * (k + 1) = 2 * k + 2 from by omega, wordsOf_take_succ l k (by omega)]
    rfl

def sumW (l : List W16) : Int := foldJ 0 (l.map (·.1))
theorem sumW_snoc (l : List W16) (x : W16) : sumW (l ++ [x]) = stepJ (sumW l) x.1 := by simp [sumW, foldJ]
theorem sumW_bd (l : List W16) : 0 ≤ sumW l ∧ sumW l ≤ 65535 :=
  foldJ_bd _ (by omega) (by omega) (fun x hx => by
    obtain ⟨y, _, rfl⟩ := List.mem_map.1 hx
    exact y.2)
theorem sumW_upto (l : List Int) (h : ∀ x ∈ l, 0 ≤ x ∧ x ≤ 255) : sumW (upto (fun j => wordW l h (2 * j)) ((l.length + 1) / 2)) = sumOf l := by
  unfold sumW sumOf
  rw [upto_words l h _ (by omega), List.take_of_length_le (by omega)]

theorem foldJ_two (s x : Int) (h0 : 0 ≤ s) (h1 : s ≤ 65535) : foldJ 0 [s, x] = stepJ s x := by
  have : stepJ 0 s = s := by unfold stepJ; omega
  simp [foldJ, this]

end Go.Proofs.YtjbkfhdbgphodaaDoor
