/- The plain law of checksums: sums by remainders. No program in sight. -/
import Derived.Test.YtjbkfhdbgphodaaDoorLib
namespace Go.Proofs.YtjbkfhdbgphodaaDoor
set_option linter.unusedVariables false

/-- to fold a number -/
def foldR (s : Int) : Int := if s = 0 then 0 else 1 + (s - 1) % 65535

theorem foldR_bd (s : Int) : 0 ≤ foldR s ∧ foldR s ≤ 65535 := by unfold foldR; split <;> omega
theorem foldR_step {s x : Int} (h0 : 0 ≤ s) (h1 : s ≤ 65535) (h2 : 0 ≤ x) (h3 : x ≤ 65535) : stepJ s x = foldR (s + x) := by unfold stepJ foldR; split <;> omega
theorem foldR_foldR {s x : Int} (h0 : 0 ≤ s) (h2 : 0 ≤ x) : foldR (foldR s + x) = foldR (s + x) := by
  unfold foldR
  by_cases hs : s = 0
  · simp [hs]
  · simp only [hs, if_false]
    rw [if_neg (by omega), if_neg (by omega)]
    omega
theorem foldR_small {s : Int} (h0 : 0 ≤ s) (h1 : s ≤ 65535) : foldR s = s := by unfold foldR; split <;> omega

def isum : List Int → Int
  | [] => 0
  | x :: l => x + isum l
theorem isum_append (l m : List Int) : isum (l ++ m) = isum l + isum m := by
  induction l with
  | nil => simp [isum]
  | cons x l ih => simp [isum, ih]; omega
theorem isum_nonneg : ∀ (l : List Int), (∀ x ∈ l, 0 ≤ x) → 0 ≤ isum l
  | [], _ => by simp [isum]
  | x :: l, h => by
    have h1 := h x (by simp)
    have h2 := isum_nonneg l (fun y hy => h y (by simp [hy]))
    simp only [isum]; omega
theorem isum_zero : ∀ (l : List Int), (∀ x ∈ l, 0 ≤ x) → isum l = 0 → ∀ x ∈ l, x = 0
  | [], _, _, x, hx => by simp at hx
  | y :: l, h, h0, x, hx => by
    have h1 := h y (by simp)
    have h2 := isum_nonneg l (fun y hy => h y (by simp [hy]))
    simp only [isum] at h0
    rcases List.mem_cons.1 hx with rfl | hx
    · omega
    · exact isum_zero l (fun y hy => h y (by simp [hy])) (by omega) x hx

theorem foldJ_eq : ∀ (l : List Int) (s : Int), 0 ≤ s → s ≤ 65535 → (∀ x ∈ l, 0 ≤ x ∧ x ≤ 65535) → foldJ s l = foldR (s + isum l)
  | [], s, h0, h1, _ => by simp [foldJ, isum, foldR_small h0 h1]
  | x :: l, s, h0, h1, h => by
    have hx := h x (by simp)
    have hb := stepJ_bd h0 h1 hx.1 hx.2
    have hl : 0 ≤ isum l := isum_nonneg l (fun y hy => (h y (by simp [hy])).1)
    show foldJ (stepJ s x) l = _
    rw [foldJ_eq l _ hb.1 hb.2 (fun y hy => h y (by simp [hy])), foldR_step h0 h1 hx.1 hx.2, foldR_foldR (by omega) hl]
    simp only [isum]
    congr 1; omega

theorem foldJ0_eq (l : List Int) (h : ∀ x ∈ l, 0 ≤ x ∧ x ≤ 65535) : foldJ 0 l = foldR (isum l) := by
  rw [foldJ_eq l 0 (by omega) (by omega) h, Int.zero_add]

/-- the words of some bytes, added up -/
def wsum (zs : List Int) : Int := isum (wordsOf zs)
theorem wsum_nonneg {zs : List Int} (h : ∀ x ∈ zs, 0 ≤ x ∧ x ≤ 255) : 0 ≤ wsum zs := isum_nonneg _ (fun x hx => (wordsOf_bd zs h x hx).1)
theorem sumOf_eq {zs : List Int} (h : ∀ x ∈ zs, 0 ≤ x ∧ x ≤ 255) : sumOf zs = foldR (wsum zs) := foldJ0_eq _ (wordsOf_bd zs h)

theorem wsum_nil : wsum [] = 0 := rfl
theorem wsum_cons2 (x y : Int) (l : List Int) : wsum (x :: y :: l) = x * 256 + y + wsum l := rfl
theorem wsum_append {l : List Int} (m : List Int) (h : l.length % 2 = 0) : wsum (l ++ m) = wsum l + wsum m := by
  unfold wsum; rw [wordsOf_append l m (k := l.length / 2) (by omega), isum_append]

/-- as many words of a list, one by one -/
theorem wsum_put2 : ∀ (zs : List Int) (a : Nat) (x y : Int), a % 2 = 0 → a + 2 ≤ zs.length → wsum (put2 zs a x y) = wsum zs - wordAt zs a + (x * 256 + y)
  | [], a, x, y, _, h => by simp at h
  | [z], a, x, y, _, h => by simp at h
  | z :: z' :: l, a, x, y, he, h => by
    match a, he with
    | 0, _ => simp only [put2, List.set, wsum_cons2, wordAt]; simp; omega
    | a + 2, he =>
      have ih := wsum_put2 l a x y (by omega) (by simp at h; omega)
      have e : put2 (z :: z' :: l) (a + 2) x y = z :: z' :: put2 l a x y := by simp [put2]
      rw [e, wsum_cons2, wsum_cons2, ih]
      have e2 : wordAt (z :: z' :: l) (a + 2) = wordAt l a := by simp [wordAt]
      rw [e2]; omega
theorem wordAt_bd {zs : List Int} (h : ∀ x ∈ zs, 0 ≤ x ∧ x ≤ 255) (a : Nat) : 0 ≤ wordAt zs a ∧ wordAt zs a ≤ 65535 := by
  have h1 := byte_bd zs h a
  have h2 := byte_bd zs h (a + 1)
  unfold wordAt; omega
theorem wordAt_le_wsum : ∀ (zs : List Int) (a : Nat), (∀ x ∈ zs, 0 ≤ x ∧ x ≤ 255) → a % 2 = 0 → a < zs.length → wordAt zs a ≤ wsum zs
  | [], a, _, _, h => by simp at h
  | [z], a, hz, he, h => by
    simp at h; subst h
    simp [wordAt, wsum, wordsOf, isum]
  | z :: z' :: l, a, hz, he, h => by
    have h1 := hz z (by simp)
    have h2 := hz z' (by simp)
    have h3 : ∀ x ∈ l, 0 ≤ x ∧ x ≤ 255 := fun x hx => hz x (by simp [hx])
    have h4 := wsum_nonneg h3
    rw [wsum_cons2]
    match a, he with
    | 0, _ => simp [wordAt]; omega
    | a + 2, he =>
      have ih := wordAt_le_wsum l a h3 (by omega) (by simp at h; omega)
      have e2 : wordAt (z :: z' :: l) (a + 2) = wordAt l a := by simp [wordAt]
      rw [e2]; omega
theorem wsum_zero : ∀ (zs : List Int), (∀ x ∈ zs, 0 ≤ x ∧ x ≤ 255) → (wsum zs = 0 ↔ ∀ x ∈ zs, x = 0)
  | [], _ => by simp [wsum_nil]
  | [z], h => by
    have := h z (by simp)
    simp [wsum, wordsOf, isum]; omega
  | z :: z' :: l, h => by
    have h1 := h z (by simp)
    have h2 := h z' (by simp)
    have h3 : ∀ x ∈ l, 0 ≤ x ∧ x ≤ 255 := fun x hx => h x (by simp [hx])
    have h4 := wsum_nonneg h3
    have ih := wsum_zero l h3
    rw [wsum_cons2]
    constructor
    · intro h0 x hx
      rcases List.mem_cons.1 hx with rfl | hx
      · omega
      · rcases List.mem_cons.1 hx with rfl | hx
        · omega
        · exact ih.1 (by omega) x hx
    · intro h0
      have a1 := h0 z (by simp)
      have a2 := h0 z' (by simp)
      have a3 := ih.2 (fun x hx => h0 x (by simp [hx]))
      omega

theorem wordAt_put2 (zs : List Int) (a : Nat) (x y : Int) (h : a + 2 ≤ zs.length) : wordAt (put2 zs a x y) a = x * 256 + y := by
  unfold wordAt put2
  rw [List.getElem?_set_ne (by omega), List.getElem?_set_self (by omega), List.getElem?_set_self (by simp; omega)]
  rfl

/-- Bytes with a checksum over them and a pseudo header are right. -/
theorem packet_right {P : Int} (hP0 : 0 ≤ P) (hP1 : P ≤ 65535) {ys : List Int} (hy : ∀ x ∈ ys, 0 ≤ x ∧ x ≤ 255) {p : Nat} (hp : p % 2 = 0) (hl : p + 2 ≤ ys.length) {v : Int}
    (hv : v = 65535 - stepJ P (sumOf (put2 ys p 0 0)) ∨ (65535 - stepJ P (sumOf (put2 ys p 0 0)) = 0 ∧ v = 65535)) :
    0 ≤ v ∧ v ≤ 65535 ∧ stepJ P (sumOf (put2 ys p (v / 256) (v % 256))) = 65535 := by
  have b0 := put2_bd (a := p) (x := 0) (y := 0) hy (by omega) (by omega)
  have s0 := sumOf_bd _ b0
  have j0 := stepJ_bd hP0 hP1 s0.1 s0.2
  have hv0 : 0 ≤ v ∧ v ≤ 65535 := by omega
  have b1 := put2_bd (a := p) (x := v / 256) (y := v % 256) hy (by omega) (by omega)
  have s1 := sumOf_bd _ b1
  refine ⟨hv0.1, hv0.2, ?_⟩
  have w0 := wsum_nonneg b0
  have w1 := wsum_nonneg b1
  have e : wsum (put2 ys p (v / 256) (v % 256)) = wsum (put2 ys p 0 0) + v := by
    rw [wsum_put2 ys p _ _ hp hl, wsum_put2 ys p _ _ hp hl]; omega
  have e0 : stepJ P (sumOf (put2 ys p 0 0)) = foldR (wsum (put2 ys p 0 0) + P) := by
    rw [foldR_step hP0 hP1 s0.1 s0.2, sumOf_eq b0, Int.add_comm, foldR_foldR w0 hP0]
  have e1 : stepJ P (sumOf (put2 ys p (v / 256) (v % 256))) = foldR (wsum (put2 ys p 0 0) + v + P) := by
    rw [foldR_step hP0 hP1 s1.1 s1.2, sumOf_eq b1, Int.add_comm, foldR_foldR w1 hP0, e]
  rw [e1]
  rw [e0] at hv
  unfold foldR at hv ⊢
  split at hv <;> split <;> omega

/-- the sum of bytes that are put together -/
theorem sum_append {xs ys : List Int} (hx : ∀ x ∈ xs, 0 ≤ x ∧ x ≤ 255) (hy : ∀ x ∈ ys, 0 ≤ x ∧ x ≤ 255) (he : xs.length % 2 = 0) : sumOf (xs ++ ys) = stepJ (sumOf xs) (sumOf ys) := by
  have h : ∀ x ∈ xs ++ ys, 0 ≤ x ∧ x ≤ 255 := fun x hm => (List.mem_append.1 hm).elim (hx x) (hy x)
  have s1 := sumOf_bd xs hx
  have s2 := sumOf_bd ys hy
  rw [foldR_step s1.1 s1.2 s2.1 s2.2, sumOf_eq h, wsum_append ys he]
  rw [sumOf_eq hx, sumOf_eq hy, foldR_foldR (wsum_nonneg hx) (foldR_bd _).1, Int.add_comm (wsum xs) (foldR (wsum ys)), foldR_foldR (wsum_nonneg hy) (wsum_nonneg hx), Int.add_comm]
/-- a byte 0 after an odd number of bytes -/
theorem sum_zero : ∀ (xs : List Int), xs.length % 2 = 1 → sumOf (xs ++ [0]) = sumOf xs := by
  intro xs h
  have : ∀ (xs : List Int), xs.length % 2 = 1 → wordsOf (xs ++ [0]) = wordsOf xs := by
    intro xs
    induction xs using wordsOf.induct with
    | case1 => intro h; simp at h
    | case2 x => intro _; simp [wordsOf]
    | case3 x y l ih => intro h; simp only [List.cons_append, wordsOf]; rw [ih (by simp at h; omega)]
  unfold sumOf
  rw [this xs h]
/-- the order of words does not matter -/
theorem sum_turn {xs : List Int} (hx : ∀ x ∈ xs, 0 ≤ x ∧ x ≤ 255) (he : xs.length % 2 = 0) (k : Nat) (hk : k % 2 = 0) (hl : k ≤ xs.length) : sumOf (xs.drop k ++ xs.take k) = sumOf xs := by
  have h1 : ∀ x ∈ xs.drop k ++ xs.take k, 0 ≤ x ∧ x ≤ 255 := fun x hm => (List.mem_append.1 hm).elim (fun h => hx x (List.mem_of_mem_drop h)) (fun h => hx x (List.mem_of_mem_take h))
  rw [sumOf_eq h1, sumOf_eq hx, wsum_append _ (by simp; omega)]
  conv => rhs; rw [← List.take_append_drop k xs]
  rw [wsum_append _ (by simp; omega), Int.add_comm]

theorem foldR_all {s : Int} (h : 0 ≤ s) : foldR s = 65535 ↔ 0 < s ∧ s % 65535 = 0 := by
  unfold foldR
  split
  · omega
  · constructor
    · intro h1; omega
    · intro h1; omega
/-- bytes with their checksum put in are right -/
theorem fix_right {zs : List Int} (hz : ∀ x ∈ zs, 0 ≤ x ∧ x ≤ 255) {p : Nat} (hp : p % 2 = 0) (hl : p + 2 ≤ zs.length) : sumOf (fixOf zs p) = 65535 := by
  have b0 : ∀ x ∈ fixZ zs p, 0 ≤ x ∧ x ≤ 255 := put2_bd hz (by omega) (by omega)
  have w0 := wsum_nonneg b0
  have e0 : fixC zs p = 65535 - foldR (wsum (fixZ zs p)) := by unfold fixC; rw [sumOf_eq b0]
  have e1 : wsum (fixOf zs p) = wsum (fixZ zs p) + fixC zs p := by
    unfold fixOf fixZ
    rw [put2_put2, wsum_put2 _ _ _ _ hp hl, wsum_put2 _ _ _ _ hp hl]
    omega
  rw [sumOf_eq (fixOf_bd hz p), e1, e0]
  unfold foldR
  split <;> split <;> omega
/-- nothing else has changed -/
theorem fix_take (zs : List Int) (p : Nat) : (fixOf zs p).take p = zs.take p := by
  unfold fixOf fixZ
  rw [put2_put2]
  unfold put2
  rw [List.take_set_of_le (by omega), List.take_set_of_le (by omega)]
theorem fix_drop (zs : List Int) (p : Nat) : (fixOf zs p).drop (p + 2) = zs.drop (p + 2) := by
  unfold fixOf fixZ
  rw [put2_put2]
  unfold put2
  rw [List.drop_set_of_lt (by omega), List.drop_set_of_lt (by omega)]
/-- one word replaced -/
def sameB (was to : Int) : Bool := was == to || (was == 0 && to == 65535 || was == 65535 && to == 0)
theorem one_word {zs : List Int} (hz : ∀ x ∈ zs, 0 ≤ x ∧ x ≤ 255) (hr : sumOf zs = 65535) {k : Nat} (hk : k % 2 = 0) (hl : k + 2 ≤ zs.length) {to : Int} (h0 : 0 ≤ to) (h1 : to ≤ 65535) :
    (sumOf (put2 zs k (to / 256) (to % 256)) == 65535) = (sameB (wordAt zs k) to && someNZ (put2 zs k (to / 256) (to % 256))) := by
  have b1 : ∀ x ∈ put2 zs k (to / 256) (to % 256), 0 ≤ x ∧ x ≤ 255 := put2_bd hz (by omega) (by omega)
  have w0 := wsum_nonneg hz
  have w1 := wsum_nonneg b1
  have hw := wordAt_bd hz k
  have e1 : wsum (put2 zs k (to / 256) (to % 256)) = wsum zs - wordAt zs k + to := by
    rw [wsum_put2 _ _ _ _ hk hl]; omega
  rw [sumOf_eq hz, foldR_all w0] at hr
  have hs : someNZ (put2 zs k (to / 256) (to % 256)) = true ↔ ¬ wsum zs - wordAt zs k + to = 0 := by
    rw [← e1, wsum_zero _ b1, ← someNZ_false]; simp
  rw [Bool.eq_iff_iff]
  simp only [beq_iff_eq, Bool.and_eq_true, sameB, Bool.or_eq_true]
  rw [sumOf_eq b1, foldR_all w1, hs, e1]
  omega

/-- Update, for bytes in which a word has been replaced: T the sum of the words before, T - o + n behind -/
theorem upd_fold {T o n : Int} (hT : 0 ≤ T) (ho : 0 ≤ o) (ho' : o ≤ 65535) (hoT : o ≤ T) (hn : 0 ≤ n) (hn' : n ≤ 65535) : upd (65535 - foldR T) o n = 65535 - foldR (T - o + n + 65535) := by
  have hf := foldR_bd T
  unfold upd
  rw [foldJ0_eq _ (fun y hy => by simp at hy; omega)]
  simp only [isum]
  rw [show 65535 - (65535 - foldR T) + (65535 - o + (n + 0)) = foldR T + (65535 - o + n) from by omega, foldR_foldR hT (by omega)]
  congr 2; omega
theorem foldR_more {s : Int} (h : 0 < s) : foldR (s + 65535) = foldR s := by
  unfold foldR
  rw [if_neg (by omega), if_neg (by omega)]
  omega
/-- the checksum after one word has been replaced -/
theorem update_one {zs : List Int} (hz : ∀ x ∈ zs, 0 ≤ x ∧ x ≤ 255) {k : Nat} (hk : k % 2 = 0) (hl : k + 2 ≤ zs.length) {n : Int} (h0 : 0 ≤ n) (h1 : n ≤ 65535) :
    upd (65535 - sumOf zs) (wordAt zs k) n = (if someNZ (put2 zs k (n / 256) (n % 256)) then 65535 - sumOf (put2 zs k (n / 256) (n % 256)) else 0) := by
  have b1 : ∀ x ∈ put2 zs k (n / 256) (n % 256), 0 ≤ x ∧ x ≤ 255 := put2_bd hz (by omega) (by omega)
  have w0 := wsum_nonneg hz
  have w1 := wsum_nonneg b1
  have hw := wordAt_bd hz k
  have hwl := wordAt_le_wsum zs k hz hk (by omega)
  have e1 : wsum (put2 zs k (n / 256) (n % 256)) = wsum zs - wordAt zs k + n := by
    rw [wsum_put2 _ _ _ _ hk hl]; omega
  have hs : someNZ (put2 zs k (n / 256) (n % 256)) = true ↔ ¬ wsum zs - wordAt zs k + n = 0 := by
    rw [← e1, wsum_zero _ b1, ← someNZ_false]; simp
  rw [sumOf_eq hz, upd_fold w0 hw.1 hw.2 hwl h0 h1, sumOf_eq b1, e1]
  by_cases h : someNZ (put2 zs k (n / 256) (n % 256)) = true
  · rw [if_pos h, foldR_more (by have := hs.1 h; omega)]
  · rw [if_neg h]
    have : wsum zs - wordAt zs k + n = 0 := by
      rcases Decidable.em (wsum zs - wordAt zs k + n = 0) with h2 | h2
      · exact h2
      · exact absurd (hs.2 h2) h
    rw [this]; decide
/-- the checksum after two words, one behind the other, have been replaced -/
theorem update_two {zs : List Int} (hz : ∀ x ∈ zs, 0 ≤ x ∧ x ≤ 255) {k : Nat} (hk : k % 2 = 0) (hl : k + 4 ≤ zs.length) {n m : Int} (h0 : 0 ≤ n) (h1 : n ≤ 65535) (h2 : 0 ≤ m) (h3 : m ≤ 65535)
    (hs : someNZ (put2 (put2 zs k (n / 256) (n % 256)) (k + 2) (m / 256) (m % 256)) = true) :
    upd (upd (65535 - sumOf zs) (wordAt zs k) n) (wordAt zs (k + 2)) m = 65535 - sumOf (put2 (put2 zs k (n / 256) (n % 256)) (k + 2) (m / 256) (m % 256)) := by
  have b1 : ∀ x ∈ put2 zs k (n / 256) (n % 256), 0 ≤ x ∧ x ≤ 255 := put2_bd hz (by omega) (by omega)
  have b2 : ∀ x ∈ put2 (put2 zs k (n / 256) (n % 256)) (k + 2) (m / 256) (m % 256), 0 ≤ x ∧ x ≤ 255 := put2_bd b1 (by omega) (by omega)
  have w0 := wsum_nonneg hz
  have w1 := wsum_nonneg b1
  have w2 := wsum_nonneg b2
  have hw := wordAt_bd hz k
  have hw2 := wordAt_bd hz (k + 2)
  have hwl := wordAt_le_wsum zs k hz hk (by omega)
  have e1 : wsum (put2 zs k (n / 256) (n % 256)) = wsum zs - wordAt zs k + n := by
    rw [wsum_put2 _ _ _ _ hk (by omega)]; omega
  have ew : wordAt (put2 zs k (n / 256) (n % 256)) (k + 2) = wordAt zs (k + 2) := by
    unfold wordAt put2
    rw [List.getElem?_set_ne (by omega), List.getElem?_set_ne (by omega), List.getElem?_set_ne (by omega), List.getElem?_set_ne (by omega)]
  have hwl2 := wordAt_le_wsum _ (k + 2) b1 (by omega) (by rw [put2_len]; omega)
  rw [ew, e1] at hwl2
  have e2 : wsum (put2 (put2 zs k (n / 256) (n % 256)) (k + 2) (m / 256) (m % 256)) = wsum zs - wordAt zs k + n - wordAt zs (k + 2) + m := by
    rw [wsum_put2 _ _ _ _ (by omega) (by rw [put2_len]; omega), ew, e1]; omega
  have hs2 : ¬ wsum zs - wordAt zs k + n - wordAt zs (k + 2) + m = 0 := by
    rw [← e2]
    intro h4
    rw [wsum_zero _ b2, ← someNZ_false] at h4
    rw [h4] at hs; cases hs
  rw [sumOf_eq hz, upd_fold w0 hw.1 hw.2 hwl h0 h1, upd_fold (by omega) hw2.1 hw2.2 (by omega) h2 h3, sumOf_eq b2, e2]
  rw [foldR_more (by omega), show wsum zs - wordAt zs k + n + 65535 - wordAt zs (k + 2) + m = wsum zs - wordAt zs k + n - wordAt zs (k + 2) + m + 65535 from by omega, foldR_more (by omega)]
end Go.Proofs.YtjbkfhdbgphodaaDoor
