/- bafflekit.flatBytes: slices that share no memory. -/
import Derived.Test.YtjbkfhdbgphodaaDoorWMark
import Derived.Test.YtjbkfhdbgphodaaDoorFam
import Derived.Deep.RegionHeld3
import Derived.Deep.DrawnRows
import Derived.Deep.DeepCutAuto
namespace Go.Proofs.YtjbkfhdbgphodaaDoor
open Go.RowKit
set_option linter.unusedVariables false
attribute [local go_sem ↓] Go.wp_at_zero Go.wp_at_succ

/-- the slice of slices: its row -/
def LSR (w : World) (B : Option Addr) (L : List SD) : Prop := 0 < L.length → ∃ bl cur, B = some ⟨bl, 0, none⟩ ∧ w.heap[bl]? = some (.cells cur 22 (0, 0)) ∧ ∀ (k : Nat) (s : SD), L[k]? = some s → cur[k]? = some s.val

/-- all slices filled with their marks -/
def MK (j : Nat) (s : SD) : List Int := marksFrom j 0 s.n
/-- the first slices are filled, one of them in part -/
def MP (Z : Nat → SD → List Int) (k i : Nat) (j : Nat) (s : SD) : List Int := if j < k then MK j s else if j = k then marksFrom j 0 i ++ (Z j s).drop i else Z j s

theorem mp_set (Z : List Int) (k : Int) (i : Nat) (hi : i < Z.length) : (marksFrom k 0 i ++ Z.drop i).set i (mk8 k i) = marksFrom k 0 (i + 1) ++ Z.drop (i + 1) := by
  rw [List.set_append_right _ _ (by rw [marksFrom_len]; exact Nat.le_refl _), marksFrom_len, Nat.sub_self]
  rw [show (Z.drop i).set 0 (mk8 k i) = mk8 k i :: Z.drop (i + 1) by rw [List.drop_eq_getElem_cons hi]; rfl]
  simp [marksFrom]

theorem flat1_step {w : World} {base : Nat} {L : List SD} {Z : Nat → SD → List Int} {k i g n c : Nat} (hF : FAM 5 w base L (MP Z k i)) (hS : SEP L []) (hs : L[k]? = some ⟨some ⟨g, 0, none⟩, n, c⟩) (hin : i < n) :
    FAM 5 (w.setCell ⟨g, i, none⟩ (.int .u8 (mk8 k i))) base L (MP Z k (i + 1)) := by
  have own := hF k _ hs
  have e1 : ∀ i, MP Z k i k ⟨some ⟨g, 0, none⟩, n, c⟩ = marksFrom k 0 i ++ (Z k ⟨some ⟨g, 0, none⟩, n, c⟩).drop i := fun i => by unfold MP; rw [if_neg (by omega), if_pos rfl]
  have hl := own.len
  rw [e1] at hl own
  simp only [List.length_append, marksFrom_len, List.length_drop] at hl
  refine hF.one hs ?_ ?_ ?_
  · rw [e1, ← mp_set _ _ _ (by omega)]
    exact own.stored i (mk8 k i)
  · intro j t hj _
    unfold MP
    by_cases h1 : j < k
    · rw [if_pos h1, if_pos h1]
    · rw [if_neg h1, if_neg h1, if_neg hj, if_neg hj]
  · intro j t g' hj ht hg'
    refine Below.heap_setCell _ _ _ _ (fun h => hj ?_)
    subst h
    exact hS j k _ (.inl ⟨t, ht, hg'⟩) (.inl ⟨_, hs, rfl⟩)
theorem flat1_end {w : World} {base : Nat} {L : List SD} {Z : Nat → SD → List Int} {k : Nat} {s : SD} (hF : FAM 5 w base L (MP Z k s.n)) (hs : L[k]? = some s) : FAM 5 w base L (MP Z (k + 1) 0) := by
  refine hF.congr (fun j t ht => ?_)
  unfold MP
  by_cases h1 : j < k
  · rw [if_pos h1, if_pos (by omega)]
  · by_cases h2 : j = k
    · subst h2
      rw [hs] at ht; injection ht with ht; subst ht
      have hl := (hF j s hs).len
      unfold MP at hl
      rw [if_neg (by omega), if_pos rfl] at hl
      simp only [List.length_append, marksFrom_len, List.length_drop] at hl
      rw [if_neg (by omega), if_pos rfl, if_pos (by omega), List.drop_eq_nil_of_le (by omega), List.append_nil]
      rfl
    · rw [if_neg h1, if_neg h2, if_neg (by omega)]
      by_cases h3 : j = k + 1
      · rw [if_pos h3]; simp [marksFrom]
      · rw [if_neg h3]

theorem infoU8s : (Tryd.prog.info? 22).map (fun i => (i.zero, i.size, i.bytes)) = some (some (.slice none 0 0), 1, 24) := by kernel_rfl

/-- the second slices so far: their row, and that they share no memory -/
structure G3 (Y : Nat → SD → List Int) (R : List Value) (w : World) (base G : Nat) (B : Option Addr) (L L2 : List SD) : Prop where
  fam : FAM 5 w base L MK
  ls : LSR w B L
  fam2 : FAM 5 w base L2 Y
  sep : SEP L L2
  lens : ∀ (j : Nat) (s t : SD), L[j]? = some s → L2[j]? = some t → t.n = s.n + 64
  row : w.heap[G]? = some (.cells (L2.map SD.val ++ R).toArray 22 (0, 0))
  far : base ≤ G
  apart : ∀ bl, B = some ⟨bl, 0, none⟩ → 0 < L.length → bl ≠ G

/-- a step of the world that touches none of the rows, and of the slices none but slice k's own -/
theorem G3.step {Y : Nat → SD → List Int} {R : List Value} {w w' : World} {base G k : Nat} {B : Option Addr} {L L2 : List SD} {s : SD} (h : G3 Y R w base G B L L2) (hs : L[k]? = some s) (hk2 : L2[k]? = none)
    (hrow : w'.heap[G]? = w.heap[G]?) (hbl : ∀ bl, B = some ⟨bl, 0, none⟩ → 0 < L.length → w'.heap[bl]? = w.heap[bl]?)
    (hoth : ∀ (j g : Nat), j ≠ k → BLK L L2 j g → w'.heap[g]? = w.heap[g]?) (ho : OWN .u8 5 w' base s.A s.n s.c (MK k s)) : G3 Y R w' base G B L L2 where
  fam := h.fam.one hs ho (fun _ _ _ _ => rfl) (fun j t g hj ht hg => hoth j g hj (.inl ⟨t, ht, hg⟩))
  ls := fun h0 => by
    obtain ⟨bl, cur, e1, e2, e3⟩ := h.ls h0
    exact ⟨bl, cur, e1, (hbl bl e1 h0).trans e2, e3⟩
  fam2 := h.fam2.keep (fun j t g ht hg => hoth j g (fun e => by rw [e, hk2] at ht; cases ht) (.inr ⟨t, ht, hg⟩))
  sep := h.sep
  lens := h.lens
  row := hrow.trans h.row
  far := h.far
  apart := h.apart

theorem marksFrom_take (k : Int) (a : Nat) : ∀ m n, n ≤ m → (marksFrom k a m).take n = marksFrom k a n := by
  intro m
  induction m with
  | zero => intro n hn; have : n = 0 := by omega
            rw [this]; rfl
  | succ m ih =>
    intro n hn
    rcases Nat.lt_or_ge m n with h | h
    · obtain rfl : n = m + 1 := by omega
      exact List.take_of_length_le (by rw [marksFrom_len]; exact Nat.le_refl _)
    · simp only [marksFrom]
      rw [List.take_append_of_le_length (by rw [marksFrom_len]; exact h)]
      exact ih n h

theorem g3_start {w w2 : World} {base m : Nat} {B : Option Addr} {L : List SD} (hF : FAM 5 w base L MK) (hL : LSR w B L) (hS : SEP L []) (hb : base ≤ w.heap.size)
    (hown : w2.ownsRow base 22 1 (.slice (some ⟨w.heap.size, 0, none⟩) m m) m (madeCells (Value.slice none 0 0).cells (m * 1)).toList) (hg : w.grownBy w2 none) : G3 MK (List.replicate m (.slice none 0 0)) w2 base w.heap.size B L [] where
  fam := hF.keep (fun j s g hs hg' => hg.block g (hF.lt hs hg').2 (by simp))
  ls := fun h0 => by
    obtain ⟨bl, cur, e1, e2, e3⟩ := hL h0
    exact ⟨bl, cur, e1, (hg.block bl (Array.getElem?_eq_some_iff.1 e2).1 (by simp)).trans e2, e3⟩
  fam2 := fun j s hs => by simp at hs
  sep := hS
  lens := fun j s t _ ht => by simp at ht
  row := by
    rcases hown.2 with ⟨h1, _⟩ | ⟨g, cap, cur, h1, _, h3, _, _, h6, h7⟩
    · simp at h1
    · simp at h1
      obtain ⟨rfl, rfl⟩ := h1
      rw [h3]
      have : cur.toList = List.replicate m (.slice none 0 0) := by
        rw [List.take_of_length_le (by simp [h6])] at h7
        rw [h7, Nat.mul_one]
        exact toList_madeCells_one _ _
      simp [← this]
  far := hb
  apart := fun bl e h0 => by
    obtain ⟨bl', cur, e1, e2, _⟩ := hL h0
    rw [e] at e1; simp at e1; subst e1
    have := (Array.getElem?_eq_some_iff.1 e2).1
    omega

/-- in the midst of one slice's appends -/
structure I3 (Y : Nat → SD → List Int) (R : List Value) (w : World) (base G H : Nat) (B : Option Addr) (L L2 : List SD) (k i : Nat) (s : SD) (A' : Option Addr) (c' : Nat) : Prop where
  g3 : G3 Y R w base G B L L2
  own : OWN .u8 5 w base A' (s.n + i) c' (marksFrom k 0 (s.n + i))
  alt : (A' = s.A ∧ c' = s.c) ∨ ∃ g', A' = some ⟨g', 0, none⟩ ∧ H ≤ g'
  hH : H ≤ w.heap.size
  lt : ∀ (j g : Nat), BLK L L2 j g → g < H
  ltG : G < H
  ltB : ∀ bl, B = some ⟨bl, 0, none⟩ → 0 < L.length → bl < H

/-- what an append to the slice in work leaves alone -/
theorem I3.after {Y : Nat → SD → List Int} {R : List Value} {w w0 w' : World} {base G H k i : Nat} {B : Option Addr} {L L2 : List SD} {s : SD} {A' : Option Addr} {c' : Nat} (h : I3 Y R w base G H B L L2 k i s A' c') (hs : L[k]? = some s) (hk2 : L2[k]? = none)
    (hw0 : ∀ b, b < H → w0.heap[b]? = w.heap[b]?) (hH0 : H ≤ w0.heap.size) {A2 : Option Addr} {n2 c2 : Nat} {zs : List Int} (ha : APP .u8 5 w0 w' base A' A2 (s.n + i) n2 c' c2 (marksFrom k 0 (s.n + i)) zs) :
    G3 Y R w' base G B L L2 := by
  have keep : ∀ b, b < H → A'.map (·.block) ≠ some b → w'.heap[b]? = w.heap[b]? := fun b hb hne => (ha.grown.block b (by omega) (fun e => hne e.symm)).trans (hw0 b hb)
  have hbk : ∀ g, A' = some ⟨g, 0, none⟩ → A'.map (·.block) = some g := fun g e => by rw [e]; rfl
  have fresh : ∀ b, b < H → (∀ g, s.A = some ⟨g, 0, none⟩ → b ≠ g) → A'.map (·.block) ≠ some b := by
    intro b hb hn
    rcases h.alt with ⟨e1, _⟩ | ⟨g', e1, e2⟩
    · rw [e1]
      intro he
      have hx := (h.g3.fam k s hs).cases
      rcases hx with ⟨e3, _⟩ | ⟨g, e3, _⟩
      · rw [e3] at he; cases he
      · rw [e3] at he; simp at he; exact hn g e3 he.symm
    · rw [hbk g' e1]
      intro he; simp at he; omega
  refine h.g3.step hs hk2 (keep G h.ltG (fresh G h.ltG fun g hg => fun e => ?_)) (fun bl e1 h0 => keep bl (h.ltB bl e1 h0) (fresh bl (h.ltB bl e1 h0) fun g hg => fun e => ?_)) (fun j g hj hb => keep g (h.lt j g hb) (fresh g (h.lt j g hb) fun g' hg' e => ?_)) ?_
  · exact (h.g3.fam k s hs).ne_row hg h.g3.row (by decide) e.symm
  · obtain ⟨bl', cur, e2, e3, _⟩ := h.g3.ls h0
    rw [e1] at e2; simp at e2; subst e2
    exact (h.g3.fam k s hs).ne_row hg e3 (by decide) e.symm
  · subst e
    exact hj (h.g3.sep j k g hb (.inl ⟨s, hs, hg'⟩))
  · rcases h.alt with ⟨e1, e2⟩ | ⟨g', e1, e2⟩
    · have := ha.old.cut (m := s.n) (by omega)
      rw [marksFrom_take _ _ _ _ (by omega), e1, e2] at this
      exact this
    · refine (h.g3.fam k s hs).keep fun g hg => keep g (h.lt k g (.inl ⟨s, hs, hg⟩)) ?_
      have := h.lt k g (.inl ⟨s, hs, hg⟩)
      rw [hbk g' e1]
      intro he; simp at he; omega

theorem I3.next {Y : Nat → SD → List Int} {R : List Value} {w w' : World} {base G H k i : Nat} {B : Option Addr} {L L2 : List SD} {s : SD} {A' : Option Addr} {c' : Nat} (h : I3 Y R w base G H B L L2 k i s A' c') (hs : L[k]? = some s) (hk2 : L2[k]? = none)
    {o : Obj} {A2 : Option Addr} {c2 : Nat} (ha : APP .u8 5 (w.alloc o) w' base A' A2 (s.n + i) (s.n + i + 1) c' c2 (marksFrom k 0 (s.n + i)) (marksFrom k 0 (s.n + i) ++ [mk8 k (s.n + i : Nat)])) :
    I3 Y R w' base G H B L L2 k (i + 1) s A2 c2 where
  g3 := h.after hs hk2 (fun b hb => Below.heap_alloc w o b (by have := h.hH; omega)) (by have := h.hH; simp; omega) ha
  own := by
    have := ha.own
    rw [show marksFrom k 0 (s.n + i) ++ [mk8 k (s.n + i : Nat)] = marksFrom k 0 (s.n + i + 1) by simp [marksFrom]] at this
    exact this
  alt := by
    rcases ha.lies with ⟨e1, e2⟩ | ⟨_, e1⟩
    · rcases h.alt with ⟨e3, e4⟩ | ⟨g', e3, e4⟩
      · exact .inl ⟨e1.trans e3, e2.trans e4⟩
      · exact .inr ⟨g', e1.trans e3, e4⟩
    · exact .inr ⟨_, e1, by have := h.hH; simp; omega⟩
  hH := Nat.le_trans h.hH (Nat.le_trans (by simp) ha.grown.size)
  lt := h.lt
  ltG := h.ltG
  ltB := h.ltB

theorem G3.bound {Y : Nat → SD → List Int} {R : List Value} {w : World} {base G : Nat} {B : Option Addr} {L L2 : List SD} (h : G3 Y R w base G B L L2) :
    (∀ (j g : Nat), BLK L L2 j g → g < w.heap.size) ∧ G < w.heap.size ∧ (∀ bl, B = some ⟨bl, 0, none⟩ → 0 < L.length → bl < w.heap.size) := by
  refine ⟨fun j g hb => ?_, (Array.getElem?_eq_some_iff.1 h.row).1, fun bl e h0 => ?_⟩
  · rcases hb with ⟨s, h1, h2⟩ | ⟨s, h1, h2⟩
    · exact (h.fam.lt h1 h2).2
    · exact (h.fam2.lt h1 h2).2
  · obtain ⟨bl', cur, e1, e2, _⟩ := h.ls h0
    rw [e] at e1; simp at e1; subst e1
    exact (Array.getElem?_eq_some_iff.1 e2).1
theorem I3.start {Y : Nat → SD → List Int} {R : List Value} {w : World} {base G k : Nat} {B : Option Addr} {L L2 : List SD} {s : SD} (h : G3 Y R w base G B L L2) (hs : L[k]? = some s) : I3 Y R w base G w.heap.size B L L2 k 0 s s.A s.c where
  g3 := h
  own := h.fam k s hs
  alt := .inl ⟨rfl, rfl⟩
  hH := Nat.le_refl _
  lt := h.bound.1
  ltG := h.bound.2.1
  ltB := h.bound.2.2
/-- the cell of the second row that comes next -/
theorem G3.next_cell {Y : Nat → SD → List Int} {x : Value} {R : List Value} {w : World} {base G : Nat} {B : Option Addr} {L L2 : List SD} (h : G3 Y (x :: R) w base G B L L2) : w.cell? ⟨G, L2.length, none⟩ = some x ∧ w.frozen? ⟨G, L2.length, none⟩ = false := by
  refine ⟨?_, frozen_of_row w G _ _ 22 h.row⟩
  rw [cell_of_row w G _ _ 22 (0, 0) h.row]
  simp
theorem G3.put {Y : Nat → SD → List Int} {x : Value} {R : List Value} {w : World} {base G : Nat} {B : Option Addr} {L L2 : List SD} {s : SD} (h : G3 Y (x :: R) w base G B L L2) (hs : L[L2.length]? = some s) {A' : Option Addr} {n' c' : Nat} (hn' : n' = s.n + 64)
    (ho : OWN .u8 5 w base A' n' c' (Y L2.length ⟨A', n', c'⟩)) (alt : A' = s.A ∨ ∃ g', A' = some ⟨g', 0, none⟩ ∧ ∀ (j g : Nat), BLK L L2 j g → g ≠ g') :
    G3 Y R (w.setCell ⟨G, L2.length, none⟩ (.slice A' n' c')) base G B L (L2 ++ [⟨A', n', c'⟩]) := by
  have keep : ∀ b, b ≠ G → (w.setCell ⟨G, L2.length, none⟩ (.slice A' n' c')).heap[b]? = w.heap[b]? := fun b hb => Below.heap_setCell _ _ _ _ hb
  have hfam2 : FAM 5 (w.setCell ⟨G, L2.length, none⟩ (.slice A' n' c')) base L2 Y := h.fam2.keep (fun j t g ht hg => keep g ((h.fam2 j t ht).ne_row hg h.row (by decide)))
  have hnew : ∀ (j g : Nat), BLK L (L2 ++ [⟨A', n', c'⟩]) j g → BLK L L2 j g ∨ (j = L2.length ∧ A' = some ⟨g, 0, none⟩) := by
    rintro j g (hb | ⟨t, h1, h2⟩)
    · exact .inl (.inl hb)
    · rcases Nat.lt_trichotomy j L2.length with hj | hj | hj
      · rw [List.getElem?_append_left hj] at h1; exact .inl (.inr ⟨t, h1, h2⟩)
      · subst hj; simp at h1; subst h1; exact .inr ⟨rfl, h2⟩
      · rw [List.getElem?_append_right (by omega), List.getElem?_eq_none (by simp; omega)] at h1; cases h1
  exact {
    fam := h.fam.keep (fun j t g ht hg => keep g ((h.fam j t ht).ne_row hg h.row (by decide)))
    ls := fun h0 => by
      obtain ⟨bl, cur, e1, e2, e3⟩ := h.ls h0
      exact ⟨bl, cur, e1, (keep bl (h.apart bl e1 h0)).trans e2, e3⟩
    fam2 := hfam2.snoc (ho.keep fun g hg => keep g (ho.ne_row hg h.row (by decide)))
    sep := by
      have own : ∀ (j g : Nat), BLK L L2 j g → A' = some ⟨g, 0, none⟩ → j = L2.length := by
        intro j g hb e
        rcases alt with e1 | ⟨g', e1, e2⟩
        · exact h.sep j L2.length g hb (.inl ⟨s, hs, e1.symm.trans e⟩)
        · rw [e] at e1; simp at e1; exact absurd e1 (e2 j g hb)
      intro i j g hi hj
      rcases hnew i g hi with h1 | ⟨h1, h1'⟩ <;> rcases hnew j g hj with h2 | ⟨h2, h2'⟩
      · exact h.sep i j g h1 h2
      · rw [h2]; exact own i g h1 h2'
      · rw [h1]; exact (own j g h2 h1').symm
      · rw [h1, h2]
    lens := fun j u t hu ht => by
      rcases Nat.lt_trichotomy j L2.length with hj | hj | hj
      · rw [List.getElem?_append_left hj] at ht; exact h.lens j u t hu ht
      · subst hj; rw [hs] at hu; simp at hu ht; subst hu; subst ht; exact hn'
      · rw [List.getElem?_append_right (by omega), List.getElem?_eq_none (by simp; omega)] at ht; cases ht
    row := by
      rw [heap_setCell_same w G L2.length _ 22 _ h.row]
      congr 2
      apply Array.ext'
      simp [SD.val]
    far := h.far
    apart := h.apart }

theorem own_mark {w : World} {base k n c i : Nat} {A : Option Addr} {zs : List Int} (h : OWN .u8 5 w base A n c zs) {l : Nat} (hz : zs.take l = marksFrom k 0 l) (hl : i < l) (hn : l ≤ n) : ∃ g, A = some ⟨g, 0, none⟩ ∧ w.cell? ⟨g, i, none⟩ = some (.int .u8 (mk8 k i)) := by
  obtain ⟨g, rfl, _⟩ := h.form (by omega)
  refine ⟨g, rfl, ?_⟩
  rw [h.cell (by omega)]
  have h1 : zs[i]?.getD 0 = (zs.take l)[i]?.getD 0 := by rw [List.getElem?_take, if_pos hl]
  rw [h1, hz, marksFrom_get k 0 l i hl]
  simp

theorem G3.drewN {Y : Nat → SD → List Int} {R : List Value} {w : World} {base G : Nat} {B : Option Addr} {L L2 : List SD} (h : G3 Y R w base G B L L2) (q : Nat) : G3 Y R (w.drewN q) base G B L L2 := ⟨h.fam, h.ls, h.fam2, h.sep, h.lens, h.row, h.far, h.apart⟩
/-- the slices behind the second round of appends -/
def MX (m : Nat) (j : Nat) (s : SD) : List Int := marksFrom j 0 (s.n - 64) ++ marksFrom (j + m : Nat) 0 64
theorem G3.again {w : World} {base G : Nat} {B : Option Addr} {L L2 : List SD} (h : G3 MK [] w base G B L L2) (m : Nat) : G3 (MX m) (L2.map SD.val) w base G B L [] where
  fam := h.fam
  ls := h.ls
  fam2 := fun j s hs => by simp at hs
  sep := fun i j g hi hj => h.sep i j g (hi.elim .inl (fun ⟨s, h1, _⟩ => by simp at h1)) (hj.elim .inl (fun ⟨s, h1, _⟩ => by simp at h1))
  lens := fun j s t _ ht => by simp at ht
  row := by have := h.row; simpa using this
  far := h.far
  apart := h.apart
/-- a step of the world that touches nothing below H -/
theorem G3.above {Y : Nat → SD → List Int} {R : List Value} {w w' : World} {base G H : Nat} {B : Option Addr} {L L2 : List SD} (h : G3 Y R w base G B L L2)
    (hb : (∀ (j g : Nat), BLK L L2 j g → g < H) ∧ G < H ∧ (∀ bl, B = some ⟨bl, 0, none⟩ → 0 < L.length → bl < H)) (hk : ∀ b, b < H → w'.heap[b]? = w.heap[b]?) : G3 Y R w' base G B L L2 where
  fam := h.fam.keep (fun j t g ht hg => hk g (hb.1 j g (.inl ⟨t, ht, hg⟩)))
  ls := fun h0 => by
    obtain ⟨bl, cur, e1, e2, e3⟩ := h.ls h0
    exact ⟨bl, cur, e1, (hk bl (hb.2.2 bl e1 h0)).trans e2, e3⟩
  fam2 := h.fam2.keep (fun j t g ht hg => hk g (hb.1 j g (.inr ⟨t, ht, hg⟩)))
  sep := h.sep
  lens := h.lens
  row := (hk G hb.2.1).trans h.row
  far := h.far
  apart := h.apart
theorem made64 {w : World} {base g : Nat} (h : w.ownsRow base 5 1 (.slice (some ⟨g, 0, none⟩) 64 64) 64 (madeCells (Value.int .u8 0).cells (64 * 1)).toList) : OWN .u8 5 w base (some ⟨g, 0, none⟩) 64 64 (List.replicate 64 0) := by
  unfold OWN
  rw [show (List.replicate 64 (0 : Int)).map (Value.int .u8) = (madeCells (Value.int .u8 0).cells (64 * 1)).toList by rw [Nat.mul_one, List.map_replicate]; exact (toList_madeCells_one _ _).symm]
  exact h
theorem many_set (k : Int) (i : Nat) (hi : i < 64) : (marksFrom k 0 i ++ List.replicate (64 - i) 0).set i (mk8 k i) = marksFrom k 0 (i + 1) ++ List.replicate (64 - (i + 1)) 0 := by
  rw [List.set_append_right _ _ (by rw [marksFrom_len]; exact Nat.le_refl _), marksFrom_len, Nat.sub_self, show 64 - i = 64 - (i + 1) + 1 from by omega]
  simp [marksFrom, List.replicate_succ]

set_option maxHeartbeats 8000000 in
set_option maxRecDepth 100000 in
theorem flat_any (B : Option Addr) (cB base : Nat) (L : List SD) (Z : Nat → SD → List Int) (w : World) (hB : LSR w B L) (hF : FAM 5 w base L Z) (hS : SEP L []) (hm : L.length ≤ 1000) (hn : ∀ (j : Nat) (s : SD), L[j]? = some s → s.n ≤ 140737488351232) (hbase : base ≤ w.heap.size) :
    Calls Tryd.prog 73 #[.slice B L.length cB] w fun e w' => e = .returned (.bool true) ∧ BES base (LB L) w w' := by
  obtain ⟨i0, hi, hz0, hz1, hz2⟩ := info_parts infoU8
  obtain ⟨m, hml⟩ : ∃ m, m = L.length := ⟨_, rfl⟩
  rw [← hml] at hm ⊢
  have HM := Lib.hid hml
  have HS := Lib.hid hS
  have HN := Lib.hid hn
  have HLS := Lib.hid hB
  clear hml hS hn hB
  go_enter Tryd.func73, Tryd.ntmps73
  go_wp2_with fail
  go_loopw [3] (fun i wr => ∃ k : Nat, k ≤ m ∧ i = .int .i64 k ∧ Hid (FAM 5 wr base L (MP Z k 0)) ∧ Hid (LSR wr B L) ∧ BES base (LB L) w wr) (fun i _ => m - (intOf i).toNat)
  case atStart => exact ⟨0, Nat.zero_le _, rfl, hF.congr (fun j s _ => by unfold MP; rw [if_neg (by omega)]; split <;> simp [marksFrom]), HLS, BES.refl _ _ _⟩
  case round =>
    obtain ⟨k, hk, rfl, HF, HL, HB⟩ := hrel
    clear hF HLS
    by_cases hlt : k < m
    · obtain ⟨s, hs⟩ : ∃ s, L[k]? = some s := ⟨_, List.getElem?_eq_getElem (by rw [← HM.out]; exact hlt)⟩
      obtain ⟨bl, cur, rfl, hbl, hcur⟩ := HL.out (by rw [← HM.out]; omega)
      have hc := hcur k s hs
      have hsn := HN.out k s hs
      obtain ⟨wo, rfl⟩ : ∃ wo : World, wo = wr := ⟨_, rfl⟩
      have x0 : wo.cell? ⟨bl, k, none⟩ = some (.slice s.A s.n s.c) := (cell_of_row wo bl k cur 22 (0, 0) hbl).trans hc
      have HBL := Lib.hid hbl
      have HC := Lib.hid hcur
      have Hs := Lib.hid hs
      clear hc hbl hcur hs
      obtain ⟨A, n, c⟩ := s
      dsimp only at x0 hsn
      go_wp2_with fail
      go_loopw [4] (fun i wr => ∃ k2 : Nat, k2 ≤ n ∧ i = .int .i64 k2 ∧ Hid (FAM 5 wr base L (MP Z k k2)) ∧ Hid (wr.heap[bl]? = some (.cells cur 22 (0, 0))) ∧ BES base (LB L) w wr ∧ wr.cell? ⟨bl, k, none⟩ = some (.slice A n c)) (fun i _ => n - (intOf i).toNat)
      case atStart => exact ⟨0, Nat.zero_le _, rfl, HF, HBL, HB, x0⟩
      case round =>
        obtain ⟨i, hi2, rfl, HF2, HBL2, HB2, x1⟩ := hrel
        clear HF HBL HB x0
        by_cases hlt2 : i < n
        · have own := HF2.out k ⟨A, n, c⟩ Hs.out
          dsimp only at own
          obtain ⟨g, rfl, hg1, hg2, hnc, hcm⟩ := own.form (by omega)
          have hgb : g ≠ bl := own.ne_row rfl HBL2.out (by decide)
          have hgb2 : bl ≠ g := fun h => hgb h.symm
          have x2 := own.cell (i := i) (by omega)
          have x3 := own.frozen i
          generalize (MP Z k i k ⟨some ⟨g, 0, none⟩, n, c⟩)[i]?.getD 0 = old at x2
          have OW := Lib.hid own
          clear own
          have i1 : (0 : Int) ≤ (k : Int) := by omega
          have i2 : (k : Int) < (m : Int) := by omega
          have i3 : (0 : Int) ≤ (i : Int) := by omega
          have i4 : (i : Int) < (n : Int) := by omega
          go_wp2_with fail
          go_region_held3 (fun w' => w'.cell? ⟨bl, k, none⟩ = some (.slice (some ⟨g, 0, none⟩) n c)) (go_keep)
            ((go_at_call 59; refine (markByte_any _ _ _ ?_ ?_ ?_ ?_).mono ?_; omega; omega; omega; omega; rintro e w' ⟨rfl, rfl⟩))
          go_wp2_with fail
          go_roundw
          case rel => exact ⟨i + 1, by omega, by go_num, flat1_step HF2.out HS.out Hs.out hlt2, (Below.heap_setCell _ _ _ _ hgb2).trans HBL2.out, (HB2.setCell (p := ⟨g, i, none⟩) hg1 (.inl ⟨k, _, Hs.out, rfl⟩) _).drew, (World.cell?_setCell_other _ _ _ _ (by simp)).trans x1⟩
          case measure => simp [intOf]; omega
        · obtain rfl : n = i := by omega
          have HF3 := Lib.hid (flat1_end (s := ⟨A, n, c⟩) HF2.out Hs.out)
          have HL3 := Lib.hid (show LSR wr (some ⟨bl, 0, none⟩) L from fun _ => ⟨bl, cur, rfl, HBL2.out, HC.out⟩)
          go_wp2_with fail
          go_roundw
          case rel => exact ⟨k + 1, by omega, by go_num, HF3, HL3, HB2⟩
          case measure => simp [intOf]; omega
    · have HF3 := Lib.hid (show FAM 5 wr base L MK from HF.out.congr (fun j s hs => by
        have : j < L.length := (List.getElem?_eq_some_iff.1 hs).1
        rw [← HM.out] at this
        unfold MP; rw [if_pos (by omega)]))
      clear HF
      obtain ⟨j0, hj, hy0, hy1, hy2⟩ := info_parts infoU8s
      go_wp2_with (at_make; refine wpList_make_full _ rfl _ _ _ rfl base 22 j0 (.slice none 0 0) 1 Tryd.underlying71 hj hy0 hy1 .i64 .i64 _ _ m rfl rfl rfl rfl (by rw [hy2]; omega) (by simp only [maxLen]; omega) (Nat.le_trans hbase HB.size) ?_; intro w2 hown2 hg2)
      have HG := Lib.hid (g3_start HF3.out HL.out HS.out (Nat.le_trans hbase HB.size) hown2 hg2)
      have hGw := HB.size
      have HB2 : BES base (LB L) w w2 := HB.grown hg2 (Nat.le_trans hbase HB.size) (by simp)
      clear hown2 hg2 HF3 HL HB
      generalize wr.heap.size = G at HG hGw ⊢
      clear hk hlt
      go_loopw [6] (fun i wr => ∃ (k : Nat) (L2 : List SD), k ≤ m ∧ i = .int .i64 k ∧ Hid (L2.length = k) ∧ Hid (G3 MK (List.replicate (m - k) (.slice none 0 0)) wr base G B L L2) ∧ BES base (LB L) w wr) (fun i _ => m - (intOf i).toNat)
      case atStart => exact ⟨0, [], Nat.zero_le _, rfl, rfl, HG, HB2⟩
      case round =>
        obtain ⟨k, L2, hk, rfl, H2, HG3, HB3⟩ := hrel
        clear HG HB2
        by_cases hlt : k < m
        · obtain ⟨s, hs⟩ : ∃ s, L[k]? = some s := ⟨_, List.getElem?_eq_getElem (by rw [← HM.out]; exact hlt)⟩
          obtain ⟨bl, cur, rfl, hbl, hcur⟩ := HG3.out.ls (by rw [← HM.out]; omega)
          have hc := hcur k s hs
          have hsn := HN.out k s hs
          have hk2 : L2[k]? = none := List.getElem?_eq_none (by rw [H2.out]; exact Nat.le_refl _)
          obtain ⟨wo, rfl⟩ : ∃ wo : World, wo = wr := ⟨_, rfl⟩
          have x0 : wo.cell? ⟨bl, k, none⟩ = some (.slice s.A s.n s.c) := (cell_of_row wo bl k cur 22 (0, 0) hbl).trans hc
          have HI0 := Lib.hid (I3.start HG3.out hs)
          have Hs := Lib.hid hs
          have Hk2 := Lib.hid hk2
          clear hc hbl hcur hs hk2 HG3
          obtain ⟨A, n, c⟩ := s
          dsimp only at x0 hsn HI0
          have hwb := HB3.size
          generalize wo.heap.size = Hh at HI0 hwb
          go_wp2_with fail
          go_loopw [7, 8] (fun v i wr => ∃ (i2 : Nat) (A' : Option Addr) (c' : Nat), i2 ≤ 64 ∧ i = .int .i64 i2 ∧ v = .slice A' (n + i2) c' ∧ Hid (I3 MK (List.replicate (m - k) (.slice none 0 0)) wr base G Hh (some ⟨bl, 0, none⟩) L L2 k i2 ⟨A, n, c⟩ A' c') ∧ BES base (LB L) w wr) (fun _ i _ => 64 - (intOf i).toNat)
          case atStart => exact ⟨0, A, c, Nat.zero_le _, rfl, rfl, HI0, HB3⟩
          case round =>
            obtain ⟨i, A', c', hi64, rfl, rfl, HI, HB4⟩ := hrel
            clear HI0 HB3 x0
            by_cases hlt2 : i < 64
            · obtain ⟨bl', cur', e1, hbl, hcur⟩ := HI.out.g3.ls (by rw [← HM.out]; omega)
              obtain rfl : bl = bl' := by simpa using e1
              have x0 : wr.cell? ⟨bl, k, none⟩ = some (.slice A n c) := (cell_of_row wr bl k cur' 22 (0, 0) hbl).trans (hcur k _ Hs.out)
              clear e1 hbl hcur
              have own := HI.out.own
              dsimp only at own
              have hHH := HI.out.hH
              obtain ⟨mb1, mb2⟩ := mk8_bd k (n + i)
              go_wp2_with (first
                | (go_at_call 59; refine (markByte_any _ _ _ (by omega) (by omega) (by omega) (by omega)).mono ?_; rintro e w' ⟨rfl, rfl⟩)
                | (at_builtin; refine wpList_append_rd _ rfl _ _ _ rfl .u8 base 5 i0 1 Tryd.underlying22 hi hz0 hz1 hz2 A' (n + i) c' (marksFrom k 0 (n + i)) rfl (own.alloc _) (wr.heap.size + 1) (some ⟨wr.heap.size, 0, none⟩) 1 1 [mk8 k (n + i)] rfl (RD.new' wr .u8 5 [mk8 k (n + i)] rfl (by omega) rfl) (by simp only [maxLen]; omega) (by omega) (by have := HB4.size; simp; omega) ?_; intro A3 c3 w3 happ))
              have HB5 : BES base (LB L) w w3 := (HB4.alloc (Nat.le_trans hbase HB4.size) _).grown happ.grown (by have := HB4.size; simp; omega) (fun g hg => by
                rcases own.cases with ⟨rfl, _⟩ | ⟨g', rfl, hg', _⟩
                · simp at hg
                · simp at hg
                  subst hg
                  refine ⟨hg', ?_⟩
                  rcases HI.out.alt with ⟨e1, _⟩ | ⟨g2, e1, e2⟩
                  · exact .inl ⟨k, _, Hs.out, e1.symm⟩
                  · simp at e1
                    subst e1
                    exact .inr (by omega))
              have HI2 := Lib.hid (HI.out.next Hs.out Hk2.out (by simpa using happ))
              go_roundw
              case rel => exact ⟨i + 1, A3, c3, by omega, by go_num, rfl, HI2, HB5⟩
              case measure => simp [intOf]; omega
            · obtain rfl : 64 = i := by omega
              have hrep : List.replicate (m - k) (Value.slice none 0 0) = .slice none 0 0 :: List.replicate (m - (k + 1)) (.slice none 0 0) := by
                rw [show m - k = m - (k + 1) + 1 from by omega]; rfl
              rw [hrep] at HI
              have hL2 := H2.out
              obtain ⟨y1, y2⟩ := HI.out.g3.next_cell
              rw [hL2] at y1 y2
              have hgf := HI.out.g3.far
              have HP := Lib.hid (HI.out.g3.put (s := ⟨A, n, c⟩) (by rw [hL2]; exact Hs.out) rfl (by rw [hL2]; exact HI.out.own) (by
                rcases HI.out.alt with ⟨e1, _⟩ | ⟨g', e1, e2⟩
                · exact .inl e1
                · exact .inr ⟨g', e1, fun j g hb => by have := HI.out.lt j g hb; omega⟩))
              rw [hL2] at HP
              have H3 := Lib.hid (show (L2 ++ [(⟨A', n + 64, c'⟩ : SD)]).length = k + 1 by simp [hL2])
              clear hrep hL2
              go_wp2_with fail
              go_roundw
              case rel => exact ⟨k + 1, L2 ++ [⟨A', n + 64, c'⟩], by omega, by go_num, H3, HP, HB4.setCell (p := ⟨G, k, none⟩) hgf (.inr hGw) _⟩
              case measure => simp [intOf]; omega
        · obtain rfl : m = k := by omega
          rw [Nat.sub_self] at HG3
          clear hk hlt
          obtain ⟨w5, rfl⟩ : ∃ w5 : World, w5 = wr := ⟨_, rfl⟩
          go_wp2_with fail
          go_loopw [9] (fun i wr => ∃ k : Nat, k ≤ m ∧ i = .int .i64 k ∧ ∃ q, wr = w5.drewN q) (fun i _ => m - (intOf i).toNat)
          case atStart => exact ⟨0, Nat.zero_le _, rfl, 0, rfl⟩
          case round =>
            obtain ⟨k, hk, rfl, q, rfl⟩ := hrel
            by_cases hlt : k < m
            · obtain ⟨s, hs⟩ : ∃ s, L[k]? = some s := ⟨_, List.getElem?_eq_getElem (by rw [← HM.out]; exact hlt)⟩
              obtain ⟨t, ht⟩ : ∃ t, L2[k]? = some t := ⟨_, List.getElem?_eq_getElem (by rw [H2.out]; exact hlt)⟩
              obtain ⟨bl, cur, rfl, hbl, hcur⟩ := HG3.out.ls (by rw [← HM.out]; omega)
              have x0 : w5.cell? ⟨bl, k, none⟩ = some (.slice s.A s.n s.c) := (cell_of_row w5 bl k cur 22 (0, 0) hbl).trans (hcur k s hs)
              have x1 : w5.cell? ⟨G, k, none⟩ = some (.slice t.A t.n t.c) := by
                rw [cell_of_row w5 G k _ 22 (0, 0) HG3.out.row]
                simp [ht, SD.val]
              have hsn := HN.out k s hs
              have htn := HG3.out.lens k s t hs ht
              have o1 := Lib.hid (HG3.out.fam k s hs)
              have o2 := Lib.hid (HG3.out.fam2 k t ht)
              clear hbl hcur hs ht
              obtain ⟨A, n, c⟩ := s
              obtain ⟨A2, n2, c2⟩ := t
              dsimp only at x0 x1 hsn htn o1 o2
              have hn2 : n2 ≤ n + 64 := by omega
              have hn3 : n ≤ n2 := by omega
              clear htn
              go_wp2_with fail
              go_loopw [10] (fun i wr => ∃ i2 : Nat, i2 ≤ n2 ∧ i = .int .i64 i2 ∧ ∃ q, wr = w5.drewN q) (fun i _ => n2 - (intOf i).toNat)
              case atStart => exact ⟨0, Nat.zero_le _, rfl, q, rfl⟩
              case round =>
                obtain ⟨i, hi2, rfl, q2, rfl⟩ := hrel
                have i1 : (0 : Int) ≤ (k : Int) := by omega
                have i2 : (k : Int) < (m : Int) := by omega
                have i3 : (0 : Int) ≤ (i : Int) := by omega
                by_cases hlt2 : i < n2
                · obtain ⟨g2, rfl, x3⟩ := own_mark o2.out (l := n2) (List.take_of_length_le (by rw [o2.out.len]; exact Nat.le_refl _)) hlt2 (Nat.le_refl _)
                  have i4 : (i : Int) < (n2 : Int) := by omega
                  have e0 : (mk8 k i == mk8 k i) = true := by simp
                  by_cases hin : i < n
                  · obtain ⟨g1, rfl, x2⟩ := own_mark o1.out (l := n) (List.take_of_length_le (by rw [o1.out.len]; exact Nat.le_refl _)) hin (Nat.le_refl _)
                    have i5 : (i : Int) < (n : Int) := by omega
                    have d1 : decide ((i : Int) < (n : Int)) = true := by simp; omega
                    have d2 : decide (i < n) = true := by simp; omega
                    go_wp2_with fail
                    go_quiet ((go_at_call 59; exact quiet_of_left (markByte_any _ _ _ (by omega) (by omega) (by omega) (by omega))))
                    go_wp2_with fail
                    go_roundw
                    case rel => exact ⟨i + 1, by omega, by go_num, _, rfl⟩
                    case measure => simp [intOf]; omega
                  · have d1 : decide ((i : Int) < (n : Int)) = false := by simp; omega
                    have d2 : decide (i < n) = false := by simp; omega
                    go_wp2_with fail
                    go_quiet ((go_at_call 59; exact quiet_of_left (markByte_any _ _ _ (by omega) (by omega) (by omega) (by omega))))
                    go_wp2_with fail
                    go_roundw
                    case rel => exact ⟨i + 1, by omega, by go_num, _, rfl⟩
                    case measure => simp [intOf]; omega
                · go_wp2_with fail
                  go_roundw
                  case rel => exact ⟨k + 1, by omega, by go_num, _, rfl⟩
                  case measure => simp [intOf]; omega
            · have HG5 := Lib.hid ((HG3.out.drewN q).again m)
              have HB5 := HB3.drewN q
              generalize w5.drewN q = w7 at HG5 HB5 ⊢
              clear HG3 HB3
              go_wp2_with fail
              clear hk hlt
              go_loopw [11] (fun i wr => ∃ (k : Nat) (L3 : List SD), k ≤ m ∧ i = .int .i64 k ∧ Hid (L3.length = k) ∧ Hid (G3 (MX m) ((L2.drop k).map SD.val) wr base G B L L3) ∧ BES base (LB L) w wr) (fun i _ => m - (intOf i).toNat)
              case atStart => exact ⟨0, [], Nat.zero_le _, rfl, rfl, HG5, HB5⟩
              case round =>
                obtain ⟨k, L3, hk, rfl, H3, HG7, HB7⟩ := hrel
                clear HG5 HB5
                by_cases hlt : k < m
                · obtain ⟨s, hs⟩ : ∃ s, L[k]? = some s := ⟨_, List.getElem?_eq_getElem (by rw [← HM.out]; exact hlt)⟩
                  obtain ⟨t, ht⟩ : ∃ t, L2[k]? = some t := ⟨_, List.getElem?_eq_getElem (by rw [H2.out]; exact hlt)⟩
                  have hk3 : L3[k]? = none := List.getElem?_eq_none (by rw [H3.out]; exact Nat.le_refl _)
                  have hdrop : (L2.drop k).map SD.val = t.val :: (L2.drop (k + 1)).map SD.val := by
                    obtain ⟨h1, h2⟩ := List.getElem?_eq_some_iff.1 ht
                    rw [List.drop_eq_getElem_cons h1, h2]; rfl
                  rw [hdrop] at HG7
                  have hbd := HG7.out.bound
                  have hsn := HN.out k s hs
                  have Hs := Lib.hid hs
                  have Hk3 := Lib.hid hk3
                  clear hs ht hk3 hdrop
                  have HBD := Lib.hid hbd
                  clear hbd
                  obtain ⟨wo, rfl⟩ : ∃ wo : World, wo = wr := ⟨_, rfl⟩
                  have hwz := HB7.size
                  go_wp2_with (at_make; refine wpList_make_full _ rfl _ _ _ rfl base 5 i0 (.int .u8 0) 1 Tryd.underlying22 hi hz0 hz1 .i64 .i64 _ _ 64 rfl rfl rfl rfl (by rw [hz2]; omega) (by simp only [maxLen]; omega) (Nat.le_trans hbase HB7.size) ?_; intro w8 hown8 hg8)
                  have own8 := made64 hown8
                  have HG8 := Lib.hid (HG7.out.above HBD.out (fun b hb => hg8.block b hb (by simp)))
                  have HB8 : BES base (LB L) w w8 := HB7.grown hg8 (Nat.le_trans hbase HB7.size) (by simp)
                  clear hown8 hg8 HG7 HB7
                  generalize wo.heap.size = Mb at own8 HBD hwz ⊢
                  go_loopw [13] (fun i wr => ∃ i2 : Nat, i2 ≤ 64 ∧ i = .int .i64 i2 ∧ Hid (OWN .u8 5 wr base (some ⟨Mb, 0, none⟩) 64 64 (marksFrom (k + m : Nat) 0 i2 ++ List.replicate (64 - i2) 0)) ∧ Hid (G3 (MX m) (t.val :: (L2.drop (k + 1)).map SD.val) wr base G B L L3) ∧ BES base (LB L) w wr) (fun i _ => 64 - (intOf i).toNat)
                  case atStart => exact ⟨0, Nat.zero_le _, rfl, own8, HG8, HB8⟩
                  case round =>
                    obtain ⟨i, hi64, rfl, HO9, HG9, HB9⟩ := hrel
                    clear own8 HG8 HB8
                    by_cases hlt2 : i < 64
                    · have x2 := HO9.out.cell (i := i) hlt2
                      have x3 := HO9.out.frozen i
                      generalize (marksFrom (k + m : Nat) 0 i ++ List.replicate (64 - i) 0)[i]?.getD 0 = old at x2
                      have HO10 := Lib.hid (HO9.out.stored i (mk8 (k + m : Nat) i))
                      rw [many_set _ _ hlt2] at HO10
                      have HG10 := Lib.hid (HG9.out.above (w' := wr.setCell ⟨Mb, i, none⟩ (.int .u8 (mk8 (k + m : Nat) i))) HBD.out (fun b hb => Below.heap_setCell _ _ _ _ (by simp; omega)))
                      have HB10 := HB9.setCell (p := ⟨Mb, i, none⟩) (Nat.le_trans hbase hwz) (.inr hwz) (.int .u8 (mk8 (k + m : Nat) i))
                      rw [show ((k + m : Nat) : Int) = (k : Int) + (m : Int) from by omega] at HO10 HG10 HB10
                      go_wp2_with (go_at_call 59; refine (markByte_any _ _ _ (by omega) (by omega) (by omega) (by omega)).mono ?_; rintro e w' ⟨rfl, rfl⟩)
                      go_roundw
                      case rel => exact ⟨i + 1, by omega, by go_num, HO10, HG10, HB10⟩
                      case measure => simp [intOf]; omega
                    · obtain rfl : 64 = i := by omega
                      rw [Nat.sub_self, List.replicate_zero, List.append_nil] at HO9
                      obtain ⟨bl, cur, rfl, hbl, hcur⟩ := HG9.out.ls (by rw [← HM.out]; omega)
                      have x0 : wr.cell? ⟨bl, k, none⟩ = some (.slice s.A s.n s.c) := (cell_of_row wr bl k cur 22 (0, 0) hbl).trans (hcur k _ Hs.out)
                      clear hbl hcur
                      have hI := I3.start HG9.out Hs.out
                      have HI := Lib.hid hI
                      have own := hI.own
                      clear hI
                      obtain ⟨A, n, c⟩ := s
                      dsimp only at x0 own hsn
                      rw [Nat.add_zero] at own
                      have hL3 := H3.out
                      have HL3 := Lib.hid hL3
                      clear hL3
                      have hgf := HG9.out.far
                      have hrdm := HO9.out.rd
                      go_wp2_with (at_builtin; refine wpList_append_rd _ rfl _ _ _ rfl .u8 base 5 i0 1 Tryd.underlying22 hi hz0 hz1 hz2 A n c (marksFrom k 0 n) rfl own wr.heap.size (some ⟨Mb, 0, none⟩) 64 64 (marksFrom (k + m : Nat) 0 64) rfl hrdm (by simp only [maxLen]; omega) (by omega) (Nat.le_trans hbase HB9.size) ?_; intro A3 c3 w3 happ; have HG11 := Lib.hid (HI.out.after Hs.out Hk3.out (fun b _ => rfl) (Nat.le_refl _) happ); obtain ⟨y1, y2⟩ := HG11.out.next_cell; rw [HL3.out] at y1 y2)
                      have HB11 : BES base (LB L) w w3 := HB9.grown happ.grown (Nat.le_trans hbase HB9.size) (fun g hg => by
                        rcases own.cases with ⟨rfl, _⟩ | ⟨g', rfl, hg', _⟩
                        · simp at hg
                        · simp at hg; subst hg; exact ⟨hg', .inl ⟨k, _, Hs.out, rfl⟩⟩)
                      have HP := Lib.hid (HG11.out.put (s := ⟨A, n, c⟩) (A' := A3) (n' := n + 64) (c' := c3) (by rw [HL3.out]; exact Hs.out) rfl (by
                        rw [HL3.out]
                        unfold MX
                        dsimp only
                        rw [Nat.add_sub_cancel]
                        exact happ.own) (by
                        rcases happ.lies with ⟨e1, _⟩ | ⟨_, e1⟩
                        · exact .inl e1
                        · exact .inr ⟨_, e1, fun j g hb => by have := HG9.out.bound.1 j g hb; omega⟩))
                      rw [HL3.out] at HP
                      have H4 := Lib.hid (show (L3 ++ [(⟨A3, n + 64, c3⟩ : SD)]).length = k + 1 by simp [HL3.out])
                      go_roundw
                      case rel => exact ⟨k + 1, L3 ++ [⟨A3, n + 64, c3⟩], by omega, by go_num, H4, HP, HB11.setCell (p := ⟨G, k, none⟩) hgf (.inr hGw) _⟩
                      case measure => simp [intOf]; omega
                · have HG8 : Hid (G3 (MX m) [] wr base G B L L3) := by
                    have := HG7.out
                    rw [List.drop_eq_nil_of_le (by rw [H2.out]; omega)] at this
                    exact this
                  have H3m := Lib.hid (show L3.length = m by rw [H3.out]; omega)
                  obtain ⟨w9, rfl⟩ : ∃ w9 : World, w9 = wr := ⟨_, rfl⟩
                  clear HG7
                  go_wp2_with fail
                  clear hk hlt
                  go_loopw [14] (fun i wr => ∃ k : Nat, k ≤ m ∧ i = .int .i64 k ∧ ∃ q, wr = w9.drewN q) (fun i _ => m - (intOf i).toNat)
                  case atStart => exact ⟨0, Nat.zero_le _, rfl, 0, rfl⟩
                  case round =>
                    obtain ⟨k, hk, rfl, q, rfl⟩ := hrel
                    by_cases hlt : k < m
                    · obtain ⟨s, hs⟩ : ∃ s, L[k]? = some s := ⟨_, List.getElem?_eq_getElem (by rw [← HM.out]; exact hlt)⟩
                      obtain ⟨t, ht⟩ : ∃ t, L3[k]? = some t := ⟨_, List.getElem?_eq_getElem (by rw [H3m.out]; exact hlt)⟩
                      obtain ⟨bl, cur, rfl, hbl, hcur⟩ := HG8.out.ls (by rw [← HM.out]; omega)
                      have x0 : w9.cell? ⟨bl, k, none⟩ = some (.slice s.A s.n s.c) := (cell_of_row w9 bl k cur 22 (0, 0) hbl).trans (hcur k s hs)
                      have x1 : w9.cell? ⟨G, k, none⟩ = some (.slice t.A t.n t.c) := by
                        rw [cell_of_row w9 G k _ 22 (0, 0) HG8.out.row]
                        simp [ht, SD.val]
                      have hsn := HN.out k s hs
                      have htn := HG8.out.lens k s t hs ht
                      have o1 := Lib.hid (HG8.out.fam k s hs)
                      have o2 := Lib.hid (HG8.out.fam2 k t ht)
                      clear hbl hcur hs ht
                      obtain ⟨A, n, c⟩ := s
                      obtain ⟨A2, n2, c2⟩ := t
                      dsimp only at x0 x1 hsn htn o1 o2
                      have hn2 : n2 ≤ n + 64 := by omega
                      have hn3 : n ≤ n2 := by omega
                      have HT := Lib.hid htn
                      clear htn
                      go_wp2_with fail
                      go_loopw [15] (fun i wr => ∃ i2 : Nat, i2 ≤ n ∧ i = .int .i64 i2 ∧ ∃ q, wr = w9.drewN q) (fun i _ => n - (intOf i).toNat)
                      case atStart => exact ⟨0, Nat.zero_le _, rfl, q, rfl⟩
                      case round =>
                        obtain ⟨i, hi2, rfl, q2, rfl⟩ := hrel
                        have i1 : (0 : Int) ≤ (k : Int) := by omega
                        have i2 : (k : Int) < (m : Int) := by omega
                        have i3 : (0 : Int) ≤ (i : Int) := by omega
                        by_cases hlt2 : i < n
                        · obtain ⟨g2, rfl, x3⟩ := own_mark o2.out (l := n) (k := k) (i := i) (by
                            unfold MX
                            dsimp only
                            rw [HT.out, Nat.add_sub_cancel, List.take_left' (marksFrom_len _ _ _)]) hlt2 hn3
                          obtain ⟨g1, rfl, x2⟩ := own_mark o1.out (l := n) (List.take_of_length_le (by rw [o1.out.len]; exact Nat.le_refl _)) hlt2 (Nat.le_refl _)
                          have i4 : (i : Int) < (n2 : Int) := by omega
                          have i5 : (i : Int) < (n : Int) := by omega
                          have e0 : (mk8 k i == mk8 k i) = true := by simp
                          go_wp2_with fail
                          go_quiet ((go_at_call 59; exact quiet_of_left (markByte_any _ _ _ (by omega) (by omega) (by omega) (by omega))))
                          go_wp2_with fail
                          go_roundw
                          case rel => exact ⟨i + 1, by omega, by go_num, _, rfl⟩
                          case measure => simp [intOf]; omega
                        · go_wp2_with fail
                          go_roundw
                          case rel => exact ⟨k + 1, by omega, by go_num, _, rfl⟩
                          case measure => simp [intOf]; omega
                    · go_wp2_with fail
                      go_ret
                      exact ⟨rfl, HB7.drewN _⟩
end Go.Proofs.YtjbkfhdbgphodaaDoor
