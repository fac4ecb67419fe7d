/- Merged by program: WMark, WApart, WFlat0, WBag, WBag2, WBag3, WSpA. -/
import Derived.Test.YtdepibljeopcgaaDoorWBase
import Derived.Deep.DeepCutAuto
import Derived.Test.YtdepibljeopcgaaDoorBase
import Derived.Deep.RegionHeld3
import Derived.Deep.DrawnRows
/- bafflekit: the marks; slices that are lent, and whether they were kept. -/
namespace Go.Proofs.YtdepibljeopcgaaDoor
open Go.RowKit
set_option linter.unusedVariables false

/-- the mark for index i of slice k, as a byte -/
def mk8 (k i : Int) : Int := IntKind.u64.wrap ((1000003 * (k + 7) + i) * 11400714819323198485) / 72057594037927936 % 256
theorem mk8_bd (k i : Int) : 0 ≤ mk8 k i ∧ mk8 k i ≤ 255 := by unfold mk8; omega

theorem quiet_of_left {P : Program} {f : FuncId} {args : Array Value} {w : World} {a n : Nat} {v : Value}
    (h : Calls P f args (w.drewN (a + n)) fun e w' => e = .returned v ∧ w.drewN (a + n) = w') : Calls P f args (w.drewN (a + n)) fun e w'' => e = .returned v ∧ ∃ m, w'' = w.drewN (a + m) :=
  h.mono fun _ _ ⟨he, hm⟩ => ⟨he, n, hm.symm⟩
theorem quiet_of_left0 {P : Program} {f : FuncId} {args : Array Value} {w : World} {n : Nat} {v : Value}
    (h : Calls P f args (w.drewN n) fun e w' => e = .returned v ∧ w.drewN n = w') : Calls P f args (w.drewN n) fun e w'' => e = .returned v ∧ ∃ m, w'' = w.drewN m :=
  h.mono fun _ _ ⟨he, hm⟩ => ⟨he, n, hm.symm⟩

/-- the marks behind a slice that is lent -/
def marksFrom (k : Int) (a : Nat) : Nat → List Int
  | 0 => []
  | m + 1 => marksFrom k a m ++ [mk8 k (a + m : Nat)]
theorem marksFrom_len (k : Int) (a m : Nat) : (marksFrom k a m).length = m := by
  induction m with
  | zero => rfl
  | succ m ih => simp [marksFrom, ih]
theorem marksFrom_get (k : Int) (a : Nat) : ∀ m i, i < m → (marksFrom k a m)[i]?.getD 0 = mk8 k (a + i : Nat) := by
  intro m
  induction m with
  | zero => intro i hi; omega
  | succ m ih =>
    intro i hi
    simp only [marksFrom]
    rcases Nat.lt_or_ge i m with h | h
    · rw [List.getElem?_append_left (by rw [marksFrom_len]; exact h)]; exact ih i h
    · obtain rfl : i = m := by omega
      rw [List.getElem?_append_right (by rw [marksFrom_len]; omega), marksFrom_len]; simp

/-- what LentBytes leaves: the bytes, and twelve marks in the spare room -/
def Lent (w : World) (zs : List Int) (e : Ending) (w' : World) : Prop :=
  ∃ A n, e = .returned (.slice A n (n + 12)) ∧ n = zs.length ∧ OWN .u8 5 w' w.heap.size A (n + 12) (n + 12) (zs ++ marksFrom 1 0 12) ∧ Below w.heap.size w w'

end Go.Proofs.YtdepibljeopcgaaDoor
/- bafflekit.flatBytes: slices that share no memory. -/
namespace Go.Proofs.YtdepibljeopcgaaDoor
open Go.RowKit
set_option linter.unusedVariables false
attribute [local go_sem ↓] Go.wp_at_zero Go.wp_at_succ

/-- the slice of slices: its row -/
def LSR (w : World) (B : Option Addr) (L : List SD) : Prop := 0 < L.length → ∃ bl cur, B = some ⟨bl, 0, none⟩ ∧ w.heap[bl]? = some (.cells cur 24 (0, 0)) ∧ ∀ (k : Nat) (s : SD), L[k]? = some s → cur[k]? = some s.val

/-- all slices filled with their marks -/
def MK (j : Nat) (s : SD) : List Int := marksFrom j 0 s.n
/-- the first slices are filled, one of them in part -/
def MP (Z : Nat → SD → List Int) (k i : Nat) (j : Nat) (s : SD) : List Int := if j < k then MK j s else if j = k then marksFrom j 0 i ++ (Z j s).drop i else Z j s

theorem mp_set (Z : List Int) (k : Int) (i : Nat) (hi : i < Z.length) : (marksFrom k 0 i ++ Z.drop i).set i (mk8 k i) = marksFrom k 0 (i + 1) ++ Z.drop (i + 1) := by
  rw [List.set_append_right _ _ (by rw [marksFrom_len]; exact Nat.le_refl _), marksFrom_len, Nat.sub_self]
  rw [show (Z.drop i).set 0 (mk8 k i) = mk8 k i :: Z.drop (i + 1) by rw [List.drop_eq_getElem_cons hi]; rfl]
  simp [marksFrom]

theorem flat1_step {w : World} {base : Nat} {L : List SD} {Z : Nat → SD → List Int} {k i g n c : Nat} (hF : FAM 5 w base L (MP Z k i)) (hS : SEP L []) (hs : L[k]? = some ⟨some ⟨g, 0, none⟩, n, c⟩) (hin : i < n) :
    FAM 5 (w.setCell ⟨g, i, none⟩ (.int .u8 (mk8 k i))) base L (MP Z k (i + 1)) := by
  have own := hF k _ hs
  have e1 : ∀ i, MP Z k i k ⟨some ⟨g, 0, none⟩, n, c⟩ = marksFrom k 0 i ++ (Z k ⟨some ⟨g, 0, none⟩, n, c⟩).drop i := fun i => by unfold MP; rw [if_neg (by omega), if_pos rfl]
  have hl := own.len
  rw [e1] at hl own
  simp only [List.length_append, marksFrom_len, List.length_drop] at hl
  refine hF.one hs ?_ ?_ ?_
  · rw [e1, ← mp_set _ _ _ (by omega)]
    exact own.stored i (mk8 k i)
  · intro j t hj _
    unfold MP
    by_cases h1 : j < k
    · rw [if_pos h1, if_pos h1]
    · rw [if_neg h1, if_neg h1, if_neg hj, if_neg hj]
  · intro j t g' hj ht hg'
    refine Below.heap_setCell _ _ _ _ (fun h => hj ?_)
    subst h
    exact hS j k _ (.inl ⟨t, ht, hg'⟩) (.inl ⟨_, hs, rfl⟩)
theorem flat1_end {w : World} {base : Nat} {L : List SD} {Z : Nat → SD → List Int} {k : Nat} {s : SD} (hF : FAM 5 w base L (MP Z k s.n)) (hs : L[k]? = some s) : FAM 5 w base L (MP Z (k + 1) 0) := by
  refine hF.congr (fun j t ht => ?_)
  unfold MP
  by_cases h1 : j < k
  · rw [if_pos h1, if_pos (by omega)]
  · by_cases h2 : j = k
    · subst h2
      rw [hs] at ht; injection ht with ht; subst ht
      have hl := (hF j s hs).len
      unfold MP at hl
      rw [if_neg (by omega), if_pos rfl] at hl
      simp only [List.length_append, marksFrom_len, List.length_drop] at hl
      rw [if_neg (by omega), if_pos rfl, if_pos (by omega), List.drop_eq_nil_of_le (by omega), List.append_nil]
      rfl
    · rw [if_neg h1, if_neg h2, if_neg (by omega)]
      by_cases h3 : j = k + 1
      · rw [if_pos h3]; simp [marksFrom]
      · rw [if_neg h3]

theorem infoU8s : (Tryd.prog.info? 24).map (fun i => (i.zero, i.size, i.bytes)) = some (some (.slice none 0 0), 1, 24) := by kernel_rfl

/-- the second slices so far: their row, and that they share no memory -/
structure G3 (Y : Nat → SD → List Int) (R : List Value) (w : World) (base G : Nat) (B : Option Addr) (L L2 : List SD) : Prop where
  fam : FAM 5 w base L MK
  ls : LSR w B L
  fam2 : FAM 5 w base L2 Y
  sep : SEP L L2
  lens : ∀ (j : Nat) (s t : SD), L[j]? = some s → L2[j]? = some t → t.n = s.n + 64
  row : w.heap[G]? = some (.cells (L2.map SD.val ++ R).toArray 24 (0, 0))
  far : base ≤ G
  apart : ∀ bl, B = some ⟨bl, 0, none⟩ → 0 < L.length → bl ≠ G

/-- a step of the world that touches none of the rows, and of the slices none but slice k's own -/
theorem G3.step {Y : Nat → SD → List Int} {R : List Value} {w w' : World} {base G k : Nat} {B : Option Addr} {L L2 : List SD} {s : SD} (h : G3 Y R w base G B L L2) (hs : L[k]? = some s) (hk2 : L2[k]? = none)
    (hrow : w'.heap[G]? = w.heap[G]?) (hbl : ∀ bl, B = some ⟨bl, 0, none⟩ → 0 < L.length → w'.heap[bl]? = w.heap[bl]?)
    (hoth : ∀ (j g : Nat), j ≠ k → BLK L L2 j g → w'.heap[g]? = w.heap[g]?) (ho : OWN .u8 5 w' base s.A s.n s.c (MK k s)) : G3 Y R w' base G B L L2 where
  fam := h.fam.one hs ho (fun _ _ _ _ => rfl) (fun j t g hj ht hg => hoth j g hj (.inl ⟨t, ht, hg⟩))
  ls := fun h0 => by
    obtain ⟨bl, cur, e1, e2, e3⟩ := h.ls h0
    exact ⟨bl, cur, e1, (hbl bl e1 h0).trans e2, e3⟩
  fam2 := h.fam2.keep (fun j t g ht hg => hoth j g (fun e => by rw [e, hk2] at ht; cases ht) (.inr ⟨t, ht, hg⟩))
  sep := h.sep
  lens := h.lens
  row := hrow.trans h.row
  far := h.far
  apart := h.apart

theorem marksFrom_take (k : Int) (a : Nat) : ∀ m n, n ≤ m → (marksFrom k a m).take n = marksFrom k a n := by
  intro m
  induction m with
  | zero => intro n hn; have : n = 0 := by omega
            rw [this]; rfl
  | succ m ih =>
    intro n hn
    rcases Nat.lt_or_ge m n with h | h
    · obtain rfl : n = m + 1 := by omega
      exact List.take_of_length_le (by rw [marksFrom_len]; exact Nat.le_refl _)
    · simp only [marksFrom]
      rw [List.take_append_of_le_length (by rw [marksFrom_len]; exact h)]
      exact ih n h

theorem g3_start {w w2 : World} {base m : Nat} {B : Option Addr} {L : List SD} (hF : FAM 5 w base L MK) (hL : LSR w B L) (hS : SEP L []) (hb : base ≤ w.heap.size)
    (hown : w2.ownsRow base 24 1 (.slice (some ⟨w.heap.size, 0, none⟩) m m) m (madeCells (Value.slice none 0 0).cells (m * 1)).toList) (hg : w.grownBy w2 none) : G3 MK (List.replicate m (.slice none 0 0)) w2 base w.heap.size B L [] where
  fam := hF.keep (fun j s g hs hg' => hg.block g (hF.lt hs hg').2 (by simp))
  ls := fun h0 => by
    obtain ⟨bl, cur, e1, e2, e3⟩ := hL h0
    exact ⟨bl, cur, e1, (hg.block bl (Array.getElem?_eq_some_iff.1 e2).1 (by simp)).trans e2, e3⟩
  fam2 := fun j s hs => by simp at hs
  sep := hS
  lens := fun j s t _ ht => by simp at ht
  row := by
    rcases hown.2 with ⟨h1, _⟩ | ⟨g, cap, cur, h1, _, h3, _, _, h6, h7⟩
    · simp at h1
    · simp at h1
      obtain ⟨rfl, rfl⟩ := h1
      rw [h3]
      have : cur.toList = List.replicate m (.slice none 0 0) := by
        rw [List.take_of_length_le (by simp [h6])] at h7
        rw [h7, Nat.mul_one]
        exact toList_madeCells_one _ _
      simp [← this]
  far := hb
  apart := fun bl e h0 => by
    obtain ⟨bl', cur, e1, e2, _⟩ := hL h0
    rw [e] at e1; simp at e1; subst e1
    have := (Array.getElem?_eq_some_iff.1 e2).1
    omega

/-- in the midst of one slice's appends -/
structure I3 (Y : Nat → SD → List Int) (R : List Value) (w : World) (base G H : Nat) (B : Option Addr) (L L2 : List SD) (k i : Nat) (s : SD) (A' : Option Addr) (c' : Nat) : Prop where
  g3 : G3 Y R w base G B L L2
  own : OWN .u8 5 w base A' (s.n + i) c' (marksFrom k 0 (s.n + i))
  alt : (A' = s.A ∧ c' = s.c) ∨ ∃ g', A' = some ⟨g', 0, none⟩ ∧ H ≤ g'
  hH : H ≤ w.heap.size
  lt : ∀ (j g : Nat), BLK L L2 j g → g < H
  ltG : G < H
  ltB : ∀ bl, B = some ⟨bl, 0, none⟩ → 0 < L.length → bl < H

/-- what an append to the slice in work leaves alone -/
theorem I3.after {Y : Nat → SD → List Int} {R : List Value} {w w0 w' : World} {base G H k i : Nat} {B : Option Addr} {L L2 : List SD} {s : SD} {A' : Option Addr} {c' : Nat} (h : I3 Y R w base G H B L L2 k i s A' c') (hs : L[k]? = some s) (hk2 : L2[k]? = none)
    (hw0 : ∀ b, b < H → w0.heap[b]? = w.heap[b]?) (hH0 : H ≤ w0.heap.size) {A2 : Option Addr} {n2 c2 : Nat} {zs : List Int} (ha : APP .u8 5 w0 w' base A' A2 (s.n + i) n2 c' c2 (marksFrom k 0 (s.n + i)) zs) :
    G3 Y R w' base G B L L2 := by
  have keep : ∀ b, b < H → A'.map (·.block) ≠ some b → w'.heap[b]? = w.heap[b]? := fun b hb hne => (ha.grown.block b (by omega) (fun e => hne e.symm)).trans (hw0 b hb)
  have hbk : ∀ g, A' = some ⟨g, 0, none⟩ → A'.map (·.block) = some g := fun g e => by rw [e]; rfl
  have fresh : ∀ b, b < H → (∀ g, s.A = some ⟨g, 0, none⟩ → b ≠ g) → A'.map (·.block) ≠ some b := by
    intro b hb hn
    rcases h.alt with ⟨e1, _⟩ | ⟨g', e1, e2⟩
    · rw [e1]
      intro he
      have hx := (h.g3.fam k s hs).cases
      rcases hx with ⟨e3, _⟩ | ⟨g, e3, _⟩
      · rw [e3] at he; cases he
      · rw [e3] at he; simp at he; exact hn g e3 he.symm
    · rw [hbk g' e1]
      intro he; simp at he; omega
  refine h.g3.step hs hk2 (keep G h.ltG (fresh G h.ltG fun g hg => fun e => ?_)) (fun bl e1 h0 => keep bl (h.ltB bl e1 h0) (fresh bl (h.ltB bl e1 h0) fun g hg => fun e => ?_)) (fun j g hj hb => keep g (h.lt j g hb) (fresh g (h.lt j g hb) fun g' hg' e => ?_)) ?_
  · exact (h.g3.fam k s hs).ne_row hg h.g3.row (by decide) e.symm
  · obtain ⟨bl', cur, e2, e3, _⟩ := h.g3.ls h0
    rw [e1] at e2; simp at e2; subst e2
    exact (h.g3.fam k s hs).ne_row hg e3 (by decide) e.symm
  · subst e
    exact hj (h.g3.sep j k g hb (.inl ⟨s, hs, hg'⟩))
  · rcases h.alt with ⟨e1, e2⟩ | ⟨g', e1, e2⟩
    · have := ha.old.cut (m := s.n) (by omega)
      rw [marksFrom_take _ _ _ _ (by omega), e1, e2] at this
      exact this
    · refine (h.g3.fam k s hs).keep fun g hg => keep g (h.lt k g (.inl ⟨s, hs, hg⟩)) ?_
      have := h.lt k g (.inl ⟨s, hs, hg⟩)
      rw [hbk g' e1]
      intro he; simp at he; omega

theorem I3.next {Y : Nat → SD → List Int} {R : List Value} {w w' : World} {base G H k i : Nat} {B : Option Addr} {L L2 : List SD} {s : SD} {A' : Option Addr} {c' : Nat} (h : I3 Y R w base G H B L L2 k i s A' c') (hs : L[k]? = some s) (hk2 : L2[k]? = none)
    {o : Obj} {A2 : Option Addr} {c2 : Nat} (ha : APP .u8 5 (w.alloc o) w' base A' A2 (s.n + i) (s.n + i + 1) c' c2 (marksFrom k 0 (s.n + i)) (marksFrom k 0 (s.n + i) ++ [mk8 k (s.n + i : Nat)])) :
    I3 Y R w' base G H B L L2 k (i + 1) s A2 c2 where
  g3 := h.after hs hk2 (fun b hb => Below.heap_alloc w o b (by have := h.hH; omega)) (by have := h.hH; simp; omega) ha
  own := by
    have := ha.own
    rw [show marksFrom k 0 (s.n + i) ++ [mk8 k (s.n + i : Nat)] = marksFrom k 0 (s.n + i + 1) by simp [marksFrom]] at this
    exact this
  alt := by
    rcases ha.lies with ⟨e1, e2⟩ | ⟨_, e1⟩
    · rcases h.alt with ⟨e3, e4⟩ | ⟨g', e3, e4⟩
      · exact .inl ⟨e1.trans e3, e2.trans e4⟩
      · exact .inr ⟨g', e1.trans e3, e4⟩
    · exact .inr ⟨_, e1, by have := h.hH; simp; omega⟩
  hH := Nat.le_trans h.hH (Nat.le_trans (by simp) ha.grown.size)
  lt := h.lt
  ltG := h.ltG
  ltB := h.ltB

theorem G3.bound {Y : Nat → SD → List Int} {R : List Value} {w : World} {base G : Nat} {B : Option Addr} {L L2 : List SD} (h : G3 Y R w base G B L L2) :
    (∀ (j g : Nat), BLK L L2 j g → g < w.heap.size) ∧ G < w.heap.size ∧ (∀ bl, B = some ⟨bl, 0, none⟩ → 0 < L.length → bl < w.heap.size) := by
  refine ⟨fun j g hb => ?_, (Array.getElem?_eq_some_iff.1 h.row).1, fun bl e h0 => ?_⟩
  · rcases hb with ⟨s, h1, h2⟩ | ⟨s, h1, h2⟩
    · exact (h.fam.lt h1 h2).2
    · exact (h.fam2.lt h1 h2).2
  · obtain ⟨bl', cur, e1, e2, _⟩ := h.ls h0
    rw [e] at e1; simp at e1; subst e1
    exact (Array.getElem?_eq_some_iff.1 e2).1
theorem I3.start {Y : Nat → SD → List Int} {R : List Value} {w : World} {base G k : Nat} {B : Option Addr} {L L2 : List SD} {s : SD} (h : G3 Y R w base G B L L2) (hs : L[k]? = some s) : I3 Y R w base G w.heap.size B L L2 k 0 s s.A s.c where
  g3 := h
  own := h.fam k s hs
  alt := .inl ⟨rfl, rfl⟩
  hH := Nat.le_refl _
  lt := h.bound.1
  ltG := h.bound.2.1
  ltB := h.bound.2.2
/-- the cell of the second row that comes next -/
theorem G3.next_cell {Y : Nat → SD → List Int} {x : Value} {R : List Value} {w : World} {base G : Nat} {B : Option Addr} {L L2 : List SD} (h : G3 Y (x :: R) w base G B L L2) : w.cell? ⟨G, L2.length, none⟩ = some x ∧ w.frozen? ⟨G, L2.length, none⟩ = false := by
  refine ⟨?_, frozen_of_row w G _ _ 24 h.row⟩
  rw [cell_of_row w G _ _ 24 (0, 0) h.row]
  simp
theorem G3.put {Y : Nat → SD → List Int} {x : Value} {R : List Value} {w : World} {base G : Nat} {B : Option Addr} {L L2 : List SD} {s : SD} (h : G3 Y (x :: R) w base G B L L2) (hs : L[L2.length]? = some s) {A' : Option Addr} {n' c' : Nat} (hn' : n' = s.n + 64)
    (ho : OWN .u8 5 w base A' n' c' (Y L2.length ⟨A', n', c'⟩)) (alt : A' = s.A ∨ ∃ g', A' = some ⟨g', 0, none⟩ ∧ ∀ (j g : Nat), BLK L L2 j g → g ≠ g') :
    G3 Y R (w.setCell ⟨G, L2.length, none⟩ (.slice A' n' c')) base G B L (L2 ++ [⟨A', n', c'⟩]) := by
  have keep : ∀ b, b ≠ G → (w.setCell ⟨G, L2.length, none⟩ (.slice A' n' c')).heap[b]? = w.heap[b]? := fun b hb => Below.heap_setCell _ _ _ _ hb
  have hfam2 : FAM 5 (w.setCell ⟨G, L2.length, none⟩ (.slice A' n' c')) base L2 Y := h.fam2.keep (fun j t g ht hg => keep g ((h.fam2 j t ht).ne_row hg h.row (by decide)))
  have hnew : ∀ (j g : Nat), BLK L (L2 ++ [⟨A', n', c'⟩]) j g → BLK L L2 j g ∨ (j = L2.length ∧ A' = some ⟨g, 0, none⟩) := by
    rintro j g (hb | ⟨t, h1, h2⟩)
    · exact .inl (.inl hb)
    · rcases Nat.lt_trichotomy j L2.length with hj | hj | hj
      · rw [List.getElem?_append_left hj] at h1; exact .inl (.inr ⟨t, h1, h2⟩)
      · subst hj; simp at h1; subst h1; exact .inr ⟨rfl, h2⟩
      · rw [List.getElem?_append_right (by omega), List.getElem?_eq_none (by simp; omega)] at h1; cases h1
  exact {
    fam := h.fam.keep (fun j t g ht hg => keep g ((h.fam j t ht).ne_row hg h.row (by decide)))
    ls := fun h0 => by
      obtain ⟨bl, cur, e1, e2, e3⟩ := h.ls h0
      exact ⟨bl, cur, e1, (keep bl (h.apart bl e1 h0)).trans e2, e3⟩
    fam2 := hfam2.snoc (ho.keep fun g hg => keep g (ho.ne_row hg h.row (by decide)))
    sep := by
      have own : ∀ (j g : Nat), BLK L L2 j g → A' = some ⟨g, 0, none⟩ → j = L2.length := by
        intro j g hb e
        rcases alt with e1 | ⟨g', e1, e2⟩
        · exact h.sep j L2.length g hb (.inl ⟨s, hs, e1.symm.trans e⟩)
        · rw [e] at e1; simp at e1; exact absurd e1 (e2 j g hb)
      intro i j g hi hj
      rcases hnew i g hi with h1 | ⟨h1, h1'⟩ <;> rcases hnew j g hj with h2 | ⟨h2, h2'⟩
      · exact h.sep i j g h1 h2
      · rw [h2]; exact own i g h1 h2'
      · rw [h1]; exact (own j g h2 h1').symm
      · rw [h1, h2]
    lens := fun j u t hu ht => by
      rcases Nat.lt_trichotomy j L2.length with hj | hj | hj
      · rw [List.getElem?_append_left hj] at ht; exact h.lens j u t hu ht
      · subst hj; rw [hs] at hu; simp at hu ht; subst hu; subst ht; exact hn'
      · rw [List.getElem?_append_right (by omega), List.getElem?_eq_none (by simp; omega)] at ht; cases ht
    row := by
      rw [heap_setCell_same w G L2.length _ 24 _ h.row]
      congr 2
      apply Array.ext'
      simp [SD.val]
    far := h.far
    apart := h.apart }

theorem own_mark {w : World} {base k n c i : Nat} {A : Option Addr} {zs : List Int} (h : OWN .u8 5 w base A n c zs) {l : Nat} (hz : zs.take l = marksFrom k 0 l) (hl : i < l) (hn : l ≤ n) : ∃ g, A = some ⟨g, 0, none⟩ ∧ w.cell? ⟨g, i, none⟩ = some (.int .u8 (mk8 k i)) := by
  obtain ⟨g, rfl, _⟩ := h.form (by omega)
  refine ⟨g, rfl, ?_⟩
  rw [h.cell (by omega)]
  have h1 : zs[i]?.getD 0 = (zs.take l)[i]?.getD 0 := by rw [List.getElem?_take, if_pos hl]
  rw [h1, hz, marksFrom_get k 0 l i hl]
  simp

theorem G3.drewN {Y : Nat → SD → List Int} {R : List Value} {w : World} {base G : Nat} {B : Option Addr} {L L2 : List SD} (h : G3 Y R w base G B L L2) (q : Nat) : G3 Y R (w.drewN q) base G B L L2 := ⟨h.fam, h.ls, h.fam2, h.sep, h.lens, h.row, h.far, h.apart⟩
/-- the slices behind the second round of appends -/
def MX (m : Nat) (j : Nat) (s : SD) : List Int := marksFrom j 0 (s.n - 64) ++ marksFrom (j + m : Nat) 0 64
theorem G3.again {w : World} {base G : Nat} {B : Option Addr} {L L2 : List SD} (h : G3 MK [] w base G B L L2) (m : Nat) : G3 (MX m) (L2.map SD.val) w base G B L [] where
  fam := h.fam
  ls := h.ls
  fam2 := fun j s hs => by simp at hs
  sep := fun i j g hi hj => h.sep i j g (hi.elim .inl (fun ⟨s, h1, _⟩ => by simp at h1)) (hj.elim .inl (fun ⟨s, h1, _⟩ => by simp at h1))
  lens := fun j s t _ ht => by simp at ht
  row := by have := h.row; simpa using this
  far := h.far
  apart := h.apart
/-- a step of the world that touches nothing below H -/
theorem G3.above {Y : Nat → SD → List Int} {R : List Value} {w w' : World} {base G H : Nat} {B : Option Addr} {L L2 : List SD} (h : G3 Y R w base G B L L2)
    (hb : (∀ (j g : Nat), BLK L L2 j g → g < H) ∧ G < H ∧ (∀ bl, B = some ⟨bl, 0, none⟩ → 0 < L.length → bl < H)) (hk : ∀ b, b < H → w'.heap[b]? = w.heap[b]?) : G3 Y R w' base G B L L2 where
  fam := h.fam.keep (fun j t g ht hg => hk g (hb.1 j g (.inl ⟨t, ht, hg⟩)))
  ls := fun h0 => by
    obtain ⟨bl, cur, e1, e2, e3⟩ := h.ls h0
    exact ⟨bl, cur, e1, (hk bl (hb.2.2 bl e1 h0)).trans e2, e3⟩
  fam2 := h.fam2.keep (fun j t g ht hg => hk g (hb.1 j g (.inr ⟨t, ht, hg⟩)))
  sep := h.sep
  lens := h.lens
  row := (hk G hb.2.1).trans h.row
  far := h.far
  apart := h.apart
theorem made64 {w : World} {base g : Nat} (h : w.ownsRow base 5 1 (.slice (some ⟨g, 0, none⟩) 64 64) 64 (madeCells (Value.int .u8 0).cells (64 * 1)).toList) : OWN .u8 5 w base (some ⟨g, 0, none⟩) 64 64 (List.replicate 64 0) := by
  unfold OWN
  rw [show (List.replicate 64 (0 : Int)).map (Value.int .u8) = (madeCells (Value.int .u8 0).cells (64 * 1)).toList by rw [Nat.mul_one, List.map_replicate]; exact (toList_madeCells_one _ _).symm]
  exact h
theorem many_set (k : Int) (i : Nat) (hi : i < 64) : (marksFrom k 0 i ++ List.replicate (64 - i) 0).set i (mk8 k i) = marksFrom k 0 (i + 1) ++ List.replicate (64 - (i + 1)) 0 := by
  rw [List.set_append_right _ _ (by rw [marksFrom_len]; exact Nat.le_refl _), marksFrom_len, Nat.sub_self, show 64 - i = 64 - (i + 1) + 1 from by omega]
  simp [marksFrom, List.replicate_succ]

end Go.Proofs.YtdepibljeopcgaaDoor
/- The flat functions of the kit at no slices at all: true. Written by gen_flat0.py. -/
namespace Go.Proofs.YtdepibljeopcgaaDoor
open Go.RowKit
attribute [local go_sem ↓] Go.wp_at_zero Go.wp_at_succ

theorem infoflatByteLists : (Tryd.prog.info? 71).map (fun i => (i.zero, i.size, i.bytes)) = some (some (.slice none 0 0), 1, 24) := by kernel_rfl
end Go.Proofs.YtdepibljeopcgaaDoor
/- bafflekit.ApartBytes: slices of the call's own that share no block are apart. -/
namespace Go.Proofs.YtdepibljeopcgaaDoor
open Go.RowKit

/-- the cells of a bag whose slices of bytes are v -/
def bag13 (v : Value) : Array Value := #[.slice none 0 0, .slice none 0 0, v, .slice none 0 0, .slice none 0 0, .slice none 0 0, .slice none 0 0, .slice none 0 0, .slice none 0 0, .slice none 0 0, .slice none 0 0, .slice none 0 0, .slice none 0 0]

theorem slice_of_row {w : World} {base : Nat} {e : TypeId} {v : Value} {n : Nat} {xs : List Value} (h : w.ownsRow base e 1 v n xs) : ∃ A c, v = .slice A n c := by
  rcases h.2 with ⟨rfl, rfl⟩ | ⟨g, cap, cur, rfl, _⟩
  · exact ⟨_, _, rfl⟩
  · exact ⟨_, _, rfl⟩

end Go.Proofs.YtdepibljeopcgaaDoor
/- bafflekit's (*bag).apart and ApartBytes: slices of the call's own that share no block are apart. Written by gen_bag.py. -/
namespace Go.Proofs.YtdepibljeopcgaaDoor
open Go.RowKit

theorem lsr_of_own {w : World} {base : Nat} {B : Option Addr} {c : Nat} {L : List SD} (h : w.ownsRow base 24 1 (.slice B L.length c) L.length (L.map SD.val)) : LSR w B L := by
  intro h0
  rcases h.2 with ⟨_, e⟩ | ⟨g, cap, cur, e, _, h3, h4, h5, h6, h7⟩
  · omega
  · simp at e
    refine ⟨g, cur, e.1, h3, fun k s hs => ?_⟩
    have hk : k < L.length := (List.getElem?_eq_some_iff.1 hs).1
    have h8 : (cur.toList.take (L.length * 1))[k]? = some s.val := by rw [h7, List.getElem?_map, hs]; rfl
    rw [List.getElem?_take_of_lt (by omega)] at h8
    simpa using h8

theorem own_row_keep {w w' : World} {base : Nat} {v : Value} {n : Nat} {xs : List Value} (h : w.ownsRow base 24 1 v n xs) (hb : Below w.heap.size w w') : w'.ownsRow base 24 1 v n xs := by
  refine ⟨h.1, ?_⟩
  rcases h.2 with h1 | ⟨g, cap, cur, h1, h2, h3, r⟩
  · exact .inl h1
  · exact .inr ⟨g, cap, cur, h1, h2, (hb.block g (Array.getElem?_eq_some_iff.1 h3).1).trans h3, r⟩

end Go.Proofs.YtdepibljeopcgaaDoor
/- bafflekit.ApartBytes: slices of the call's own that share no block are apart. -/
namespace Go.Proofs.YtdepibljeopcgaaDoor
open Go.RowKit

theorem heap_new (w : World) (o : Obj) : (w.alloc o).heap[w.heap.size]? = some o := by
  show (w.heap.push o)[w.heap.size]? = some o
  simp

end Go.Proofs.YtdepibljeopcgaaDoor
/- bafflekit: LentBytes, KeptBytes, ApartBytes, in the words of Sep. -/
namespace Go.Proofs.YtdepibljeopcgaaDoor
open Go.RowKit
set_option linter.unusedVariables false

def spZ (L : List IT) (ix : List Nat) (j : Nat) (s : SD) : List Int :=
  match ix[j]?.bind (fun i => L[i]?) with
  | some (.own _ _ _ _ _ zs) => zs.take s.n
  | _ => []
/-- the slices D are the items ix of what the call owns, maybe cut -/
def SPD (L : List IT) (ix : List Nat) (D : List SD) : Prop := ∀ (j : Nat) (s : SD), D[j]? = some s → ∃ i n zs, ix[j]? = some i ∧ L[i]? = some (.own .u8 5 s.A n s.c zs) ∧ s.n ≤ n ∧ s.n ≤ 140737488351232

theorem SPD.nil {L : List IT} : SPD L [] [] := fun j s h => by simp at h
theorem SPD.cons {L : List IT} {ix : List Nat} {D : List SD} {i n m c : Nat} {A : Option Addr} {zs : List Int} (h : L[i]? = some (.own .u8 5 A n c zs)) (hm : m ≤ n) (hl : m ≤ 140737488351232) (hD : SPD L ix D) : SPD L (i :: ix) (⟨A, m, c⟩ :: D) := fun j s hs => by
  match j, hs with
  | 0, hs => simp at hs; subst hs; exact ⟨i, n, zs, rfl, h, hm, hl⟩
  | j + 1, hs => simp at hs; obtain ⟨i', n', zs', h1, h2⟩ := hD j s hs; exact ⟨i', n', zs', by simpa using h1, h2⟩

end Go.Proofs.YtdepibljeopcgaaDoor
