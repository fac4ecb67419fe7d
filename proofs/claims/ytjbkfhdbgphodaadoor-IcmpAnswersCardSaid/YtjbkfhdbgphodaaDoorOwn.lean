/- Slices of integers that a call owns: read, written, cut, appended to. No program in sight. -/
import Derived.Test.YtjbkfhdbgphodaaDoorMem
import Derived.Test.YtjbkfhdbgphodaaDoorLib
import Derived.Maps.AppendAt
import Derived.OwnWalk
import Derived.RegionTactic
namespace Go.Proofs.YtjbkfhdbgphodaaDoor
open Go.RowKit

/-- the slice '.slice A n c' of element type e owns the integers zs of kind k, in a block from base on, at its head; or it is nil -/
def OWN (k : IntKind) (e : TypeId) (w : World) (base : Nat) (A : Option Addr) (n c : Nat) (zs : List Int) : Prop :=
  w.ownsRow base e 1 (.slice A n c) n (zs.map (Value.int k))

section
variable {k : IntKind} {e : TypeId} {w w' : World} {base B n c : Nat} {A : Option Addr} {zs : List Int}

theorem OWN.len (h : OWN k e w base A n c zs) : zs.length = n := by simpa using h.1
theorem OWN.nil : OWN k e w base none 0 0 [] := World.ownsRow_nil w base e 1
theorem OWN.cases (h : OWN k e w base A n c zs) : (A = none ∧ n = 0 ∧ c = 0 ∧ zs = []) ∨ ∃ g, A = some ⟨g, 0, none⟩ ∧ base ≤ g ∧ g < w.heap.size ∧ n ≤ c ∧ c ≤ maxLen := by
  have hl := h.len
  rcases h.2 with ⟨h1, rfl⟩ | ⟨g, cap, cur, h1, h2, h3, h4, h5, _⟩
  · simp at h1
    exact .inl ⟨h1.1, rfl, h1.2, List.length_eq_zero_iff.1 hl⟩
  · simp at h1
    obtain ⟨rfl, rfl⟩ := h1
    exact .inr ⟨g, rfl, h2, (Array.getElem?_eq_some_iff.1 h3).1, h4, h5⟩
theorem OWN.form (h : OWN k e w base A n c zs) (hn : 0 < n) : ∃ g, A = some ⟨g, 0, none⟩ ∧ base ≤ g ∧ g < w.heap.size ∧ n ≤ c ∧ c ≤ maxLen := by
  rcases h.cases with ⟨_, rfl, _⟩ | h
  · omega
  · exact h
theorem OWN.le (h : OWN k e w base A n c zs) : n ≤ c ∧ c ≤ maxLen := by
  rcases h.cases with ⟨_, rfl, rfl, _⟩ | ⟨_, _, _, _, h1, h2⟩
  · exact ⟨Nat.le_refl _, Nat.zero_le _⟩
  · exact ⟨h1, h2⟩
theorem OWN.cell {g : Nat} (h : OWN k e w base (some ⟨g, 0, none⟩) n c zs) {i : Nat} (hi : i < n) : w.cell? ⟨g, i, none⟩ = some (.int k (zs[i]?.getD 0)) := by
  have hl := h.len
  have := World.ownsRow.cellAt h i (by omega)
  rw [this]
  simp [hl, hi]
theorem OWN.frozen {g : Nat} (h : OWN k e w base (some ⟨g, 0, none⟩) n c zs) (i : Nat) : w.frozen? ⟨g, i, none⟩ = false := World.ownsRow.frozenAt h i
theorem OWN.rd (h : OWN k e w base A n c zs) : RD k w w.heap.size A n zs :=
  ⟨h.len, fun hn => by
    obtain ⟨g, rfl, _, hg, _⟩ := h.form hn
    exact ⟨g, 0, rfl, hg, fun i hi => by rw [Nat.zero_add]; exact h.cell hi⟩⟩
theorem OWN.keep (h : OWN k e w base A n c zs) (hk : ∀ g, A = some ⟨g, 0, none⟩ → w'.heap[g]? = w.heap[g]?) : OWN k e w' base A n c zs := by
  refine ⟨h.1, ?_⟩
  rcases h.2 with h1 | ⟨g, cap, cur, h1, h2, h3, r⟩
  · exact .inl h1
  · exact .inr ⟨g, cap, cur, h1, h2, by rw [hk g (by simp at h1; exact h1.1)]; exact h3, r⟩
theorem OWN.lt (h : OWN k e w base A n c zs) : ∀ g, A = some ⟨g, 0, none⟩ → base ≤ g ∧ g < w.heap.size := fun g hg => by
  rcases h.cases with ⟨rfl, _⟩ | ⟨g', rfl, h1, h2, _⟩
  · cases hg
  · simp at hg; subst hg; exact ⟨h1, h2⟩
theorem OWN.below (h : OWN k e w base A n c zs) (hb : Below w.heap.size w w') : OWN k e w' base A n c zs := h.keep fun g hg => hb.block g (h.lt g hg).2
theorem OWN.alloc (h : OWN k e w base A n c zs) (o : Obj) : OWN k e (w.alloc o) base A n c zs := h.keep fun g hg => Below.heap_alloc w o g (h.lt g hg).2
theorem OWN.setCell (h : OWN k e w base A n c zs) {p : Addr} (hp : ∀ g, A = some ⟨g, 0, none⟩ → g ≠ p.block) (u : Value) : OWN k e (w.setCell p u) base A n c zs := h.keep fun g hg => Below.heap_setCell w p u g (hp g hg)
theorem OWN.mono {base' : Nat} (h : OWN k e w base A n c zs) (hb : base' ≤ base) : OWN k e w base' A n c zs := by
  refine ⟨h.1, ?_⟩
  rcases h.2 with h1 | ⟨g, cap, cur, h1, h2, r⟩
  · exact .inl h1
  · exact .inr ⟨g, cap, cur, h1, by omega, r⟩
theorem OWN.stored {g : Nat} (h : OWN k e w base (some ⟨g, 0, none⟩) n c zs) (i : Nat) (x : Int) : OWN k e (w.setCell ⟨g, i, none⟩ (.int k x)) base (some ⟨g, 0, none⟩) n c (zs.set i x) := by
  have := (World.ownsRow.stored h i (.int k x)).1
  unfold OWN
  rwa [List.map_set]
theorem OWN.two {g : Nat} (h : OWN k e w base (some ⟨g, 0, none⟩) n c zs) (i : Nat) (x y : Int) : OWN k e ((w.setCell ⟨g, i, none⟩ (.int k x)).setCell ⟨g, i + 1, none⟩ (.int k y)) base (some ⟨g, 0, none⟩) n c (put2 zs i x y) := (h.stored i x).stored (i + 1) y
theorem Below.two {a : World} {g i : Nat} {u v : Value} (h : Below B a w) (hg : B ≤ g) : Below B a ((w.setCell ⟨g, i, none⟩ u).setCell ⟨g, i + 1, none⟩ v) := (h.setCell (p := ⟨g, i, none⟩) hg _).setCell (p := ⟨g, i + 1, none⟩) hg _
theorem OWN.cut {m : Nat} (h : OWN k e w base A n c zs) (hm : m ≤ n) : OWN k e w base A m c (zs.take m) := by
  have hl := h.len
  refine ⟨by simp; omega, ?_⟩
  rcases h.2 with ⟨h1, rfl⟩ | ⟨g, cap, cur, h1, h2, h3, h4, h5, h6, h7⟩
  · obtain rfl : m = 0 := by omega
    exact .inl ⟨h1, rfl⟩
  · simp at h1
    obtain ⟨rfl, rfl⟩ := h1
    refine .inr ⟨g, c, cur, rfl, h2, h3, by omega, h5, h6, ?_⟩
    have : cur.toList.take (m * 1) = (cur.toList.take (n * 1)).take (m * 1) := by rw [List.take_take]; congr 1; omega
    rw [this, h7, Nat.mul_one, List.map_take]
theorem OWN.lit (w : World) (k : IntKind) (e : TypeId) (base : Nat) (zs : List Int) (hb : base ≤ w.heap.size) (hm : zs.length ≤ maxLen) :
    OWN k e (w.alloc (.cells (zs.map (Value.int k)).toArray e)) base (some ⟨w.heap.size, 0, none⟩) zs.length zs.length zs :=
  World.ownsRow_lit w (zs.map (Value.int k)).toArray zs.length hb hm (by simp)

/-- the address of a slice that is cut at its head: at the capacity it stays -/
def cutA (A : Option Addr) (c lo : Nat) : Option Addr := if c = lo then A else A.map (·.add lo)
theorem RD.cutA (h : RD k w B A n zs) {lo : Nat} (hlo : lo ≤ n) (hc : n ≤ c) : RD k w B (cutA A c lo) (n - lo) (zs.drop lo) := h.drop hlo hc
theorem RD.mid (h : RD k w B A n zs) {lo hi : Nat} (hlo : lo ≤ hi) (hhi : hi ≤ n) (hc : n ≤ c) : RD k w B (Go.Proofs.YtjbkfhdbgphodaaDoor.cutA A c lo) (hi - lo) ((zs.drop lo).take (hi - lo)) := (h.cutA (lo := lo) (by omega) hc).take (by omega)
theorem run_slice_lo {P : Program} (w : World) {t e : TypeId} {i : TypeInfo} (ht : P.underlying t = some (.slice e)) (hi : P.info? e = some i) (hs : i.size = 1) (A : Option Addr) (n c : Nat) (q : Int) (lo : Nat) (hq : q = lo) (h1 : lo ≤ n) :
    (Instr.slice t (.slice A n c) (some (.int .i64 q)) none none).run P w = .ok (.slice (cutA A c lo) (n - lo) (c - lo)) w := by
  subst hq
  have h2 : (0 : Int) ≤ (lo : Int) ∧ (lo : Int) ≤ (n : Int) := by omega
  simp [Instr.slice, run_underlying ht, Instr.sliceBounds, Instr.sliceBound, asIntOf, sizeOf, typeInfo, hi, hs, h1, cutA]
theorem run_slice_lohi {P : Program} (w : World) {t e : TypeId} {i : TypeInfo} (ht : P.underlying t = some (.slice e)) (hi : P.info? e = some i) (hs : i.size = 1) (A : Option Addr) (n c : Nat) (q r : Int) (lo hi' : Nat) (hq : q = lo) (hr : r = hi') (h1 : lo ≤ hi') (h2 : hi' ≤ c) :
    (Instr.slice t (.slice A n c) (some (.int .i64 q)) (some (.int .i64 r)) none).run P w = .ok (.slice (cutA A c lo) (hi' - lo) (c - lo)) w := by
  subst hq hr
  simp [Instr.slice, run_underlying ht, Instr.sliceBounds, Instr.sliceBound, asIntOf, sizeOf, typeInfo, hi, hs, h1, h2, cutA]

/-- where an append leaves the slice, and what it keeps -/
structure APP (k : IntKind) (e : TypeId) (w w' : World) (base : Nat) (A A' : Option Addr) (n n' c c' : Nat) (zs zs' : List Int) : Prop where
  own : OWN k e w' base A' n' c' zs'
  grown : w.grownBy w' (A.map (·.block))
  lies : (A' = A ∧ c' = c) ∨ (c < n' ∧ A' = some ⟨w.heap.size, 0, none⟩)
  old : OWN k e w' base A n c zs

theorem APP.keepBelow {A' : Option Addr} {n' c' : Nat} {ys : List Int} (h : APP k e w w' base A A' n n' c c' zs ys) (hA : ∀ g, A.map (·.block) = some g → B ≤ g) (hB : B ≤ w.heap.size) : Below B w w' :=
  (Below.refl B w).grown h.grown hB hA

theorem run_append_rd {P : Program} (w : World) (k : IntKind) (base : Nat) (t ty e : TypeId) (i : TypeInfo) (bytes : Nat) (ht : P.underlying t = some (.slice e)) (hi : P.info? e = some i) (hz : i.zero = some (.int k 0)) (hsize : i.size = 1) (hby : i.bytes = bytes)
    (A : Option Addr) (n c : Nat) (zs : List Int) (hown : OWN k e w base A n c zs) (B : Nat) (A2 : Option Addr) (m c2 : Nat) (ys : List Int) (hr : RD k w B A2 m ys)
    (h63 : n + m ≤ maxLen) (hbytes : (n + m) * bytes ≤ 140737488355328) (hbase : base ≤ w.heap.size) :
    ∃ A' c' w', (Builtin.append_ #[t, t] ty #[.slice A n c, .slice A2 m c2]).run P w = .ok (.slice A' (n + m) c') w' ∧ APP k e w w' base A A' n (n + m) c c' zs (zs ++ ys) := by
  have blk : ∀ (A : Option Addr) (n c : Nat), Value.ownBlock (.slice A n c) = A.map (·.block) := fun A n c => by cases A <;> rfl
  rcases A2 with _ | ad
  · have hm : m = 0 := by
      rcases Nat.eq_zero_or_pos m with h | h
      · exact h
      · obtain ⟨b, off, h1, _⟩ := hr.2 h
        cases h1
    subst hm
    have hy : ys = [] := List.length_eq_zero_iff.1 hr.1
    subst hy
    refine ⟨A, c, w, ?_, ⟨by simpa using hown, ⟨rfl, rfl, rfl, Nat.le_refl _, fun _ _ _ => rfl⟩, .inl ⟨rfl, rfl⟩, hown⟩⟩
    have hle := hown.le
    rcases hown.cases with ⟨rfl, rfl, rfl, _⟩ | ⟨g, rfl, _⟩
    · simp [Builtin.append_, run_underlying ht, sizeOf, typeInfo, hi, Builtin.lenOf, Builtin.firstCells]
    · simp [Builtin.append_, run_underlying ht, sizeOf, typeInfo, hi, Builtin.lenOf, Builtin.firstCells, hle.1, storeCells]
  · have hnews : ∀ j u, (ys.map (Value.int k))[j]? = some u → w.cell? (ad.add j) = some u := by
      intro j u hu
      have hj : j < m := by
        have := (List.getElem?_eq_some_iff.1 hu).1
        have h1 := hr.1
        simp at this; omega
      obtain ⟨b, off, h1, _, h3⟩ := hr.2 (by omega)
      simp at h1; subst h1
      have hadd : (⟨b, off, none⟩ : Addr).add j = ⟨b, off + j, none⟩ := by unfold Addr.add; split <;> simp_all
      rw [hadd, h3 j hj, ← hu]
      have h1 := hr.1
      simp [h1, hj]
    obtain ⟨v', w', h1, h2, h3, h4, h5⟩ := run_append_own_at (P := P) w base t ty e i (.int k 0) 1 bytes ht hi hz hsize hby rfl (by omega) (.slice A n c) n (zs.map (Value.int k)) hown ad m c2 (ys.map (Value.int k))
      (by have := hr.1; simp; omega) hnews (ints_oneCell k ys) h63 hbytes hbase
    obtain ⟨A', c', rfl⟩ : ∃ A' c', v' = .slice A' (n + m) c' := by
      rcases h2.2 with ⟨rfl, e0⟩ | ⟨g, cap, cur, rfl, _⟩
      · exact ⟨none, 0, by rw [e0]⟩
      · exact ⟨_, _, rfl⟩
    rw [blk] at h3
    have hown' : OWN k e w' base A' (n + m) c' (zs ++ ys) := by
      unfold OWN
      rw [List.map_append]
      exact h2
    suffices hh : ((A' = A ∧ c' = c) ∨ (c < n + m ∧ A' = some ⟨w.heap.size, 0, none⟩)) ∧ OWN k e w' base A n c zs from ⟨A', c', w', h1, ⟨hown', h3, hh.1, hh.2⟩⟩
    have hlen1 : (ys.map (Value.int k)).length = m * i.size := by have := hr.1; rw [hsize]; simp; omega
    rcases hown.2 with ⟨hv, rfl⟩ | ⟨g, cap, cur, hv, hbg, hg, hnc, hcm, hcs, htake⟩
    · simp at hv
      obtain ⟨rfl, rfl⟩ := hv
      have hz0 : zs = [] := List.length_eq_zero_iff.1 hown.len
      subst hz0
      rcases Nat.eq_zero_or_pos m with hm | hm
      · subst hm
        have hv := h4.2 ⟨rfl, rfl⟩
        simp at hv
        obtain ⟨rfl, rfl⟩ := hv
        exact ⟨.inl ⟨rfl, rfl⟩, OWN.nil⟩
      · have hrn := run_append_nil (P := P) w t ty e i (.int k 0) ht hi hz ad m c2 (ys.map (Value.int k)) hlen1 hnews hm (by simp only [maxLen] at h63; omega) (by rw [hby]; rw [Nat.zero_add] at hbytes; omega)
        rw [hrn] at h1
        simp only [Result.ok.injEq, Value.slice.injEq] at h1
        obtain ⟨⟨rfl, _, rfl⟩, rfl⟩ := h1
        exact ⟨.inr ⟨by omega, rfl⟩, OWN.nil⟩
    · simp at hv
      obtain ⟨rfl, rfl⟩ := hv
      by_cases hroom : n + m ≤ c
      · have hrr := run_append_room (P := P) w t ty e i ht hi g n c cur hg ad m c2 (ys.map (Value.int k)) hlen1 hnews (ints_oneCell k ys) hroom (by rw [hlen1, hsize, hcs]; omega)
        rw [hrr] at h1
        simp only [Result.ok.injEq, Value.slice.injEq] at h1
        obtain ⟨⟨rfl, _, rfl⟩, _⟩ := h1
        refine ⟨.inl ⟨rfl, rfl⟩, ?_⟩
        have := hown'.cut (m := n) (by omega)
        rwa [List.take_left' hown.len] at this
      · have hrg := run_append_grow (P := P) w t ty e i (.int k 0) ht hi hz ⟨g, 0, none⟩ n c (zs.map (Value.int k)) (by rw [hsize]; exact hown.1) (World.ownsRow.cells hown (g := g) rfl) ad m c2 (ys.map (Value.int k)) hlen1 hnews (by omega) (by simp only [maxLen] at h63; omega) (growslice_fits (by omega) (by rw [hby]; exact hbytes))
        rw [hrg] at h1
        simp only [Result.ok.injEq, Value.slice.injEq] at h1
        obtain ⟨⟨rfl, _, rfl⟩, rfl⟩ := h1
        exact ⟨.inr ⟨by omega, rfl⟩, hown.keep fun g' hg' => Below.heap_alloc w.drew _ g' (hown.lt g' hg').2⟩

theorem wpList_append_rd {P : Program} (w : World) {ops : Array Oper} {rest : List Oper} {o : Oper} {a : Act} {Q : Exit → Act → World → Prop} (hgd : o.guard = none) (s x : Operand) (t : TypeId)
    (ho : o.op = .call { callee := .builtin .append, args := #[s, x], argTypes := #[t, t] })
    (k : IntKind) (base : Nat) (e : TypeId) (i : TypeInfo) (bytes : Nat) (ht : P.underlying t = some (.slice e)) (hi : P.info? e = some i) (hz : i.zero = some (.int k 0)) (hsize : i.size = 1) (hby : i.bytes = bytes)
    (A : Option Addr) (n c : Nat) (zs : List Int) (hs : a.eval s = .slice A n c) (hown : OWN k e w base A n c zs) (B : Nat) (A2 : Option Addr) (m c2 : Nat) (ys : List Int) (hx : a.eval x = .slice A2 m c2) (hr : RD k w B A2 m ys)
    (h63 : n + m ≤ maxLen) (hbytes : (n + m) * bytes ≤ 140737488355328) (hbase : base ≤ w.heap.size)
    (h : ∀ A' c' w', APP k e w w' base A A' n (n + m) c c' zs (zs ++ ys) → wpList P ops Q rest (a.put o.dst (.slice A' (n + m) c')) w') : wpList P ops Q (o :: rest) a w := by
  refine wpList_plain hgd fun K hK => ?_
  obtain ⟨A', c', w', hrun, h2⟩ := run_append_rd (P := P) w k base t o.type e i bytes ht hi hz hsize hby A n c zs hown B A2 m c2 ys hr h63 hbytes hbase
  unfold Oper.wp execOp
  simp only [ho, resolve, invoke, builtin, Sem.run_bind, Sem.run_pure, Result.andThen_ok, List.map_toArray, List.map_cons, List.map_nil, hs, hx, hrun]
  exact hK _ _ (h A' c' w' h2)
theorem wp_append_rd {P : Program} (w : World) {o : Oper} {a : Act} {K : Act → World → Prop} {Q : Exit → Act → World → Prop} (s x : Operand) (t : TypeId)
    (ho : o.op = .call { callee := .builtin .append, args := #[s, x], argTypes := #[t, t] })
    (k : IntKind) (base : Nat) (e : TypeId) (i : TypeInfo) (bytes : Nat) (ht : P.underlying t = some (.slice e)) (hi : P.info? e = some i) (hz : i.zero = some (.int k 0)) (hsize : i.size = 1) (hby : i.bytes = bytes)
    (A : Option Addr) (n c : Nat) (zs : List Int) (hs : a.eval s = .slice A n c) (hown : OWN k e w base A n c zs) (B : Nat) (A2 : Option Addr) (m c2 : Nat) (ys : List Int) (hx : a.eval x = .slice A2 m c2) (hr : RD k w B A2 m ys)
    (h63 : n + m ≤ maxLen) (hbytes : (n + m) * bytes ≤ 140737488355328) (hbase : base ≤ w.heap.size)
    (h : ∀ A' c' w', APP k e w w' base A A' n (n + m) c c' zs (zs ++ ys) → K (a.put o.dst (.slice A' (n + m) c')) w') : o.wp P a w K Q := by
  obtain ⟨A', c', w', hrun, h2⟩ := run_append_rd (P := P) w k base t o.type e i bytes ht hi hz hsize hby A n c zs hown B A2 m c2 ys hr h63 hbytes hbase
  unfold Oper.wp execOp
  simp only [ho, resolve, invoke, builtin, Sem.run_bind, Sem.run_pure, Result.andThen_ok, List.map_toArray, List.map_cons, List.map_nil, hs, hx, hrun]
  exact h A' c' w' h2

theorem step_append_rd {P : Program} (w : World) {ops : Array Oper} {o : Oper} {a : Act} {K : Act → World → Prop} {Q : Exit → Act → World → Prop} {E : Prop} (hgd : o.guard = none) (s x : Operand) (t : TypeId)
    (ho : o.op = .call { callee := .builtin .append, args := #[s, x], argTypes := #[t, t] })
    (k : IntKind) (base : Nat) (e : TypeId) (i : TypeInfo) (bytes : Nat) (ht : P.underlying t = some (.slice e)) (hi : P.info? e = some i) (hz : i.zero = some (.int k 0)) (hsize : i.size = 1) (hby : i.bytes = bytes)
    (A : Option Addr) (n c : Nat) (zs : List Int) (hs : a.eval s = .slice A n c) (hown : OWN k e w base A n c zs) (B : Nat) (A2 : Option Addr) (m c2 : Nat) (ys : List Int) (hx : a.eval x = .slice A2 m c2) (hr : RD k w B A2 m ys)
    (h63 : n + m ≤ maxLen) (hbytes : (n + m) * bytes ≤ 140737488355328) (hbase : base ≤ w.heap.size)
    (h : ∀ A' c' w', APP k e w w' base A A' n (n + m) c c' zs (zs ++ ys) → K (a.put o.dst (.slice A' (n + m) c')) w') :
    if Region.wanted o (yielded ops a.tmps) = true then Oper.wp P o a w K Q else E := by
  have hw : Region.wanted o (yielded ops a.tmps) = true := by simp [Region.wanted, hgd]
  rw [if_pos hw]
  exact wp_append_rd w s x t ho k base e i bytes ht hi hz hsize hby A n c zs hs hown B A2 m c2 ys hx hr h63 hbytes hbase h
end
end Go.Proofs.YtjbkfhdbgphodaaDoor
