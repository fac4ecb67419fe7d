/- append(s, make([]byte, m)...) to a slice that the call owns. No program in sight. -/
import Derived.Test.YtcipgkpcaecjdaaWZeros
import Derived.Test.YtcipgkpcaecjdaaWCopy
import Derived.Laws.CopyRow
namespace Go.Proofs.Ytcipgkpcaecjdaa
open Go.RowKit

theorem run_append_zeros_own {P : Program} (w : World) (t u ty e : TypeId) (i : TypeInfo) (ku : IntKind) (ht : P.underlying t = some (.slice e)) (hu : P.underlying u = some (.int ku)) (hi : P.info? e = some i) (hz : i.zero = some (.int .u8 0)) (hs : i.size = 1) (hb : i.bytes = 1)
    (base g n c m : Nat) (zs : List Int) (own : OWN .u8 e w base (some ⟨g, 0, none⟩) n c zs) (hbase : base ≤ w.heap.size) (hn : n + m ≤ 140737488355328) :
    ∃ A' c' w', (Builtin.append_ #[t, u] ty #[.slice (some ⟨g, 0, none⟩) n c, .int ku (m : Int)]).run P w = .ok (.slice A' (n + m) c') w' ∧ APP .u8 e w w' base (some ⟨g, 0, none⟩) A' n (n + m) c c' zs (zs ++ List.replicate m 0) := by
  obtain ⟨cur, h1, h2, h3, h4, h5, h6⟩ := own.block
  have hl := own.len
  have e1 : IntKind.i64.wrap (m : Int) = m := IntWalk.i64_in _ (by omega)
  have e2 : ¬ (281474976710656 < (m : Int)) := by omega
  have e3 : ¬ ((m : Int) < 0) := by omega
  by_cases hroom : n + m ≤ c
  · have hst := run_storeCells_at P g n e ((List.replicate m (0 : Int)).map (Value.int .u8)) 0 cur w h1 (by simp; omega) (ints_oneCell .u8 _)
    simp only [Nat.add_zero] at hst
    have hcl : cur.toList.length = c := by simpa using h2
    have hnew : (w.setRow g (cur.toList.take n ++ (List.replicate m (0 : Int)).map (Value.int .u8) ++ cur.toList.drop (n + ((List.replicate m (0 : Int)).map (Value.int .u8)).length)).toArray).heap[g]? = some (.cells (cur.toList.take n ++ (List.replicate m (0 : Int)).map (Value.int .u8) ++ cur.toList.drop (n + ((List.replicate m (0 : Int)).map (Value.int .u8)).length)).toArray e (0, 0)) :=
      setRow_heap w g cur _ e (0, 0) h1
    have how : OWN .u8 e (w.setRow g (cur.toList.take n ++ (List.replicate m (0 : Int)).map (Value.int .u8) ++ cur.toList.drop (n + ((List.replicate m (0 : Int)).map (Value.int .u8)).length)).toArray) base (some ⟨g, 0, none⟩) (n + m) c (zs ++ List.replicate m 0) := by
      refine OWN.of_block hnew (by simp; omega) ?_ hroom h5 h6
      simp only [h3]
      rw [List.take_left' (by simp; omega), List.map_append]
    refine ⟨some ⟨g, 0, none⟩, c, _, ?_, ⟨how, ⟨rfl, rfl, rfl, by simp, fun k hk hne => setRow_other w g k _ (fun h => hne (by rw [h]; rfl))⟩, .inl ⟨rfl, rfl⟩, ?_⟩⟩
    · have hzc := zeroCells_one' m
      by_cases hm : m = 0
      · subst hm
        simp [Builtin.append_, run_underlying ht, run_underlying hu, sizeOf, typeInfo, zeroValue, hi, hz, hs, hb, Builtin.lenOf, asInt, asIntOf, h4, IntWalk.i64_in]
        simp [storeCells] at hst
        simp [storeCells]
        exact hst
      · simp [Builtin.append_, run_underlying ht, run_underlying hu, sizeOf, typeInfo, zeroValue, hi, hz, hs, hb, Builtin.lenOf, hroom, asInt, asIntOf, e1, e2, e3, hm]
        rw [show (Value.int IntKind.u8 0).cells = #[Value.int .u8 0] from rfl, hzc]
        simp at hst
        simp [Addr.add_lit]
        rw [hst]
        rfl
    · have := how.cut (m := n) (by omega)
      rwa [List.take_left' hl] at this
  · have hm0 : m ≠ 0 := by omega
    have holds : ∀ j v, (zs.map (Value.int .u8))[j]? = some v → w.cell? ((⟨g, 0, none⟩ : Addr).add j) = some v := World.ownsRow.cells own (g := g) rfl
    have hlo : (zs.map (Value.int .u8)).length = n * i.size := by rw [hs]; simp; omega
    have hfo := run_firstCells_some (P := P) w.drew i.size n ⟨g, 0, none⟩ n c (zs.map (Value.int .u8)) hlo (by simpa using holds)
    have h63' : ¬ (9223372036854775807 < ((n : Int) + (m : Int))) := by omega
    have h48' : ¬ (281474976710656 < Builtin.nextslicecap (n + m) c) := by
      have := growslice_fits (need := n + m) (old := c) (bytes := 1) (by omega) (by omega)
      omega
    rw [hs] at hfo
    refine ⟨some ⟨w.heap.size, 0, none⟩, grownCap w (n + m) c e, w.drew.alloc (.cells ((zs.map (Value.int .u8)).toArray ++ Builtin.zeroCells #[.int .u8 0] m ++ Builtin.zeroCells #[.int .u8 0] (grownCap w (n + m) c e - (n + m))) e), ?_, ⟨?_, ?_, .inr ⟨by omega, rfl⟩, ?_⟩⟩
    · simp [Builtin.append_, run_underlying ht, run_underlying hu, sizeOf, typeInfo, zeroValue, hi, hz, hs, hb, Builtin.lenOf, hroom, hm0, h63', h48', e1, e2, e3, Question.forced, hfo, newRow, grownCap, asInt, asIntOf, Array.append_assoc]
      rfl
    · have hge := grownCap_ge w (n + m) c e
      refine OWN.of_block (heap_alloc_new w.drew _) ?_ ?_ hge (grownCap_le_maxLen w (n + m) c e (by simp only [maxLen]; omega)) hbase
      · rw [zeroCells_one', zeroCells_one']; simp; omega
      · rw [zeroCells_one', zeroCells_one']
        simp only [Array.toList_append, List.map_append]
        rw [List.take_left' (by simp; omega)]
    · exact ⟨rfl, rfl, rfl, by simp, fun k hk _ => (heap_alloc_old w.drew _ hk)⟩
    · exact own.keep fun g' hg' => Below.heap_alloc w.drew _ g' (own.lt g' hg').2

theorem wpList_append_zeros_own {P : Program} (w : World) {ops : Array Oper} {rest : List Oper} {o : Oper} {a : Act} {Q : Exit → Act → World → Prop} (hgd : o.guard = none) (s x : Operand) (t u : TypeId)
    (ho : o.op = .call { callee := .builtin .append, args := #[s, x], argTypes := #[t, u] })
    (e : TypeId) (i : TypeInfo) (ku : IntKind) (ht : P.underlying t = some (.slice e)) (hu : P.underlying u = some (.int ku)) (hi : P.info? e = some i) (hz : i.zero = some (.int .u8 0)) (hs : i.size = 1) (hb : i.bytes = 1)
    (base g n c m : Nat) (q : Int) (hq : q = m) (zs : List Int) (hs' : a.eval s = .slice (some ⟨g, 0, none⟩) n c) (hx : a.eval x = .int ku q) (own : OWN .u8 e w base (some ⟨g, 0, none⟩) n c zs) (hbase : base ≤ w.heap.size) (hn : n + m ≤ 140737488355328)
    (h : ∀ A' c' w', APP .u8 e w w' base (some ⟨g, 0, none⟩) A' n (n + m) c c' zs (zs ++ List.replicate m 0) → wpList P ops Q rest (a.put o.dst (.slice A' (n + m) c')) w') : wpList P ops Q (o :: rest) a w := by
  subst hq
  refine wpList_plain hgd fun K hK => ?_
  obtain ⟨A', c', w', hrun, h2⟩ := run_append_zeros_own (P := P) w t u o.type e i ku ht hu hi hz hs hb base g n c m zs own hbase hn
  unfold Oper.wp execOp
  simp only [ho, resolve, invoke, builtin, Sem.run_bind, Sem.run_pure, Result.andThen_ok, List.map_toArray, List.map_cons, List.map_nil, hs', hx, hrun]
  exact hK _ _ (h A' c' w' h2)
/-- to nil -/
theorem run_append_zeros_nil {P : Program} (w : World) (t u ty e : TypeId) (i : TypeInfo) (ku : IntKind) (ht : P.underlying t = some (.slice e)) (hu : P.underlying u = some (.int ku)) (hi : P.info? e = some i) (hz : i.zero = some (.int .u8 0)) (hs : i.size = 1) (hb : i.bytes = 1)
    (m : Nat) (hm : 0 < m) (hn : m ≤ 140737488355328) :
    ∃ A' c' w', (Builtin.append_ #[t, u] ty #[.slice none 0 0, .int ku (m : Int)]).run P w = .ok (.slice A' (0 + m) c') w' ∧ 0 + m ≤ c' ∧ c' ≤ maxLen ∧ Below w.heap.size w w' := by
  have hn0 : m ≠ 0 := by omega
  have h63' : ¬ (9223372036854775807 < (m : Int)) := by omega
  have h48' : ¬ (281474976710656 < Builtin.nextslicecap m 0) := by
    have := growslice_fits (need := m) (old := 0) (bytes := 1) (by omega) (by omega)
    omega
  have e1 : IntKind.i64.wrap (m : Int) = m := IntWalk.i64_in _ (by omega)
  have e2 : ¬ (281474976710656 < (m : Int)) := by omega
  have e3 : ¬ ((m : Int) < 0) := by omega
  have hge := grownCap_ge w m 0 e
  have hcm := grownCap_le_maxLen w m 0 e (by simp only [maxLen]; omega)
  refine ⟨some ⟨w.heap.size, 0, none⟩, grownCap w m 0 e, w.drew.alloc (.cells (Builtin.zeroCells #[.int .u8 0] m ++ Builtin.zeroCells #[.int .u8 0] (grownCap w m 0 e - m)) e), ?_, by omega, hcm, (Below.refl _ w).drew.alloc (Nat.le_refl _) _⟩
  simp [Builtin.append_, run_underlying ht, run_underlying hu, sizeOf, typeInfo, zeroValue, hi, hz, hs, hb, Builtin.lenOf, Builtin.firstCells, hn0, h63', h48', e1, e2, e3, Question.forced, newRow, grownCap, asInt, asIntOf]
  rfl
theorem run_append_zeros_opt {P : Program} (w : World) (t u ty e : TypeId) (i : TypeInfo) (ku : IntKind) (ht : P.underlying t = some (.slice e)) (hu : P.underlying u = some (.int ku)) (hi : P.info? e = some i) (hz : i.zero = some (.int .u8 0)) (hs : i.size = 1) (hb : i.bytes = 1)
    (A : Option Addr) (n m : Nat) (hm : 0 < m) (xs : List Int) (h1 : RD .u8 w w.heap.size A n xs) (hn : n + m ≤ 140737488355328) :
    ∃ A' c' w', (Builtin.append_ #[t, u] ty #[.slice A n n, .int ku (m : Int)]).run P w = .ok (.slice A' (n + m) c') w' ∧ n + m ≤ c' ∧ c' ≤ maxLen ∧ Below w.heap.size w w' := by
  rcases A with _ | a
  · have h0 : n = 0 := by
      rcases Nat.eq_zero_or_pos n with h | h
      · exact h
      · obtain ⟨b, off, h2, _⟩ := h1.2 h
        cases h2
    subst h0
    exact run_append_zeros_nil w t u ty e i ku ht hu hi hz hs hb m hm (by omega)
  · obtain ⟨A', c', w', h2, _, h3, h4, h5⟩ := run_append_zeros_any (P := P) w t u ty e i ku ht hu hi hz hs hb a n m xs h1 hn
    exact ⟨A', c', w', h2, h3, h4, h5⟩
theorem wpList_append_zeros_opt {P : Program} (w : World) {ops : Array Oper} {rest : List Oper} {o : Oper} {a : Act} {Q : Exit → Act → World → Prop} (hgd : o.guard = none) (s x : Operand) (t u : TypeId)
    (ho : o.op = .call { callee := .builtin .append, args := #[s, x], argTypes := #[t, u] })
    (e : TypeId) (i : TypeInfo) (ku : IntKind) (ht : P.underlying t = some (.slice e)) (hu : P.underlying u = some (.int ku)) (hi : P.info? e = some i) (hz : i.zero = some (.int .u8 0)) (hs : i.size = 1) (hb : i.bytes = 1)
    (A : Option Addr) (n m : Nat) (q : Int) (hq : q = m) (hm : 0 < m) (xs : List Int) (hs' : a.eval s = .slice A n n) (hx : a.eval x = .int ku q) (h1 : RD .u8 w w.heap.size A n xs) (hn : n + m ≤ 140737488355328)
    (h : ∀ A' c' w', n + m ≤ c' → c' ≤ maxLen → Below w.heap.size w w' → wpList P ops Q rest (a.put o.dst (.slice A' (n + m) c')) w') : wpList P ops Q (o :: rest) a w := by
  subst hq
  refine wpList_plain hgd fun K hK => ?_
  obtain ⟨A', c', w', hrun, h3, h4, h5⟩ := run_append_zeros_opt (P := P) w t u o.type e i ku ht hu hi hz hs hb A n m hm xs h1 hn
  unfold Oper.wp execOp
  simp only [ho, resolve, invoke, builtin, Sem.run_bind, Sem.run_pure, Result.andThen_ok, List.map_toArray, List.map_cons, List.map_nil, hs', hx, hrun]
  exact hK _ _ (h A' c' w' h3 h4 h5)
end Go.Proofs.Ytcipgkpcaecjdaa
