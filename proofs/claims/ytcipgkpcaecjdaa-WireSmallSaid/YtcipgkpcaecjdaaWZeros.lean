/- append(s, make([]byte, m)...) to a slice that is full. No program in sight. -/
import Derived.Test.YtcipgkpcaecjdaaWFull
namespace Go.Proofs.Ytcipgkpcaecjdaa
open Go.RowKit

theorem zeroCells_one' (n : Nat) : Builtin.zeroCells #[Value.int .u8 0] n = ((List.replicate n (0 : Int)).map (Value.int .u8)).toArray := by
  apply Array.ext'
  apply List.ext_getElem
  · simp [Builtin.zeroCells]
  · intro j h1 h2
    simp [Builtin.zeroCells, Nat.mod_one]

theorem run_append_zeros_full {P : Program} (w : World) (t u ty e : TypeId) (i : TypeInfo) (ku : IntKind) (ht : P.underlying t = some (.slice e)) (hu : P.underlying u = some (.int ku)) (hi : P.info? e = some i) (hz : i.zero = some (.int .u8 0)) (hs : i.size = 1) (hb : i.bytes = 1)
    (a : Addr) (n m : Nat) (xs : List Int) (B1 : Nat) (h1 : RD .u8 w B1 (some a) n xs) (h0 : 0 < m) (hn : n + m ≤ 140737488355328) :
    ∃ w', (Builtin.append_ #[t, u] ty #[.slice (some a) n n, .int ku (m : Int)]).run P w = .ok (.slice (some ⟨w.heap.size, 0, none⟩) (n + m) (grownCap w (n + m) n e)) w' ∧ RD .u8 w' w'.heap.size (some ⟨w.heap.size, 0, none⟩) (n + m) (xs ++ List.replicate m 0) ∧ Below w.heap.size w w' := by
  have hl1 := h1.1
  have holds : ∀ j v, (xs.map (Value.int .u8))[j]? = some v → w.cell? (a.add j) = some v := by
    intro j x hx
    have hj : j < n := by
      have := (List.getElem?_eq_some_iff.1 hx).1
      simp at this; omega
    obtain ⟨b1, o1, e1, hb1, hc1⟩ := h1.2 (by omega)
    simp at e1
    subst e1
    have hadd : (⟨b1, o1, none⟩ : Addr).add j = ⟨b1, o1 + j, none⟩ := by unfold Addr.add; split <;> simp_all
    rw [hadd, hc1 j hj, ← hx]
    simp [hl1, hj]
  have hlo : (xs.map (Value.int .u8)).length = n * i.size := by rw [hs]; simp; omega
  have hfo := run_firstCells_some (P := P) w.drew i.size n a n n (xs.map (Value.int .u8)) hlo (by simpa using holds)
  have hn0 : ¬ (n + m ≤ n) := by omega
  have h63' : ¬ (9223372036854775807 < ((n : Int) + (m : Int))) := by omega
  have hm0 : m ≠ 0 := by omega
  have h48' : ¬ (281474976710656 < Builtin.nextslicecap (n + m) n) := by
    have := growslice_fits (need := n + m) (old := n) (bytes := 1) (by omega) (by omega)
    omega
  have e1 : IntKind.i64.wrap (m : Int) = m := IntWalk.i64_in _ (by omega)
  have e2 : ¬ (281474976710656 < (m : Int)) := by omega
  have e3 : ¬ ((m : Int) < 0) := by omega
  rw [hs] at hfo
  refine ⟨w.drew.alloc (.cells ((xs.map (Value.int .u8)).toArray ++ Builtin.zeroCells #[.int .u8 0] m ++ Builtin.zeroCells #[.int .u8 0] (grownCap w (n + m) n e - (n + m))) e), ?_, ?_, (Below.refl _ w).drew.alloc (Nat.le_refl _) _⟩
  · simp [Builtin.append_, run_underlying ht, run_underlying hu, sizeOf, typeInfo, zeroValue, hi, hz, hs, hb, Builtin.lenOf, hn0, hm0, h63', h48', e1, e2, e3, Question.forced, hfo, newRow, grownCap, asInt, asIntOf, Array.append_assoc]
    rfl
  · refine ⟨by simp; omega, fun _ => ⟨w.heap.size, 0, rfl, by show w.heap.size < (w.heap.push _).size; simp, fun j hj => ?_⟩⟩
    rw [Nat.zero_add]
    refine (World.cell?_alloc_new w.drew _ e j).trans ?_
    rw [zeroCells_one', zeroCells_one', Array.getElem?_append_left (by simp; omega)]
    rw [show (xs.map (Value.int .u8)).toArray ++ ((List.replicate m (0 : Int)).map (Value.int .u8)).toArray = ((xs ++ List.replicate m 0).map (Value.int .u8)).toArray by simp, List.getElem?_toArray, List.getElem?_map, List.getElem?_eq_getElem (by simp; omega)]
    rfl
theorem run_append_zeros_any {P : Program} (w : World) (t u ty e : TypeId) (i : TypeInfo) (ku : IntKind) (ht : P.underlying t = some (.slice e)) (hu : P.underlying u = some (.int ku)) (hi : P.info? e = some i) (hz : i.zero = some (.int .u8 0)) (hs : i.size = 1) (hb : i.bytes = 1)
    (a : Addr) (n m : Nat) (xs : List Int) (h1 : RD .u8 w w.heap.size (some a) n xs) (hn : n + m ≤ 140737488355328) :
    ∃ A' c' w', (Builtin.append_ #[t, u] ty #[.slice (some a) n n, .int ku (m : Int)]).run P w = .ok (.slice A' (n + m) c') w' ∧ RD .u8 w' w'.heap.size A' (n + m) (xs ++ List.replicate m 0) ∧ n + m ≤ c' ∧ c' ≤ maxLen ∧ Below w.heap.size w w' := by
  rcases Nat.eq_zero_or_pos m with h0 | h0
  · subst h0
    refine ⟨some a, n, w, ?_, by simpa using h1, Nat.le_refl _, by simp only [maxLen]; omega, Below.refl _ _⟩
    simp [Builtin.append_, run_underlying ht, run_underlying hu, sizeOf, typeInfo, zeroValue, hi, hz, hb, Builtin.lenOf, asInt, asIntOf, storeCells, Builtin.zeroCells, IntWalk.i64_in]
  · obtain ⟨w', h2, h3, h4⟩ := run_append_zeros_full (P := P) w t u ty e i ku ht hu hi hz hs hb a n m xs w.heap.size h1 h0 hn
    exact ⟨_, _, w', h2, h3, grownCap_ge _ _ _ _, grownCap_le_maxLen _ _ _ _ (by simp only [maxLen]; omega), h4⟩

theorem wpList_append_zeros_any {P : Program} (w : World) {ops : Array Oper} {rest : List Oper} {o : Oper} {a : Act} {Q : Exit → Act → World → Prop} (hgd : o.guard = none) (s x : Operand) (t u : TypeId)
    (ho : o.op = .call { callee := .builtin .append, args := #[s, x], argTypes := #[t, u] })
    (e : TypeId) (i : TypeInfo) (ku : IntKind) (ht : P.underlying t = some (.slice e)) (hu : P.underlying u = some (.int ku)) (hi : P.info? e = some i) (hz : i.zero = some (.int .u8 0)) (hs : i.size = 1) (hb : i.bytes = 1)
    (ad : Addr) (n m : Nat) (q : Int) (hq : q = m) (xs : List Int) (hs' : a.eval s = .slice (some ad) n n) (hx : a.eval x = .int ku q) (h1 : RD .u8 w w.heap.size (some ad) n xs) (hn : n + m ≤ 140737488355328)
    (h : ∀ A' c' w', RD .u8 w' w'.heap.size A' (n + m) (xs ++ List.replicate m 0) → n + m ≤ c' → c' ≤ maxLen → Below w.heap.size w w' → wpList P ops Q rest (a.put o.dst (.slice A' (n + m) c')) w') : wpList P ops Q (o :: rest) a w := by
  subst hq
  refine wpList_plain hgd fun K hK => ?_
  obtain ⟨A', c', w', hrun, h2, h3, h4, h5⟩ := run_append_zeros_any (P := P) w t u o.type e i ku ht hu hi hz hs hb ad n m xs h1 hn
  unfold Oper.wp execOp
  simp only [ho, resolve, invoke, builtin, Sem.run_bind, Sem.run_pure, Result.andThen_ok, List.map_toArray, List.map_cons, List.map_nil, hs', hx, hrun]
  exact hK _ _ (h A' c' w' h2 h3 h4 h5)
end Go.Proofs.Ytcipgkpcaecjdaa
