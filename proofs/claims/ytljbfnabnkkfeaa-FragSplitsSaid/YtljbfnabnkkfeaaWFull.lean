/- append to a slice that is full, 'b[:len(b):len(b)]': a new array, or the same slice. No program in sight. -/
import Derived.Test.YtljbfnabnkkfeaaBase
import Derived.Test.YtljbfnabnkkfeaaWBase
namespace Go.Proofs.Ytljbfnabnkkfeaa
open Go.RowKit

theorem run_append_full {P : Program} (w : World) (k : IntKind) (t ty e : TypeId) (i : TypeInfo) (bytes : Nat) (ht : P.underlying t = some (.slice e)) (hi : P.info? e = some i) (hz : i.zero = some (.int k 0)) (hsize : i.size = 1) (hby : i.bytes = bytes)
    (A : Option Addr) (n : Nat) (xs : List Int) (B1 : Nat) (h1 : RD k w B1 A n xs) (B : Nat) (A2 : Option Addr) (m c2 : Nat) (ys : List Int) (hr : RD k w B A2 m ys)
    (h63 : n + m ≤ maxLen) (hbytes : (n + m) * bytes ≤ 140737488355328) (hB1 : B1 ≤ w.heap.size) :
    ∃ A' c' w', (Builtin.append_ #[t, t] ty #[.slice A n n, .slice A2 m c2]).run P w = .ok (.slice A' (n + m) c') w' ∧ RD k w' w'.heap.size A' (n + m) (xs ++ ys) ∧ n + m ≤ c' ∧ c' ≤ maxLen ∧ Below w.heap.size w w' := by
  have hl1 := h1.1
  have hl2 := hr.1
  rcases Nat.eq_zero_or_pos m with hm | hm
  · subst hm
    have hy : ys = [] := List.length_eq_zero_iff.1 hr.1
    subst hy
    refine ⟨A, n, w, ?_, by simpa using h1.more hB1, Nat.le_refl _, by omega, Below.refl _ _⟩
    rcases A with _ | a <;> rcases A2 with _ | a2
    · simp [Builtin.append_, run_underlying ht, sizeOf, typeInfo, hi, Builtin.lenOf, Builtin.firstCells]
    · have h0 := run_loadCells_list (P := P) w a2 [] (by simp)
      simp only [List.length_nil] at h0
      simp [Builtin.append_, run_underlying ht, sizeOf, typeInfo, hi, Builtin.lenOf, Builtin.firstCells, h0]
    · simp [Builtin.append_, run_underlying ht, sizeOf, typeInfo, hi, Builtin.lenOf, Builtin.firstCells, storeCells]
    · have h0 := run_loadCells_list (P := P) w a2 [] (by simp)
      simp only [List.length_nil] at h0
      simp [Builtin.append_, run_underlying ht, sizeOf, typeInfo, hi, hsize, Builtin.lenOf, Builtin.firstCells, storeCells, h0]
  · obtain ⟨b2, o2, rfl, hb2, hc2⟩ := hr.2 hm
    have hnews : ∀ j u, (ys.map (Value.int k))[j]? = some u → w.cell? ((⟨b2, o2, none⟩ : Addr).add j) = some u := by
      intro j u hu
      have hj : j < m := by
        have := (List.getElem?_eq_some_iff.1 hu).1
        simp at this; omega
      have hadd : (⟨b2, o2, none⟩ : Addr).add j = ⟨b2, o2 + j, none⟩ := by unfold Addr.add; split <;> simp_all
      rw [hadd, hc2 j hj, ← hu]
      simp [hl2, hj]
    have hln : (ys.map (Value.int k)).length = m * i.size := by rw [hsize]; simp; omega
    have new : ∀ (C : Array Value) (cap : Nat), (∀ j, j < n + m → C[j]? = some (.int k ((xs ++ ys)[j]?.getD 0))) → RD k (w.drew.alloc (.cells C e)) (w.drew.alloc (.cells C e)).heap.size (some ⟨w.heap.size, 0, none⟩) (n + m) (xs ++ ys) := fun C cap hC =>
      ⟨by simp; omega, fun _ => ⟨w.heap.size, 0, rfl, by show w.heap.size < (w.heap.push _).size; simp, fun j hj => by
        rw [Nat.zero_add]
        exact (World.cell?_alloc_new w.drew C e j).trans (hC j hj)⟩⟩
    have hle : ∀ C : Array Value, Below w.heap.size w (w.drew.alloc (.cells C e)) := fun C => (Below.refl _ w).drew.alloc (Nat.le_refl _) _
    rcases A with _ | a
    · have hn : n = 0 := by
        rcases Nat.eq_zero_or_pos n with h | h
        · exact h
        · obtain ⟨b, off, h2, _⟩ := h1.2 h
          cases h2
      subst hn
      have hx : xs = [] := List.length_eq_zero_iff.1 hl1
      subst hx
      have hrn := run_append_nil (P := P) w t ty e i (.int k 0) ht hi hz ⟨b2, o2, none⟩ m c2 (ys.map (Value.int k)) hln hnews hm (by simp only [maxLen] at h63; omega) (by rw [hby]; rw [Nat.zero_add] at hbytes; omega)
      rw [Nat.zero_add]
      rw [Nat.zero_add] at new h63
      refine ⟨_, _, _, hrn, new _ 0 (fun j hj => ?_), grownCap_ge _ _ _ _, grownCap_le_maxLen _ _ _ _ h63, hle _⟩
      rw [Array.getElem?_append_left (by simp; omega)]
      simp [hl2, hj]
    · have holds : ∀ j v, (xs.map (Value.int k))[j]? = some v → w.cell? (a.add j) = some v := by
        intro j u hu
        have hj : j < n := by
          have := (List.getElem?_eq_some_iff.1 hu).1
          simp at this; omega
        obtain ⟨b1, o1, e1, hb1, hc1⟩ := h1.2 (by omega)
        simp at e1
        subst e1
        have hadd : (⟨b1, o1, none⟩ : Addr).add j = ⟨b1, o1 + j, none⟩ := by unfold Addr.add; split <;> simp_all
        rw [hadd, hc1 j hj, ← hu]
        simp [hl1, hj]
      have hlo : (xs.map (Value.int k)).length = n * i.size := by rw [hsize]; simp; omega
      have hrg := run_append_grow (P := P) w t ty e i (.int k 0) ht hi hz a n n (xs.map (Value.int k)) hlo holds ⟨b2, o2, none⟩ m c2 (ys.map (Value.int k)) hln hnews (by omega) (by simp only [maxLen] at h63; omega) (growslice_fits (by omega) (by rw [hby]; exact hbytes))
      refine ⟨_, _, _, hrg, new _ 0 (fun j hj => ?_), grownCap_ge _ _ _ _, grownCap_le_maxLen _ _ _ _ h63, hle _⟩
      rw [Array.getElem?_append_left (by simp; omega)]
      rw [show (xs.map (Value.int k)).toArray ++ (ys.map (Value.int k)).toArray = ((xs ++ ys).map (Value.int k)).toArray by simp, List.getElem?_toArray, List.getElem?_map, List.getElem?_eq_getElem (by simp; omega)]
      rfl

theorem wpList_append_full {P : Program} (w : World) {ops : Array Oper} {rest : List Oper} {o : Oper} {a : Act} {Q : Exit → Act → World → Prop} (hgd : o.guard = none) (s x : Operand) (t : TypeId)
    (ho : o.op = .call { callee := .builtin .append, args := #[s, x], argTypes := #[t, t] })
    (k : IntKind) (e : TypeId) (i : TypeInfo) (bytes : Nat) (ht : P.underlying t = some (.slice e)) (hi : P.info? e = some i) (hz : i.zero = some (.int k 0)) (hsize : i.size = 1) (hby : i.bytes = bytes)
    (A : Option Addr) (n : Nat) (xs : List Int) (hs : a.eval s = .slice A n n) (B1 : Nat) (h1 : RD k w B1 A n xs) (B : Nat) (A2 : Option Addr) (m c2 : Nat) (ys : List Int) (hx : a.eval x = .slice A2 m c2) (hr : RD k w B A2 m ys)
    (h63 : n + m ≤ maxLen) (hbytes : (n + m) * bytes ≤ 140737488355328) (hB1 : B1 ≤ w.heap.size)
    (h : ∀ A' c' w', RD k w' w'.heap.size A' (n + m) (xs ++ ys) → n + m ≤ c' → c' ≤ maxLen → Below w.heap.size w w' → wpList P ops Q rest (a.put o.dst (.slice A' (n + m) c')) w') : wpList P ops Q (o :: rest) a w := by
  refine wpList_plain hgd fun K hK => ?_
  obtain ⟨A', c', w', hrun, h2, h3, h4, h5⟩ := run_append_full (P := P) w k t o.type e i bytes ht hi hz hsize hby A n xs B1 h1 B A2 m c2 ys hr h63 hbytes hB1
  unfold Oper.wp execOp
  simp only [ho, resolve, invoke, builtin, Sem.run_bind, Sem.run_pure, Result.andThen_ok, List.map_toArray, List.map_cons, List.map_nil, hs, hx, hrun]
  exact hK _ _ (h A' c' w' h2 h3 h4 h5)
theorem step_append_full {P : Program} (w : World) {ops : Array Oper} {o : Oper} {a : Act} {K : Act → World → Prop} {Q : Exit → Act → World → Prop} {E : Prop} (hgd : o.guard = none) (s x : Operand) (t : TypeId)
    (ho : o.op = .call { callee := .builtin .append, args := #[s, x], argTypes := #[t, t] })
    (k : IntKind) (e : TypeId) (i : TypeInfo) (bytes : Nat) (ht : P.underlying t = some (.slice e)) (hi : P.info? e = some i) (hz : i.zero = some (.int k 0)) (hsize : i.size = 1) (hby : i.bytes = bytes)
    (A : Option Addr) (n : Nat) (xs : List Int) (hs : a.eval s = .slice A n n) (B1 : Nat) (h1 : RD k w B1 A n xs) (B : Nat) (A2 : Option Addr) (m c2 : Nat) (ys : List Int) (hx : a.eval x = .slice A2 m c2) (hr : RD k w B A2 m ys)
    (h63 : n + m ≤ maxLen) (hbytes : (n + m) * bytes ≤ 140737488355328) (hB1 : B1 ≤ w.heap.size)
    (h : ∀ A' c' w', RD k w' w'.heap.size A' (n + m) (xs ++ ys) → n + m ≤ c' → c' ≤ maxLen → Below w.heap.size w w' → K (a.put o.dst (.slice A' (n + m) c')) w') :
    if Region.wanted o (yielded ops a.tmps) = true then Oper.wp P o a w K Q else E := by
  have hw : Region.wanted o (yielded ops a.tmps) = true := by simp [Region.wanted, hgd]
  rw [if_pos hw]
  obtain ⟨A', c', w', hrun, h2, h3, h4, h5⟩ := run_append_full (P := P) w k t o.type e i bytes ht hi hz hsize hby A n xs B1 h1 B A2 m c2 ys hr h63 hbytes hB1
  unfold Oper.wp execOp
  simp only [ho, resolve, invoke, builtin, Sem.run_bind, Sem.run_pure, Result.andThen_ok, List.map_toArray, List.map_cons, List.map_nil, hs, hx, hrun]
  exact h A' c' w' h2 h3 h4 h5
end Go.Proofs.Ytljbfnabnkkfeaa
