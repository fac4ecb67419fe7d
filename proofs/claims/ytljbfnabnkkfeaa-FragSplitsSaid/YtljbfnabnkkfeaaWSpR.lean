import Derived.Test.YtljbfnabnkkfeaaWRow
import Derived.Test.YtljbfnabnkkfeaaWBags
/- Sep, more: items moved, a row of slices appended to, ApartBytes of a row. -/
namespace Go.Proofs.Ytljbfnabnkkfeaa
open Go.RowKit
set_option linter.unusedVariables false
set_option linter.unusedSimpArgs false

theorem wpList_append_row1 {P : Program} (w : World) {ops : Array Oper} {rest : List Oper} {o : Oper} {a : Act} {Q : Exit → Act → World → Prop} (hgd : o.guard = none) (s x : Operand) (t : TypeId)
    (ho : o.op = .call { callee := .builtin .append, args := #[s, x], argTypes := #[t, t] })
    (base : Nat) (e : TypeId) (i : TypeInfo) (z : Value) (size bytes : Nat) (ht : P.underlying t = some (.slice e)) (hi : P.info? e = some i) (hz : i.zero = some z)
    (hsize : i.size = size) (hby : i.bytes = bytes) (hzs : z.cells.size = size) (hsz : 0 < size)
    (A : Option Addr) (n c : Nat) (xs : List Value) (hs : a.eval s = .slice A n c) (hown : w.ownsRow base e size (.slice A n c) n xs)
    (ad : Addr) (m c2 : Nat) (news : List Value) (hx : a.eval x = .slice (some ad) m c2) (hl : news.length = m * size) (hnews : ∀ j u, news[j]? = some u → w.cell? (ad.add j) = some u) (h1 : ∀ u ∈ news, u.oneCell' = true)
    (h63 : n + m ≤ maxLen) (hbytes : (n + m) * bytes ≤ 140737488355328) (hbase : base ≤ w.heap.size)
    (h : ∀ A' c' w', w'.ownsRow base e size (.slice A' (n + m) c') (n + m) (xs ++ news) → w.grownBy w' (A.map (·.block)) → (A'.map (·.block) = A.map (·.block) ∨ A'.map (·.block) = some w.heap.size) → wpList P ops Q rest (a.put o.dst (.slice A' (n + m) c')) w') :
    wpList P ops Q (o :: rest) a w := by
  have blk : ∀ (A : Option Addr) (n c : Nat), Value.ownBlock (.slice A n c) = A.map (·.block) := fun A n c => by cases A <;> rfl
  refine wpList_plain hgd fun K hK => ?_
  obtain ⟨v', w', hr, h2, h3, h4, h5⟩ := run_append_own_at (P := P) w base t o.type e i z size bytes ht hi hz hsize hby hzs hsz (.slice A n c) n xs hown ad m c2 news hl hnews h1 h63 hbytes hbase
  obtain ⟨A', c', rfl⟩ : ∃ A' c', v' = .slice A' (n + m) c' := by
    rcases h2.2 with ⟨rfl, e0⟩ | ⟨g, cap, cur, rfl, _⟩
    · exact ⟨none, 0, by rw [e0]⟩
    · exact ⟨_, _, rfl⟩
  rw [blk] at h3
  rw [blk, blk] at h5
  unfold Oper.wp execOp
  simp only [ho, resolve, invoke, builtin, Sem.run_bind, Sem.run_pure, Result.andThen_ok, List.map_toArray, List.map_cons, List.map_nil, hs, hx, hr]
  exact hK _ _ (h A' c' w' h2 h3 h5)


theorem SP.mapix {w0 w : World} {L L' : List IT} (H : SP w0 w L) (φ : Nat → Nat) (h : ∀ i x, L'[i]? = some x → L[φ i]? = some x) (hj : ∀ i j, i < L'.length → j < L'.length → φ i = φ j → i = j) : SP w0 w L' := by
  refine ⟨H.bel, fun i x hx => H.all _ x (h i x hx), fun i j x y g hx hy gx gy => ?_⟩
  have e1 := (List.getElem?_eq_some_iff.1 hx).1
  have e2 := (List.getElem?_eq_some_iff.1 hy).1
  exact hj i j e1 e2 (H.sep _ _ x y g (h i x hx) (h j y hy) gx gy)
/-- the last item to the front -/
theorem SP.rot {w0 w : World} {L : List IT} {x : IT} (H : SP w0 w (L ++ [x])) : SP w0 w (x :: L) := by
  refine H.mapix (fun i => if i = 0 then L.length else i - 1) (fun i y hy => ?_) (fun i j hi hj he => ?_)
  · match i, hy with
    | 0, hy => simp at hy ⊢; exact hy
    | i + 1, hy =>
      have h1 : L[i]? = some y := by simpa using hy
      have := (List.getElem?_eq_some_iff.1 h1).1
      simp only [Nat.add_one_ne_zero, if_false, Nat.add_sub_cancel]
      rw [List.getElem?_append_left this]
      exact h1
  · simp at hi hj
    split at he <;> split at he <;> omega
/-- the first item to the end -/
theorem SP.unrot {w0 w : World} {L : List IT} {x : IT} (H : SP w0 w (x :: L)) : SP w0 w (L ++ [x]) := by
  refine H.mapix (fun i => if i < L.length then i + 1 else 0) (fun i y hy => ?_) (fun i j hi hj he => ?_)
  · have hl := (List.getElem?_eq_some_iff.1 hy).1
    simp at hl
    by_cases h : i < L.length
    · rw [List.getElem?_append_left h] at hy
      simp only [h, if_true]
      simpa using hy
    · obtain rfl : i = L.length := by omega
      simp at hy
      simp [hy]
  · simp at hi hj
    split at he <;> split at he <;> omega
theorem SP.tail {w0 w : World} {L : List IT} {x : IT} (H : SP w0 w (x :: L)) : SP w0 w L :=
  H.mapix (fun i => i + 1) (fun i y hy => by simp; exact hy) (fun i j hi hj he => by simp at he; exact he)

theorem SP.lastOwn {w0 w : World} {L : List IT} {k : IntKind} {e : TypeId} {A : Option Addr} {n c : Nat} {zs : List Int} (H : SP w0 w (L ++ [.own k e A n c zs])) : OWN k e w w0.heap.size A n c zs := H.own L.length (by simp)
theorem one_new (w : World) (t : TypeId) (v : Value) (j : Nat) (x : Value) (hx : [v][j]? = some x) : (w.alloc (.cells #[v] t)).cell? ((⟨w.heap.size, 0, none⟩ : Addr).add j) = some x := by
  match j, hx with
  | 0, hx =>
    simp at hx; subst hx
    have hb : BLOCK (w.alloc (.cells #[v] t)) w.heap.size t #[v] := BLOCK.new' w t _ rfl
    have := hb.cell 0
    simp [Addr.add]
  | j + 1, hx => simp at hx

/-- ApartBytes of a row of slices that the call owns -/
theorem sp_apart_row {w wx : World} {L : List IT} (H : SP w wx L) (ix : List Nat) (D : List SD) (hD : SPD L ix D) (hn : ix.Nodup) (hm : D.length ≤ 1000) (B : Option Addr) (N cB : Nat) (hN : N = D.length) (hB : LSR wx B D) :
    Calls Try.prog 59 #[.slice B N cB] wx fun e w' => e = .returned (.bool true) ∧ Below w.heap.size wx w' := by
  subst hN
  have hw := H.size
  refine (apartBytes_any B cB w.heap.size D (spZ L ix) _ hB ?_ ?_ hm ?_ hw).mono ?_
  · intro j s hs
    obtain ⟨i, n, zs, h1, h2, h3, _⟩ := hD j s hs
    have ho := (H.own i h2).cut h3
    have : spZ L ix j s = zs.take s.n := by unfold spZ; rw [h1]; simp [h2]
    rw [this]
    exact ho
  · intro i j g hi hj
    rcases hi with ⟨s, hs, hg⟩ | ⟨s, hs, _⟩
    · rcases hj with ⟨t, ht, hg'⟩ | ⟨t, ht, _⟩
      · obtain ⟨a, _, _, a1, a2, _⟩ := hD i s hs
        obtain ⟨b, _, _, b1, b2, _⟩ := hD j t ht
        have e := H.sep a b _ _ g a2 b2 (by show s.A.map (·.block) = some g; rw [hg]; rfl) (by show t.A.map (·.block) = some g; rw [hg']; rfl)
        subst e
        obtain ⟨l1, e1⟩ := List.getElem?_eq_some_iff.1 a1
        obtain ⟨l2, e2⟩ := List.getElem?_eq_some_iff.1 b1
        have h2 := List.pairwise_iff_getElem.1 hn
        rcases Nat.lt_trichotomy i j with h | h | h
        · exact absurd (e1.trans e2.symm) (h2 i j l1 l2 h)
        · exact h
        · exact absurd (e2.trans e1.symm) (h2 j i l2 l1 h)
      · simp at ht
    · simp at hs
  · intro j s hs
    obtain ⟨_, _, _, _, _, _, h4⟩ := hD j s hs
    exact h4
  · rintro e w' ⟨rfl, hb⟩
    exact ⟨rfl, hb⟩

/-- slices of bytes with what they hold, as items -/
def gIT (g : SD × List Int) : IT := .own .u8 5 g.1.A g.1.n g.1.c g.2
def gV (g : SD × List Int) : Value := g.1.val
/-- behind k items stand the slices G; the item z is another slice, maybe cut -/
theorem spd_row {L : List IT} (G : List (SD × List Int)) (k z : Nat) (hk : ∀ j g, G[j]? = some g → L[k + j]? = some (gIT g)) (hz : z < k) (hG : ∀ g ∈ G, g.1.n ≤ 140737488351232) (s : SD) (n : Nat) (zs : List Int) (hs : L[z]? = some (.own .u8 5 s.A n s.c zs)) (hsn : s.n ≤ n) (hs2 : s.n ≤ 140737488351232) :
    SPD L ((List.range G.length).map (k + ·) ++ [z]) (G.map (·.1) ++ [s]) ∧ ((List.range G.length).map (k + ·) ++ [z]).Nodup := by
  constructor
  · intro j t ht
    have hl := (List.getElem?_eq_some_iff.1 ht).1
    simp at hl
    by_cases h : j < G.length
    · rw [List.getElem?_append_left (by simpa using h), List.getElem?_map] at ht
      obtain ⟨g, hg, rfl⟩ := Option.map_eq_some_iff.1 ht
      refine ⟨k + j, g.1.n, g.2, ?_, hk j g hg, Nat.le_refl _, hG g (List.mem_of_getElem? hg)⟩
      rw [List.getElem?_append_left (by simpa using h), List.getElem?_map, List.getElem?_range h]
      rfl
    · obtain rfl : j = G.length := by omega
      have e1 : (G.map (·.1) ++ [s])[G.length]? = some s := by
        rw [List.getElem?_append_right (by simp)]; simp
      rw [e1] at ht
      cases ht
      refine ⟨z, n, zs, ?_, hs, hsn, hs2⟩
      rw [List.getElem?_append_right (by simp)]; simp
  · refine List.nodup_append.2 ⟨?_, by simp, ?_⟩
    · exact List.Pairwise.map _ (fun a b h => by simpa using h) List.nodup_range
    · intro a ha b hb
      simp at ha hb
      obtain ⟨i, _, rfl⟩ := ha
      omega
end Go.Proofs.Ytljbfnabnkkfeaa
