/- copy into a slice of bytes of the call's own; make with a capacity. No program in sight. -/
import Derived.Test.YtljbfnabnkkfeaaBase
import Derived.Laws.CopyOwn
import Derived.Deep.RegionLaw
import Derived.Laws.MakeOwn
namespace Go.Proofs.Ytljbfnabnkkfeaa
open Go.RowKit

def spliceZ (zs : List Int) (lo : Nat) (ys : List Int) : List Int := zs.take lo ++ (ys ++ zs.drop (lo + ys.length))
theorem spliceZ_len {zs ys : List Int} {lo : Nat} (h : lo + ys.length ≤ zs.length) : (spliceZ zs lo ys).length = zs.length := by simp [spliceZ]; omega

section
variable {k : IntKind} {e : TypeId} {w w' : World} {base n c g lo : Nat} {zs ys : List Int}
theorem OWN.block (h : OWN k e w base (some ⟨g, 0, none⟩) n c zs) : ∃ cur : Array Value, w.heap[g]? = some (.cells cur e (0, 0)) ∧ cur.size = c ∧ cur.toList.take n = zs.map (Value.int k) ∧ n ≤ c ∧ c ≤ maxLen ∧ base ≤ g := by
  rcases h.2 with ⟨h1, _⟩ | ⟨g', cap, cur, h1, h2, h3, h4, h5, h6, h7⟩
  · cases h1
  · simp at h1
    obtain ⟨rfl, rfl⟩ := h1
    exact ⟨cur, h3, by omega, by simpa using h7, h4, h5, h2⟩
theorem OWN.of_block {cur : Array Value} (h : w.heap[g]? = some (.cells cur e (0, 0))) (hs : cur.size = c) (ht : cur.toList.take n = zs.map (Value.int k)) (hn : n ≤ c) (hc : c ≤ maxLen) (hb : base ≤ g) : OWN k e w base (some ⟨g, 0, none⟩) n c zs := by
  have hl : (zs.map (Value.int k)).length = n := by rw [← ht]; simp; omega
  exact ⟨by simpa using hl, .inr ⟨g, c, cur, rfl, hb, h, hn, hc, by omega, by simpa using ht⟩⟩
/-- what a copy leaves -/
theorem OWN.spliced {cur : Array Value} (h : OWN k e w base (some ⟨g, 0, none⟩) n c zs) (hcur : w.heap[g]? = some (.cells cur e (0, 0))) (hfit : lo + ys.length ≤ n) (hw : w'.heap[g]? = some (.cells (splice cur.toList lo (ys.map (Value.int k))).toArray e (0, 0))) :
    OWN k e w' base (some ⟨g, 0, none⟩) n c (spliceZ zs lo ys) := by
  obtain ⟨cur', h1, h2, h3, h4, h5, h6⟩ := h.block
  rw [hcur] at h1
  simp only [Option.some.injEq, Obj.cells.injEq, and_true] at h1
  obtain rfl := h1
  have hcl : cur.toList.length = c := by simpa using h2
  refine OWN.of_block hw (by simp only [List.size_toArray]; rw [length_splice _ _ _ (by simp; omega)]; simpa using h2) ?_ h4 h5 h6
  rw [← List.take_append_drop n cur.toList, h3]
  have hl : (zs.map (Value.int k)).length = n := by rw [← h3]; simp; omega
  have hyl : (ys.map (Value.int k)).length = ys.length := by simp
  have e1 : (zs.map (Value.int k) ++ cur.toList.drop n).take lo = (zs.map (Value.int k)).take lo := List.take_append_of_le_length (by omega)
  have e2 : (zs.map (Value.int k) ++ cur.toList.drop n).drop (lo + (ys.map (Value.int k)).length) = (zs.map (Value.int k)).drop (lo + (ys.map (Value.int k)).length) ++ cur.toList.drop n := List.drop_append_of_le_length (by omega)
  have e3 : splice (zs.map (Value.int k) ++ cur.toList.drop n) lo (ys.map (Value.int k)) = splice (zs.map (Value.int k)) lo (ys.map (Value.int k)) ++ cur.toList.drop n := by
    unfold splice
    rw [e1, e2]
    simp only [List.append_assoc]
  rw [e3]
  show (splice (zs.map (Value.int k)) lo (ys.map (Value.int k)) ++ cur.toList.drop n).take n = _
  rw [List.take_left' (by rw [length_splice _ _ _ (by omega)]; exact hl)]
  unfold splice spliceZ
  simp [List.map_take, List.map_drop]

theorem step_copy_rd {P : Program} {ops : Array Oper} {o : Oper} {a : Act} {K : Act → World → Prop} {Q : Exit → Act → World → Prop} {E : Prop} (hgd : o.guard = none) (d s : Operand) (dT sT : TypeId)
    (ho : o.op = .call { callee := .builtin .copy, args := #[d, s], argTypes := #[dT, sT] }) (hu : P.underlying dT = some (.slice e)) (hsz : (P.info? e).map (·.size) = some 1)
    (own : OWN k e w base (some ⟨g, 0, none⟩) n c zs) (hlo : lo ≤ n) {D C : Nat} (hd : a.eval d = .slice (cutA (some ⟨g, 0, none⟩) c lo) D C) (hD : D = n - lo)
    {A2 : Option Addr} {m c2 B : Nat} (hs : a.eval s = .slice A2 m c2) (hr : RD k w B A2 m ys) (hm : m ≤ n - lo)
    (h : ∀ w', OWN k e w' base (some ⟨g, 0, none⟩) n c (spliceZ zs lo ys) → Below g w w' → K (a.put o.dst (goInt m)) w') :
    if Region.wanted o (yielded ops a.tmps) = true then Oper.wp P o a w K Q else E := by
  subst hD
  obtain ⟨cur, h1, h2, h3, h4, h5, h6⟩ := own.block
  have hyl := hr.1
  have hcl : (ys.map (Value.int k)).length = m := by simpa using hyl
  refine step_copy_splice hgd d s dT sT ho e hu hsz _ _ _ _ _ _ hd hs g lo cur.toList e (by simpa using h1) (ys.map (Value.int k)) (by rw [hcl]; exact (Nat.min_eq_left hm).symm) (fun h0 => ?_) (by rw [hcl]; simp; omega) (ints_oneCell k ys) g w (Below.refl _ _) (Nat.le_refl _) (fun w' H hb => ?_)
  · rw [hcl] at h0
    refine ⟨?_, ?_⟩
    · unfold cutA
      rw [if_neg (by omega)]
      simp [Addr.add]
      omega
    · obtain ⟨b, off, rfl, hb, hc⟩ := hr.2 h0
      refine ⟨_, rfl, fun j v hv => ?_⟩
      have hj : j < m := by have := (List.getElem?_eq_some_iff.1 hv).1; omega
      have hadd : (⟨b, off, none⟩ : Addr).add j = ⟨b, off + j, none⟩ := by unfold Addr.add; split <;> simp_all
      rw [hadd, hc j hj, ← hv]
      simp [hyl, hj]
  · rw [hcl]
    exact h w' (own.spliced h1 (by omega) H.out) hb

theorem run_make_cap {P : Program} (w : World) (t : TypeId) (i : TypeInfo) (ht : P.underlying t = some (.slice e)) (hi : P.info? e = some i) (hz : i.zero = some (.int k 0)) (hs : i.size = 1) (hby : i.bytes ≤ 8) (l q : Int) (n c : Nat) (hl : l = n) (hq : q = c) (hnc : n ≤ c) (hc : c ≤ 35184372088832) :
    ∃ w', (Instr.makeSlice t (.int .i64 l) (.int .i64 q)).run P w = .ok (.slice (some ⟨w.heap.size, 0, none⟩) n c) w' ∧ OWN k e w' w.heap.size (some ⟨w.heap.size, 0, none⟩) n c (List.replicate n 0) ∧ Below w.heap.size w w' ∧ w'.heap.size = w.heap.size + 1 := by
  subst hl hq
  have hb : (i.bytes : Int) * (c : Int) ≤ 281474976710656 := by
    have : i.bytes * c ≤ 8 * c := Nat.mul_le_mul_right c hby
    have h2 : ((i.bytes * c : Nat) : Int) ≤ 281474976710656 := by omega
    rwa [Int.natCast_mul] at h2
  have hr := run_make (P := P) w t e i (.int k 0) ht hi hz .i64 .i64 n c (by omega) (by omega) hb (by omega)
  simp only [Int.toNat_natCast] at hr
  refine ⟨_, hr, ?_, (Below.refl _ _).alloc (Nat.le_refl _) _, by simp⟩
  have e1 : madeCells (Value.cells (.int k 0)) (c * i.size) = (List.replicate c (Value.int k 0)).toArray := by
    rw [hs, Nat.mul_one]
    apply Array.toList_inj.1
    exact toList_madeCells_one _ _
  refine OWN.of_block (heap_alloc_new w _) (by rw [e1]; simp) ?_ hnc (by simp only [maxLen]; omega) (Nat.le_refl _)
  rw [e1]
  simp [List.take_replicate, Nat.min_eq_left hnc]
end
end Go.Proofs.Ytljbfnabnkkfeaa
