import Derived.Maps.Keyed
import Derived.DeepKeys3
import Derived.DeepKeys4
import Derived.Test.YtljbfnabnkkfeaaFgG
/- The map of groups: its entries as they stand. -/
namespace Go.Proofs.Ytljbfnabnkkfeaa
open Go.RowKit Go.Maps
set_option linter.unusedVariables false
set_option linter.unusedSimpArgs false

/-- a group's key -/
def idV (s d p i : Int) : Value := .agg #[.int .u32 s, .int .u32 d, .int .u8 p, .int .u16 i]
theorem fidWide : (match Try.prog.underlying 86 with | some (.array _ _) | some (.struct _) => true | _ => false) = true := by kernel_rfl
theorem fidKey : Try.prog.keyTypeAt 2 86 = true := by kernel_rfl
theorem fidTiled : Try.prog.tiled 2 86 = true := by kernel_rfl
set_option maxRecDepth 100000 in
theorem fidLaw : WideMaps.KeyLaw Try.prog 86 := deep_law (m := 2) (by omega) fidKey fidTiled fidWide
theorem fidKeyed : Keyed Try.prog 86 := Keyed.of_law fidLaw
theorem fidType : Try.prog.keyType 86 = true := by kernel_rfl
theorem fidFormed (s d p i : Int) : (idV s d p i).formed Try.prog 86 = true := by kernel_rfl
theorem fidKind : Try.prog.keyType 86 = true ∧ True := ⟨fidType, trivial⟩
theorem fid_lits (n : Nat) (s d p i : Int) (hs : 0 ≤ s ∧ s ≤ 4294967295) (hd : 0 ≤ d ∧ d ≤ 4294967295) (hp : 0 ≤ p ∧ p ≤ 255) (hi : 0 ≤ i ∧ i ≤ 65535) :
    Try.prog.keyLits (n + 1 + 1) 86 [.int .u32 s, .int .u32 d, .int .u8 p, .int .u16 i] = some [.int .u32 s, .int .u32 d, .int .u8 p, .int .u16 i] := by
  have w1 : (Lit.int .u32 s).wf = true := by simp [Lit.wf, IntKind.min, IntKind.max, IntKind.signed, IntKind.bits]; omega
  have w2 : (Lit.int .u32 d).wf = true := by simp [Lit.wf, IntKind.min, IntKind.max, IntKind.signed, IntKind.bits]; omega
  have w3 : (Lit.int .u8 p).wf = true := by simp [Lit.wf, IntKind.min, IntKind.max, IntKind.signed, IntKind.bits]; omega
  have w4 : (Lit.int .u16 i).wf = true := by simp [Lit.wf, IntKind.min, IntKind.max, IntKind.signed, IntKind.bits]; omega
  have c1 : Try.prog.cellsOf 86 = 4 := by kernel_rfl
  have c2 : Try.prog.cellsOf 44 = 1 := by kernel_rfl
  have c3 : Try.prog.cellsOf 5 = 1 := by kernel_rfl
  have c4 : Try.prog.cellsOf 45 = 1 := by kernel_rfl
  unfold Program.keyLits
  rw [Try.underlying86]
  simp only [List.length_cons, List.length_nil, c1]
  simp [c2, c3, c4, Program.keyLits, Try.underlying44, Try.underlying5, Try.underlying45, w1, w2, w3, w4]
theorem fid_some (s d p i : Int) (hs : 0 ≤ s ∧ s ≤ 4294967295) (hd : 0 ≤ d ∧ d ≤ 4294967295) (hp : 0 ≤ p ∧ p ≤ 255) (hi : 0 ≤ i ∧ i ≤ 65535) : ∃ l, keyOf Try.prog 86 (idV s d p i) = some l := by
  obtain ⟨n, hn⟩ : ∃ n, Try.prog.types.size = n + 1 := ⟨Try.prog.types.size - 1, by have : 0 < Try.prog.types.size := of_decide_eq_true (by kernel_rfl); omega⟩
  unfold keyOf
  rw [Try.underlying86]
  simp only [fidType, fidFormed, Bool.and_self, if_true]
  rw [hn, show (idV s d p i).cells.toList = [.int .u32 s, .int .u32 d, .int .u8 p, .int .u16 i] from rfl, fid_lits n s d p i hs hd hp hi]
  exact ⟨_, rfl⟩

def pv (N : Nat) : Value := .pointer (some ⟨N, 0, none⟩)
def GM.key (g : GM) : Value := idV g.q.src g.q.dst g.q.proto g.q.id
/-- the entries stand in the groups' order -/
def ENT (es : Array MapEntry) (gs : List GM) : Prop := es.toList.map (fun e => (e.key, e.val)) = gs.map (fun g => (g.key, pv g.N))
def KOK (s d p i : Int) : Prop := (0 ≤ s ∧ s ≤ 4294967295) ∧ (0 ≤ d ∧ d ≤ 4294967295) ∧ (0 ≤ p ∧ p ≤ 255) ∧ (0 ≤ i ∧ i ≤ 65535)
def GKEYS (gs : List GM) : Prop := (∀ g ∈ gs, KOK g.q.src g.q.dst g.q.proto g.q.id) ∧ gs.Pairwise (fun a b => a.key ≠ b.key)
section
variable {w : World} {r : Nat} {es : Array MapEntry} {clock : Nat} {gs : List GM}
theorem ent_get (hE : ENT es gs) (k : Nat) : (es.toList[k]?).map (fun e => (e.key, e.val)) = (gs[k]?).map (fun g => (g.key, pv g.N)) := by
  have := congrArg (fun l => l[k]?) hE
  simpa [ENT] using this
theorem ent_keys (hE : ENT es gs) (hK : GKEYS gs) : ∀ e ∈ es.toList, ∃ l, keyOf Try.prog 86 e.key = some l := by
  intro e he
  obtain ⟨k, hk, rfl⟩ := List.getElem_of_mem he
  have h1 := ent_get hE k
  rw [List.getElem?_eq_getElem hk] at h1
  cases hg : gs[k]? with
  | none => rw [hg] at h1; simp at h1
  | some g =>
    rw [hg] at h1
    simp at h1
    obtain ⟨a, b, c, d⟩ := hK.1 g (List.mem_of_getElem? hg)
    have h2 : es.toList[k].key = g.key := by simpa using h1.1
    rw [h2]
    exact fid_some _ _ _ _ a b c d
theorem find_yes (hE : ENT es gs) (hK : GKEYS gs) {k : Nat} {g : GM} (hg : gs[k]? = some g) : (Instr.findKey 86 g.key es.toList).run Try.prog w = .ok (some (k, pv g.N)) w := by
  obtain ⟨a, b, c, d⟩ := hK.1 g (List.mem_of_getElem? hg)
  obtain ⟨l, hl⟩ := fid_some _ _ _ _ a b c d
  rcases fidKeyed.find w hl es.toList (ent_keys hE hK) with ⟨_, h2⟩ | ⟨j, e, h1, h2, h3⟩
  · have h1 := ent_get hE k
    rw [hg] at h1
    cases he : es.toList[k]? with
    | none => rw [he] at h1; simp at h1
    | some e =>
      rw [he] at h1; simp at h1
      exact absurd h1.1 (h2 e (List.mem_of_getElem? he))
  · have h4 := ent_get hE j
    rw [h2] at h4
    cases hj : gs[j]? with
    | none => rw [hj] at h4; simp at h4
    | some g2 =>
      rw [hj] at h4; simp at h4
      have hkj : k = j := by
        obtain ⟨hk1, hk2⟩ := List.getElem?_eq_some_iff.1 hg
        obtain ⟨hj1, hj2⟩ := List.getElem?_eq_some_iff.1 hj
        have hp := List.pairwise_iff_getElem.1 hK.2
        have e1 : g.key = g2.key := h3.symm.trans h4.1
        rcases Nat.lt_trichotomy k j with h | h | h
        · exact absurd (by rw [hk2, hj2]; exact e1) (hp k j hk1 hj1 h)
        · exact h
        · exact absurd (by rw [hk2, hj2]; exact e1.symm) (hp j k hj1 hk1 h)
      subst hkj
      rw [hg] at hj
      cases hj
      rw [← h4.2]; exact h1
theorem find_no (hE : ENT es gs) (hK : GKEYS gs) {s d p i : Int} (ho : KOK s d p i) (hno : ∀ g ∈ gs, g.key ≠ idV s d p i) : (Instr.findKey 86 (idV s d p i) es.toList).run Try.prog w = .ok none w := by
  obtain ⟨a, b, c, e⟩ := ho
  obtain ⟨l, hl⟩ := fid_some s d p i a b c e
  rcases fidKeyed.find w hl es.toList (ent_keys hE hK) with ⟨h1, _⟩ | ⟨j, e, h1, h2, h3⟩
  · exact h1
  · have h4 := ent_get hE j
    rw [h2] at h4
    cases hj : gs[j]? with
    | none => rw [hj] at h4; simp at h4
    | some g2 =>
      rw [hj] at h4; simp at h4
      exact absurd (h4.1.symm.trans h3) (hno g2 (List.mem_of_getElem? hj))
theorem check_fid (b : Bool) {s d p i : Int} (ho : KOK s d p i) : (Instr.checkKey b 10000 86 (idV s d p i)).run Try.prog w = .ok () w := by
  obtain ⟨a, b', c, e⟩ := ho
  obtain ⟨l, hl⟩ := fid_some s d p i a b' c e
  exact fidKeyed.check w b hl
theorem look_yes (h : w.heap[r]? = some (.map es clock)) (hE : ENT es gs) (hK : GKEYS gs) {k : Nat} {g : GM} (hg : gs[k]? = some g) :
    (Instr.lookup 77 (.map (some r)) g.key true).run Try.prog w = .ok (.tuple #[pv g.N, .bool true]) w := by
  have hgo : (getObj r).run Try.prog w = .ok (.map es clock) w := by simp [getObj, Sem.run, h]
  have hc := check_fid (w := w) es.isEmpty (hK.1 g (List.mem_of_getElem? hg))
  have hf := find_yes (w := w) hE hK hg
  unfold GM.key at hf ⊢
  simp [Instr.lookup, run_underlying Try.underlying77, hgo, hc, hf]
theorem look_no (h : w.heap[r]? = some (.map es clock)) (hE : ENT es gs) (hK : GKEYS gs) {s d p i : Int} (ho : KOK s d p i) (hno : ∀ g ∈ gs, g.key ≠ idV s d p i) :
    (Instr.lookup 77 (.map (some r)) (idV s d p i) true).run Try.prog w = .ok (.tuple #[.pointer none, .bool false]) w := by
  have hgo : (getObj r).run Try.prog w = .ok (.map es clock) w := by simp [getObj, Sem.run, h]
  have hz : (zeroValue 83).run Try.prog w = .ok (.pointer none) w := by kernel_rfl
  simp [Instr.lookup, run_underlying Try.underlying77, hgo, check_fid (w := w) es.isEmpty ho, find_no (w := w) hE hK ho hno, hz]
theorem put_new (h : w.heap[r]? = some (.map es clock)) (hE : ENT es gs) (hK : GKEYS gs) {s d p i : Int} (ho : KOK s d p i) (hno : ∀ g ∈ gs, g.key ≠ idV s d p i) (v : Value) :
    (Instr.mapUpdate 77 (.map (some r)) (idV s d p i) v).run Try.prog w = .ok () (w.putObj r (.map (es.push { key := idV s d p i, val := v, born := clock }) (clock + 1))) := by
  have hgo : (getObj r).run Try.prog w = .ok (.map es clock) w := by simp [getObj, Sem.run, h]
  have hs : ∀ o, (setObj r o).run Try.prog w = .ok () (w.putObj r o) := fun o => by simp [setObj, Sem.run, h, World.putObj]
  simp [Instr.mapUpdate, run_underlying Try.underlying77, hgo, hs, check_fid (w := w) false ho, find_no (w := w) hE hK ho hno]
theorem del_at (h : w.heap[r]? = some (.map es clock)) (hE : ENT es gs) (hK : GKEYS gs) {k : Nat} {g : GM} (hg : gs[k]? = some g) (ty : TypeId) :
    (Builtin.delete_ #[77, 86] ty #[.map (some r), g.key]).run Try.prog w = .ok (.tuple #[]) (w.putObj r (.map (es.eraseIdxIfInBounds k) clock)) := by
  have hgo : (getObj r).run Try.prog w = .ok (.map es clock) w := by simp [getObj, Sem.run, h]
  have hs : ∀ o, (setObj r o).run Try.prog w = .ok () (w.putObj r o) := fun o => by simp [setObj, Sem.run, h, World.putObj]
  have hc := check_fid (w := w) es.isEmpty (hK.1 g (List.mem_of_getElem? hg))
  have hf := find_yes (w := w) hE hK hg
  unfold GM.key at hf ⊢
  simp [Builtin.delete_, run_underlying Try.underlying77, hgo, hs, hc, hf]
theorem ENT.push (hE : ENT es gs) (g : GM) (b : Nat) : ENT (es.push { key := g.key, val := pv g.N, born := b }) (gs ++ [g]) := by
  unfold ENT at *
  simp [hE]
theorem map_er {α β : Type} (f : α → β) : ∀ (l : List α) (k : Nat), (l.eraseIdx k).map f = (l.map f).eraseIdx k
  | [], _ => rfl
  | a :: l, 0 => rfl
  | a :: l, k + 1 => by simp [map_er f l k]
theorem ENT.erase (hE : ENT es gs) (k : Nat) (hk : k < gs.length) : ENT (es.eraseIdxIfInBounds k) (gs.eraseIdx k) := by
  have hl : es.size = gs.length := by have := congrArg List.length hE; simpa using this
  unfold ENT at *
  have h1 : (es.eraseIdxIfInBounds k).toList = es.toList.eraseIdx k := by
    unfold Array.eraseIdxIfInBounds
    rw [dif_pos (by omega)]
    simp
  rw [h1, map_er, map_er, hE]
end
end Go.Proofs.Ytljbfnabnkkfeaa
