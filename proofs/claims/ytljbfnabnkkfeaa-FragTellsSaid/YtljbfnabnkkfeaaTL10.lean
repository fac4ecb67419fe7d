import Derived.WalkKit
import Derived.Lib.Hide
import Derived.Below
import Derived.Laws.OwnMore
import Derived.Deep.AppendLies
import Derived.Deep.Draws
import Derived.Maps.AppendAt
import Derived.OwnWalk
import Derived.RegionTactic
import Derived.Laws.Rows
import Derived.Laws.Tables
import Derived.Deep.RegionHeld3
import Derived.Deep.DrawnRows
import Derived.BigFrame
import Derived.ProofKit
import Derived.OpenShut
import Derived.RangeFuncNested
import Derived.RangeFuncBound
import Derived.RangeFuncCalls
import Derived.RangeFuncLeaves
import Derived.Shelf.Abstract
import Derived.Shelf.RegionOpen
import Derived.OwnWalkIn
import Derived.TacticsInMore
import Derived.LoopNIn
import Derived.LoopIn
import Derived.WalkSpells
import Derived.Deep.QuietTactic
import Derived.BigQuiet
import Derived.Deep.DeepCutAuto
import Derived.Deep.MidRow
import Derived.Laws.BitsLemmas
import Derived.Laws.BitsAllLaws
import Derived.Outline
import Derived.Laws.CopyOwn
import Derived.Deep.RegionLaw
import Derived.Laws.MakeOwn
import Derived.Maps.Keyed
import Derived.DeepKeys3
import Derived.DeepKeys4
import Derived.Laws.ResultCell
import Derived.Laws.EntriesVeiled
import Derived.BigRegion
import Derived.Lib.SliceRun
import Derived.LaidEql
import Derived.Test.YtljbfnabnkkfeaaProg
import Derived.Test.YtljbfnabnkkfeaaTL01
import Derived.Test.YtljbfnabnkkfeaaTL02
import Derived.Test.YtljbfnabnkkfeaaTL03
import Derived.Test.YtljbfnabnkkfeaaTL04
import Derived.Test.YtljbfnabnkkfeaaTL05
import Derived.Test.YtljbfnabnkkfeaaTL06
import Derived.Test.YtljbfnabnkkfeaaTL07
import Derived.Test.YtljbfnabnkkfeaaTL08
import Derived.Test.YtljbfnabnkkfeaaTL09
/- Joined by program: FgU. -/
namespace Go.Proofs.Ytljbfnabnkkfeaa
open Go.RowKit
set_option linter.unusedVariables false
set_option linter.unusedSimpArgs false
def absG (g : GM) : AG := if g.q.dead then deadG g.a else g.a
def absT (T : TM) : AT := ⟨T.limit, T.life, T.now, T.gs.map absG⟩
def DEADS (gs : List GM) : Prop := ∀ g ∈ gs, g.q.dead = true → g.ps = []
theorem absG_live {g : GM} (h : g.q.dead = false) : absG g = g.a := by unfold absG; rw [h]; rfl
theorem absG_dead {g : GM} (h : g.q.dead = true) : absG g = deadG g.a := by unfold absG; rw [h]; rfl
theorem absG_begin (g : GM) : (absG g).begin_ = g.q.begin_ := by unfold absG; split <;> rfl
theorem absG_isdead (g : GM) : (absG g).dead = g.q.dead := by
  unfold absG; split
  · rename_i h; rw [h]; rfl
  · rfl
theorem absG_ids (g : GM) : (absG g).src = g.q.src ∧ (absG g).dst = g.q.dst ∧ (absG g).proto = g.q.proto ∧ (absG g).id = g.q.id := by unfold absG; split <;> exact ⟨rfl, rfl, rfl, rfl⟩
theorem GV_abs {g : GM} (h : g.q.dead = true → g.ps = []) : GV (absG g) = GV g.a := by
  by_cases hd : g.q.dead = true
  · rw [absG_dead hd]
    have e1 : g.a.ps = [] := by unfold GM.a; rw [h hd]; rfl
    have e2 : g.a.dead = true := hd
    unfold GV
    rw [e1, e2]
    rfl
  · rw [absG_live (by simpa using hd)]
theorem GVS_abs : ∀ gs : List GM, DEADS gs → GVS (gs.map absG) = GVS (gs.map GM.a)
  | [], _ => rfl
  | g :: gs, h => by
    have := GVS_abs gs (fun x hx => h x (by simp [hx]))
    unfold GVS at this ⊢
    rw [List.map_cons, List.map_cons, List.flatMap_cons, List.flatMap_cons, this, GV_abs (h g (by simp))]
theorem pass_abs {T T' : TM} {now : Int} (h1 : T'.limit = T.limit) (h2 : T'.life = T.life) (h3 : T'.now = now) (h4 : T'.gs = T.gs.dropWhile (overM T.life now)) : absT T' = passA (absT T) now := by
  unfold absT passA
  simp only
  rw [h1, h2, h3, h4]
  congr 1
  induction T.gs with
  | nil => rfl
  | cons g gs ih =>
    rw [List.map_cons, List.dropWhile_cons, List.dropWhile_cons]
    have e : overG T.life now (absG g) = overM T.life now g := by unfold overG overM; rw [absG_begin]
    rw [e]
    split
    · exact ih
    · rw [List.map_cons]
theorem DEADS.sub {gs gs' : List GM} (h : DEADS gs) (hs : gs'.Sublist gs) : DEADS gs' := fun g hg => h g (hs.subset hg)
theorem key_same (h : HD) (g : GM) : sameK h (absG g) = true ↔ g.key = hkey h := by
  obtain ⟨e1, e2, e3, e4⟩ := absG_ids g
  unfold sameK
  rw [e1, e2, e3, e4]
  unfold GM.key hkey idV
  simp [Value.agg.injEq]
structure FOUND (w0 : World) (T : TM) (h : HD) (R : List IT) (e : Ending) (w' : World) (T2 : TM) (k : Nat) (g : GM) : Prop where
  tb : T2.TB = T.TB
  lim : T2.limit = T.limit
  life : T2.life = T.life
  now : T2.now = T.now
  at_ : T2.gs[k]? = some g
  of_ : ofA (absT T) h = (T2.gs.map absG, k)
  inv : TINV T2
  dead : DEADS T2.gs
  e : e = .returned (pv g.N)
  sp : SP w0 w' (T2.its ++ R)
theorem of_yes {T : TM} {h : HD} {k : Nat} {g : GM} (hi : TINV T) (hk : T.gs[k]? = some g) (hg : g.key = hkey h) : ofA (absT T) h = (T.gs.map absG, k) := by
  have hf : (T.gs.map absG).findIdx? (sameK h) = some k := by
    rw [List.findIdx?_eq_some_iff_getElem]
    obtain ⟨hl, rfl⟩ := List.getElem?_eq_some_iff.1 hk
    refine ⟨by simpa using hl, by rw [List.getElem_map]; exact (key_same h _).2 hg, fun j hj => ?_⟩
    rw [List.getElem_map]
    intro hs
    have h1 := (key_same h _).1 hs
    have := List.pairwise_iff_getElem.1 hi.keys j k (by omega) hl hj
    exact this (h1.trans hg.symm)
  unfold ofA
  show (match (T.gs.map absG).findIdx? (sameK h) with | some k => _ | none => _) = _
  rw [hf]
  rfl
theorem of_no {T : TM} {h : HD} (hno : ∀ g ∈ T.gs, g.key ≠ hkey h) (N : Nat) (oA : Option Addr) (oc : Nat) : ofA (absT T) h = ((addT (evictT T) N h oA oc).gs.map absG, (evictT T).gs.length) := by
  have hf : (T.gs.map absG).findIdx? (sameK h) = none := by
    rw [List.findIdx?_eq_none_iff]
    intro x hx
    obtain ⟨g, hg, rfl⟩ := List.mem_map.1 hx
    have := hno g hg
    cases hs : sameK h (absG g)
    · rfl
    · exact absurd ((key_same h g).1 hs) this
  have e1 : (if (((T.gs.map absG).length : Nat) : Int) = T.limit then (T.gs.map absG).tail else T.gs.map absG) = (evictT T).gs.map absG := by
    rw [evict_gs, List.length_map]
    split
    · exact List.map_tail.symm
    · rfl
  unfold ofA
  show (match (T.gs.map absG).findIdx? (sameK h) with | some k => ((absT T).gs, k) | none => ((if (((T.gs.map absG).length : Nat) : Int) = T.limit then (T.gs.map absG).tail else T.gs.map absG) ++ [newG T.now h], (if (((T.gs.map absG).length : Nat) : Int) = T.limit then (T.gs.map absG).tail else T.gs.map absG).length)) = _
  rw [hf]
  simp only
  rw [e1]
  show _ = (((evictT T).gs ++ [newM N (evictT T).now h]).map absG, _)
  rw [List.map_append, List.length_map, (evict_now T).1]
  rfl
theorem of_found {w0 w' : World} {T : TM} {h : HD} {R : List IT} {e : Ending} (H : OFD w0 T h R e w') (hi : TINV T) (hd : DEADS T.gs) (hw : h.WF) : ∃ T2 k g, FOUND w0 T h R e w' T2 k g := by
  rcases H with ⟨k, g, h1, h2, h3, h4⟩ | ⟨hno, N, oA, oc, h3, h4⟩
  · exact ⟨T, k, g, rfl, rfl, rfl, rfl, h1, of_yes hi h1 h2, hi, hd, h3, h4⟩
  · obtain ⟨hi1, hi2⟩ := evict_inv hi
    obtain ⟨e1, e2, e3, e4, e5, e6⟩ := evict_now T
    have hg : (addT (evictT T) N h oA oc).gs[(evictT T).gs.length]? = some (newM N (evictT T).now h) := by
      show ((evictT T).gs ++ [newM N (evictT T).now h])[(evictT T).gs.length]? = _
      simp
    refine ⟨addT (evictT T) N h oA oc, (evictT T).gs.length, newM N (evictT T).now h, e2, e4, e5, e1, hg, of_no hno N oA oc, ?_, ?_, h3, h4⟩
    · exact addT_inv hi1 hi2 hw (fun g hg => hno g ((evict_sub T).subset hg)) N oA oc
    · intro g hg
      rcases List.mem_append.1 hg with hg | hg
      · exact hd g ((evict_sub T).subset hg)
      · simp at hg; subst hg; exact fun _ => rfl
def TM.put (T : TM) (k : Nat) (g : GM) : TM := { T with gs := T.gs.set k g }
def GM.like (g g' : GM) : Prop := g'.N = g.N ∧ g'.q.src = g.q.src ∧ g'.q.dst = g.q.dst ∧ g'.q.proto = g.q.proto ∧ g'.q.id = g.q.id ∧ g'.q.begin_ = g.q.begin_
theorem GM.like.key {g g' : GM} (h : g.like g') : g'.key = g.key := by obtain ⟨h1, h2, h3, h4, h5, h6⟩ := h; unfold GM.key; rw [h2, h3, h4, h5]
theorem GM.like.trans {a b c : GM} (h : a.like b) (h' : b.like c) : a.like c := by
  obtain ⟨h1, h2, h3, h4, h5, h6⟩ := h
  obtain ⟨g1, g2, g3, g4, g5, g6⟩ := h'
  exact ⟨g1.trans h1, g2.trans h2, g3.trans h3, g4.trans h4, g5.trans h5, g6.trans h6⟩
theorem map_set_same {α β : Type} (f : α → β) : ∀ (l : List α) (k : Nat) (x y : α), l[k]? = some x → f y = f x → (l.set k y).map f = l.map f
  | [], k, x, y, h, e => by simp at h
  | a :: l, 0, x, y, h, e => by simp at h; subst h; simp [e]
  | a :: l, k + 1, x, y, h, e => by
    have := map_set_same f l k x y (by simpa using h) e
    simp [this]
section
variable {T : TM} {k : Nat} {g g' : GM} {w0 w : World} {R : List IT}
theorem TM.put_at (hg : T.gs[k]? = some g) (g' : GM) : (T.put k g').gs[k]? = some g' := by
  show (T.gs.set k g')[k]? = _
  rw [List.getElem?_set_self (List.getElem?_eq_some_iff.1 hg).1]
theorem TM.put_same (hg : T.gs[k]? = some g) : T.put k g = T := by
  unfold TM.put
  have : T.gs.set k g = T.gs := by
    obtain ⟨hl, rfl⟩ := List.getElem?_eq_some_iff.1 hg
    exact List.set_getElem_self hl
  rw [this]
theorem TM.put_hd (hg : T.gs[k]? = some g) (hl : g.like g') : (T.put k g').hd = T.hd := by
  unfold TM.hd TM.put TM.cells pvs
  simp only
  rw [map_set_same (fun g : GM => g.N) T.gs k g g' hg hl.1]
theorem TM.put_its (hg : T.gs[k]? = some g) (hl : g.like g') (R : List IT) : ((T.put k g').its ++ R).Perm (g'.its ++ (T.hd ++ (gits (T.gs.eraseIdx k) ++ R))) := by
  have h1 := gits_split (T.put k g').gs k g' (TM.put_at hg g')
  have h2 : (T.put k g').gs.eraseIdx k = T.gs.eraseIdx k := List.eraseIdx_set_eq
  rw [h2] at h1
  unfold TM.its
  rw [TM.put_hd hg hl, List.append_assoc]
  refine ((h1.append_right R).append_left _).trans ?_
  rw [List.append_assoc, ← List.append_assoc, ← List.append_assoc g'.its]
  exact List.perm_append_comm.append_right _
theorem TM.at_its (hg : T.gs[k]? = some g) (R : List IT) : (T.its ++ R).Perm (g.its ++ (T.hd ++ (gits (T.gs.eraseIdx k) ++ R))) := by
  have := TM.put_its (g' := g) hg ⟨rfl, rfl, rfl, rfl, rfl, rfl⟩ R
  rwa [TM.put_same hg] at this
theorem TINV.put (h : TINV T) (hg : T.gs[k]? = some g) (hl : g.like g') (ho : GOK g'.a) : TINV (T.put k g') := by
  have hlt := (List.getElem?_eq_some_iff.1 hg).1
  have hmem : ∀ x ∈ T.gs.set k g', x = g' ∨ x ∈ T.gs := fun x hx => (List.mem_or_eq_of_mem_set hx).symm
  refine ⟨?_, ?_, h.lim, h.life, h.now, ?_, ?_, ?_, ?_⟩
  · refine Eq.trans h.ent ?_
    refine (map_set_same (fun g : GM => (g.key, pv g.N)) T.gs k g g' hg ?_).symm
    show (g'.key, pv g'.N) = (g.key, pv g.N)
    rw [hl.key, hl.1]
  · have h1 := h.keys
    have e : (T.gs.set k g').map GM.key = T.gs.map GM.key := map_set_same GM.key T.gs k g g' hg hl.key
    have h2 : (T.gs.map GM.key).Pairwise (fun a b => a ≠ b) := List.pairwise_map.2 h1
    rw [← e] at h2
    exact List.pairwise_map.1 h2
  · show (((T.gs.set k g').length : Nat) : Int) ≤ T.limit
    rw [List.length_set]; exact h.len
  · intro x hx
    rcases hmem x hx with rfl | hx
    · exact ho
    · exact h.ok x hx
  · have e : (T.gs.set k g').map (fun g : GM => g.q.begin_) = T.gs.map (fun g : GM => g.q.begin_) := map_set_same _ T.gs k g g' hg hl.2.2.2.2.2
    have h2 : (T.gs.map (fun g : GM => g.q.begin_)).Pairwise (fun a b => a ≤ b) := List.pairwise_map.2 h.srt
    rw [← e] at h2
    exact List.pairwise_map.1 h2
  · intro x hx
    rcases hmem x hx with rfl | hx
    · rw [hl.2.2.2.2.2]; exact h.beg g (List.mem_of_getElem? hg)
    · exact h.beg x hx
theorem DEADS.put (h : DEADS T.gs) (hd : g'.q.dead = true → g'.ps = []) : DEADS (T.put k g').gs := fun x hx => by
  rcases List.mem_or_eq_of_mem_set hx with hx | rfl
  · exact h x hx
  · exact hd
end
theorem addG_some {g g' : AG} {f : FR} (h : addG g f = some g') : diesG g f = false ∧ g' = putG g f ∧ okG g' = true := by
  unfold addG at h
  split at h
  · cases h
  · rename_i h1
    split at h
    · rename_i h2
      simp at h
      subst h
      exact ⟨by simpa using h1, rfl, h2⟩
    · cases h
theorem added_like {g g' : GM} {f : FR} {b : Bool} (hk : GOK g.a) (hf : FOK f) (h : ADDED g.a f b g'.a) (hN : g'.N = g.N) : g.like g' ∧ g'.q.dead = g.q.dead ∧ GOK g'.a := by
  rcases h with ⟨h, _⟩ | ⟨_, _, h1, h2, h3, h4, h5, h6, h7⟩
  · obtain ⟨h1, h2, h3⟩ := addG_some h
    refine ⟨⟨hN, ?_, ?_, ?_, ?_, ?_⟩, ?_, by rw [h2]; exact putG_ok hk hf h1⟩
    · have h5 : g'.a.src = (putG g.a f).src := congrArg AG.src h2; exact h5
    · have h5 : g'.a.dst = (putG g.a f).dst := congrArg AG.dst h2; exact h5
    · have h5 : g'.a.proto = (putG g.a f).proto := congrArg AG.proto h2; exact h5
    · have h5 : g'.a.id = (putG g.a f).id := congrArg AG.id h2; exact h5
    · have h5 : g'.a.begin_ = (putG g.a f).begin_ := congrArg AG.begin_ h2; exact h5
    · have h5 : g'.a.dead = (putG g.a f).dead := congrArg AG.dead h2; exact h5
  · exact ⟨⟨hN, h1, h2, h3, h4, h5⟩, h6, h7⟩
theorem TM.add_its {T : TM} {k : Nat} {g : GM} (hg : T.gs[k]? = some g) (o : IT) (X : List IT) : (T.its ++ (o :: X)).Perm (g.its ++ (o :: (T.hd ++ (gits (T.gs.eraseIdx k) ++ X)))) := by
  refine (TM.at_its hg _).trans (List.Perm.append_left _ ?_)
  rw [← List.append_assoc, ← List.append_assoc]
  exact List.perm_middle
def GM.kill (g : GM) : GM := { g with q := { g.q with dead := true }, pA := none, pn := 0, pc := 0, ps := [] }
theorem kill_like (g : GM) : g.like g.kill := ⟨rfl, rfl, rfl, rfl, rfl, rfl⟩
theorem kill_abs {g g' : GM} (h : g.like g') : absG g'.kill = deadG g.a := by
  obtain ⟨_, h2, h3, h4, h5, h6⟩ := h
  rw [absG_dead rfl]
  unfold deadG GM.kill GM.a
  simp only
  rw [h2, h3, h4, h5, h6]
theorem kill_ok {g : GM} (h : GOK g.a) : GOK g.kill.a := ⟨h.src, h.dst, h.proto, h.id, h.beg, h.tot, h.hd, h.op, GOKP.nil, fun _ p hp => by cases hp⟩
theorem kill_sp {w0 w : World} {g : GM} {R : List IT} (H : SP w0 w (g.its ++ R)) : SP w0 ((w.setCell ⟨g.N, 6, none⟩ (.bool true)).setCell ⟨g.N, 17, none⟩ (.slice none 0 0)) (g.kill.its ++ R) := by
  have h1 := (H.setB 0 rfl 6 (.bool true)).setB 0 rfl 17 (.slice none 0 0)
  have h2 := (h1.pushRow 93 2).rot
  have h3 : SP w0 ((w.setCell ⟨g.N, 6, none⟩ (.bool true)).setCell ⟨g.N, 17, none⟩ (.slice none 0 0)) (.row 93 2 none 0 0 [] :: .blk g.N 89 g.kill.cells :: .own .u8 5 g.oA g.on g.oc g.q.o :: R) :=
    h2.sub (List.Sublist.cons_cons _ (List.Sublist.cons_cons _ (List.Sublist.cons _ (List.Sublist.cons_cons _ (List.sublist_append_right _ _)))))
  exact h3.perm (List.Perm.swap _ _ _)
theorem splice_len {zs : List Int} {p : Nat × List Int} (h : pe p ≤ zs.length) : (splice zs p).length = zs.length := by
  unfold splice pe at *; simp; omega
theorem asm_len : ∀ (ps : List (Nat × List Int)) (zs : List Int), (∀ p ∈ ps, pe p ≤ zs.length) → (ps.foldl splice zs).length = zs.length
  | [], zs, _ => rfl
  | p :: ps, zs, h => by
    rw [List.foldl_cons]
    have h1 := splice_len (h p (by simp))
    rw [asm_len ps _ (fun q hq => by rw [h1]; exact h q (by simp [hq])), h1]
def asmK (N : Nat) (ps : List PM) (j : Nat) : List Int := ((ps.take j).map PM.a).foldl splice (List.replicate N 0)
theorem asmK_zero (N : Nat) (ps : List PM) : asmK N ps 0 = List.replicate N 0 := by simp [asmK]
theorem asmK_len {N : Nat} {ps : List PM} (h : ∀ p ∈ ps, pe p.a ≤ N) (j : Nat) : (asmK N ps j).length = N := by
  unfold asmK
  rw [asm_len _ _ (fun q hq => ?_), List.length_replicate]
  obtain ⟨p, hp, rfl⟩ := List.mem_map.1 hq
  rw [List.length_replicate]
  exact h p (List.mem_of_mem_take hp)
theorem asmK_next {N : Nat} {ps : List PM} {j : Nat} {q : PM} (h : ps[j]? = some q) (hN : ∀ p ∈ ps, pe p.a ≤ N) : asmK N ps (j + 1) = (asmK N ps j).take q.b ++ (q.d ++ (asmK N ps j).drop (q.b + q.d.length)) := by
  have hl := asmK_len hN j
  have hq := hN q (List.mem_of_getElem? h)
  unfold pe PM.a at hq
  simp only at hq
  have e : asmK N ps (j + 1) = splice (asmK N ps j) q.a := by
    unfold asmK
    rw [List.take_add_one, h, List.map_append, List.foldl_append]
    rfl
  rw [e]
  show (asmK N ps j).take q.b ++ (q.d.take ((asmK N ps j).length - q.b) ++ (asmK N ps j).drop (q.b + q.d.length)) = _
  rw [List.take_of_length_le (l := q.d) (by rw [hl]; omega)]
theorem asmK_all (N : Nat) (ps : List PM) : asmK N ps ps.length = asmP N (ps.map PM.a) := by unfold asmK asmP; rw [List.take_length]
theorem map_erase {α β : Type} (f : α → β) : ∀ (l : List α) (k : Nat), (l.map f).eraseIdx k = (l.eraseIdx k).map f
  | [], _ => rfl
  | a :: l, 0 => rfl
  | a :: l, k + 1 => by simp [map_erase f l k]
section
variable {T2 : TM} {k : Nat} {g : GM} {f : FR}
theorem addA_dead (hg : T2.gs[k]? = some g) (hd : g.q.dead = true) : addA (T2.gs.map absG) k f = ((absT T2).gs, [], 71) := by
  unfold addA
  rw [List.getElem?_map, hg]
  simp only [Option.map_some]
  rw [absG_isdead, hd]
  rfl
theorem addA_none (hg : T2.gs[k]? = some g) (hd : g.q.dead = false) (ha : addG g.a f = none) {g' : GM} (h' : absG g' = deadG g.a) : addA (T2.gs.map absG) k f = ((absT (T2.put k g')).gs, [], 71) := by
  unfold addA
  rw [List.getElem?_map, hg]
  simp only [Option.map_some]
  rw [absG_isdead, hd, absG_live hd, ha]
  show ((T2.gs.map absG).set k (deadG g.a), _, _) = ((T2.gs.set k g').map absG, _, _)
  rw [List.map_set, h']
theorem addA_more (hg : T2.gs[k]? = some g) (hd : g.q.dead = false) {g' : GM} (hd' : g'.q.dead = false) (ha : addG g.a f = some g'.a) (hn : doneG g'.a = false) : addA (T2.gs.map absG) k f = ((absT (T2.put k g')).gs, [], 0) := by
  unfold addA
  rw [List.getElem?_map, hg]
  simp only [Option.map_some]
  rw [absG_isdead, hd, absG_live hd, ha]
  simp only [hn]
  show ((T2.gs.map absG).set k g'.a, _, _) = ((T2.gs.set k g').map absG, _, _)
  rw [List.map_set, absG_live hd']
theorem addA_done (hg : T2.gs[k]? = some g) (hd : g.q.dead = false) {g' : AG} (ha : addG g.a f = some g') (hn : doneG g' = true) : addA (T2.gs.map absG) k f = ((absT (T2.cut k)).gs, pktB g'.h g'.o (asmP g'.total.toNat g'.ps), 0) := by
  unfold addA
  rw [List.getElem?_map, hg]
  simp only [Option.map_some]
  rw [absG_isdead, hd, absG_live hd, ha]
  simp only [hn]
  show ((T2.gs.map absG).eraseIdx k, _, _) = ((T2.gs.eraseIdx k).map absG, _, _)
  rw [map_erase]
end
theorem right7 {zs : List Int} (h : faultR zs = 7) : 20 ≤ zs.length ∧ 20 ≤ sizeR zs ∧ sizeR zs ≤ totalR zs ∧ totalR zs ≤ zs.length ∧ Rightly (hdOf zs).off (hdOf zs).mf (sizeR zs - 20) ((totalR zs : Int) - sizeR zs) ∧ wordAt zs 6 < 32768 ∧ sumOf (zs.take (sizeR zs)) = 65535 ∧ byteAt zs 0 / 16 = 4 := by
  unfold faultR at h
  split at h; · omega
  rename_i h0
  split at h; · omega
  rename_i h1
  split at h; · omega
  rename_i h2
  split at h; · omega
  rename_i h3
  split at h; · omega
  rename_i h4
  split at h; · omega
  rename_i h5
  split at h; · omega
  rename_i h6
  have h7 := rightB_iff.1 (by simpa using h6)
  exact ⟨by omega, by omega, by omega, by omega, h7, by omega, by omega, by omega⟩
theorem optsOf_len {zs : List Int} (h : faultR zs = 7) : (optsOf zs).length = sizeR zs - 20 := by
  obtain ⟨h1, h2, h3, h4, _⟩ := right7 h
  unfold optsOf
  rw [List.length_take, List.length_drop]; omega
theorem frOf_len {zs : List Int} (h : faultR zs = 7) : (frOf zs).d.length = totalR zs - sizeR zs := by
  obtain ⟨h1, h2, h3, h4, _⟩ := right7 h
  unfold frOf
  simp only
  rw [List.length_take, List.length_drop]; omega
theorem frOf_ok {zs : List Int} (h : faultR zs = 7) (hz : BD 255 zs) : FOK (frOf zs) := by
  obtain ⟨h1, h2, h3, h4, hr, _⟩ := right7 h
  have hl := frOf_len h
  have ho := optsOf_len h
  have hwf := hdOf_wf hz
  obtain ⟨r1, r2, r3, r4, r5, r6, r7, r8, r9⟩ := hr
  refine ⟨hwf, ⟨r2, r1, r3⟩, ⟨(hz.drop 20).take _, by show (optsOf zs).length ≤ 40; omega⟩, (hz.drop _).take _, ?_, fun hm => ?_⟩
  · unfold FR.e FR.b
    rw [hl]
    show (hdOf zs).off.toNat + _ ≤ 65515
    omega
  · have := r9 hm
    rw [hl]
    omega
end Go.Proofs.Ytljbfnabnkkfeaa
